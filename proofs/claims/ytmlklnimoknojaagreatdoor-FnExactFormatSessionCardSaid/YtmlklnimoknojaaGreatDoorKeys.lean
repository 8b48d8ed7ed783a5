/- Walks: the keys of a stroke and its notation (reference, program). -/
import Derived.Deep.DeepCutAuto
import Derived.Test.YtmlklnimoknojaaGreatDoorPlainScr2
import Derived.Test.YtmlklnimoknojaaGreatDoorFold1
import Derived.Test.YtmlklnimoknojaaGreatDoorCurE1
namespace Go.Proofs.YtmlklnimoknojaaGreatDoor
namespace P
def keysI (s : Int) (n : Nat) : List Int := List.map (fun k : Nat => (k : Int)) (keysN s n)
theorem keysI_yes {s : Int} {n : Nat} (h : hasK s (n : Int) = true) : keysI s (n + 1) = keysI s n ++ [(n : Int)] := by
  unfold keysI keysN
  rw [List.range_succ, List.filter_append, List.map_append]
  simp [h]
theorem keysI_no {s : Int} {n : Nat} (h : hasK s (n : Int) = false) : keysI s (n + 1) = keysI s n := by
  unfold keysI keysN
  rw [List.range_succ, List.filter_append, List.map_append]
  simp [h]
theorem keysI_len (s : Int) (n : Nat) : (keysI s n).length ≤ n := by
  unfold keysI keysN
  rw [List.length_map]
  exact Nat.le_trans (List.length_filter_le _ _) (by simp)
theorem keysI_get {s : Int} {n j : Nat} (h : j < (keysI s n).length) : ∃ k : Nat, k < n ∧ (keysI s n)[j] = (k : Int) ∧ (keysN s n).drop j = k :: (keysN s n).drop (j + 1) := by
  have h' : j < (keysN s n).length := by unfold keysI at h; rwa [List.length_map] at h
  refine ⟨(keysN s n)[j], keysN_lt (List.getElem_mem h'), ?_, List.drop_eq_getElem_cons h'⟩
  simp only [keysI, List.getElem_map]
theorem lab_take {k : Nat} (h : k < 23) : (labels.drop k).take 1 = [lab k] := by
  have : ∀ j < 23, (labels.drop j).take 1 = [lab j] := by decide
  exact this k h
end P
open Go Go.RowKit
set_option maxHeartbeats 2000000
set_option maxRecDepth 100000
abbrev OwnK (B : Nat) (v : World) (u : Value) (l : List Int) : Prop := v.ownsRow B 3 1 u l.length (ints l)
theorem own_nil (w : World) : OwnK w.heap.size (w.alloc (.cells #[] 3)) (.slice (some ⟨w.heap.size, 0, none⟩) 0 0) [] := by
  have h := World.ownsRow_lit (base := w.heap.size) (e := 3) (size := 1) w #[] 0 (Nat.le_refl _) (Nat.zero_le _) (by simp)
  have h2 : (w.alloc (.cells #[] 3)).ownsRow w.heap.size 3 1 (.slice (some ⟨w.heap.size, 0, none⟩) 0 0) 0 [] := by simpa using h
  exact h2
theorem ownK_form {B : Nat} {v : World} {u : Value} {l : List Int} (h : OwnK B v u l) : ∃ a c, u = .slice a l.length c := by
  rcases h.2 with ⟨rfl, h0⟩ | ⟨g, cap, cur, rfl, _⟩
  · exact ⟨none, 0, by rw [h0]⟩
  · exact ⟨_, _, rfl⟩
theorem own_app {w v v' : World} {u u' : Value} {l : List Int} {x : Int} (h : OwnK w.heap.size v u l) (hb : Below w.heap.size w v) (t : TypeId)
    (hown : v'.ownsRow w.heap.size 3 1 u' (l.length + 1) (ints l ++ [.int .i64 x])) (hgr : (v.alloc (.cells #[.int .i64 x] t)).grownBy v' u.ownBlock) : OwnK w.heap.size v' u' (l ++ [x]) ∧ Below w.heap.size w v' := by
  refine ⟨?_, (hb.alloc hb.size _).grown hgr (by have := hb.size; simp; omega) (fun k hk => (World.ownsRow.lt h k hk).1)⟩
  unfold OwnK
  rw [List.length_append]
  simpa [ints] using hown
def KeysPost (m : Nat) (w : World) (e : Ending) (w' : World) : Prop := ∃ u, e = .returned u ∧ OwnK w.heap.size w' u (P.keysI m 23) ∧ Below w.heap.size w w'
theorem l2Keys (m : Nat) (w : World) (hm : m < 2 ^ 23) :
    Calls Tryz.prog 170 #[.int .i64 (m : Int)] w (KeysPost m w) := by
  obtain ⟨i0, hi, hz0, hz1, hz2⟩ := info_parts info_int
  have HM := Lib.hid hm
  have HOW := Lib.hid (own_nil w)
  have HB0 := Lib.hid ((Below.refl w.heap.size w).alloc (Nat.le_refl _) (.cells #[] 3))
  clear hm
  go_enter Tryz.func170, Tryz.ntmps170
  go_wp2
  go_loopw [3, 4] (fun u i wr => ∃ k : Nat, k ≤ 23 ∧ i = .int .i64 k ∧ OwnK w.heap.size wr u (P.keysI m k) ∧ Below w.heap.size w wr) (fun _ i _ => 23 - (intOf i).toNat)
  case atStart => exact ⟨0, by omega, rfl, HOW.out, HB0.out⟩
  case round =>
    obtain ⟨k, hk, rfl, ho, hb⟩ := hrel
    have HO := Lib.hid ho; have HB := Lib.hid hb
    have hlen := P.keysI_len m k
    have HY := Lib.hid (P.keysI_yes (s := m) (n := k)); have HN := Lib.hid (P.keysI_no (s := m) (n := k))
    obtain ⟨ua, uc, rfl⟩ := ownK_form ho
    clear HOW HB0
    by_cases hlt : k < 23
    · have E1 := and_one (k := k) HM.out
      have i1 : (k : Int) < 23 := by omega
      have i2 : (0 : Int) ≤ (k : Int) := by omega
      have HK := Lib.hid (show P.hasK (m : Int) (k : Int) = m.testBit k from rfl)
      cases hbk : m.testBit k
      · rw [hbk] at E1 HK
        have E2 : bits .and .i64 ((m : Int) / 2 ^ k) 1 = 0 := E1
        have HZ := Lib.hid (HN.out HK.out)
        clear E1 hbk ho hb HY HN
        go_wp2
        go_roundw
        case rel => exact ⟨k + 1, by omega, by go_num, by rw [HZ.out]; exact HO.out, HB.out⟩
        case measure => simp [intOf]; omega
      · rw [hbk] at E1 HK
        have E2 : bits .and .i64 ((m : Int) / 2 ^ k) 1 = 1 := E1
        have HZ := Lib.hid (HY.out HK.out)
        have HOA := Lib.hid (ho.alloc (.cells #[.int .i64 (k : Int)] 3))
        have HSZ := Lib.hid hb.size
        clear E1 hbk ho hb HY HN
        generalize P.keysI m k = l at *
        go_wp2_with (at_builtin; refine wpList_append_own _ rfl _ _ 27 rfl w.heap.size 3 i0 (.int .i64 0) 1 8 Tryz.underlying27 hi hz0 hz1 hz2 rfl (by decide) (.slice ua l.length uc) l.length (ints l) rfl HOA.out ⟨wr.heap.size, 0, none⟩ 1 1 [.int .i64 (k : Int)] rfl rfl ?_ ?_ ?_ ?_ ?_ ?_)
        all_goals first | exact ⟨rfl, rfl⟩ | (intro z hz; simp only [List.mem_cons, List.not_mem_nil, or_false] at hz; subst hz; rfl) | (unfold maxLen; omega) | omega | (have h1 := HSZ.out; simp; omega) | (intro i z hz; rcases i with _ | i; (injection hz with hz; subst hz; rw [add0]; go_simp); cases hz) | skip
        intro u4 w4 hown hgr _
        have H6 := Lib.hid (own_app HO.out HB.out 3 hown hgr)
        clear hown hgr
        go_wp2
        go_roundw
        case rel => exact ⟨k + 1, by omega, by go_num, by rw [HZ.out]; exact H6.out.1, H6.out.2⟩
        case measure => simp [intOf]; omega
    · have hk23 : k = 23 := by omega
      subst hk23
      clear ho hb
      go_wp2
      go_ret
      exact ⟨_, rfl, HO.out, HB.out⟩
theorem keysOf (m : Nat) (w : World) (hm : m < 2 ^ 23) :
    Calls Tryz.prog 179 #[.int .i64 (m : Int)] w (KeysPost m w) := by
  obtain ⟨i0, hi, hz0, hz1, hz2⟩ := info_parts info_int
  have HM := Lib.hid hm
  have HOW := Lib.hid (own_nil w)
  have HB0 := Lib.hid ((Below.refl w.heap.size w).alloc (Nat.le_refl _) (.cells #[] 3))
  clear hm
  go_enter Tryz.func179, Tryz.ntmps179
  go_wp2
  go_loopw [3, 4, 6] (fun u _ i wr => ∃ k : Nat, k ≤ 23 ∧ i = .int .i64 k ∧ OwnK w.heap.size wr u (P.keysI m k) ∧ Below w.heap.size w wr) (fun _ _ i _ => 23 - (intOf i).toNat)
  case atStart => exact ⟨0, by omega, rfl, HOW.out, HB0.out⟩
  case round =>
    obtain ⟨k, hk, rfl, ho, hb⟩ := hrel
    have HO := Lib.hid ho; have HB := Lib.hid hb
    have hlen := P.keysI_len m k
    have HY := Lib.hid (P.keysI_yes (s := m) (n := k)); have HN := Lib.hid (P.keysI_no (s := m) (n := k))
    obtain ⟨ua, uc, rfl⟩ := ownK_form ho
    clear HOW HB0
    by_cases hlt : k < 23
    · have E1 := and_one (k := k) HM.out
      have i1 : (k : Int) < 23 := by omega
      have i2 : (0 : Int) ≤ (k : Int) := by omega
      have HK := Lib.hid (show P.hasK (m : Int) (k : Int) = m.testBit k from rfl)
      cases hbk : m.testBit k
      · rw [hbk] at E1 HK
        have E2 : bits .and .i64 ((m : Int) / 2 ^ k) 1 = 0 := E1
        have HZ := Lib.hid (HN.out HK.out)
        clear E1 hbk ho hb HY HN
        go_wp2
        go_roundw
        case rel => exact ⟨k + 1, by omega, by go_num, by rw [HZ.out]; exact HO.out, HB.out⟩
        case measure => simp [intOf]; omega
      · rw [hbk] at E1 HK
        have E2 : bits .and .i64 ((m : Int) / 2 ^ k) 1 = 1 := E1
        have HZ := Lib.hid (HY.out HK.out)
        have HOA := Lib.hid (ho.alloc (.cells #[.int .i64 (k : Int)] 3))
        have HSZ := Lib.hid hb.size
        clear E1 hbk ho hb HY HN
        generalize P.keysI m k = l at *
        go_wp2_with (at_builtin; refine wpList_append_own _ rfl _ _ 27 rfl w.heap.size 3 i0 (.int .i64 0) 1 8 Tryz.underlying27 hi hz0 hz1 hz2 rfl (by decide) (.slice ua l.length uc) l.length (ints l) rfl HOA.out ⟨wr.heap.size, 0, none⟩ 1 1 [.int .i64 (k : Int)] rfl rfl ?_ ?_ ?_ ?_ ?_ ?_)
        all_goals first | exact ⟨rfl, rfl⟩ | (intro z hz; simp only [List.mem_cons, List.not_mem_nil, or_false] at hz; subst hz; rfl) | (unfold maxLen; omega) | omega | (have h1 := HSZ.out; simp; omega) | (intro i z hz; rcases i with _ | i; (injection hz with hz; subst hz; rw [add0]; go_simp); cases hz) | skip
        intro u4 w4 hown hgr _
        have H6 := Lib.hid (own_app HO.out HB.out 3 hown hgr)
        clear hown hgr
        go_wp2
        go_roundw
        case rel => exact ⟨k + 1, by omega, by go_num, by rw [HZ.out]; exact H6.out.1, H6.out.2⟩
        case measure => simp [intOf]; omega
    · have hk23 : k = 23 := by omega
      subst hk23
      clear ho hb
      go_wp2
      go_ret
      exact ⟨_, rfl, HO.out, HB.out⟩
end Go.Proofs.YtmlklnimoknojaaGreatDoor
