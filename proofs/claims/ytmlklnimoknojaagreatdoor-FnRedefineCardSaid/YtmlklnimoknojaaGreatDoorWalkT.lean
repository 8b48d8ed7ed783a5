/- Walks: the keys of a stroke and its notation (reference, program). -/
import Derived.Deep.DeepCutAuto
import Derived.Test.YtmlklnimoknojaaGreatDoorPlainScr2
import Derived.Test.YtmlklnimoknojaaGreatDoorSpellI
import Derived.Test.YtmlklnimoknojaaGreatDoorCurE1
import Derived.BigRegion
import Derived.RegionTactic
import Derived.Test.YtmlklnimoknojaaGreatDoorColl
import Derived.Deep.RegionHeld
import Derived.Test.YtmlklnimoknojaaGreatDoorDelA
import Derived.Test.YtmlklnimoknojaaGreatDoorValD
import Derived.BigQuiet
namespace Go.Proofs.YtmlklnimoknojaaGreatDoor
namespace P
def keysI (s : Int) (n : Nat) : List Int := List.map (fun k : Nat => (k : Int)) (keysN s n)
theorem keysI_yes {s : Int} {n : Nat} (h : hasK s (n : Int) = true) : keysI s (n + 1) = keysI s n ++ [(n : Int)] := by
  unfold keysI keysN
  rw [List.range_succ, List.filter_append, List.map_append]
  simp [h]
theorem keysI_no {s : Int} {n : Nat} (h : hasK s (n : Int) = false) : keysI s (n + 1) = keysI s n := by
  unfold keysI keysN
  rw [List.range_succ, List.filter_append, List.map_append]
  simp [h]
theorem keysI_len (s : Int) (n : Nat) : (keysI s n).length ≤ n := by
  unfold keysI keysN
  rw [List.length_map]
  exact Nat.le_trans (List.length_filter_le _ _) (by simp)
theorem keysI_get {s : Int} {n j : Nat} (h : j < (keysI s n).length) : ∃ k : Nat, k < n ∧ (keysI s n)[j] = (k : Int) ∧ (keysN s n).drop j = k :: (keysN s n).drop (j + 1) := by
  have h' : j < (keysN s n).length := by unfold keysI at h; rwa [List.length_map] at h
  refine ⟨(keysN s n)[j], keysN_lt (List.getElem_mem h'), ?_, List.drop_eq_getElem_cons h'⟩
  simp only [keysI, List.getElem_map]
theorem lab_take {k : Nat} (h : k < 23) : (labels.drop k).take 1 = [lab k] := by
  have : ∀ j < 23, (labels.drop j).take 1 = [lab j] := by decide
  exact this k h
end P
open Go Go.RowKit
set_option maxHeartbeats 2000000
set_option maxRecDepth 100000
abbrev OwnK (B : Nat) (v : World) (u : Value) (l : List Int) : Prop := v.ownsRow B 3 1 u l.length (ints l)
theorem own_nil (w : World) : OwnK w.heap.size (w.alloc (.cells #[] 3)) (.slice (some ⟨w.heap.size, 0, none⟩) 0 0) [] := by
  have h := World.ownsRow_lit (base := w.heap.size) (e := 3) (size := 1) w #[] 0 (Nat.le_refl _) (Nat.zero_le _) (by simp)
  have h2 : (w.alloc (.cells #[] 3)).ownsRow w.heap.size 3 1 (.slice (some ⟨w.heap.size, 0, none⟩) 0 0) 0 [] := by simpa using h
  exact h2
theorem ownK_form {B : Nat} {v : World} {u : Value} {l : List Int} (h : OwnK B v u l) : ∃ a c, u = .slice a l.length c := by
  rcases h.2 with ⟨rfl, h0⟩ | ⟨g, cap, cur, rfl, _⟩
  · exact ⟨none, 0, by rw [h0]⟩
  · exact ⟨_, _, rfl⟩
theorem own_app {w v v' : World} {u u' : Value} {l : List Int} {x : Int} (h : OwnK w.heap.size v u l) (hb : Below w.heap.size w v) (t : TypeId)
    (hown : v'.ownsRow w.heap.size 3 1 u' (l.length + 1) (ints l ++ [.int .i64 x])) (hgr : (v.alloc (.cells #[.int .i64 x] t)).grownBy v' u.ownBlock) : OwnK w.heap.size v' u' (l ++ [x]) ∧ Below w.heap.size w v' := by
  refine ⟨?_, (hb.alloc hb.size _).grown hgr (by have := hb.size; simp; omega) (fun k hk => (World.ownsRow.lt h k hk).1)⟩
  unfold OwnK
  rw [List.length_append]
  simpa [ints] using hown
def KeysPost (m : Nat) (w : World) (e : Ending) (w' : World) : Prop := ∃ u, e = .returned u ∧ OwnK w.heap.size w' u (P.keysI m 23) ∧ Below w.heap.size w w'
theorem l2Keys (m : Nat) (w : World) (hm : m < 2 ^ 23) :
    Calls Tryz.prog 170 #[.int .i64 (m : Int)] w (KeysPost m w) := by
  obtain ⟨i0, hi, hz0, hz1, hz2⟩ := info_parts info_int
  have HM := Lib.hid hm
  have HOW := Lib.hid (own_nil w)
  have HB0 := Lib.hid ((Below.refl w.heap.size w).alloc (Nat.le_refl _) (.cells #[] 3))
  clear hm
  go_enter Tryz.func170, Tryz.ntmps170
  go_wp2
  go_loopw [3, 4] (fun u i wr => ∃ k : Nat, k ≤ 23 ∧ i = .int .i64 k ∧ OwnK w.heap.size wr u (P.keysI m k) ∧ Below w.heap.size w wr) (fun _ i _ => 23 - (intOf i).toNat)
  case atStart => exact ⟨0, by omega, rfl, HOW.out, HB0.out⟩
  case round =>
    obtain ⟨k, hk, rfl, ho, hb⟩ := hrel
    have HO := Lib.hid ho; have HB := Lib.hid hb
    have hlen := P.keysI_len m k
    have HY := Lib.hid (P.keysI_yes (s := m) (n := k)); have HN := Lib.hid (P.keysI_no (s := m) (n := k))
    obtain ⟨ua, uc, rfl⟩ := ownK_form ho
    clear HOW HB0
    by_cases hlt : k < 23
    · have E1 := and_one (k := k) HM.out
      have i1 : (k : Int) < 23 := by omega
      have i2 : (0 : Int) ≤ (k : Int) := by omega
      have HK := Lib.hid (show P.hasK (m : Int) (k : Int) = m.testBit k from rfl)
      cases hbk : m.testBit k
      · rw [hbk] at E1 HK
        have E2 : bits .and .i64 ((m : Int) / 2 ^ k) 1 = 0 := E1
        have HZ := Lib.hid (HN.out HK.out)
        clear E1 hbk ho hb HY HN
        go_wp2
        go_roundw
        case rel => exact ⟨k + 1, by omega, by go_num, by rw [HZ.out]; exact HO.out, HB.out⟩
        case measure => simp [intOf]; omega
      · rw [hbk] at E1 HK
        have E2 : bits .and .i64 ((m : Int) / 2 ^ k) 1 = 1 := E1
        have HZ := Lib.hid (HY.out HK.out)
        have HOA := Lib.hid (ho.alloc (.cells #[.int .i64 (k : Int)] 3))
        have HSZ := Lib.hid hb.size
        clear E1 hbk ho hb HY HN
        generalize P.keysI m k = l at *
        go_wp2_with (at_builtin; refine wpList_append_own _ rfl _ _ 27 rfl w.heap.size 3 i0 (.int .i64 0) 1 8 Tryz.underlying27 hi hz0 hz1 hz2 rfl (by decide) (.slice ua l.length uc) l.length (ints l) rfl HOA.out ⟨wr.heap.size, 0, none⟩ 1 1 [.int .i64 (k : Int)] rfl rfl ?_ ?_ ?_ ?_ ?_ ?_)
        all_goals first | exact ⟨rfl, rfl⟩ | (intro z hz; simp only [List.mem_cons, List.not_mem_nil, or_false] at hz; subst hz; rfl) | (unfold maxLen; omega) | omega | (have h1 := HSZ.out; simp; omega) | (intro i z hz; rcases i with _ | i; (injection hz with hz; subst hz; rw [add0]; go_simp); cases hz) | skip
        intro u4 w4 hown hgr _
        have H6 := Lib.hid (own_app HO.out HB.out 3 hown hgr)
        clear hown hgr
        go_wp2
        go_roundw
        case rel => exact ⟨k + 1, by omega, by go_num, by rw [HZ.out]; exact H6.out.1, H6.out.2⟩
        case measure => simp [intOf]; omega
    · have hk23 : k = 23 := by omega
      subst hk23
      clear ho hb
      go_wp2
      go_ret
      exact ⟨_, rfl, HO.out, HB.out⟩
theorem keysOf (m : Nat) (w : World) (hm : m < 2 ^ 23) :
    Calls Tryz.prog 179 #[.int .i64 (m : Int)] w (KeysPost m w) := by
  obtain ⟨i0, hi, hz0, hz1, hz2⟩ := info_parts info_int
  have HM := Lib.hid hm
  have HOW := Lib.hid (own_nil w)
  have HB0 := Lib.hid ((Below.refl w.heap.size w).alloc (Nat.le_refl _) (.cells #[] 3))
  clear hm
  go_enter Tryz.func179, Tryz.ntmps179
  go_wp2
  go_loopw [3, 4, 6] (fun u _ i wr => ∃ k : Nat, k ≤ 23 ∧ i = .int .i64 k ∧ OwnK w.heap.size wr u (P.keysI m k) ∧ Below w.heap.size w wr) (fun _ _ i _ => 23 - (intOf i).toNat)
  case atStart => exact ⟨0, by omega, rfl, HOW.out, HB0.out⟩
  case round =>
    obtain ⟨k, hk, rfl, ho, hb⟩ := hrel
    have HO := Lib.hid ho; have HB := Lib.hid hb
    have hlen := P.keysI_len m k
    have HY := Lib.hid (P.keysI_yes (s := m) (n := k)); have HN := Lib.hid (P.keysI_no (s := m) (n := k))
    obtain ⟨ua, uc, rfl⟩ := ownK_form ho
    clear HOW HB0
    by_cases hlt : k < 23
    · have E1 := and_one (k := k) HM.out
      have i1 : (k : Int) < 23 := by omega
      have i2 : (0 : Int) ≤ (k : Int) := by omega
      have HK := Lib.hid (show P.hasK (m : Int) (k : Int) = m.testBit k from rfl)
      cases hbk : m.testBit k
      · rw [hbk] at E1 HK
        have E2 : bits .and .i64 ((m : Int) / 2 ^ k) 1 = 0 := E1
        have HZ := Lib.hid (HN.out HK.out)
        clear E1 hbk ho hb HY HN
        go_wp2
        go_roundw
        case rel => exact ⟨k + 1, by omega, by go_num, by rw [HZ.out]; exact HO.out, HB.out⟩
        case measure => simp [intOf]; omega
      · rw [hbk] at E1 HK
        have E2 : bits .and .i64 ((m : Int) / 2 ^ k) 1 = 1 := E1
        have HZ := Lib.hid (HY.out HK.out)
        have HOA := Lib.hid (ho.alloc (.cells #[.int .i64 (k : Int)] 3))
        have HSZ := Lib.hid hb.size
        clear E1 hbk ho hb HY HN
        generalize P.keysI m k = l at *
        go_wp2_with (at_builtin; refine wpList_append_own _ rfl _ _ 27 rfl w.heap.size 3 i0 (.int .i64 0) 1 8 Tryz.underlying27 hi hz0 hz1 hz2 rfl (by decide) (.slice ua l.length uc) l.length (ints l) rfl HOA.out ⟨wr.heap.size, 0, none⟩ 1 1 [.int .i64 (k : Int)] rfl rfl ?_ ?_ ?_ ?_ ?_ ?_)
        all_goals first | exact ⟨rfl, rfl⟩ | (intro z hz; simp only [List.mem_cons, List.not_mem_nil, or_false] at hz; subst hz; rfl) | (unfold maxLen; omega) | omega | (have h1 := HSZ.out; simp; omega) | (intro i z hz; rcases i with _ | i; (injection hz with hz; subst hz; rw [add0]; go_simp); cases hz) | skip
        intro u4 w4 hown hgr _
        have H6 := Lib.hid (own_app HO.out HB.out 3 hown hgr)
        clear hown hgr
        go_wp2
        go_roundw
        case rel => exact ⟨k + 1, by omega, by go_num, by rw [HZ.out]; exact H6.out.1, H6.out.2⟩
        case measure => simp [intOf]; omega
    · have hk23 : k = 23 := by omega
      subst hk23
      clear ho hb
      go_wp2
      go_ret
      exact ⟨_, rfl, HO.out, HB.out⟩
end Go.Proofs.YtmlklnimoknojaaGreatDoor
namespace Go.Proofs.YtmlklnimoknojaaGreatDoor
namespace P
theorem fmtM_hyph {m h : Bool} {k : Nat} {l : List Nat} (h1 : 12 < k) (h2 : (m || isMid k) = false) (h3 : h = false) : fmtM m h (k :: l) = 45 :: lab k :: fmtM (m || isMid k) true l := by
  conv => lhs; unfold fmtM
  rw [decide_eq_true h1, h2, h3]; rfl
theorem fmtM_other {m h : Bool} {k : Nat} {l : List Nat} (h1 : k ≤ 12 ∨ (m || isMid k) = true ∨ h = true) : fmtM m h (k :: l) = lab k :: fmtM (m || isMid k) h l := by
  conv => lhs; unfold fmtM
  rw [if_neg]
  rintro hc
  simp only [Bool.and_eq_true, decide_eq_true_eq, Bool.not_eq_true'] at hc
  rcases h1 with h1 | h1 | h1
  · omega
  · rw [hc.2.1] at h1; cases h1
  · rw [hc.2.2] at h1; cases h1
theorem fmtL_hyph {k : Nat} {l : List Nat} (h1 : 13 ≤ k) : fmtL false (k :: l) = 45 :: lab k :: fmtL true l := by
  conv => lhs; unfold fmtL
  rw [decide_eq_true h1]; rfl
theorem fmtL_other {m : Bool} {k : Nat} {l : List Nat} (h1 : k ≤ 12 ∨ m = true) : fmtL m (k :: l) = lab k :: fmtL m l := by
  conv => lhs; unfold fmtL
  rw [if_neg]
  rintro hc
  simp only [Bool.and_eq_true, decide_eq_true_eq, Bool.not_eq_true'] at hc
  rcases h1 with h1 | h1
  · omega
  · rw [hc.2] at h1; cases h1
end P
open Go Go.RowKit
set_option maxHeartbeats 2000000
set_option maxRecDepth 100000
theorem own_cell {B : Nat} {v : World} {ad : Option Addr} {n cap : Nat} {l : List Int} (h : OwnK B v (.slice ad n cap) l) (j : Nat) (hj : j < l.length) : ∃ g, ad = some ⟨g, 0, none⟩ ∧ B ≤ g ∧ g < v.heap.size ∧ v.cell? ⟨g, j, none⟩ = some (.int .i64 (l[j]'hj)) := by
  rcases id h.2 with ⟨_, h0⟩ | ⟨g, c, cur, hv, hg, _⟩
  · omega
  · have hob : (Value.slice ad n cap).ownBlock = some g := by rw [hv]; rfl
    injection hv with e1 e2 e3
    have hc := World.ownsRow.cells h hob j (.int .i64 l[j]) (by simp [ints, List.getElem?_eq_getElem hj])
    rw [add0] at hc
    exact ⟨g, e1, hg, (World.ownsRow.lt h g hob).2, hc⟩
theorem l2Format (m : Nat) (w : World) (hm : m < 2 ^ 23) :
    Calls Tryz.prog 110 #[.int .i64 (m : Int)] w fun e w' => e = .returned (.string (S (P.fmt m))) ∧ Below w.heap.size w w' := by
  have HM := Lib.hid hm
  have HF := Lib.hid (P.fmt_eq (m : Int)); have HFL := Lib.hid (P.fmt_len (m : Int))
  clear hm
  go_enter Tryz.func110, Tryz.ntmps110
  go_wp2_with fail
  refine (l2Keys m w HM.out).mono ?_
  rintro e w1 ⟨u, rfl, ho, hb⟩
  have HO := Lib.hid ho; have HB := Lib.hid hb
  obtain ⟨ua, uc, rfl⟩ := ownK_form ho
  have hkl := P.keysI_len (m : Int) 23
  clear ho hb
  go_wp2
  go_loopw [3, 5, 6, 7, 8] (fun o md hy i _ wr => ∃ (j : Nat) (out : Str) (mb hb : Bool), j ≤ (P.keysI (m : Int) 23).length ∧ i = .int .i64 j ∧ o = .string (S out) ∧ md = .bool mb ∧ hy = .bool hb ∧ P.fmt m = out ++ P.fmtM mb hb ((P.keysN (m : Int) 23).drop j) ∧ wr = w1) (fun _ _ _ i _ _ => (P.keysI (m : Int) 23).length - (intOf i).toNat)
  case atStart => exact ⟨0, [], false, false, Nat.zero_le _, rfl, rfl, rfl, rfl, by rw [← HF.out]; rfl, rfl⟩
  case round =>
    obtain ⟨j, out, mb, hy, hj, rfl, rfl, rfl, rfl, hinv, rfl⟩ := hrel
    have HI := Lib.hid hinv
    have hol : out.length ≤ 46 := by have h := HFL.out; rw [hinv, List.length_append] at h; omega
    clear hinv
    by_cases hlt : j < (P.keysI (m : Int) 23).length
    · obtain ⟨g, rfl, _, hgl, c0⟩ := own_cell HO.out j hlt
      obtain ⟨k, hk, he, hd⟩ := P.keysI_get hlt
      rw [he] at c0
      have HD := Lib.hid hd
      have HLT := Lib.hid (P.lab_take hk)
      clear he hd
      generalize (P.keysI (m : Int) 23).length = n at *
      have i1 : (j : Int) < (n : Int) := by omega
      have i2 : (k : Int) ≤ 22 := by omega
      have hdm : decide (8 ≤ (k : Int) ∧ (k : Int) ≤ 12) = P.isMid k := by unfold P.isMid; exact decide_eq_decide.2 (by omega)
      have HDM := Lib.hid hdm
      clear hdm
      obtain ⟨q, hq⟩ : ∃ q, P.isMid k = q := ⟨_, rfl⟩
      have HQ := Lib.hid hq
      have HDQ := Lib.hid (HDM.out.trans hq)
      clear hq
      by_cases h12 : 12 < (k : Int)
      · cases mb
        · cases q
          · cases hy
            · have HZ := Lib.hid (show P.fmt m = ((out ++ [45]) ++ (P.labels.drop k).take 1) ++ P.fmtM (false || P.isMid k) true ((P.keysN (m : Int) 23).drop (j + 1)) by rw [HI.out, HD.out, P.fmtM_hyph (by omega) (by rw [HQ.out]; rfl) rfl, HLT.out]; simp)
              rw [HQ.out] at HZ
              go_wp2_with (go_at_call 161; refine (l1In _ _ _ _).mono ?_; rintro e w' ⟨rfl, rfl⟩; rw [HDQ.out])
              go_roundw
              case rel => exact ⟨j + 1, _, false, true, by omega, by go_num, by first | rfl | (simp; rfl), rfl, rfl, HZ.out, by first | trivial | rfl⟩
              case measure => simp [intOf]; omega
            · have HZ := Lib.hid (show P.fmt m = (out ++ (P.labels.drop k).take 1) ++ P.fmtM (false || P.isMid k) true ((P.keysN (m : Int) 23).drop (j + 1)) by rw [HI.out, HD.out, P.fmtM_other (.inr (.inr rfl)), HLT.out]; simp)
              rw [HQ.out] at HZ
              go_wp2_with (go_at_call 161; refine (l1In _ _ _ _).mono ?_; rintro e w' ⟨rfl, rfl⟩; rw [HDQ.out])
              go_roundw
              case rel => exact ⟨j + 1, _, false, true, by omega, by go_num, by first | rfl | (simp; rfl), rfl, rfl, HZ.out, by first | trivial | rfl⟩
              case measure => simp [intOf]; omega
          · have HZ := Lib.hid (show P.fmt m = (out ++ (P.labels.drop k).take 1) ++ P.fmtM (false || P.isMid k) hy ((P.keysN (m : Int) 23).drop (j + 1)) by rw [HI.out, HD.out, P.fmtM_other (.inr (.inl (by rw [HQ.out]; rfl))), HLT.out]; simp)
            rw [HQ.out] at HZ
            go_wp2_with (go_at_call 161; refine (l1In _ _ _ _).mono ?_; rintro e w' ⟨rfl, rfl⟩; rw [HDQ.out])
            go_roundw
            case rel => exact ⟨j + 1, _, true, hy, by omega, by go_num, by first | rfl | (simp; rfl), rfl, rfl, HZ.out, by first | trivial | rfl⟩
            case measure => simp [intOf]; omega
        · have HZ := Lib.hid (show P.fmt m = (out ++ (P.labels.drop k).take 1) ++ P.fmtM true hy ((P.keysN (m : Int) 23).drop (j + 1)) by rw [HI.out, HD.out, P.fmtM_other (.inr (.inl rfl)), HLT.out]; simp)
          go_wp2_with (go_at_call 161; refine (l1In _ _ _ _).mono ?_; rintro e w' ⟨rfl, rfl⟩; rw [HDQ.out])
          go_roundw
          case rel => exact ⟨j + 1, _, true, hy, by omega, by go_num, by first | rfl | (simp; rfl), rfl, rfl, HZ.out, by first | trivial | rfl⟩
          case measure => simp [intOf]; omega
      · cases mb
        · have HZ := Lib.hid (show P.fmt m = (out ++ (P.labels.drop k).take 1) ++ P.fmtM (false || P.isMid k) hy ((P.keysN (m : Int) 23).drop (j + 1)) by rw [HI.out, HD.out, P.fmtM_other (.inl (by omega)), HLT.out]; simp)
          rw [HQ.out] at HZ
          go_wp2_with (go_at_call 161; refine (l1In _ _ _ _).mono ?_; rintro e w' ⟨rfl, rfl⟩; rw [HDQ.out])
          go_roundw
          case rel => exact ⟨j + 1, _, q, hy, by omega, by go_num, by first | rfl | (simp; rfl), rfl, rfl, HZ.out, by first | trivial | rfl⟩
          case measure => simp [intOf]; omega
        · have HZ := Lib.hid (show P.fmt m = (out ++ (P.labels.drop k).take 1) ++ P.fmtM true hy ((P.keysN (m : Int) 23).drop (j + 1)) by rw [HI.out, HD.out, P.fmtM_other (.inr (.inl rfl)), HLT.out]; simp)
          go_wp2_with (go_at_call 161; refine (l1In _ _ _ _).mono ?_; rintro e w' ⟨rfl, rfl⟩; rw [HDQ.out])
          go_roundw
          case rel => exact ⟨j + 1, _, true, hy, by omega, by go_num, by first | rfl | (simp; rfl), rfl, rfl, HZ.out, by first | trivial | rfl⟩
          case measure => simp [intOf]; omega
    · have HE := Lib.hid (show P.fmt m = out by
        have h := HI.out
        rw [List.drop_of_length_le (by unfold P.keysI at hlt; rw [List.length_map] at hlt; omega)] at h
        rw [h]; simp [P.fmtM])
      go_wp2
      go_ret
      exact ⟨ret_str HE.out.symm, HB.out⟩
theorem impl_formatStroke (m : Nat) (w : World) (hm : P.stroke (m : Int) = true) :
    Calls Tryz.prog 128 #[.int .i64 (m : Int)] w fun e w' => e = .returned (.tuple #[.string (S (P.fmt m)), .bool true]) ∧ Below w.heap.size w w' := by
  have HS := Lib.hid hm
  have hm23 : m < 2 ^ 23 := by unfold P.stroke at hm; simp only [decide_eq_true_eq] at hm; omega
  have HM := Lib.hid hm23
  have HF := Lib.hid (show P.fmt (m : Int) = P.fmtL (P.midK m) (P.keysN (m : Int) 23) from rfl); have HFL := Lib.hid (P.fmt_len (m : Int))
  have E0 : bits .and .i64 ((m : Int) / 256) 31 = ((m / 256 % 32 : Nat) : Int) := by
    have e : ((m : Int) / 256) = ((m / 256 : Nat) : Int) := by simp
    have h := (bits_nat .i64 40 (by decide) wraps_i64 (m / 256) 31 (by omega) (by decide)).1
    rw [e]
    have h' : bits .and .i64 ((m / 256 : Nat) : Int) 31 = ((m / 256 &&& 31 : Nat) : Int) := h
    rw [h', show (31 : Nat) = 2 ^ 5 - 1 from rfl, Nat.and_two_pow_sub_one_eq_mod]
  have E1 : (((m / 256 % 32 : Nat) : Int) != 0) = P.midK m := by
    rw [P.mid_bits, Bool.eq_iff_iff]
    simp
    omega
  generalize hz : ((m / 256 % 32 : Nat) : Int) = z at *
  obtain ⟨mk, hmk⟩ : ∃ q, P.midK (m : Int) = q := ⟨_, rfl⟩
  rw [hmk] at E1 HF
  clear hm hm23 hmk hz
  go_enter Tryz.func128, Tryz.ntmps128
  go_wp2_with fail
  refine (isValidStroke _ _).mono ?_
  rintro e w0 ⟨rfl, rfl⟩
  rw [HS.out]
  go_wp2_with fail
  refine (keysOf m _ HM.out).mono ?_
  rintro e w1 ⟨u, rfl, ho, hb⟩
  have HO := Lib.hid ho; have HB := Lib.hid hb
  obtain ⟨ua, uc, rfl⟩ := ownK_form ho
  have hkl := P.keysI_len (m : Int) 23
  clear ho hb E0
  go_wp2
  go_loopw [4, 5, 7, 18] (fun o md _ i wr => ∃ (j : Nat) (out : Str) (mb : Bool), j ≤ (P.keysI (m : Int) 23).length ∧ i = .int .i64 j ∧ o = .string (S out) ∧ md = .bool mb ∧ P.fmt m = out ++ P.fmtL mb ((P.keysN (m : Int) 23).drop j) ∧ wr = w1) (fun _ _ _ i _ => (P.keysI (m : Int) 23).length - (intOf i).toNat)
  case atStart => exact ⟨0, [], mk, Nat.zero_le _, rfl, rfl, by first | rfl | (rw [E1]), HF.out, rfl⟩
  case round =>
    clear E1
    obtain ⟨j, out, mb, hj, rfl, rfl, rfl, hinv, rfl⟩ := hrel
    have HI := Lib.hid hinv
    have hol : out.length ≤ 46 := by have h := HFL.out; rw [hinv, List.length_append] at h; omega
    clear hinv
    by_cases hlt : j < (P.keysI (m : Int) 23).length
    · obtain ⟨g, rfl, _, hgl, c0⟩ := own_cell HO.out j hlt
      obtain ⟨k, hk, he, hd⟩ := P.keysI_get hlt
      rw [he] at c0
      have HD := Lib.hid hd
      have HLT := Lib.hid (P.lab_take hk)
      clear he hd
      generalize (P.keysI (m : Int) 23).length = n at *
      have i1 : (j : Int) < (n : Int) := by omega
      have i2 : (k : Int) ≤ 22 := by omega
      by_cases h13 : 13 ≤ (k : Int)
      · cases mb
        · have HZ := Lib.hid (show P.fmt m = ((out ++ [45]) ++ (P.labels.drop k).take 1) ++ P.fmtL true ((P.keysN (m : Int) 23).drop (j + 1)) by rw [HI.out, HD.out, P.fmtL_hyph (by omega), HLT.out]; simp)
          go_wp2
          go_roundw
          case rel => exact ⟨j + 1, _, true, by omega, by go_num, by first | rfl | (simp; rfl), rfl, HZ.out, by first | trivial | rfl⟩
          case measure => simp [intOf]; omega
        · have HZ := Lib.hid (show P.fmt m = (out ++ (P.labels.drop k).take 1) ++ P.fmtL true ((P.keysN (m : Int) 23).drop (j + 1)) by rw [HI.out, HD.out, P.fmtL_other (.inr rfl), HLT.out]; simp)
          go_wp2
          go_roundw
          case rel => exact ⟨j + 1, _, true, by omega, by go_num, by first | rfl | (simp; rfl), rfl, HZ.out, by first | trivial | rfl⟩
          case measure => simp [intOf]; omega
      · have HZ := Lib.hid (show P.fmt m = (out ++ (P.labels.drop k).take 1) ++ P.fmtL mb ((P.keysN (m : Int) 23).drop (j + 1)) by rw [HI.out, HD.out, P.fmtL_other (.inl (by omega)), HLT.out]; simp)
        go_wp2
        go_roundw
        case rel => exact ⟨j + 1, _, mb, by omega, by go_num, by first | rfl | (simp; rfl), rfl, HZ.out, by first | trivial | rfl⟩
        case measure => simp [intOf]; omega
    · have HE := Lib.hid (show P.fmt m = out by
        have h := HI.out
        rw [List.drop_of_length_le (by unfold P.keysI at hlt; rw [List.length_map] at hlt; omega)] at h
        rw [h]; simp [P.fmtL])
      have i1 : ¬ (j : Int) < ((P.keysI (m : Int) 23).length : Int) := by omega
      go_wp2
      go_ret2
      exact ⟨by rw [HE.out]; rfl, HB.out⟩
end Go.Proofs.YtmlklnimoknojaaGreatDoor
namespace Go.Proofs.YtmlklnimoknojaaGreatDoor
section
open Go Go.RowKit
set_option maxHeartbeats 8000000
set_option maxRecDepth 100000
end
section
open Go Go.RowKit
set_option maxHeartbeats 8000000
set_option maxRecDepth 100000
def P.seg (D : P.Dic) (lo hi : Nat) : P.Dic := (D.drop lo).take (hi - lo)
end
section
open Go Go.RowKit
set_option maxHeartbeats 2000000
set_option maxRecDepth 100000
end
end Go.Proofs.YtmlklnimoknojaaGreatDoor
namespace Go.Proofs.YtmlklnimoknojaaGreatDoor
section
section
namespace P
end P
end
open Go Go.RowKit
set_option maxHeartbeats 4000000
set_option maxRecDepth 100000
end
section
section
namespace P
end P
end
open Go Go.RowKit
set_option maxHeartbeats 4000000
set_option maxRecDepth 100000
theorem small_dic {l : P.Dic} (h : P.dic l = true) (ht : ∀ e ∈ l, e.2.length ≤ 2 ^ 30) : Small l :=
  ⟨by have := (P.dic_parts h).1; omega, fun e he => by have := (P.entry_parts ((P.dic_parts h).2.1 e he)).2.1; omega, ht⟩
end
end Go.Proofs.YtmlklnimoknojaaGreatDoor
namespace Go.Proofs.YtmlklnimoknojaaGreatDoor
section
namespace P
end P
end
open Go Go.RowKit
set_option maxHeartbeats 4000000
set_option maxRecDepth 100000
theorem isStrokeList (u : Value) (l : List Int) (w : World) (hu : IntR w u l) :
    Calls Tryz.prog 126 #[u] w fun e w' => e = .returned (.bool (P.slist l)) ∧ Below w.heap.size w w' := by
  have HU := Lib.hid hu
  obtain ⟨ad, cap, rfl, hl, _⟩ := hu
  by_cases h : l.length ≤ 60
  · have HF := Lib.hid (show P.slist l = l.all P.stroke by unfold P.slist; rw [decide_eq_true h]; rfl)
    have i1 : (l.length : Int) ≤ 60 := by omega
    clear h
    go_enter Tryz.func126, Tryz.ntmps126
    go_wp2_with fail
    refine (allStrokes _ l _ HU.out).mono ?_
    rintro e w1 ⟨rfl, hb⟩
    have HB := Lib.hid hb; clear hb
    generalize l.all P.stroke = q at *
    go_wp2
    go_ret
    exact ⟨ret_bool HF.out.symm, HB.out⟩
  · have HF := Lib.hid (show P.slist l = false by unfold P.slist; rw [decide_eq_false h]; rfl)
    have i1 : ¬ (l.length : Int) ≤ 60 := by omega
    clear h
    go_enter Tryz.func126, Tryz.ntmps126
    go_wp2
    go_ret
    exact ⟨ret_bool HF.out.symm, Below.refl _ _⟩
end Go.Proofs.YtmlklnimoknojaaGreatDoor
