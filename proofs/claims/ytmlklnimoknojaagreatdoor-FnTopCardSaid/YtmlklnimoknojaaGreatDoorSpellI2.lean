/- Walks: an outline looked up in a dictionary and in a stack of layers (reference, program). -/
import Derived.Deep.DeepCutAuto
import Derived.Test.YtmlklnimoknojaaGreatDoorPlainFmt
import Derived.Test.YtmlklnimoknojaaGreatDoorLawD
import Derived.Test.YtmlklnimoknojaaGreatDoorLayB
import Derived.Test.YtmlklnimoknojaaGreatDoorMemE
import Derived.Test.YtmlklnimoknojaaGreatDoorPut2
import Derived.Deep.RegionHeld
import Derived.BigQuiet
import Derived.IntWalk
import Derived.Laws.BitsLemmas
import Derived.Test.YtmlklnimoknojaaGreatDoorSpellS
import Derived.Test.YtmlklnimoknojaaGreatDoorCurE1
import Derived.Test.YtmlklnimoknojaaGreatDoorSpellS2
namespace Go.Proofs.YtmlklnimoknojaaGreatDoor
namespace P
end P
open Go Go.RowKit
set_option maxHeartbeats 2000000
set_option maxRecDepth 100000
def FindPost (o : List Int) (l : P.Dic) (w : World) (e : Ending) (w' : World) : Prop := e = .returned (.tuple #[.string (S (P.textAt o l)), .bool (P.hasE o l)]) ∧ Below w.heap.size w w'
theorem l6Find (dv ov : Value) (l : P.Dic) (o : List Int) (w : World) (hu : EntR w dv l) (ho : IntR w ov o) :
    Calls Tryz.prog 151 #[.agg #[dv], ov] w (FindPost o l w) := by
  have hb0 := (Below.refl w.heap.size w).alloc (Nat.le_refl _) (.cells #[dv] 26)
  have HU := Lib.hid (hu.below hb0); have HO := Lib.hid (ho.below hb0); have HB0 := Lib.hid hb0
  have HBX := Lib.hid (Box1.new dv 26 w)
  have hl0 := P.place_lo o l; have hl1 := P.place_lt (o := o) (l := l)
  obtain ⟨ad, cap, rfl, hll, _⟩ := hu
  obtain ⟨od, oc, rfl, _, _⟩ := ho
  clear hb0
  go_enter Tryz.func151, Tryz.ntmps151
  go_wp2_with fail
  refine (l6At _ _ l o _ HU.out HO.out).mono ?_
  rintro e w1 ⟨rfl, hb⟩
  have HU1 := Lib.hid (HU.out.below hb)
  obtain ⟨b0, _⟩ := HBX.out.below hb
  have HB1 := Lib.hid (HB0.out.trans (hb.mono (by simp)))
  clear hb HU HO HB0 HBX
  by_cases hneg : P.place o l < 0
  · have HN := Lib.hid (show P.hasE o l = false by unfold P.hasE; exact decide_eq_false (by omega))
    go_wp2
    refine bodyPost_ret (v := .tuple #[.string (S []), .bool false]) (by simp [results, Tryz.results151, go_sem]) rfl ⟨by rw [P.textAt_not HN.out, HN.out], HB1.out⟩
  · have HN := Lib.hid (show P.hasE o l = true by unfold P.hasE; exact decide_eq_true (by omega))
    obtain ⟨i, hi⟩ := Int.eq_ofNat_of_zero_le (show 0 ≤ P.place o l by omega)
    have hil : i < l.length := by omega
    obtain ⟨g, p, rfl, hgl, x, c0, c1, hx⟩ := HU1.out.at i hil
    rw [P.textAt_place hi hil] at c1
    rw [hi] at hneg ⊢
    have i1 : (i : Int) < (l.length : Int) := by omega
    clear hl0 hl1 hi c0 hx
    go_wp2
    refine bodyPost_ret (v := .tuple #[.string (S (P.textAt o l)), .bool true]) (by simp [results, Tryz.results151, go_sem]) rfl ⟨by rw [HN.out], HB1.out⟩
theorem dicLookup (dv ov : Value) (l : P.Dic) (o : List Int) (w : World) (hu : EntR w dv l) (ho : IntR w ov o) :
    Calls Tryz.prog 74 #[.agg #[dv], ov] w (FindPost o l w) := by
  have hb0 := (Below.refl w.heap.size w).alloc (Nat.le_refl _) (.cells #[dv] 26)
  have HU := Lib.hid (hu.below hb0); have HO := Lib.hid (ho.below hb0); have HB0 := Lib.hid hb0
  have HBX := Lib.hid (Box1.new dv 26 w)
  have hl0 := P.place_lo o l; have hl1 := P.place_lt (o := o) (l := l)
  obtain ⟨ad, cap, rfl, hll, _⟩ := hu
  obtain ⟨od, oc, rfl, _, _⟩ := ho
  clear hb0
  go_enter Tryz.func74, Tryz.ntmps74
  go_wp2_with fail
  refine (dicFind _ _ l o _ HU.out HO.out).mono ?_
  rintro e w1 ⟨rfl, hb⟩
  have HU1 := Lib.hid (HU.out.below hb)
  obtain ⟨b0, _⟩ := HBX.out.below hb
  have HB1 := Lib.hid (HB0.out.trans (hb.mono (by simp)))
  clear hb HU HO HB0 HBX
  by_cases hneg : P.place o l < 0
  · have HN := Lib.hid (show P.hasE o l = false by unfold P.hasE; exact decide_eq_false (by omega))
    go_wp2
    refine bodyPost_ret (v := .tuple #[.string (S []), .bool false]) (by simp [results, Tryz.results74, go_sem]) rfl ⟨by rw [P.textAt_not HN.out, HN.out], HB1.out⟩
  · have HN := Lib.hid (show P.hasE o l = true by unfold P.hasE; exact decide_eq_true (by omega))
    obtain ⟨i, hi⟩ := Int.eq_ofNat_of_zero_le (show 0 ≤ P.place o l by omega)
    have hil : i < l.length := by omega
    obtain ⟨g, p, rfl, hgl, x, c0, c1, hx⟩ := HU1.out.at i hil
    rw [P.textAt_place hi hil] at c1
    rw [hi] at hneg ⊢
    have i1 : (i : Int) < (l.length : Int) := by omega
    clear hl0 hl1 hi c0 hx
    go_wp2
    refine bodyPost_ret (v := .tuple #[.string (S (P.textAt o l)), .bool true]) (by simp [results, Tryz.results74, go_sem]) rfl ⟨by rw [HN.out], HB1.out⟩
end Go.Proofs.YtmlklnimoknojaaGreatDoor

namespace Go.Proofs.YtmlklnimoknojaaGreatDoor
namespace P
def begins (o p : List Int) : Bool := decide (p.length ≤ o.length) && decide (o.take p.length = p)
end P
open Go Go.RowKit
set_option maxHeartbeats 2000000
set_option maxRecDepth 100000
theorem IntR.take {v : World} {ad : Option Addr} {cap k : Nat} {l : List Int} (h : IntR v (.slice ad l.length cap) l) (hk : k ≤ l.length) : IntR v (.slice ad k cap) (l.take k) := by
  obtain ⟨ad', cap', he, h1, hn, h3⟩ := h
  injection he with e1 e2 e3
  subst e1 e3
  have hlk : (l.take k).length = k := by rw [List.length_take]; omega
  refine ⟨ad, cap, by rw [hlk], by omega, hn, ?_⟩
  rcases h3 with h3 | ⟨g, o, h4, h5, h6⟩
  · left; rw [h3]; simp
  · refine .inr ⟨g, o, h4, h5, fun j hj => ?_⟩
    have hj' : j < l.length := by omega
    rw [List.getElem_take]
    exact h6 j hj'
end Go.Proofs.YtmlklnimoknojaaGreatDoor

namespace Go.Proofs.YtmlklnimoknojaaGreatDoor
namespace P
theorem testBit_mod (n k : Nat) : n / 2 ^ k % 2 = if n.testBit k then 1 else 0 := by
  rw [Nat.testBit_eq_decide_div_mod_eq]
  by_cases h : n / 2 ^ k % 2 = 1
  · rw [h]; simp
  · have : n / 2 ^ k % 2 = 0 := by omega
    rw [this]; simp
end P
open Go Go.RowKit
set_option maxHeartbeats 2000000
set_option maxRecDepth 100000
theorem areLetters (s : Str) (w : World) (hs : s.length ≤ maxLen) :
    Calls Tryz.prog 185 #[.string (S s)] w fun e w' => e = .returned (.bool (s.all P.lower)) ∧ w = w' := by
  unfold maxLen at hs
  go_enter Tryz.func185, Tryz.ntmps185
  go_wp2
  go_loop [3, 6] (fun _ i => ∃ k : Nat, k ≤ s.length ∧ i = .int .i64 k ∧ (s.take k).all P.lower = true) (fun _ i => s.length - (intOf i).toNat)
  case atStart => exact ⟨0, by omega, rfl, by simp⟩
  case round =>
    obtain ⟨k, hk, rfl, ha⟩ := hrel
    have HA := Lib.hid ha; clear ha
    by_cases hlt : k < s.length
    · rcases Int.lt_or_le (s[k].toNat : Int) 97 with h1 | h1
      · have H := Lib.hid h1
        go_wp2
        go_ret
        exact ⟨ret_bool (P.all_false hlt (P.lower_no (.inl H.out))).symm, rfl⟩
      · rcases Int.lt_or_le 122 (s[k].toNat : Int) with h2 | h2
        · have H := Lib.hid h2
          go_wp2
          go_ret
          exact ⟨ret_bool (P.all_false hlt (P.lower_no (.inr H.out))).symm, rfl⟩
        · have HL := Lib.hid (P.lower_yes h1 h2)
          go_wp2
          go_round
          case rel => exact ⟨k + 1, by omega, by go_num, all_snoc k hlt HA.out HL.out⟩
          case measure => simp [intOf]; omega
    · have HT := Lib.hid (show s.all P.lower = true by rw [← List.take_of_length_le (l := s) (i := k) (by omega)]; exact HA.out)
      go_wp2
      go_ret
      exact ⟨ret_bool HT.out.symm, rfl⟩
theorem wraps_i64 (n : Int) (h0 : 0 ≤ n) (h1 : n < 2 ^ 40) : IntKind.i64.wrap n = n := by rw [IntKind.wrap_i64]; omega
theorem and_one {m k : Nat} (hm : m < 2 ^ 23) : bits .and .i64 ((m : Int) / 2 ^ k) 1 = if m.testBit k then 1 else 0 := by
  have e : ((m : Int) / 2 ^ k) = ((m / 2 ^ k : Nat) : Int) := by simp
  have hd : m / 2 ^ k < 2 ^ 40 := by have := Nat.div_le_self m (2 ^ k); omega
  have h := (bits_nat .i64 40 (by decide) wraps_i64 (m / 2 ^ k) 1 hd (by decide)).1
  rw [e]
  have h' : bits .and .i64 ((m / 2 ^ k : Nat) : Int) 1 = ((m / 2 ^ k &&& 1 : Nat) : Int) := h
  rw [h', Nat.and_one_is_mod, P.testBit_mod]
  split <;> rfl
end Go.Proofs.YtmlklnimoknojaaGreatDoor

namespace Go.Proofs.YtmlklnimoknojaaGreatDoor
namespace P
theorem vow_idx (b : UInt8) : decide (0 ≤ Go.Lib.indexByte [97, 101, 105, 111, 117] b) = vow b := by
  by_cases hm : b ∈ ([97, 101, 105, 111, 117] : List UInt8)
  · rw [decide_eq_true (idx_pos hm)]
    simp only [List.mem_cons, List.not_mem_nil, or_false] at hm
    rcases hm with rfl | rfl | rfl | rfl | rfl <;> decide
  · rw [idx_neg (fun x hx e => hm (by rw [← e]; exact hx))]
    simp only [List.mem_cons, List.not_mem_nil, or_false, not_or] at hm
    obtain ⟨a1, a2, a3, a4, a5⟩ := hm
    simp [vow, a1, a2, a3, a4, a5]
end P
open Go Go.RowKit
set_option maxHeartbeats 2000000
set_option maxRecDepth 100000
theorem isWordI (s : Str) (w : World) (hs : s.length ≤ 2 ^ 40) :
    Calls Tryz.prog 289 #[.string (S s)] w fun e w' => e = .returned (.bool (P.isWord s)) ∧ w = w' := by
  have HW := Lib.hid (show P.isWord s = (s.all P.lower && decide (1 ≤ (s.length : Int) ∧ (s.length : Int) ≤ 24)) from rfl)
  have HM := Lib.hid (show s.length ≤ maxLen by unfold maxLen; omega)
  obtain ⟨q, hq⟩ : ∃ q, decide (1 ≤ (s.length : Int) ∧ (s.length : Int) ≤ 24) = q := ⟨_, rfl⟩
  rw [hq] at HW
  cases q
  · go_enter Tryz.func289, Tryz.ntmps289
    go_wp2_with (go_at_call 125; refine (impl_in _ _ _ _).mono ?_; rintro e w' ⟨rfl, rfl⟩)
    go_ret
    exact ⟨ret_bool (by rw [HW.out]; simp), rfl⟩
  · go_enter Tryz.func289, Tryz.ntmps289
    go_wp2_with fail
    refine (impl_in _ _ _ _).mono ?_
    rintro e w1 ⟨rfl, rfl⟩
    rw [hq]
    clear hq
    go_wp2_with fail
    refine (areLetters s _ HM.out).mono ?_
    rintro e w1 ⟨rfl, rfl⟩
    go_wp2
    go_ret
    exact ⟨ret_bool (by rw [HW.out]; simp), rfl⟩
theorem idxVow (b : UInt8) (w : World) :
    Calls Tryz.prog 280 #[.string (S [97, 101, 105, 111, 117]), .int .u8 b.toNat] w fun e w' => e = .returned (.int .i64 (Lib.indexByte [97, 101, 105, 111, 117] b)) ∧ w = w' := by
  refine (Tryz.strings_IndexByte (S [97, 101, 105, 111, 117]) b.toNat w).mono ?_
  rintro e w' ⟨rfl, rfl⟩
  refine ⟨?_, rfl⟩
  rw [S_dataList]
  simp
theorem isVowel (b : UInt8) (w : World) :
    Calls Tryz.prog 293 #[.int .u8 b.toNat] w fun e w' => e = .returned (.bool (P.vow b)) ∧ w = w' := by
  go_enter Tryz.func293, Tryz.ntmps293
  go_wp2_with (go_at_call 280; refine (idxVow _ _).mono ?_; rintro e w' ⟨rfl, rfl⟩)
  go_ret
  exact ⟨ret_bool (P.vow_idx b), rfl⟩
theorem vowelGroups (s : Str) (w : World) (hs : s.length ≤ 2 ^ 30) :
    Calls Tryz.prog 295 #[.string (S s)] w fun e w' => e = .returned (.int .i64 (P.vgroups s)) ∧ w = w' := by
  go_enter Tryz.func295, Tryz.ntmps295
  go_wp2
  go_loop [3, 4, 7] (fun n _ i => ∃ k : Nat, k ≤ s.length ∧ i = .int .i64 k ∧ n = .int .i64 (P.vgroupsN s k)) (fun _ _ i => s.length - (intOf i).toNat)
  case atStart => exact ⟨0, Nat.zero_le _, rfl, rfl⟩
  case round =>
    obtain ⟨k, hk, rfl, rfl⟩ := hrel
    have hg := P.vgroupsN_le s k
    by_cases hlt : k < s.length
    · have i1 : (k : Int) < (s.length : Int) := by omega
      have HY := Lib.hid (P.vgroupsN_yes (s := s) (k := k)); have HN := Lib.hid (P.vgroupsN_no (s := s) (k := k))
      generalize P.vgroupsN s k = gn at *
      rcases k with _ | m
      · rw [P.vbegins_0 hlt] at HY HN
        obtain ⟨q, hq⟩ : ∃ q, P.vow (s[0]'hlt) = q := ⟨_, rfl⟩
        rw [hq] at HY HN
        cases q
        · have HZ := Lib.hid (HN.out rfl)
          clear HY HN
          go_wp2_with (go_at_call 293; refine (isVowel _ _).mono ?_; rintro e w' ⟨rfl, rfl⟩)
          go_round
          case rel => exact ⟨1, by omega, by go_num, by rw [show (1 : Nat) = 0 + 1 from rfl, HZ.out]⟩
          case measure => simp [intOf]; omega
        · have HZ := Lib.hid (HY.out rfl)
          clear HY HN
          go_wp2_with (go_at_call 293; refine (isVowel _ _).mono ?_; rintro e w' ⟨rfl, rfl⟩)
          go_round
          case rel => exact ⟨1, by omega, by go_num, by rw [show (1 : Nat) = 0 + 1 from rfl, HZ.out]; go_num⟩
          case measure => simp [intOf]; omega
      · rw [P.vbegins_s hlt] at HY HN
        have hm : m < s.length := by omega
        have i2 : (((m + 1 : Nat) : Int) == 0) = false := by rw [beq_eq_false_iff_ne]; omega
        have i3 : ((m + 1 : Nat) : Int) - 1 = (m : Int) := by omega
        obtain ⟨q, hq⟩ : ∃ q, P.vow (s[m + 1]'hlt) = q := ⟨_, rfl⟩
        obtain ⟨r, hr⟩ : ∃ r, P.vow (s[m]'hm) = r := ⟨_, rfl⟩
        rw [hq, hr] at HY HN
        cases q
        · have HZ := Lib.hid (HN.out rfl)
          clear HY HN
          go_wp2_with (go_at_call 293; refine (isVowel _ _).mono ?_; rintro e w' ⟨rfl, rfl⟩)
          go_round
          case rel => exact ⟨m + 1 + 1, by omega, by go_num, by rw [HZ.out]⟩
          case measure => simp [intOf]; omega
        · cases r
          · have HZ := Lib.hid (HY.out rfl)
            clear HY HN
            go_wp2_with (go_at_call 293; refine (isVowel _ _).mono ?_; rintro e w' ⟨rfl, rfl⟩)
            go_round
            case rel => exact ⟨m + 1 + 1, by omega, by go_num, by rw [HZ.out]; go_num⟩
            case measure => simp [intOf]; omega
          · have HZ := Lib.hid (HN.out rfl)
            clear HY HN
            go_wp2_with (go_at_call 293; refine (isVowel _ _).mono ?_; rintro e w' ⟨rfl, rfl⟩)
            go_round
            case rel => exact ⟨m + 1 + 1, by omega, by go_num, by rw [HZ.out]⟩
            case measure => simp [intOf]; omega
    · have i1 : ¬ (k : Int) < (s.length : Int) := by omega
      have HE := Lib.hid (show P.vgroups s = P.vgroupsN s k by unfold P.vgroups; rw [show s.length = k by omega])
      go_wp2
      go_ret
      exact ⟨ret_int (by rw [HE.out]), rfl⟩
theorem suffix_any (s e : Str) (w : World) (hs : s.length ≤ 2 ^ 40) :
    Calls Tryz.prog 303 #[.string (S s), .string (S e)] w fun e' w' => e' = .returned (.bool (P.ends s e)) ∧ w = w' := by
  refine (Tryz.strings_HasSuffix (S s) (S e) w (by rw [S_size]; omega)).mono ?_
  rintro e' w' ⟨rfl, rfl⟩
  rw [S_dataList, S_dataList]
  exact ⟨rfl, rfl⟩
theorem endsStep (C : Nat) (s e : Str) (w : World) (hC : w.cell? ⟨C, 0, none⟩ = some (.string (S s))) (hs : s.length ≤ 2 ^ 40) :
    Calls Tryz.prog 302 #[.string (S e), .pointer (some ⟨C, 0, none⟩)] w fun e' w' => e' = .returned (.bool (P.ends s e)) ∧ w = w' := by
  go_enter Tryz.func302, Tryz.ntmps302
  go_wp2_with (go_at_call 303; refine (suffix_any _ _ _ hs).mono ?_; rintro e' w' ⟨rfl, rfl⟩)
  go_ret
  exact ⟨rfl, rfl⟩
theorem indexEnds (g cap C : Nat) (s : Str) (l : List Str) (w : World) (hg : ∀ (j : Nat) (h : j < l.length), w.cell? ⟨g, j, none⟩ = some (.string (S (l[j]'h)))) (hC : w.cell? ⟨C, 0, none⟩ = some (.string (S s))) (hs : s.length ≤ 2 ^ 40) (hl : l.length ≤ 100) :
    Calls Tryz.prog 309 #[.slice (some ⟨g, 0, none⟩) l.length cap, .func (Fn.func 302) #[] #[.pointer (some ⟨C, 0, none⟩)]] w fun e w' => (∃ i : Int, e = .returned (.int .i64 i) ∧ decide (0 ≤ i) = l.any (P.ends s)) ∧ w = w' := by
  have HG := Lib.hid hg; have HC := Lib.hid hC; have HS := Lib.hid hs
  clear hg hC hs
  go_enter Tryz.func309, Tryz.ntmps309
  go_wp2
  go_loop [5, 8] (fun _ i => ∃ j : Nat, j ≤ l.length ∧ i = .int .i64 j ∧ (∀ f ∈ l.take j, P.ends s f = false)) (fun _ i => l.length - (intOf i).toNat)
  case atStart => exact ⟨0, Nat.zero_le _, rfl, (fun f h => by simp at h)⟩
  case round =>
    obtain ⟨j, hj, rfl, hn⟩ := hrel
    have HN := Lib.hid hn
    clear hn
    by_cases hlt : j < l.length
    · have c0 := HG.out j hlt
      have HHIT := Lib.hid (show P.ends s l[j] = true → decide (0 ≤ (j : Int)) = l.any (P.ends s) from fun h => by
        rw [decide_eq_true (by omega)]
        exact (List.any_eq_true.2 ⟨_, List.getElem_mem hlt, h⟩).symm)
      have HMISS := Lib.hid (show P.ends s l[j] = false → ∀ f ∈ l.take (j + 1), P.ends s f = false from fun h f hf => by
        rw [take_snoc l j hlt, List.mem_append, List.mem_singleton] at hf
        rcases hf with hf | rfl
        · exact HN.out f hf
        · exact h)
      generalize l[j] = x at *
      have i1 : (j : Int) < (l.length : Int) := by omega
      obtain ⟨b, hbv⟩ : ∃ b, P.ends s x = b := ⟨_, rfl⟩
      have HBV := Lib.hid hbv
      rw [hbv] at HHIT HMISS
      clear hbv
      cases b
      · have HQQ := Lib.hid (HMISS.out rfl)
        clear HHIT HMISS
        go_wp2_with fail
        refine (endsStep C s x _ HC.out HS.out).mono ?_
        rintro e w1 ⟨rfl, rfl⟩
        rw [HBV.out]
        go_wp2
        go_round
        case rel => exact ⟨j + 1, by omega, by go_num, HQQ.out⟩
        case measure => simp [intOf]; omega
      · have HPP := Lib.hid (HHIT.out rfl)
        clear HHIT HMISS
        go_wp2_with fail
        refine (endsStep C s x _ HC.out HS.out).mono ?_
        rintro e w1 ⟨rfl, rfl⟩
        rw [HBV.out]
        go_wp2
        go_ret
        exact ⟨⟨_, rfl, HPP.out⟩, rfl⟩
    · have HP := Lib.hid (show decide (0 ≤ (-1 : Int)) = l.any (P.ends s) by
        have h := HN.out
        rw [List.take_of_length_le (by omega)] at h
        have h2 : l.any (P.ends s) = false := List.any_eq_false.2 fun f hf => by rw [h f hf]; decide
        rw [h2]; rfl)
      go_wp2
      go_ret
      exact ⟨⟨_, rfl, HP.out⟩, rfl⟩
theorem containsEnds (g cap C : Nat) (s : Str) (l : List Str) (w : World) (hg : ∀ (j : Nat) (h : j < l.length), w.cell? ⟨g, j, none⟩ = some (.string (S (l[j]'h)))) (hC : w.cell? ⟨C, 0, none⟩ = some (.string (S s))) (hs : s.length ≤ 2 ^ 40) (hl : l.length ≤ 100) :
    Calls Tryz.prog 301 #[.slice (some ⟨g, 0, none⟩) l.length cap, .func (Fn.func 302) #[] #[.pointer (some ⟨C, 0, none⟩)]] w fun e w' => e = .returned (.bool (l.any (P.ends s))) ∧ w = w' := by
  have HG := Lib.hid hg; have HC := Lib.hid hC
  clear hg hC
  go_enter Tryz.func301, Tryz.ntmps301
  go_wp2_with fail
  refine (indexEnds g cap C s l _ HG.out HC.out hs hl).mono ?_
  rintro e w1 ⟨⟨i, rfl, hi⟩, rfl⟩
  have HI := Lib.hid hi
  clear hi
  go_wp2
  go_ret
  exact ⟨ret_bool (by rw [← HI.out]), rfl⟩
theorem endsWith (g cap : Nat) (s : Str) (l : List Str) (w : World) (hgl : g < w.heap.size) (hg : ∀ (j : Nat) (h : j < l.length), w.cell? ⟨g, j, none⟩ = some (.string (S (l[j]'h)))) (hs : s.length ≤ 2 ^ 40) (hl : l.length ≤ 100) :
    Calls Tryz.prog 294 #[.string (S s), .slice (some ⟨g, 0, none⟩) l.length cap] w fun e w' => e = .returned (.bool (l.any (P.ends s))) ∧ Below w.heap.size w w' := by
  have hb0 := (Below.refl w.heap.size w).alloc (Nat.le_refl _) (.cells #[.string (S s)] 9)
  have HB0 := Lib.hid hb0
  have HC := Lib.hid (show (w.alloc (.cells #[.string (S s)] 9)).cell? ⟨w.heap.size, 0, none⟩ = some (.string (S s)) by go_simp)
  have HG := Lib.hid (show ∀ (j : Nat) (h : j < l.length), (w.alloc (.cells #[.string (S s)] 9)).cell? ⟨g, j, none⟩ = some (.string (S (l[j]'h))) from fun j h => (hb0.cell (p := ⟨g, j, none⟩) hgl).trans (hg j h))
  clear hg hb0
  go_enter Tryz.func294, Tryz.ntmps294
  go_wp2_with fail
  refine (containsEnds g cap w.heap.size s l _ HG.out HC.out hs hl).mono ?_
  rintro e w1 ⟨rfl, rfl⟩
  go_wp2
  go_ret
  exact ⟨rfl, HB0.out⟩
end Go.Proofs.YtmlklnimoknojaaGreatDoor

namespace Go.Proofs.YtmlklnimoknojaaGreatDoor
open Go Go.RowKit
set_option maxHeartbeats 4000000
set_option maxRecDepth 100000
theorem any1 {f : Str → Bool} (a : Str) : [a].any f = f a := by simp
theorem any3 {f : Str → Bool} (a b c : Str) : [a, b, c].any f = (f a || (f b || f c)) := by simp
theorem any5 {f : Str → Bool} (a b c d e : Str) : [a, b, c, d, e].any f = (f a || (f b || (f c || (f d || f e)))) := by simp
theorem impl_rule (x y : Str) (w : World) (hx : x.length ≤ 2 ^ 30) (hy : 0 < y.length) :
    Calls Tryz.prog 290 #[.string (S x), .string (S y)] w fun e w' => e = .returned (.int .i64 (P.rule x y)) ∧ Below w.heap.size w w' := by
  have hr : P.rule x y = (if (y == [115]) && P.consY x then 1
    else if (y == [115]) && (P.ends x [115] || (P.ends x [120] || (P.ends x [122] || (P.ends x [99, 104] || P.ends x [115, 104])))) then 2
    else if (y == [105, 110, 103]) && P.ends x [105, 101] then 3
    else if P.consY x && !(y.getD 0 0 == 105) then 4
    else if P.dropE x && P.vow (y.getD 0 0) then 5
    else if decide (P.vgroups x = 1) && (P.closed x && P.vow (y.getD 0 0)) then 6 else 0) := rfl
  rw [P.getD_at hy] at hr
  obtain ⟨y0, hy0⟩ : ∃ v, (y[0]'hy == 105) = v := ⟨_, rfl⟩
  have f0 : (((y[0]'hy).toNat : Int) == 105) = y0 := (u8_beq _ 105 (by decide)).trans hy0
  have f0' : (((y[0]'hy).toNat : Int) != 105) = !y0 := by rw [← f0]; rfl
  have h5 : (P.dropE x && P.vow (y[0]'hy)) = (decide (2 ≤ x.length) && (P.ends x [101] && (!P.ends x [101, 101] && (!P.ends x [111, 101] && (!P.ends x [121, 101] && P.vow (y[0]'hy)))))) := by
    unfold P.dropE P.eoy
    cases decide (2 ≤ x.length) <;> cases P.ends x [101] <;> cases P.ends x [101, 101] <;> cases P.ends x [111, 101] <;> cases P.ends x [121, 101] <;> rfl
  have h6 : (decide (P.vgroups x = 1) && (P.closed x && P.vow (y[0]'hy))) = ((decide (P.vgroups x = 1) && P.closed x) && P.vow (y[0]'hy)) := by
    cases decide (P.vgroups x = 1) <;> rfl
  rw [hy0, h5, h6] at hr
  have HR := Lib.hid hr
  clear hr hy0 f0 h5 h6
  have hcy : P.consY x = (decide (2 ≤ x.length) && (P.back x 1 == 121 && !P.vow (P.back x 2))) := rfl
  have hcl : P.closed x = (decide (3 ≤ x.length) && (!P.vow (P.back x 3) && (P.vow (P.back x 2) && (!P.vow (P.back x 1) && !P.wxy (P.back x 1))))) := rfl
  have HCY := Lib.hid hcy; have HCL := Lib.hid hcl
  have HW3 := Lib.hid (fun h => P.ends_wxy (s := x) h)
  clear hcy hcl
  go_enter Tryz.func290, Tryz.ntmps290
  go_upto_region 2 with (go_at_call 293; refine (isVowel _ _).mono ?_; rintro e w' ⟨rfl, rfl⟩)
  go_cut [7] (fun c wx => ∃ b, c = .bool b ∧ P.consY x = b ∧ w = wx)
  case first =>
    by_cases h : 2 ≤ x.length
    · obtain ⟨n2, hn2⟩ : ∃ n, n + 2 = x.length := ⟨x.length - 2, by omega⟩
      obtain ⟨l1, b1⟩ := P.back_at (s := x) (n := n2 + 1) (k := 1) (by omega) (by omega)
      obtain ⟨l2, b2⟩ := P.back_at (s := x) (n := n2) (k := 2) (by omega) (by omega)
      rw [b1, b2, decide_eq_true h] at HCY
      have i1 : (2 : Int) ≤ (x.length : Int) := by omega
      have i2 : (x.length : Int) - 1 = ((n2 + 1 : Nat) : Int) := by omega
      have i3 : (x.length : Int) - 2 = (n2 : Int) := by omega
      obtain ⟨q, hq⟩ : ∃ q, (x[n2 + 1]'l1 == 121) = q := ⟨_, rfl⟩
      have f0 : (((x[n2 + 1]'l1).toNat : Int) == 121) = q := (u8_beq _ 121 (by decide)).trans hq
      rw [hq] at HCY
      clear b1 b2 hq hn2 h
      cases q
      · go_wp2_with (go_at_call 293; refine (isVowel _ _).mono ?_; rintro e w' ⟨rfl, rfl⟩)
        go_meet
        exact ⟨_, rfl, by rw [HCY.out]; rfl, rfl⟩
      · go_wp2_with (go_at_call 293; refine (isVowel _ _).mono ?_; rintro e w' ⟨rfl, rfl⟩)
        go_meet
        exact ⟨_, rfl, by rw [HCY.out]; rfl, rfl⟩
    · have i1 : ¬ (2 : Int) ≤ (x.length : Int) := by omega
      go_wp2
      go_meet
      exact ⟨_, rfl, by rw [HCY.out, decide_eq_false h]; rfl, rfl⟩
  case rest =>
  obtain ⟨cy, rfl, hcy, rfl⟩ := hcut
  rw [hcy] at HR
  clear HCY hcy
  go_upto_region 3 with fail
  go_cut [8] (fun c wx => ∃ b, c = .bool b ∧ P.closed x = b ∧ Below w.heap.size w wx)
  case first =>
    by_cases h : 3 ≤ x.length
    · obtain ⟨n3, hn3⟩ : ∃ n, n + 3 = x.length := ⟨x.length - 3, by omega⟩
      obtain ⟨l1, b1⟩ := P.back_at (s := x) (n := n3 + 2) (k := 1) (by omega) (by omega)
      obtain ⟨l2, b2⟩ := P.back_at (s := x) (n := n3 + 1) (k := 2) (by omega) (by omega)
      obtain ⟨l3, b3⟩ := P.back_at (s := x) (n := n3) (k := 3) (by omega) (by omega)
      have hw3 := HW3.out (by omega)
      rw [b1] at hw3
      rw [b1, b2, b3, decide_eq_true h, ← hw3] at HCL
      have i1 : (3 : Int) ≤ (x.length : Int) := by omega
      have i2 : (x.length : Int) - 1 = ((n3 + 2 : Nat) : Int) := by omega
      have i3 : (x.length : Int) - 2 = ((n3 + 1 : Nat) : Int) := by omega
      have i4 : (x.length : Int) - 3 = (n3 : Int) := by omega
      obtain ⟨q1, hq1⟩ : ∃ q, P.vow (x[n3 + 2]'l1) = q := ⟨_, rfl⟩
      obtain ⟨q2, hq2⟩ : ∃ q, P.vow (x[n3 + 1]'l2) = q := ⟨_, rfl⟩
      obtain ⟨q3, hq3⟩ : ∃ q, P.vow (x[n3]'l3) = q := ⟨_, rfl⟩
      rw [hq1, hq2, hq3] at HCL
      clear b1 b2 b3 hn3 h hw3
      cases q3 with
      | true =>
        go_wp2_with (go_at_call 293; refine (isVowel _ _).mono ?_; rintro e w' ⟨rfl, rfl⟩)
        go_meet
        exact ⟨_, rfl, by rw [HCL.out]; rfl, Below.refl _ _⟩
      | false =>
      cases q2 with
      | false =>
        go_wp2_with (go_at_call 293; refine (isVowel _ _).mono ?_; rintro e w' ⟨rfl, rfl⟩)
        go_meet
        exact ⟨_, rfl, by rw [HCL.out]; rfl, Below.refl _ _⟩
      | true =>
      cases q1 with
      | true =>
        go_wp2_with (go_at_call 293; refine (isVowel _ _).mono ?_; rintro e w' ⟨rfl, rfl⟩)
        go_meet
        exact ⟨_, rfl, by rw [HCL.out]; rfl, Below.refl _ _⟩
      | false =>
        go_wp2_with (go_at_call 293; refine (isVowel _ _).mono ?_; rintro e w' ⟨rfl, rfl⟩)
        refine (endsWith _ 3 x [[119], [120], [121]] _ (by simp) (lit_strs [[119], [120], [121]] _ _) (by omega) (by decide)).mono ?_
        rintro e w1 ⟨rfl, hb⟩
        have HB := Lib.hid (((Below.refl w.heap.size w).alloc (Nat.le_refl _) _).trans (hb.mono (by simp)))
        clear hb
        rw [any3]
        go_wp2
        go_meet
        exact ⟨_, rfl, by rw [HCL.out]; simp, HB.out⟩
    · have i1 : ¬ (3 : Int) ≤ (x.length : Int) := by omega
      go_wp2
      go_meet
      exact ⟨_, rfl, by rw [HCL.out, decide_eq_false h]; rfl, Below.refl _ _⟩
  case rest =>
  obtain ⟨cl, rfl, hcl, hb⟩ := hcut
  rw [hcl] at HR
  have HB0 := Lib.hid hb
  clear hb hcl HCL HW3
  generalize hww : wc = w0 at *
  clear hww
  go_upto_region 4 with fail
  go_cut [62] (fun c wx => c = .bool ((y == [115]) && cy) ∧ Below w.heap.size w wx)
  case first =>
    cases g1 : (y == [115]) with
    | false =>
      go_wp2
      go_meet
      exact ⟨by simp [*], HB0.out⟩
    | true =>
      go_wp2
      go_meet
      exact ⟨by simp [*], HB0.out⟩
  case rest =>
  obtain ⟨rfl, hb⟩ := hcut
  have HB1 := Lib.hid hb
  clear hb HB0
  generalize hww : wc = w1 at *
  clear hww
  cases hc0 : ((y == [115]) && cy)
  rotate_left
  · have HZ := Lib.hid (show P.rule x y = 1 by rw [HR.out, hc0]; rfl)
    clear hc0
    go_wp2
    go_ret
    exact ⟨ret_int (by rw [HZ.out]; rfl), HB1.out⟩
  have N0 := Lib.hid hc0
  clear hc0
  go_upto_region 6 with fail
  go_cut [68] (fun c wx => c = .bool ((y == [115]) && (P.ends x [115] || (P.ends x [120] || (P.ends x [122] || (P.ends x [99, 104] || P.ends x [115, 104]))))) ∧ Below w.heap.size w wx)
  case first =>
    cases g1 : (y == [115]) with
    | false =>
      go_wp2
      go_meet
      exact ⟨by simp [*], HB1.out⟩
    | true =>
      go_wp2_with fail
      refine (endsWith _ 5 x [[115], [120], [122], [99, 104], [115, 104]] _ (by simp) (lit_strs [[115], [120], [122], [99, 104], [115, 104]] _ _) (by omega) (by decide)).mono ?_
      rintro e v1 ⟨rfl, hb⟩
      have Hv1 := Lib.hid (((HB1.out).alloc (HB1.out).size _).trans (hb.mono (by have h := (HB1.out).size; simp; omega)))
      clear hb
      rw [any5]
      go_wp2
      go_meet
      exact ⟨by simp [*], Hv1.out⟩
  case rest =>
  obtain ⟨rfl, hb⟩ := hcut
  have HB2 := Lib.hid hb
  clear hb HB1
  generalize hww : wc = w2 at *
  clear hww
  cases hc1 : ((y == [115]) && (P.ends x [115] || (P.ends x [120] || (P.ends x [122] || (P.ends x [99, 104] || P.ends x [115, 104])))))
  rotate_left
  · have HZ := Lib.hid (show P.rule x y = 2 by rw [HR.out, N0.out, if_neg (by decide), hc1]; rfl)
    clear hc1
    go_wp2
    go_ret
    exact ⟨ret_int (by rw [HZ.out]; rfl), HB2.out⟩
  have N1 := Lib.hid hc1
  clear hc1
  go_upto_region 8 with fail
  go_cut [76] (fun c wx => c = .bool ((y == [105, 110, 103]) && P.ends x [105, 101]) ∧ Below w.heap.size w wx)
  case first =>
    cases g1 : (y == [105, 110, 103]) with
    | false =>
      go_wp2
      go_meet
      exact ⟨by simp [*], HB2.out⟩
    | true =>
      go_wp2_with fail
      refine (endsWith _ 1 x [[105, 101]] _ (by simp) (lit_strs [[105, 101]] _ _) (by omega) (by decide)).mono ?_
      rintro e v1 ⟨rfl, hb⟩
      have Hv1 := Lib.hid (((HB2.out).alloc (HB2.out).size _).trans (hb.mono (by have h := (HB2.out).size; simp; omega)))
      clear hb
      rw [any1]
      go_wp2
      go_meet
      exact ⟨by simp [*], Hv1.out⟩
  case rest =>
  obtain ⟨rfl, hb⟩ := hcut
  have HB3 := Lib.hid hb
  clear hb HB2
  generalize hww : wc = w3 at *
  clear hww
  cases hc2 : ((y == [105, 110, 103]) && P.ends x [105, 101])
  rotate_left
  · have HZ := Lib.hid (show P.rule x y = 3 by rw [HR.out, N0.out, if_neg (by decide), N1.out, if_neg (by decide), hc2]; rfl)
    clear hc2
    go_wp2
    go_ret
    exact ⟨ret_int (by rw [HZ.out]; rfl), HB3.out⟩
  have N2 := Lib.hid hc2
  clear hc2
  go_upto_region 10 with fail
  go_cut [84] (fun c wx => c = .bool (cy && !y0) ∧ Below w.heap.size w wx)
  case first =>
    cases cy with
    | false =>
      go_wp2
      go_meet
      exact ⟨by simp [*], HB3.out⟩
    | true =>
      go_wp2
      go_meet
      exact ⟨by simp [*], HB3.out⟩
  case rest =>
  obtain ⟨rfl, hb⟩ := hcut
  have HB4 := Lib.hid hb
  clear hb HB3
  generalize hww : wc = w4 at *
  clear hww
  cases hc3 : (cy && !y0)
  rotate_left
  · have HZ := Lib.hid (show P.rule x y = 4 by rw [HR.out, N0.out, if_neg (by decide), N1.out, if_neg (by decide), N2.out, if_neg (by decide), hc3]; rfl)
    clear hc3
    go_wp2
    go_ret
    exact ⟨ret_int (by rw [HZ.out]; rfl), HB4.out⟩
  have N3 := Lib.hid hc3
  clear hc3
  go_upto_region 12 with fail
  go_cut [91] (fun c wx => c = .bool (decide (2 ≤ x.length) && (P.ends x [101] && (!P.ends x [101, 101] && (!P.ends x [111, 101] && (!P.ends x [121, 101] && P.vow (y[0]'hy)))))) ∧ Below w.heap.size w wx)
  case first =>
    by_cases g1 : 2 ≤ x.length
    · have g' : (2 : Int) ≤ (x.length : Int) := by omega
      have HG := Lib.hid g1
      have HP5 := Lib.hid (show (decide (2 ≤ x.length) && (P.ends x [101] && (!P.ends x [101, 101] && (!P.ends x [111, 101] && (!P.ends x [121, 101] && P.vow (y[0]'hy)))))) = (P.ends x [101] && (!(P.ends x [101, 101] || (P.ends x [111, 101] || P.ends x [121, 101])) && P.vow (y[0]'hy))) by
        rw [decide_eq_true HG.out]
        cases P.ends x [101] <;> cases P.ends x [101, 101] <;> cases P.ends x [111, 101] <;> cases P.ends x [121, 101] <;> rfl)
      go_wp2_with fail
      refine (endsWith _ 1 x [[101]] _ (by simp) (lit_strs [[101]] _ _) (by omega) (by decide)).mono ?_
      rintro e v1 ⟨rfl, hb⟩
      have Hv1 := Lib.hid (((HB4.out).alloc (HB4.out).size _).trans (hb.mono (by have h := (HB4.out).size; simp; omega)))
      clear hb
      rw [any1]
      cases g2 : P.ends x [101] with
      | false =>
        go_wp2
        go_meet
        exact ⟨by rw [HP5.out]; simp [*], Hv1.out⟩
      | true =>
        go_wp2_with fail
        refine (endsWith _ 3 x [[101, 101], [111, 101], [121, 101]] _ (by simp) (lit_strs [[101, 101], [111, 101], [121, 101]] _ _) (by omega) (by decide)).mono ?_
        rintro e v2 ⟨rfl, hb⟩
        have Hv2 := Lib.hid (((Hv1.out).alloc (Hv1.out).size _).trans (hb.mono (by have h := (Hv1.out).size; simp; omega)))
        clear hb
        rw [any3]
        cases g3 : (P.ends x [101, 101] || (P.ends x [111, 101] || P.ends x [121, 101])) with
        | true =>
          go_wp2
          go_meet
          exact ⟨by rw [HP5.out]; simp [*], Hv2.out⟩
        | false =>
          go_wp2
          go_meet
          exact ⟨by rw [HP5.out]; simp [*], Hv2.out⟩
    · have g' : ¬ (2 : Int) ≤ (x.length : Int) := by omega
      go_wp2
      go_meet
      exact ⟨by simp [*], HB4.out⟩
  case rest =>
  obtain ⟨rfl, hb⟩ := hcut
  have HB5 := Lib.hid hb
  clear hb HB4
  generalize hww : wc = w5 at *
  clear hww
  cases hc4 : (decide (2 ≤ x.length) && (P.ends x [101] && (!P.ends x [101, 101] && (!P.ends x [111, 101] && (!P.ends x [121, 101] && P.vow (y[0]'hy))))))
  rotate_left
  · have HZ := Lib.hid (show P.rule x y = 5 by rw [HR.out, N0.out, if_neg (by decide), N1.out, if_neg (by decide), N2.out, if_neg (by decide), N3.out, if_neg (by decide), hc4]; rfl)
    clear hc4
    go_wp2
    go_ret
    exact ⟨ret_int (by rw [HZ.out]; rfl), HB5.out⟩
  have N4 := Lib.hid hc4
  clear hc4
  go_upto_region 14 with fail
  go_cut [108] (fun c wx => c = .bool ((decide (P.vgroups x = 1) && cl) && P.vow (y[0]'hy)) ∧ Below w.heap.size w wx)
  case first =>
    obtain ⟨p, hp⟩ : ∃ q, decide (P.vgroups x = 1) = q := ⟨_, rfl⟩
    have f1 : ((P.vgroups x : Int) == 1) = p := by rw [← hp, Bool.eq_iff_iff]; simp; omega
    cases p with
    | false =>
      go_wp2_with (go_at_call 295; refine (vowelGroups _ _ hx).mono ?_; rintro e w' ⟨rfl, rfl⟩)
      go_meet
      exact ⟨by simp [*], HB5.out⟩
    | true =>
    cases cl with
    | false =>
      go_wp2_with (go_at_call 295; refine (vowelGroups _ _ hx).mono ?_; rintro e w' ⟨rfl, rfl⟩)
      go_meet
      exact ⟨by simp [*], HB5.out⟩
    | true =>
      go_wp2_with (go_at_call 295; refine (vowelGroups _ _ hx).mono ?_; rintro e w' ⟨rfl, rfl⟩)
      go_meet
      exact ⟨by simp [*], HB5.out⟩
  case rest =>
  obtain ⟨rfl, hb⟩ := hcut
  have HB6 := Lib.hid hb
  clear hb HB5
  generalize hww : wc = w6 at *
  clear hww
  cases hc5 : ((decide (P.vgroups x = 1) && cl) && P.vow (y[0]'hy))
  rotate_left
  · have HZ := Lib.hid (show P.rule x y = 6 by rw [HR.out, N0.out, if_neg (by decide), N1.out, if_neg (by decide), N2.out, if_neg (by decide), N3.out, if_neg (by decide), N4.out, if_neg (by decide), hc5]; rfl)
    clear hc5
    go_wp2
    go_ret
    exact ⟨ret_int (by rw [HZ.out]; rfl), HB6.out⟩
  have N5 := Lib.hid hc5
  clear hc5
  have HZ := Lib.hid (show P.rule x y = 0 by rw [HR.out, N0.out, if_neg (by decide), N1.out, if_neg (by decide), N2.out, if_neg (by decide), N3.out, if_neg (by decide), N4.out, if_neg (by decide), N5.out]; rfl)
  go_wp2
  go_ret
  exact ⟨ret_int (by rw [HZ.out]; rfl), HB6.out⟩
end Go.Proofs.YtmlklnimoknojaaGreatDoor
