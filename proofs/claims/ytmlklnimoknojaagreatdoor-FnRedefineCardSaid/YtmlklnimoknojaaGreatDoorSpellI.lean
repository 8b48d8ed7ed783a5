/- Walks: an outline looked up in a dictionary and in a stack of layers (reference, program). -/
import Derived.Deep.DeepCutAuto
import Derived.Test.YtmlklnimoknojaaGreatDoorPlainFmt
import Derived.Test.YtmlklnimoknojaaGreatDoorLawD
import Derived.Test.YtmlklnimoknojaaGreatDoorLayB
import Derived.Test.YtmlklnimoknojaaGreatDoorMemE
import Derived.Test.YtmlklnimoknojaaGreatDoorIns1
import Derived.Deep.RegionHeld
import Derived.BigQuiet
import Derived.IntWalk
import Derived.Test.YtmlklnimoknojaaGreatDoorColl
import Derived.Laws.BitsLemmas
import Derived.Test.YtmlklnimoknojaaGreatDoorSpellS
namespace Go.Proofs.YtmlklnimoknojaaGreatDoor
namespace P
def lookD (o : List Int) (l : Dic) : Bs × Bool := if dic l then (textAt o l, hasE o l) else ([], false)
end P
open Go Go.RowKit
set_option maxHeartbeats 2000000
set_option maxRecDepth 100000
def FindPost (o : List Int) (l : P.Dic) (w : World) (e : Ending) (w' : World) : Prop := e = .returned (.tuple #[.string (S (P.textAt o l)), .bool (P.hasE o l)]) ∧ Below w.heap.size w w'
theorem l6Find (dv ov : Value) (l : P.Dic) (o : List Int) (w : World) (hu : EntR w dv l) (ho : IntR w ov o) :
    Calls Tryz.prog 151 #[.agg #[dv], ov] w (FindPost o l w) := by
  have hb0 := (Below.refl w.heap.size w).alloc (Nat.le_refl _) (.cells #[dv] 26)
  have HU := Lib.hid (hu.below hb0); have HO := Lib.hid (ho.below hb0); have HB0 := Lib.hid hb0
  have HBX := Lib.hid (Box1.new dv 26 w)
  have hl0 := P.place_lo o l; have hl1 := P.place_lt (o := o) (l := l)
  obtain ⟨ad, cap, rfl, hll, _⟩ := hu
  obtain ⟨od, oc, rfl, _, _⟩ := ho
  clear hb0
  go_enter Tryz.func151, Tryz.ntmps151
  go_wp2_with fail
  refine (l6At _ _ l o _ HU.out HO.out).mono ?_
  rintro e w1 ⟨rfl, hb⟩
  have HU1 := Lib.hid (HU.out.below hb)
  obtain ⟨b0, _⟩ := HBX.out.below hb
  have HB1 := Lib.hid (HB0.out.trans (hb.mono (by simp)))
  clear hb HU HO HB0 HBX
  by_cases hneg : P.place o l < 0
  · have HN := Lib.hid (show P.hasE o l = false by unfold P.hasE; exact decide_eq_false (by omega))
    go_wp2
    refine bodyPost_ret (v := .tuple #[.string (S []), .bool false]) (by simp [results, Tryz.results151, go_sem]) rfl ⟨by rw [P.textAt_not HN.out, HN.out], HB1.out⟩
  · have HN := Lib.hid (show P.hasE o l = true by unfold P.hasE; exact decide_eq_true (by omega))
    obtain ⟨i, hi⟩ := Int.eq_ofNat_of_zero_le (show 0 ≤ P.place o l by omega)
    have hil : i < l.length := by omega
    obtain ⟨g, p, rfl, hgl, x, c0, c1, hx⟩ := HU1.out.at i hil
    rw [P.textAt_place hi hil] at c1
    rw [hi] at hneg ⊢
    have i1 : (i : Int) < (l.length : Int) := by omega
    clear hl0 hl1 hi c0 hx
    go_wp2
    refine bodyPost_ret (v := .tuple #[.string (S (P.textAt o l)), .bool true]) (by simp [results, Tryz.results151, go_sem]) rfl ⟨by rw [HN.out], HB1.out⟩
theorem dicLookup (dv ov : Value) (l : P.Dic) (o : List Int) (w : World) (hu : EntR w dv l) (ho : IntR w ov o) :
    Calls Tryz.prog 74 #[.agg #[dv], ov] w (FindPost o l w) := by
  have hb0 := (Below.refl w.heap.size w).alloc (Nat.le_refl _) (.cells #[dv] 26)
  have HU := Lib.hid (hu.below hb0); have HO := Lib.hid (ho.below hb0); have HB0 := Lib.hid hb0
  have HBX := Lib.hid (Box1.new dv 26 w)
  have hl0 := P.place_lo o l; have hl1 := P.place_lt (o := o) (l := l)
  obtain ⟨ad, cap, rfl, hll, _⟩ := hu
  obtain ⟨od, oc, rfl, _, _⟩ := ho
  clear hb0
  go_enter Tryz.func74, Tryz.ntmps74
  go_wp2_with fail
  refine (dicFind _ _ l o _ HU.out HO.out).mono ?_
  rintro e w1 ⟨rfl, hb⟩
  have HU1 := Lib.hid (HU.out.below hb)
  obtain ⟨b0, _⟩ := HBX.out.below hb
  have HB1 := Lib.hid (HB0.out.trans (hb.mono (by simp)))
  clear hb HU HO HB0 HBX
  by_cases hneg : P.place o l < 0
  · have HN := Lib.hid (show P.hasE o l = false by unfold P.hasE; exact decide_eq_false (by omega))
    go_wp2
    refine bodyPost_ret (v := .tuple #[.string (S []), .bool false]) (by simp [results, Tryz.results74, go_sem]) rfl ⟨by rw [P.textAt_not HN.out, HN.out], HB1.out⟩
  · have HN := Lib.hid (show P.hasE o l = true by unfold P.hasE; exact decide_eq_true (by omega))
    obtain ⟨i, hi⟩ := Int.eq_ofNat_of_zero_le (show 0 ≤ P.place o l by omega)
    have hil : i < l.length := by omega
    obtain ⟨g, p, rfl, hgl, x, c0, c1, hx⟩ := HU1.out.at i hil
    rw [P.textAt_place hi hil] at c1
    rw [hi] at hneg ⊢
    have i1 : (i : Int) < (l.length : Int) := by omega
    clear hl0 hl1 hi c0 hx
    go_wp2
    refine bodyPost_ret (v := .tuple #[.string (S (P.textAt o l)), .bool true]) (by simp [results, Tryz.results74, go_sem]) rfl ⟨by rw [HN.out], HB1.out⟩
theorem impl_lookup (dv ov : Value) (l : P.Dic) (o : List Int) (w : World) (hu : EntR w dv l) (ho : IntR w ov o) (hs : Small l) (hE : Env w) :
    Calls Tryz.prog 24 #[.agg #[dv], ov] w fun e w' => e = .returned (.tuple #[.string (S (P.lookD o l).1), .bool (P.lookD o l).2]) ∧ Below w.heap.size w w' := by
  have hb0 := (Below.refl w.heap.size w).alloc (Nat.le_refl _) (.cells #[dv] 26)
  have HU := Lib.hid (hu.below hb0); have HO := Lib.hid (ho.below hb0); have HB0 := Lib.hid hb0
  have HBX := Lib.hid (Box1.new dv 26 w); have HSM := Lib.hid hs
  have HE := Lib.hid (hE.below hb0 hE.size)
  obtain ⟨ad, cap, rfl, hll, _⟩ := hu
  obtain ⟨od, oc, rfl, _, _⟩ := ho
  clear hb0 hs
  go_enter Tryz.func24, Tryz.ntmps24
  go_wp2_with fail
  refine (isValidDictionary _ l _ HU.out HSM.out.texts HE.out).mono ?_
  rintro e w1 ⟨rfl, hb⟩
  have HU1 := Lib.hid (HU.out.below hb); have HO1 := Lib.hid (HO.out.below hb)
  obtain ⟨b0, _⟩ := HBX.out.below hb
  have HB1 := Lib.hid (HB0.out.trans (hb.mono (by simp)))
  clear hb HU HO HB0 HBX
  cases hd : P.dic l
  · have HD := Lib.hid (show P.lookD o l = ([], false) by unfold P.lookD; rw [hd]; rfl); clear hd
    go_wp2
    refine bodyPost_ret (v := .tuple #[.string (S []), .bool false]) (by simp [results, Tryz.results24, go_sem]) rfl ⟨by rw [HD.out], HB1.out⟩
  · have HD := Lib.hid (show P.lookD o l = (P.textAt o l, P.hasE o l) by unfold P.lookD; rw [hd]; rfl); clear hd
    go_wp2_with fail
    refine (dicLookup _ _ l o _ HU1.out HO1.out).mono ?_
    rintro e w2 ⟨rfl, hb⟩
    have HB2 := Lib.hid (HB1.out.trans (hb.mono HB1.out.size))
    clear hb
    go_wp2
    refine bodyPost_ret (v := .tuple #[.string (S (P.textAt o l)), .bool (P.hasE o l)]) (by simp [results, Tryz.results24, go_sem]) rfl ⟨by rw [HD.out], HB2.out⟩
end Go.Proofs.YtmlklnimoknojaaGreatDoor
namespace Go.Proofs.YtmlklnimoknojaaGreatDoor
namespace P
def begins (o p : List Int) : Bool := decide (p.length ≤ o.length) && decide (o.take p.length = p)
end P
open Go Go.RowKit
set_option maxHeartbeats 2000000
set_option maxRecDepth 100000
theorem IntR.take {v : World} {ad : Option Addr} {cap k : Nat} {l : List Int} (h : IntR v (.slice ad l.length cap) l) (hk : k ≤ l.length) : IntR v (.slice ad k cap) (l.take k) := by
  obtain ⟨ad', cap', he, h1, hn, h3⟩ := h
  injection he with e1 e2 e3
  subst e1 e3
  have hlk : (l.take k).length = k := by rw [List.length_take]; omega
  refine ⟨ad, cap, by rw [hlk], by omega, hn, ?_⟩
  rcases h3 with h3 | ⟨g, o, h4, h5, h6⟩
  · left; rw [h3]; simp
  · refine .inr ⟨g, o, h4, h5, fun j hj => ?_⟩
    have hj' : j < l.length := by omega
    rw [List.getElem_take]
    exact h6 j hj'
end Go.Proofs.YtmlklnimoknojaaGreatDoor
namespace Go.Proofs.YtmlklnimoknojaaGreatDoor
namespace P
theorem testBit_mod (n k : Nat) : n / 2 ^ k % 2 = if n.testBit k then 1 else 0 := by
  rw [Nat.testBit_eq_decide_div_mod_eq]
  by_cases h : n / 2 ^ k % 2 = 1
  · rw [h]; simp
  · have : n / 2 ^ k % 2 = 0 := by omega
    rw [this]; simp
end P
open Go Go.RowKit
set_option maxHeartbeats 2000000
set_option maxRecDepth 100000
theorem areLetters (s : Str) (w : World) (hs : s.length ≤ maxLen) :
    Calls Tryz.prog 185 #[.string (S s)] w fun e w' => e = .returned (.bool (s.all P.lower)) ∧ w = w' := by
  unfold maxLen at hs
  go_enter Tryz.func185, Tryz.ntmps185
  go_wp2
  go_loop [3, 6] (fun _ i => ∃ k : Nat, k ≤ s.length ∧ i = .int .i64 k ∧ (s.take k).all P.lower = true) (fun _ i => s.length - (intOf i).toNat)
  case atStart => exact ⟨0, by omega, rfl, by simp⟩
  case round =>
    obtain ⟨k, hk, rfl, ha⟩ := hrel
    have HA := Lib.hid ha; clear ha
    by_cases hlt : k < s.length
    · rcases Int.lt_or_le (s[k].toNat : Int) 97 with h1 | h1
      · have H := Lib.hid h1
        go_wp2
        go_ret
        exact ⟨ret_bool (P.all_false hlt (P.lower_no (.inl H.out))).symm, rfl⟩
      · rcases Int.lt_or_le 122 (s[k].toNat : Int) with h2 | h2
        · have H := Lib.hid h2
          go_wp2
          go_ret
          exact ⟨ret_bool (P.all_false hlt (P.lower_no (.inr H.out))).symm, rfl⟩
        · have HL := Lib.hid (P.lower_yes h1 h2)
          go_wp2
          go_round
          case rel => exact ⟨k + 1, by omega, by go_num, all_snoc k hlt HA.out HL.out⟩
          case measure => simp [intOf]; omega
    · have HT := Lib.hid (show s.all P.lower = true by rw [← List.take_of_length_le (l := s) (i := k) (by omega)]; exact HA.out)
      go_wp2
      go_ret
      exact ⟨ret_bool HT.out.symm, rfl⟩
theorem wraps_i64 (n : Int) (h0 : 0 ≤ n) (h1 : n < 2 ^ 40) : IntKind.i64.wrap n = n := by rw [IntKind.wrap_i64]; omega
theorem and_one {m k : Nat} (hm : m < 2 ^ 23) : bits .and .i64 ((m : Int) / 2 ^ k) 1 = if m.testBit k then 1 else 0 := by
  have e : ((m : Int) / 2 ^ k) = ((m / 2 ^ k : Nat) : Int) := by simp
  have hd : m / 2 ^ k < 2 ^ 40 := by have := Nat.div_le_self m (2 ^ k); omega
  have h := (bits_nat .i64 40 (by decide) wraps_i64 (m / 2 ^ k) 1 hd (by decide)).1
  rw [e]
  have h' : bits .and .i64 ((m / 2 ^ k : Nat) : Int) 1 = ((m / 2 ^ k &&& 1 : Nat) : Int) := h
  rw [h', Nat.and_one_is_mod, P.testBit_mod]
  split <;> rfl
end Go.Proofs.YtmlklnimoknojaaGreatDoor
namespace Go.Proofs.YtmlklnimoknojaaGreatDoor
namespace P
theorem vow_idx (b : UInt8) : decide (0 ≤ Go.Lib.indexByte [97, 101, 105, 111, 117] b) = vow b := by
  by_cases hm : b ∈ ([97, 101, 105, 111, 117] : List UInt8)
  · rw [decide_eq_true (idx_pos hm)]
    simp only [List.mem_cons, List.not_mem_nil, or_false] at hm
    rcases hm with rfl | rfl | rfl | rfl | rfl <;> decide
  · rw [idx_neg (fun x hx e => hm (by rw [← e]; exact hx))]
    simp only [List.mem_cons, List.not_mem_nil, or_false, not_or] at hm
    obtain ⟨a1, a2, a3, a4, a5⟩ := hm
    simp [vow, a1, a2, a3, a4, a5]
end P
open Go Go.RowKit
set_option maxHeartbeats 2000000
set_option maxRecDepth 100000
theorem isWordI (s : Str) (w : World) (hs : s.length ≤ 2 ^ 40) :
    Calls Tryz.prog 289 #[.string (S s)] w fun e w' => e = .returned (.bool (P.isWord s)) ∧ w = w' := by
  have HW := Lib.hid (show P.isWord s = (s.all P.lower && decide (1 ≤ (s.length : Int) ∧ (s.length : Int) ≤ 24)) from rfl)
  have HM := Lib.hid (show s.length ≤ maxLen by unfold maxLen; omega)
  obtain ⟨q, hq⟩ : ∃ q, decide (1 ≤ (s.length : Int) ∧ (s.length : Int) ≤ 24) = q := ⟨_, rfl⟩
  rw [hq] at HW
  cases q
  · go_enter Tryz.func289, Tryz.ntmps289
    go_wp2_with (go_at_call 125; refine (impl_in _ _ _ _).mono ?_; rintro e w' ⟨rfl, rfl⟩)
    go_ret
    exact ⟨ret_bool (by rw [HW.out]; simp), rfl⟩
  · go_enter Tryz.func289, Tryz.ntmps289
    go_wp2_with fail
    refine (impl_in _ _ _ _).mono ?_
    rintro e w1 ⟨rfl, rfl⟩
    rw [hq]
    clear hq
    go_wp2_with fail
    refine (areLetters s _ HM.out).mono ?_
    rintro e w1 ⟨rfl, rfl⟩
    go_wp2
    go_ret
    exact ⟨ret_bool (by rw [HW.out]; simp), rfl⟩
theorem idxVow (b : UInt8) (w : World) :
    Calls Tryz.prog 280 #[.string (S [97, 101, 105, 111, 117]), .int .u8 b.toNat] w fun e w' => e = .returned (.int .i64 (Lib.indexByte [97, 101, 105, 111, 117] b)) ∧ w = w' := by
  refine (Tryz.strings_IndexByte (S [97, 101, 105, 111, 117]) b.toNat w).mono ?_
  rintro e w' ⟨rfl, rfl⟩
  refine ⟨?_, rfl⟩
  rw [S_dataList]
  simp
theorem isVowel (b : UInt8) (w : World) :
    Calls Tryz.prog 293 #[.int .u8 b.toNat] w fun e w' => e = .returned (.bool (P.vow b)) ∧ w = w' := by
  go_enter Tryz.func293, Tryz.ntmps293
  go_wp2_with (go_at_call 280; refine (idxVow _ _).mono ?_; rintro e w' ⟨rfl, rfl⟩)
  go_ret
  exact ⟨ret_bool (P.vow_idx b), rfl⟩
theorem vowelGroups (s : Str) (w : World) (hs : s.length ≤ 2 ^ 30) :
    Calls Tryz.prog 295 #[.string (S s)] w fun e w' => e = .returned (.int .i64 (P.vgroups s)) ∧ w = w' := by
  go_enter Tryz.func295, Tryz.ntmps295
  go_wp2
  go_loop [3, 4, 7] (fun n _ i => ∃ k : Nat, k ≤ s.length ∧ i = .int .i64 k ∧ n = .int .i64 (P.vgroupsN s k)) (fun _ _ i => s.length - (intOf i).toNat)
  case atStart => exact ⟨0, Nat.zero_le _, rfl, rfl⟩
  case round =>
    obtain ⟨k, hk, rfl, rfl⟩ := hrel
    have hg := P.vgroupsN_le s k
    by_cases hlt : k < s.length
    · have i1 : (k : Int) < (s.length : Int) := by omega
      have HY := Lib.hid (P.vgroupsN_yes (s := s) (k := k)); have HN := Lib.hid (P.vgroupsN_no (s := s) (k := k))
      generalize P.vgroupsN s k = gn at *
      rcases k with _ | m
      · rw [P.vbegins_0 hlt] at HY HN
        obtain ⟨q, hq⟩ : ∃ q, P.vow (s[0]'hlt) = q := ⟨_, rfl⟩
        rw [hq] at HY HN
        cases q
        · have HZ := Lib.hid (HN.out rfl)
          clear HY HN
          go_wp2_with (go_at_call 293; refine (isVowel _ _).mono ?_; rintro e w' ⟨rfl, rfl⟩)
          go_round
          case rel => exact ⟨1, by omega, by go_num, by rw [show (1 : Nat) = 0 + 1 from rfl, HZ.out]⟩
          case measure => simp [intOf]; omega
        · have HZ := Lib.hid (HY.out rfl)
          clear HY HN
          go_wp2_with (go_at_call 293; refine (isVowel _ _).mono ?_; rintro e w' ⟨rfl, rfl⟩)
          go_round
          case rel => exact ⟨1, by omega, by go_num, by rw [show (1 : Nat) = 0 + 1 from rfl, HZ.out]; go_num⟩
          case measure => simp [intOf]; omega
      · rw [P.vbegins_s hlt] at HY HN
        have hm : m < s.length := by omega
        have i2 : (((m + 1 : Nat) : Int) == 0) = false := by rw [beq_eq_false_iff_ne]; omega
        have i3 : ((m + 1 : Nat) : Int) - 1 = (m : Int) := by omega
        obtain ⟨q, hq⟩ : ∃ q, P.vow (s[m + 1]'hlt) = q := ⟨_, rfl⟩
        obtain ⟨r, hr⟩ : ∃ r, P.vow (s[m]'hm) = r := ⟨_, rfl⟩
        rw [hq, hr] at HY HN
        cases q
        · have HZ := Lib.hid (HN.out rfl)
          clear HY HN
          go_wp2_with (go_at_call 293; refine (isVowel _ _).mono ?_; rintro e w' ⟨rfl, rfl⟩)
          go_round
          case rel => exact ⟨m + 1 + 1, by omega, by go_num, by rw [HZ.out]⟩
          case measure => simp [intOf]; omega
        · cases r
          · have HZ := Lib.hid (HY.out rfl)
            clear HY HN
            go_wp2_with (go_at_call 293; refine (isVowel _ _).mono ?_; rintro e w' ⟨rfl, rfl⟩)
            go_round
            case rel => exact ⟨m + 1 + 1, by omega, by go_num, by rw [HZ.out]; go_num⟩
            case measure => simp [intOf]; omega
          · have HZ := Lib.hid (HN.out rfl)
            clear HY HN
            go_wp2_with (go_at_call 293; refine (isVowel _ _).mono ?_; rintro e w' ⟨rfl, rfl⟩)
            go_round
            case rel => exact ⟨m + 1 + 1, by omega, by go_num, by rw [HZ.out]⟩
            case measure => simp [intOf]; omega
    · have i1 : ¬ (k : Int) < (s.length : Int) := by omega
      have HE := Lib.hid (show P.vgroups s = P.vgroupsN s k by unfold P.vgroups; rw [show s.length = k by omega])
      go_wp2
      go_ret
      exact ⟨ret_int (by rw [HE.out]), rfl⟩
theorem suffix_any (s e : Str) (w : World) (hs : s.length ≤ 2 ^ 40) :
    Calls Tryz.prog 303 #[.string (S s), .string (S e)] w fun e' w' => e' = .returned (.bool (P.ends s e)) ∧ w = w' := by
  refine (Tryz.strings_HasSuffix (S s) (S e) w (by rw [S_size]; omega)).mono ?_
  rintro e' w' ⟨rfl, rfl⟩
  rw [S_dataList, S_dataList]
  exact ⟨rfl, rfl⟩
theorem endsStep (C : Nat) (s e : Str) (w : World) (hC : w.cell? ⟨C, 0, none⟩ = some (.string (S s))) (hs : s.length ≤ 2 ^ 40) :
    Calls Tryz.prog 302 #[.string (S e), .pointer (some ⟨C, 0, none⟩)] w fun e' w' => e' = .returned (.bool (P.ends s e)) ∧ w = w' := by
  go_enter Tryz.func302, Tryz.ntmps302
  go_wp2_with (go_at_call 303; refine (suffix_any _ _ _ hs).mono ?_; rintro e' w' ⟨rfl, rfl⟩)
  go_ret
  exact ⟨rfl, rfl⟩
theorem indexEnds (g cap C : Nat) (s : Str) (l : List Str) (w : World) (hg : ∀ (j : Nat) (h : j < l.length), w.cell? ⟨g, j, none⟩ = some (.string (S (l[j]'h)))) (hC : w.cell? ⟨C, 0, none⟩ = some (.string (S s))) (hs : s.length ≤ 2 ^ 40) (hl : l.length ≤ 100) :
    Calls Tryz.prog 309 #[.slice (some ⟨g, 0, none⟩) l.length cap, .func (Fn.func 302) #[] #[.pointer (some ⟨C, 0, none⟩)]] w fun e w' => (∃ i : Int, e = .returned (.int .i64 i) ∧ decide (0 ≤ i) = l.any (P.ends s)) ∧ w = w' := by
  have HG := Lib.hid hg; have HC := Lib.hid hC; have HS := Lib.hid hs
  clear hg hC hs
  go_enter Tryz.func309, Tryz.ntmps309
  go_wp2
  go_loop [5, 8] (fun _ i => ∃ j : Nat, j ≤ l.length ∧ i = .int .i64 j ∧ (∀ f ∈ l.take j, P.ends s f = false)) (fun _ i => l.length - (intOf i).toNat)
  case atStart => exact ⟨0, Nat.zero_le _, rfl, (fun f h => by simp at h)⟩
  case round =>
    obtain ⟨j, hj, rfl, hn⟩ := hrel
    have HN := Lib.hid hn
    clear hn
    by_cases hlt : j < l.length
    · have c0 := HG.out j hlt
      have HHIT := Lib.hid (show P.ends s l[j] = true → decide (0 ≤ (j : Int)) = l.any (P.ends s) from fun h => by
        rw [decide_eq_true (by omega)]
        exact (List.any_eq_true.2 ⟨_, List.getElem_mem hlt, h⟩).symm)
      have HMISS := Lib.hid (show P.ends s l[j] = false → ∀ f ∈ l.take (j + 1), P.ends s f = false from fun h f hf => by
        rw [take_snoc l j hlt, List.mem_append, List.mem_singleton] at hf
        rcases hf with hf | rfl
        · exact HN.out f hf
        · exact h)
      generalize l[j] = x at *
      have i1 : (j : Int) < (l.length : Int) := by omega
      obtain ⟨b, hbv⟩ : ∃ b, P.ends s x = b := ⟨_, rfl⟩
      have HBV := Lib.hid hbv
      rw [hbv] at HHIT HMISS
      clear hbv
      cases b
      · have HQQ := Lib.hid (HMISS.out rfl)
        clear HHIT HMISS
        go_wp2_with fail
        refine (endsStep C s x _ HC.out HS.out).mono ?_
        rintro e w1 ⟨rfl, rfl⟩
        rw [HBV.out]
        go_wp2
        go_round
        case rel => exact ⟨j + 1, by omega, by go_num, HQQ.out⟩
        case measure => simp [intOf]; omega
      · have HPP := Lib.hid (HHIT.out rfl)
        clear HHIT HMISS
        go_wp2_with fail
        refine (endsStep C s x _ HC.out HS.out).mono ?_
        rintro e w1 ⟨rfl, rfl⟩
        rw [HBV.out]
        go_wp2
        go_ret
        exact ⟨⟨_, rfl, HPP.out⟩, rfl⟩
    · have HP := Lib.hid (show decide (0 ≤ (-1 : Int)) = l.any (P.ends s) by
        have h := HN.out
        rw [List.take_of_length_le (by omega)] at h
        have h2 : l.any (P.ends s) = false := List.any_eq_false.2 fun f hf => by rw [h f hf]; decide
        rw [h2]; rfl)
      go_wp2
      go_ret
      exact ⟨⟨_, rfl, HP.out⟩, rfl⟩
theorem containsEnds (g cap C : Nat) (s : Str) (l : List Str) (w : World) (hg : ∀ (j : Nat) (h : j < l.length), w.cell? ⟨g, j, none⟩ = some (.string (S (l[j]'h)))) (hC : w.cell? ⟨C, 0, none⟩ = some (.string (S s))) (hs : s.length ≤ 2 ^ 40) (hl : l.length ≤ 100) :
    Calls Tryz.prog 301 #[.slice (some ⟨g, 0, none⟩) l.length cap, .func (Fn.func 302) #[] #[.pointer (some ⟨C, 0, none⟩)]] w fun e w' => e = .returned (.bool (l.any (P.ends s))) ∧ w = w' := by
  have HG := Lib.hid hg; have HC := Lib.hid hC
  clear hg hC
  go_enter Tryz.func301, Tryz.ntmps301
  go_wp2_with fail
  refine (indexEnds g cap C s l _ HG.out HC.out hs hl).mono ?_
  rintro e w1 ⟨⟨i, rfl, hi⟩, rfl⟩
  have HI := Lib.hid hi
  clear hi
  go_wp2
  go_ret
  exact ⟨ret_bool (by rw [← HI.out]), rfl⟩
theorem endsWith (g cap : Nat) (s : Str) (l : List Str) (w : World) (hgl : g < w.heap.size) (hg : ∀ (j : Nat) (h : j < l.length), w.cell? ⟨g, j, none⟩ = some (.string (S (l[j]'h)))) (hs : s.length ≤ 2 ^ 40) (hl : l.length ≤ 100) :
    Calls Tryz.prog 294 #[.string (S s), .slice (some ⟨g, 0, none⟩) l.length cap] w fun e w' => e = .returned (.bool (l.any (P.ends s))) ∧ Below w.heap.size w w' := by
  have hb0 := (Below.refl w.heap.size w).alloc (Nat.le_refl _) (.cells #[.string (S s)] 9)
  have HB0 := Lib.hid hb0
  have HC := Lib.hid (show (w.alloc (.cells #[.string (S s)] 9)).cell? ⟨w.heap.size, 0, none⟩ = some (.string (S s)) by go_simp)
  have HG := Lib.hid (show ∀ (j : Nat) (h : j < l.length), (w.alloc (.cells #[.string (S s)] 9)).cell? ⟨g, j, none⟩ = some (.string (S (l[j]'h))) from fun j h => (hb0.cell (p := ⟨g, j, none⟩) hgl).trans (hg j h))
  clear hg hb0
  go_enter Tryz.func294, Tryz.ntmps294
  go_wp2_with fail
  refine (containsEnds g cap w.heap.size s l _ HG.out HC.out hs hl).mono ?_
  rintro e w1 ⟨rfl, rfl⟩
  go_wp2
  go_ret
  exact ⟨rfl, HB0.out⟩
end Go.Proofs.YtmlklnimoknojaaGreatDoor
