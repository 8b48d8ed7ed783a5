/- Walks: the reference reads an atom. Walks: the reference reads an atom and checks it. -/
import Derived.Test.YtmlklnimoknojaaGreatDoorAtomD
namespace Go.Proofs.YtmlklnimoknojaaGreatDoor
section
open Go Go.RowKit
set_option maxHeartbeats 2000000
set_option maxRecDepth 100000
theorem head_is {m : Str} (h : 0 < m.length) (c : UInt8) : ((m[0].toNat : Int) == (c.toNat : Int)) = (m.head? == some c) := by
  cases m with
  | nil => simp at h
  | cons a l => rw [u8_eq]; rfl
theorem last_is {m : Str} {j : Nat} (h : j < m.length) (hj : j = m.length - 1) (c : UInt8) : ((m[j].toNat : Int) == (c.toNat : Int)) = (m.getLast? == some c) := by
  subst hj
  rw [u8_eq, List.getLast?_eq_getElem?, List.getElem?_eq_getElem h]; rfl
def KindPost (s : Str) (w : World) (e : Ending) (w' : World) : Prop := e = .returned (atomV (P.kindOf s).1 (P.kindOf s).2) ∧ Below w.heap.size w w'
theorem l5Kind (s : Str) (w : World) (hs : s.length ≤ 2 ^ 40) :
    Calls Tryz.prog 230 #[.string (S s)] w (KindPost s w) := by
  by_cases h3 : s.length < 3
  · have HF := Lib.hid (show P.kindOf s = (1, s) by unfold P.kindOf; rw [if_pos (by simp [h3])])
    have h3' : (s.length : Int) < 3 := by omega
    go_enter Tryz.func230, Tryz.ntmps230
    go_wp2
    refine bodyPost_ret (v := atomV 1 s) (by simp [results, Tryz.results230, go_sem]) rfl ⟨by rw [HF.out], (Below.refl _ _).alloc (Nat.le_refl _) _⟩
  · have h3' : ¬ (s.length : Int) < 3 := by omega
    have hl0 : 0 < s.length := by omega
    have hl1 : s.length - 1 < s.length := by omega
    have e1 : ((s[0].toNat : Int) == 123) = (s.head? == some 123) := head_is hl0 123
    have e2 : ((s[s.length - 1].toNat : Int) == 125) = (s.getLast? == some 125) := last_is hl1 rfl 125
    cases hh : (s.head? == some 123)
    · have HF := Lib.hid (show P.kindOf s = (1, s) by unfold P.kindOf; rw [hh]; simp)
      rw [hh] at e1
      have e1' : ¬ (s[0].toNat : Int) = 123 := by simpa using e1
      clear hh e2 e1
      go_enter Tryz.func230, Tryz.ntmps230
      go_wp2
      refine bodyPost_ret (v := atomV 1 s) (by simp [results, Tryz.results230, go_sem]) rfl ⟨by rw [HF.out], (Below.refl _ _).alloc (Nat.le_refl _) _⟩
    · cases hg : (s.getLast? == some 125)
      · have HF := Lib.hid (show P.kindOf s = (1, s) by unfold P.kindOf; rw [hg]; simp)
        rw [hh] at e1
        rw [hg] at e2
        have e1' : (s[0].toNat : Int) = 123 := by simpa using e1
        have e2' : ¬ (s[s.length - 1].toNat : Int) = 125 := by simpa using e2
        clear hh hg e1 e2
        go_enter Tryz.func230, Tryz.ntmps230
        go_wp2
        refine bodyPost_ret (v := atomV 1 s) (by simp [results, Tryz.results230, go_sem]) rfl ⟨by rw [HF.out], (Below.refl _ _).alloc (Nat.le_refl _) _⟩
      · have HF := Lib.hid (show P.kindOf s = P.inner (s.tail.take (s.length - 1 - 1)) by
          unfold P.kindOf
          rw [hg, hh, if_neg (by simp; omega), List.drop_one]
          rfl)
        have HML := Lib.hid (show (s.tail.take (s.length - 1 - 1)).length = s.length - 2 by rw [List.length_take, List.length_tail]; omega)
        rw [hh] at e1
        rw [hg] at e2
        have e1' : (s[0].toNat : Int) = 123 := by simpa using e1
        have e2' : (s[s.length - 1].toNat : Int) = 125 := by simpa using e2
        clear hh hg e1 e2
        go_enter Tryz.func230, Tryz.ntmps230
        go_upto_region 5 with fail
        generalize hm : s.tail.take (s.length - 1 - 1) = m at *
        have hml := HML.out
        have HMM := Lib.hid hm
        clear hm e1' e2'
        have hm0 : 0 < m.length := by omega
        have hmu : m.length ≤ 2 ^ 40 := by omega
        have hm1 : m.length - 1 < m.length := by omega
        have d1 : ((m[0].toNat : Int) == 38) = (m.head? == some 38) := head_is hm0 38
        have d2 : ((m[0].toNat : Int) == 94) = (m.head? == some 94) := head_is hm0 94
        have d3 : ((m[m.length - 1].toNat : Int) == 94) = (m.getLast? == some 94) := last_is hm1 rfl 94
        clear hml HML
        obtain ⟨r, hr⟩ : ∃ r, r = P.inner m := ⟨_, rfl⟩
        rw [← hr] at HF
        have HR := Lib.hid hr; clear hr
        go_wp2
        all_goals
          refine bodyPost_ret (v := atomV r.1 r.2) (by rw [HR.out]; simp_all [P.inner, Nat.sub_sub, results, Tryz.results230, go_sem] <;> (split <;> first | (exfalso; omega) | simp)) rfl ⟨by rw [HF.out], (Below.refl _ _).alloc (Nat.le_refl _) _⟩
end
section
namespace P
theorem inner_len (m : List UInt8) : (inner m).2.length ≤ m.length := by
  unfold inner
  repeat' split
  all_goals first | exact Nat.zero_le _ | exact Nat.le_refl _ | (simp only [List.length_drop, List.length_take]; omega)
theorem kind_len (s : List UInt8) : (kindOf s).2.length ≤ s.length := by
  unfold kindOf
  split
  · exact Nat.le_refl _
  · refine Nat.le_trans (inner_len _) ?_
    rw [List.length_take, List.length_drop]; omega
end P
open Go Go.RowKit
set_option maxHeartbeats 1000000
set_option maxRecDepth 100000
theorem spec_parseAtom (s : Str) (w : World) (hs : s.length ≤ 2 ^ 30) :
    Calls Tryz.prog 209 #[.string (S s)] w (AtomPost s w) := by
  have hkl := P.kind_len s
  generalize hK : P.kindOf s = K at *
  obtain ⟨k, t⟩ := K
  have htl : t.length ≤ s.length := hkl
  clear hkl
  have htm : t.length ≤ maxLen := by unfold maxLen; omega
  have HK := Lib.hid hK
  have B0 : Below w.heap.size w (w.alloc (.cells #[.int .i64 0, .string (S [])] 153)) := (Below.refl _ _).alloc (Nat.le_refl _) _
  cases h1 : P.atom k t
  · have HF := Lib.hid (show P.parseS s = ((0, []), false) by unfold P.parseS; rw [hK]; simp only; rw [h1, Bool.false_and, if_neg (by decide)])
    clear hK
    go_enter Tryz.func209, Tryz.ntmps209
    go_wp2_with fail
    refine (l5Kind _ _ (by omega)).mono ?_
    rintro e w1 ⟨rfl, hb⟩
    rw [HK.out]
    have R1 := (BoxA.fresh w 0 [] 153).below hb
    have HB := B0.trans (hb.mono (by simp))
    have R2 := R1.below ((Below.refl _ _).alloc (Nat.le_refl _) (.cells #[.int .i64 k, .string (S t)] 153))
    have HB2 := HB.alloc HB.size (.cells #[.int .i64 k, .string (S t)] 153)
    have HR2 := Lib.hid R2; have HHB := Lib.hid HB2
    clear hb HB HB2 R1 R2
    go_wp2_with fail
    refine (l5Good _ _ _ htm).mono ?_
    rintro e w2 ⟨rfl, hb⟩
    rw [h1]
    have R3 := HR2.out.below hb
    have HB3 := Lib.hid (HHB.out.trans (hb.mono HHB.out.size))
    clear hb HR2 HHB
    obtain ⟨a1, a2, a3, a4, a5⟩ := R3
    go_wp2
    refine bodyPost_ret (v := .tuple #[atomV 0 [], .bool false]) (by simp [results, Tryz.results209, go_sem, a1, a2]) rfl ⟨by rw [HF.out], ?_⟩
    exact (HB3.out.setCell (Nat.le_refl _) _).setCell (Nat.le_refl _) _
  · obtain ⟨f, hf⟩ : ∃ f, P.note k t = f := ⟨_, rfl⟩
    have HN := Lib.hid hf
    have htn : (P.parseS s = if f == s then ((k, t), true) else ((0, []), false)) := by
      unfold P.parseS
      rw [hK]
      simp only
      rw [h1, hf, Bool.true_and]
    have HP := Lib.hid htn
    clear hK hf htn
    go_enter Tryz.func209, Tryz.ntmps209
    go_wp2_with fail
    refine (l5Kind _ _ (by omega)).mono ?_
    rintro e w1 ⟨rfl, hb⟩
    rw [HK.out]
    have R1 := (BoxA.fresh w 0 [] 153).below hb
    have HB := B0.trans (hb.mono (by simp))
    have R2 := R1.below ((Below.refl _ _).alloc (Nat.le_refl _) (.cells #[.int .i64 k, .string (S t)] 153))
    have A2 := BoxA.fresh w1 k t 153
    have HB2 := HB.alloc HB.size (.cells #[.int .i64 k, .string (S t)] 153)
    have HR2 := Lib.hid R2; have HHB := Lib.hid HB2; have HA2 := Lib.hid A2
    clear hb HB HB2 R1 R2 A2
    go_wp2_with fail
    refine (l5Good _ _ _ htm).mono ?_
    rintro e w2 ⟨rfl, hb⟩
    rw [h1]
    have HR3 := Lib.hid (HR2.out.below hb)
    have A3 := HA2.out.below hb
    have HA3 := Lib.hid A3
    have HB3 := Lib.hid (HHB.out.trans (hb.mono HHB.out.size))
    clear hb HR2 HHB HA2
    obtain ⟨b1, b2, b3, b4, b5⟩ := A3
    go_wp2_with fail
    refine (l5Format _ _ _ (by omega)).mono ?_
    rintro e w3 ⟨rfl, hb⟩
    rw [HN.out]
    have R4 := HR3.out.below hb
    have A4 := HA3.out.below hb
    have HB4 := Lib.hid (HB3.out.trans (hb.mono HB3.out.size))
    clear hb HR3 HA3 HB3 b1 b2 b3 b4 b5
    obtain ⟨a1, a2, a3, a4, a5⟩ := R4
    obtain ⟨b1, b2, b3, b4, b5⟩ := A4
    by_cases hfs : f = s
    · subst hfs
      have HF := Lib.hid (show P.parseS f = ((k, t), true) by rw [HP.out]; simp)
      go_wp2
      refine bodyPost_ret (v := .tuple #[atomV k t, .bool true]) (by simp [results, Tryz.results209, go_sem, a1, a2]) rfl ⟨by rw [HF.out], ?_⟩
      exact (HB4.out.setCell (Nat.le_refl _) _).setCell (Nat.le_refl _) _
    · have hfs' : (f == s) = false := beq_eq_false_iff_ne.2 hfs
      have HF := Lib.hid (show P.parseS s = ((0, []), false) by rw [HP.out, hfs']; rfl)
      go_wp2
      refine bodyPost_ret (v := .tuple #[atomV 0 [], .bool false]) (by simp [results, Tryz.results209, go_sem, a1, a2]) rfl ⟨by rw [HF.out], ?_⟩
      exact (HB4.out.setCell (Nat.le_refl _) _).setCell (Nat.le_refl _) _
end
end Go.Proofs.YtmlklnimoknojaaGreatDoor
