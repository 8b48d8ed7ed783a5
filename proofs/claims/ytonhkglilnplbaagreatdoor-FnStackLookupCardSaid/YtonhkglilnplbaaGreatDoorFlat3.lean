/- Walks: Flatten (reference, program). -/
import Derived.Deep.DeepCutAuto
import Derived.Test.YtonhkglilnplbaaGreatDoorFlat2
set_option linter.all false
namespace Go.Proofs.YtonhkglilnplbaaGreatDoor
namespace P
/-- a stack may be flattened -/
def flatOk (l : Lays) : Bool := stack l && decide ((flatS l).length ≤ 40)
end P
open Go Go.RowKit
set_option maxHeartbeats 4000000
set_option maxRecDepth 100000
abbrev FlatPost (l : P.Lays) := DkPost (P.flatOk l) (P.flatS l)
/-- the box of a stack and the box of the result -/
def TBox (W : Nat) (dv : Value) (v : World) : Prop :=
  v.cell? ⟨W, 0, none⟩ = some dv ∧ v.cell? ⟨W + 1, 0, none⟩ = some (.slice none 0 0) ∧ v.frozen? ⟨W + 1, 0, none⟩ = false ∧ W + 1 < v.heap.size
theorem TBox.below {W : Nat} {dv : Value} {v v' : World} (h : TBox W dv v) (hb : Below v.heap.size v v') : TBox W dv v' := by
  obtain ⟨a, b, c, d⟩ := h
  exact ⟨(hb.cell (p := ⟨W, 0, none⟩) (by show W < _; omega)).trans a, (hb.cell (p := ⟨W + 1, 0, none⟩) d).trans b, (hb.frozen (p := ⟨W + 1, 0, none⟩) d).trans c, Nat.lt_of_lt_of_le d hb.size⟩
theorem TBox.new (dv : Value) (w : World) (t u : TypeId) : TBox w.heap.size dv ((w.alloc (.cells #[dv] t)).alloc (.cells #[.slice none 0 0] u)) := by
  refine ⟨?_, ?_, ?_, ?_⟩ <;> go_simp
theorem flat_texts {l : P.Lays} (hs : SmallS l) (h : P.layers l = true) : ∀ e ∈ P.flatS l, e.2.length ≤ 2 ^ 30 := fun e he => by
  obtain ⟨y, hy, hey⟩ := P.seen_mem ((P.flatS_seen (P.layers_pair h)).1 he)
  exact (hs.each y hy).texts e hey
theorem flat_small {l : P.Lays} (hs : SmallS l) (h : P.stack l = true) : Small (P.flatS l) := by
  have hl := P.stack_layers h
  refine ⟨?_, fun e he => ?_, flat_texts hs hl⟩
  · have h1 := P.flatS_len hl; have h2 := P.stack_len h; omega
  · obtain ⟨y, hy, hey⟩ := P.seen_mem ((P.flatS_seen (P.layers_pair hl)).1 he)
    exact (hs.each y hy).outs e hey
theorem spec_flatten (dv : Value) (l : P.Lays) (w : World) (hu : LayR w dv l) (hs : SmallS l) :
    Calls Tryz.prog 60 #[.agg #[dv]] w (FlatPost l w) := by
  have hb0 : Below w.heap.size w ((w.alloc (.cells #[dv] 52)).alloc (.cells #[.slice none 0 0] 32)) := ((Below.refl w.heap.size w).alloc (Nat.le_refl _) _).alloc (by simp) _
  have HU := Lib.hid (hu.below hb0); have HB0 := Lib.hid hb0; clear hb0
  have HN := Lib.hid (TBox.new dv w 52 32)
  have HSM := Lib.hid hs; clear hs
  obtain ⟨ad, cap, rfl, _, _⟩ := hu
  go_enter Tryz.func60, Tryz.ntmps60
  go_wp2_with fail
  refine (spec_isValidStack _ l _ HU.out HSM.out.each).mono ?_
  rintro e w1 ⟨rfl, hb⟩
  have HU1 := Lib.hid (HU.out.below hb)
  have HN1 := Lib.hid (HN.out.below hb)
  have HB1 := Lib.hid (HB0.out.trans (hb.mono (by simp; omega)))
  clear hb HU HB0 HN
  cases hd : P.stack l
  · have HD := Lib.hid (show P.flatOk l = false by unfold P.flatOk; rw [hd]; rfl); clear hd
    obtain ⟨_, b0, f0, _⟩ := HN1.out
    go_wp2
    refine bodyPost_ret (v := .tuple #[.agg #[.slice none 0 0], .bool false]) (by simp [results, Tryz.results60, go_sem, b0]) rfl ⟨_, by rw [HD.out], ?_, ?_⟩
    · rw [HD.out]; exact RowO.nil _ _
    · exact HB1.out.setCell (by simp) _
  · have HST := Lib.hid hd; clear hd
    obtain ⟨a0, _⟩ := HN1.out
    go_wp2_with fail
    refine (l8Flat _ l _ HU1.out HSM.out HST.out).mono ?_
    rintro e w2 ⟨u2, rfl, hI, hb⟩
    have HZ1 := Lib.hid HN1.out.2.2.2
    have HN2 := Lib.hid (HN1.out.below hb)
    have HB2 := Lib.hid (HB1.out.trans (hb.mono HB1.out.size))
    have hba := (Below.refl w2.heap.size w2).alloc (Nat.le_refl _) (.cells #[u2] 32)
    have HZ2 := Lib.hid (show w1.heap.size ≤ w2.heap.size from hb.size)
    have HI := Lib.hid hI
    obtain ⟨u2d, u2c, rfl, _, _⟩ := hI
    have HI2 := Lib.hid (show Ents _ _ _ (P.flatS l) from HI.out.below entE_ok hba)
    have HN3 := Lib.hid (HN2.out.below hba)
    have HB3 := Lib.hid (HB2.out.trans (hba.mono HB2.out.size))
    have HC2 := Lib.hid (show (w2.alloc (.cells #[.slice u2d (P.flatS l).length u2c] 32)).cell? ⟨w2.heap.size, 0, none⟩ = some (.slice u2d (P.flatS l).length u2c) by go_simp)
    clear hb hba HN1 HB1 HN2 HB2 HU1 a0
    go_wp2_with fail
    refine (l6Good _ (P.flatS l) _ (Ents.read HI2.out) (flat_texts HSM.out (P.stack_layers HST.out))).mono ?_
    rintro e w3 ⟨rfl, hb⟩
    rw [P.flatS_dic (P.stack_layers HST.out)]
    have HN4 := Lib.hid (HN3.out.below hb)
    have HB4 := Lib.hid (HB3.out.trans (hb.mono HB3.out.size))
    have HI3 := Lib.hid (show Ents _ _ _ (P.flatS l) from HI2.out.below entE_ok hb)
    have c2 := (hb.cell (p := ⟨w2.heap.size, 0, none⟩) (by simp)).trans HC2.out
    have HZ3 := Lib.hid (show w2.heap.size < w3.heap.size by have := hb.size; simp at this; omega)
    clear hb HN3 HB3 HI2 HC2
    obtain ⟨_, b0, f0, _⟩ := HN4.out
    cases hlen : decide ((P.flatS l).length ≤ 40)
    · have HD := Lib.hid (show P.flatOk l = false by unfold P.flatOk; rw [HST.out, hlen]; rfl); clear hlen
      go_wp2
      refine bodyPost_ret (v := .tuple #[.agg #[.slice none 0 0], .bool false]) (by simp [results, Tryz.results60, go_sem, b0]) rfl ⟨_, by rw [HD.out], ?_, ?_⟩
      · rw [HD.out]; exact RowO.nil _ _
      · exact HB4.out.setCell (by simp) _
    · have HD := Lib.hid (show P.flatOk l = true by unfold P.flatOk; rw [HST.out, hlen]; rfl); clear hlen
      go_wp2
      refine bodyPost_ret (v := .tuple #[.agg #[.slice u2d (P.flatS l).length u2c], .bool true]) (by simp [results, Tryz.results60, go_sem, b0]) rfl ⟨_, by rw [HD.out], ?_, ?_⟩
      · rw [HD.out]
        show Ents _ _ _ (P.flatS l)
        refine ents_done (w.heap.size + 1) HI3.out fun b hb => ?_
        have h1 := hb.1; have h2 := hb.2; have h3 := HZ3.out; have h4 := HZ1.out
        omega
      · exact HB4.out.setCell (by simp) _
theorem impl_flatten (dv : Value) (l : P.Lays) (w : World) (hu : LayR w dv l) (hs : SmallS l) (hE : Env w) :
    Calls Tryz.prog 46 #[.agg #[dv]] w (FlatPost l w) := by
  have hb0 : Below w.heap.size w ((w.alloc (.cells #[dv] 52)).alloc (.cells #[.slice none 0 0] 32)) := ((Below.refl w.heap.size w).alloc (Nat.le_refl _) _).alloc (by simp) _
  have HU := Lib.hid (hu.below hb0); have HB0 := Lib.hid hb0; have HE := Lib.hid (hE.below hb0 hE.size); clear hb0
  have HN := Lib.hid (TBox.new dv w 52 32)
  have HSM := Lib.hid hs; clear hs
  obtain ⟨ad, cap, rfl, _, _⟩ := hu
  go_enter Tryz.func46, Tryz.ntmps46
  go_wp2_with fail
  refine (impl_isValidStack _ l _ HU.out HSM.out.each HE.out).mono ?_
  rintro e w1 ⟨rfl, hb⟩
  have HU1 := Lib.hid (HU.out.below hb)
  have HN1 := Lib.hid (HN.out.below hb)
  have HB1 := Lib.hid (HB0.out.trans (hb.mono (by simp; omega)))
  clear hb HU HB0 HN HE
  cases hd : P.stack l
  · have HD := Lib.hid (show P.flatOk l = false by unfold P.flatOk; rw [hd]; rfl); clear hd
    obtain ⟨_, b0, f0, _⟩ := HN1.out
    go_wp2
    refine bodyPost_ret (v := .tuple #[.agg #[.slice none 0 0], .bool false]) (by simp [results, Tryz.results46, go_sem, b0]) rfl ⟨_, by rw [HD.out], ?_, ?_⟩
    · rw [HD.out]; exact RowO.nil _ _
    · exact HB1.out.setCell (by simp) _
  · have HST := Lib.hid hd; clear hd
    obtain ⟨a0, _⟩ := HN1.out
    go_wp2_with fail
    refine (stackEntries _ l _ HU1.out HSM.out HST.out).mono ?_
    rintro e w2 ⟨u2, rfl, hI, hb⟩
    have HZ1 := Lib.hid HN1.out.2.2.2
    have HU2 := Lib.hid (HU1.out.below hb)
    have HN2 := Lib.hid (HN1.out.below hb)
    have HB2 := Lib.hid (HB1.out.trans (hb.mono HB1.out.size))
    have HZ2 := Lib.hid (show w1.heap.size ≤ w2.heap.size from hb.size)
    obtain ⟨u2d, u2c, rfl, _, _⟩ := hI
    clear hb HN1 HB1 HU1 a0
    obtain ⟨a0, b0, f0, _⟩ := HN2.out
    by_cases hlen : (40 : Int) < ((P.flatS l).length : Int)
    · have HD := Lib.hid (show P.flatOk l = false by unfold P.flatOk; rw [HST.out, decide_eq_false (by omega)]; rfl)
      go_wp2
      refine bodyPost_ret (v := .tuple #[.agg #[.slice none 0 0], .bool false]) (by simp [results, Tryz.results46, go_sem, b0]) rfl ⟨_, by rw [HD.out], ?_, ?_⟩
      · rw [HD.out]; exact RowO.nil _ _
      · exact HB2.out.setCell (by simp) _
    · have HD := Lib.hid (show P.flatOk l = true by unfold P.flatOk; rw [HST.out, decide_eq_true (by omega)]; rfl)
      clear b0 f0
      go_wp2_with fail
      refine (stackEntries _ l _ HU2.out HSM.out HST.out).mono ?_
      rintro e w3 ⟨u3, rfl, hI, hb⟩
      have HN3 := Lib.hid (HN2.out.below hb)
      have HB3 := Lib.hid (HB2.out.trans (hb.mono HB2.out.size))
      have HI := Lib.hid hI
      obtain ⟨u3d, u3c, rfl, _, _⟩ := hI
      clear hb
      obtain ⟨_, b0, f0, _⟩ := HN3.out
      go_wp2
      refine bodyPost_ret (v := .tuple #[.agg #[.slice u3d (P.flatS l).length u3c], .bool true]) (by simp [results, Tryz.results46, go_sem, b0]) rfl ⟨_, by rw [HD.out], ?_, ?_⟩
      · rw [HD.out]
        show Ents _ _ _ (P.flatS l)
        refine ents_done (w.heap.size + 1) HI.out fun b hb => ?_
        have h1 := hb.1; have h2 := hb.2; have h3 := HZ2.out; have h4 := HZ1.out
        omega
      · exact HB3.out.setCell (by simp) _
end Go.Proofs.YtonhkglilnplbaaGreatDoor
