/- Walks: SetEnabled (reference, program). -/
import Derived.Deep.DeepCutAuto
import Derived.IntWalk
import Derived.Test.YtfoajpehmbojbaaGreatDoorLay7
namespace Go.Proofs.YtfoajpehmbojbaaGreatDoor
open Go Go.RowKit
set_option maxHeartbeats 4000000
set_option maxRecDepth 100000
/-- the box of a stack and the box of the result -/
def SkBox (W : Nat) (dv : Value) (v : World) : Prop :=
  v.cell? ⟨W, 0, none⟩ = some dv ∧ v.cell? ⟨W + 1, 0, none⟩ = some (.slice none 0 0) ∧ v.frozen? ⟨W + 1, 0, none⟩ = false ∧ W + 1 < v.heap.size
theorem SkBox.stand {W : Nat} {dv : Value} {v v' : World} {X : Blk} (h : SkBox W dv v) (hc : Chg X v v') (h0 : ¬ X W) (h1 : ¬ X (W + 1)) : SkBox W dv v' := by
  obtain ⟨a, b, c, d⟩ := h
  exact ⟨(hc.cell (p := ⟨W, 0, none⟩) (by show W < _; omega) h0).trans a, (hc.cell (p := ⟨W + 1, 0, none⟩) d h1).trans b, (hc.frozen (p := ⟨W + 1, 0, none⟩) d h1).trans c, Nat.lt_of_lt_of_le d hc.size⟩
theorem SkBox.below {W : Nat} {dv : Value} {v v' : World} (h : SkBox W dv v) (hb : Below v.heap.size v v') : SkBox W dv v' := h.stand (Below.chg hb fun _ => False) (fun h => h) (fun h => h)
theorem SkBox.new (dv : Value) (v : World) : SkBox v.heap.size dv ((v.alloc (.cells #[dv] 56)).alloc (.cells #[.slice none 0 0] 56)) := by
  refine ⟨?_, ?_, ?_, ?_⟩ <;> go_simp
/-- a result of a stack's function: the row, the answer -/
def SkPost (ok : Bool) (l : P.Lays) (w : World) (e : Ending) (w' : World) : Prop :=
  ∃ u, e = .returned (.tuple #[.agg #[u], .bool ok]) ∧ Lays w' (Bet w.heap.size w'.heap.size) u (P.keptL ok l) ∧ Below w.heap.size w w'
abbrev SetPost (i : Int) (t : Bool) (l : P.Lays) := SkPost (P.setOk i l) (P.setOn i.toNat t l)
/-- the row with the switched layer, behind the result's store -/
theorem set_done {w v : World} {A B : Nat} {u x : Value} {l : P.Lays} (h : Lays v (Bet A B) u l) (hA : w.heap.size + 1 < A) (hB : B ≤ v.heap.size) : Lays (v.setCell ⟨w.heap.size + 1, 0, none⟩ x) (Bet w.heap.size (v.setCell ⟨w.heap.size + 1, 0, none⟩ x).heap.size) u l := by
  refine (h.stand (X := fun b => b = w.heap.size + 1) layE_ok ((Chg.refl (fun b => b = w.heap.size + 1) v).setCell (p := ⟨w.heap.size + 1, 0, none⟩) rfl _) ?_).wide ?_ ?_
  · intro b hb e; have := hb.1; omega
  · intro b hb; have h1 := hb.1; have h2 := hb.2; exact ⟨by omega, by simp [World.setCell]; omega⟩
  · intro b hb; exact hb.2
theorem spec_setEnabled (dv : Value) (l : P.Lays) (i : Int) (t : Bool) (w : World) (hu : LayR w dv l) (hs : SmallS l) :
    Calls Tryz.prog 29 #[.agg #[dv], .int .i64 i, .bool t] w (SetPost i t l w) := by
  have hb0 : Below w.heap.size w ((w.alloc (.cells #[dv] 56)).alloc (.cells #[.slice none 0 0] 56)) := ((Below.refl w.heap.size w).alloc (Nat.le_refl _) _).alloc (by simp) _
  have HU := Lib.hid (hu.below hb0)
  have HB0 := Lib.hid hb0; clear hb0
  have HN := Lib.hid (SkBox.new dv w)
  have HSM := Lib.hid hs; clear hs
  obtain ⟨ad, cap, rfl, _, _⟩ := hu
  go_enter Tryz.func29, Tryz.ntmps29
  go_wp2_with fail
  refine (l8At _ l i _ HU.out HSM.out.len HSM.out.each).mono ?_
  rintro e w1 ⟨rfl, hb⟩
  have HU1 := Lib.hid (HU.out.below hb)
  have HN1 := Lib.hid (HN.out.below hb)
  have HB1 := Lib.hid (HB0.out.trans (hb.mono (by simp; omega)))
  clear hb HU HB0 HN
  cases hd : P.setOk i l
  · have HD := Lib.hid hd; clear hd
    obtain ⟨_, b0, f0, _⟩ := HN1.out
    go_wp2
    refine bodyPost_ret (v := .tuple #[.agg #[.slice none 0 0], .bool false]) (by simp [results, Tryz.results29, go_sem, b0]) rfl ⟨_, by rw [HD.out], ?_, ?_⟩
    · rw [HD.out]; exact RowO.nil _ _
    · exact HB1.out.setCell (by simp) _
  · have HD := Lib.hid hd
    have hrng : 0 ≤ i ∧ i ≤ (l.length : Int) - 1 := by
      unfold P.setOk P.inL at hd; simp only [Bool.and_eq_true, decide_eq_true_eq] at hd; exact hd.2
    obtain ⟨n, rfl⟩ := Int.eq_ofNat_of_zero_le hrng.1
    have hnl : n < l.length := by omega
    clear hd hrng
    obtain ⟨a0, _⟩ := HN1.out
    go_wp2_with fail
    refine (l8Own _ l _ HU1.out HSM.out.len HSM.out.each).mono ?_
    rintro e w2 ⟨u, rfl, hI, hb⟩
    have hW1 : w.heap.size + 1 < w1.heap.size := HN1.out.2.2.2
    have hz2 : w1.heap.size ≤ w2.heap.size := hb.size
    have HN2 := Lib.hid (HN1.out.below hb)
    have HB2 := Lib.hid (HB1.out.trans (hb.mono HB1.out.size))
    clear hb HU1 HB1 HN1 a0
    obtain ⟨ud, uc, rfl, _, _⟩ := id hI
    obtain ⟨g, o, rfl, hFg, hgs, ⟨y, c1⟩, f1, hsw⟩ := Lays.switch hI n hnl t
    have hg1 : w1.heap.size ≤ g := hFg.1
    have hsz : (w2.setCell ⟨g, o + n * 2 + 1, none⟩ (.bool t)).heap.size = w2.heap.size := by simp [World.setCell]
    have hba := (Below.refl (w2.setCell ⟨g, o + n * 2 + 1, none⟩ (.bool t)).heap.size (w2.setCell ⟨g, o + n * 2 + 1, none⟩ (.bool t))).alloc (Nat.le_refl _) (.cells #[.slice (some ⟨g, o, none⟩) l.length uc] 56)
    have HSW := Lib.hid (hsw.below layE_ok hba); clear hsw
    have HN4 := Lib.hid ((HN2.out.stand (X := fun b => b = g) ((Chg.refl (fun b => b = g) _).setCell (p := ⟨g, o + n * 2 + 1, none⟩) rfl (.bool t)) (by omega) (by omega)).below hba)
    have HB4 := Lib.hid ((HB2.out.setCell (p := ⟨g, o + n * 2 + 1, none⟩) (by show w.heap.size ≤ g; omega) (.bool t)).trans (hba.mono (by rw [hsz]; omega)))
    have i1 : (n : Int) < (l.length : Int) := by omega
    clear HN2 HB2 hba hsz hI
    obtain ⟨_, b0, f0, _⟩ := HN4.out
    go_wp2
    refine bodyPost_ret (v := .tuple #[.agg #[.slice (some ⟨g, o, none⟩) l.length uc], .bool true]) (by simp [results, Tryz.results29, go_sem, b0]) rfl ⟨_, by rw [HD.out], ?_, ?_⟩
    · rw [HD.out]
      exact set_done HSW.out (by omega) (by simp [World.setCell])
    · exact HB4.out.setCell (by simp) _
theorem ints_one (n : Int) (v : World) (t : TypeId) : IntR (v.alloc (.cells #[.int .i64 n] t)) (.slice (some ⟨v.heap.size, 0, none⟩) 1 1) [n] := by
  refine ⟨_, _, rfl, by simp, (fun h => by cases h), .inr ⟨_, _, rfl, by simp, fun j hj => ?_⟩⟩
  obtain rfl : j = 0 := by simp at hj; omega
  go_simp
theorem impl_setEnabled (dv : Value) (l : P.Lays) (i : Int) (t : Bool) (w : World) (hu : LayR w dv l) (hs : SmallS l) (hE : Env w) :
    Calls Tryz.prog 30 #[.agg #[dv], .int .i64 i, .bool t] w (SetPost i t l w) := by
  have hb0 : Below w.heap.size w (((w.alloc (.cells #[dv] 56)).alloc (.cells #[.slice none 0 0] 56)).alloc (.cells #[.int .i64 i] 3)) := (((Below.refl w.heap.size w).alloc (Nat.le_refl _) _).alloc (by simp) _).alloc (by simp; omega) _
  have HU := Lib.hid (hu.below hb0)
  have HE := Lib.hid (hE.below hb0 hE.size)
  have HB0 := Lib.hid hb0; clear hb0 hE
  have HN := Lib.hid ((SkBox.new dv w).below ((Below.refl _ _).alloc (Nat.le_refl _) (.cells #[.int .i64 i] 3)))
  have HI1 := Lib.hid (ints_one i ((w.alloc (.cells #[dv] 56)).alloc (.cells #[.slice none 0 0] 56)) 3)
  have HSM := Lib.hid hs; clear hs
  have HOK := Lib.hid (show (P.stack l && [i].all (P.inL l)) = P.setOk i l by unfold P.setOk; simp)
  obtain ⟨ad, cap, rfl, _, _⟩ := hu
  go_enter Tryz.func30, Tryz.ntmps30
  go_wp2_with fail
  refine (isLayer _ _ l [i] _ HU.out (by have := HI1.out; simpa using this) HSM.out.len HSM.out.each HE.out).mono ?_
  rintro e w1 ⟨rfl, hb⟩
  rw [HOK.out]
  have HU1 := Lib.hid (HU.out.below hb)
  have HN1 := Lib.hid (HN.out.below hb)
  have HB1 := Lib.hid (HB0.out.trans (hb.mono (by simp; omega)))
  clear hb HU HB0 HN HE HI1
  cases hd : P.setOk i l
  · have HD := Lib.hid hd; clear hd
    obtain ⟨_, b0, f0, _⟩ := HN1.out
    go_wp2
    refine bodyPost_ret (v := .tuple #[.agg #[.slice none 0 0], .bool false]) (by simp [results, Tryz.results30, go_sem, b0]) rfl ⟨_, by rw [HD.out], ?_, ?_⟩
    · rw [HD.out]; exact RowO.nil _ _
    · exact HB1.out.setCell (by simp) _
  · have HD := Lib.hid hd
    have hrng : 0 ≤ i ∧ i ≤ (l.length : Int) - 1 := by
      unfold P.setOk P.inL at hd; simp only [Bool.and_eq_true, decide_eq_true_eq] at hd; exact hd.2
    have HUP := Lib.hid (show ∀ e ∈ l, Small e.1 ∧ P.Up e.1 from fun e he => ⟨HSM.out.each e he, P.layers_up (P.stack_layers (by unfold P.setOk at hd; simp only [Bool.and_eq_true] at hd; exact hd.1)) e he⟩)
    obtain ⟨n, rfl⟩ := Int.eq_ofNat_of_zero_le hrng.1
    have hnl : n < l.length := by omega
    clear hd hrng
    obtain ⟨a0, _⟩ := HN1.out
    go_wp2_with fail
    refine (stackOf_up _ l _ HU1.out HSM.out.len HUP.out).mono ?_
    rintro e w2 ⟨u, rfl, hI, hb⟩
    have hW1 : w.heap.size + 1 < w1.heap.size := HN1.out.2.2.2
    have hz2 : w1.heap.size ≤ w2.heap.size := hb.size
    have HN2 := Lib.hid (HN1.out.below hb)
    have HB2 := Lib.hid (HB1.out.trans (hb.mono HB1.out.size))
    clear hb HU1 HB1 HN1 a0 HUP
    obtain ⟨ud, uc, rfl, _, _⟩ := id hI
    obtain ⟨g, o, rfl, hFg, hgs, ⟨y, c1⟩, f1, hsw⟩ := Lays.switch hI n hnl t
    have hg1 : w1.heap.size ≤ g := hFg.1
    have hsz : (w2.setCell ⟨g, o + n * 2 + 1, none⟩ (.bool t)).heap.size = w2.heap.size := by simp [World.setCell]
    have hba := (Below.refl (w2.setCell ⟨g, o + n * 2 + 1, none⟩ (.bool t)).heap.size (w2.setCell ⟨g, o + n * 2 + 1, none⟩ (.bool t))).alloc (Nat.le_refl _) (.cells #[.slice (some ⟨g, o, none⟩) l.length uc] 56)
    have HSW := Lib.hid (hsw.below layE_ok hba); clear hsw
    have HN4 := Lib.hid ((HN2.out.stand (X := fun b => b = g) ((Chg.refl (fun b => b = g) _).setCell (p := ⟨g, o + n * 2 + 1, none⟩) rfl (.bool t)) (by omega) (by omega)).below hba)
    have HB4 := Lib.hid ((HB2.out.setCell (p := ⟨g, o + n * 2 + 1, none⟩) (by show w.heap.size ≤ g; omega) (.bool t)).trans (hba.mono (by rw [hsz]; omega)))
    have i1 : (n : Int) < (l.length : Int) := by omega
    clear HN2 HB2 hba hsz hI
    obtain ⟨_, b0, f0, _⟩ := HN4.out
    go_wp2
    refine bodyPost_ret (v := .tuple #[.agg #[.slice (some ⟨g, o, none⟩) l.length uc], .bool true]) (by simp [results, Tryz.results30, go_sem, b0]) rfl ⟨_, by rw [HD.out], ?_, ?_⟩
    · rw [HD.out]
      exact set_done HSW.out (by omega) (by simp [World.setCell])
    · exact HB4.out.setCell (by simp) _
end Go.Proofs.YtfoajpehmbojbaaGreatDoor
