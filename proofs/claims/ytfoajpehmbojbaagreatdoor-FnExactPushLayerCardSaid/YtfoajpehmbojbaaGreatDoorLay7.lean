/- Walks: a layer switched on or off (reference, program). -/
import Derived.Deep.DeepCutAuto
import Derived.IntWalk
import Derived.Test.YtfoajpehmbojbaaGreatDoorLay6
namespace Go.Proofs.YtfoajpehmbojbaaGreatDoor
namespace P
/-- an index of a layer -/
def inL (l : Lays) (i : Int) : Bool := decide (0 ≤ i ∧ i ≤ (l.length : Int) - 1)
def setOk (i : Int) (l : Lays) : Bool := stack l && inL l i
def setOn (i : Nat) (t : Bool) : Lays → Lays
  | [] => []
  | e :: l => match i with
    | 0 => (e.1, t) :: l
    | i + 1 => e :: setOn i t l
def keptL (ok : Bool) (l : Lays) : Lays := if ok then l else []
theorem setOn_len (i : Nat) (t : Bool) (l : Lays) : (setOn i t l).length = l.length := by
  induction l generalizing i with
  | nil => cases i <;> rfl
  | cons e l ih => cases i with
    | zero => rfl
    | succ i => simp [setOn, ih i]
theorem setOn_eq (i : Nat) (t : Bool) (l : Lays) (h : i < l.length) : setOn i t l = l.set i (l[i].1, t) := by
  induction l generalizing i with
  | nil => cases i <;> rfl
  | cons e l ih => cases i with
    | zero => rfl
    | succ i => simp [setOn, ih i (by simpa using h)]
theorem setOn_size (i : Nat) (t : Bool) (l : Lays) : sizeL (setOn i t l) = sizeL l := by
  induction l generalizing i with
  | nil => cases i <;> rfl
  | cons e l ih => cases i with
    | zero => rfl
    | succ i => simp [setOn, sizeL, ih i]
theorem layers_up {l : Lays} (h : layers l = true) : ∀ e ∈ l, Up e.1 := fun e he => up_of_dic (List.all_eq_true.1 h e he)
theorem stack_layers {l : Lays} (h : stack l = true) : layers l = true := by
  unfold stack at h; simp only [Bool.and_eq_true] at h; exact h.2
end P
open Go Go.RowKit
set_option maxHeartbeats 2000000
set_option maxRecDepth 100000
/-- one layer of a row is switched -/
theorem Lays.switch {v : World} {F : Blk} {ad : Option Addr} {n cap : Nat} {l : P.Lays} (h : Lays v F (.slice ad n cap) l) (i : Nat) (hi : i < l.length) (t : Bool) :
    ∃ g o, ad = some ⟨g, o, none⟩ ∧ F g ∧ g < v.heap.size ∧ (∃ y, v.cell? ⟨g, o + i * 2 + 1, none⟩ = some y) ∧ v.frozen? ⟨g, o + i * 2 + 1, none⟩ = false ∧ Lays (v.setCell ⟨g, o + i * 2 + 1, none⟩ (.bool t)) F (.slice ad n cap) (P.setOn i t l) := by
  obtain ⟨ad', cap', he, hl, hn, h3⟩ := h
  injection he with h1 h2 h4
  subst h1 h2 h4
  obtain ⟨g, o, G, C, hg, hr⟩ := h3.resolve_left (by intro e; rw [e] at hi; exact absurd hi (Nat.not_lt_zero _))
  obtain ⟨x, hC, hx⟩ := hr.el i hi
  have c1 := hr.cel i hi 1 (by rw [hC]; simp)
  simp only [hC, List.getElem_cons_zero, List.getElem_cons_succ] at c1
  refine ⟨g, o, hg, hr.own, hr.lt _ hr.own, ⟨_, c1.1⟩, c1.2, ?_⟩
  have hr2 := hr.put_cell layE_ok i hi 1 (by decide) (.bool t) (l[i].1, t) ⟨x, by rw [hC]; rfl, hx.stand entE_ok (X := fun b => b = g) ((Chg.refl (fun b => b = g) v).setCell (p := ⟨g, o + i * 2 + 1, none⟩) rfl _) (by
    rintro b hb rfl
    exact (hr.sub i hi _ hb).2 rfl)⟩
  rw [← P.setOn_eq i t l hi] at hr2
  exact ⟨ad, cap, by rw [P.setOn_len], by rw [P.setOn_len]; exact hl, ⟨hn.1, by rw [P.setOn_len]; exact hn.2⟩, .inr ⟨g, o, _, _, hg, hr2⟩⟩
theorem l8At (u : Value) (l : P.Lays) (i : Int) (w : World) (hu : LayR w u l) (hl : l.length ≤ 2 ^ 20) (hle : ∀ e ∈ l, Small e.1) :
    Calls Tryz.prog 58 #[.agg #[u], .int .i64 i] w fun e w' => e = .returned (.bool (P.setOk i l)) ∧ Below w.heap.size w w' := by
  have hb0 := (Below.refl w.heap.size w).alloc (Nat.le_refl _) (.cells #[u] 56)
  have HU := Lib.hid (hu.below hb0); have HB0 := Lib.hid hb0; have HLE := Lib.hid hle
  have HC0 := Lib.hid (show (w.alloc (.cells #[u] 56)).cell? ⟨w.heap.size, 0, none⟩ = some u by go_simp)
  clear hle hb0
  obtain ⟨ad, cap, rfl, _, _⟩ := hu
  go_enter Tryz.func58, Tryz.ntmps58
  go_wp2_with fail
  refine (spec_isValidStack _ l _ HU.out HLE.out).mono ?_
  rintro e w1 ⟨rfl, hb⟩
  have c1 := (hb.cell (p := ⟨w.heap.size, 0, none⟩) (by simp)).trans HC0.out
  have HB1 := Lib.hid (HB0.out.trans (hb.mono (by simp)))
  clear hb
  cases hs : P.stack l
  · have HP := Lib.hid (show P.setOk i l = false by unfold P.setOk; rw [hs]; rfl)
    clear hs
    go_wp2
    go_ret
    exact ⟨ret_bool HP.out.symm, HB1.out⟩
  · have HP := Lib.hid (show P.setOk i l = P.inL l i by unfold P.setOk; rw [hs]; rfl)
    have hw1 : IntKind.i64.wrap ((l.length : Int) - 1) = (l.length : Int) - 1 := IntWalk.i64_in _ (by omega)
    clear hs
    go_wp2_with fail
    refine (l1In _ _ _ _).mono ?_
    rintro e w' ⟨rfl, rfl⟩
    go_wp2
    go_ret
    exact ⟨ret_bool (by rw [HP.out]; unfold P.inL; simp), HB1.out⟩
/-- the program's check of indexes -/
abbrev isF (W : Nat) : Value := .func (Fn.func 83) #[] #[.pointer (some ⟨W, 0, none⟩)]
theorem is_in (n : Int) (l : P.Lays) (W : Nat) (ad : Option Addr) (cap : Nat) (w : World) (hl : l.length ≤ 2 ^ 20) (hc : w.cell? ⟨W, 0, none⟩ = some (.slice ad l.length cap)) :
    Calls Tryz.prog 83 #[.int .i64 n, .pointer (some ⟨W, 0, none⟩)] w fun e w' => e = .returned (.bool (P.inL l n)) ∧ w = w' := by
  have hw1 : IntKind.i64.wrap ((l.length : Int) - 1) = (l.length : Int) - 1 := IntWalk.i64_in _ (by omega)
  go_enter Tryz.func83, Tryz.ntmps83
  go_wp2_with fail
  refine (impl_in _ _ _ _).mono ?_
  rintro e w' ⟨rfl, rfl⟩
  go_wp2
  go_ret
  exact ⟨ret_bool (by unfold P.inL; simp), rfl⟩
theorem is_not (n : Int) (l : P.Lays) (W C : Nat) (ad : Option Addr) (cap : Nat) (w : World) (hl : l.length ≤ 2 ^ 20) (hc : w.cell? ⟨W, 0, none⟩ = some (.slice ad l.length cap)) (hf : w.cell? ⟨C, 0, none⟩ = some (isF W)) :
    Calls Tryz.prog 96 #[.int .i64 n, .pointer (some ⟨C, 0, none⟩)] w fun e w' => e = .returned (.bool (!P.inL l n)) ∧ w = w' := by
  go_enter Tryz.func96, Tryz.ntmps96
  go_wp2_with fail
  refine (is_in _ l _ _ _ _ hl hc).mono ?_
  rintro e w' ⟨rfl, rfl⟩
  go_wp2
  go_ret
  exact ⟨ret_bool (by simp), rfl⟩
theorem isIndex (xv : Value) (xs : List Int) (l : P.Lays) (W C : Nat) (ad : Option Addr) (cap : Nat) (w : World) (hu : IntR w xv xs) (hl : l.length ≤ 2 ^ 20) (hc : w.cell? ⟨W, 0, none⟩ = some (.slice ad l.length cap)) (hf : w.cell? ⟨C, 0, none⟩ = some (isF W)) :
    Calls Tryz.prog 107 #[xv, notF C] w fun e w' => (∃ n : Int, e = .returned (.int .i64 n) ∧ decide (0 ≤ n) = !(xs.all (P.inL l))) ∧ w = w' := by
  have HU := Lib.hid hu; have HC := Lib.hid hc; have HF := Lib.hid hf
  clear hc hf
  obtain ⟨xd, xc, rfl, hxl, _⟩ := hu
  go_enter Tryz.func107, Tryz.ntmps107
  go_wp2
  go_loop [5, 8] (fun _ i => ∃ j : Nat, j ≤ xs.length ∧ i = .int .i64 j ∧ (xs.take j).all (P.inL l) = true) (fun _ i => xs.length - (intOf i).toNat)
  case atStart => exact ⟨0, Nat.zero_le _, rfl, by simp⟩
  case round =>
    obtain ⟨j, hj, rfl, ha⟩ := hrel
    have HA := Lib.hid ha; clear ha
    by_cases hlt : j < xs.length
    · obtain ⟨g, o, rfl, hg, c0⟩ := HU.out.at j hlt
      have HSN := Lib.hid (take_snoc xs j hlt)
      generalize xs[j] = x at *
      cases hx : P.inL l x
      · have HNO := Lib.hid (show xs.all (P.inL l) = false by
          rw [← List.take_append_drop (j + 1) xs, HSN.out, List.all_append, List.all_append]
          simp [hx])
        go_wp2_with fail
        refine (is_not _ l _ _ _ _ _ hl HC.out HF.out).mono ?_
        rintro e w' ⟨rfl, rfl⟩
        rw [hx]
        go_wp2
        go_ret
        exact ⟨⟨(j : Int), rfl, by rw [HNO.out]; simp⟩, rfl⟩
      · have HX := Lib.hid hx
        go_wp2_with fail
        refine (is_not _ l _ _ _ _ _ hl HC.out HF.out).mono ?_
        rintro e w' ⟨rfl, rfl⟩
        rw [hx]
        go_wp2
        go_round
        case rel => exact ⟨j + 1, by omega, by go_num, by rw [HSN.out, List.all_append, HA.out]; simp [HX.out]⟩
        case measure => simp [intOf]; omega
    · have HT := Lib.hid (show xs.all (P.inL l) = true by have := HA.out; rwa [List.take_of_length_le (by omega)] at this)
      go_wp2
      go_ret
      exact ⟨⟨-1, rfl, by rw [HT.out]; rfl⟩, rfl⟩
theorem isContains (xv : Value) (xs : List Int) (l : P.Lays) (W C : Nat) (ad : Option Addr) (cap : Nat) (w : World) (hu : IntR w xv xs) (hl : l.length ≤ 2 ^ 20) (hc : w.cell? ⟨W, 0, none⟩ = some (.slice ad l.length cap)) (hf : w.cell? ⟨C, 0, none⟩ = some (isF W)) :
    Calls Tryz.prog 95 #[xv, notF C] w fun e w' => e = .returned (.bool (!(xs.all (P.inL l)))) ∧ w = w' := by
  have HU := Lib.hid hu
  obtain ⟨xd, xc, rfl, hxl, _⟩ := hu
  go_enter Tryz.func95, Tryz.ntmps95
  go_wp2_with fail
  refine (isIndex _ xs l _ _ _ _ _ HU.out hl hc hf).mono ?_
  rintro e w' ⟨⟨n, rfl, hn⟩, rfl⟩
  have HN := Lib.hid hn; clear hn
  go_wp2
  go_ret
  exact ⟨ret_bool HN.out, rfl⟩
theorem isAll (xv : Value) (xs : List Int) (l : P.Lays) (W : Nat) (ad : Option Addr) (cap : Nat) (w : World) (hu : IntR w xv xs) (hl : l.length ≤ 2 ^ 20) (hW : W < w.heap.size) (hc : w.cell? ⟨W, 0, none⟩ = some (.slice ad l.length cap)) :
    Calls Tryz.prog 82 #[xv, isF W] w fun e w' => e = .returned (.bool (xs.all (P.inL l))) ∧ Below w.heap.size w w' := by
  have hb0 := (Below.refl w.heap.size w).alloc (Nat.le_refl _) (.cells #[isF W] 111)
  have HU := Lib.hid (hu.below hb0); have HC := Lib.hid ((hb0.cell (p := ⟨W, 0, none⟩) hW).trans hc)
  clear hb0 hc
  obtain ⟨xd, xc, rfl, hxl, _⟩ := hu
  go_enter Tryz.func82, Tryz.ntmps82
  go_wp2_with fail
  refine (isContains _ xs l _ _ _ _ _ HU.out hl HC.out (by go_simp)).mono ?_
  rintro e w' ⟨rfl, rfl⟩
  go_wp2
  go_ret
  exact ⟨ret_bool (by simp), (Below.refl _ _).alloc (Nat.le_refl _) _⟩
theorem isLayer (u xv : Value) (l : P.Lays) (xs : List Int) (w : World) (hu : LayR w u l) (hx : IntR w xv xs) (hl : l.length ≤ 2 ^ 20) (hle : ∀ e ∈ l, Small e.1) (hE : Env w) :
    Calls Tryz.prog 59 #[.agg #[u], xv] w fun e w' => e = .returned (.bool (P.stack l && xs.all (P.inL l))) ∧ Below w.heap.size w w' := by
  have hb0 := (Below.refl w.heap.size w).alloc (Nat.le_refl _) (.cells #[u] 56)
  have HU := Lib.hid (hu.below hb0); have HX := Lib.hid (hx.below hb0); have HB0 := Lib.hid hb0; have HLE := Lib.hid hle; have HE := Lib.hid (hE.below hb0 hE.size)
  have HC0 := Lib.hid (show (w.alloc (.cells #[u] 56)).cell? ⟨w.heap.size, 0, none⟩ = some u by go_simp)
  clear hle hE hb0
  obtain ⟨ad, cap, rfl, _, _⟩ := hu
  obtain ⟨xd, xc, rfl, _, _⟩ := hx
  go_enter Tryz.func59, Tryz.ntmps59
  go_wp2_with fail
  refine (impl_isValidStack _ l _ HU.out HLE.out HE.out).mono ?_
  rintro e w1 ⟨rfl, hb⟩
  have c1 := (hb.cell (p := ⟨w.heap.size, 0, none⟩) (by simp)).trans HC0.out
  have HB1 := Lib.hid (HB0.out.trans (hb.mono (by simp)))
  have HX1 := Lib.hid (HX.out.below hb)
  have hW : w.heap.size < w1.heap.size := by have := hb.size; simp at this; omega
  clear hb
  cases hs : P.stack l
  · have HS2 := Lib.hid hs; clear hs
    go_wp2
    go_ret
    exact ⟨ret_bool (by rw [HS2.out]; rfl), HB1.out⟩
  · have HS2 := Lib.hid hs; clear hs
    go_wp2_with fail
    refine (isAll _ xs l _ _ _ _ HX1.out hl hW c1).mono ?_
    rintro e w2 ⟨rfl, hb⟩
    have HB2 := Lib.hid (HB1.out.trans (hb.mono HB1.out.size))
    clear hb
    go_wp2
    go_ret
    exact ⟨ret_bool (by rw [HS2.out, Bool.true_and]), HB2.out⟩
end Go.Proofs.YtfoajpehmbojbaaGreatDoor
