/- Plain: a stack's edits: what is pushed and struck out again, what is moved and moved back, what is switched. -/
import Derived.Test.YtngbkdlicknmhaaGreatDoorMov2
import Derived.Deep.DeepCutAuto
import Derived.Test.YtngbkdlicknmhaaGreatDoorMemE
namespace Go.Proofs.YtngbkdlicknmhaaGreatDoor.P
theorem setOk_push {d : Dic} {l : Lays} (h : pushOk d l = true) : setOk 0 (push d l) = true := by
  unfold pushOk stack at h
  unfold setOk stack inL push layers
  unfold layers at h
  simp only [Bool.and_eq_true, decide_eq_true_eq, Bool.not_eq_true', decide_eq_false_iff_not] at h
  obtain ⟨⟨h1, h2⟩, h3, h4⟩ := h
  simp only [Bool.and_eq_true, decide_eq_true_eq, List.all_cons, List.length_cons]
  exact ⟨⟨by omega, h3, h2⟩, by omega, by omega⟩
theorem movL_len (f t : Nat) (l : Lays) : (movL f t l).length = l.length := (movL_perm f t l).length_eq
theorem movL_stack {f t : Nat} {l : Lays} (h : stack l = true) : stack (movL f t l) = true := by
  unfold stack layers at h ⊢
  simp only [Bool.and_eq_true, decide_eq_true_eq, List.all_eq_true] at h ⊢
  rw [movL_len]
  exact ⟨h.1, fun e he => h.2 e ((movL_perm f t l).mem_iff.1 he)⟩
theorem moveOk_back {f t : Int} {l : Lays} (h : moveOk f t l = true) : moveOk t f (movL f.toNat t.toNat l) = true := by
  unfold moveOk at h ⊢
  simp only [Bool.and_eq_true] at h ⊢
  unfold inL at h ⊢
  rw [movL_len]
  exact ⟨movL_stack h.1, h.2.2, h.2.1⟩
theorem mov_back {f t : Int} {l : Lays} (h : moveOk f t l = true) : movL t.toNat f.toNat (movL f.toNat t.toNat l) = l := by
  unfold moveOk inL at h
  simp only [Bool.and_eq_true, decide_eq_true_eq] at h
  obtain ⟨_, ⟨h1, h2⟩, h3, h4⟩ := h
  obtain ⟨f, rfl⟩ := Int.eq_ofNat_of_zero_le h1
  obtain ⟨t, rfl⟩ := Int.eq_ofNat_of_zero_le h3
  simp only [Int.toNat_natCast]
  have hf : f < l.length := by omega
  have ht : t < l.length := by omega
  have hrl : (remL f l).length = l.length - 1 := by unfold remL; rw [List.length_append, List.length_take, List.length_drop]; omega
  have hx : ((l.drop f).take 1).length = 1 := by rw [List.length_take, List.length_drop]; omega
  have hA : ((remL f l).take t).length = t := by rw [List.length_take]; omega
  have e1 : remL t (movL f t l) = remL f l := by
    unfold movL
    generalize remL f l = r at *
    generalize (l.drop f).take 1 = x at *
    unfold remL
    rw [List.take_append_of_le_length (by omega), List.take_of_length_le (by omega)]
    rw [List.drop_append, List.drop_of_length_le (by omega), hA, List.nil_append, show t + 1 - t = 1 by omega, List.drop_append, List.drop_of_length_le (by omega), hx, List.nil_append]
    simp
  have e2 : ((movL f t l).drop t).take 1 = (l.drop f).take 1 := by
    unfold movL
    generalize remL f l = r at *
    generalize (l.drop f).take 1 = x at *
    rw [List.drop_append, List.drop_of_length_le (by omega), hA, List.nil_append, show t - t = 0 by omega, List.drop_zero, List.take_append_of_le_length (by omega), List.take_of_length_le (by omega)]
  show (remL t (movL f t l)).take f ++ (((movL f t l).drop t).take 1 ++ (remL t (movL f t l)).drop f) = l
  rw [e1, e2]
  unfold remL
  have hfl : (l.take f).length = f := by rw [List.length_take]; omega
  have h4 : (l.take f ++ l.drop (f + 1)).take f = l.take f := by rw [List.take_append_of_le_length (by omega), List.take_of_length_le (by omega)]
  have h5 : (l.take f ++ l.drop (f + 1)).drop f = l.drop (f + 1) := by rw [List.drop_append, List.drop_of_length_le (l := l.take f) (by omega), hfl]; simp
  rw [h4, h5]
  have h3 : (l.drop f).take 1 ++ l.drop (f + 1) = l.drop f := by
    have h := List.take_append_drop 1 (l.drop f)
    rwa [List.drop_drop] at h
  rw [h3, List.take_append_drop]
theorem setOn_at {i : Nat} {t : Bool} {l : Lays} (h : i < l.length) : ∃ h2 : i < (setOn i t l).length, ((setOn i t l)[i]'h2).2 = t := by
  refine ⟨by rw [setOn_len]; exact h, ?_⟩
  have e := setOn_eq i t l h
  simp only [e, List.getElem_set_self]
theorem setOk_in {i : Int} {l : Lays} (h : setOk i l = true) : 0 ≤ i ∧ i.toNat < l.length := by
  unfold setOk inL at h
  simp only [Bool.and_eq_true, decide_eq_true_eq] at h
  omega
end Go.Proofs.YtngbkdlicknmhaaGreatDoor.P

namespace Go.Proofs.YtngbkdlicknmhaaGreatDoor
namespace P
abbrev Outs := List (List Int)
def keptO (ok : Bool) (l : Outs) : Outs := if ok then l else []
end P
open Go Go.RowKit
set_option maxHeartbeats 1000000
set_option maxRecDepth 100000
/-- a slice of slices of ints, as it is read -/
def ListR (v : World) (u : Value) (l : P.Outs) : Prop :=
  ∃ (ad : Option Addr) (cap : Nat), u = .slice ad l.length cap ∧ (l.length ≤ 2 ^ 45 ∧ l.length ≤ cap) ∧ (ad = none → cap = 0) ∧ (l = [] ∨ ∃ g o, ad = some ⟨g, o, none⟩ ∧ g < v.heap.size ∧ ∀ (j : Nat) (h : j < l.length), ∃ x, v.cell? ⟨g, o + j, none⟩ = some x ∧ IntR v x (l[j]'h))
theorem ListR.below {v v' : World} {u : Value} {l : P.Outs} (h : ListR v u l) (hb : Below v.heap.size v v') : ListR v' u l := by
  obtain ⟨ad, cap, h1, h2, hn, h3⟩ := h
  refine ⟨ad, cap, h1, h2, hn, h3.imp id ?_⟩
  rintro ⟨g, o, h4, h5, h6⟩
  refine ⟨g, o, h4, Nat.lt_of_lt_of_le h5 hb.size, fun j hj => ?_⟩
  obtain ⟨x, a, c⟩ := h6 j hj
  exact ⟨x, (hb.cell (p := ⟨g, _, none⟩) h5).trans a, c.below hb⟩
theorem ListR.at {v : World} {ad : Option Addr} {n cap : Nat} {l : P.Outs} (h : ListR v (.slice ad n cap) l) (j : Nat) (hj : j < l.length) : ∃ g o, ad = some ⟨g, o, none⟩ ∧ g < v.heap.size ∧ ∃ x, v.cell? ⟨g, o + j, none⟩ = some x ∧ IntR v x (l[j]'hj) := by
  obtain ⟨ad', cap', he, _, _, h3⟩ := h
  injection he with h1 h2 h4
  rcases h3 with h3 | ⟨g, o, h5, h6, h7⟩
  · rw [h3] at hj; exact absurd hj (Nat.not_lt_zero _)
  · exact ⟨g, o, h1.trans h5, h6, h7 j hj⟩
/-- a row of ints in its row -/
def outE : ElT (List Int) := fun v F cs o => ∃ x, cs = [x] ∧ RowO 1 intE v F x o
theorem outE_ok : ElOk outE :=
  ⟨fun ⟨x, h, k⟩ hk => ⟨x, h, k.keep intE_ok hk⟩, fun ⟨x, h, k⟩ hF hl => ⟨x, h, k.wide hF hl⟩⟩
abbrev OutsO := RowO 1 outE
theorem OutsO.read {v : World} {F : Blk} {u : Value} {l : P.Outs} (h : OutsO v F u l) : ListR v u l := by
  obtain ⟨ad, cap, h1, h2, hn, h3⟩ := h
  refine ⟨ad, cap, h1, by omega, hn.1, h3.imp id ?_⟩
  rintro ⟨g, o, G, C, h4, h5⟩
  refine ⟨g, o, h4, h5.lt _ h5.own, fun j hj => ?_⟩
  obtain ⟨x, he, hx⟩ := h5.el j hj
  have hc := (h5.cel j hj 0 (by rw [he]; simp)).1
  simp only [he, List.getElem_cons_zero, Nat.mul_one, Nat.add_zero] at hc
  exact ⟨x, hc, Ints.read hx⟩
/-- what the drawn region of eqIntSS keeps -/
def KOO (w : World) (c p : Nat) (x : Value) (g q : Nat) (y : Value) (eo : List Int) (v : World) : Prop :=
  v.cell? ⟨c, p, none⟩ = some x ∧ v.cell? ⟨g, q, none⟩ = some y ∧ c < v.heap.size ∧ g < v.heap.size ∧ IntR v x eo ∧ IntR v y eo ∧ w.heap.size ≤ v.heap.size ∧ Below w.heap.size w v
theorem KOO.step {w v v' : World} {c p g q : Nat} {x y : Value} {eo : List Int} (h : KOO w c p x g q y eo v) (hb : Below v.heap.size v v') : KOO w c p x g q y eo v' := by
  obtain ⟨h1, h3, h5, h6, h7, h8, h9, h10⟩ := h
  exact ⟨(hb.cell (p := ⟨c, p, none⟩) h5).trans h1, (hb.cell (p := ⟨g, q, none⟩) h6).trans h3,
    Nat.lt_of_lt_of_le h5 hb.size, Nat.lt_of_lt_of_le h6 hb.size, h7.below hb, h8.below hb, Nat.le_trans h9 hb.size, h10.trans (hb.mono h9)⟩
theorem info_sl : (Tryz.prog.info? 27).map (fun i => (i.zero, i.size, i.bytes)) = some (some (.slice none 0 0), 1, 24) := by kernel_rfl
end Go.Proofs.YtngbkdlicknmhaaGreatDoor
