/- Walks: the program's copy of an entry, and of a dictionary that is in order. -/
import Derived.Deep.DeepCutAuto
import Derived.Test.YtmlklnimoknojaaGreatDoorMemE
import Derived.Test.YtmlklnimoknojaaGreatDoorSortD
import Derived.Test.YtmlklnimoknojaaGreatDoorMemD
import Derived.Test.YtmlklnimoknojaaGreatDoorOutD
import Derived.Test.YtmlklnimoknojaaGreatDoorValD
namespace Go.Proofs.YtmlklnimoknojaaGreatDoor
section
open Go Go.RowKit
set_option maxHeartbeats 2000000
set_option maxRecDepth 100000
/-- what region 1 of copied keeps -/
def KP (W : Nat) (x : Value) (t : Str) (v : World) : Prop :=
  v.cell? ⟨W, 0, none⟩ = some x ∧ v.cell? ⟨W, 1, none⟩ = some (.string (S t)) ∧ v.cell? ⟨W + 1, 0, none⟩ = some (.slice none 0 0) ∧ v.cell? ⟨W + 1, 1, none⟩ = some (.string (S [])) ∧ v.frozen? ⟨W + 1, 0, none⟩ = false ∧ v.frozen? ⟨W + 1, 1, none⟩ = false
theorem KP.step {W : Nat} {x : Value} {t : Str} {v v' : World} (h : KP W x t v) (hb : Below (W + 2) v v') : KP W x t v' := by
  obtain ⟨h1, h2, h3, h4, h5, h6⟩ := h
  exact ⟨(hb.cell (p := ⟨W, 0, none⟩) (by show W < W + 2; omega)).trans h1, (hb.cell (p := ⟨W, 1, none⟩) (by show W < W + 2; omega)).trans h2, (hb.cell (p := ⟨W + 1, 0, none⟩) (by show W + 1 < W + 2; omega)).trans h3, (hb.cell (p := ⟨W + 1, 1, none⟩) (by show W + 1 < W + 2; omega)).trans h4,
    (hb.frozen (p := ⟨W + 1, 0, none⟩) (by show W + 1 < W + 2; omega)).trans h5, (hb.frozen (p := ⟨W + 1, 1, none⟩) (by show W + 1 < W + 2; omega)).trans h6⟩
theorem copied (u : Value) (l : List Int) (t : Str) (w : World) (hu : IntR w u l) (hl : l.length ≤ 2 ^ 30) :
    Calls Tryz.prog 142 #[.agg #[u, .string (S t)]] w (EntPost l t w) := by
  have hb0 : Below w.heap.size w ((w.alloc (.cells #[u, .string (S t)] 47)).alloc (.cells #[.slice none 0 0, .string (S [])] 47)) :=
    ((Below.refl w.heap.size w).alloc (Nat.le_refl _) _).alloc (by simp) _
  have HU := Lib.hid ((hu.below hb0).below (Below.refl _ _).drew)
  have HB0 := Lib.hid hb0; clear hb0
  obtain ⟨ad, cap, rfl, _, _⟩ := hu
  have HS := Lib.hid (show KP w.heap.size (.slice ad l.length cap) t (((w.alloc (.cells #[.slice ad l.length cap, .string (S t)] 47)).alloc (.cells #[.slice none 0 0, .string (S [])] 47)).drew) from
    KP.step (show KP w.heap.size (.slice ad l.length cap) t ((w.alloc (.cells #[.slice ad l.length cap, .string (S t)] 47)).alloc (.cells #[.slice none 0 0, .string (S [])] 47)) by refine ⟨?_, ?_, ?_, ?_, ?_, ?_⟩ <;> go_simp) (Below.refl _ _).drew)
  go_enter Tryz.func142, Tryz.ntmps142
  go_upto_region 1 with fail
  refine Left.region [6] (S := KP w.heap.size (.slice ad l.length cap) t) (by kernel_rfl) HS.out (fun hS0 => ?_)
  refine Left.take (i := 0) (v := .pointer (some ⟨w.heap.size, 0, none⟩)) rfl (by kernel_rfl) (by kernel_rfl) (by kernel_rfl) (by kernel_rfl) (fun _ _ _ h => h) (Or.inl ⟨by rfl, fun z hz => ?_⟩) hS0 ?_
  · obtain ⟨z1, z2, z3, z4, z5, z6⟩ := hz
    go_simp
  try simp only [qA, qB, Act.put, qD, qE, qF]
  refine Left.take (i := 1) (v := .slice ad l.length cap) rfl (by kernel_rfl) (by kernel_rfl) (by kernel_rfl) (by kernel_rfl) (fun _ _ _ h => h) (Or.inl ⟨by rfl, fun z hz => ?_⟩) hS0 ?_
  · obtain ⟨z1, z2, z3, z4, z5, z6⟩ := hz
    go_simp
  try simp only [qA, qB, qC, Act.put, qD, qE, qF]
  refine Left.take (i := 3) (v := .pointer (some ⟨w.heap.size, 1, none⟩)) rfl (by kernel_rfl) (by kernel_rfl) (by kernel_rfl) (by kernel_rfl) (fun _ _ _ h => h) (Or.inl ⟨by rfl, fun z hz => ?_⟩) hS0 ?_
  · obtain ⟨z1, z2, z3, z4, z5, z6⟩ := hz
    go_simp
  try simp only [qA, qB, qC, Act.put, qD, qE, qF]
  refine Left.take (i := 4) (v := .string (S t)) rfl (by kernel_rfl) (by kernel_rfl) (by kernel_rfl) (by kernel_rfl) (fun _ _ _ h => h) (Or.inl ⟨by rfl, fun z hz => ?_⟩) hS0 ?_
  · obtain ⟨z1, z2, z3, z4, z5, z6⟩ := hz
    go_simp
  try simp only [qA, qB, qC, Act.put, qD, qE, qF]
  refine Left.ready (rs := [2]) (by kernel_rfl) (by simp) ?_
  refine Nexts.cons rfl (fun K hK => ?_) Nexts.nil
  go_simp
  refine (copyOf _ l _ HU.out hl).mono ?_
  rintro e v1 ⟨x1, rfl, hI, hb1⟩
  have HI := Lib.hid hI
  have HZ1 := Lib.hid (show w.heap.size + 2 ≤ v1.heap.size by have := hb1.size; simp at this; omega)
  have HB1 := Lib.hid (show Below w.heap.size w v1 from HB0.out.trans ((Below.refl _ _).drew.trans (hb1.mono (by simp; omega))))
  obtain ⟨xd, xc, rfl, _, _⟩ := hI
  refine on_held hK (by decide) (hS0.step (hb1.mono (by simp))) (fun hS1 => ?_)
  clear hK K hb1
  try simp only [qA, qB, qC, Act.put, qD, qE, qF]
  refine Left.take (i := 5) (v := .agg #[.slice xd l.length xc, .string (S t)]) rfl (by kernel_rfl) (by kernel_rfl) (by kernel_rfl) (by kernel_rfl) (fun _ _ _ h => h) (Or.inl ⟨by rfl, fun z hz => ?_⟩) hS1 ?_
  · obtain ⟨z1, z2, z3, z4, z5, z6⟩ := hz
    go_simp
  try simp only [qA, qB, qC, Act.put, qD, qE, qF]
  refine Left.ready (rs := [6]) (by kernel_rfl) (by simp) ?_
  refine Nexts.cons rfl (fun K hK => ?_) Nexts.nil
  obtain ⟨k1, k2, k3, k4, k5, k6⟩ := hS1
  go_simp
  refine on_last hK (by decide) ?_
  clear hK K
  try simp only [qA, qB, qC, Act.put, qD, qE, qF]
  refine Left.done (by kernel_rfl) ?_ _
  clear hS0 HS HU
  go_wp2
  refine bodyPost_ret (v := .agg #[.slice xd l.length xc, .string (S t)]) (by simp [results, Tryz.results142, go_sem, k3, k4]) rfl ⟨_, rfl, ?_, ?_⟩
  · refine (HI.out.stand (X := fun b => b < w.heap.size + 2) intE_ok (((Chg.refl _ v1).setCell ?_ _).setCell ?_ _) ?_).wide ?_ ?_
    · simp
    · simp
    · intro b hb; simp [Bet] at hb ⊢; omega
    · intro b hb; simp [Bet, World.setCell] at hb ⊢; omega
    · intro b hb; exact hb.2
  · exact (HB1.out.setCell (by simp) _).setCell (by simp) _
end
end Go.Proofs.YtmlklnimoknojaaGreatDoor

namespace Go.Proofs.YtmlklnimoknojaaGreatDoor
open Go Go.RowKit
/-- what is handed back of a dictionary -/
def P.kept (ok : Bool) (l : P.Dic) : P.Dic := if ok then l else []
/-- what is known of a dictionary that a law hands on -/
structure Small (l : P.Dic) : Prop where
  len : l.length ≤ 2 ^ 20
  outs : ∀ e ∈ l, e.1.length ≤ 2 ^ 20
  texts : ∀ e ∈ l, e.2.length ≤ 2 ^ 30
theorem P.up_of_dic {l : P.Dic} (h : P.dic l = true) : P.Up l := by
  unfold P.dic at h
  simp only [Bool.and_eq_true] at h
  exact P.up_of_rising h.2.2
/-- a new box of a stack -/
def NBx (b : Nat) (v : World) : Prop := v.cell? ⟨b, 0, none⟩ = some (.slice none 0 0) ∧ v.frozen? ⟨b, 0, none⟩ = false ∧ b < v.heap.size
theorem NBx.stand {b : Nat} {v v' : World} {X : Blk} (h : NBx b v) (hc : Chg X v v') (hX : ¬ X b) : NBx b v' :=
  ⟨(hc.cell (p := ⟨b, 0, none⟩) h.2.2 hX).trans h.1, (hc.frozen (p := ⟨b, 0, none⟩) h.2.2 hX).trans h.2.1, Nat.lt_of_lt_of_le h.2.2 hc.size⟩
theorem NBx.below {b : Nat} {v v' : World} (h : NBx b v) (hb : Below v.heap.size v v') : NBx b v' := h.stand (Below.chg hb fun _ => False) fun h => h
theorem NBx.new (v : World) (t : TypeId) : NBx v.heap.size (v.alloc (.cells #[.slice none 0 0] t)) := by
  refine ⟨?_, ?_, ?_⟩ <;> go_simp
end Go.Proofs.YtmlklnimoknojaaGreatDoor

namespace Go.Proofs.YtmlklnimoknojaaGreatDoor
section
open Go Go.RowKit
set_option maxHeartbeats 1000000
set_option maxRecDepth 100000
end
section
open Go Go.RowKit
/-- a box of one cell -/
def Box1 (b : Nat) (x : Value) (v : World) : Prop := v.cell? ⟨b, 0, none⟩ = some x ∧ b < v.heap.size
theorem Box1.stand {b : Nat} {x : Value} {v v' : World} {X : Blk} (h : Box1 b x v) (hc : Chg X v v') (hX : ¬ X b) : Box1 b x v' :=
  ⟨(hc.cell (p := ⟨b, 0, none⟩) h.2 hX).trans h.1, Nat.lt_of_lt_of_le h.2 hc.size⟩
theorem Box1.below {b : Nat} {x : Value} {v v' : World} (h : Box1 b x v) (hb : Below v.heap.size v v') : Box1 b x v' := h.stand (Below.chg hb fun _ => False) fun h => h
theorem Box1.new (x : Value) (t : TypeId) (v : World) : Box1 v.heap.size x (v.alloc (.cells #[x] t)) := ⟨by go_simp, by simp⟩
theorem Chg.belowB {X : Blk} {B : Nat} {a v v' : World} (h : Below B a v) (hc : Chg X v v') (hB : B ≤ v.heap.size) (hX : ∀ b, X b → B ≤ b) : Below B a v' := h.trans (hc.below hB hX)
end
end Go.Proofs.YtmlklnimoknojaaGreatDoor
