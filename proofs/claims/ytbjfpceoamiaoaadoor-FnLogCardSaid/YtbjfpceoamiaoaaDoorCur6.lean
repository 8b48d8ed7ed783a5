/- Walks: the cursor draws a log. -/
import Derived.Test.YtbjfpceoamiaoaaDoorCur5
import Derived.Test.YtbjfpceoamiaoaaDoorAppS
namespace Go.Proofs.YtbjfpceoamiaoaaDoor
open Go Go.RowKit
set_option maxHeartbeats 1000000
set_option maxRecDepth 100000
theorem CurPost.below {B C K : Nat} {u v v' : World} (h : CurPost B C K u v) (hb : Below v.heap.size v v') : CurPost B C K u v' := by
  obtain ⟨h1, h2, h3⟩ := h
  have hl := h1.lt
  have hcell : ∀ b i, b < v.heap.size → v'.cell? ⟨b, i, none⟩ = v.cell? ⟨b, i, none⟩ := fun b i hx => hb.cell (p := ⟨b, i, none⟩) hx
  have hfro : ∀ b i, b < v.heap.size → v'.frozen? ⟨b, i, none⟩ = v.frozen? ⟨b, i, none⟩ := fun b i hx => hb.frozen (p := ⟨b, i, none⟩) hx
  exact ⟨h1.keep (fun b i hx _ => hcell b i hx) (fun i => hfro C i hl.2) hb.size, ⟨fun b i x1 x2 => (hcell b i (Nat.lt_of_lt_of_le x1 h2.2.2)).trans (h2.1 b i x1 x2), fun b i x1 x2 => (hfro b i (Nat.lt_of_lt_of_le x1 h2.2.2)).trans (h2.2.1 b i x1 x2), Nat.le_trans h2.2.2 hb.size⟩, h3.trans (hb.mono (by omega))⟩
/-- a log in a block that can be written -/
def Box3 (v : World) (G : Nat) (x y : Str) (z : Int) : Prop :=
  v.cell? ⟨G, 0, none⟩ = some (.string (S x)) ∧ v.cell? ⟨G, 1, none⟩ = some (.string (S y)) ∧ v.cell? ⟨G, 2, none⟩ = some (.int .i64 z) ∧
  v.frozen? ⟨G, 0, none⟩ = false ∧ v.frozen? ⟨G, 1, none⟩ = false ∧ v.frozen? ⟨G, 2, none⟩ = false ∧ G < v.heap.size
theorem Box3.aside {v v' : World} {C G : Nat} {x y : Str} {z : Int} (h : Box3 v G x y z) (ha : Aside C v v') (hG : G ≠ C) : Box3 v' G x y z := by
  obtain ⟨a1, a2, a3, b1, b2, b3, hz⟩ := h
  exact ⟨(ha.1 _ _ hz hG).trans a1, (ha.1 _ _ hz hG).trans a2, (ha.1 _ _ hz hG).trans a3, (ha.2.1 _ _ hz hG).trans b1, (ha.2.1 _ _ hz hG).trans b2, (ha.2.1 _ _ hz hG).trans b3, Nat.lt_of_lt_of_le hz ha.2.2⟩
theorem Box3.below {v v' : World} {G : Nat} {x y : Str} {z : Int} (h : Box3 v G x y z) (hb : Below v.heap.size v v') : Box3 v' G x y z := by
  obtain ⟨a1, a2, a3, b1, b2, b3, hz⟩ := h
  exact ⟨(hb.cell (p := ⟨G, 0, none⟩) hz).trans a1, (hb.cell (p := ⟨G, 1, none⟩) hz).trans a2, (hb.cell (p := ⟨G, 2, none⟩) hz).trans a3, (hb.frozen (p := ⟨G, 0, none⟩) hz).trans b1, (hb.frozen (p := ⟨G, 1, none⟩) hz).trans b2, (hb.frozen (p := ⟨G, 2, none⟩) hz).trans b3, Nat.lt_of_lt_of_le hz hb.size⟩
theorem Box3.other {v : World} {G g i : Nat} {x y : Str} {z : Int} (h : Box3 v G x y z) (hg : G ≠ g) (u : Value) : Box3 (v.setCell ⟨g, i, none⟩ u) G x y z := by
  obtain ⟨a1, a2, a3, b1, b2, b3, hz⟩ := h
  have e : ∀ j, (v.setCell ⟨g, i, none⟩ u).cell? ⟨G, j, none⟩ = v.cell? ⟨G, j, none⟩ := fun j => World.cell?_setCell_other _ _ _ _ (by intro e; injection e; omega)
  exact ⟨(e 0).trans a1, (e 1).trans a2, (e 2).trans a3, by simpa using b1, by simpa using b2, by simpa using b3, by simpa using hz⟩
theorem Box3.put {v : World} {G : Nat} {x y : Str} {z : Int} (h : Box3 v G x y z) (x' y' : Str) (z' : Int) :
    Box3 (((v.setCell ⟨G, 0, none⟩ (.string (S x'))).setCell ⟨G, 1, none⟩ (.string (S y'))).setCell ⟨G, 2, none⟩ (.int .i64 z')) G x' y' z' := by
  obtain ⟨a1, a2, a3, b1, b2, b3, hz⟩ := h
  exact ⟨by go_simp, by go_simp, by go_simp, by simpa using b1, by simpa using b2, by simpa using b3, by simpa using hz⟩
theorem Box3.fresh (v : World) (x y : Str) (z : Int) (t : TypeId) : Box3 (v.alloc (.cells #[.string (S x), .string (S y), .int .i64 z] t)) v.heap.size x y z :=
  ⟨by go_simp, by go_simp, by go_simp, by go_simp, by go_simp, by go_simp, by simp⟩
/-- the cursor, the library's variables, the result's box and the log's box -/
def CL (B C K : Nat) (w : World) (G : Nat) (x y : Str) (z : Int) (v : World) : Prop :=
  CurPost B C K w v ∧ Env v ∧ Box3 v w.heap.size [] [] 0 ∧ Box3 v G x y z ∧ EB ≤ B ∧ B ≤ C ∧ C < w.heap.size ∧ w.heap.size < G
theorem CL.cur {B C K K' G : Nat} {w v v' : World} {x y : Str} {z : Int} (h : CL B C K w G x y z v) (hc : CurPost B C K' v v') : CL B C K' w G x y z v' := by
  obtain ⟨h1, h2, h3, h4, h5, h6, h7, h8⟩ := h
  exact ⟨h1.trans hc, h2.below hc.2.2 h5, h3.aside hc.2.1 (by omega), h4.aside hc.2.1 (by omega), h5, h6, h7, h8⟩
theorem CL.call {B C K G : Nat} {w v v' : World} {x y : Str} {z : Int} (h : CL B C K w G x y z v) (hb : Below v.heap.size v v') : CL B C K w G x y z v' := by
  obtain ⟨h1, h2, h3, h4, h5, h6, h7, h8⟩ := h
  exact ⟨h1.below hb, h2.below hb h2.size, h3.below hb, h4.below hb, h5, h6, h7, h8⟩
theorem CL.drew {B C K G : Nat} {w v : World} {x y : Str} {z : Int} (h : CL B C K w G x y z v) : CL B C K w G x y z v.drew := h.call (Below.refl _ _).drew
theorem CL.drewN {B C K G : Nat} {w v : World} {x y : Str} {z : Int} (h : CL B C K w G x y z v) (n : Nat) : CL B C K w G x y z (v.drewN n) := h.call (below_drewN (Below.refl _ _) n)
theorem CL.put {B C K G : Nat} {w v : World} {x y : Str} {z : Int} (h : CL B C K w G x y z v) (x' y' : Str) (z' : Int) :
    CL B C K w G x' y' z' (((v.setCell ⟨G, 0, none⟩ (.string (S x'))).setCell ⟨G, 1, none⟩ (.string (S y'))).setCell ⟨G, 2, none⟩ (.int .i64 z')) := by
  obtain ⟨h1, h2, h3, h4, h5, h6, h7, h8⟩ := h
  exact ⟨((h1.set (by omega) (by omega) (by omega) _).set (by omega) (by omega) (by omega) _).set (by omega) (by omega) (by omega) _,
    h2.below ((((Below.refl EB _).setCell (by show EB ≤ G; omega) _).setCell (by show EB ≤ G; omega) _).setCell (by show EB ≤ G; omega) _) (Nat.le_refl _),
    ((h3.other (by omega) _).other (by omega) _).other (by omega) _, h4.put x' y' z', h5, h6, h7, h8⟩
theorem CL.put0 {B C K G : Nat} {w v : World} {x y : Str} {z : Int} (h : CL B C K w G x y z v) (x' : Str) : CL B C K w G x' y z (v.setCell ⟨G, 0, none⟩ (.string (S x'))) := by
  obtain ⟨h1, h2, h3, ⟨a1, a2, a3, b1, b2, b3, hz⟩, h5, h6, h7, h8⟩ := h
  exact ⟨h1.set (by omega) (by omega) (by omega) _, h2.below ((Below.refl EB _).setCell (by show EB ≤ G; omega) _) (Nat.le_refl _), h3.other (by omega) _,
    ⟨by go_simp, by go_simp, by go_simp, by simpa using b1, by simpa using b2, by simpa using b3, by simpa using hz⟩, h5, h6, h7, h8⟩
theorem CL.put1 {B C K G : Nat} {w v : World} {x y : Str} {z : Int} (h : CL B C K w G x y z v) (y' : Str) : CL B C K w G x y' z (v.setCell ⟨G, 1, none⟩ (.string (S y'))) := by
  obtain ⟨h1, h2, h3, ⟨a1, a2, a3, b1, b2, b3, hz⟩, h5, h6, h7, h8⟩ := h
  exact ⟨h1.set (by omega) (by omega) (by omega) _, h2.below ((Below.refl EB _).setCell (by show EB ≤ G; omega) _) (Nat.le_refl _), h3.other (by omega) _,
    ⟨by go_simp, by go_simp, by go_simp, by simpa using b1, by simpa using b2, by simpa using b3, by simpa using hz⟩, h5, h6, h7, h8⟩
theorem CL.put2 {B C K G : Nat} {w v : World} {x y : Str} {z : Int} (h : CL B C K w G x y z v) (z' : Int) : CL B C K w G x y z' (v.setCell ⟨G, 2, none⟩ (.int .i64 z')) := by
  obtain ⟨h1, h2, h3, ⟨a1, a2, a3, b1, b2, b3, hz⟩, h5, h6, h7, h8⟩ := h
  exact ⟨h1.set (by omega) (by omega) (by omega) _, h2.below ((Below.refl EB _).setCell (by show EB ≤ G; omega) _) (Nat.le_refl _), h3.other (by omega) _,
    ⟨by go_simp, by go_simp, by go_simp, by simpa using b1, by simpa using b2, by simpa using b3, by simpa using hz⟩, h5, h6, h7, h8⟩
theorem CL.mono {B C K K' G : Nat} {w v : World} {x y : Str} {z : Int} (h : CL B C K w G x y z v) (hK : K ≤ K') : CL B C K' w G x y z v := ⟨h.1.mono hK, h.2⟩
theorem CL.parts {B C K G : Nat} {w v : World} {x y : Str} {z : Int} (h : CL B C K w G x y z v) : CurPost B C K w v ∧ Env v ∧ Box3 v w.heap.size [] [] 0 ∧ Box3 v G x y z ∧ EB ≤ B ∧ B ≤ C ∧ C < w.heap.size ∧ w.heap.size < G := h
theorem CL.env {B C K G : Nat} {w v : World} {x y : Str} {z : Int} (h : CL B C K w G x y z v) : Env v := h.2.1
theorem CL.is {B C K G : Nat} {w v : World} {x y : Str} {z : Int} (h : CL B C K w G x y z v) : IsCur B C K v := h.1.1
/-- the result is stored: what is left -/
theorem CL.done {B C K G : Nat} {w v : World} {x y : Str} {z : Int} (h : CL B C K w G x y z v) (x' y' z' : Value) :
    CurPost B C K w (((v.setCell ⟨w.heap.size, 0, none⟩ x').setCell ⟨w.heap.size, 1, none⟩ y').setCell ⟨w.heap.size, 2, none⟩ z') ∧ Env (((v.setCell ⟨w.heap.size, 0, none⟩ x').setCell ⟨w.heap.size, 1, none⟩ y').setCell ⟨w.heap.size, 2, none⟩ z') := by
  obtain ⟨h1, h2, h3, h4, h5, h6, h7, h8⟩ := h
  exact ⟨((h1.set (by omega) (by omega) (by omega) _).set (by omega) (by omega) (by omega) _).set (by omega) (by omega) (by omega) _,
    h2.below ((((Below.refl EB _).setCell (by show EB ≤ w.heap.size; omega) _).setCell (by show EB ≤ w.heap.size; omega) _).setCell (by show EB ≤ w.heap.size; omega) _) (Nat.le_refl _)⟩
theorem CL.start {B C K : Nat} {w : World} {t u : TypeId} (h : IsCur B C K w) (hE : Env w) (hB : EB ≤ B) :
    CL B C K w (w.heap.size + 1) [] [] 0 ((w.alloc (.cells #[.string (S []), .string (S []), .int .i64 0] t)).alloc (.cells #[.string (S []), .string (S []), .int .i64 0] u)) := by
  have e : w.heap.size + 1 = (w.alloc (.cells #[.string (S []), .string (S []), .int .i64 0] t)).heap.size := by simp
  refine ⟨((CurPost.refl h (Nat.le_refl _)).alloc _).alloc _, (hE.alloc _).alloc _, (Box3.fresh w _ _ _ _).below ((Below.refl _ _).alloc (Nat.le_refl _) _), ?_, hB, h.lt.1, h.lt.2, by omega⟩
  rw [e]; exact Box3.fresh _ _ _ _ _
/-- a cursor's call between the result's box and the log's -/
theorem CL.start2 {B C K K' : Nat} {w v : World} {t u : TypeId} (h : IsCur B C K w) (hE : Env w) (hB : EB ≤ B) (hc : CurPost B C K' (w.alloc (.cells #[.string (S []), .string (S []), .int .i64 0] t)) v) (x y : Str) (z : Int) :
    CL B C K' w v.heap.size x y z (v.alloc (.cells #[.string (S x), .string (S y), .int .i64 z] u)) := by
  have hl := h.lt
  have hz := hc.2.1.2.2
  simp at hz
  refine ⟨(((CurPost.refl h (Nat.le_refl _)).alloc _).trans hc).alloc _, ((hE.alloc _).below hc.2.2 hB).alloc _, ((Box3.fresh w _ _ _ _).aside hc.2.1 (by omega)).below ((Below.refl _ _).alloc (Nat.le_refl _) _), Box3.fresh _ _ _ _ _, hB, hl.1, hl.2, by omega⟩
/-- a log of few bytes -/
def Sm (d p : Str) (n : Int) : Prop := d.length + p.length ≤ 31000 ∧ 0 ≤ n ∧ n ≤ 60
theorem Sm.app {d p : Str} {n : Int} (h : Sm d p n) (c r : Str) : Sm d (P.appS d p n c r).1 (P.appS d p n c r).2.1 := by
  unfold P.appS
  cases h1 : P.validLog d p n
  · exact h
  · cases h2 : P.good c r
    · exact h
    · cases h3 : (n == 60)
      · obtain ⟨h4, h5, h6⟩ := P.valid_n h1
        have h7 : n ≠ 60 := by simpa using h3
        have := (P.line_len (k := n.toNat) (by omega) h2).1
        refine ⟨?_, ?_, ?_⟩
        · show d.length + (p ++ P.line n.toNat c r).length ≤ 31000
          rw [List.length_append]; omega
        · show 0 ≤ n + 1; omega
        · show n + 1 ≤ 60; omega
      · exact h
theorem Sm.sync {d p : Str} {n : Int} (h : Sm d p n) : Sm (P.syncLog d p n).1 [] (P.syncLog d p n).2.1 := by
  unfold P.syncLog
  cases h1 : P.validLog d p n
  · exact (⟨by decide, by decide, by decide⟩ : Sm [] [] 0)
  · obtain ⟨h4, h5, h6⟩ := P.valid_n h1
    exact ⟨by show (d ++ p).length + 0 ≤ 31000; rw [List.length_append]; omega, h4, h5⟩
end Go.Proofs.YtbjfpceoamiaoaaDoor
