/- Walks: a log and a record drawn from bytes. -/
import Derived.Test.YtbjfpceoamiaoaaDoorCur8
namespace Go.Proofs.YtbjfpceoamiaoaaDoor
open Go Go.RowKit
set_option maxHeartbeats 2000000
set_option maxRecDepth 100000
/-- a slice of bytes that lies in the world -/
def CodeIs (w : World) (v : Value) : Prop :=
  ∃ (ad : Option Addr) (n cap : Nat), v = .slice ad n cap ∧ n ≤ 65536 ∧ (n = 0 ∨ ∃ g o, ad = some ⟨g, o, none⟩ ∧ g < w.heap.size ∧ ∀ j, j < n → ∃ b : Nat, b < 256 ∧ w.cell? ⟨g, o + j, none⟩ = some (.int .u8 b))
theorem IsCur.fresh {w u : World} {v : Value} {t : TypeId} (h : CodeIs w v) (hb : Below w.heap.size w u) : IsCur w.heap.size u.heap.size 0 (u.alloc (.cells #[v, .int .i64 0, .int .u64 0] t)) := by
  obtain ⟨ad, n, cap, rfl, hn, hc⟩ := h
  refine ⟨ad, n, cap, 0, 0, by go_simp, by go_simp, by go_simp, by go_simp, by go_simp, Nat.le_refl _, hn, by decide, by decide, hb.size, by simp, ?_⟩
  rcases hc with h | ⟨g, o, h1, h2, h3⟩
  · exact .inl h
  · refine .inr ⟨g, o, h1, h2, fun j hj => ?_⟩
    obtain ⟨b, hb1, hb2⟩ := h3 j hj
    exact ⟨b, hb1, (World.cell?_alloc_lt _ _ _ (Nat.lt_of_lt_of_le h2 hb.size)).trans ((hb.cell (p := ⟨g, _, none⟩) h2).trans hb2)⟩
theorem CodeIs.below {w w' : World} {v : Value} (h : CodeIs w v) (hb : Below w.heap.size w w') : CodeIs w' v := by
  obtain ⟨ad, n, cap, rfl, hn, hc⟩ := h
  refine ⟨ad, n, cap, rfl, hn, ?_⟩
  rcases hc with h | ⟨g, o, h1, h2, h3⟩
  · exact .inl h
  · refine .inr ⟨g, o, h1, Nat.lt_of_lt_of_le h2 hb.size, fun j hj => ?_⟩
    obtain ⟨b, hb1, hb2⟩ := h3 j hj
    exact ⟨b, hb1, (hb.cell (p := ⟨g, _, none⟩) h2).trans hb2⟩
theorem IsCur.below {B C K : Nat} {v v' : World} (h : IsCur B C K v) (hb : Below v.heap.size v v') : IsCur B C K v' := ((CurPost.refl h (Nat.le_refl _)).below hb).1
theorem IsCur.set {B C K g i : Nat} {v : World} (h : IsCur B C K v) (hgC : g ≠ C) (hgB : B ≤ g) (x : Value) : IsCur B C K (v.setCell ⟨g, i, none⟩ x) :=
  h.keep (fun b j _ hb => World.cell?_setCell_other _ _ _ _ (by intro e; injection e; omega)) (fun j => by simp) (by simp)
/-- a record in a block that can be written -/
def Box2 (v : World) (G : Nat) (x y : Str) : Prop :=
  v.cell? ⟨G, 0, none⟩ = some (.string (S x)) ∧ v.cell? ⟨G, 1, none⟩ = some (.string (S y)) ∧ v.frozen? ⟨G, 0, none⟩ = false ∧ v.frozen? ⟨G, 1, none⟩ = false ∧ G < v.heap.size
theorem Box2.aside {v v' : World} {C G : Nat} {x y : Str} (h : Box2 v G x y) (ha : Aside C v v') (hG : G ≠ C) : Box2 v' G x y := by
  obtain ⟨a1, a2, b1, b2, hz⟩ := h
  exact ⟨(ha.1 _ _ hz hG).trans a1, (ha.1 _ _ hz hG).trans a2, (ha.2.1 _ _ hz hG).trans b1, (ha.2.1 _ _ hz hG).trans b2, Nat.lt_of_lt_of_le hz ha.2.2⟩
theorem Box2.below {v v' : World} {G : Nat} {x y : Str} (h : Box2 v G x y) (hb : Below v.heap.size v v') : Box2 v' G x y := by
  obtain ⟨a1, a2, b1, b2, hz⟩ := h
  exact ⟨(hb.cell (p := ⟨G, 0, none⟩) hz).trans a1, (hb.cell (p := ⟨G, 1, none⟩) hz).trans a2, (hb.frozen (p := ⟨G, 0, none⟩) hz).trans b1, (hb.frozen (p := ⟨G, 1, none⟩) hz).trans b2, Nat.lt_of_lt_of_le hz hb.size⟩
theorem Box2.other {v : World} {G g i : Nat} {x y : Str} (h : Box2 v G x y) (hg : G ≠ g) (u : Value) : Box2 (v.setCell ⟨g, i, none⟩ u) G x y := by
  obtain ⟨a1, a2, b1, b2, hz⟩ := h
  have e : ∀ j, (v.setCell ⟨g, i, none⟩ u).cell? ⟨G, j, none⟩ = v.cell? ⟨G, j, none⟩ := fun j => World.cell?_setCell_other _ _ _ _ (by intro e; injection e; omega)
  exact ⟨(e 0).trans a1, (e 1).trans a2, by simpa using b1, by simpa using b2, by simpa using hz⟩
theorem Box2.fresh (v : World) (x y : Str) (t : TypeId) : Box2 (v.alloc (.cells #[.string (S x), .string (S y)] t)) v.heap.size x y :=
  ⟨by go_simp, by go_simp, by go_simp, by go_simp, by simp⟩
/-- the cursor of a drawing, the result's boxes and the log's box -/
def DL (w : World) (C K R : Nat) (q : Bool) (Q G : Nat) (x y : Str) (z : Int) (v : World) : Prop :=
  IsCur w.heap.size C K v ∧ Below w.heap.size w v ∧ Env v ∧ Box3 v R [] [] 0 ∧ Box3 v G x y z ∧ (q = true → Box2 v Q [] [] ∧ w.heap.size ≤ Q ∧ Q ≠ C ∧ Q ≠ G ∧ Q ≠ R) ∧
  EB ≤ w.heap.size ∧ w.heap.size ≤ R ∧ w.heap.size ≤ G ∧ R ≠ C ∧ G ≠ C ∧ R ≠ G
section
variable {w v v' : World} {C K K' R Q G : Nat} {q : Bool} {x y : Str} {z : Int}
theorem DL.cur (h : DL w C K R q Q G x y z v) (hc : CurPost w.heap.size C K' v v') : DL w C K' R q Q G x y z v' := by
  obtain ⟨h1, h2, h3, h4, h5, h6, h7, h8, h9, h10, h11, h12⟩ := h
  exact ⟨hc.1, h2.trans hc.2.2, h3.below hc.2.2 h7, h4.aside hc.2.1 h10, h5.aside hc.2.1 h11, fun e => ⟨(h6 e).1.aside hc.2.1 (h6 e).2.2.1, (h6 e).2⟩, h7, h8, h9, h10, h11, h12⟩
theorem DL.call (h : DL w C K R q Q G x y z v) (hb : Below v.heap.size v v') : DL w C K R q Q G x y z v' := by
  obtain ⟨h1, h2, h3, h4, h5, h6, h7, h8, h9, h10, h11, h12⟩ := h
  exact ⟨h1.below hb, h2.trans (hb.mono h2.size), h3.below hb h3.size, h4.below hb, h5.below hb, fun e => ⟨(h6 e).1.below hb, (h6 e).2⟩, h7, h8, h9, h10, h11, h12⟩
theorem DL.drew (h : DL w C K R q Q G x y z v) : DL w C K R q Q G x y z v.drew := h.call (Below.refl _ _).drew
theorem DL.put (h : DL w C K R q Q G x y z v) (x' y' : Str) (z' : Int) :
    DL w C K R q Q G x' y' z' (((v.setCell ⟨G, 0, none⟩ (.string (S x'))).setCell ⟨G, 1, none⟩ (.string (S y'))).setCell ⟨G, 2, none⟩ (.int .i64 z')) := by
  obtain ⟨h1, h2, h3, h4, h5, h6, h7, h8, h9, h10, h11, h12⟩ := h
  exact ⟨((h1.set h11 h9 _).set h11 h9 _).set h11 h9 _, ((h2.setCell h9 _).setCell h9 _).setCell h9 _,
    h3.below ((((Below.refl EB _).setCell (by show EB ≤ G; omega) _).setCell (by show EB ≤ G; omega) _).setCell (by show EB ≤ G; omega) _) (Nat.le_refl _),
    ((h4.other h12 _).other h12 _).other h12 _, h5.put x' y' z', fun e => ⟨(((h6 e).1.other (h6 e).2.2.2.1 _).other (h6 e).2.2.2.1 _).other (h6 e).2.2.2.1 _, (h6 e).2⟩, h7, h8, h9, h10, h11, h12⟩
theorem DL.parts (h : DL w C K R q Q G x y z v) : Box3 v R [] [] 0 ∧ Box3 v G x y z ∧ (q = true → Box2 v Q [] [] ∧ w.heap.size ≤ Q ∧ Q ≠ C ∧ Q ≠ G ∧ Q ≠ R) ∧ R ≠ C ∧ G ≠ C ∧ R ≠ G := ⟨h.2.2.2.1, h.2.2.2.2.1, h.2.2.2.2.2.1, h.2.2.2.2.2.2.2.2.2⟩
theorem DL.env (h : DL w C K R q Q G x y z v) : Env v := h.2.2.1
theorem DL.is (h : DL w C K R q Q G x y z v) : IsCur w.heap.size C K v := h.1
theorem DL.below (h : DL w C K R q Q G x y z v) : Below w.heap.size w v := h.2.1
theorem DL.res (h : DL w C K R q Q G x y z v) : w.heap.size ≤ R := h.2.2.2.2.2.2.2.1
theorem DL.mono (h : DL w C K R q Q G x y z v) (hK : K ≤ K') : DL w C K' R q Q G x y z v := ⟨h.1.mono hK, h.2⟩
theorem DL.start {u0 : World} {o : Obj} (hC : u0.heap.size = C) (hb : Below w.heap.size w u0) (hR : Box3 u0 R [] [] 0) (hRw : w.heap.size ≤ R) (hQ : q = true → Box2 u0 Q [] [] ∧ w.heap.size ≤ Q ∧ Q ≠ R) (hE : Env w) (hc : CurPost w.heap.size C K (u0.alloc o) v) (x y : Str) (z : Int) (t : TypeId) :
    DL w C K R q Q v.heap.size x y z (v.alloc (.cells #[.string (S x), .string (S y), .int .i64 z] t)) := by
  have hz := hc.2.1.2.2
  simp at hz
  have hR2 : R < u0.heap.size := hR.2.2.2.2.2.2
  have hA : Below u0.heap.size u0 (u0.alloc o) := (Below.refl _ _).alloc (Nat.le_refl _) o
  have hV : Below v.heap.size v (v.alloc (.cells #[.string (S x), .string (S y), .int .i64 z] t)) := (Below.refl _ _).alloc (Nat.le_refl _) _
  have hbv : Below w.heap.size w v := (hb.trans (hA.mono hb.size)).trans hc.2.2
  refine ⟨hc.1.below hV, hbv.trans (hV.mono hbv.size), hE.below (hbv.trans (hV.mono hbv.size)) hE.size, (((hR.below hA).aside hc.2.1 (by omega)).below hV), Box3.fresh _ _ _ _ _, fun e => ?_, hE.size, hRw, hbv.size, by omega, by omega, by omega⟩
  obtain ⟨h1, h2, h3⟩ := hQ e
  have hQ2 : Q < u0.heap.size := h1.2.2.2.2
  exact ⟨((h1.below hA).aside hc.2.1 (by omega)).below hV, h2, by omega, by omega, h3⟩
end
end Go.Proofs.YtbjfpceoamiaoaaDoor
