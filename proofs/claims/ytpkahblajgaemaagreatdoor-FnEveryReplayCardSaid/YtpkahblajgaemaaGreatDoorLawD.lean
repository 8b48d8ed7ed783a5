/- Walks: the library's stable sort, on a row that is in order: insertion. Walks: the library's stable sort, on a row that is in order: a merge. Walks: the library's stable sort, on a row that is in order. -/
import Derived.Deep.DeepCutAuto
import Derived.IntWalk
import Derived.Test.YtpkahblajgaemaaGreatDoorMemD
import Derived.Test.YtpkahblajgaemaaGreatDoorValD
import Derived.Test.YtpkahblajgaemaaGreatDoorMemE
import Derived.Test.YtpkahblajgaemaaGreatDoorOutD
namespace Go.Proofs.YtpkahblajgaemaaGreatDoor
section
namespace P
end P
open Go Go.RowKit
set_option maxHeartbeats 1000000
set_option maxRecDepth 100000
/-- two entries of a row, as a comparison reads them -/
def KC (B : Nat) (w : World) (g p : Nat) (x : Value) (eo : List Int) (et : Str) (q : Nat) (y : Value) (fo : List Int) (ft : Str) (v : World) : Prop :=
  v.cell? ⟨g, p, none⟩ = some x ∧ v.cell? ⟨g, p + 1, none⟩ = some (.string (S et)) ∧ v.cell? ⟨g, q, none⟩ = some y ∧ v.cell? ⟨g, q + 1, none⟩ = some (.string (S ft)) ∧ g < v.heap.size ∧ IntR v x eo ∧ IntR v y fo ∧ B ≤ v.heap.size ∧ Below B w v
theorem KC.step {B : Nat} {w v v' : World} {g p q : Nat} {x y : Value} {eo fo : List Int} {et ft : Str} (h : KC B w g p x eo et q y fo ft v) (hb : Below v.heap.size v v') : KC B w g p x eo et q y fo ft v' := by
  obtain ⟨h1, h2, h3, h4, h5, h6, h7, h8, h9⟩ := h
  exact ⟨(hb.cell (p := ⟨g, p, none⟩) h5).trans h1, (hb.cell (p := ⟨g, p + 1, none⟩) h5).trans h2, (hb.cell (p := ⟨g, q, none⟩) h5).trans h3, (hb.cell (p := ⟨g, q + 1, none⟩) h5).trans h4,
    Nat.lt_of_lt_of_le h5 hb.size, h6.below hb, h7.below hb, Nat.le_trans h8 hb.size, h9.trans (hb.mono h8)⟩
/-- how two entries of a row read -/
theorem EntR.two {w v : World} {B g o cap : Nat} {l : P.Dic} (h : EntR w (.slice (some ⟨g, o, none⟩) l.length cap) l) (hz : w.heap.size ≤ B) (hb : Below B w v) (hB : B ≤ v.heap.size) (i j : Nat) (hi : i < l.length) (hj : j < l.length) :
    ∃ x xd xc y yd yc, x = .slice xd (l[i]'hi).1.length xc ∧ y = .slice yd (l[j]'hj).1.length yc ∧ KC B w g (o + i * 2) x (l[i]'hi).1 (l[i]'hi).2 (o + j * 2) y (l[j]'hj).1 (l[j]'hj).2 v := by
  have h' := h.below (hb.mono hz)
  obtain ⟨g1, o1, e1, hg, x, a0, a1, hx⟩ := h'.at i hi
  obtain ⟨g2, o2, e2, _, y, b0, b1, hy⟩ := h'.at j hj
  injection e1 with e1; injection e1 with e1 e1' _
  injection e2 with e2; injection e2 with e2 e2' _
  subst e1 e1' e2 e2'
  obtain ⟨xd, xc, hxe, _⟩ := id hx
  obtain ⟨yd, yc, hye, _⟩ := id hy
  exact ⟨x, xd, xc, y, yd, yc, hxe, hye, a0, a1, b0, b1, hg, hx, hy, hB, hb⟩
end
section
open Go Go.RowKit
set_option maxHeartbeats 2000000
set_option maxRecDepth 100000
end
section
open Go Go.RowKit
set_option maxHeartbeats 2000000
set_option maxRecDepth 100000
end
end Go.Proofs.YtpkahblajgaemaaGreatDoor

namespace Go.Proofs.YtpkahblajgaemaaGreatDoor
open Go Go.RowKit
/-- what is handed back of a dictionary -/
def P.kept (ok : Bool) (l : P.Dic) : P.Dic := if ok then l else []
/-- what is known of a dictionary that a law hands on -/
structure Small (l : P.Dic) : Prop where
  len : l.length ≤ 2 ^ 20
  outs : ∀ e ∈ l, e.1.length ≤ 2 ^ 20
  texts : ∀ e ∈ l, e.2.length ≤ 2 ^ 30
end Go.Proofs.YtpkahblajgaemaaGreatDoor

namespace Go.Proofs.YtpkahblajgaemaaGreatDoor
section
open Go Go.RowKit
set_option maxHeartbeats 1000000
set_option maxRecDepth 100000
/-- a slice of ints that came in -/
def IntA (v : World) (u : Value) (l : List Int) : Prop :=
  ∃ (ad : Option Addr) (cap : Nat), u = .slice ad l.length cap ∧ (l.length ≤ 9223372036854775807 ∧ l.length ≤ cap) ∧ (ad = none → cap = 0) ∧ (l = [] ∨ ∃ g o, ad = some ⟨g, o, none⟩ ∧ g < v.heap.size ∧ ∀ (j : Nat) (h : j < l.length), v.cell? ⟨g, o + j, none⟩ = some (.int .i64 (l[j]'h)))
/-- a slice of entries that came in -/
def EntA (v : World) (u : Value) (l : P.Dic) : Prop :=
  ∃ (ad : Option Addr) (cap : Nat), u = .slice ad l.length cap ∧ (l.length ≤ 9223372036854775807 ∧ l.length ≤ cap) ∧ (ad = none → cap = 0) ∧ (l = [] ∨ ∃ g o, ad = some ⟨g, o, none⟩ ∧ g < v.heap.size ∧ ∀ (j : Nat) (h : j < l.length), ∃ x, v.cell? ⟨g, o + j * 2, none⟩ = some x ∧ v.cell? ⟨g, o + j * 2 + 1, none⟩ = some (.string (S (l[j]'h).2)) ∧ IntA v x (l[j]'h).1)
theorem IntA.read {v : World} {u : Value} {l : List Int} (h : IntA v u l) (hl : l.length ≤ 2 ^ 20) : IntR v u l := by
  obtain ⟨ad, cap, h1, h0, h2, h3⟩ := h
  exact ⟨ad, cap, h1, by omega, h2, h3⟩
theorem EntA.read {v : World} {u : Value} {l : P.Dic} (h : EntA v u l) (hl : l.length ≤ 2 ^ 20) (ho : ∀ e ∈ l, e.1.length ≤ 2 ^ 20) : EntR v u l := by
  obtain ⟨ad, cap, h1, h0, h2, h3⟩ := h
  refine ⟨ad, cap, h1, by omega, h2, h3.imp id ?_⟩
  rintro ⟨g, o, h4, h5, h6⟩
  refine ⟨g, o, h4, h5, fun j hj => ?_⟩
  obtain ⟨x, a, b, c⟩ := h6 j hj
  exact ⟨x, a, b, c.read (ho _ (List.getElem_mem hj))⟩
theorem IntA.below {v v' : World} {u : Value} {l : List Int} (h : IntA v u l) (hb : Below v.heap.size v v') : IntA v' u l := by
  obtain ⟨ad, cap, h1, h2, hn, h3⟩ := h
  refine ⟨ad, cap, h1, h2, hn, h3.imp id ?_⟩
  rintro ⟨g, o, h4, h5, h6⟩
  exact ⟨g, o, h4, Nat.lt_of_lt_of_le h5 hb.size, fun j hj => (hb.cell (p := ⟨g, _, none⟩) h5).trans (h6 j hj)⟩
theorem EntA.below {v v' : World} {u : Value} {l : P.Dic} (h : EntA v u l) (hb : Below v.heap.size v v') : EntA v' u l := by
  obtain ⟨ad, cap, h1, h2, hn, h3⟩ := h
  refine ⟨ad, cap, h1, h2, hn, h3.imp id ?_⟩
  rintro ⟨g, o, h4, h5, h6⟩
  refine ⟨g, o, h4, Nat.lt_of_lt_of_le h5 hb.size, fun j hj => ?_⟩
  obtain ⟨x, a, b, c⟩ := h6 j hj
  exact ⟨x, (hb.cell (p := ⟨g, _, none⟩) h5).trans a, (hb.cell (p := ⟨g, _, none⟩) h5).trans b, c.below hb⟩
theorem EntA.at {v : World} {ad : Option Addr} {n cap : Nat} {l : P.Dic} (h : EntA v (.slice ad n cap) l) (j : Nat) (hj : j < l.length) : ∃ g o, ad = some ⟨g, o, none⟩ ∧ g < v.heap.size ∧ ∃ x, v.cell? ⟨g, o + j * 2, none⟩ = some x ∧ v.cell? ⟨g, o + j * 2 + 1, none⟩ = some (.string (S (l[j]'hj).2)) ∧ IntA v x (l[j]'hj).1 := by
  obtain ⟨ad', cap', he, _, _, h3⟩ := h
  injection he with h1 h2 h4
  rcases h3 with h3 | ⟨g, o, h5, h6, h7⟩
  · rw [h3] at hj; exact absurd hj (Nat.not_lt_zero _)
  · exact ⟨g, o, h1.trans h5, h6, h7 j hj⟩
end
section
open Go Go.RowKit
/-- a box of one cell -/
def Box1 (b : Nat) (x : Value) (v : World) : Prop := v.cell? ⟨b, 0, none⟩ = some x ∧ b < v.heap.size
theorem Box1.stand {b : Nat} {x : Value} {v v' : World} {X : Blk} (h : Box1 b x v) (hc : Chg X v v') (hX : ¬ X b) : Box1 b x v' :=
  ⟨(hc.cell (p := ⟨b, 0, none⟩) h.2 hX).trans h.1, Nat.lt_of_lt_of_le h.2 hc.size⟩
theorem Box1.below {b : Nat} {x : Value} {v v' : World} (h : Box1 b x v) (hb : Below v.heap.size v v') : Box1 b x v' := h.stand (Below.chg hb fun _ => False) fun h => h
theorem Box1.new (x : Value) (t : TypeId) (v : World) : Box1 v.heap.size x (v.alloc (.cells #[x] t)) := ⟨by go_simp, by simp⟩
theorem Chg.belowB {X : Blk} {B : Nat} {a v v' : World} (h : Below B a v) (hc : Chg X v v') (hB : B ≤ v.heap.size) (hX : ∀ b, X b → B ≤ b) : Below B a v' := h.trans (hc.below hB hX)
end
end Go.Proofs.YtpkahblajgaemaaGreatDoor
