/- Arguments of a law: rows of ints and of entries, however long; their size. What the laws on dictionaries keep between their calls. -/
import Derived.Test.YtojcfpjoikmgcaaDoorMemD
import Derived.Test.YtojcfpjoikmgcaaDoorSmallD
namespace Go.Proofs.YtojcfpjoikmgcaaDoor
section
open Go Go.RowKit
set_option maxHeartbeats 1000000
set_option maxRecDepth 100000
/-- a slice of ints that came in -/
def IntA (v : World) (u : Value) (l : List Int) : Prop :=
  ∃ (ad : Option Addr) (cap : Nat), u = .slice ad l.length cap ∧ (l.length ≤ 9223372036854775807 ∧ l.length ≤ cap) ∧ (ad = none → cap = 0) ∧ (l = [] ∨ ∃ g o, ad = some ⟨g, o, none⟩ ∧ g < v.heap.size ∧ ∀ (j : Nat) (h : j < l.length), v.cell? ⟨g, o + j, none⟩ = some (.int .i64 (l[j]'h)))
theorem IntA.read {v : World} {u : Value} {l : List Int} (h : IntA v u l) (hl : l.length ≤ 2 ^ 20) : IntR v u l := by
  obtain ⟨ad, cap, h1, h0, h2, h3⟩ := h
  exact ⟨ad, cap, h1, by omega, h2, h3⟩
theorem IntA.below {v v' : World} {u : Value} {l : List Int} (h : IntA v u l) (hb : Below v.heap.size v v') : IntA v' u l := by
  obtain ⟨ad, cap, h1, h2, hn, h3⟩ := h
  refine ⟨ad, cap, h1, h2, hn, h3.imp id ?_⟩
  rintro ⟨g, o, h4, h5, h6⟩
  exact ⟨g, o, h4, Nat.lt_of_lt_of_le h5 hb.size, fun j hj => (hb.cell (p := ⟨g, _, none⟩) h5).trans (h6 j hj)⟩
/-- what is left of a size -/
def SzPost (left size : Int) (w : World) (e : Ending) (w' : World) : Prop := (∃ r : Int, e = .returned (.int .i64 r) ∧ -1 ≤ r ∧ (0 ≤ r → r = left - size)) ∧ Below w.heap.size w w'
theorem szIntS (u : Value) (l : List Int) (left : Int) (w : World) (hu : IntA w u l) (h0 : 0 ≤ left) (h1 : left ≤ 2 ^ 20) :
    Calls Tryd.prog 34 #[u, .int .i64 left] w (SzPost left l.length w) := by
  obtain ⟨ad, cap, rfl, hl, _⟩ := hu
  by_cases hlt : left - (l.length : Int) < 0
  · go_enter Tryd.func34, Tryd.ntmps34
    go_wp2
    go_ret
    exact ⟨⟨-1, rfl, by omega, by omega⟩, Below.refl _ _⟩
  · go_enter Tryd.func34, Tryd.ntmps34
    go_wp2
    go_ret
    exact ⟨⟨_, rfl, by omega, by omega⟩, Below.refl _ _⟩
end
section
open Go Go.RowKit
/-- a box of one cell -/
def Box1 (b : Nat) (x : Value) (v : World) : Prop := v.cell? ⟨b, 0, none⟩ = some x ∧ b < v.heap.size
theorem Box1.stand {b : Nat} {x : Value} {v v' : World} {X : Blk} (h : Box1 b x v) (hc : Chg X v v') (hX : ¬ X b) : Box1 b x v' :=
  ⟨(hc.cell (p := ⟨b, 0, none⟩) h.2 hX).trans h.1, Nat.lt_of_lt_of_le h.2 hc.size⟩
theorem Box1.below {b : Nat} {x : Value} {v v' : World} (h : Box1 b x v) (hb : Below v.heap.size v v') : Box1 b x v' := h.stand (Below.chg hb fun _ => False) fun h => h
theorem Box1.new (x : Value) (t : TypeId) (v : World) : Box1 v.heap.size x (v.alloc (.cells #[x] t)) := ⟨by go_simp, by simp⟩
end
end Go.Proofs.YtojcfpjoikmgcaaDoor
