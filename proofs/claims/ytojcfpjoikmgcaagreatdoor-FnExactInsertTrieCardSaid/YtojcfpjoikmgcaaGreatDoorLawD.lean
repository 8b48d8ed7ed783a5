/- Arguments of a law: rows of ints and of entries, however long; their size. What the laws on dictionaries keep between their calls. -/
import Derived.Test.YtojcfpjoikmgcaaGreatDoorMemD
import Derived.Test.YtojcfpjoikmgcaaGreatDoorSmallD
namespace Go.Proofs.YtojcfpjoikmgcaaGreatDoor
section
open Go Go.RowKit
set_option maxHeartbeats 1000000
set_option maxRecDepth 100000
/-- a slice of ints that came in -/
def IntA (v : World) (u : Value) (l : List Int) : Prop :=
  ∃ (ad : Option Addr) (cap : Nat), u = .slice ad l.length cap ∧ (l.length ≤ 9223372036854775807 ∧ l.length ≤ cap) ∧ (ad = none → cap = 0) ∧ (l = [] ∨ ∃ g o, ad = some ⟨g, o, none⟩ ∧ g < v.heap.size ∧ ∀ (j : Nat) (h : j < l.length), v.cell? ⟨g, o + j, none⟩ = some (.int .i64 (l[j]'h)))
theorem IntA.read {v : World} {u : Value} {l : List Int} (h : IntA v u l) (hl : l.length ≤ 2 ^ 20) : IntR v u l := by
  obtain ⟨ad, cap, h1, h0, h2, h3⟩ := h
  exact ⟨ad, cap, h1, by omega, h2, h3⟩
theorem IntA.below {v v' : World} {u : Value} {l : List Int} (h : IntA v u l) (hb : Below v.heap.size v v') : IntA v' u l := by
  obtain ⟨ad, cap, h1, h2, hn, h3⟩ := h
  refine ⟨ad, cap, h1, h2, hn, h3.imp id ?_⟩
  rintro ⟨g, o, h4, h5, h6⟩
  exact ⟨g, o, h4, Nat.lt_of_lt_of_le h5 hb.size, fun j hj => (hb.cell (p := ⟨g, _, none⟩) h5).trans (h6 j hj)⟩
/-- what is left of a size -/
def SzPost (left size : Int) (w : World) (e : Ending) (w' : World) : Prop := (∃ r : Int, e = .returned (.int .i64 r) ∧ -1 ≤ r ∧ (0 ≤ r → r = left - size)) ∧ Below w.heap.size w w'
theorem szIntS (u : Value) (l : List Int) (left : Int) (w : World) (hu : IntA w u l) (h0 : 0 ≤ left) (h1 : left ≤ 2 ^ 20) :
    Calls Tryz.prog 106 #[u, .int .i64 left] w (SzPost left l.length w) := by
  obtain ⟨ad, cap, rfl, hl, _⟩ := hu
  by_cases hlt : left - (l.length : Int) < 0
  · go_enter Tryz.func106, Tryz.ntmps106
    go_wp2
    go_ret
    exact ⟨⟨-1, rfl, by omega, by omega⟩, Below.refl _ _⟩
  · go_enter Tryz.func106, Tryz.ntmps106
    go_wp2
    go_ret
    exact ⟨⟨_, rfl, by omega, by omega⟩, Below.refl _ _⟩
theorem szEntry (u : Value) (l : List Int) (t : Str) (left : Int) (w : World) (hu : IntA w u l) (ht : t.length ≤ 9223372036854775807) (h0 : 0 ≤ left) (h1 : left ≤ 2 ^ 20) :
    Calls Tryz.prog 59 #[.agg #[u, .string (S t)], .int .i64 left] w (SzPost left (l.length + t.length) w) := by
  have hb0 := (Below.refl w.heap.size w).alloc (Nat.le_refl _) (.cells #[u, .string (S t)] 82)
  have HU := Lib.hid (hu.below hb0); have HB0 := Lib.hid hb0; clear hb0
  obtain ⟨ad, cap, rfl, hl, _⟩ := hu
  go_enter Tryz.func59, Tryz.ntmps59
  go_wp2_with fail
  refine (szIntS _ l left _ HU.out h0 h1).mono ?_
  rintro e w1 ⟨⟨r, rfl, hr1, hr2⟩, hb⟩
  have hz := grew0 hb
  obtain ⟨hcc, _⟩ := bcell hb
  have c1 : w1.cell? ⟨w.heap.size, 1, none⟩ = some (.string (S t)) := by rw [hcc _ _ (by simp)]; go_simp
  have HB1 := Lib.hid (HB0.out.trans (hb.mono (by simp)))
  clear hb hcc
  have HR := Lib.hid hr2; clear hr2
  by_cases hlt : r < 0
  · go_wp2
    go_ret
    exact ⟨⟨-1, rfl, by omega, by omega⟩, HB1.out⟩
  · have hr3 : r ≤ 2 ^ 20 := by have := HR.out (by omega); omega
    have hr0 : 0 ≤ r := by omega
    by_cases hlt2 : r - (t.length : Int) < 0
    · go_wp2
      go_ret
      exact ⟨⟨-1, rfl, by omega, by omega⟩, HB1.out⟩
    · go_wp2
      go_ret
      exact ⟨⟨_, rfl, by omega, fun _ => by have := HR.out hr0; omega⟩, HB1.out⟩
end
section
open Go Go.RowKit
/-- a box of one cell -/
def Box1 (b : Nat) (x : Value) (v : World) : Prop := v.cell? ⟨b, 0, none⟩ = some x ∧ b < v.heap.size
theorem Box1.stand {b : Nat} {x : Value} {v v' : World} {X : Blk} (h : Box1 b x v) (hc : Chg X v v') (hX : ¬ X b) : Box1 b x v' :=
  ⟨(hc.cell (p := ⟨b, 0, none⟩) h.2 hX).trans h.1, Nat.lt_of_lt_of_le h.2 hc.size⟩
theorem Box1.below {b : Nat} {x : Value} {v v' : World} (h : Box1 b x v) (hb : Below v.heap.size v v') : Box1 b x v' := h.stand (Below.chg hb fun _ => False) fun h => h
theorem Box1.new (x : Value) (t : TypeId) (v : World) : Box1 v.heap.size x (v.alloc (.cells #[x] t)) := ⟨by go_simp, by simp⟩
theorem Chg.belowB {X : Blk} {B : Nat} {a v v' : World} (h : Below B a v) (hc : Chg X v v') (hB : B ≤ v.heap.size) (hX : ∀ b, X b → B ≤ b) : Below B a v' := h.trans (hc.below hB hX)
end
end Go.Proofs.YtojcfpjoikmgcaaGreatDoor
