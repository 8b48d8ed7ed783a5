/- Plain: the trie of a dictionary, how it is built, read and collected. -/
import Derived.Test.YtmlklnimoknojaaGreatDoorPlainD
import Derived.Deep.DeepCutAuto
import Derived.Laws.OwnMore
import Derived.Test.YtmlklnimoknojaaGreatDoorMemE
import Derived.BigRegion
import Derived.RegionTactic
namespace Go.Proofs.YtmlklnimoknojaaGreatDoor
namespace P
/-- a node: strokes, children, whether it has a text, the text -/
abbrev Nd := List Int × List Int × Bool × Bs
abbrev Tri := List Nd
def strokeAt (d : Nat) (e : Ent) : Int := e.1.getD d 0
/-- the entries in parts that share a stroke -/
def groups (d : Nat) : Nat → Dic → List Dic
  | 0, _ => []
  | _ + 1, [] => []
  | n + 1, e :: l => (e :: l.takeWhile fun x => strokeAt d x == strokeAt d e) :: groups d n (l.dropWhile fun x => strokeAt d x == strokeAt d e)
def headStroke (d : Nat) : Dic → Int
  | [] => 0
  | e :: _ => strokeAt d e
/-- the subtrees of parts, from an index on: strokes, children, nodes -/
def kids (B : Nat → Dic → Tri) (d : Nat) : Nat → List Dic → List Int × List Int × Tri
  | _, [] => ([], [], [])
  | next, g :: gs => (headStroke d g :: (kids B d (next + (B next g).length) gs).1, (next : Int) :: (kids B d (next + (B next g).length) gs).2.1, B next g ++ (kids B d (next + (B next g).length) gs).2.2)
/-- what stands behind the entry of a node itself -/
def rest (d : Nat) : Dic → Dic
  | [] => []
  | e :: l => if e.1.length = d then l else e :: l
def ownText (d : Nat) : Dic → Bool × Bs
  | [] => (false, [])
  | e :: _ => if e.1.length = d then (true, e.2) else (false, [])
/-- the subtree of entries that share their first d strokes -/
def build : Nat → Nat → Nat → Dic → Tri
  | 0, _, _, _ => []
  | f + 1, d, base, es =>
    ((kids (fun b g => build f (d + 1) b g) d (base + 1) (groups d es.length (rest d es))).1, (kids (fun b g => build f (d + 1) b g) d (base + 1) (groups d es.length (rest d es))).2.1, ownText d es) ::
      (kids (fun b g => build f (d + 1) b g) d (base + 1) (groups d es.length (rest d es))).2.2
/-- the trie of a dictionary -/
def trie (l : Dic) : Tri := build 7 0 0 l
/-- no node -/
def nd0 : Nd := ([], [], false, [])
/-- the program's reading of a trie -/
def readK (R : Int → List Int → Nat → Option (Nat × Dic)) (o : List Int) : List (Int × Int) → Nat → Option (Nat × Dic)
  | [], nx => some (nx, [])
  | (s, c) :: l, nx => match R c (o ++ [s]) nx with
    | none => none
    | some (n1, e1) => match readK R o l n1 with
      | none => none
      | some (n2, e2) => some (n2, e1 ++ e2)
def own (o : List Int) (n : Nd) : Dic := if n.2.2.1 then [(o, n.2.2.2)] else []
def read (t : Tri) : Nat → Int → List Int → Nat → Option (Nat × Dic)
  | 0, _, _, _ => none
  | f + 1, k, o, nx =>
    if k = (nx : Int) ∧ nx < t.length then
      if (t.getD nx nd0).1.length = (t.getD nx nd0).2.1.length then
        (readK (read t f) o ((t.getD nx nd0).1.zip (t.getD nx nd0).2.1) (nx + 1)).map fun r => (r.1, own o (t.getD nx nd0) ++ r.2)
      else none
    else none
def upto (ch : Nat → List Int) : Nat → List Int
  | 0 => []
  | k + 1 => upto ch k ++ ch k
end P
end Go.Proofs.YtmlklnimoknojaaGreatDoor

namespace Go.Proofs.YtmlklnimoknojaaGreatDoor
section
section
open Go Go.RowKit
set_option maxHeartbeats 1000000
set_option maxRecDepth 100000
variable {α : Type} {E : ElT α} {wd : Nat}
variable {e : TypeId} {B : Nat} {v v' : World} {u : Value} {G : Nat → Blk} {C : Nat → List Value} {l : List α}
end
end
section
section
open Go Go.RowKit
set_option maxHeartbeats 1000000
set_option maxRecDepth 100000
theorem owns_st {B : Nat} {e : TypeId} {z : Nat} {v v' : World} {u : Value} {n : Nat} {xs : List Value} {X : Blk} (h : v.ownsRow B e z u n xs) (hc : Chg X v v') (hX : ∀ k, u.ownBlock = some k → ¬ X k) : v'.ownsRow B e z u n xs := by
  refine ⟨h.1, ?_⟩
  rcases h.2 with h5 | ⟨g, cap, cur, hv, hg, hh, r⟩
  · exact .inl h5
  · have hlt := (World.ownsRow.lt h g (by rw [hv]; rfl)).2
    exact .inr ⟨g, cap, cur, hv, hg, by rw [hc.block g hlt (hX g (by rw [hv]; rfl))]; exact hh, r⟩
variable {w : World} {R N : Nat} {u : Value} {G : Nat → Blk} {l0 : P.Tri} {t : Bool} {x : Str} {v v' : World} {ur : Value} {Gr : Nat → Blk} {Cr : Nat → List Value} {lr : P.Tri} {su cu : Value} {s c : List Int}
end
end
section
section
open Go Go.RowKit
set_option maxHeartbeats 1000000
set_option maxRecDepth 100000
end
section
namespace P
def behind (d : Nat) : Dic → Dic
  | [] => []
  | e :: l => l.dropWhile fun x => strokeAt d x == strokeAt d e
end P
end
end
end Go.Proofs.YtmlklnimoknojaaGreatDoor

namespace Go.Proofs.YtmlklnimoknojaaGreatDoor
section
section
open Go Go.RowKit
set_option maxHeartbeats 1000000
set_option maxRecDepth 100000
def OwnPost (l : List Int) (w : World) (e : Ending) (w' : World) : Prop := ∃ u, e = .returned u ∧ w'.ownsRow w.heap.size 3 1 u l.length (ints l) ∧ Below w.heap.size w w'
theorem copyOf_own (u : Value) (l : List Int) (w : World) (hu : IntR w u l) (hl : l.length ≤ 2 ^ 30) :
    Calls Tryz.prog 68 #[u] w (OwnPost l w) := by
  obtain ⟨i0, hi, hz0, hz1, hz2⟩ := info_parts info_int
  have hb0 := (Below.refl w.heap.size w).alloc (Nat.le_refl _) (.cells #[] 3)
  have HSRC := Lib.hid (src_of_ints (hu.below hb0))
  have HB := Lib.hid hb0; clear hb0
  have HOWN := Lib.hid (World.ownsRow_lit (base := w.heap.size) (e := 3) (size := 1) w #[] 0 (Nat.le_refl _) (Nat.zero_le _) (by simp))
  obtain ⟨ad, cap, rfl, _, _⟩ := hu
  go_enter Tryz.func68, Tryz.ntmps68
  go_wp2_with (at_builtin; refine wpList_append_src rfl _ _ 27 rfl w.heap.size 3 i0 (.int .i64 0) 1 8 Tryz.underlying27 hi hz0 hz1 hz2 rfl (by decide) _ 0 [] rfl HOWN.out _ l.length (ints l) rfl HSRC.out ?_ ?_ (by simp) ?_)
  · unfold maxLen; omega
  · omega
  intro v' w' hown hgr _
  have HOW := Lib.hid hown
  have HBB := Lib.hid (HB.out.grown hgr (by simp) (fun k hk => by simp [Value.ownBlock] at hk; omega))
  clear hown hgr
  go_wp2
  go_ret
  refine ⟨_, rfl, ?_, HBB.out⟩
  exact HOW.out
theorem IntR.chg {v v' : World} {u : Value} {l : List Int} {X : Blk} (h : IntR v u l) (hc : Chg X v v') (hX : ∀ b, u.ownBlock = some b → ¬ X b) : IntR v' u l := by
  obtain ⟨ad, cap, h1, h2, hn, h3⟩ := h
  refine ⟨ad, cap, h1, h2, hn, h3.imp id ?_⟩
  rintro ⟨g, o, h4, h5, h6⟩
  exact ⟨g, o, h4, Nat.lt_of_lt_of_le h5 hc.size, fun j hj => (hc.cell (p := ⟨g, _, none⟩) h5 (hX g (by rw [h1, h4]; rfl))).trans (h6 j hj)⟩
variable {w : World} {R N : Nat} {tv u x y : Value} {tt : Bool} {ss : Str} {n1 : Nat} {u1 : Value} {es1 : P.Dic} {xs1 : List Value} {v v' : World}
end
section
namespace P
end P
end
end
section
open Go Go.RowKit
set_option maxHeartbeats 8000000
set_option maxRecDepth 100000
end
end Go.Proofs.YtmlklnimoknojaaGreatDoor
