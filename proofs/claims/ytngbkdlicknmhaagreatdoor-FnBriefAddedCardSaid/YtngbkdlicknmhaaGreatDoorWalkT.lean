/- Plain: segmentation by longest match; an added brief that occurs nowhere among the strokes leaves it as it is. -/
import Derived.Test.YtngbkdlicknmhaaGreatDoorLook1
import Derived.Test.YtngbkdlicknmhaaGreatDoorPlainD
import Derived.Deep.DeepCutAuto
import Derived.Laws.OwnMore
import Derived.Test.YtngbkdlicknmhaaGreatDoorMemE
import Derived.BigRegion
import Derived.RegionTactic
import Derived.Deep.RegionHeld
import Derived.BigQuiet
import Derived.IntWalk
import Derived.Test.YtngbkdlicknmhaaGreatDoorOutD
import Derived.Test.YtngbkdlicknmhaaGreatDoorLawD
import Derived.Test.YtngbkdlicknmhaaGreatDoorDelA
import Derived.Test.YtngbkdlicknmhaaGreatDoorValD
namespace Go.Proofs.YtngbkdlicknmhaaGreatDoor.P
abbrev Pc := (Int × Int) × Bs
/-- the longest piece of at most n strokes -/
def matchN (d : Dic) (st : List Int) (a : Nat) : Nat → Pc
  | 0 => (((a : Int), 1), [])
  | n + 1 => if hasE ((st.drop a).take (n + 1)) d then (((a : Int), ((n + 1 : Nat) : Int)), textAt ((st.drop a).take (n + 1)) d) else matchN d st a n
def matchA (d : Dic) (st : List Int) (a : Nat) : Pc := matchN d st a (min 6 (st.length - a))
def segs (d : Dic) (st : List Int) : Nat → Nat → List Pc
  | 0, _ => []
  | f + 1, a => if a < st.length then matchA d st a :: segs d st f (a + (matchA d st a).1.2.toNat) else []
def segA (d : Dic) (st : List Int) : List Pc := segs d st st.length 0
theorem matchN_cnt (d : Dic) (st : List Int) (a : Nat) : ∀ n : Nat, ∃ k : Nat, (matchN d st a n).1 = ((a : Int), (k : Int)) ∧ 1 ≤ k ∧ k ≤ max n 1
  | 0 => ⟨1, rfl, by omega, by omega⟩
  | n + 1 => by
    unfold matchN
    split
    · exact ⟨n + 1, rfl, by omega, by omega⟩
    · obtain ⟨k, h1, h2, h3⟩ := matchN_cnt d st a n
      exact ⟨k, h1, h2, by omega⟩
theorem matchA_cnt {d : Dic} {st : List Int} {a : Nat} (h : a < st.length) : ∃ k : Nat, (matchA d st a).1 = ((a : Int), (k : Int)) ∧ 1 ≤ k ∧ a + k ≤ st.length := by
  obtain ⟨k, h1, h2, h3⟩ := matchN_cnt d st a (min 6 (st.length - a))
  exact ⟨k, h1, h2, by omega⟩
theorem segs_end {d : Dic} {st : List Int} {f a : Nat} (h : st.length ≤ a) : segs d st f a = [] := by
  cases f with
  | zero => rfl
  | succ f => unfold segs; rw [if_neg (by omega)]
theorem segs_step {d : Dic} {st : List Int} {f a : Nat} (h : a < st.length) (hf : st.length - a ≤ f) {k : Nat} (hk : (matchA d st a).1 = ((a : Int), (k : Int))) (h1 : 1 ≤ k) :
    ∃ f' : Nat, st.length - (a + k) ≤ f' ∧ segs d st f a = matchA d st a :: segs d st f' (a + k) := by
  obtain ⟨f', rfl⟩ : ∃ f', f = f' + 1 := ⟨f - 1, by omega⟩
  refine ⟨f', by omega, ?_⟩
  conv => lhs; unfold segs
  rw [if_pos h, hk]
  rfl
theorem matchN_eq {d d' : Dic} {st : List Int} {a : Nat} : ∀ {n : Nat}, (∀ m, m < n → hasE ((st.drop a).take (m + 1)) d = hasE ((st.drop a).take (m + 1)) d' ∧ textAt ((st.drop a).take (m + 1)) d = textAt ((st.drop a).take (m + 1)) d') → matchN d st a n = matchN d' st a n
  | 0, _ => rfl
  | n + 1, h => by
    unfold matchN
    rw [(h n (by omega)).1, (h n (by omega)).2, matchN_eq fun m hm => h m (by omega)]
theorem segs_eq {d d' : Dic} {st : List Int} (h : ∀ a, matchA d st a = matchA d' st a) : ∀ f a, segs d st f a = segs d' st f a
  | 0, _ => rfl
  | f + 1, a => by
    unfold segs
    rw [h a, segs_eq h f]
theorem hasE_put {e : Ent} {l : Dic} {o : List Int} (h : o ≠ e.1) : hasE o (putF e false l) = hasE o l := by
  rw [Bool.eq_iff_iff, hasE_iff, hasE_iff]
  constructor
  · rintro ⟨x, hx, rfl⟩
    rcases (putF_mem e l x).1 hx with rfl | hx
    · exact absurd rfl h
    · exact ⟨x, (del_mem.1 hx).1, rfl⟩
  · rintro ⟨x, hx, rfl⟩
    exact ⟨x, (putF_mem e l x).2 (.inr (del_mem.2 ⟨hx, h⟩)), rfl⟩
theorem textAt_put {e : Ent} {l : Dic} {o : List Int} (hl : l.Pairwise lt) (h : o ≠ e.1) : textAt o (putF e false l) = textAt o l := by
  cases hh : hasE o l with
  | false => rw [textAt_not hh, textAt_not (by rw [hasE_put h]; exact hh)]
  | true =>
    have hm := mem_textAt hh
    exact textAt_mem (putF_rising e l hl) ((putF_mem e l (o, textAt o l)).2 (.inr (del_mem.2 ⟨hm, h⟩)))
/-- an outline occurs nowhere in a list of strokes -/
def nowhere (o st : List Int) : Prop := ∀ i, i + o.length ≤ st.length → (st.drop i).take o.length ≠ o
theorem seg_put {e : Ent} {l : Dic} {st : List Int} (hl : l.Pairwise lt) (h : nowhere e.1 st) : segA (putF e false l) st = segA l st := by
  refine segs_eq (fun a => ?_) _ _
  unfold matchA
  refine matchN_eq fun m hm => ?_
  have hne : (st.drop a).take (m + 1) ≠ e.1 := by
    intro he
    have hlen : e.1.length = m + 1 := by rw [← he, List.length_take, List.length_drop]; omega
    exact h a (by omega) (by rw [hlen]; exact he)
  exact ⟨hasE_put hne, textAt_put hl hne⟩
end Go.Proofs.YtngbkdlicknmhaaGreatDoor.P

namespace Go.Proofs.YtngbkdlicknmhaaGreatDoor
namespace P
/-- a node: strokes, children, whether it has a text, the text -/
abbrev Nd := List Int × List Int × Bool × Bs
abbrev Tri := List Nd
def strokeAt (d : Nat) (e : Ent) : Int := e.1.getD d 0
/-- the entries in parts that share a stroke -/
def groups (d : Nat) : Nat → Dic → List Dic
  | 0, _ => []
  | _ + 1, [] => []
  | n + 1, e :: l => (e :: l.takeWhile fun x => strokeAt d x == strokeAt d e) :: groups d n (l.dropWhile fun x => strokeAt d x == strokeAt d e)
def headStroke (d : Nat) : Dic → Int
  | [] => 0
  | e :: _ => strokeAt d e
/-- the subtrees of parts, from an index on: strokes, children, nodes -/
def kids (B : Nat → Dic → Tri) (d : Nat) : Nat → List Dic → List Int × List Int × Tri
  | _, [] => ([], [], [])
  | next, g :: gs => (headStroke d g :: (kids B d (next + (B next g).length) gs).1, (next : Int) :: (kids B d (next + (B next g).length) gs).2.1, B next g ++ (kids B d (next + (B next g).length) gs).2.2)
/-- what stands behind the entry of a node itself -/
def rest (d : Nat) : Dic → Dic
  | [] => []
  | e :: l => if e.1.length = d then l else e :: l
def ownText (d : Nat) : Dic → Bool × Bs
  | [] => (false, [])
  | e :: _ => if e.1.length = d then (true, e.2) else (false, [])
/-- the subtree of entries that share their first d strokes -/
def build : Nat → Nat → Nat → Dic → Tri
  | 0, _, _, _ => []
  | f + 1, d, base, es =>
    ((kids (fun b g => build f (d + 1) b g) d (base + 1) (groups d es.length (rest d es))).1, (kids (fun b g => build f (d + 1) b g) d (base + 1) (groups d es.length (rest d es))).2.1, ownText d es) ::
      (kids (fun b g => build f (d + 1) b g) d (base + 1) (groups d es.length (rest d es))).2.2
/-- the trie of a dictionary -/
def trie (l : Dic) : Tri := build 7 0 0 l
/-- no node -/
def nd0 : Nd := ([], [], false, [])
/-- the program's reading of a trie -/
def readK (R : Int → List Int → Nat → Option (Nat × Dic)) (o : List Int) : List (Int × Int) → Nat → Option (Nat × Dic)
  | [], nx => some (nx, [])
  | (s, c) :: l, nx => match R c (o ++ [s]) nx with
    | none => none
    | some (n1, e1) => match readK R o l n1 with
      | none => none
      | some (n2, e2) => some (n2, e1 ++ e2)
def own (o : List Int) (n : Nd) : Dic := if n.2.2.1 then [(o, n.2.2.2)] else []
def read (t : Tri) : Nat → Int → List Int → Nat → Option (Nat × Dic)
  | 0, _, _, _ => none
  | f + 1, k, o, nx =>
    if k = (nx : Int) ∧ nx < t.length then
      if (t.getD nx nd0).1.length = (t.getD nx nd0).2.1.length then
        (readK (read t f) o ((t.getD nx nd0).1.zip (t.getD nx nd0).2.1) (nx + 1)).map fun r => (r.1, own o (t.getD nx nd0) ++ r.2)
      else none
    else none
end P
end Go.Proofs.YtngbkdlicknmhaaGreatDoor

namespace Go.Proofs.YtngbkdlicknmhaaGreatDoor
namespace P
/-- a list of strokes -/
def slist (o : List Int) : Bool := decide (o.length ≤ 60) && o.all stroke
end P
end Go.Proofs.YtngbkdlicknmhaaGreatDoor

namespace Go.Proofs.YtngbkdlicknmhaaGreatDoor
section
section
open Go Go.RowKit
set_option maxHeartbeats 1000000
set_option maxRecDepth 100000
variable {α : Type} {E : ElT α} {wd : Nat}
variable {e : TypeId} {B : Nat} {v v' : World} {u : Value} {G : Nat → Blk} {C : Nat → List Value} {l : List α}
end
end
section
section
open Go Go.RowKit
set_option maxHeartbeats 1000000
set_option maxRecDepth 100000
variable {w : World} {R N : Nat} {u : Value} {G : Nat → Blk} {l0 : P.Tri} {t : Bool} {x : Str} {v v' : World} {ur : Value} {Gr : Nat → Blk} {Cr : Nat → List Value} {lr : P.Tri} {su cu : Value} {s c : List Int}
end
end
section
section
open Go Go.RowKit
set_option maxHeartbeats 1000000
set_option maxRecDepth 100000
theorem addr_add (g o k : Nat) : (⟨g, o, none⟩ : Addr).add k = ⟨g, o + k, none⟩ := by unfold Addr.add; split <;> simp_all
end
section
namespace P
def behind (d : Nat) : Dic → Dic
  | [] => []
  | e :: l => l.dropWhile fun x => strokeAt d x == strokeAt d e
end P
end
end
end Go.Proofs.YtngbkdlicknmhaaGreatDoor

namespace Go.Proofs.YtngbkdlicknmhaaGreatDoor
section
section
open Go Go.RowKit
set_option maxHeartbeats 1000000
set_option maxRecDepth 100000
theorem IntR.chg {v v' : World} {u : Value} {l : List Int} {X : Blk} (h : IntR v u l) (hc : Chg X v v') (hX : ∀ b, u.ownBlock = some b → ¬ X b) : IntR v' u l := by
  obtain ⟨ad, cap, h1, h2, hn, h3⟩ := h
  refine ⟨ad, cap, h1, h2, hn, h3.imp id ?_⟩
  rintro ⟨g, o, h4, h5, h6⟩
  exact ⟨g, o, h4, Nat.lt_of_lt_of_le h5 hc.size, fun j hj => (hc.cell (p := ⟨g, _, none⟩) h5 (hX g (by rw [h1, h4]; rfl))).trans (h6 j hj)⟩
variable {w : World} {R N : Nat} {tv u x y : Value} {tt : Bool} {ss : Str} {n1 : Nat} {u1 : Value} {es1 : P.Dic} {xs1 : List Value} {v v' : World}
end
section
namespace P
end P
end
end
section
open Go Go.RowKit
set_option maxHeartbeats 8000000
set_option maxRecDepth 100000
end
end Go.Proofs.YtngbkdlicknmhaaGreatDoor

namespace Go.Proofs.YtngbkdlicknmhaaGreatDoor
section
open Go Go.RowKit
set_option maxHeartbeats 8000000
set_option maxRecDepth 100000
end
section
open Go Go.RowKit
set_option maxHeartbeats 8000000
set_option maxRecDepth 100000
/-- the entries from an index to another -/
def P.seg (D : P.Dic) (lo hi : Nat) : P.Dic := (D.drop lo).take (hi - lo)
end
section
open Go Go.RowKit
set_option maxHeartbeats 2000000
set_option maxRecDepth 100000
end
end Go.Proofs.YtngbkdlicknmhaaGreatDoor

namespace Go.Proofs.YtngbkdlicknmhaaGreatDoor
section
namespace P
end P
end
open Go Go.RowKit
set_option maxHeartbeats 4000000
set_option maxRecDepth 100000
/-- whether a list is one of strokes, program and reference -/
theorem isStrokeList (u : Value) (l : List Int) (w : World) (hu : IntR w u l) :
    Calls Tryz.prog 183 #[u] w fun e w' => e = .returned (.bool (P.slist l)) ∧ Below w.heap.size w w' := by
  have HU := Lib.hid hu
  obtain ⟨ad, cap, rfl, hl, _⟩ := hu
  by_cases h : l.length ≤ 60
  · have HF := Lib.hid (show P.slist l = l.all P.stroke by unfold P.slist; rw [decide_eq_true h]; rfl)
    have i1 : (l.length : Int) ≤ 60 := by omega
    clear h
    go_enter Tryz.func183, Tryz.ntmps183
    go_wp2_with fail
    refine (allStrokes _ l _ HU.out).mono ?_
    rintro e w1 ⟨rfl, hb⟩
    have HB := Lib.hid hb; clear hb
    generalize l.all P.stroke = q at *
    go_wp2
    go_ret
    exact ⟨ret_bool HF.out.symm, HB.out⟩
  · have HF := Lib.hid (show P.slist l = false by unfold P.slist; rw [decide_eq_false h]; rfl)
    have i1 : ¬ (l.length : Int) ≤ 60 := by omega
    clear h
    go_enter Tryz.func183, Tryz.ntmps183
    go_wp2
    go_ret
    exact ⟨ret_bool HF.out.symm, Below.refl _ _⟩
end Go.Proofs.YtngbkdlicknmhaaGreatDoor
