/- Rows of folds in the laws: as they come in, copied, held equal, marked. -/
import Derived.Deep.DeepCutAuto
import Derived.Deep.RegionHeld
import Derived.Test.YtmlklnimoknojaaGreatDoorLawD
import Derived.Test.YtmlklnimoknojaaGreatDoorFold3
import Derived.Test.YtmlklnimoknojaaGreatDoorPlainLook
import Derived.Test.YtmlklnimoknojaaGreatDoorPlainFold
import Derived.Test.YtmlklnimoknojaaGreatDoorReadA
import Derived.Test.YtmlklnimoknojaaGreatDoorOutD
import Derived.RegionTactic
import Derived.BigRegion
import Derived.BigQuiet
import Derived.Test.YtmlklnimoknojaaGreatDoorMemE
namespace Go.Proofs.YtmlklnimoknojaaGreatDoor
namespace P
end P
open Go Go.RowKit
set_option maxHeartbeats 2000000
set_option maxRecDepth 100000
theorem info_fold : (Tryz.prog.info? 115).map (fun i => (i.zero, i.size, i.bytes)) = some (some (.agg #[.int .i64 0, .string ⟨#[]⟩]), 2, 24) := by kernel_rfl
end Go.Proofs.YtmlklnimoknojaaGreatDoor

namespace Go.Proofs.YtmlklnimoknojaaGreatDoor
open Go Go.RowKit
set_option maxHeartbeats 1000000
set_option maxRecDepth 100000
def P.dflt : P.Folds := [(18, [105, 110, 103]), (21, [101, 100]), (20, [115]), (22, [115])]
theorem defaultFolds (w : World) : Calls Tryz.prog 184 #[] w fun e w' => e = .returned (.slice (some ⟨w.heap.size, 0, none⟩) 4 4) ∧ w' = w.alloc (.cells #[.int .i64 18, .string (S [105, 110, 103]), .int .i64 21, .string (S [101, 100]), .int .i64 20, .string (S [115]), .int .i64 22, .string (S [115])] 115) := by
  go_enter Tryz.func184, Tryz.ntmps184
  go_wp2
  go_ret
  exact ⟨rfl, rfl⟩
end Go.Proofs.YtmlklnimoknojaaGreatDoor

namespace Go.Proofs.YtmlklnimoknojaaGreatDoor.P
abbrev Pc := (Int × Int) × Bs
/-- the longest piece of at most n strokes -/
def matchN (d : Dic) (st : List Int) (a : Nat) : Nat → Pc
  | 0 => (((a : Int), 1), [])
  | n + 1 => if hasE ((st.drop a).take (n + 1)) d then (((a : Int), ((n + 1 : Nat) : Int)), textAt ((st.drop a).take (n + 1)) d) else matchN d st a n
def matchA (d : Dic) (st : List Int) (a : Nat) : Pc := matchN d st a (min 6 (st.length - a))
def segs (d : Dic) (st : List Int) : Nat → Nat → List Pc
  | 0, _ => []
  | f + 1, a => if a < st.length then matchA d st a :: segs d st f (a + (matchA d st a).1.2.toNat) else []
def segA (d : Dic) (st : List Int) : List Pc := segs d st st.length 0
end Go.Proofs.YtmlklnimoknojaaGreatDoor.P

namespace Go.Proofs.YtmlklnimoknojaaGreatDoor.P
def vow (b : UInt8) : Bool := b == 97 || (b == 101 || (b == 105 || (b == 111 || b == 117)))
def isWord (s : Bs) : Bool := s.all lower && decide (1 ≤ (s.length : Int) ∧ (s.length : Int) ≤ 24)
/-- a run of vowels vbegins here -/
def vbegins (s : Bs) (k : Nat) : Bool := vow (s.getD k 0) && (decide (k = 0) || !vow (s.getD (k - 1) 0))
def vgroupsN (s : Bs) : Nat → Nat
  | 0 => 0
  | k + 1 => vgroupsN s k + (if vbegins s k then 1 else 0)
def vgroups (s : Bs) : Nat := vgroupsN s s.length
def ends (s e : Bs) : Bool := Go.Lib.hasSuffix s e
/-- the byte so many places before the end -/
def back (s : Bs) (k : Nat) : UInt8 := s.getD (s.length - k) 0
def consY (s : Bs) : Bool := decide (2 ≤ s.length) && (back s 1 == 121 && !vow (back s 2))
def wxy (b : UInt8) : Bool := b == 119 || (b == 120 || b == 121)
def closed (s : Bs) : Bool := decide (3 ≤ s.length) && (!vow (back s 3) && (vow (back s 2) && (!vow (back s 1) && !wxy (back s 1))))
def sib (s : Bs) : Bool := ends s [115] || (ends s [120] || (ends s [122] || (ends s [99, 104] || ends s [115, 104])))
def eoy (s : Bs) : Bool := ends s [101, 101] || (ends s [111, 101] || ends s [121, 101])
def dropE (s : Bs) : Bool := decide (2 ≤ s.length) && (ends s [101] && !eoy s)
def rule (w x : Bs) : Nat :=
  if (x == [115]) && consY w then 1
  else if (x == [115]) && sib w then 2
  else if (x == [105, 110, 103]) && ends w [105, 101] then 3
  else if consY w && !(x.getD 0 0 == 105) then 4
  else if dropE w && vow (x.getD 0 0) then 5
  else if decide (vgroups w = 1) && (closed w && vow (x.getD 0 0)) then 6 else 0
def joinW (w x : Bs) : Bs :=
  match rule w x with
  | 1 => w.take (w.length - 1) ++ [105, 101, 115]
  | 2 => w ++ [101, 115]
  | 3 => w.take (w.length - 2) ++ [121, 105, 110, 103]
  | 4 => (w.take (w.length - 1) ++ [105]) ++ x
  | 5 => w.take (w.length - 1) ++ x
  | 6 => (w ++ w.drop (w.length - 1)) ++ x
  | _ => w ++ x
def joinS (w x : Bs) : Bs × Bool := if isWord w && isWord x then (if 24 < (joinW w x).length then ([], false) else (joinW w x, true)) else ([], false)
end Go.Proofs.YtmlklnimoknojaaGreatDoor.P

namespace Go.Proofs.YtmlklnimoknojaaGreatDoor.P
structure St where
  text : Bs
  joined : Bool
  glued : Bool
  cap : Int
  word : Nat
def prn (b : UInt8) : Bool := decide (32 ≤ (b.toNat : Int)) && decide ((b.toNat : Int) ≤ 126)
def stOk (s : St) : Bool := decide ((s.text.length : Int) ≤ 2000) && (s.text.all prn && (decide (0 ≤ s.cap ∧ s.cap ≤ 2) && decide (0 ≤ (s.word : Int) ∧ (s.word : Int) ≤ (s.text.length : Int))))
def upB (b : UInt8) : Bool := decide (65 ≤ (b.toNat : Int)) && decide ((b.toNat : Int) ≤ 90)
def upper : Bs → Bs
  | [] => []
  | b :: t => (if lower b then b - 32 else b) :: t
def lowered : Bs → Bs
  | [] => []
  | b :: t => (if upB b then b + 32 else b) :: t
def caseW (s : Bs) (how : Int) : Bs := if how = 1 then upper s else if how = 2 then lowered s else s
def base (s : St) : Bs := if s.joined then s.text else s.text ++ [32]
def put (s : St) (t : Bs) : St := { s with text := base s ++ caseW t s.cap, cap := 0, word := (base s).length }
def gluedPut (s : St) (t : Bs) : St := if s.glued then { put { s with joined := true } t with word := s.word } else put s t
def endS (s : St) (x : Bs) : Bs := if (joinS (s.text.drop s.word) x).2 then s.text.take s.word ++ (joinS (s.text.drop s.word) x).1 else s.text ++ x
def apply (s : St) (k : Int) (t : Bs) : St :=
  if k = 1 then { put s t with joined := false, glued := false }
  else if k = 2 then { s with text := endS s t, joined := false, glued := false }
  else if k = 3 then { put s t with joined := true, glued := false }
  else if k = 4 then { s with text := s.text ++ t, joined := true, glued := false }
  else if k = 5 then { gluedPut s t with joined := false, glued := true }
  else if k = 6 then { s with text := s.text ++ t, joined := false, glued := false, cap := 1 }
  else if k = 7 then { s with text := s.text ++ t, joined := false, glued := false }
  else if k = 8 then { s with cap := 1 }
  else if k = 9 then { s with cap := 2 }
  else if k = 10 then { s with text := s.text.take s.word ++ upper (s.text.drop s.word) }
  else s
def init : St := ⟨[], true, false, 0, 0⟩
/-- the program's run over atoms -/
def runA : St → List (Int × Bs) → Option St
  | s, [] => some s
  | s, a :: l => if stOk s && atom a.1 a.2 then (if 2000 < (apply s a.1 a.2).text.length then none else runA (apply s a.1 a.2) l) else none
def short (o : Option St) : Option St := match o with
  | none => none
  | some s => if s.text.length ≤ 2000 then some s else none
def outText : Option St → Bs
  | none => []
  | some s => s.text
/-- the text of a list of atoms: the program's, the reference's -/
def render (l : List (Int × Bs)) : Bs × Bool := if 600 < l.length then ([], false) else (outText (runA init l), (runA init l).isSome)
end Go.Proofs.YtmlklnimoknojaaGreatDoor.P

namespace Go.Proofs.YtmlklnimoknojaaGreatDoor.P
def labels : Bs := [35, 83, 84, 75, 80, 87, 72, 82, 65, 79, 42, 69, 85, 70, 82, 80, 66, 76, 71, 84, 83, 68, 90]
def lab (k : Nat) : UInt8 := labels.getD k 0
def keysN (s : Int) (n : Nat) : List Nat := (List.range n).filter (fun k => hasK s (k : Int))
def keys (s : Int) : List Nat := keysN s 23
def isMid (k : Nat) : Bool := decide (8 ≤ k ∧ k ≤ 12)
def midK (s : Int) : Bool := (keys s).any isMid
/-- the program's: the hyphen stands ahead of the first right key if there is no middle key -/
def fmtL : Bool → List Nat → Bs
  | _, [] => []
  | m, k :: l => if decide (13 ≤ k) && !m then 45 :: lab k :: fmtL true l else lab k :: fmtL m l
def fmt (s : Int) : Bs := fmtL (midK s) (keys s)
def hash (b : UInt8) : UInt8 := if b = 35 then 61 else b
/-- the word that stands for a stroke without a translation -/
def raw (s : Int) : Bs := (fmt s).map hash
end Go.Proofs.YtmlklnimoknojaaGreatDoor.P

namespace Go.Proofs.YtmlklnimoknojaaGreatDoor
namespace P
/-- a list of strokes -/
def slist (o : List Int) : Bool := decide (o.length ≤ 60) && o.all stroke
end P
end Go.Proofs.YtmlklnimoknojaaGreatDoor

namespace Go.Proofs.YtmlklnimoknojaaGreatDoor.P
abbrev Tr := List Int × Bs
/-- the atoms of a piece -/
def pcAtoms (st : List Int) (p : Pc) : List (Int × Bs) := if p.2 = [] then [(1, raw (st.getD p.1.1.toNat 0))] else (transS p.2).1
def atomsOf (st : List Int) (l : List Pc) : List (Int × Bs) := l.flatMap (pcAtoms st)
/-- the screen of strokes, whether there is one -/
def scrA (d : Dic) (st : List Int) : Bs × Bool := render (atomsOf st (segA d st))
def scr (d : Dic) (st : List Int) : Bs × Bool := if dic d && slist st then scrA d st else ([], false)
def screen (s : Bs) : Bool := decide ((s.length : Int) ≤ 2000) && s.all prn
/-- a valid translator -/
def trans (d : Dic) (t : Tr) : Bool := (scr d t.1).2 && ((scr d t.1).1 == t.2 && !t.1.contains 1024)
def next (l : List Int) (k : Int) : List Int := if k = 1024 then l.take (l.length - 1) else l ++ [k]
end Go.Proofs.YtmlklnimoknojaaGreatDoor.P

namespace Go.Proofs.YtmlklnimoknojaaGreatDoor
namespace P
end P
open Go Go.RowKit
set_option maxHeartbeats 2000000
set_option maxRecDepth 100000
theorem far {b i j : Nat} (h : i ≠ j) : (⟨b, i, none⟩ : Addr) ≠ ⟨b, j, none⟩ := by intro e; injection e with _ e; exact h e
end Go.Proofs.YtmlklnimoknojaaGreatDoor

namespace Go.Proofs.YtmlklnimoknojaaGreatDoor
open Go Go.RowKit
set_option maxHeartbeats 4000000
set_option maxRecDepth 100000
theorem Chg.put {b i : Nat} {w v : World} (h : Chg (fun x => x = b) w v) (x : Value) : Chg (fun x => x = b) w (v.setCell ⟨b, i, none⟩ x) := h.setCell (p := ⟨b, i, none⟩) rfl x
end Go.Proofs.YtmlklnimoknojaaGreatDoor
