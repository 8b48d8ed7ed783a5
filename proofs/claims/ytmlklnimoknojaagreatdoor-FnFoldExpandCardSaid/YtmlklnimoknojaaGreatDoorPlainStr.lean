/- Plain: strings of the log and of the checks, as functions of byte lists; no program. -/
import Derived.Lib.ItoaLen
import Derived.Lib.IndexAny
import Derived.Lib.IndexMore
namespace Go.Proofs.YtmlklnimoknojaaGreatDoor
namespace P
/-- the decimal digits of a number -/
def num (n : Nat) : List UInt8 := Go.Lib.decDigits n
def plainByte (b : UInt8) : Bool := (decide (32 ≤ (b.toNat : Int)) && decide ((b.toNat : Int) ≤ 126)) && !(b == 35)
/-- only such bytes, and not more than m -/
def plain (l : List UInt8) (m : Int) : Bool := l.all plainByte && decide ((l.length : Int) ≤ m)
def has (l : List UInt8) (c : UInt8) : Bool := l.any fun b => b == c
def sum (l : List UInt8) : Nat := l.foldl (fun h b => (41 * h + b.toNat + 1) % 999979) 7
/-- a text with its checksum -/
def sealed (l : List UInt8) : List UInt8 := l ++ 35 :: num (sum l)
/-- a valid record -/
def good (c r : List UInt8) : Bool := !c.isEmpty && (plain c 90 && (!has c 62 && plain r 200))
/-- the line of a record, with its end -/
def line (k : Nat) (c r : List UInt8) : List UInt8 := sealed (num k ++ 32 :: (c ++ 62 :: r)) ++ [10]
/-- the parts of a text between bytes -/
def split (c : UInt8) : List UInt8 → List (List UInt8)
  | [] => [[]]
  | b :: l => if b == c then [] :: split c l else match split c l with
    | [] => [[b]]
    | x :: r => (b :: x) :: r
end P
end Go.Proofs.YtmlklnimoknojaaGreatDoor
