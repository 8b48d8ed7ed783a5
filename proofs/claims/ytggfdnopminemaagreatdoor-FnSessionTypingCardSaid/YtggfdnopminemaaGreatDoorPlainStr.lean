/- Plain: strings of the log and of the checks, as functions of byte lists; no program. -/
import Derived.Lib.ItoaLen
import Derived.Lib.IndexAny
import Derived.Lib.IndexMore
set_option linter.all false
namespace Go.Proofs.YtggfdnopminemaaGreatDoor
namespace P
def num (n:Nat):List UInt8:=Go.Lib.decDigits n
theorem a5v (n:Nat) (h:n<4611686018427387904):(num n).length≤20:=by
 unfold num;rw [Go.Lib.decDigits_length];exact Go.Lib.nDigits_le20 n (by omega)
def a2b (l:List UInt8):Bool:=l.all fun b=>decide (32≤(b.toNat:Int))&&decide ((b.toNat:Int)≤126)
def a5b (b:UInt8):Bool:=(decide (32≤(b.toNat:Int))&&decide ((b.toNat:Int)≤126))&&!(b==35)
def plain (l:List UInt8) (m:Int):Bool:=l.all a5b&&decide ((l.length:Int)≤m)
def has (l:List UInt8) (c:UInt8):Bool:=l.any fun b=>b==c
def sum (l:List UInt8):Nat:=l.foldl (fun h b=>(41*h+b.toNat+1) % 999979) 7
def a7a (l:List UInt8):List UInt8:=l++35::num (sum l)
def good (c r:List UInt8):Bool:=!c.isEmpty&&(plain c 90&&(!has c 62&&plain r 200))
def vrec (c r:List UInt8):Bool:=
 (decide (1≤(c.length:Int)∧(c.length:Int)≤90)&&(a2b c&&!Go.Lib.containsAny c [35,62]))&&(decide ((r.length:Int)≤200)&&(a2b r&&!Go.Lib.contains r [35]))
def a4p (l:List UInt8):Bool:=decide ((l.length:Int)≤4000)&&(!Go.Lib.contains l [35]&&decide (((a7a l).length:Int)≤4000))
def a0f (l:List UInt8):List UInt8×Bool:=if a4p l then (a7a l,true) else ([],false)
def line (k:Nat) (c r:List UInt8):List UInt8:=a7a (num k++32::(c++62::r))++[10]
def encode (k:Int) (c r:List UInt8):List UInt8×Bool:=if decide (0≤k∧k≤59)&&vrec c r then ((a0f (num k.toNat++32::(c++62::r))).1++[10],true) else ([],false)
def split (c:UInt8):List UInt8→List (List UInt8)
 |[]=>[[]]
 |b::l=>if b==c then []::split c l else match split c l with
  |[]=>[[b]]
  |x::r=>(b::x)::r
end P
end Go.Proofs.YtggfdnopminemaaGreatDoor
