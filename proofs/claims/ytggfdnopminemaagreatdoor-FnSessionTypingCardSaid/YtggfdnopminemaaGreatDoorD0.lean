/- Base of the dictionary seats: byte lists as strings, small helpers for the walks. -/
import Derived.Test.YtggfdnopminemaaGreatDoorZt
import Derived.Test.YtggfdnopminemaaGreatDoorPlainStr
import Derived.Test.YtggfdnopminemaaGreatDoorShelf
set_option linter.all false
namespace Go.Proofs.YtggfdnopminemaaGreatDoor
open Go Go.RowKit
abbrev Str:=List UInt8
def S (l:Str):ByteArray:=⟨l.toArray⟩
@[go_sem] theorem S_size (l : Str) : (S l).size = l.length := by simp [S, ByteArray.size]
@[go_sem] theorem S_toList (l : Str) : (S l).toList = l := by simp [S]
@[go_sem] theorem S_dataList (l : Str) : (S l).data.toList = l := by simp [S]
@[go_sem] theorem S_append (a b : Str) : S a ++ S b = S (a ++ b) := by simp [S, ByteArray.mk_append_mk]
@[go_sem] theorem S_extract (l : Str) (a b : Nat) : (S l).extract a b = S ((l.drop a).take (b - a)) := by simp [S, ByteArray.extract_mk]
@[go_sem high] theorem S_extract_end (l : Str) (a : Nat) : (S l).extract a l.length = S (l.drop a) := by
 rw [S_extract,List.take_of_length_le sZ]
@[go_sem] theorem S_mk (l : List UInt8) : ByteArray.mk l.toArray = S l := rfl
@[go_sem] theorem S_get (l : Str) (k : Nat) (h : k < (S l).size) : (S l)[k] = l[k]'(by simpa [S_size] using h) := by
 simp [S];rfl
theorem S_inj {a b:Str} (h:S a=S b):a=b:=by
 have:=congrArg (fun x:ByteArray=>x.data.toList) h;simpa [S] using this
@[go_sem] theorem wrap64_u8 (b : UInt8) : wrap64 (b.toNat : Int) = b.toNat := by
 have:=b.toNat_lt;simp only [wrap64];omega
theorem a0b {a b:Bool} (h:a=b):Ending.returned (.bool a)=.returned (.bool b):=by rw [h]
theorem a4c {k:IntKind} {a b:Int} (h:a=b):Ending.returned (.int k a)=.returned (.int k b):=by rw [h]
theorem a4d {a b:Str} (h:a=b):Ending.returned (.string (S a))=.returned (.string (S b)):=by rw [h]
theorem a0h {α:Type} (l:List α) (k:Nat) (h:k<l.length):l.take (k+1)=l.take k++[l[k]]:=by
 rw [List.take_succ_eq_append_getElem h]
theorem c0p {W w1:World} (hb:Below W.heap.size W w1):(∀b o,b<W.heap.size→w1.cell? ⟨b,o,none⟩=W.cell? ⟨b,o,none⟩)∧(∀b o,b<W.heap.size→w1.frozen? ⟨b,o,none⟩=W.frozen? ⟨b,o,none⟩):=
 ⟨fun b o h=>hb.cell (p:=⟨b,o,none⟩) h,fun b o h=>hb.frozen (p:=⟨b,o,none⟩) h⟩
theorem index_one (s:List UInt8) (c:UInt8):Lib.index s [c]=Lib.indexByte s c:=by
 induction s with
 |nil=>rfl
 |cons b l ih=>
  rw [Lib.index,Lib.indexByte,ih]
  by_cases h:b=c
  ·subst h;simp
  ·have h':¬c=b:=fun e=>h e.symm;simp [h,h']
def EB:Nat:=0+1
def Env (w:World):Prop:=EB≤w.heap.size∧(∃m,w.cell? ⟨0,0,none⟩=some (.int .i64 m))
theorem Env.size {w:World} (h:Env w):EB≤w.heap.size:=h.1
theorem Env.below {B:Nat} {w w':World} (h:Env w) (hb:Below B w w') (hB:EB≤B):Env w':=by
 obtain⟨h1,m,h2⟩:=h;exact⟨Nat.le_trans h1 hb.size,m,(hb.cell (p:=⟨0,0,none⟩) (by show 0<B;unfold EB at hB;omega)).trans h2⟩
theorem Env.alloc {w:World} (h:Env w) (o:Obj):Env (w.alloc o):=
 h.below ((Below.refl w.heap.size _).alloc lZ o) h.1
theorem Env.drewN {w:World} (h:Env w) (k:Nat):Env (w.drewN k):=
 h.below (below_drewN (Below.refl w.heap.size _) k) h.1
theorem contains_one (s:Str) (c:UInt8) (w:World) :
 Calls Tryz.prog 136 #[.string (S s),.string ⟨#[c]⟩] w fun e w'=>e=.returned (.bool (Lib.contains s [c]))∧w=w':=by
 have h:=Tryz.strings_Contains_one (S s) c w
 rw [S_dataList]at h
 refine h.mono ?_
 rintro e w' ⟨rfl,rfl⟩
 exact⟨a0b (by rw [Lib.contains,index_one]),rfl⟩
theorem b4c {B:Nat} {w v:World} {x y:Option Value} (h:v.cell? ⟨B,0,none⟩=x∧v.cell? ⟨B,1,none⟩=y∧B<v.heap.size∧Env v∧Below B w v):Below B w v:=h.2.2.2.2
theorem held2 {B:Nat} {w v v':World} {x y:Option Value} (h:v.cell? ⟨B,0,none⟩=x∧v.cell? ⟨B,1,none⟩=y∧B<v.heap.size∧Env v∧Below B w v) (hb:Below v.heap.size v v') :
 v'.cell? ⟨B,0,none⟩=x∧v'.cell? ⟨B,1,none⟩=y∧B<v'.heap.size∧Env v'∧Below B w v':=
 ⟨(hb.cell (p:=⟨B,0,none⟩) h.2.2.1).trans h.1,(hb.cell (p:=⟨B,1,none⟩) h.2.2.1).trans h.2.1,Nat.lt_of_lt_of_le h.2.2.1 hb.size,h.2.2.2.1.below hb h.2.2.2.1.size,h.2.2.2.2.trans (hb.mono (Nat.le_of_lt h.2.2.1))⟩
theorem grew {w w1:World} {o:Obj} {n B:Nat} (hb:Below B ((w.alloc o).drewN n) w1):w.heap.size<w1.heap.size:=by
 have h:=hb.size;have e:((w.alloc o).drewN n).heap.size=w.heap.size+1:=by show (w.heap.push o).size=_;simp
 omega
theorem d1k {w w1:World} {o:Obj} {B:Nat} (hb:Below B (w.alloc o) w1):w.heap.size<w1.heap.size:=grew (n:=0) hb
theorem b4o {w:World} {a:Addr} {x:Value} (h:w.cell? a=some x) (o:Obj):(w.alloc o).cell? a=some x:=
 (World.cell?_alloc_lt _ _ _ (World.block_lt_of_cell? w a h)).trans h
theorem add0 (b j:Nat):(⟨b,0,none⟩:Addr).add j=⟨b,j,none⟩:=by unfold Addr.add;split<;>simp_all
def a3g (l:List Str):List Value:=l.map fun x=>.string (S x)
def a0q (B:Nat) (w:World) (v:Value) (l:List Str):Prop:=w.ownsRow B 9 1 v l.length (a3g l)
def b2b (c:UInt8) (s:Str) (w:World) (e:Ending) (w':World):Prop:=∃v,e=.returned v∧a0q w.heap.size w' v (P.split c s)∧Below w.heap.size w w'
end Go.Proofs.YtggfdnopminemaaGreatDoor
