/- Base of the dictionary. -/
import Derived.Test.YtggfdnopminemaaGreatDoorZt
import Derived.Test.YtggfdnopminemaaGreatDoorShelf
set_option linter.all false
namespace Go.Proofs.YtggfdnopminemaaGreatDoor
open Go Go.RowKit
variable {a:Go.Addr} {B C:Nat} {o:Go.Obj} {x y:Go.Value} {v v' w w1:Go.World}
abbrev Str:=List UInt8
def S (l:Str):ByteArray:=⟨l.toArray⟩
@[go_sem] theorem S_size (l : Str) : (S l).size = l.length := by simp [S, ByteArray.size]
@[go_sem] theorem S_toList (l : Str) : (S l).toList = l := by simp [S]
@[go_sem] theorem S_dataList (l : Str) : (S l).data.toList = l := by simp [S]
@[go_sem] theorem S_append (a b : Str) : S a ++ S b = S (a ++ b) := by simp [S, ByteArray.mk_append_mk]
@[go_sem] theorem S_extract (l : Str) (a b : Nat) : (S l).extract a b = S ((l.drop a).take (b - a)) := by simp [S, ByteArray.extract_mk]
@[go_sem high] theorem S_extract_end (l : Str) (a : Nat) : (S l).extract a l.length = S (l.drop a) := by
 rw [S_extract,List.take_of_length_le sZ]
@[go_sem] theorem S_mk (l : List UInt8) : ByteArray.mk l.toArray = S l := rfl
@[go_sem] theorem S_get (l : Str) (k : Nat) (h : k < (S l).size) : (S l)[k] = l[k]'(by simpa [S_size] using h) := by
 simp [S];rfl
theorem S_inj {a b:Str} (h:S a=S b):a=b:=by
 have:=congrArg (λx:ByteArray=>x.data.toList) h;simpa [S] using this
@[go_sem] theorem wrap64_u8 (b : UInt8) : wrap64 (b.toNat : Int) = b.toNat := by
 have:=b.toNat_lt;simp only [wrap64];omega
theorem a0a {a b:Bool} (h:a=b):Ending.returned (.bool a)=.returned (.bool b):=by rw [h]
theorem a2t {k:IntKind} {a b:Int} (h:a=b):Ending.returned (.int k a)=.returned (.int k b):=by rw [h]
theorem a1v {a b:Str} (h:a=b):Ending.returned (.string (S a))=.returned (.string (S b)):=by rw [h]
theorem a0g {α:Type} (l:List α) (k:Nat) (h:k<l.length):l.take (k+1)=l.take k++[l[k]]:=by
 rw [List.take_succ_eq_append_getElem h]
theorem a6a {W:World} (hb:Bl W w1):(∀b o,b<W.heap.size->w1.cell? ⟨b,o,none⟩=W.cell? ⟨b,o,none⟩)/\(∀b o,b<W.heap.size->w1.frozen? ⟨b,o,none⟩=W.frozen? ⟨b,o,none⟩):=
 ⟨λb o h=>hb.cell (p:=⟨b,o,none⟩) h,λb o h=>hb.frozen (p:=⟨b,o,none⟩) h⟩
theorem index_one (s:List UInt8) (c:UInt8):Lib.index s [c]=Lib.indexByte s c:=by
 induction s with
 |nil=>rfl
 |cons b l ih=>
  rw [Lib.index,Lib.indexByte,ih]
  by_cases h:b=c
  .subst h;simp
  .have h':¬c=b:=λe=>h e.symm;simp [h,h']
def EB:Nat:=0+1
def Env (w:World):Prop:=EB<=w.heap.size/\(∃m,w.cell? ⟨0,0,none⟩=some (.int .i64 m))
theorem Env.size (h:Env w):EB<=w.heap.size:=h.1
theorem Env.below {w':World} (h:Env w) (hb:Below B w w') (hB:EB<=B):Env w':=by
 obtain⟨h1,m,h2⟩:=h;exact⟨Nat.le_trans h1 hb.size,m,(hb.cell (p:=⟨0,0,none⟩) (by show 0<B;unfold EB at hB;omega)).trans h2⟩
theorem Env.alloc (h:Env w) (o:Obj):Env (w.alloc o):=
 h.below ((Below.refl w.heap.size _).alloc lZ o) h.1
theorem Env.drewN (h:Env w) (k:Nat):Env (w.drewN k):=
 h.below (below_drewN (Below.refl w.heap.size _) k) h.1
theorem contains_one (s:Str) (c:UInt8) (w:World) :
 Cz 136 #[.string (S s),.string ⟨#[c]⟩] w λe w'=>e=.returned (.bool (Lib.contains s [c]))/\w=w':=by
 have h:=Tryz.strings_Contains_one (S s) c w
 rw [S_dataList]at h
 refine h.mono ?_
 rintro e w' ⟨rfl,rfl⟩
 exact⟨a0a (by rw [Lib.contains,index_one]),rfl⟩
theorem b9s {x y:Option Value} (h:v.cell? ⟨B,0,none⟩=x/\v.cell? ⟨B,1,none⟩=y/\B<v.heap.size/\Env v/\Below B w v):Below B w v:=h.2.2.2.2
theorem held2 {x y:Option Value} (h:v.cell? ⟨B,0,none⟩=x/\v.cell? ⟨B,1,none⟩=y/\B<v.heap.size/\Env v/\Below B w v) (hb:Bl v v') :
 v'.cell? ⟨B,0,none⟩=x/\v'.cell? ⟨B,1,none⟩=y/\B<v'.heap.size/\Env v'/\Below B w v':=
 ⟨(hb.cell (p:=⟨B,0,none⟩) h.2.2.1).trans h.1,(hb.cell (p:=⟨B,1,none⟩) h.2.2.1).trans h.2.1,Nat.lt_of_lt_of_le h.2.2.1 hb.size,h.2.2.2.1.below hb h.2.2.2.1.size,h.2.2.2.2.trans (hb.mono (Nat.le_of_lt h.2.2.1))⟩
theorem grew {n:Nat} (hb:Below B ((w.alloc o).drewN n) w1):w.heap.size<w1.heap.size:=by
 have h:=hb.size;have e:((w.alloc o).drewN n).heap.size=w.heap.size+1:=by show (w.heap.push o).size=_;simp
 omega
theorem c5a (hb:Below B (w.alloc o) w1):w.heap.size<w1.heap.size:=grew (n:=0) hb
theorem a6s (h:w.cell? a=some x) (o:Obj):(w.alloc o).cell? a=some x:=
 (World.cell?_alloc_lt _ _ _ (World.block_lt_of_cell? w a h)).trans h
theorem add0 (b j:Nat):(⟨b,0,none⟩:Addr).add j=⟨b,j,none⟩:=by unfold Addr.add;split<;>simp_all
def cellOf (v:World) (a:Addr):Value:=(v.cell? a).getD undef
theorem a5y (h:v.cell? a=some x):v.cell? a=some (cellOf v a):=by unfold cellOf;rw [h];rfl
theorem b3o (e:v'.cell? a=v.cell? a) (h:v.cell? a=some (cellOf v a)):v'.cell? a=some (cellOf v' a):=by
 rw [<-e]at h;exact a5y h
theorem d4g (h:(v.setCell a x).cell? a=some y):(v.setCell a x).cell? a=some x:=by
 cases hv:v.cell? a with
 |some u=>exact World.cell?_setCell_same _ _ _ hv
 |none=>
  exfalso
  simp only [World.cell?,World.setCell,Array.getElem?_modify]at h hv;revert h hv
  cases hh:v.heap[a.block]? with
  |none=>simp
  |some o=>
   cases o with
   |cells c e f=>
    simp only [if_true,Option.map_some]
    cases a.spot.isSome<;>simp
    intro hle;rw [Array.getElem?_eq_none (by simp;omega)];simp
   |_=>simp
theorem heldR {x y:Option Value} (h:v.cell? ⟨C,0,none⟩=x/\v.cell? ⟨C,1,none⟩=y/\v.cell? ⟨B,0,none⟩=some (cellOf v ⟨B,0,none⟩)/\v.cell? ⟨B,1,none⟩=some (cellOf v ⟨B,1,none⟩)/\v.frozen? ⟨B,0,none⟩=false/\v.frozen? ⟨B,1,none⟩=false/\B<C/\C<v.heap.size/\Below B w v) (hb:Bl v v') :
 v'.cell? ⟨C,0,none⟩=x/\v'.cell? ⟨C,1,none⟩=y/\v'.cell? ⟨B,0,none⟩=some (cellOf v' ⟨B,0,none⟩)/\v'.cell? ⟨B,1,none⟩=some (cellOf v' ⟨B,1,none⟩)/\v'.frozen? ⟨B,0,none⟩=false/\v'.frozen? ⟨B,1,none⟩=false/\B<C/\C<v'.heap.size/\Below B w v':=by
 obtain⟨h1,h2,h3,h4,h5,h6,h7,h8,h9⟩:=h
 have hB:B<v.heap.size:=by omega
 exact⟨(hb.cell (p:=⟨C,0,none⟩) h8).trans h1,(hb.cell (p:=⟨C,1,none⟩) h8).trans h2,b3o (hb.cell (p:=⟨B,0,none⟩) hB) h3,b3o (hb.cell (p:=⟨B,1,none⟩) hB) h4,
  (hb.frozen (p:=⟨B,0,none⟩) hB).trans h5,(hb.frozen (p:=⟨B,1,none⟩) hB).trans h6,h7,Nat.lt_of_lt_of_le h8 hb.size,h9.trans (hb.mono oZ)⟩
theorem b2o {x y:Option Value} (h:v.cell? ⟨C,0,none⟩=x/\v.cell? ⟨C,1,none⟩=y/\v.cell? ⟨B,0,none⟩=some (cellOf v ⟨B,0,none⟩)/\v.cell? ⟨B,1,none⟩=some (cellOf v ⟨B,1,none⟩)/\v.frozen? ⟨B,0,none⟩=false/\v.frozen? ⟨B,1,none⟩=false/\B<C/\C<v.heap.size/\Below B w v) (o:Nat) (ho:o=0\/o=1) (u:Value) :
 (v.setCell ⟨B,o,none⟩ u).cell? ⟨C,0,none⟩=x/\(v.setCell ⟨B,o,none⟩ u).cell? ⟨C,1,none⟩=y/\(v.setCell ⟨B,o,none⟩ u).cell? ⟨B,0,none⟩=some (cellOf (v.setCell ⟨B,o,none⟩ u) ⟨B,0,none⟩)/\(v.setCell ⟨B,o,none⟩ u).cell? ⟨B,1,none⟩=some (cellOf (v.setCell ⟨B,o,none⟩ u) ⟨B,1,none⟩)/\(v.setCell ⟨B,o,none⟩ u).frozen? ⟨B,0,none⟩=false/\(v.setCell ⟨B,o,none⟩ u).frozen? ⟨B,1,none⟩=false/\B<C/\C<(v.setCell ⟨B,o,none⟩ u).heap.size/\Below B w (v.setCell ⟨B,o,none⟩ u):=by
 obtain⟨h1,h2,h3,h4,h5,h6,h7,h8,h9⟩:=h
 refine⟨?_,?_,?_,?_,by simpa using h5,by simpa using h6,h7,by simpa using h8,h9.setCell sZ _⟩
 .refine zm32 ?_;exact h1
 .refine zm32 ?_;exact h2
 .by_cases e:o=0
  .subst e;exact a5y (World.cell?_setCell_same _ _ _ h3)
  .exact b3o (World.cell?_setCell_other _ _ _ _ (by intro e';injection e';omega)) h3
 .by_cases e:o=1
  .subst e;exact a5y (World.cell?_setCell_same _ _ _ h4)
  .exact b3o (World.cell?_setCell_other _ _ _ _ (by intro e';injection e';omega)) h4
theorem c8m {c0 c1:Value} (h0:((v.setCell ⟨B,0,none⟩ x).setCell ⟨B,1,none⟩ y).cell? ⟨B,0,none⟩=some c0) (h1:((v.setCell ⟨B,0,none⟩ x).setCell ⟨B,1,none⟩ y).cell? ⟨B,1,none⟩=some c1) :
 ((v.setCell ⟨B,0,none⟩ x).setCell ⟨B,1,none⟩ y).cell? ⟨B,0,none⟩=some x/\((v.setCell ⟨B,0,none⟩ x).setCell ⟨B,1,none⟩ y).cell? ⟨B,1,none⟩=some y:=by
 refine⟨?_,d4g h1⟩
 have e:∀z:World,(z.setCell ⟨B,1,none⟩ y).cell? ⟨B,0,none⟩=z.cell? ⟨B,0,none⟩:=λz=>World.cell?_setCell_other _ _ _ _ (by intro e;injection e;omega)
 rw [e]at h0⊢
 exact d4g h0
theorem c4l {x y:Option Value} {p q:Value} (h:((v.setCell ⟨B,0,none⟩ p).setCell ⟨B,1,none⟩ q).cell? ⟨C,0,none⟩=x/\((v.setCell ⟨B,0,none⟩ p).setCell ⟨B,1,none⟩ q).cell? ⟨C,1,none⟩=y/\((v.setCell ⟨B,0,none⟩ p).setCell ⟨B,1,none⟩ q).cell? ⟨B,0,none⟩=some (cellOf ((v.setCell ⟨B,0,none⟩ p).setCell ⟨B,1,none⟩ q) ⟨B,0,none⟩)/\((v.setCell ⟨B,0,none⟩ p).setCell ⟨B,1,none⟩ q).cell? ⟨B,1,none⟩=some (cellOf ((v.setCell ⟨B,0,none⟩ p).setCell ⟨B,1,none⟩ q) ⟨B,1,none⟩)/\((v.setCell ⟨B,0,none⟩ p).setCell ⟨B,1,none⟩ q).frozen? ⟨B,0,none⟩=false/\((v.setCell ⟨B,0,none⟩ p).setCell ⟨B,1,none⟩ q).frozen? ⟨B,1,none⟩=false/\B<C/\C<((v.setCell ⟨B,0,none⟩ p).setCell ⟨B,1,none⟩ q).heap.size/\Below B w ((v.setCell ⟨B,0,none⟩ p).setCell ⟨B,1,none⟩ q)) :
 ((v.setCell ⟨B,0,none⟩ p).setCell ⟨B,1,none⟩ q).cell? ⟨B,0,none⟩=some p/\((v.setCell ⟨B,0,none⟩ p).setCell ⟨B,1,none⟩ q).cell? ⟨B,1,none⟩=some q/\Below B w ((v.setCell ⟨B,0,none⟩ p).setCell ⟨B,1,none⟩ q):=
 ⟨(c8m h.2.2.1 h.2.2.2.1).1,(c8m h.2.2.1 h.2.2.2.1).2,h.2.2.2.2.2.2.2.2⟩
def a3z (l:List Str):List Value:=l.map λx=>.string (S x)
def a0x (B:Nat) (w:World) (v:Value) (l:List Str):Prop:=w.ownsRow B 9 1 v l.length (a3z l)
def a3w (c:UInt8) (s:Str) (w:World) (e:Ending) (w':World):Prop:=∃v,e=.returned v/\a0x w.heap.size w' v (P.split c s)/\Bl w w'
end Go.Proofs.YtggfdnopminemaaGreatDoor
