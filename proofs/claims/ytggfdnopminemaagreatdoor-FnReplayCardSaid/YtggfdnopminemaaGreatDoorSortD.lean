/- Walks: the library's. -/
import Derived.Test.YtggfdnopminemaaGreatDoorValD
set_option linter.all false
namespace Go.Proofs.YtggfdnopminemaaGreatDoor
open Go.Proofs.Tryz
variable {B g:Nat} {v w:Go.World}
section
namespace P
def Up (l:Dic):Prop:=∀(i j:Nat) (hj:j<l.length) (hi:i<j),0<cmp (l[j]'hj).1 (l[i]'(by omega)).1
theorem b4w {l:Dic} (h:rising l=true):Up l:=by
 intro i j hj hi;have:=(a2q l).1 h;rw [List.pairwise_iff_getElem]at this;have h2:cmp (l[i]'(by omega)).1 (l[j]'hj).1<0:=this i j oZ hj hi;have:=b6b (l[i]'(by omega)).1 (l[j]'hj).1;omega
end P
open Go Go.RowKit
set_option maxHeartbeats 8000000
set_option maxRecDepth 100000
def KC (B:Nat) (w:World) (g p:Nat) (x:Value) (eo:List Int) (et:Str) (q:Nat) (y:Value) (fo:List Int) (ft:Str) (v:World):Prop:=
 v.cell? ⟨g,p,none⟩=some x/\v.cell? ⟨g,p+1,none⟩=some (.string (S et))/\v.cell? ⟨g,q,none⟩=some y/\v.cell? ⟨g,q+1,none⟩=some (.string (S ft))/\g<v.heap.size/\IntR v x eo/\IntR v y fo/\B<=v.heap.size/\Below B w v
theorem KC.step {v':World} {p q:Nat} {x y:Value} {eo fo:List Int} {et ft:Str} (h:KC B w g p x eo et q y fo ft v) (hb:Bl v v'):KC B w g p x eo et q y fo ft v':=by
 obtain⟨h1,h2,h3,h4,h5,h6,h7,h8,h9⟩:=h
 exact⟨(hb.cell (p:=⟨g,p,none⟩) h5).trans h1,(hb.cell (p:=⟨g,p+1,none⟩) h5).trans h2,(hb.cell (p:=⟨g,q,none⟩) h5).trans h3,(hb.cell (p:=⟨g,q+1,none⟩) h5).trans h4,
  Nat.lt_of_lt_of_le h5 hb.size,h6.below hb,h7.below hb,Nat.le_trans h8 hb.size,h9.trans (hb.mono h8)⟩
theorem b2z (x y:Value) (a b:List Int) (s t:Str) (w:World) (hx:IntR w x a) (hy:IntR w y b) :
 Cz 132 #[.agg #[x,.string (S s)],.agg #[y,.string (S t)]] w λe w'=>e=.returned (.int .i64 (P.cmp a b))/\Bl w w':=by
 have hb0:Bl w ((w.alloc (.cells #[x,.string (S s)] 119)).alloc (.cells #[y,.string (S t)] 119)):=
  ((Below.refl w.heap.size w).alloc lZ _).alloc sZ _
 have HX:=qh (hx.below hb0);have HY:=qh (hy.below hb0)
 have HB0:=qh hb0;clear hb0
 obtain⟨ad,cap,rfl,_,_⟩:=hx
 obtain⟨bd,dap,rfl,_,_⟩:=hy
 go_enter func132,ntmps132
 go_wp2_with fail
 refine (a7q _ _ a b _ HX.o HY.o).mono ?_
 rintro e w1 ⟨rfl,rfl⟩
 go_wp2
 go_ret
 exact⟨rfl,HB0.o⟩
theorem EntR.two {o cap:Nat} {l:P.Dic} (h:EntR w (.slice (some ⟨g,o,none⟩) l.length cap) l) (hz:w.heap.size<=B) (hb:Below B w v) (hB:B<=v.heap.size) (i j:Nat) (hi:i<l.length) (hj:j<l.length) :
 ∃x xd xc y yd yc,x=.slice xd (l[i]'hi).1.length xc/\y=.slice yd (l[j]'hj).1.length yc/\KC B w g (o+i*2) x (l[i]'hi).1 (l[i]'hi).2 (o+j*2) y (l[j]'hj).1 (l[j]'hj).2 v:=by
 have h':=h.below (hb.mono hz)
 obtain⟨g1,o1,e1,hg,x,a0,a1,hx⟩:=h'.at i hi
 obtain⟨g2,o2,e2,_,y,b0,b1,hy⟩:=h'.at j hj
 injection e1 with e1;injection e1 with e1 e1' _
 injection e2 with e2;injection e2 with e2 e2' _
 subst e1 e1' e2 e2'
 obtain⟨xd,xc,hxe,_⟩:=id hx
 obtain⟨yd,yc,hye,_⟩:=id hy
 exact⟨x,xd,xc,y,yd,yc,hxe,hye,a0,a1,b0,b1,hg,hx,hy,hB,hb⟩
abbrev byF:Value:=.func (Fn.func 132) #[] #[]
theorem c1f (ad:Option Addr) (cap:Nat) (w:World) :
 Cz 258 #[.slice ad 0 cap,.int .i64 (0:Nat),.int .i64 (0:Nat),byF] w λe w'=>e=.returned (.tuple #[])/\Bl w w':=by
 go_enter func258,ntmps258
 go_wp2
 go_loopw [8] (λi wr=>i=.int .i64 (1:Nat)/\wr=w) (λ_ _=>0)
 case atStart=>exact⟨by go_num,rfl⟩
 case round=>
  obtain⟨rfl,rfl⟩:=hrel
  go_wp2_with fail
  go_end0
  exact⟨rfl,Below.refl _ _⟩
theorem d1p (ad:Option Addr) (cap:Nat) (w:World) :
 Cz 203 #[.slice ad 0 cap,.int .i64 (0:Nat),byF] w λe w'=>e=.returned (.tuple #[])/\Bl w w':=by
 go_enter func203,ntmps203
 go_wp2_with fail
 go_loopw [7,8] (λi k wr=>i=.int .i64 (0:Nat)/\k=.int .i64 (20:Nat)/\Bl w wr) (λ_ _ _=>0)
 case atStart=>exact⟨rfl,rfl,Below.refl _ _⟩
 case round=>
  obtain⟨rfl,rfl,hb1⟩:=hrel;have HB:=qh hb1;have HBZ:=qh hb1.size;clear hb1
  go_wp2_with fail
  refine (c1f ad cap _).mono ?_;rintro e w2 ⟨rfl,hb2⟩;have HB2:=qh (HB.o.trans (hb2.mono HBZ.o));clear hb2 HB HBZ
  go_wp2_with fail
  go_loopw [6] (λk wr=>k=.int .i64 (20:Nat)/\Bl w wr) (λ_ _=>0)
  case atStart=>exact⟨rfl,HB2.o⟩
  case round=>
   obtain⟨rfl,hb⟩:=hrel;have HB3:=qh hb;clear hb;go_wp2
   go_end0
   exact⟨rfl,HB3.o⟩
theorem b8o (ad:Option Addr) (cap:Nat) (w:World) :
 Cz 131 #[.slice ad 0 cap,byF] w λe w'=>e=.returned (.tuple #[])/\Bl w w':=by
 go_enter func131,ntmps131
 go_wp2_with fail
 refine (d1p ad cap _).mono ?_
 rintro e w2 ⟨rfl,hb2⟩
 have HB:=qh hb2;clear hb2
 go_wp2
 go_end0
 exact⟨rfl,HB.o⟩
end
end Go.Proofs.YtggfdnopminemaaGreatDoor
