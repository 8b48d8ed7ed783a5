/- Walks: the library's stable sort, on a row that is in order: insertion. Walks: the library's stable sort, on a row that is in order: a merge. Walks: the library's stable sort, on a row that is in order. -/
import Derived.Test.YtggfdnopminemaaGreatDoorZt
import Derived.Test.YtggfdnopminemaaGreatDoorValD
set_option linter.all false
namespace Go.Proofs.YtggfdnopminemaaGreatDoor
section
namespace P
def Up (l:Dic):Prop:=∀(i j:Nat) (hj:j<l.length) (hi:i<j),0<cmp (l[j]'hj).1 (l[i]'(by omega)).1
theorem b0t {l:Dic} (h:rising l=true):Up l:=by
 intro i j hj hi;have:=(a1o l).1 h;rw [List.pairwise_iff_getElem]at this;have h2:cmp (l[i]'(by omega)).1 (l[j]'hj).1<0:=this i j oZ hj hi;have:=b5h (l[i]'(by omega)).1 (l[j]'hj).1;omega
end P
open Go Go.RowKit
set_option maxHeartbeats 8000000
set_option maxRecDepth 100000
def KC (B:Nat) (w:World) (g p:Nat) (x:Value) (eo:List Int) (et:Str) (q:Nat) (y:Value) (fo:List Int) (ft:Str) (v:World):Prop:=
 v.cell? ⟨g,p,none⟩=some x∧v.cell? ⟨g,p+1,none⟩=some (.string (S et))∧v.cell? ⟨g,q,none⟩=some y∧v.cell? ⟨g,q+1,none⟩=some (.string (S ft))∧g<v.heap.size∧IntR v x eo∧IntR v y fo∧B≤v.heap.size∧Below B w v
theorem KC.step {B:Nat} {w v v':World} {g p q:Nat} {x y:Value} {eo fo:List Int} {et ft:Str} (h:KC B w g p x eo et q y fo ft v) (hb:Below v.heap.size v v'):KC B w g p x eo et q y fo ft v':=by
 obtain⟨h1,h2,h3,h4,h5,h6,h7,h8,h9⟩:=h
 exact⟨(hb.cell (p:=⟨g,p,none⟩) h5).trans h1,(hb.cell (p:=⟨g,p+1,none⟩) h5).trans h2,(hb.cell (p:=⟨g,q,none⟩) h5).trans h3,(hb.cell (p:=⟨g,q+1,none⟩) h5).trans h4,
  Nat.lt_of_lt_of_le h5 hb.size,h6.below hb,h7.below hb,Nat.le_trans h8 hb.size,h9.trans (hb.mono h8)⟩
theorem a3p (x y:Value) (a b:List Int) (s t:Str) (w:World) (hx:IntR w x a) (hy:IntR w y b) :
 Calls Tryz.prog 132 #[.agg #[x,.string (S s)],.agg #[y,.string (S t)]] w fun e w'=>e=.returned (.int .i64 (P.cmp a b))∧Below w.heap.size w w':=by
 have hb0:Below w.heap.size w ((w.alloc (.cells #[x,.string (S s)] 119)).alloc (.cells #[y,.string (S t)] 119)):=
  ((Below.refl w.heap.size w).alloc lZ _).alloc sZ _
 have HX:=qh (hx.below hb0);have HY:=qh (hy.below hb0)
 have HB0:=qh hb0;clear hb0
 obtain⟨ad,cap,rfl,_,_⟩:=hx
 obtain⟨bd,dap,rfl,_,_⟩:=hy
 go_enter Tryz.func132,Tryz.ntmps132
 go_wp2_with fail
 refine (a6a _ _ a b _ HX.o HY.o).mono ?_
 rintro e w1 ⟨rfl,rfl⟩
 go_wp2
 go_ret
 exact⟨rfl,HB0.o⟩
theorem EntR.two {w v:World} {B g o cap:Nat} {l:P.Dic} (h:EntR w (.slice (some ⟨g,o,none⟩) l.length cap) l) (hz:w.heap.size≤B) (hb:Below B w v) (hB:B≤v.heap.size) (i j:Nat) (hi:i<l.length) (hj:j<l.length) :
 ∃x xd xc y yd yc,x=.slice xd (l[i]'hi).1.length xc∧y=.slice yd (l[j]'hj).1.length yc∧KC B w g (o+i*2) x (l[i]'hi).1 (l[i]'hi).2 (o+j*2) y (l[j]'hj).1 (l[j]'hj).2 v:=by
 have h':=h.below (hb.mono hz)
 obtain⟨g1,o1,e1,hg,x,a0,a1,hx⟩:=h'.at i hi
 obtain⟨g2,o2,e2,_,y,b0,b1,hy⟩:=h'.at j hj
 injection e1 with e1;injection e1 with e1 e1' _
 injection e2 with e2;injection e2 with e2 e2' _
 subst e1 e1' e2 e2'
 obtain⟨xd,xc,hxe,_⟩:=id hx
 obtain⟨yd,yc,hye,_⟩:=id hy
 exact⟨x,xd,xc,y,yd,yc,hxe,hye,a0,a1,b0,b1,hg,hx,hy,hB,hb⟩
abbrev byF:Value:=.func (Fn.func 132) #[] #[]
theorem b0v (u:Value) (l:P.Dic) (a b:Nat) (w:World) (hu:EntR w u l) (hs:P.Up l) (hab:a≤b) (hb:b≤l.length) :
 Calls Tryz.prog 258 #[u,.int .i64 a,.int .i64 b,byF] w fun e w'=>e=.returned (.tuple #[])∧Below w.heap.size w w':=by
 have HU:=qh hu
 have HS:=qh hs;clear hs
 obtain⟨ad,cap,rfl,hl,_⟩:=hu
 go_enter Tryz.func258,Tryz.ntmps258
 go_wp2
 go_loopw [8] (fun i wr=>∃j:Nat,a+1≤j∧(j≤b∨j=a+1)∧i=.int .i64 j∧Below w.heap.size w wr) (fun i _=>b-(intOf i).toNat)
 case atStart=>exact⟨a+1,Nat.le_refl _,.inr rfl,by go_num,Below.refl _ _⟩
 case round=>
  obtain⟨j,hj1,hj2,rfl,hb1⟩:=hrel;have HB:=qh hb1;have HBZ:=qh hb1.size
  by_cases hlt:j<b
  ·obtain⟨wo,rfl⟩:∃wo:World,wo=wr:=⟨_,rfl⟩
   go_wp2_with fail
   go_loopw [9] (fun i wr=>i=.int .i64 j∧wr=wo) (fun _ _=>0)
   case atStart=>exact⟨rfl,rfl⟩
   case round=>
    obtain⟨rfl,rfl⟩:=hrel;obtain⟨g,o,rfl,_⟩:=HU.o.at j oZ;obtain⟨x,xd,xc,y,yd,yc,rfl,rfl,HKC⟩:=HU.o.two lZ HB.o HBZ.o j (j-1) oZ oZ;have HCM:=qh (HS.o (j-1) j oZ oZ);have HK0:=qh HKC;clear HKC hb1;generalize l[j]=en at *;generalize (l[j-1]'(by omega))=fn at *;obtain⟨eo,et⟩:=en;obtain⟨fo,ft⟩:=fn;simp only at HK0 HCM;have h1:(a:Int)<(j:Int):=by omega
    have h2:(j:Int)<(l.length:Int):=by omega
    have hj2':1≤(j:Int):=by omega
    have hj3:0<j:=by omega
    have hw1:IntKind.i64.wrap ((j:Int)-1)=(j:Int)-1:=IntWalk.i64_in _ oZ;have hn3:¬(l.length:Int)≤(j:Int)-1:=by omega
    have hc:¬P.cmp eo fo<0:=by have:=HCM.o;omega
    have hsS:=HK0.o.step bZ.drew
    go_upto_region 4 with fail
    refine wp_region_held_drew (S:=KC w.heap.size w g (o+j*2) (.slice xd eo.length xc) eo et (o+(j-1)*2) (.slice yd fo.length yc) fo ft) kZ hsS (fun hS0=>?_);clear hsS;refine tk0 0 hS0 ?_;refine tk0 1 hS0 ?_;refine tk0 2 hS0 ?_;refine tk0 3 hS0 ?_;refine tk0 4 hS0 ?_;refine tk0 5 hS0 ?_;refine tk0 6 hS0 ?_;refine tk0 7 (v:=.pointer (some ⟨g,o+j*2,none⟩)) hS0 ?_;refine tk0 8 hS0 ?_;refine tk0 9 hS0 ?_;refine tk0 10 hS0 ?_;refine tk0 11 hS0 ?_;refine tk0 12 (v:=.pointer (some ⟨g,o+(j-1)*2,none⟩)) hS0 ?_;refine tk0 13 hS0 ?_;refine trd 14 fun K hK=>?_;have HX:=qh hS0.2.2.2.2.2.1;have HY:=qh hS0.2.2.2.2.2.2.1;have HS1:=qh hS0;go_simp;refine (a3p _ _ eo fo et ft _ HX.o HY.o).mono ?_;rintro e v ⟨rfl,hb⟩;refine hK.out _ _ (HS1.o.step hb) (fun hS1=>?_);clear hK K hb
    try simp only [qA,qB,qC,Act.put,qD,qE,qF]
    refine tk0 15 hS1 ?_;refine tk0 16 hS1 ?_;refine wpAnyH_done kZ ?_ _;have HB2:=qh hS1.2.2.2.2.2.2.2.2;clear hS0 hS1 HS1;go_wp2
    go_roundw
    case rel=>exact⟨j+1,by omega,.inl oZ,by go_num,HB2.o⟩
    case measure=>simp [intOf];omega
  ·clear hb1;go_wp2
   go_end0
   exact⟨rfl,HB.o⟩
end
section
open Go Go.RowKit
set_option maxHeartbeats 8000000
set_option maxRecDepth 100000
theorem b2u (u:Value) (l:P.Dic) (hs:P.Up l) (n:Nat):∀(a m b:Nat) (w:World),b-a≤n→EntR w u l→a<m→m<b→b≤l.length →
 Calls Tryz.prog 259 #[u,.int .i64 a,.int .i64 m,.int .i64 b,byF] w fun e w'=>e=.returned (.tuple #[])∧Below w.heap.size w w':=by
 have HS:=qh hs;clear hs
 induction n with
 |zero=>intro a m b w h1 _ h2 h3 _;omega
 |succ n ih=>
  intro a m b w hn hu ham hmb hbl;have IH:=qh ih;clear ih;have HU:=qh hu;obtain⟨ad,cap,rfl,hl,_⟩:=hu
  by_cases hm1:m=a+1
  ·have hd1:((m:Int)-(a:Int)==1)=true:=by rw [beq_iff_eq];omega
   have hk2:¬(a:Int)<(m:Int)-1:=by omega
   have HM1:=qh hm1;clear hm1
   go_enter Tryz.func259,Tryz.ntmps259
   go_wp2_with fail
   go_loopw [10,11] (fun i k wr=>∃j:Nat,m≤j∧j≤b∧i=.int .i64 m∧k=.int .i64 j∧Below w.heap.size w wr) (fun _ k _=>(intOf k).toNat)
   case atStart=>exact⟨b,by omega,Nat.le_refl _,rfl,rfl,Below.refl _ _⟩
   case round=>
    obtain⟨j,hj1,hj2,rfl,rfl,hb1⟩:=hrel;have HB:=qh hb1;have HBZ:=qh hb1.size;clear hb1
    by_cases hlt:m<j
    ·obtain⟨h,hh⟩:∃h:Nat,(m+j) / 2=h:=⟨_,rfl⟩;have hhi:((m:Int)+(j:Int)) / 2=(h:Int):=by omega
     have hh1:m≤h:=by omega
     have hh2:h<j:=by omega
     clear hh
     go_upto_region 5 with fail
     try rw [hhi]
     clear hhi;obtain⟨g,o,rfl,_⟩:=HU.o.at (h) oZ;obtain⟨x,xd,xc,y,yd,yc,rfl,rfl,HKC⟩:=HU.o.two lZ HB.o HBZ.o (h) (a) oZ oZ;have HCM:=qh (HS.o (a) (h) oZ oZ);have HK0:=qh (HKC.step bZ.drew);clear HKC;generalize (l[h]'(by omega))=en at *;generalize (l[a]'(by omega))=fn at *;obtain⟨eo,et⟩:=en;obtain⟨fo,ft⟩:=fn;simp only at HK0 HCM;have hc:¬P.cmp eo fo<0:=by have:=HCM.o;omega
     have hnp:¬l.length≤h:=by omega
     have hnq:¬l.length≤a:=by omega
     refine wp_region_held_drew (S:=KC w.heap.size w g (o+h*2) (.slice xd eo.length xc) eo et (o+a*2) (.slice yd fo.length yc) fo ft) kZ HK0.o (fun hS0=>?_);refine tk0 0 hS0 ?_;refine tk0 1 hS0 ?_;refine tk0 2 hS0 ?_;refine tk0 3 (v:=.pointer (some ⟨g,o+h*2,none⟩)) hS0 ?_;refine tk0 4 hS0 ?_;refine tk0 5 hS0 ?_;refine tk0 6 hS0 ?_;refine tk0 7 (v:=.pointer (some ⟨g,o+a*2,none⟩)) hS0 ?_;refine tk0 8 hS0 ?_;refine trd 9 fun K hK=>?_;have HX:=qh hS0.2.2.2.2.2.1;have HY:=qh hS0.2.2.2.2.2.2.1;have HS1:=qh hS0;go_simp;refine (a3p _ _ eo fo et ft _ HX.o HY.o).mono ?_;rintro e v ⟨rfl,hb⟩;refine hK.out _ _ (HS1.o.step hb) (fun hS1=>?_);clear hK K hb
     try simp only [qA,qB,qC,Act.put,qD,qE,qF]
     refine tk0 10 hS1 ?_;refine wpAnyH_done kZ ?_ _;have HB2:=qh hS1.2.2.2.2.2.2.2.2;clear hS0 hS1 HS1 HX HY HK0 hc HCM hnp hnq;go_wp2
     go_roundw
     case rel=>exact⟨h,hh1,by omega,rfl,rfl,HB2.o⟩
     case measure=>simp [intOf];omega
    ·have hjm:j=m:=by omega
     subst hjm
     go_wp2_with fail
     go_loopw [13] (fun k wr'=>k=.int .i64 a∧wr'=wr) (fun _ _=>0)
     case atStart=>exact⟨rfl,rfl⟩
     case round=>
      exact zq75
  ·have hd1:((m:Int)-(a:Int)==1)=false:=by rw [beq_eq_false_iff_ne];omega
   by_cases hb1:b=m+1
   ·have hd2:((b:Int)-(m:Int)==1)=true:=by rw [beq_iff_eq];omega
    have HM1:=qh hb1;clear hb1 hm1
    go_enter Tryz.func259,Tryz.ntmps259
    go_wp2_with fail
    go_loopw [14,15] (fun i k wr=>∃j:Nat,a≤j∧j≤m∧i=.int .i64 j∧k=.int .i64 m∧Below w.heap.size w wr) (fun i _ _=>m-(intOf i).toNat)
    case atStart=>exact⟨a,Nat.le_refl _,by omega,rfl,rfl,Below.refl _ _⟩
    case round=>
     obtain⟨j,hj1,hj2,rfl,rfl,hb1⟩:=hrel;have HB:=qh hb1;have HBZ:=qh hb1.size;clear hb1
     by_cases hlt:j<m
     ·obtain⟨h,hh⟩:∃h:Nat,(j+m) / 2=h:=⟨_,rfl⟩;have hhi:((j:Int)+(m:Int)) / 2=(h:Int):=by omega
      have hh1:j≤h:=by omega
      have hh2:h<m:=by omega
      clear hh
      go_upto_region 17 with fail
      try rw [hhi]
      clear hhi;obtain⟨g,o,rfl,_⟩:=HU.o.at (m) oZ;obtain⟨x,xd,xc,y,yd,yc,rfl,rfl,HKC⟩:=HU.o.two lZ HB.o HBZ.o (m) (h) oZ oZ;have HCM:=qh (HS.o (h) (m) oZ oZ);have HK0:=qh (HKC.step bZ.drew);clear HKC;generalize (l[m]'(by omega))=en at *;generalize (l[h]'(by omega))=fn at *;obtain⟨eo,et⟩:=en;obtain⟨fo,ft⟩:=fn;simp only at HK0 HCM;have hc:¬P.cmp eo fo<0:=by have:=HCM.o;omega
      have hnp:¬l.length≤m:=by omega
      have hnq:¬l.length≤h:=by omega
      refine wp_region_held_drew (S:=KC w.heap.size w g (o+m*2) (.slice xd eo.length xc) eo et (o+h*2) (.slice yd fo.length yc) fo ft) kZ HK0.o (fun hS0=>?_);refine tk0 0 hS0 ?_;refine tk0 1 hS0 ?_;refine tk0 2 hS0 ?_;refine tk0 3 (v:=.pointer (some ⟨g,o+m*2,none⟩)) hS0 ?_;refine tk0 4 hS0 ?_;refine tk0 5 hS0 ?_;refine tk0 6 hS0 ?_;refine tk0 7 (v:=.pointer (some ⟨g,o+h*2,none⟩)) hS0 ?_;refine tk0 8 hS0 ?_;refine trd 9 fun K hK=>?_;have HX:=qh hS0.2.2.2.2.2.1;have HY:=qh hS0.2.2.2.2.2.2.1;have HS1:=qh hS0;go_simp;refine (a3p _ _ eo fo et ft _ HX.o HY.o).mono ?_;rintro e v ⟨rfl,hb⟩;refine hK.out _ _ (HS1.o.step hb) (fun hS1=>?_);clear hK K hb
      try simp only [qA,qB,qC,Act.put,qD,qE,qF]
      refine tk0 10 hS1 ?_;refine tk0 11 hS1 ?_;refine wpAnyH_done kZ ?_ _;have HB2:=qh hS1.2.2.2.2.2.2.2.2;clear hS0 hS1 HS1 HX HY HK0 hc HCM hnp hnq;exact zq94
     ·have hjm:j=m:=by omega
      subst hjm
      go_wp2_with fail
      go_loopw [17] (fun k wr'=>k=.int .i64 j∧wr'=wr) (fun _ _=>0)
      case atStart=>exact⟨rfl,rfl⟩
      case round=>
       exact zq75
   ·have hd2:((b:Int)-(m:Int)==1)=false:=by rw [beq_eq_false_iff_ne];omega
    obtain⟨mid,hmid⟩:∃mid:Nat,(a+b) / 2=mid:=⟨_,rfl⟩;have hmi:((a:Int)+(b:Int)) / 2=(mid:Int):=by omega
    have hmd1:a<mid:=by omega
    have hmd2:mid<b:=by omega
    have hmd3:a+b≤2*mid+1:=by omega
    have hmd4:2*mid≤a+b:=by omega
    clear hmid
    by_cases hmm:mid<m
    ·have hmm':(mid:Int)<(m:Int):=by omega
     have hs0:(mid:Int)+(m:Int)-(b:Int)=((mid+m-b:Nat):Int):=by omega
     have HS0:=qh hs0;clear hs0
     go_enter Tryz.func259,Tryz.ntmps259
     go_wp2_with fail
     go_loopw [20,21] (fun i k wr=>∃j:Nat,(mid+m-b)≤j∧j≤mid∧i=.int .i64 j∧k=.int .i64 mid∧Below w.heap.size w wr) (fun i _ _=>mid-(intOf i).toNat)
     case atStart=>exact⟨(mid+m-b),Nat.le_refl _,by omega,by go_num,by first|rfl|go_num,Below.refl _ _⟩
     case round=>
      obtain⟨j,hj1,hj2,rfl,rfl,hb1⟩:=hrel;have HB:=qh hb1;have HBZ:=qh hb1.size;clear hb1
      by_cases hlt:j<mid
      ·obtain⟨h,hh⟩:∃h:Nat,(j+mid) / 2=h:=⟨_,rfl⟩;have hhi:((j:Int)+(mid:Int)) / 2=(h:Int):=by omega
       have hh1:j≤h:=by omega
       have hh2:h<mid:=by omega
       exact zq7
      ·have hjm:j=mid:=by omega
       subst hjm;have he:(j:Int)+(m:Int)-(j:Int)=(m:Int):=by omega
       have hf1:¬(m:Int)<(j:Int)+(m:Int)-(j:Int):=by omega
       have hf2:(j:Int)<(j:Int)+(m:Int)-(j:Int):=by omega
       have hf3:(j:Int)+(m:Int)-(j:Int)<(b:Int):=by omega
       have HE:=qh he;clear he
       go_wp2_with fail
       rw [HE.o];refine (IH.o j m b _ oZ (HU.o.below HB.o) oZ hmb hbl).mono ?_;exact zq77
    ·have hmm':¬(mid:Int)<(m:Int):=by omega
     go_enter Tryz.func259,Tryz.ntmps259
     go_wp2_with fail
     go_loopw [20,21] (fun i k wr=>∃j:Nat,a≤j∧j≤m∧i=.int .i64 j∧k=.int .i64 m∧Below w.heap.size w wr) (fun i _ _=>m-(intOf i).toNat)
     case atStart=>exact⟨a,Nat.le_refl _,by omega,by go_num,by first|rfl|go_num,Below.refl _ _⟩
     case round=>
      obtain⟨j,hj1,hj2,rfl,rfl,hb1⟩:=hrel;have HB:=qh hb1;have HBZ:=qh hb1.size;clear hb1
      by_cases hlt:j<m
      ·obtain⟨h,hh⟩:∃h:Nat,(j+m) / 2=h:=⟨_,rfl⟩;have hhi:((j:Int)+(m:Int)) / 2=(h:Int):=by omega
       have hh1:j≤h:=by omega
       have hh2:h<m:=by omega
       exact zq7
      ·have hjm:j=m:=by omega
       subst hjm;have he:(mid:Int)+(j:Int)-(j:Int)=(mid:Int):=by omega
       have hf1:¬(mid:Int)<(mid:Int)+(j:Int)-(j:Int):=by omega
       clear he
       by_cases hmq:j<mid
       ·have hf2:(j:Int)<(mid:Int):=by omega
        go_wp2_with fail
        refine (IH.o a j mid _ oZ (HU.o.below HB.o) ham hmq oZ).mono ?_;exact zq77
       ·have hf2:¬(j:Int)<(mid:Int):=by omega
        go_wp2
        go_end0
        exact⟨rfl,HB.o⟩
end
section
open Go Go.RowKit
set_option maxHeartbeats 8000000
set_option maxRecDepth 100000
theorem c5s (u:Value) (l:P.Dic) (w:World) (hu:EntR w u l) (hs:P.Up l) :
 Calls Tryz.prog 203 #[u,.int .i64 l.length,byF] w fun e w'=>e=.returned (.tuple #[])∧Below w.heap.size w w':=by
 have HU:=qh hu
 have HS:=qh hs;clear hs
 obtain⟨ad,cap,rfl,hl,_⟩:=hu
 go_enter Tryz.func203,Tryz.ntmps203
 go_wp2_with fail
 go_loopw [7,8] (fun i k wr=>∃a:Nat,a≤l.length∧i=.int .i64 a∧k=.int .i64 (a+20:Nat)∧Below w.heap.size w wr) (fun _ k _=>l.length+20-(intOf k).toNat)
 case atStart=>exact⟨0,Nat.zero_le _,rfl,rfl,Below.refl _ _⟩
 case round=>
  obtain⟨a,ha,rfl,rfl,hb1⟩:=hrel;have HB:=qh hb1;have HBZ:=qh hb1.size;clear hb1
  by_cases hlt:a+20≤l.length
  ·have i1:((a+20:Nat):Int)≤(l.length:Int):=by omega
   go_wp2_with fail
   refine (b0v _ l a (a+20) _ (HU.o.below HB.o) HS.o oZ hlt).mono ?_;rintro e w2 ⟨rfl,hb2⟩;have HB2:=qh (HB.o.trans (hb2.mono HBZ.o));clear hb2;go_wp2
   go_roundw
   case rel=>exact⟨a+20,hlt,rfl,by go_num,HB2.o⟩
   case measure=>simp [intOf];omega
  ·have i1:¬((a+20:Nat):Int)≤(l.length:Int):=by omega
   go_wp2_with fail
   refine (b0v _ l a l.length _ (HU.o.below HB.o) HS.o ha lZ).mono ?_;rintro e w2 ⟨rfl,hb2⟩;have HB2:=qh (HB.o.trans (hb2.mono HBZ.o));clear hb2 i1 hlt HB HBZ
   go_wp2_with fail
   go_loopw [6] (fun k wr=>∃s:Nat,20≤s∧s≤2^47∧k=.int .i64 s∧Below w.heap.size w wr) (fun k _=>l.length-(intOf k).toNat)
   case atStart=>exact⟨20,Nat.le_refl _,by omega,rfl,HB2.o⟩
   case round=>
    obtain⟨s,hs1,hs2,rfl,hb1⟩:=hrel;have HB3:=qh hb1;clear hb1 HB2
    by_cases hsl:s<l.length
    ·have i1:(s:Int)<(l.length:Int):=by omega
     obtain⟨wo,hwo⟩:∃wo:World,wo=wr:=⟨_,rfl⟩;subst hwo
     go_wp2_with fail
     go_loopw [7,8] (fun i k wr=>∃c:Nat,c≤l.length∧i=.int .i64 c∧k=.int .i64 (c+2*s:Nat)∧Below w.heap.size w wr) (fun _ k _=>l.length+2*s-(intOf k).toNat)
     case atStart=>exact⟨0,Nat.zero_le _,rfl,by go_num,HB3.o⟩
     case round=>
      obtain⟨c,hc,rfl,rfl,hb1⟩:=hrel;have HB4:=qh hb1;have HBZ:=qh hb1.size;clear hb1 HB3;have e1:(c:Int)+(s:Int)=((c+s:Nat):Int):=by omega
      have HE1:=qh e1;clear e1
      by_cases hcl:c+2*s≤l.length
      ·have i2:((c+2*s:Nat):Int)≤(l.length:Int):=by omega
       go_wp2_with fail
       rw [HE1.o];refine (b2u _ l HS.o l.length c (c+s) (c+2*s) _ oZ (HU.o.below HB4.o) oZ oZ hcl).mono ?_;rintro e w2 ⟨rfl,hb2⟩;have HB5:=qh (HB4.o.trans (hb2.mono HBZ.o));clear hb2;go_wp2
       go_roundw
       case rel=>exact⟨c+2*s,hcl,rfl,by go_num,HB5.o⟩
       case measure=>simp [intOf];omega
      ·have i2:¬((c+2*s:Nat):Int)≤(l.length:Int):=by omega
       by_cases hm:c+s<l.length
       ·have i3:(c:Int)+(s:Int)<(l.length:Int):=by omega
        go_wp2_with fail
        rw [HE1.o];refine (b2u _ l HS.o l.length c (c+s) l.length _ oZ (HU.o.below HB4.o) oZ hm lZ).mono ?_;rintro e w2 ⟨rfl,hb2⟩;have HB5:=qh (HB4.o.trans (hb2.mono HBZ.o));clear hb2;clear i2 i3;go_wp2
        go_roundw
        case rel=>exact⟨2*s,by omega,by omega,by go_num,HB5.o⟩
        case measure=>simp [intOf];omega
       ·have i3:¬(c:Int)+(s:Int)<(l.length:Int):=by omega
        go_wp2
        go_roundw
        case rel=>exact⟨2*s,by omega,by omega,by go_num,HB4.o⟩
        case measure=>simp [intOf];omega
    ·have i1:¬(s:Int)<(l.length:Int):=by omega
     go_wp2
     go_end0
     exact⟨rfl,HB3.o⟩
theorem a9l (u:Value) (l:P.Dic) (w:World) (hu:EntR w u l) (hs:P.Up l) :
 Calls Tryz.prog 131 #[u,byF] w fun e w'=>e=.returned (.tuple #[])∧Below w.heap.size w w':=by
 have HU:=qh hu
 have HS:=qh hs;clear hs
 obtain⟨ad,cap,rfl,hl,_⟩:=hu
 go_enter Tryz.func131,Tryz.ntmps131
 go_wp2_with fail
 refine (c5s _ l _ HU.o HS.o).mono ?_
 rintro e w2 ⟨rfl,hb2⟩
 have HB:=qh hb2;clear hb2
 go_wp2
 go_end0
 exact⟨rfl,HB.o⟩
end
end Go.Proofs.YtggfdnopminemaaGreatDoor
