/- Walks: the rule of a suffix, the joined word (program). -/
import Derived.Test.YtggfdnopminemaaGreatDoorZt
import Derived.Test.YtggfdnopminemaaGreatDoorSpellI
import Derived.Test.YtggfdnopminemaaGreatDoorCurE1
set_option linter.all false
namespace Go.Proofs.YtggfdnopminemaaGreatDoor
open Go Go.RowKit
set_option maxHeartbeats 8000000
set_option maxRecDepth 100000
theorem any1 {f:Str→Bool} (a:Str):[a].any f=f a:=by simp
theorem any3 {f:Str→Bool} (a b c:Str):[a,b,c].any f=(f a||(f b||f c)):=by simp
theorem any5 {f:Str→Bool} (a b c d e:Str):[a,b,c,d,e].any f=(f a||(f b||(f c||(f d||f e)))):=by simp
theorem c8u (x y:Str) (w:World) (hx:x.length≤2^30) (hy:0<y.length) :
 Calls Tryz.prog 215 #[.string (S x),.string (S y)] w fun e w'=>e=.returned (.int .i64 (P.rule x y))∧Below w.heap.size w w':=by
 have hr:P.rule x y=(if (y==[115])&&P.b8u x then 1
  else if (y==[115])&&(P.ends x [115]||(P.ends x [120]||(P.ends x [122]||(P.ends x [99,104]||P.ends x [115,104])))) then 2
  else if (y==[105,110,103])&&P.ends x [105,101] then 3
  else if P.b8u x&&!(y.getD 0 0==105) then 4
  else if P.c3r x&&P.vow (y.getD 0 0) then 5
  else if decide (P.a3s x=1)&&(P.closed x&&P.vow (y.getD 0 0)) then 6 else 0):=rfl
 rw [P.getD_at hy]at hr
 obtain⟨y0,hy0⟩:∃v,(y[0]'hy==105)=v:=⟨_,rfl⟩
 have f0:(((y[0]'hy).toNat:Int)==105)=y0:=(d3h _ 105 dZ).trans hy0
 have f0':(((y[0]'hy).toNat:Int) != 105)=!y0:=by rw [←f0];rfl
 have h5:(P.c3r x&&P.vow (y[0]'hy))=(decide (2≤x.length)&&(P.ends x [101]&&(!P.ends x [101,101]&&(!P.ends x [111,101]&&(!P.ends x [121,101]&&P.vow (y[0]'hy)))))):=by
  unfold P.c3r P.eoy
  cases decide (2≤x.length)<;>cases P.ends x [101]<;>cases P.ends x [101,101]<;>cases P.ends x [111,101]<;>cases P.ends x [121,101]<;>rfl
 have h6:(decide (P.a3s x=1)&&(P.closed x&&P.vow (y[0]'hy)))=((decide (P.a3s x=1)&&P.closed x)&&P.vow (y[0]'hy)):=by
  cases decide (P.a3s x=1)<;>rfl
 rw [hy0,h5,h6]at hr
 have HR:=qh hr
 clear hr hy0 f0 h5 h6
 have hcy:P.b8u x=(decide (2≤x.length)&&(P.back x 1==121&&!P.vow (P.back x 2))):=rfl
 have hcl:P.closed x=(decide (3≤x.length)&&(!P.vow (P.back x 3)&&(P.vow (P.back x 2)&&(!P.vow (P.back x 1)&&!P.wxy (P.back x 1))))):=rfl
 have HCY:=qh hcy;have HCL:=qh hcl
 have HW3:=qh (fun h=>P.d1r (s:=x) h)
 clear hcy hcl
 go_enter Tryz.func215,Tryz.ntmps215
 go_upto_region 2 with (go_at_call 273;refine (a6s _ _).mono ?_;rintro e w' ⟨rfl,rfl⟩)
 go_cut [7] (fun c wx=>∃b,c=.bool b∧P.b8u x=b∧w=wx)
 case first=>
  by_cases h:2≤x.length
  ·obtain⟨n2,hn2⟩:∃n,n+2=x.length:=⟨x.length-2,by omega⟩;obtain⟨l1,b1⟩:=P.b2x (s:=x) (n:=n2+1) (k:=1) oZ oZ;obtain⟨l2,b2⟩:=P.b2x (s:=x) (n:=n2) (k:=2) oZ oZ;rw [b1,b2,decide_eq_true h]at HCY;have i1:(2:Int)≤(x.length:Int):=by omega
   have i2:(x.length:Int)-1=((n2+1:Nat):Int):=by omega
   have i3:(x.length:Int)-2=(n2:Int):=by omega
   obtain⟨q,hq⟩:∃q,(x[n2+1]'l1==121)=q:=⟨_,rfl⟩;have f0:(((x[n2+1]'l1).toNat:Int)==121)=q:=(d3h _ 121 dZ).trans hq;rw [hq]at HCY;clear b1 b2 hq hn2 h
   cases q
   ·exact zq71
   ·exact zq71
  ·have i1:¬(2:Int)≤(x.length:Int):=by omega
   go_wp2;go_meet;exact⟨_,rfl,by rw [HCY.o,decide_eq_false h];rfl,rfl⟩
 case rest=>
 obtain⟨cy,rfl,hcy,rfl⟩:=hcut
 rw [hcy]at HR
 clear HCY hcy
 go_upto_region 3 with fail
 go_cut [8] (fun c wx=>∃b,c=.bool b∧P.closed x=b∧Below w.heap.size w wx)
 case first=>
  by_cases h:3≤x.length
  ·obtain⟨n3,hn3⟩:∃n,n+3=x.length:=⟨x.length-3,by omega⟩;obtain⟨l1,b1⟩:=P.b2x (s:=x) (n:=n3+2) (k:=1) oZ oZ;obtain⟨l2,b2⟩:=P.b2x (s:=x) (n:=n3+1) (k:=2) oZ oZ;obtain⟨l3,b3⟩:=P.b2x (s:=x) (n:=n3) (k:=3) oZ oZ;have hw3:=HW3.o oZ;rw [b1]at hw3;rw [b1,b2,b3,decide_eq_true h,←hw3]at HCL;have i1:(3:Int)≤(x.length:Int):=by omega
   have i2:(x.length:Int)-1=((n3+2:Nat):Int):=by omega
   have i3:(x.length:Int)-2=((n3+1:Nat):Int):=by omega
   have i4:(x.length:Int)-3=(n3:Int):=by omega
   obtain⟨q1,hq1⟩:∃q,P.vow (x[n3+2]'l1)=q:=⟨_,rfl⟩;obtain⟨q2,hq2⟩:∃q,P.vow (x[n3+1]'l2)=q:=⟨_,rfl⟩;obtain⟨q3,hq3⟩:∃q,P.vow (x[n3]'l3)=q:=⟨_,rfl⟩;rw [hq1,hq2,hq3]at HCL;clear b1 b2 b3 hn3 h hw3
   cases q3 with
   |true=>
    exact zq32
   |false=>
   cases q2 with
   |false=>
    exact zq32
   |true=>
   cases q1 with
   |true=>
    exact zq32
   |false=>
    go_wp2_with (go_at_call 273;refine (a6s _ _).mono ?_;rintro e w' ⟨rfl,rfl⟩)
    refine (endsWith _ 3 x [[119],[120],[121]] _ sZ (a2k [[119],[120],[121]] _ _) oZ dZ).mono ?_;rintro e w1 ⟨rfl,hb⟩;have HB:=qh (((Below.refl w.heap.size w).alloc lZ _).trans (hb.mono sZ));clear hb;rw [any3];go_wp2;go_meet;exact⟨_,rfl,by rw [HCL.o];simp,HB.o⟩
  ·have i1:¬(3:Int)≤(x.length:Int):=by omega
   go_wp2;go_meet;exact⟨_,rfl,by rw [HCL.o,decide_eq_false h];rfl,Below.refl _ _⟩
 case rest=>
 obtain⟨cl,rfl,hcl,hb⟩:=hcut
 rw [hcl]at HR
 have HB0:=qh hb
 clear hb hcl HCL HW3
 generalize hww:wc=w0 at *
 clear hww
 go_upto_region 4 with fail
 go_cut [62] (fun c wx=>c=.bool ((y==[115])&&cy)∧Below w.heap.size w wx)
 case first=>
  cases g1:(y==[115]) with
  |false=>
   go_wp2;go_meet;exact⟨by simp [*],HB0.o⟩
  |true=>
   go_wp2;go_meet;exact⟨by simp [*],HB0.o⟩
 case rest=>
 obtain⟨rfl,hb⟩:=hcut
 have HB1:=qh hb
 clear hb HB0
 generalize hww:wc=w1 at *
 clear hww
 cases hc0:((y==[115])&&cy)
 rotate_left
 ·have HZ:=qh (show P.rule x y=1 by rw [HR.o,hc0];rfl);clear hc0;go_wp2;go_ret;exact⟨a4c (by rw [HZ.o];rfl),HB1.o⟩
 have N0:=qh hc0
 clear hc0
 go_upto_region 6 with fail
 go_cut [68] (fun c wx=>c=.bool ((y==[115])&&(P.ends x [115]||(P.ends x [120]||(P.ends x [122]||(P.ends x [99,104]||P.ends x [115,104])))))∧Below w.heap.size w wx)
 case first=>
  cases g1:(y==[115]) with
  |false=>
   go_wp2;go_meet;exact⟨by simp [*],HB1.o⟩
  |true=>
   go_wp2_with fail
   refine (endsWith _ 5 x [[115],[120],[122],[99,104],[115,104]] _ sZ (a2k [[115],[120],[122],[99,104],[115,104]] _ _) oZ dZ).mono ?_;rintro e v1 ⟨rfl,hb⟩;have Hv1:=qh (((HB1.o).alloc (HB1.o).size _).trans (hb.mono (by have h:=(HB1.o).size;simp;omega)));clear hb;rw [any5];go_wp2;go_meet;exact⟨by simp [*],Hv1.o⟩
 case rest=>
 obtain⟨rfl,hb⟩:=hcut
 have HB2:=qh hb
 clear hb HB1
 generalize hww:wc=w2 at *
 clear hww
 cases hc1:((y==[115])&&(P.ends x [115]||(P.ends x [120]||(P.ends x [122]||(P.ends x [99,104]||P.ends x [115,104])))))
 rotate_left
 ·have HZ:=qh (show P.rule x y=2 by rw [HR.o,N0.o,if_neg dZ,hc1];rfl);clear hc1;go_wp2;go_ret;exact⟨a4c (by rw [HZ.o];rfl),HB2.o⟩
 have N1:=qh hc1
 clear hc1
 go_upto_region 8 with fail
 go_cut [76] (fun c wx=>c=.bool ((y==[105,110,103])&&P.ends x [105,101])∧Below w.heap.size w wx)
 case first=>
  cases g1:(y==[105,110,103]) with
  |false=>
   go_wp2;go_meet;exact⟨by simp [*],HB2.o⟩
  |true=>
   go_wp2_with fail
   refine (endsWith _ 1 x [[105,101]] _ sZ (a2k [[105,101]] _ _) oZ dZ).mono ?_;rintro e v1 ⟨rfl,hb⟩;have Hv1:=qh (((HB2.o).alloc (HB2.o).size _).trans (hb.mono (by have h:=(HB2.o).size;simp;omega)));clear hb;rw [any1];go_wp2;go_meet;exact⟨by simp [*],Hv1.o⟩
 case rest=>
 obtain⟨rfl,hb⟩:=hcut
 have HB3:=qh hb
 clear hb HB2
 generalize hww:wc=w3 at *
 clear hww
 cases hc2:((y==[105,110,103])&&P.ends x [105,101])
 rotate_left
 ·have HZ:=qh (show P.rule x y=3 by rw [HR.o,N0.o,if_neg dZ,N1.o,if_neg dZ,hc2];rfl);clear hc2;go_wp2;go_ret;exact⟨a4c (by rw [HZ.o];rfl),HB3.o⟩
 have N2:=qh hc2
 clear hc2
 go_upto_region 10 with fail
 go_cut [84] (fun c wx=>c=.bool (cy&&!y0)∧Below w.heap.size w wx)
 case first=>
  cases cy with
  |false=>
   go_wp2;go_meet;exact⟨by simp [*],HB3.o⟩
  |true=>
   go_wp2;go_meet;exact⟨by simp [*],HB3.o⟩
 case rest=>
 obtain⟨rfl,hb⟩:=hcut
 have HB4:=qh hb
 clear hb HB3
 generalize hww:wc=w4 at *
 clear hww
 cases hc3:(cy&&!y0)
 rotate_left
 ·have HZ:=qh (show P.rule x y=4 by rw [HR.o,N0.o,if_neg dZ,N1.o,if_neg dZ,N2.o,if_neg dZ,hc3];rfl);clear hc3;go_wp2;go_ret;exact⟨a4c (by rw [HZ.o];rfl),HB4.o⟩
 have N3:=qh hc3
 clear hc3
 go_upto_region 12 with fail
 go_cut [91] (fun c wx=>c=.bool (decide (2≤x.length)&&(P.ends x [101]&&(!P.ends x [101,101]&&(!P.ends x [111,101]&&(!P.ends x [121,101]&&P.vow (y[0]'hy))))))∧Below w.heap.size w wx)
 case first=>
  by_cases g1:2≤x.length
  ·have g':(2:Int)≤(x.length:Int):=by omega
   have HG:=qh g1
   have HP5:=qh (show (decide (2≤x.length)&&(P.ends x [101]&&(!P.ends x [101,101]&&(!P.ends x [111,101]&&(!P.ends x [121,101]&&P.vow (y[0]'hy))))))=(P.ends x [101]&&(!(P.ends x [101,101]||(P.ends x [111,101]||P.ends x [121,101]))&&P.vow (y[0]'hy))) by
    rw [decide_eq_true HG.o]
    cases P.ends x [101]<;>cases P.ends x [101,101]<;>cases P.ends x [111,101]<;>cases P.ends x [121,101]<;>rfl)
   go_wp2_with fail
   refine (endsWith _ 1 x [[101]] _ sZ (a2k [[101]] _ _) oZ dZ).mono ?_;rintro e v1 ⟨rfl,hb⟩;have Hv1:=qh (((HB4.o).alloc (HB4.o).size _).trans (hb.mono (by have h:=(HB4.o).size;simp;omega)));clear hb;rw [any1]
   cases g2:P.ends x [101] with
   |false=>
    go_wp2;go_meet;exact⟨by rw [HP5.o];simp [*],Hv1.o⟩
   |true=>
    go_wp2_with fail
    refine (endsWith _ 3 x [[101,101],[111,101],[121,101]] _ sZ (a2k [[101,101],[111,101],[121,101]] _ _) oZ dZ).mono ?_;rintro e v2 ⟨rfl,hb⟩;have Hv2:=qh (((Hv1.o).alloc (Hv1.o).size _).trans (hb.mono (by have h:=(Hv1.o).size;simp;omega)));clear hb;rw [any3]
    cases g3:(P.ends x [101,101]||(P.ends x [111,101]||P.ends x [121,101])) with
    |true=>
     go_wp2;go_meet;exact⟨by rw [HP5.o];simp [*],Hv2.o⟩
    |false=>
     go_wp2;go_meet;exact⟨by rw [HP5.o];simp [*],Hv2.o⟩
  ·have g':¬(2:Int)≤(x.length:Int):=by omega
   go_wp2;go_meet;exact⟨by simp [*],HB4.o⟩
 case rest=>
 obtain⟨rfl,hb⟩:=hcut
 have HB5:=qh hb
 clear hb HB4
 generalize hww:wc=w5 at *
 clear hww
 cases hc4:(decide (2≤x.length)&&(P.ends x [101]&&(!P.ends x [101,101]&&(!P.ends x [111,101]&&(!P.ends x [121,101]&&P.vow (y[0]'hy))))))
 rotate_left
 ·have HZ:=qh (show P.rule x y=5 by rw [HR.o,N0.o,if_neg dZ,N1.o,if_neg dZ,N2.o,if_neg dZ,N3.o,if_neg dZ,hc4];rfl);clear hc4;go_wp2;go_ret;exact⟨a4c (by rw [HZ.o];rfl),HB5.o⟩
 have N4:=qh hc4
 clear hc4
 go_upto_region 14 with fail
 go_cut [108] (fun c wx=>c=.bool ((decide (P.a3s x=1)&&cl)&&P.vow (y[0]'hy))∧Below w.heap.size w wx)
 case first=>
  obtain⟨p,hp⟩:∃q,decide (P.a3s x=1)=q:=⟨_,rfl⟩;have f1:((P.a3s x:Int)==1)=p:=by rw [←hp,Bool.eq_iff_iff];simp;omega
  cases p with
  |false=>
   exact zq38
  |true=>
  cases cl with
  |false=>
   exact zq38
  |true=>
   exact zq38
 case rest=>
 obtain⟨rfl,hb⟩:=hcut
 have HB6:=qh hb
 clear hb HB5
 generalize hww:wc=w6 at *
 clear hww
 cases hc5:((decide (P.a3s x=1)&&cl)&&P.vow (y[0]'hy))
 rotate_left
 ·have HZ:=qh (show P.rule x y=6 by rw [HR.o,N0.o,if_neg dZ,N1.o,if_neg dZ,N2.o,if_neg dZ,N3.o,if_neg dZ,N4.o,if_neg dZ,hc5];rfl);clear hc5;go_wp2;go_ret;exact⟨a4c (by rw [HZ.o];rfl),HB6.o⟩
 have N5:=qh hc5
 clear hc5
 have HZ:=qh (show P.rule x y=0 by rw [HR.o,N0.o,if_neg dZ,N1.o,if_neg dZ,N2.o,if_neg dZ,N3.o,if_neg dZ,N4.o,if_neg dZ,N5.o];rfl)
 go_wp2
 go_ret
 exact⟨a4c (by rw [HZ.o];rfl),HB6.o⟩
theorem a6m (x y:Str) (w:World) (hx:x.length≤2^30) (hyl:y.length≤2^30) :
 Calls Tryz.prog 143 #[.string (S x),.string (S y)] w fun e w'=>e=.returned (.tuple #[.string (S (P.a4k x y).1),.bool (P.a4k x y).2])∧Below w.heap.size w w':=by
 have hj:P.a4k x y=(if P.isWord x&&P.isWord y then (if 24<(P.a6k x y).length then ([],false) else (P.a6k x y,true)) else ([],false)):=rfl
 have HYL:=qh (show P.isWord y=true→0<y.length from fun h=>by have:=P.c4t h;omega)
 have HJL:=qh (P.c8q x y)
 cases hqx:P.isWord x with
 |false=>
  have HJ:=qh (show P.a4k x y=([],false) by rw [hj,hqx];rfl);exact zq49
 |true=>
  cases hqy:P.isWord y with
  |false=>
   have HJ:=qh (show P.a4k x y=([],false) by rw [hj,hqx,hqy];rfl);exact zq49
  |true=>
   rw [hqx,hqy]at hj;have hy0:=HYL.o hqy
   have hjw:P.a6k x y=(match P.rule x y with
    |1=>x.take (x.length-1)++[105,101,115]
    |2=>x++[101,115]
    |3=>x.take (x.length-2)++[121,105,110,103]
    |4=>(x.take (x.length-1)++[105])++y
    |5=>x.take (x.length-1)++y
    |6=>(x++x.drop (x.length-1))++y
    |_=>x++y):=rfl
   have HJ:=qh hjw;have hle:=P.d5l x y;have HLN:=qh (P.d2j (w:=x) (x:=y));have H6:=qh (show P.rule x y=6→3≤x.length from P.c7d);have HJS:=qh (show P.a4k x y=if 24<(P.a6k x y).length then ([],false) else (P.a6k x y,true) from hj);clear hjw hj
   go_enter Tryz.func143,Tryz.ntmps143
   go_wp2_with (go_at_call 214;refine (c9s _ _ oZ).mono ?_;rintro e w' ⟨rfl,rfl⟩)
   refine (c8u x y _ hx hy0).mono ?_;rintro e w1 ⟨rfl,hb⟩;have HB:=qh hb;clear hb;obtain⟨r,hr⟩:∃r,P.rule x y=r:=⟨_,rfl⟩;rw [hr]at hle HJ HLN H6;rw [hr];clear hr;obtain rfl|rfl|rfl|rfl|rfl|rfl|rfl:r=0∨r=1∨r=2∨r=3∨r=4∨r=5∨r=6:=by omega
   ·go_upto_region 17 with fail
    have HV:=qh (show P.a6k x y=x++y by rw [HJ.o]<;>simp);rw [HV.o]at HJS;generalize x++y=z at *;exact zq5
   ·have hl:=HLN.o.1 rfl;have i1:(x.length:Int)-1=((x.length-1:Nat):Int):=by omega
    have i2:x.length-1≤x.length:=by omega
    go_upto_region 17 with fail
    have HV:=qh (show P.a6k x y=x.take (x.length-1)++[105,101,115] by rw [HJ.o]<;>simp);rw [HV.o]at HJS;generalize x.take (x.length-1)++[105,101,115]=z at *;exact zq5
   ·go_upto_region 17 with fail
    have HV:=qh (show P.a6k x y=x++[101,115] by rw [HJ.o]<;>simp);rw [HV.o]at HJS;generalize x++[101,115]=z at *;exact zq5
   ·have hl:=HLN.o.2.1 rfl;have i1:(x.length:Int)-2=((x.length-2:Nat):Int):=by omega
    have i2:x.length-2≤x.length:=by omega
    go_upto_region 17 with fail
    have HV:=qh (show P.a6k x y=x.take (x.length-2)++[121,105,110,103] by rw [HJ.o]<;>simp);rw [HV.o]at HJS;generalize x.take (x.length-2)++[121,105,110,103]=z at *;exact zq5
   ·have hl:=HLN.o.2.2.1 rfl;have i1:(x.length:Int)-1=((x.length-1:Nat):Int):=by omega
    have i2:x.length-1≤x.length:=by omega
    go_upto_region 17 with fail
    have HV:=qh (show P.a6k x y=x.take (x.length-1)++105::y by rw [HJ.o]<;>simp);rw [HV.o]at HJS;generalize x.take (x.length-1)++105::y=z at *;exact zq5
   ·have hl:=HLN.o.2.2.2 rfl;have i1:(x.length:Int)-1=((x.length-1:Nat):Int):=by omega
    have i2:x.length-1≤x.length:=by omega
    go_upto_region 17 with fail
    have HV:=qh (show P.a6k x y=x.take (x.length-1)++y by rw [HJ.o]<;>simp);rw [HV.o]at HJS;generalize x.take (x.length-1)++y=z at *;exact zq5
   ·have hl:=H6.o rfl;have i1:(x.length:Int)-1=((x.length-1:Nat):Int):=by omega
    have i2:x.length-1≤x.length:=by omega
    go_upto_region 17 with fail
    have HV:=qh (show P.a6k x y=x++(x.drop (x.length-1)++y) by rw [HJ.o]<;>simp);rw [HV.o]at HJS;generalize x++(x.drop (x.length-1)++y)=z at *;exact zq5
theorem a2w (s:Str) (w:World) (hs:s.length≤2^40) :
 Calls Tryz.prog 134 #[.string (S s)] w fun e w'=>e=.returned (.bool (s.all P.prn))∧w=w':=by
 go_enter Tryz.func134,Tryz.ntmps134
 go_wp2
 go_loop [3,6] (fun _ i=>∃k:Nat,k≤s.length∧i=.int .i64 k∧(s.take k).all P.prn=true) (fun _ i=>s.length-(intOf i).toNat)
 case atStart=>exact⟨0,by omega,rfl,by simp⟩
 case round=>
  obtain⟨k,hk,rfl,ha⟩:=hrel;have HA:=qh ha;clear ha
  by_cases hlt:k<s.length
  ·rcases Int.lt_or_le (s[k].toNat:Int) 32 with h1|h1
   ·have H:=qh h1;go_wp2;go_ret;exact⟨a0b (P.b4r hlt (P.d3o (.inl H.o))).symm,rfl⟩
   ·rcases Int.lt_or_le 126 (s[k].toNat:Int) with h2|h2
    ·have H:=qh h2;go_wp2;go_ret;exact⟨a0b (P.b4r hlt (P.d3o (.inr H.o))).symm,rfl⟩
    ·have HL:=qh (P.d4m h1 h2);exact zq76
  ·have HT:=qh (show s.all P.prn=true by rw [←List.take_of_length_le (l:=s) (i:=k) oZ];exact HA.o);go_wp2;go_ret;exact⟨a0b HT.o.symm,rfl⟩
theorem b4q (b:UInt8) (h:b.toNat<128):Utf8.encode (b.toNat:Int)=S [b]:=by
 have hv:Utf8.valid (b.toNat:Int)=true:=by
  unfold Utf8.valid;simp;omega
 unfold Utf8.encode;rw [hv];simp only [if_true,Int.toNat_natCast];rw [if_pos oZ];simp [S]
theorem c6q (s:Str) (w:World) (hs:s.length≤2^40) :
 Calls Tryz.prog 365 #[.string (S s)] w fun e w'=>e=.returned (.string (S (P.upper s)))∧∃n,w'=w.drewN n:=by
 cases s with
 |nil=>
  go_enter Tryz.func365,Tryz.ntmps365
  go_wp2;go_ret;exact⟨rfl,0,rfl⟩
 |cons b t=>
  have hn:((b::t:Str)==[])=false:=rfl;have hsl:t.length+1≤2^40:=hs;have j1:(1:Int)≤(t.length:Int)+1:=by omega
  have j2:¬9223372036854775807<1+t.length:=by omega
  clear hs
  by_cases h1:97≤(b.toNat:Int)
  ·by_cases h2:(b.toNat:Int)≤122
   ·have hl:=P.b6z h1 h2;have HU:=qh (show P.upper (b::t)=[b-32]++t by rw [P.c7s hl];rfl);obtain⟨h3,_⟩:=u8_sub hl;have hE:=b4q (b-32) oZ;rw [h3]at hE
    have e1:IntKind.i32.wrap (IntKind.u8.wrap (IntKind.u8.wrap ((b.toNat:Int)-97)+65))=(b.toNat:Int)-32:=by
     simp only [IntKind.wrap_u8,IntKind.wrap_i32];omega
    clear hl h3
    go_enter Tryz.func365,Tryz.ntmps365
    go_upto_region 2 with fail
    go_quiet (fail)
    go_wp2;go_ret;exact⟨a4d HU.o.symm,_,rfl⟩
   ·have HU:=qh (show P.upper (b::t)=b::t by exact P.c1w (P.b1e (.inr oZ)))
    go_enter Tryz.func365,Tryz.ntmps365
    go_wp2;go_ret;exact⟨a4d HU.o.symm,0,rfl⟩
  ·have HU:=qh (show P.upper (b::t)=b::t by exact P.c1w (P.b1e (.inl oZ)))
   go_enter Tryz.func365,Tryz.ntmps365
   go_wp2;go_ret;exact⟨a4d HU.o.symm,0,rfl⟩
theorem d3e (s:Str) (w:World) (hs:s.length≤2^40) :
 Calls Tryz.prog 375 #[.string (S s)] w fun e w'=>e=.returned (.string (S (P.a1f s)))∧∃n,w'=w.drewN n:=by
 cases s with
 |nil=>
  go_enter Tryz.func375,Tryz.ntmps375
  go_wp2;go_ret;exact⟨rfl,0,rfl⟩
 |cons b t=>
  have hn:((b::t:Str)==[])=false:=rfl;have hsl:t.length+1≤2^40:=hs;have j1:(1:Int)≤(t.length:Int)+1:=by omega
  have j2:¬9223372036854775807<1+t.length:=by omega
  clear hs
  by_cases h1:65≤(b.toNat:Int)
  ·by_cases h2:(b.toNat:Int)≤90
   ·have hl:=P.d4p h1 h2;have HU:=qh (show P.a1f (b::t)=[b+32]++t by rw [P.c0l hl];rfl);obtain⟨h3,_⟩:=u8_add hl;have hE:=b4q (b+32) oZ;rw [h3]at hE
    have e1:IntKind.i32.wrap (IntKind.u8.wrap (IntKind.u8.wrap ((b.toNat:Int)-65)+97))=(b.toNat:Int)+32:=by
     simp only [IntKind.wrap_u8,IntKind.wrap_i32];omega
    clear hl h3
    go_enter Tryz.func375,Tryz.ntmps375
    go_upto_region 2 with fail
    go_quiet (fail)
    go_wp2;go_ret;exact⟨a4d HU.o.symm,_,rfl⟩
   ·have HU:=qh (show P.a1f (b::t)=b::t by exact P.b4m (P.d2z (.inr oZ)))
    go_enter Tryz.func375,Tryz.ntmps375
    go_wp2;go_ret;exact⟨a4d HU.o.symm,0,rfl⟩
  ·have HU:=qh (show P.a1f (b::t)=b::t by exact P.b4m (P.d2z (.inl oZ)))
   go_enter Tryz.func375,Tryz.ntmps375
   go_wp2;go_ret;exact⟨a4d HU.o.symm,0,rfl⟩
def a4m (b:Nat) (s:P.St) (w:World) (e:Ending) (w':World):Prop:=e=.returned (.tuple #[])∧a0u b s w'∧Chg (fun x=>x=b) w w'
def StC (b:Nat) (s:P.St) (w v:World):Prop:=a0u b s v∧Chg (fun x=>x=b) w v
theorem StC.text {b:Nat} {s:P.St} {w v:World} (h:StC b s w v) (t:Str):StC b { s with text:=t } w (v.setCell ⟨b,0,none⟩ (.string (S t))):=⟨h.1.text t,h.2.put _⟩
theorem StC.a0t {b:Nat} {s:P.St} {w v:World} (h:StC b s w v) (x:Bool):StC b { s with a0t:=x } w (v.setCell ⟨b,1,none⟩ (.bool x)):=⟨h.1.a0t x,h.2.put _⟩
theorem StC.a3j {b:Nat} {s:P.St} {w v:World} (h:StC b s w v) (x:Bool):StC b { s with a3j:=x } w (v.setCell ⟨b,2,none⟩ (.bool x)):=⟨h.1.a3j x,h.2.put _⟩
theorem StC.cap {b:Nat} {s:P.St} {w v:World} (h:StC b s w v) (x:Int):StC b { s with cap:=x } w (v.setCell ⟨b,3,none⟩ (.int .i64 x)):=⟨h.1.cap x,h.2.put _⟩
theorem StC.word {b:Nat} {s:P.St} {w v:World} (h:StC b s w v) (x:Nat):StC b { s with word:=x } w (v.setCell ⟨b,4,none⟩ (.int .i64 (x:Int))):=⟨h.1.word x,h.2.put _⟩
theorem StC.below {b:Nat} {s:P.St} {w v v':World} (h:StC b s w v) (hb:Below v.heap.size v v'):StC b s w v':=⟨h.1.below hb,h.2.trans (Below.chg hb _)⟩
theorem StC.drewN {b:Nat} {s:P.St} {w v:World} (h:StC b s w v) (n:Nat):StC b s w (v.drewN n):=h.below (below_drewN bZ n)
theorem d2s (b:Nat) (s:P.St) (t:Str) (w:World) (hb:a0u b s w) (hc:0≤s.cap∧s.cap≤2) (hl:s.text.length≤2^30) (ht:t.length≤2^30) :
 Calls Tryz.prog 362 #[.pointer (some ⟨b,0,none⟩),.string (S t)] w (a4m b (P.put s t) w):=by
 obtain⟨tx,jn,gl,cp,wd⟩:=s
 simp only at hc hl
 have H0:=qh (show StC b ⟨tx,jn,gl,cp,wd⟩ w w from⟨hb,Chg.refl _ _⟩)
 have h3:cp=0∨cp=1∨cp=2:=by omega
 have hul:=P.b1x t
 have hll:=P.b9h t
 have j1:¬9223372036854775807<tx.length+1+t.length:=by omega
 have j2:¬9223372036854775807<tx.length+t.length:=by omega
 have j3:¬9223372036854775807<tx.length+1+(P.upper t).length:=by omega
 have j4:¬9223372036854775807<tx.length+(P.upper t).length:=by omega
 have j5:¬9223372036854775807<tx.length+1+(P.a1f t).length:=by omega
 have j6:¬9223372036854775807<tx.length+(P.a1f t).length:=by omega
 have j7:¬9223372036854775807<tx.length+1:=by omega
 have HTL:=qh (show t.length≤2^40 by omega)
 clear hul hll hc hb
 cases jn
 ·skip;obtain⟨⟨a0,a1,a2,a3,a4⟩,⟨f0,f1,f2,f3,f4⟩,hlt⟩:=H0.o.1;simp only at a0 a1 a2 a3 a4
  go_enter Tryz.func362,Tryz.ntmps362
  go_upto_region 2 with fail
  have H1:=qh (show StC b ⟨tx++[32],false,gl,cp,wd⟩ w (w.setCell ⟨b,0,none⟩ (.string (S (tx++[32])))) from H0.o.text (tx++[32]));clear H0;clear a0 a1 a2 a3 a4 f0 f1 f2 f3 f4 hlt;generalize (World.setCell _ _ _)=v1 at *;obtain⟨⟨a0,a1,a2,a3,a4⟩,⟨f0,f1,f2,f3,f4⟩,hlt⟩:=H1.o.1;simp only at a0 a1 a2 a3 a4
  go_upto_region 3 with fail
  have H2:=qh (show StC b ⟨tx++[32],false,gl,cp,tx.length+1⟩ w (v1.setCell ⟨b,4,none⟩ (.int .i64 ((tx.length:Int)+1))) from H1.o.word (tx.length+1));clear H1;clear a0 a1 a2 a3 a4 f0 f1 f2 f3 f4 hlt;generalize (World.setCell _ _ _)=v2 at *;obtain⟨⟨a0,a1,a2,a3,a4⟩,⟨f0,f1,f2,f3,f4⟩,hlt⟩:=H2.o.1;simp only at a0 a1 a2 a3 a4
  rcases h3 with rfl|rfl|rfl
  ·skip
   go_upto_region 9 with fail
   have H4:=qh (show StC b ⟨tx++32::t,false,gl,0,tx.length+1⟩ w (v2.setCell ⟨b,0,none⟩ (.string (S (tx++32::t)))) from H2.o.text (tx++32::t));clear H2;clear a0 a1 a2 a3 a4 f0 f1 f2 f3 f4 hlt;generalize (World.setCell _ _ _)=v4 at *;obtain⟨⟨a0,a1,a2,a3,a4⟩,⟨f0,f1,f2,f3,f4⟩,hlt⟩:=H4.o.1;simp only at a0 a1 a2 a3 a4;go_wp2
   first|go_end0|(refine bodyPost_ret (results_none rfl _ _ _) rfl ?_)
   have H5:=H4.o.cap 0;refine⟨rfl,?_,H5.2⟩;have he:P.put ⟨tx,false,gl,0,wd⟩ t=⟨(tx++[32])++t,false,gl,0,(tx++[32]).length⟩:=rfl;rw [he];have h6:=H5.1
   simpa using h6
  ·skip
   go_upto_region 8 with (go_at_call 365;refine (c6q _ _ HTL.o).mono ?_;rintro e w' ⟨rfl,n,rfl⟩)
   have H3:=qh (show StC b ⟨tx++[32],false,gl,1,tx.length+1⟩ w (v2.drewN n) from H2.o.drewN n);clear H2;clear a0 a1 a2 a3 a4 f0 f1 f2 f3 f4 hlt;generalize (World.drewN _ _)=v3 at *;obtain⟨⟨a0,a1,a2,a3,a4⟩,⟨f0,f1,f2,f3,f4⟩,hlt⟩:=H3.o.1;simp only at a0 a1 a2 a3 a4
   go_upto_region 9 with fail
   have H4:=qh (show StC b ⟨tx++32::P.upper t,false,gl,1,tx.length+1⟩ w (v3.setCell ⟨b,0,none⟩ (.string (S (tx++32::P.upper t)))) from H3.o.text (tx++32::P.upper t));clear H3;clear a0 a1 a2 a3 a4 f0 f1 f2 f3 f4 hlt;generalize (World.setCell _ _ _)=v4 at *;obtain⟨⟨a0,a1,a2,a3,a4⟩,⟨f0,f1,f2,f3,f4⟩,hlt⟩:=H4.o.1;simp only at a0 a1 a2 a3 a4;go_wp2
   first|go_end0|(refine bodyPost_ret (results_none rfl _ _ _) rfl ?_)
   have H5:=H4.o.cap 0;refine⟨rfl,?_,H5.2⟩;have he:P.put ⟨tx,false,gl,1,wd⟩ t=⟨(tx++[32])++P.upper t,false,gl,0,(tx++[32]).length⟩:=rfl;rw [he];have h6:=H5.1
   simpa using h6
  ·skip
   go_upto_region 8 with (go_at_call 375;refine (d3e _ _ HTL.o).mono ?_;rintro e w' ⟨rfl,n,rfl⟩)
   have H3:=qh (show StC b ⟨tx++[32],false,gl,2,tx.length+1⟩ w (v2.drewN n) from H2.o.drewN n);clear H2;clear a0 a1 a2 a3 a4 f0 f1 f2 f3 f4 hlt;generalize (World.drewN _ _)=v3 at *;obtain⟨⟨a0,a1,a2,a3,a4⟩,⟨f0,f1,f2,f3,f4⟩,hlt⟩:=H3.o.1;simp only at a0 a1 a2 a3 a4
   go_upto_region 9 with fail
   have H4:=qh (show StC b ⟨tx++32::P.a1f t,false,gl,2,tx.length+1⟩ w (v3.setCell ⟨b,0,none⟩ (.string (S (tx++32::P.a1f t)))) from H3.o.text (tx++32::P.a1f t));clear H3;clear a0 a1 a2 a3 a4 f0 f1 f2 f3 f4 hlt;generalize (World.setCell _ _ _)=v4 at *;obtain⟨⟨a0,a1,a2,a3,a4⟩,⟨f0,f1,f2,f3,f4⟩,hlt⟩:=H4.o.1;simp only at a0 a1 a2 a3 a4;go_wp2
   first|go_end0|(refine bodyPost_ret (results_none rfl _ _ _) rfl ?_)
   have H5:=H4.o.cap 0;refine⟨rfl,?_,H5.2⟩;have he:P.put ⟨tx,false,gl,2,wd⟩ t=⟨(tx++[32])++P.a1f t,false,gl,0,(tx++[32]).length⟩:=rfl;rw [he];have h6:=H5.1
   simpa using h6
 ·skip;obtain⟨⟨a0,a1,a2,a3,a4⟩,⟨f0,f1,f2,f3,f4⟩,hlt⟩:=H0.o.1;simp only at a0 a1 a2 a3 a4
  go_enter Tryz.func362,Tryz.ntmps362
  go_upto_region 3 with fail
  have H2:=qh (show StC b ⟨tx,true,gl,cp,tx.length⟩ w (w.setCell ⟨b,4,none⟩ (.int .i64 (tx.length:Int))) from H0.o.word (tx.length));clear H0;clear a0 a1 a2 a3 a4 f0 f1 f2 f3 f4 hlt;generalize (World.setCell _ _ _)=v2 at *;obtain⟨⟨a0,a1,a2,a3,a4⟩,⟨f0,f1,f2,f3,f4⟩,hlt⟩:=H2.o.1;simp only at a0 a1 a2 a3 a4
  rcases h3 with rfl|rfl|rfl
  ·skip
   go_upto_region 9 with fail
   have H4:=qh (show StC b ⟨(tx)++t,true,gl,0,tx.length⟩ w (v2.setCell ⟨b,0,none⟩ (.string (S ((tx)++t)))) from H2.o.text ((tx)++t));clear H2;clear a0 a1 a2 a3 a4 f0 f1 f2 f3 f4 hlt;generalize (World.setCell _ _ _)=v4 at *;obtain⟨⟨a0,a1,a2,a3,a4⟩,⟨f0,f1,f2,f3,f4⟩,hlt⟩:=H4.o.1;simp only at a0 a1 a2 a3 a4;go_wp2
   first|go_end0|(refine bodyPost_ret (results_none rfl _ _ _) rfl ?_)
   have H5:=H4.o.cap 0;refine⟨rfl,?_,H5.2⟩;have he:P.put ⟨tx,true,gl,0,wd⟩ t=⟨(tx)++t,true,gl,0,(tx).length⟩:=rfl;rw [he];have h6:=H5.1
   simpa using h6
  ·skip
   go_upto_region 8 with (go_at_call 365;refine (c6q _ _ HTL.o).mono ?_;rintro e w' ⟨rfl,n,rfl⟩)
   have H3:=qh (show StC b ⟨tx,true,gl,1,tx.length⟩ w (v2.drewN n) from H2.o.drewN n);clear H2;clear a0 a1 a2 a3 a4 f0 f1 f2 f3 f4 hlt;generalize (World.drewN _ _)=v3 at *;obtain⟨⟨a0,a1,a2,a3,a4⟩,⟨f0,f1,f2,f3,f4⟩,hlt⟩:=H3.o.1;simp only at a0 a1 a2 a3 a4
   go_upto_region 9 with fail
   have H4:=qh (show StC b ⟨(tx)++P.upper t,true,gl,1,tx.length⟩ w (v3.setCell ⟨b,0,none⟩ (.string (S ((tx)++P.upper t)))) from H3.o.text ((tx)++P.upper t));clear H3;clear a0 a1 a2 a3 a4 f0 f1 f2 f3 f4 hlt;generalize (World.setCell _ _ _)=v4 at *;obtain⟨⟨a0,a1,a2,a3,a4⟩,⟨f0,f1,f2,f3,f4⟩,hlt⟩:=H4.o.1;simp only at a0 a1 a2 a3 a4;go_wp2
   first|go_end0|(refine bodyPost_ret (results_none rfl _ _ _) rfl ?_)
   have H5:=H4.o.cap 0;refine⟨rfl,?_,H5.2⟩;have he:P.put ⟨tx,true,gl,1,wd⟩ t=⟨(tx)++P.upper t,true,gl,0,(tx).length⟩:=rfl;rw [he];have h6:=H5.1
   simpa using h6
  ·skip
   go_upto_region 8 with (go_at_call 375;refine (d3e _ _ HTL.o).mono ?_;rintro e w' ⟨rfl,n,rfl⟩)
   have H3:=qh (show StC b ⟨tx,true,gl,2,tx.length⟩ w (v2.drewN n) from H2.o.drewN n);clear H2;clear a0 a1 a2 a3 a4 f0 f1 f2 f3 f4 hlt;generalize (World.drewN _ _)=v3 at *;obtain⟨⟨a0,a1,a2,a3,a4⟩,⟨f0,f1,f2,f3,f4⟩,hlt⟩:=H3.o.1;simp only at a0 a1 a2 a3 a4
   go_upto_region 9 with fail
   have H4:=qh (show StC b ⟨(tx)++P.a1f t,true,gl,2,tx.length⟩ w (v3.setCell ⟨b,0,none⟩ (.string (S ((tx)++P.a1f t)))) from H3.o.text ((tx)++P.a1f t));clear H3;clear a0 a1 a2 a3 a4 f0 f1 f2 f3 f4 hlt;generalize (World.setCell _ _ _)=v4 at *;obtain⟨⟨a0,a1,a2,a3,a4⟩,⟨f0,f1,f2,f3,f4⟩,hlt⟩:=H4.o.1;simp only at a0 a1 a2 a3 a4;go_wp2
   first|go_end0|(refine bodyPost_ret (results_none rfl _ _ _) rfl ?_)
   have H5:=H4.o.cap 0;refine⟨rfl,?_,H5.2⟩;have he:P.put ⟨tx,true,gl,2,wd⟩ t=⟨(tx)++P.a1f t,true,gl,0,(tx).length⟩:=rfl;rw [he];have h6:=H5.1
   simpa using h6
theorem stGlue (b:Nat) (s:P.St) (t:Str) (w:World) (hb:a0u b s w) (hc:0≤s.cap∧s.cap≤2) (hl:s.text.length≤2^30) (ht:t.length≤2^30) :
 Calls Tryz.prog 363 #[.pointer (some ⟨b,0,none⟩),.string (S t)] w (a4m b (P.a7j s t) w):=by
 obtain⟨tx,jn,gl,cp,wd⟩:=s
 simp only at hc hl
 have HB:=qh hb
 obtain⟨⟨a0,a1,a2,a3,a4⟩,⟨f0,f1,f2,f3,f4⟩,hlt⟩:=hb
 simp only at a0 a1 a2 a3 a4
 cases gl
 ·go_enter Tryz.func363,Tryz.ntmps363
  go_wp2_with fail
  refine (d2s b ⟨tx,jn,false,cp,wd⟩ t _ HB.o hc hl ht).mono ?_;rintro e w1 ⟨rfl,hb1,hc1⟩;have HB1:=qh hb1;have HC1:=qh hc1;obtain⟨⟨_,_,c2,_,_⟩,_,hl1⟩:=hb1;clear hc1 a0 a1 a2 a3 a4 f0 f1 f2 f3 f4;have c2':w1.cell? ⟨b,2,none⟩=some (.bool false):=c2;clear c2;go_wp2
  first|go_end0|(refine bodyPost_ret (results_none rfl _ _ _) rfl ?_)
  exact⟨rfl,HB1.o,HC1.o⟩
 ·have HB0:=qh (HB.o.a0t true)
  go_enter Tryz.func363,Tryz.ntmps363
  go_wp2_with fail
  refine (d2s b ⟨tx,true,true,cp,wd⟩ t _ HB0.o hc hl ht).mono ?_;rintro e w1 ⟨rfl,hb1,hc1⟩;have HB1:=qh hb1;have HC1:=qh ((Chg.put (Chg.refl _ w) (.bool true)).trans hc1);obtain⟨⟨_,_,c2,_,c4⟩,⟨_,_,_,_,g4⟩,hl1⟩:=hb1;clear hc1 a0 a1 a2 a3 a4 f0 f1 f2 f3 f4;have c2':w1.cell? ⟨b,2,none⟩=some (.bool true):=c2;clear c2;go_wp2
  first|go_end0|(refine bodyPost_ret (results_none rfl _ _ _) rfl ?_)
  exact⟨rfl,HB1.o.word wd,HC1.o.put _⟩
end Go.Proofs.YtggfdnopminemaaGreatDoor
