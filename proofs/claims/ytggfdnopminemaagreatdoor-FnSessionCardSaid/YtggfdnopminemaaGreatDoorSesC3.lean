/- Plain: what a command. -/
import Derived.Test.YtggfdnopminemaaGreatDoorSesM
set_option linter.all false
namespace Go.Proofs.YtggfdnopminemaaGreatDoor.P
open Go.Proofs.Tryz
variable {line more word:Bs} {o:List Int} {g:LogT} {s:Ses}
theorem c6g {d:Dic} {t:Tr} {e:Ent} (h:(a3f d t e).2=true):trans (a3f d t e).1.1.1 (a3f d t e).1.1.2=true:=by
 unfold a3f at h⊢
 split at h
 .rename_i hc
  rw [if_pos hc];simp only [Bool.and_eq_true]at hc;exact c0v hc.2.2 (a1y hc.1).2.2
 .cases h
theorem b9j (h:trans s.1 s.2=true):trans (a2t s o).1.1 (a2t s o).1.2=true:=by
 unfold a2t
 split
 .rename_i hc
  simp only [Bool.and_eq_true]at hc;exact c0v hc.2 (a1y h).2.2
 .exact h
theorem c9z (h:trans s.1 s.2=true):trans (outl s word o).1.1 (outl s word o).1.2=true:=by
 unfold outl
 split
 .exact a7c h
 .split
  .exact b9j h
  .exact h
theorem c5c (h:trans s.1 s.2=true):trans (a5r s word more).1.1 (a5r s word more).1.2=true:=by
 unfold a5r
 split
 .exact h
 .exact c9z h
theorem c0k (h:trans s.1 s.2=true):trans (a1h s more).1.1 (a1h s more).1.2=true:=by
 unfold a1h
 split
 .exact h
 .split
  .exact h
  .split
   .rename_i hc;exact c6g hc
   .exact h
theorem c5b (h:trans s.1 s.2=true):trans (alone s word).1.1 (alone s word).1.2=true:=by
 unfold alone
 split
 .exact a7c h
 .split
  .exact h
  .split
   .exact h
   .split<;>exact h
theorem b9v (h:trans s.1 s.2=true):trans (a5o s more).1.1 (a5o s more).1.2=true:=by
 unfold a5o
 split
 .exact a7c h
 .exact h
theorem c9y (h:trans s.1 s.2=true):trans (args s word more).1.1 (args s word more).1.2=true:=by
 unfold args
 split
 .exact b9v h
 .split
  .exact c5c h
  .split
   .exact c0k h
   .split
    .exact h
    .split
     .exact h
     .split<;>exact h
theorem b2e (h:trans s.1 s.2=true):trans (cmd s line).1.1 (cmd s line).1.2=true:=by
 unfold cmd
 split
 .exact c5b h
 .exact c9y h
theorem a2y (h:a9p s g=true):trans s.1 s.2=true/\a0p g.1 g.2.1 g.2.2=true:=by
 unfold a9p sess at h
 simpa only [Bool.and_eq_true] using h
theorem b0g (o:Option Bs):(a2p o).length<=200:=by
 unfold a2p
 split
 .decide
 .split
  .decide
  .omega
theorem b6t (h:a9p s g=false):exec s g line=((s,g),wNo):=by unfold exec;rw [h];rfl
theorem b2o (h:a9p s g=true) (h2:good line []=false):exec s g line=((s,g),wBad):=by unfold exec;rw [h,h2];rfl
theorem a8x (h:a9p s g=true) (h2:good line []=true) (h3:g.2.2=60):exec s g line=((s,g),d6x):=by
 unfold exec;rw [h,h2,if_neg dZ,if_neg dZ,if_pos h3]
theorem b2f (h:a9p s g=true) (h2:good line []=true) (h3:g.2.2≠60):exec s g line=(((cmd s line).1,a9z g line (a2p (cmd s line).2)),a2p (cmd s line).2):=by
 unfold exec;rw [h,h2,if_neg dZ,if_neg dZ,if_neg h3]
def Fit (s:Ses) (g:LogT):Prop:=s.1.length<=2^20/\(∀e∈s.1,e.1.length<=2^20)/\(∀e∈s.1,e.2.length<=2^30)/\s.2.1.length<=2^20/\g.1.length<=2^20/\g.2.1.length<=2^20
theorem c7q {d p:Bs} {n:Int} {c r:Bs} (h:a0p d p n=true):(appS d p n c r).1.length<=40000:=by
 obtain⟨h1,h2,h3⟩:=a7l h;unfold appS
 split
 .show p.length<=_;omega
 .rename_i hg
  split
  .show p.length<=_;omega
  .rename_i h6
   have h7:n≠60:=by simpa using h6
   have hg2:good c r=true:=by simpa [h] using hg
   have:=(a4x (k:=n.toNat) oZ hg2).1;simp only [List.length_append];omega
theorem d8m (h:Fit s g):Fit (exec s g line).1.1 (exec s g line).1.2:=by
 by_cases h1:a9p s g=true
 .by_cases h2:good line []=true
  .by_cases h3:g.2.2=60
   .rw [a8x h1 h2 h3];exact h
   .rw [b2f h1 h2 h3];obtain⟨ht,hv⟩:=a2y h1;have hk:=b2e (line:=line) ht;have hd:=b1a hk;have hs:=(a1y hk).1;have hl:=a4l hd;refine⟨?_,?_,?_,?_,h.2.2.2.2.1,?_⟩
    .have:=hl.1;show (cmd s line).1.1.length<=_;omega
    .exact λe he=>by have:=(b0b (hl.2.1 e he)).2.1;omega
    .exact λe he=>Nat.le_trans (b5m hd e he) dZ
    .have:=a4n (d1o hs).2.1;show (cmd s line).1.2.1.length<=_;omega
    .exact Nat.le_trans (c7q hv) dZ
  .rw [b2o h1 (by simpa using h2)];exact h
 .rw [b6t (by simpa using h1)];exact h
end Go.Proofs.YtggfdnopminemaaGreatDoor.P
namespace Go.Proofs.YtggfdnopminemaaGreatDoor
open Go.Proofs.Tryz
open Go Go.RowKit
set_option maxHeartbeats 8000000
set_option maxRecDepth 100000
variable {ns:List Int} {o1 o2:Option Nat} {nu:Go.Value} {v v' wr:Go.World}
theorem c8s (u:Value) (l:List Int) (w:World) (hu:IntR w u l) (hl:l.length<=2^30) :
 Cz 126 #[u] w (d5i l w):=by
 refine zm7 ?_;intro i0 hi hz0 hz1 hz2 HSRC HB HOWN;obtain⟨ad,cap,rfl,_,_⟩:=hu;go_enter func126,ntmps126;go_wp2_with (at_builtin;refine a0z rfl _ _ 33 rfl w.heap.size 3 i0 (.int .i64 0) 1 8 underlying33 hi hz0 hz1 hz2 rfl dZ _ 0 [] rfl HOWN.o _ l.length (ints l) rfl HSRC.o ?_ ?_ sZ ?_)
 .unfold maxLen;omega
 .omega
 intro v' w' hown hgr _;refine zm65 ?_;intro HOW HBB;clear hown hgr;go_wp2;go_ret;refine⟨_,rfl,?_,HBB.o⟩;exact HOW.o
theorem a9d (dv sv:Value) (l:P.Dic) (st:List Int) (t:Str) (k:Int) (w:World) (hu:EntR w dv l) (hs:IntR w sv st) (hm:Small l) (hst:st.length<=2^20) (ht:t.length<=2^30) :
 Cz 233 #[.agg #[dv],a0v sv t,.int .i64 k] w (b6a (P.a6a l (st,t) k) w):=by
 obtain⟨W0,hW0⟩:∃v,((((w.alloc (.cells #[dv] 26)).alloc (.cells #[sv,.string (S t)] 35)).alloc (.cells #[.slice none 0 0,.string (S [])] 35)).alloc (.cells #[.int .i64 0,.string (S [])] 55))=v:=⟨_,rfl⟩
 have hb0:Bl w W0:=by rw [<-hW0];exact ((((Below.refl w.heap.size w).alloc lZ _).alloc sZ _).alloc (by simp;omega) _).alloc (by simp;omega) _
 have hz0':W0.heap.size=w.heap.size+4:=by rw [<-hW0];simp
 have hx0:PrBx w.heap.size sv t dv W0:=by
  exact zq54
 have HU:=qh (hu.below hb0);have HST:=qh (hs.below hb0);have HB0:=qh hb0
 have HX:=qh hx0;have HZ0:=qh hz0'
 clear hb0 hz0'
 obtain⟨ad,cap,rfl,_,_⟩:=hu
 obtain⟨sd,sc,rfl,_,_⟩:=hs
 unfold a0v
 go_enter func233,ntmps233
 go_upto_region 1 with (fail)
 try rw [hW0]
 clear hW0
 obtain⟨i0,hi,hz0,hz1,hz2⟩:=info_parts a2n
 obtain⟨⟨_,k0⟩,⟨k1,k2,k3,_⟩,_,_⟩:=hx0
 go_wp2_with fail
 refine (c4r _ _ l st t _ HU.o HST.o hm).mono ?_
 rintro e w1 ⟨rfl,hb⟩
 have HB1:=qh hb;have HX1:=qh (HX.o.below hb);have HST1:=qh (HST.o.below hb);have HU1:=qh (HU.o.below hb)
 clear hb k0 k1 k2 k3
 obtain⟨⟨_,k0⟩,⟨_,k1,k2,_,_⟩,⟨_,k3,k4,k7,k8⟩,⟨_,k5,k6,k9,k10⟩⟩:=HX1.o
 have HP:Hq (P.a6a l (st,t) k=if P.trans l (st,t)&&P.a0q k then P.b3w l (st,t) k else ((P.tr0,(0,[])),false)):=⟨rfl⟩
 generalize P.trans l (st,t)=q at *
 cases q
 .exact zq183
 .go_wp2_with fail
  refine (c3u _ _).mono ?_;rintro e w2 ⟨rfl,rfl⟩;generalize P.a0q k=q at *
  cases q
  .exact zq183
  .rw [Bool.and_self,if_pos rfl]at HP;have HBW:=qh (HB0.o.trans (HB1.o.mono HB0.o.size));have hzz:w.heap.size+4<=w1.heap.size:=by have h1:=HB1.o.size;have h2:=HZ0.o;omega
   clear HB1 HX HU HST HB0 HZ0 k3 k4 k5 k6 k7 k8 k9 k10
   go_wp2_with fail
   refine (c8s _ st _ HST1.o oZ).mono ?_;rintro e x1 ⟨u,rfl,ho,hb⟩;have GB1:=qh hb;have GX1:=qh (HX1.o.below hb);have HOW:=qh ho;obtain⟨ua,uc,rfl⟩:=a0h ho;have hz1':=hb.size;clear k0 k1 k2 ho hb;have HOW2:=qh (HOW.o.alloc (.cells #[.int .i64 k] 3))
   go_wp2_with (at_builtin;refine wpList_append_own _ rfl _ _ 33 rfl w1.heap.size 3 i0 (.int .i64 0) 1 8 underlying33 hi hz0 hz1 hz2 rfl dZ (.slice ua st.length uc) st.length (ints st) rfl HOW2.o ⟨x1.heap.size,0,none⟩ 1 1 [.int .i64 k] rfl rfl ?_ ?_ ?_ ?_ ?_ ?_)
   all_goals first|exact⟨rfl,rfl⟩|(intro z hz;simp only [List.mem_cons,List.not_mem_nil,or_false]at hz;subst hz;rfl)|(unfold maxLen;omega)|omega|(simp;omega)|(intro i z hz;rcases i with _|i;(injection hz with hz;subst hz;rw [add0];go_simp);cases hz)|skip
   intro u4 w4 hown hgr _;have R:=qh (b5z HOW.o GB1.o 3 hown hgr);have HX4:=qh (HX1.o.below R.o.2);have hz4:=R.o.2.size;clear hown hgr;obtain⟨va,vc,rfl⟩:=a0h R.o.1;have HU4:=qh (HU1.o.below R.o.2)
   go_upto_if 30 with fail
   go_cut [9] (λu wx=>(∃a c,u=.slice a (P.next st k).length c)/\OwnK w1.heap.size wx u (P.next st k)/\Bl w1 wx)
   case first=>
    by_cases hk:k=1024
    .subst hk;refine zm45 ?_;intro HN HL i1;obtain⟨m,hm⟩:∃m,st.length-1=m:=⟨_,rfl⟩;rw [hm]at HL;have HN2:=qh (show P.next st 1024=st.take m by unfold P.next;rw [if_pos rfl,hm]);have HMX:=qh (show max ((st.length:Int)-1) 0=(m:Int) by omega);have i7:IntKind.i64.wrap ((st.length:Int)-1)=(st.length:Int)-1:=by rw [IntKind.wrap_i64];omega
     have hbd:=(Below.refl w4.heap.size w4).drew;have HT0:=qh (HX4.o.2.1.below hbd);have HST5:=qh ((HST1.o.below R.o.2).below hbd);have HB5:=qh (R.o.2.trans (hbd.mono hz4));clear hbd;go_upto_region 5 with fail;refine wp_region_held_drew (S:=TBx (w.heap.size+1) (.slice sd st.length sc) t) kZ HT0.o (λhS0=>?_);generalize w4.drew=v1 at *;refine tk16 0 hS0 ?_;refine tk16 1 hS0 ?_;refine tk16 3 hS0 ?_;refine tk16 4 hS0 ?_;refine tk16 5 hS0 ?_;refine tk16 6 hS0 ?_;refine trd 2 λK hK=>?_
     .go_simp;refine (c8s _ st _ HST5.o oZ).mono ?_;rintro e x2 ⟨u,rfl,ho,hb⟩;obtain⟨ya,yc,rfl⟩:=a0h ho;have HOY:=qh (a2e ho HB5.o.size);have HBY:=bt HB5 hb;refine zm60 ?_;intro hS1;clear hK K hS0 ho hb;refine zm0 ?_;refine trd 7 λK hK=>?_;go_simp;refine (l1Most _ _ _).mono ?_;rintro e x3 ⟨rfl,rfl⟩;refine hK.out _ _ hS1 (λhS2=>?_);clear hK K hS1;refine zm0 ?_;rw [HMX.o];have hyc:=(a2f HOY.o oZ).cap;have i5:(m:Int)<=(yc:Int):=by omega
      have i6:m<=yc:=by omega
      have HR:=qh (show OwnK w1.heap.size x3 (.slice ya m yc) (P.next st 1024) by
       rw [HN2.o]
       by_cases h0:st=[]
       .subst h0;have hm0:m=0:=by simp at hm;omega
        subst hm0;exact HOY.o
       .exact c1z HOY.o h0 oZ)
      refine tk16 8 hS2 ?_;refine tk16 9 hS2 ?_;refine wpAnyH_done kZ ?_ _;clear hS2;go_wp2;go_meet;exact⟨⟨ya,yc,by rw [HL.o]⟩,HR.o,HBY.o⟩
    .have i1:(k==1024)=false:=by simpa using hk
     have HN:=qh (show st++[k]=P.next st k by unfold P.next;rw [if_neg hk]);have HR:=qh (show OwnK w1.heap.size w4 (.slice va (st++[k]).length vc) (P.next st k) by rw [<-HN.o];exact R.o.1);rw [HN.o]at HR⊢;go_wp2;go_meet;exact⟨⟨_,_,rfl⟩,HR.o,R.o.2⟩
   case rest=>
    obtain⟨⟨a,c,rfl⟩,ho,hbc⟩:=hcut;have GX:=qh (HX1.o.below hbc);have GU:=qh (HU1.o.below hbc);have GB:=qh hbc;have hzc:=hbc.size;refine zm68 ?_;intro HN hnl hsl;generalize P.next st k=nx at *;have HI:=qh (a2f ho oZ);have HO4:=qh ho;obtain⟨⟨_,k0⟩,_,_,_⟩:=GX.o;clear ho hbc;go_wp2_with fail;refine (a4v _ _ l nx _ GU.o HI.o hm).mono ?_;rintro e w5 ⟨rfl,hb5⟩;generalize P.scr l nx=r at *;obtain⟨r1,r2⟩:=r;simp only at hsl;have HX5:=qh (GX.o.below hb5);have HB5:=qh (GB.o.trans (hb5.mono hzc));have HO5:=qh (a0i HO4.o hb5 lZ);have hz5:=hb5.size;clear hb5 k0
    cases r2
    .obtain⟨_,⟨_,k1,k2,_⟩,⟨_,k3,k4,k7,k8⟩,⟨_,k5,k6,k9,k10⟩⟩:=HX5.o;go_wp2;refine bodyPost_ret (v:=.tuple #[a0v (.slice none 0 0) [],a1d (0,[]),.bool false]) (by simp [a0v,a1d,k3,k4,k5,k6,results,results233,go_sem]) rfl ⟨.slice none 0 0,by rw [HP.o,HN.o];rfl,by rw [HP.o,HN.o];exact World.ownsRow_nil _ _ _ _,?_⟩;exact (((((HBW.o.trans (HB5.o.mono HBW.o.size)).setCell (by simp<;>omega) _).setCell (by simp<;>omega) _).setCell (by simp<;>omega) _).setCell (by simp<;>omega) _)
    .obtain⟨_,⟨_,k1,k2,_⟩,_,_⟩:=HX5.o
     go_wp2_with fail
     refine (b4p t r1 _ ht oZ).mono ?_;rintro e w6 ⟨rfl,hb6⟩;have HX6:=qh (HX5.o.below hb6);have HB6:=qh (HB5.o.trans (hb6.mono (Nat.le_trans hzc hz5)));have HO6:=qh (a0i HO5.o hb6 lZ);clear hb6 k1 k2;obtain⟨_,_,⟨_,k3,k4,k7,k8⟩,⟨_,k5,k6,k9,k10⟩⟩:=HX6.o;go_wp2;refine bodyPost_ret (v:=.tuple #[a0v (.slice a nx.length c) r1,a1d (P.least t r1),.bool true]) (by simp [a0v,a1d,k3,k4,k5,k6,results,results233,go_sem]) rfl ⟨.slice a nx.length c,by rw [HP.o,HN.o];rfl,?_,?_⟩
     .rw [HP.o,HN.o];exact zq118
     .exact (((((HBW.o.trans (HB6.o.mono HBW.o.size)).setCell (by simp<;>omega) _).setCell (by simp<;>omega) _).setCell (by simp<;>omega) _).setCell (by simp<;>omega) _)
def RdS (a b g p:Nat) (dv tv:Value) (t:Str) (s:Int) (v:World):Prop:=v.cell? ⟨a,0,none⟩=some dv/\v.cell? ⟨b,0,none⟩=some tv/\v.cell? ⟨b,1,none⟩=some (.string (S t))/\v.cell? ⟨g,p,none⟩=some (.int .i64 s)
theorem RdS.step {a b g p:Nat} {dv tv:Value} {t:Str} {s:Int} {B:Nat} (h:RdS a b g p dv tv t s v) (hb:Below B v v') (hB:a<B/\b<B/\g<B):RdS a b g p dv tv t s v':=
 ⟨(hb.cell (p:=⟨a,0,none⟩) hB.1).trans h.1,(hb.cell (p:=⟨b,0,none⟩) hB.2.1).trans h.2.1,(hb.cell (p:=⟨b,1,none⟩) hB.2.1).trans h.2.2.1,(hb.cell (p:=⟨g,p,none⟩) hB.2.2).trans h.2.2.2⟩
structure PrSt (wr:World) (R:World->Prop) (o1 o2:Option Nat) (v:World):Prop where
 s:R v
 k:∀x y,R x->Below wr.heap.size x y->R y
 bw:Bl wr v
 t:∀b,o1=some b->wr.heap.size<=b/\TBx b (.slice none 0 0) [] v
 e:∀b,o2=some b->wr.heap.size<=b/\EBx b v
 n:∀a b,o1=some a->o2=some b->a≠b
theorem PrSt.start {R:World->Prop} (h:R v) (hk:∀x y,R x->Below wr.heap.size x y->R y) (hb:Bl wr v):PrSt wr R none none v:=
 ⟨h,hk,hb,λ_ e=>(by cases e),λ_ e=>(by cases e),λ_ _ e=>(by cases e)⟩
theorem PrSt.below {R:World->Prop} (h:PrSt wr R o1 o2 v) (hb:Bl v v'):PrSt wr R o1 o2 v':=
 ⟨h.k _ _ h.s (hb.mono h.bw.size),h.k,h.bw.trans (hb.mono h.bw.size),λb e=>⟨(h.t b e).1,(h.t b e).2.below hb⟩,λb e=>⟨(h.e b e).1,(h.e b e).2.below hb⟩,h.n⟩
theorem PrSt.a5l {R:World->Prop} (h:PrSt wr R none o2 v):PrSt wr R (some v.heap.size) o2 (v.alloc (.cells #[.slice none 0 0,.string (S [])] 35)):=by
 have g:=h.below ((Below.refl v.heap.size v).alloc lZ (.cells #[.slice none 0 0,.string (S [])] 35));refine⟨g.s,g.k,g.bw,λb e=>?_,g.e,λa b e1 e2=>?_⟩
 .injection e with e;subst e;exact⟨h.bw.size,TBx.new _ _ _⟩
 .injection e1 with e1;have:=(h.e b e2).2.1;omega
theorem PrSt.a5j {R:World->Prop} (h:PrSt wr R o1 none v):PrSt wr R o1 (some v.heap.size) (v.alloc (.cells #[.int .i64 0,.string (S [])] 55)):=by
 have g:=h.below ((Below.refl v.heap.size v).alloc lZ (.cells #[.int .i64 0,.string (S [])] 55));refine⟨g.s,g.k,g.bw,g.t,λb e=>?_,λa b e1 e2=>?_⟩
 .injection e with e;subst e;exact⟨h.bw.size,EBx.new _⟩
 .injection e2 with e2;have:=(h.t a e1).2.1;omega
def PrR (wr:World) (o1 o2:Option Nat) (nu:Value) (ns:List Int) (v:World):Prop:=OwnK wr.heap.size v nu ns/\∀k,nu.ownBlock=some k->o1≠some k/\o2≠some k
theorem PrR.called {R:World->Prop} (h:PrSt wr R o1 o2 v) (_hb:Bl v v') (ho:OwnK v.heap.size v' nu ns):PrR wr o1 o2 nu ns v':=
 ⟨a2e ho h.bw.size,λk hk=>by
  have h1:=(World.ownsRow.lt ho k hk).1;exact⟨λe=>by have:=(h.t k e).2.1;omega,λe=>by have:=(h.e k e).2.1;omega⟩⟩
theorem PrR.alloc {p1 p2:Option Nat} (h:PrR wr o1 o2 nu ns v) (o:Obj) (h1:p1=o1\/p1=some v.heap.size) (h2:p2=o2\/p2=some v.heap.size):PrR wr p1 p2 nu ns (v.alloc o):=by
 refine⟨a0i h.1 ((Below.refl v.heap.size v).alloc lZ o) lZ,λk hk=>?_⟩;have hlt:=(World.ownsRow.lt h.1 k hk).2;obtain⟨g1,g2⟩:=h.2 k hk;refine⟨?_,?_⟩
 .rcases h1 with rfl|rfl
  .exact g1
  .intro e;injection e with e;omega
 .rcases h2 with rfl|rfl
  .exact g2
  .intro e;injection e with e;omega
theorem PrR.a0b {X:Blk} (h:PrR wr o1 o2 nu ns v) (hc:Chg X v v') (hX:∀b,X b->o1=some b\/o2=some b):PrR wr o1 o2 nu ns v':=
 ⟨a1e h.1 hc λk hk hx=>by
  rcases hX k hx with e|e
  .exact (h.2 k hk).1 e
  .exact (h.2 k hk).2 e,h.2⟩
theorem d7t (s:Str) (w:World) (hs:s.length<=2^40) :
 Cz 83 #[.string (S s)] w λe w'=>e=.returned (.bool (P.a3o s))/\w=w':=by
 have HP:Hq (P.a3o s=(decide ((s.length:Int)<=2000)&&s.all P.prn)):=⟨rfl⟩
 go_enter func83,ntmps83
 by_cases h:(s.length:Int)<=2000
 .rw [decide_eq_true h,Bool.true_and]at HP
  go_wp2_with fail
  refine (a3l s _ hs).mono ?_;rintro e w' ⟨rfl,rfl⟩;generalize s.all P.prn=q at *;go_wp2;go_ret;exact⟨by rw [HP.o];rfl,rfl⟩
 .rw [decide_eq_false h,Bool.false_and]at HP;go_wp2;go_ret;exact⟨by rw [HP.o];rfl,rfl⟩
theorem c4s (x:Int) (t:Str) (w:World) (hs:t.length<=2^40) :
 Cz 84 #[.agg #[.int .i64 x,.string (S t)]] w λe w'=>e=.returned (.bool (P.a3x (x,t)))/\Bl w w':=by
 have HB:=qh ((Below.refl w.heap.size w).alloc lZ (.cells #[.int .i64 x,.string (S t)] 55))
 have HP:Hq (P.a3x (x,t)=(decide (0<=x/\x<=2000)&&P.a3o t)):=⟨rfl⟩
 go_enter func84,ntmps84
 go_wp2_with fail
 refine (a2g _ _ _ _).mono ?_
 rintro e w1 ⟨rfl,rfl⟩
 obtain⟨q,hq⟩:∃q,decide (0<=x/\x<=2000)=q:=⟨_,rfl⟩
 rw [hq]at HP⊢
 clear hq
 cases q
 .go_wp2;go_ret;exact⟨by rw [HP.o];rfl,HB.o⟩
 .go_wp2_with fail
  refine (d7t t _ hs).mono ?_;exact zq162
theorem P.b4d {e:P.Edit} (h:P.a3x e=true):0<=e.1/\e.1<=2000/\P.a3o e.2=true:=by
 unfold P.a3x at h;simp only [Bool.and_eq_true,decide_eq_true_eq]at h;exact⟨h.1.1,h.1.2,h.2⟩
theorem d6l (n:Int) (w:World) (h0:0<=n) (h1:n<=999999) (hE:L.Env w) :
 Cz 153 #[.int .i64 n] w (a8s (P.num n.toNat,true) w):=by
 go_enter func153,ntmps153
 go_wp2_with fail
 refine (a2g _ _ _ _).mono ?_
 rintro e w1 ⟨rfl,rfl⟩
 rw [decide_eq_true oZ]
 go_wp2_with fail
 refine (L.a5w n _ oZ oZ hE).mono ?_
 rintro e w1 ⟨rfl,hb⟩
 have HB:=qh hb
 clear hb
 go_wp2
 go_ret2
 exact⟨rfl,HB.o⟩
theorem a5k (x:Int) (t:Str) (w:World) (he:P.a3x (x,t)=true) (hE:L.Env w) :
 Cz 82 #[a1d (x,t)] w (a8s (P.fmtE (x,t),true) w):=by
 obtain⟨h0,h1,h2⟩:=P.b4d he;simp only at h0 h1 h2;refine zm22 ?_;intro htl HOK hb0 HX;have HE:=qh (hE.below hb0 hE.size);have HB:=qh hb0;clear hb0 hE he h2;unfold a1d;go_enter func82,ntmps82;go_upto_region 1 with fail;generalize (World.alloc _ _)=v0 at *;obtain⟨_,c0,c1⟩:=HX.o;go_wp2_with fail;refine (c4s x t _ oZ).mono ?_;rintro e w1 ⟨rfl,hb⟩;have hzb:=HX.o.1;have d0:=(hb.cell (p:=⟨w.heap.size,0,none⟩) hzb).trans c0;have d1:=(hb.cell (p:=⟨w.heap.size,1,none⟩) hzb).trans c1;have HX1:=qh (show w.heap.size<w1.heap.size/\w1.cell? ⟨w.heap.size,0,none⟩=some (.int .i64 x)/\w1.cell? ⟨w.heap.size,1,none⟩=some (.string (S t)) from⟨Nat.lt_of_lt_of_le hzb hb.size,d0,d1⟩);have HE1:=qh (HE.o.below hb HE.o.size);have HB1:=bt HB hb;rw [HOK.o];clear hb c0 c1 HX HE HB hzb;go_wp2_with fail;refine (d6l x _ h0 oZ HE1.o).mono ?_;rintro e w2 ⟨rfl,hb⟩;obtain⟨hzb,_,_⟩:=HX1.o;have e1:=(hb.cell (p:=⟨w.heap.size,1,none⟩) hzb).trans d1;have HB2:=bt HB1 hb;have hnl:(P.num x.toNat).length<=20:=P.num_len _ oZ;clear hb d0 d1 HX1 hzb;go_wp2;go_ret2;exact⟨rfl,HB2.o⟩
theorem d5k (s:Str) (w:World) (hs:s.length<=2^40) :
 Cz 370 #[.string (S s)] w λe w'=>e=.returned (.bool (P.a3o s))/\w=w':=by
 have HP:Hq (P.a3o s=(decide ((s.length:Int)<=2000)&&s.all P.prn)):=⟨rfl⟩
 go_enter func370,ntmps370
 by_cases h:(s.length:Int)<=2000
 .rw [decide_eq_true h,Bool.true_and]at HP
  go_wp2_with fail
  refine (b4m s _ hs).mono ?_;rintro e w' ⟨rfl,rfl⟩;generalize s.all P.prn=q at *;go_wp2;go_ret;exact⟨by rw [HP.o];rfl,rfl⟩
 .rw [decide_eq_false h,Bool.false_and]at HP;go_wp2;go_ret;exact⟨by rw [HP.o];rfl,rfl⟩
theorem e1v (x:Int) (t:Str) (w:World) (hs:t.length<=2^40) :
 Cz 341 #[a1d (x,t)] w λe w'=>e=.returned (.bool (P.a3x (x,t)))/\Bl w w':=by
 have HB:=qh ((Below.refl w.heap.size w).alloc lZ (.cells #[.int .i64 x,.string (S t)] 55))
 have HP:Hq (P.a3x (x,t)=(decide (0<=x/\x<=2000)&&P.a3o t)):=⟨rfl⟩
 unfold a1d
 go_enter func341,ntmps341
 go_wp2_with fail
 refine (l1In _ _ _ _).mono ?_
 rintro e w1 ⟨rfl,rfl⟩
 obtain⟨q,hq⟩:∃q,decide (0<=x/\x<=2000)=q:=⟨_,rfl⟩
 rw [hq]at HP⊢
 clear hq
 cases q
 .go_wp2;go_ret;exact⟨by rw [HP.o];rfl,HB.o⟩
 .go_wp2_with fail
  refine (d5k t _ hs).mono ?_;exact zq162
theorem b5t (x:Int) (t:Str) (w:World) (he:P.a3x (x,t)=true) :
 Cz 292 #[a1d (x,t)] w (a8s (P.fmtE (x,t),true) w):=by
 obtain⟨h0,h1,h2⟩:=P.b4d he;simp only at h0 h1 h2;refine zm22 ?_;intro htl HOK hb0 HX;have HB:=qh hb0;clear hb0 he h2;unfold a1d;go_enter func292,ntmps292;go_upto_region 1 with fail;generalize (World.alloc _ _)=v0 at *;obtain⟨_,c0,c1⟩:=HX.o;go_wp2_with fail;refine (e1v x t _ oZ).mono ?_;rintro e w1 ⟨rfl,hb⟩;have hzb:=HX.o.1;have d0:=(hb.cell (p:=⟨w.heap.size,0,none⟩) hzb).trans c0;have d1:=(hb.cell (p:=⟨w.heap.size,1,none⟩) hzb).trans c1;have HZ:Hq (w.heap.size<w1.heap.size):=⟨Nat.lt_of_lt_of_le hzb hb.size⟩;have HB1:=bt HB hb;have hnl:(P.num x.toNat).length<=20:=P.num_len _ oZ;rw [HOK.o];clear hb c0 c1 HX HB hzb;go_wp2_with fail;go_quiet ((go_at_call 197;exact Calls.quiet_of (L.b9i x _ h0 oZ)));go_wp2;go_ret2;exact⟨rfl,below_drewN HB1.o _⟩
end Go.Proofs.YtggfdnopminemaaGreatDoor
