/- Walks: an entry defined. -/
import Derived.Test.YtggfdnopminemaaGreatDoorSesC2
set_option linter.all false
namespace Go.Proofs.YtggfdnopminemaaGreatDoor
open Go.Proofs.Tryz
open Go Go.RowKit
set_option maxHeartbeats 8000000
set_option maxRecDepth 100000
theorem d4l (u us:Value) (l:P.Dic) (st:List Int) (sc d p:Str) (n:Int) (more:Str) (w:World) (hu:EntR w u l) (hus:IntR w us st) (hm:Small l) (ht:P.trans l (st,sc)=true) (hl:more.length<=2^20) :
 Cz 170 #[a1a u us sc d p n,.string (S more)] w (b3q u us (l,(st,sc)) (P.a1h (l,(st,sc)) more) (d,p,n) w):=by
 have hu0:=hu;have hus0:=hus
 obtain⟨ad,cap,rfl,_,_⟩:=hu0
 obtain⟨sd,sap,rfl,_,_⟩:=hus0
 obtain⟨W0,hW0⟩:∃v,(w.alloc (a0d (.slice ad l.length cap) (.slice sd st.length sap) sc d p n)).alloc (a0d (.slice none 0 0) (.slice none 0 0) [] [] [] 0)=v:=⟨_,rfl⟩
 have hb0:Bl w W0:=by rw [<-hW0];exact ((Below.refl w.heap.size w).alloc lZ _).alloc sZ _
 have hz0:W0.heap.size=w.heap.size+2:=by rw [<-hW0];simp
 have hsx:SOut w.heap.size (.slice ad l.length cap) (.slice sd st.length sap) sc d p n W0:=by
  exact zq25
 have hsr:SOut (w.heap.size+1) (.slice none 0 0) (.slice none 0 0) [] [] [] 0 W0:=by
  exact zq20
 refine zm73 ?_;intro HU HUS HX HR HB;have HT0S:=qh ht;have HSP:=qh (P.a1m ht);have HNE:=qh (List.length_pos_iff.2 (P.a2y 32 more));have HG:=qh (P.c9t (c:=32) (s:=more));have hhl:=P.b2a 32 more;have HD0:=qh (P.c3r (s:=(l,(st,sc))) (more:=more));have HD1:=qh (P.c4o (s:=(l,(st,sc))) (more:=more));have HD2:=qh (λo=>P.c6g (s:=(l,(st,sc))) (more:=more) (o:=o));have HD3:=qh (λo r=>P.c7e (s:=(l,(st,sc))) (more:=more) (o:=o) (r:=r));clear hsx hsr hb0 ht hu hus;go_enter Tryz.func170,Tryz.ntmps170;go_upto_region 1 with fail;try rw [hW0]
 clear hW0;go_wp2_with fail;refine (a4y more 32 _ oZ).mono ?_;rintro e w1 ⟨v,rfl,hst0,hb⟩;obtain⟨g,gc,rfl,hg,hst⟩:=a6r hst0 (List.length_pos_iff.1 HNE.o);have c0:=hst.2 0 HNE.o;rw [HG.o HNE.o]at c0;refine zm85 ?_;intro HX1 HR1 HB1;have i1:(0:Int)<((P.split 32 more).length:Int):=by have:=HNE.o;omega
 clear hst0 hst hb HX HR HB HG HNE;generalize (P.split 32 more).length=sl at *;generalize P.head 32 more=hd at *;go_wp2_with fail;refine (a6z hd _ oZ).mono ?_;rintro e w2 ⟨ou,rfl,ho,hb⟩;refine zm79 ?_;intro HX2 HR2 HB2;have HO:=qh ho;obtain⟨oa,oc,rfl⟩:=a0h ho;have hz2:w.heap.size+2<=w2.heap.size:=by have h1:=hb.size;have h2:=HX1.o.1.2.2.2.2.2.2;have h3:=HR1.o.1.2.2.2.2.2.2;omega
 clear ho hb c0 HX1 HR1 HB1
 cases hp:P.a1u hd with
 |none=>
  have HP:=qh (HD0.o hp);exact zq13
 |some o=>
  rw [hp]at HO;simp only [Option.getD_some,Option.isSome_some]at HO⊢;have hov:=P.a1k (P.a8k hp).1
  by_cases hsame:hd.length=more.length
  .have HP:=qh (HD1.o hsame);have i2:((hd.length:Int)==(more.length:Int))=true:=by rw [hsame];simp
   exact zq13
  .have i2:((hd.length:Int)==(more.length:Int))=false:=by rw [beq_eq_false_iff_ne];omega
   obtain⟨tx,htx⟩:∃tx,more.drop (hd.length+1)=tx:=⟨_,rfl⟩;have htl:tx.length<=2^20:=by rw [<-htx,List.length_drop];omega
   have HTX:=qh htx;simp only [htx]at HD2 HD3;obtain⟨D,ns,nsc,en,et,ok,hrr⟩:∃D ns nsc en et ok,P.a3j l (st,sc) (o,tx)=(((D,(ns,nsc)),(en,et)),ok):=⟨_,_,_,_,_,_,rfl⟩;have hns:ns.length<=st.length:=by have h:=P.b3k l (st,sc) (o,tx);rw [hrr]at h;exact h
   obtain⟨hl1,hl2⟩:=HSP.o;try simp only at hl1 hl2
   have HNL:=qh (show ns.length<=2^30 by omega);have HRR:=qh hrr;have HOP:=qh (HD2.o o hp);have HYP:=qh (λr=>HD3.o o r hp hsame);simp only [hrr]at HOP HYP;refine zm38 ?_;intro HEO HH1 HH2 HUW HIW HOW;have i8:IntKind.i64.wrap ((hd.length:Int)+1)=(hd.length:Int)+1:=by rw [IntKind.wrap_i64];omega
   have i9:¬(more.length:Int)<(hd.length:Int)+1:=by omega
   have i11:¬(hd.length:Int)+1<0:=by omega
   have i10:((hd.length:Int)+1).toNat=hd.length+1:=by omega
   clear hp hrr hns HD0 HD1 HD2 HD3 HSP;go_upto_region 5 with fail;generalize w2=wr at *;go_cut [9,10,11,12] (λq1 q2 q3 q4 wx=>∃b1 b2 b3 xa xc ya yc,q1=.pointer (some ⟨b1,0,none⟩)/\q2=.pointer (some ⟨b2,0,none⟩)/\q3=.pointer (some ⟨b3,0,none⟩)/\q4=.bool ok/\Box1 b1 (.slice xa D.length xc) wx/\a1z b2 (.slice ya ns.length yc) nsc wx/\a1z b3 (.int .i64 en) et wx/\DfR wr (some b1) (some b2) (some b3) (.slice xa D.length xc) (.slice ya ns.length yc) D ns wx/\Bl wr wx/\wr.heap.size<=b1/\wr.heap.size<=b2/\wr.heap.size<=b3)
   case first=>
    apply a0m;intro k1111;apply a0m;intro k1110;apply a0m;intro k1101;apply a0m;intro k1011;apply a0m;intro k0111;apply a0m;intro k1100;apply a0m;intro k1010;apply a0m;intro k1001;apply a0m;intro k0110;apply a0m;intro k0101;apply a0m;intro k0011;apply a0m;intro k1000;apply a0m;intro k0100;apply a0m;intro k0010;apply a0m;intro k0001;have HL0:=qh (show DfSt wr w.heap.size (.slice ad l.length cap) (.slice sd st.length sap) sc none none none wr.drew from⟨⟨HX2.o.1.1,HX2.o.1.2.1,HX2.o.1.2.2.1,HX2.o.1.2.2.2.2.2.2⟩,HX2.o.1.2.2.2.2.2.2,bZ.drew,λ_ e=>(by cases e),λ_ e=>(by cases e),λ_ e=>(by cases e),λ_ _ e=>(by cases e),λ_ _ e=>(by cases e),λ_ _ e=>(by cases e)⟩);refine wp_region_held_drew (S:=DfS w.heap.size (.slice ad l.length cap) (.slice sd st.length sap) sc) kZ HL0.o.s (λhS=>?_);refine zm76 ?_;refine tk0 9 (v:=.string (S tx)) hS ?_;refine tk0 10 hS ?_;generalize wr.drew=v at hS HL0⊢;have HL:=qh HL0.o;clear HL0 hS;refine wpAnyH_ready (rs:=[11,17,18,19]) kZ sZ ?_;refine AllReadyH.cons rfl (λK hK=>?_) (AllReadyH.cons rfl (λK hK=>?_) (AllReadyH.cons rfl (λK hK=>?_) (AllReadyH.cons rfl (λK hK=>?_) AllReadyH.nil)))
    .skip;go_simp;refine zm5 ?_;exact zq35
    .exact zq78
    .exact zq71
    .exact zq74
    intro v b3 HL;refine wpAnyH_ready (rs:=[11,17,18]) kZ sZ ?_;refine AllReadyH.cons rfl (λK hK=>?_) (AllReadyH.cons rfl (λK hK=>?_) (AllReadyH.cons rfl (λK hK=>?_) AllReadyH.nil))
    .skip;go_simp;refine zm5 ?_;exact zq32
    .exact zq76
    .exact zq64
    intro v b2 HL;refine wpAnyH_ready (rs:=[11,17,19]) kZ sZ ?_;refine AllReadyH.cons rfl (λK hK=>?_) (AllReadyH.cons rfl (λK hK=>?_) (AllReadyH.cons rfl (λK hK=>?_) AllReadyH.nil))
    .skip;go_simp;refine zm5 ?_;exact zq33
    .exact zq77
    .exact zq67
    intro v b1 HL;refine wpAnyH_ready (rs:=[11,18,19]) kZ sZ ?_;refine AllReadyH.cons rfl (λK hK=>?_) (AllReadyH.cons rfl (λK hK=>?_) (AllReadyH.cons rfl (λK hK=>?_) AllReadyH.nil))
    .skip;go_simp;refine zm5 ?_;exact zq34
    .exact zq65
    .exact zq68
    intro v xa xc ya yc HL HR;refine wpAnyH_ready (rs:=[17,18,19]) kZ sZ ?_;refine AllReadyH.cons rfl (λK hK=>?_) (AllReadyH.cons rfl (λK hK=>?_) (AllReadyH.cons rfl (λK hK=>?_) AllReadyH.nil))
    .exact zq51
    .exact zq46
    .exact zq47
    intro v b2 b3 HL;refine wpAnyH_ready (rs:=[11,17]) kZ sZ ?_;refine AllReadyH.cons rfl (λK hK=>?_) (AllReadyH.cons rfl (λK hK=>?_) AllReadyH.nil)
    .skip;go_simp;refine zm5 ?_;exact zq29
    .exact zq70
    intro v b1 b3 HL;refine wpAnyH_ready (rs:=[11,18]) kZ sZ ?_;refine AllReadyH.cons rfl (λK hK=>?_) (AllReadyH.cons rfl (λK hK=>?_) AllReadyH.nil)
    .skip;go_simp;refine zm5 ?_;exact zq30
    .exact zq62
    intro v b1 b2 HL;refine wpAnyH_ready (rs:=[11,19]) kZ sZ ?_;refine AllReadyH.cons rfl (λK hK=>?_) (AllReadyH.cons rfl (λK hK=>?_) AllReadyH.nil)
    .skip;go_simp;refine zm5 ?_;exact zq31
    .exact zq63
    intro v b3 xa xc ya yc HL HR;refine wpAnyH_ready (rs:=[17,18]) kZ sZ ?_;refine AllReadyH.cons rfl (λK hK=>?_) (AllReadyH.cons rfl (λK hK=>?_) AllReadyH.nil)
    .exact zq48
    .exact zq42
    intro v b2 xa xc ya yc HL HR;refine wpAnyH_ready (rs:=[17,19]) kZ sZ ?_;refine AllReadyH.cons rfl (λK hK=>?_) (AllReadyH.cons rfl (λK hK=>?_) AllReadyH.nil)
    .exact zq49
    .exact zq44
    intro v b1 xa xc ya yc HL HR;refine wpAnyH_ready (rs:=[18,19]) kZ sZ ?_;refine AllReadyH.cons rfl (λK hK=>?_) (AllReadyH.cons rfl (λK hK=>?_) AllReadyH.nil)
    .exact zq43
    .exact zq45
    intro v b1 b2 b3 HL;refine trd 11 λK hK=>?_;go_simp;refine zm5 ?_;rintro e v9 ⟨x,y,m,rfl,hd,ho,hm1,hm2,hb⟩;rw [HRR.o]at hd ho⊢;simp only at hd ho⊢;unfold a1d;have HLn:=qh (HL.o.below hb);have HRn:=qh (DfR.called HL.o hd ho hm1 hm2 HNL.o);obtain⟨xa,xc,rfl,-,-⟩:=hd;obtain⟨ya,yc,rfl⟩:=a0h ho;refine hK.out _ _ HLn.o.s (λhS9=>?_);clear hK K ho hm1 hm2 hb hS9;refine zm0 ?_;refine tk0 12 HLn.o.s ?_;refine tk0 13 HLn.o.s ?_;refine tk0 14 HLn.o.s ?_;refine tk0 15 HLn.o.s ?_;refine tk0 16 HLn.o.s ?_;clear HL;revert HRn;revert HLn;revert yc;revert ya;revert xc;revert xa;revert b3;revert b2;revert b1;revert v9;exact k1111;intro v b2 b3 xa xc ya yc HL HR;refine trd 17 λK hK=>?_;go_simp;have HLn:=qh (HL.o.a5s);have HRn:=qh (HR.o.alloc (.cells #[.slice none 0 0] 26) (.inr rfl) (.inl rfl) (.inl rfl));refine zm48 ?_;clear hK K;refine zm0 ?_;clear HL HR;generalize v.alloc (.cells #[.slice none 0 0] 26)=v9 at HLn HRn⊢;generalize v.heap.size=b1 at HLn HRn⊢;revert HRn;revert HLn;revert yc;revert ya;revert xc;revert xa;revert b3;revert b2;revert b1;revert v9;exact k1111;intro v b1 b3 xa xc ya yc HL HR;refine trd 18 λK hK=>?_;go_simp;have HLn:=qh (HL.o.a5u);have HRn:=qh (HR.o.alloc (.cells #[.slice none 0 0,.string (S [])] 35) (.inl rfl) (.inr rfl) (.inl rfl));refine zm48 ?_;clear hK K;refine zm0 ?_;clear HL HR;generalize v.alloc (.cells #[.slice none 0 0,.string (S [])] 35)=v9 at HLn HRn⊢;generalize v.heap.size=b2 at HLn HRn⊢;revert HRn;revert HLn;revert yc;revert ya;revert xc;revert xa;revert b3;revert b2;revert b1;revert v9;exact k1111;intro v b1 b2 xa xc ya yc HL HR;refine trd 19 λK hK=>?_;go_simp;have HLn:=qh (HL.o.b2y);have HRn:=qh (HR.o.alloc (.cells #[.int .i64 0,.string (S [])] 55) (.inl rfl) (.inl rfl) (.inr rfl));refine zm48 ?_;clear hK K;refine zm0 ?_;clear HL HR;generalize v.alloc (.cells #[.int .i64 0,.string (S [])] 55)=v9 at HLn HRn⊢;generalize v.heap.size=b3 at HLn HRn⊢;revert HRn;revert HLn;revert yc;revert ya;revert xc;revert xa;revert b3;revert b2;revert b1;revert v9;exact k1111;exact zq3
   case rest=>
    obtain⟨b1,b2,b3,xa,xc,ya,yc,rfl,rfl,rfl,rfl,hx1,hx2,hx3,hrows,hb,hw1,hw2,hw3⟩:=hcut;have HX3:=qh (HX2.o.below hb);have HR3:=qh (HR2.o.below hb);have HB3:=bt HB2 hb;have HX1:=qh hx1;have HXT:=qh hx2;have HE3:=qh hx3;have HRO:=qh hrows;generalize hww:wc=w3 at *;clear hww hb hx1 hx2 hx3 hrows HX2 HR2 HB2
    cases ok
    .have HP:=qh (HOP.o rfl);obtain⟨⟨o0,o1,o2,o3,o4,o5,o6⟩,_⟩:=HX3.o;obtain⟨⟨r0,r1,r2,r3,r4,r5,r6⟩,f0,f1,f2,f3,f4,f5⟩:=HR3.o;obtain⟨V,hV⟩:∃v,((((((w3.setCell ⟨w.heap.size+1,0,none⟩ ((.slice ad l.length cap))).setCell ⟨w.heap.size+1,1,none⟩ ((.slice sd st.length sap))).setCell ⟨w.heap.size+1,2,none⟩ (.string (S sc))).setCell ⟨w.heap.size+1,3,none⟩ (.string (S d))).setCell ⟨w.heap.size+1,4,none⟩ (.string (S p))).setCell ⟨w.heap.size+1,5,none⟩ (.int .i64 n))=v:=⟨_,rfl⟩;have hset:Chg (λb=>b=w.heap.size+1) w3 V:=by rw [<-hV];exact (((((((Chg.refl (λb=>b=w.heap.size+1) w3).setCell (p:=⟨w.heap.size+1,0,none⟩) rfl _).setCell (p:=⟨w.heap.size+1,1,none⟩) rfl _).setCell (p:=⟨w.heap.size+1,2,none⟩) rfl _).setCell (p:=⟨w.heap.size+1,3,none⟩) rfl _).setCell (p:=⟨w.heap.size+1,4,none⟩) rfl _).setCell (p:=⟨w.heap.size+1,5,none⟩) rfl _)
     refine zm31 ?_;intro HRV HBV;exact zq186
    .have HP:=qh (HYP.o ((D,(ns,nsc)),(en,et)) rfl);have HED:=qh (HEO.o rfl);obtain⟨⟨o0,o1,o2,o3,o4,o5,o6⟩,g0,g1,g2,g3,g4,g5⟩:=HX3.o;obtain⟨d0,dz⟩:=HX1.o;obtain⟨t0,t1,tz⟩:=HXT.o;obtain⟨w6,hw6⟩:∃v,((w3.setCell ⟨w.heap.size,0,none⟩ (.slice xa D.length xc)).setCell ⟨w.heap.size,1,none⟩ (.slice ya ns.length yc)).setCell ⟨w.heap.size,2,none⟩ (.string (S nsc))=v:=⟨_,rfl⟩;have hset:Chg (λb=>b=w.heap.size) w3 w6:=by rw [<-hw6];exact (((Chg.refl (λb=>b=w.heap.size) w3).setCell (p:=⟨w.heap.size,0,none⟩) rfl _).setCell (p:=⟨w.heap.size,1,none⟩) rfl _).setCell (p:=⟨w.heap.size,2,none⟩) rfl _
     have HX6:Hq (SOut w.heap.size (.slice xa D.length xc) (.slice ya ns.length yc) nsc d p n w6):=⟨by rw [<-hw6];exact (HX3.o.set0 (x:=.slice xa D.length xc)).set1 (x:=.slice ya ns.length yc) (r:=nsc)⟩;have HR6:=qh (HR3.o.a0b hset oZ);have HE6:=qh (HE3.o.a0b hset oZ);have HB6:=qh (Chg.a0n HB3.o hset HB3.o.size (λb h=>by have h9:b=w.heap.size:=h;omega));have HRO6:=qh (HRO.o.low hset (λb h=>by have h9:b=w.heap.size:=h;omega));go_upto_region 10 with fail;try rw [hw6]
     clear o0 o1 o2 o3 o4 o5 o6 g0 g1 g2 g3 g4 g5 d0 dz t0 t1 tz hset hw6 HX3 HR3 HE3 HB3 HX1 HXT HRO;have HXD:=qh (HX6.o.below bZ.drew);have HRD2:=qh (HR6.o.below bZ.drew);have HEB:=qh (HE6.o.below bZ.drew);have HBD:=qh (HB6.o.trans (bZ.drew.mono HB6.o.size));go_upto_region 10 with fail;refine wp_region_held_drew (S:=λv=>SOut (w.heap.size) (.slice xa D.length xc) (.slice ya ns.length yc) nsc d p n v/\a1z (b3) (.int .i64 en) et v) kZ ⟨HXD.o,HEB.o⟩ (λhS0=>?_);have HCD:Hq (Chg (λb=>b=w.heap.size+1) w6 w6.drew):=⟨(Chg.refl _ _).drew⟩;generalize w6.drew=y0 at *;refine tk14 0 hS0 ?_;refine tk14 1 hS0 ?_;refine trd 2 λK hK=>?_;go_simp;refine (c7g en et _ HED.o).mono ?_;rintro e y1 ⟨rfl,hb⟩;refine zm57 ?_;intro HR5 HB5 HC5 hS1;clear hK K hb;refine zm0 ?_;obtain⟨⟨r0,r1,r2,r3,r4,r5,r6⟩,f0,f1,f2,f3,f4,f5⟩:=HR5.o;obtain⟨V,hV⟩:∃v,((((((y1.setCell ⟨w.heap.size+1,0,none⟩ (.slice xa D.length xc)).setCell ⟨w.heap.size+1,1,none⟩ (.slice ya ns.length yc)).setCell ⟨w.heap.size+1,2,none⟩ (.string (S nsc))).setCell ⟨w.heap.size+1,3,none⟩ (.string (S d))).setCell ⟨w.heap.size+1,4,none⟩ (.string (S p))).setCell ⟨w.heap.size+1,5,none⟩ (.int .i64 n))=v:=⟨_,rfl⟩;have hset:Chg (λb=>b=w.heap.size+1) y1 V:=by rw [<-hV];exact (((((((Chg.refl (λb=>b=w.heap.size+1) y1).setCell (p:=⟨w.heap.size+1,0,none⟩) rfl _).setCell (p:=⟨w.heap.size+1,1,none⟩) rfl _).setCell (p:=⟨w.heap.size+1,2,none⟩) rfl _).setCell (p:=⟨w.heap.size+1,3,none⟩) rfl _).setCell (p:=⟨w.heap.size+1,4,none⟩) rfl _).setCell (p:=⟨w.heap.size+1,5,none⟩) rfl _)
     have HRV:Hq (SOut (w.heap.size+1) (.slice xa D.length xc) (.slice ya ns.length yc) nsc d p n V):=⟨by rw [<-hV];exact ((HR5.o.set0 (x:=.slice xa D.length xc)).set1 (x:=.slice ya ns.length yc) (r:=nsc)).set3 (d':=d) (p':=p) (n':=n)⟩;refine zm63 ?_;intro HBV HCV K hK;go_simp;refine hK.out _ _ (by (try rw [hV]);exact⟨hS1.1.a0b hset (λh=>by have h9:w.heap.size=w.heap.size+1:=h;omega),hS1.2.a0b hset (λh=>by have h9:b3=w.heap.size+1:=h;omega)⟩) (λhS2=>?_);clear hK K;try rw [hV]at hS2⊢
     clear r0 r1 r2 r3 r4 r5 r6 f0 f1 f2 f3 f4 f5;refine zm0 ?_;refine tk14 4 hS2 ?_;refine wpAnyH_done kZ ?_ _;go_wp2;refine zn50 ?_;intro q0 q1 q2 q3 q4 q5 q6;clear hset hV;refine bodyPost_ret (v:=.tuple #[a1a (.slice xa D.length xc) (.slice ya ns.length yc) nsc d p n,.string (S (P.fmtE (en,et)))]) (by simp [results,Tryz.results170,go_sem,q0,q1,q2,q3,q4,q5]) rfl ⟨.slice xa D.length xc,.slice ya ns.length yc,by rw [HP.o];rfl,by rw [HP.o];exact .inr ((HRO6.o.low HCV.o (λb h=>by have h9:b=w.heap.size+1:=h;omega)).freshE (w:=w) oZ),by rw [HP.o];exact .inr ((HRO6.o.low HCV.o (λb h=>by have h9:b=w.heap.size+1:=h;omega)).freshI (w:=w) oZ),HBV.o⟩
end Go.Proofs.YtggfdnopminemaaGreatDoor
