/- Walks: an entry defined in a session (reference). -/
import Derived.Test.YtggfdnopminemaaGreatDoorZt
import Derived.Test.YtggfdnopminemaaGreatDoorSesC2
namespace Go.Proofs.YtggfdnopminemaaGreatDoor
theorem zy0 {p:Prop} (h:p:=by
 rintro e v9 ⟨x,y,m,rfl,hd,ho,hm1,hm2,hb⟩;rw [HRR.o]at hd ho⊢;simp only at hd ho⊢;unfold a1c;have HLn:=qh (HL.o.below hb);have HRn:=qh (DfR.called HL.o hd ho hm1 hm2 HNL.o);obtain⟨xa,xc,rfl,-,-⟩:=hd;obtain⟨ya,yc,rfl⟩:=a0i ho;refine hK.out _ _ HLn.o.s (fun hS9=>?_);clear hK K ho hm1 hm2 hb hS9
 try simp only [qA,qB,qC,Act.put,qD,qE,qF]
 refine tk1 12 HLn.o.s ?_;refine tk1 13 HLn.o.s ?_;refine tk1 14 HLn.o.s ?_;refine tk1 15 HLn.o.s ?_;refine tk1 16 HLn.o.s ?_;clear HL;revert HRn;revert HLn;revert yc;revert ya;revert xc;revert xa;revert b3;revert b2;revert b1;revert v9;exact k1111):p:=h
theorem zy1 {p:Prop} (h:p:=by
 intro v b2 b3 xa xc ya yc HL HR;refine trd 17 fun K hK=>?_;go_simp;have HLn:=qh (HL.o.b2o);have HRn:=qh (HR.o.alloc (.cells #[.slice none 0 0] 26) (.inr rfl) (.inl rfl) (.inl rfl));refine hK.out _ _ HLn.o.s (fun _=>?_);clear hK K
 try simp only [qA,qB,qC,Act.put,qD,qE,qF]
 clear HL HR;generalize v.alloc (.cells #[.slice none 0 0] 26)=v9 at HLn HRn⊢;generalize v.heap.size=b1 at HLn HRn⊢;revert HRn;revert HLn;revert yc;revert ya;revert xc;revert xa;revert b3;revert b2;revert b1;revert v9;exact k1111):p:=h
theorem zy2 {p:Prop} (h:p:=by
 intro v b1 b3 xa xc ya yc HL HR;refine trd 18 fun K hK=>?_;go_simp;have HLn:=qh (HL.o.b2m);have HRn:=qh (HR.o.alloc (.cells #[.slice none 0 0,.string (S [])] 35) (.inl rfl) (.inr rfl) (.inl rfl));refine hK.out _ _ HLn.o.s (fun _=>?_);clear hK K
 try simp only [qA,qB,qC,Act.put,qD,qE,qF]
 clear HL HR;generalize v.alloc (.cells #[.slice none 0 0,.string (S [])] 35)=v9 at HLn HRn⊢;generalize v.heap.size=b2 at HLn HRn⊢;revert HRn;revert HLn;revert yc;revert ya;revert xc;revert xa;revert b3;revert b2;revert b1;revert v9;exact k1111):p:=h
theorem zy3 {p:Prop} (h:p:=by
 intro v b1 b2 xa xc ya yc HL HR;refine trd 19 fun K hK=>?_;go_simp;have HLn:=qh (HL.o.b2s);have HRn:=qh (HR.o.alloc (.cells #[.int .i64 0,.string (S [])] 55) (.inl rfl) (.inl rfl) (.inr rfl));refine hK.out _ _ HLn.o.s (fun _=>?_);clear hK K
 try simp only [qA,qB,qC,Act.put,qD,qE,qF]
 clear HL HR;generalize v.alloc (.cells #[.int .i64 0,.string (S [])] 55)=v9 at HLn HRn⊢;generalize v.heap.size=b3 at HLn HRn⊢;revert HRn;revert HLn;revert yc;revert ya;revert xc;revert xa;revert b3;revert b2;revert b1;revert v9;exact k1111):p:=h
theorem zy4 {p:Prop} (h:p:=by
 intro v b1 b2 b3 xa xc ya yc HL HR;obtain⟨⟨hd1,hd2⟩,hd3,hd4⟩:=HL.o.d b1 rfl;obtain⟨ht0,ht⟩:=HL.o.t b2 rfl;obtain⟨he0,he⟩:=HL.o.e b3 rfl;have n12:=HL.o.n12 b1 b2 rfl rfl;have n13:=HL.o.n13 b1 b3 rfl rfl;have n23:=HL.o.n23 b2 b3 rfl rfl;have hBw:=HL.o.hB;have HBW:=qh HL.o.bw;have hS:=HL.o.s;refine trd 20 fun K hK=>?_;go_simp;obtain⟨y1,hy1⟩:∃y,v.setCell ⟨b1,0,none⟩ (.slice xa D.length xc)=y:=⟨_,rfl⟩;have hc1:Chg (fun k=>k=b1) v y1:=by rw [←hy1];exact (Chg.refl (fun k=>k=b1) v).setCell (p:=⟨b1,0,none⟩) rfl _
 have hx1:Box1 b1 (.slice xa D.length xc) y1:=by rw [←hy1];exact Box1.set1 hd3 hd2
 have hw1:Below wr.heap.size wr y1:=Chg.a0k HBW.o hc1 HBW.o.size (fun k h=>by have h9:k=b1:=h;omega);refine hK.out _ _ (by (try rw [hy1]);exact hS.a0e hc1 oZ) (fun hS1=>?_);clear hK K
 try rw [hy1]at hS1⊢
 try simp only [qA,qB,qC,Act.put,qD,qE,qF]
 have ht1:=ht.a0e hc1 oZ;have he1:=he.a0e hc1 oZ;have HR1:=qh (HR.o.a0e hc1 (fun b h _=>.inl (by have h9:b=b1:=h;rw [h9])));clear hd3 hd4 ht he hy1 HR;obtain⟨zb,cb0,cb1,fb0,fb1⟩:=ht1;refine trd 21 fun K hK=>?_;go_simp;obtain⟨y2,hy2⟩:∃y,((y1.setCell ⟨b2,0,none⟩ (.slice ya ns.length yc)).setCell ⟨b2,1,none⟩ (.string (S nsc)))=y:=⟨_,rfl⟩;have hc2:Chg (fun k=>k=b2) y1 y2:=by rw [←hy2];exact ((Chg.refl (fun k=>k=b2) y1).setCell (p:=⟨b2,0,none⟩) rfl _).setCell (p:=⟨b2,1,none⟩) rfl _
 have hx2:a0n b2 (.slice ya ns.length yc) nsc y2:=by rw [←hy2];exact a0n.set2 cb0 cb1 zb
 have hw2:Below wr.heap.size wr y2:=Chg.a0k hw1 hc2 hw1.size (fun k h=>by have h9:k=b2:=h;omega);refine hK.out _ _ (by (try rw [hy2]);exact hS1.a0e hc2 oZ) (fun hS2=>?_);clear hK K
 try rw [hy2]at hS2⊢
 try simp only [qA,qB,qC,Act.put,qD,qE,qF]
 have he2:=he1.a0e hc2 oZ;have hx1':=hx1.a0e hc2 oZ;have HR2:=qh (HR1.o.a0e hc2 (fun b h _=>.inr (.inl (by have h9:b=b2:=h;rw [h9]))));clear zb cb0 cb1 fb0 fb1 he1 hx1 hy2 HR1;obtain⟨zb,cb0,cb1,fb0,fb1⟩:=he2;refine trd 22 fun K hK=>?_;go_simp;obtain⟨y3,hy3⟩:∃y,((y2.setCell ⟨b3,0,none⟩ (.int .i64 en)).setCell ⟨b3,1,none⟩ (.string (S et)))=y:=⟨_,rfl⟩;have hc3:Chg (fun k=>k=b3) y2 y3:=by rw [←hy3];exact ((Chg.refl (fun k=>k=b3) y2).setCell (p:=⟨b3,0,none⟩) rfl _).setCell (p:=⟨b3,1,none⟩) rfl _
 have hx3:a0n b3 (.int .i64 en) et y3:=by rw [←hy3];exact a0n.set2 cb0 cb1 zb
 have hw3:Below wr.heap.size wr y3:=Chg.a0k hw2 hc3 hw2.size (fun k h=>by have h9:k=b3:=h;omega);refine hK.out _ _ (by (try rw [hy3]);exact hS2.a0e hc3 oZ) (fun hS3=>?_);clear hK K
 try rw [hy3]at hS3⊢
 try simp only [qA,qB,qC,Act.put,qD,qE,qF]
 have HR3:=qh (HR2.o.a0e hc3 (fun b h _=>.inr (.inr (by have h9:b=b3:=h;rw [h9]))));have hx1'':=hx1'.a0e hc3 oZ;have hx2':=hx2.a0e hc3 oZ;clear zb cb0 cb1 fb0 fb1 hy3;refine tk1 23 hS3 ?_;refine wpAnyH_done kZ ?_ _
 go_wp2_with fail
 go_meet;exact⟨b1,b2,b3,xa,xc,ya,yc,rfl,rfl,rfl,rfl,hx1'',hx2',hx3,HR3.o,hw3,hd1,ht0,he0⟩):p:=h
open Go Go.RowKit
set_option maxHeartbeats 8000000
set_option maxRecDepth 100000
theorem c9y (u us:Value) (l:P.Dic) (st:List Int) (sc d p:Str) (n:Int) (more:Str) (w:World) (hu:EntR w u l) (hus:IntR w us st) (hm:Small l) (ht:P.trans l (st,sc)=true) (hl:more.length≤2^20) :
 Calls Tryz.prog 170 #[a1e u us sc d p n,.string (S more)] w (b1u u us (l,(st,sc)) (P.a1i (l,(st,sc)) more) (d,p,n) w):=by
 have hu0:=hu;have hus0:=hus
 obtain⟨ad,cap,rfl,_,_⟩:=hu0
 obtain⟨sd,sap,rfl,_,_⟩:=hus0
 obtain⟨W0,hW0⟩:∃v,(w.alloc (a0d (.slice ad l.length cap) (.slice sd st.length sap) sc d p n)).alloc (a0d (.slice none 0 0) (.slice none 0 0) [] [] [] 0)=v:=⟨_,rfl⟩
 have hb0:Below w.heap.size w W0:=by rw [←hW0];exact ((Below.refl w.heap.size w).alloc lZ _).alloc sZ _
 have hz0:W0.heap.size=w.heap.size+2:=by rw [←hW0];simp
 have hsx:SOut w.heap.size (.slice ad l.length cap) (.slice sd st.length sap) sc d p n W0:=by
  exact zq24
 have hsr:SOut (w.heap.size+1) (.slice none 0 0) (.slice none 0 0) [] [] [] 0 W0:=by
  exact zq21
 have HU:=qh hu;have HUS:=qh hus
 have HX:=qh hsx;have HR:=qh hsr;have HB:=qh hb0
 have HT0S:=qh ht;have HSP:=qh (P.a1h ht)
 have HNE:=qh (List.length_pos_iff.2 (P.a2p 32 more));have HG:=qh (P.c6b (c:=32) (s:=more));have hhl:=P.b0v 32 more
 have HD0:=qh (P.c1e (s:=(l,(st,sc))) (more:=more));have HD1:=qh (P.b9v (s:=(l,(st,sc))) (more:=more));have HD2:=qh (fun o=>P.c3o (s:=(l,(st,sc))) (more:=more) (o:=o));have HD3:=qh (fun o r=>P.c3m (s:=(l,(st,sc))) (more:=more) (o:=o) (r:=r))
 clear hsx hsr hb0 ht hu hus
 go_enter Tryz.func170,Tryz.ntmps170
 go_upto_region 1 with fail
 try rw [hW0]
 clear hW0
 go_wp2_with fail
 refine (a4c more 32 _ oZ).mono ?_
 rintro e w1 ⟨v,rfl,hst0,hb⟩
 obtain⟨g,gc,rfl,hg,hst⟩:=a8a hst0 (List.length_pos_iff.1 HNE.o)
 have c0:=hst.2 0 HNE.o
 rw [HG.o HNE.o]at c0
 have HX1:=qh (HX.o.below hb);have HR1:=qh (HR.o.below hb);have HB1:=bt HB hb
 have i1:(0:Int)<((P.split 32 more).length:Int):=by have:=HNE.o;omega
 clear hst0 hst hb HX HR HB HG HNE
 generalize (P.split 32 more).length=sl at *
 generalize P.head 32 more=hd at *
 go_wp2_with fail
 refine (a5n hd _ oZ).mono ?_
 rintro e w2 ⟨ou,rfl,ho,hb⟩
 have HX2:=qh (HX1.o.below hb);have HR2:=qh (HR1.o.below hb);have HB2:=bt HB1 hb;have HO:=qh ho
 obtain⟨oa,oc,rfl⟩:=a0i ho
 have hz2:w.heap.size+2≤w2.heap.size:=by have h1:=hb.size;have h2:=HX1.o.1.2.2.2.2.2.2;have h3:=HR1.o.1.2.2.2.2.2.2;omega
 clear ho hb c0 HX1 HR1 HB1
 cases hp:P.a1l hd with
 |none=>
  have HP:=qh (HD0.o hp);exact zq15
 |some o=>
  rw [hp]at HO;simp only [Option.getD_some,Option.isSome_some]at HO⊢;have hov:=P.a1n (P.a6i hp).1
  by_cases hsame:hd.length=more.length
  ·have HP:=qh (HD1.o hsame);have i2:((hd.length:Int)==(more.length:Int))=true:=by rw [hsame];simp
   exact zq15
  ·have i2:((hd.length:Int)==(more.length:Int))=false:=by rw [beq_eq_false_iff_ne];omega
   obtain⟨tx,htx⟩:∃tx,more.drop (hd.length+1)=tx:=⟨_,rfl⟩;have htl:tx.length≤2^20:=by rw [←htx,List.length_drop];omega
   have HTX:=qh htx;simp only [htx]at HD2 HD3;obtain⟨D,ns,nsc,en,et,ok,hrr⟩:∃D ns nsc en et ok,P.a2w l (st,sc) (o,tx)=(((D,(ns,nsc)),(en,et)),ok):=⟨_,_,_,_,_,_,rfl⟩;have hns:ns.length≤st.length:=by have h:=P.b0i l (st,sc) (o,tx);rw [hrr]at h;exact h
   obtain⟨hl1,hl2⟩:=HSP.o
   try simp only at hl1 hl2
   have HNL:=qh (show ns.length≤2^30 by omega);have HRR:=qh hrr;have HOP:=qh (HD2.o o hp);have HYP:=qh (fun r=>HD3.o o r hp hsame);simp only [hrr]at HOP HYP;have HEO:=qh (show ok=true→P.a3o (en,et)=true from fun h=>by have g:=P.b2n (d:=l) (t:=(st,sc)) (e:=(o,tx)) (by rw [hrr];exact h);rw [hrr]at g;exact g);have HH1:=qh (show o.length≤2^20 by omega);have HH2:=qh (show tx.length≤2^30 by omega);have HUW:=qh (HU.o.below HB2.o);have HIW:=qh (HUS.o.below HB2.o);have HOW:=qh (a1y HO.o (show o.length≤2^45 by omega));have i8:IntKind.i64.wrap ((hd.length:Int)+1)=(hd.length:Int)+1:=by rw [IntKind.wrap_i64];omega
   have i9:¬(more.length:Int)<(hd.length:Int)+1:=by omega
   have i11:¬(hd.length:Int)+1<0:=by omega
   have i10:((hd.length:Int)+1).toNat=hd.length+1:=by omega
   clear hp hrr hns HD0 HD1 HD2 HD3 HSP
   go_upto_region 5 with fail
   generalize w2=wr at *
   go_cut [9,10,11,12] (fun q1 q2 q3 q4 wx=>∃b1 b2 b3 xa xc ya yc,q1=.pointer (some ⟨b1,0,none⟩)∧q2=.pointer (some ⟨b2,0,none⟩)∧q3=.pointer (some ⟨b3,0,none⟩)∧q4=.bool ok∧Box1 b1 (.slice xa D.length xc) wx∧a0n b2 (.slice ya ns.length yc) nsc wx∧a0n b3 (.int .i64 en) et wx∧DfR wr (some b1) (some b2) (some b3) (.slice xa D.length xc) (.slice ya ns.length yc) D ns wx∧Below wr.heap.size wr wx∧wr.heap.size≤b1∧wr.heap.size≤b2∧wr.heap.size≤b3)
   case first=>
    apply a0z;intro k1111;apply a0z;intro k1110;apply a0z;intro k1101;apply a0z;intro k1011;apply a0z;intro k0111;apply a0z;intro k1100;apply a0z;intro k1010;apply a0z;intro k1001;apply a0z;intro k0110;apply a0z;intro k0101;apply a0z;intro k0011;apply a0z;intro k1000;apply a0z;intro k0100;apply a0z;intro k0010;apply a0z;intro k0001;have HL0:=qh (show DfSt wr w.heap.size (.slice ad l.length cap) (.slice sd st.length sap) sc none none none wr.drew from⟨⟨HX2.o.1.1,HX2.o.1.2.1,HX2.o.1.2.2.1,HX2.o.1.2.2.2.2.2.2⟩,HX2.o.1.2.2.2.2.2.2,bZ.drew,fun _ e=>(by cases e),fun _ e=>(by cases e),fun _ e=>(by cases e),fun _ _ e=>(by cases e),fun _ _ e=>(by cases e),fun _ _ e=>(by cases e)⟩);refine wp_region_held_drew (S:=DfS w.heap.size (.slice ad l.length cap) (.slice sd st.length sap) sc) kZ HL0.o.s (fun hS=>?_);refine tk1 0 hS ?_;refine tk1 1 hS ?_;refine tk1 2 hS ?_;refine tk1 3 hS ?_;refine tk1 4 hS ?_;refine tk1 5 hS ?_;refine tk1 6 hS ?_;refine tk1 7 hS ?_;refine tk1 8 hS ?_;refine tk1 9 (v:=.string (S tx)) hS ?_;refine tk1 10 hS ?_;generalize wr.drew=v at hS HL0⊢;have HL:=qh HL0.o;clear HL0 hS;refine wpAnyH_ready (rs:=[11,17,18,19]) kZ sZ ?_;refine AllReadyH.cons rfl (fun K hK=>?_) (AllReadyH.cons rfl (fun K hK=>?_) (AllReadyH.cons rfl (fun K hK=>?_) (AllReadyH.cons rfl (fun K hK=>?_) AllReadyH.nil)))
    ·skip;go_simp;refine (a1u _ _ _ l st sc o tx _ (HUW.o.below HL.o.bw) (HIW.o.below HL.o.bw) (HOW.o.below HL.o.bw) hm HH1.o HH2.o).mono ?_;exact zq34
    ·exact zq72
    ·exact zq67
    ·exact zq69
    intro v b3 HL;refine wpAnyH_ready (rs:=[11,17,18]) kZ sZ ?_;refine AllReadyH.cons rfl (fun K hK=>?_) (AllReadyH.cons rfl (fun K hK=>?_) (AllReadyH.cons rfl (fun K hK=>?_) AllReadyH.nil))
    ·skip;go_simp;refine (a1u _ _ _ l st sc o tx _ (HUW.o.below HL.o.bw) (HIW.o.below HL.o.bw) (HOW.o.below HL.o.bw) hm HH1.o HH2.o).mono ?_;exact zq31
    ·exact zq70
    ·exact zq62
    intro v b2 HL;refine wpAnyH_ready (rs:=[11,17,19]) kZ sZ ?_;refine AllReadyH.cons rfl (fun K hK=>?_) (AllReadyH.cons rfl (fun K hK=>?_) (AllReadyH.cons rfl (fun K hK=>?_) AllReadyH.nil))
    ·skip;go_simp;refine (a1u _ _ _ l st sc o tx _ (HUW.o.below HL.o.bw) (HIW.o.below HL.o.bw) (HOW.o.below HL.o.bw) hm HH1.o HH2.o).mono ?_;exact zq32
    ·exact zq71
    ·exact zq64
    intro v b1 HL;refine wpAnyH_ready (rs:=[11,18,19]) kZ sZ ?_;refine AllReadyH.cons rfl (fun K hK=>?_) (AllReadyH.cons rfl (fun K hK=>?_) (AllReadyH.cons rfl (fun K hK=>?_) AllReadyH.nil))
    ·skip;go_simp;refine (a1u _ _ _ l st sc o tx _ (HUW.o.below HL.o.bw) (HIW.o.below HL.o.bw) (HOW.o.below HL.o.bw) hm HH1.o HH2.o).mono ?_;exact zq33
    ·exact zq63
    ·exact zq65
    intro v xa xc ya yc HL HR;refine wpAnyH_ready (rs:=[17,18,19]) kZ sZ ?_;refine AllReadyH.cons rfl (fun K hK=>?_) (AllReadyH.cons rfl (fun K hK=>?_) (AllReadyH.cons rfl (fun K hK=>?_) AllReadyH.nil))
    ·exact zq51
    ·exact zq47
    ·exact zq48
    intro v b2 b3 HL;refine wpAnyH_ready (rs:=[11,17]) kZ sZ ?_;refine AllReadyH.cons rfl (fun K hK=>?_) (AllReadyH.cons rfl (fun K hK=>?_) AllReadyH.nil)
    ·skip;go_simp;refine (a1u _ _ _ l st sc o tx _ (HUW.o.below HL.o.bw) (HIW.o.below HL.o.bw) (HOW.o.below HL.o.bw) hm HH1.o HH2.o).mono ?_;exact zq28
    ·exact zq66
    intro v b1 b3 HL;refine wpAnyH_ready (rs:=[11,18]) kZ sZ ?_;refine AllReadyH.cons rfl (fun K hK=>?_) (AllReadyH.cons rfl (fun K hK=>?_) AllReadyH.nil)
    ·skip;go_simp;refine (a1u _ _ _ l st sc o tx _ (HUW.o.below HL.o.bw) (HIW.o.below HL.o.bw) (HOW.o.below HL.o.bw) hm HH1.o HH2.o).mono ?_;exact zq29
    ·exact zq60
    intro v b1 b2 HL;refine wpAnyH_ready (rs:=[11,19]) kZ sZ ?_;refine AllReadyH.cons rfl (fun K hK=>?_) (AllReadyH.cons rfl (fun K hK=>?_) AllReadyH.nil)
    ·skip;go_simp;refine (a1u _ _ _ l st sc o tx _ (HUW.o.below HL.o.bw) (HIW.o.below HL.o.bw) (HOW.o.below HL.o.bw) hm HH1.o HH2.o).mono ?_;exact zq30
    ·exact zq61
    intro v b3 xa xc ya yc HL HR;refine wpAnyH_ready (rs:=[17,18]) kZ sZ ?_;refine AllReadyH.cons rfl (fun K hK=>?_) (AllReadyH.cons rfl (fun K hK=>?_) AllReadyH.nil)
    ·exact zq49
    ·exact zq43
    intro v b2 xa xc ya yc HL HR;refine wpAnyH_ready (rs:=[17,19]) kZ sZ ?_;refine AllReadyH.cons rfl (fun K hK=>?_) (AllReadyH.cons rfl (fun K hK=>?_) AllReadyH.nil)
    ·exact zq50
    ·exact zq45
    intro v b1 xa xc ya yc HL HR;refine wpAnyH_ready (rs:=[18,19]) kZ sZ ?_;refine AllReadyH.cons rfl (fun K hK=>?_) (AllReadyH.cons rfl (fun K hK=>?_) AllReadyH.nil)
    ·exact zq44
    ·exact zq46
    intro v b1 b2 b3 HL;refine trd 11 fun K hK=>?_;go_simp;refine (a1u _ _ _ l st sc o tx _ (HUW.o.below HL.o.bw) (HIW.o.below HL.o.bw) (HOW.o.below HL.o.bw) hm HH1.o HH2.o).mono ?_;exact zy0;exact zy1;exact zy2;exact zy3;exact zy4
   case rest=>
    obtain⟨b1,b2,b3,xa,xc,ya,yc,rfl,rfl,rfl,rfl,hx1,hx2,hx3,hrows,hb,hw1,hw2,hw3⟩:=hcut;have HX3:=qh (HX2.o.below hb);have HR3:=qh (HR2.o.below hb);have HB3:=bt HB2 hb;have HX1:=qh hx1;have HXT:=qh hx2;have HE3:=qh hx3;have HRO:=qh hrows;generalize hww:wc=w3 at *;clear hww hb hx1 hx2 hx3 hrows HX2 HR2 HB2
    cases ok
    ·have HP:=qh (HOP.o rfl);obtain⟨⟨o0,o1,o2,o3,o4,o5,o6⟩,_⟩:=HX3.o;obtain⟨⟨r0,r1,r2,r3,r4,r5,r6⟩,f0,f1,f2,f3,f4,f5⟩:=HR3.o;obtain⟨V,hV⟩:∃v,((((((w3.setCell ⟨w.heap.size+1,0,none⟩ ((.slice ad l.length cap))).setCell ⟨w.heap.size+1,1,none⟩ ((.slice sd st.length sap))).setCell ⟨w.heap.size+1,2,none⟩ (.string (S sc))).setCell ⟨w.heap.size+1,3,none⟩ (.string (S d))).setCell ⟨w.heap.size+1,4,none⟩ (.string (S p))).setCell ⟨w.heap.size+1,5,none⟩ (.int .i64 n))=v:=⟨_,rfl⟩;have hset:Chg (fun b=>b=w.heap.size+1) w3 V:=by rw [←hV];exact (((((((Chg.refl (fun b=>b=w.heap.size+1) w3).setCell (p:=⟨w.heap.size+1,0,none⟩) rfl _).setCell (p:=⟨w.heap.size+1,1,none⟩) rfl _).setCell (p:=⟨w.heap.size+1,2,none⟩) rfl _).setCell (p:=⟨w.heap.size+1,3,none⟩) rfl _).setCell (p:=⟨w.heap.size+1,4,none⟩) rfl _).setCell (p:=⟨w.heap.size+1,5,none⟩) rfl _)
     have HRV:=qh (show SOut (w.heap.size+1) ((.slice ad l.length cap)) ((.slice sd st.length sap)) sc d p n V from by rw [←hV];exact ((HR3.o.set0 (x:=(.slice ad l.length cap))).set1 (x:=(.slice sd st.length sap)) (r:=sc)).set3 (d':=d) (p':=p) (n':=n));have HBV:=qh (Chg.a0k HB3.o hset HB3.o.size (fun b h=>by have h9:b=w.heap.size+1:=h;omega));exact zq173
    ·have HP:=qh (HYP.o ((D,(ns,nsc)),(en,et)) rfl);have HED:=qh (HEO.o rfl);obtain⟨⟨o0,o1,o2,o3,o4,o5,o6⟩,g0,g1,g2,g3,g4,g5⟩:=HX3.o;obtain⟨d0,dz⟩:=HX1.o;obtain⟨t0,t1,tz⟩:=HXT.o;obtain⟨w6,hw6⟩:∃v,((w3.setCell ⟨w.heap.size,0,none⟩ (.slice xa D.length xc)).setCell ⟨w.heap.size,1,none⟩ (.slice ya ns.length yc)).setCell ⟨w.heap.size,2,none⟩ (.string (S nsc))=v:=⟨_,rfl⟩;have hset:Chg (fun b=>b=w.heap.size) w3 w6:=by rw [←hw6];exact (((Chg.refl (fun b=>b=w.heap.size) w3).setCell (p:=⟨w.heap.size,0,none⟩) rfl _).setCell (p:=⟨w.heap.size,1,none⟩) rfl _).setCell (p:=⟨w.heap.size,2,none⟩) rfl _
     have HX6:=qh (show SOut w.heap.size (.slice xa D.length xc) (.slice ya ns.length yc) nsc d p n w6 from by rw [←hw6];exact (HX3.o.set0 (x:=.slice xa D.length xc)).set1 (x:=.slice ya ns.length yc) (r:=nsc));have HR6:=qh (HR3.o.a0e hset oZ);have HE6:=qh (HE3.o.a0e hset oZ);have HB6:=qh (Chg.a0k HB3.o hset HB3.o.size (fun b h=>by have h9:b=w.heap.size:=h;omega));have HRO6:=qh (HRO.o.low hset (fun b h=>by have h9:b=w.heap.size:=h;omega))
     go_upto_region 10 with fail
     try rw [hw6]
     clear o0 o1 o2 o3 o4 o5 o6 g0 g1 g2 g3 g4 g5 d0 dz t0 t1 tz hset hw6 HX3 HR3 HE3 HB3 HX1 HXT HRO;have HXD:=qh (HX6.o.below bZ.drew);have HRD2:=qh (HR6.o.below bZ.drew);have HEB:=qh (HE6.o.below bZ.drew);have HBD:=qh (HB6.o.trans (bZ.drew.mono HB6.o.size))
     go_upto_region 10 with fail
     refine wp_region_held_drew (S:=fun v=>SOut (w.heap.size) (.slice xa D.length xc) (.slice ya ns.length yc) nsc d p n v∧a0n (b3) (.int .i64 en) et v) kZ ⟨HXD.o,HEB.o⟩ (fun hS0=>?_);have HCD:=qh (show Chg (fun b=>b=w.heap.size+1) w6 w6.drew from (Chg.refl _ _).drew);generalize w6.drew=y0 at *;refine tk13 0 hS0 ?_;refine tk13 1 hS0 ?_;refine trd 2 fun K hK=>?_;go_simp;refine (c4p en et _ HED.o).mono ?_;rintro e y1 ⟨rfl,hb⟩;have HR5:=qh (HRD2.o.below hb);have HB5:=bt HBD hb;have HC5:=qh (HCD.o.trans (Below.chg hb _));refine hK.out _ _ ⟨hS0.1.below hb,hS0.2.below hb⟩ (fun hS1=>?_);clear hK K hb
     try simp only [qA,qB,qC,Act.put,qD,qE,qF]
     obtain⟨⟨r0,r1,r2,r3,r4,r5,r6⟩,f0,f1,f2,f3,f4,f5⟩:=HR5.o;obtain⟨V,hV⟩:∃v,((((((y1.setCell ⟨w.heap.size+1,0,none⟩ (.slice xa D.length xc)).setCell ⟨w.heap.size+1,1,none⟩ (.slice ya ns.length yc)).setCell ⟨w.heap.size+1,2,none⟩ (.string (S nsc))).setCell ⟨w.heap.size+1,3,none⟩ (.string (S d))).setCell ⟨w.heap.size+1,4,none⟩ (.string (S p))).setCell ⟨w.heap.size+1,5,none⟩ (.int .i64 n))=v:=⟨_,rfl⟩;have hset:Chg (fun b=>b=w.heap.size+1) y1 V:=by rw [←hV];exact (((((((Chg.refl (fun b=>b=w.heap.size+1) y1).setCell (p:=⟨w.heap.size+1,0,none⟩) rfl _).setCell (p:=⟨w.heap.size+1,1,none⟩) rfl _).setCell (p:=⟨w.heap.size+1,2,none⟩) rfl _).setCell (p:=⟨w.heap.size+1,3,none⟩) rfl _).setCell (p:=⟨w.heap.size+1,4,none⟩) rfl _).setCell (p:=⟨w.heap.size+1,5,none⟩) rfl _)
     have HRV:=qh (show SOut (w.heap.size+1) (.slice xa D.length xc) (.slice ya ns.length yc) nsc d p n V from by rw [←hV];exact ((HR5.o.set0 (x:=.slice xa D.length xc)).set1 (x:=.slice ya ns.length yc) (r:=nsc)).set3 (d':=d) (p':=p) (n':=n));have HBV:=qh (Chg.a0k HB5.o hset HB5.o.size (fun b h=>by have h9:b=w.heap.size+1:=h;omega));have HCV:=qh (HC5.o.trans hset);refine trd 3 fun K hK=>?_;go_simp;refine hK.out _ _ (by (try rw [hV]);exact⟨hS1.1.a0e hset (fun h=>by have h9:w.heap.size=w.heap.size+1:=h;omega),hS1.2.a0e hset (fun h=>by have h9:b3=w.heap.size+1:=h;omega)⟩) (fun hS2=>?_);clear hK K
     try rw [hV]at hS2⊢
     clear r0 r1 r2 r3 r4 r5 r6 f0 f1 f2 f3 f4 f5
     try simp only [qA,qB,qC,Act.put,qD,qE,qF]
     refine tk13 4 hS2 ?_;refine wpAnyH_done kZ ?_ _;go_wp2
     try rw [hV]
     clear hset hV;obtain⟨q0,q1,q2,q3,q4,q5,q6⟩:=HRV.o.1;refine bodyPost_ret (v:=.tuple #[a1e (.slice xa D.length xc) (.slice ya ns.length yc) nsc d p n,.string (S (P.fmtE (en,et)))]) (by simp [results,Tryz.results170,go_sem,q0,q1,q2,q3,q4,q5]) rfl ⟨.slice xa D.length xc,.slice ya ns.length yc,by rw [HP.o];rfl,by rw [HP.o];exact .inr ((HRO6.o.low HCV.o (fun b h=>by have h9:b=w.heap.size+1:=h;omega)).freshE (w:=w) oZ),by rw [HP.o];exact .inr ((HRO6.o.low HCV.o (fun b h=>by have h9:b=w.heap.size+1:=h;omega)).freshI (w:=w) oZ),HBV.o⟩
end Go.Proofs.YtggfdnopminemaaGreatDoor
