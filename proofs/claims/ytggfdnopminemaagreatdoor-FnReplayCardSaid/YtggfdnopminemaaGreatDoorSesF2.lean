/- Walks: an entry defined. -/
import Derived.Test.YtggfdnopminemaaGreatDoorSesF1
set_option linter.all false
namespace Go.Proofs.YtggfdnopminemaaGreatDoor
open Go.Proofs.Tryz
open Go Go.RowKit
set_option maxHeartbeats 8000000
set_option maxRecDepth 100000
variable {b:Bool} {o:List Int} {s:P.Ses} {more x y:Str}
theorem P.c0u (hc:Lib.cut more [32]=(x,y,b)) (h:P.a1u x=none):P.a1h s more=(s,none):=by rw [P.b1s,hc];simp only;rw [h]
theorem P.c4r (hc:Lib.cut more [32]=(x,y,b)) (h:P.a1u x=some o) (h2:(P.a3j s.1 s.2 (o,y)).2=false):P.a1h s more=(s,none):=by
 rw [P.b1s,hc];simp only;rw [h];simp only;rw [if_neg (by rw [h2];decide)]
theorem P.c3m {r:(P.Dic×P.Tr)×P.Edit} (hc:Lib.cut more [32]=(x,y,b)) (h:P.a1u x=some o) (h2:P.a3j s.1 s.2 (o,y)=(r,true)):P.a1h s more=(r.1,some (P.fmtE r.2)):=by
 rw [P.b1s,hc];simp only;rw [h];simp only;rw [h2,if_pos rfl]
theorem c3i (lo B:Nat) (l:P.Dic) (st:List Int) (sc d p:Str) (n:Int) (more:Str) (w:World) (h:SesM lo B (l,(st,sc)) (d,p,n) w) (hm:Small l) (ht:P.trans l (st,sc)=true) (hl:more.length<=2^20) (hE:L.Env w) :
 Cz 141 #[.pointer (some ⟨B,0,none⟩),.string (S more)] w (a5v lo B (P.a1h (l,(st,sc)) more) (d,p,n) w):=by
 have HSM:=qh h
 obtain⟨hEB,hlo,u,us,hS,hR⟩:=h
 have hBz:B<w.heap.size:=hS.1.2.2.2.2.2.2
 have hu:=hR.dic;have hus:=hR.str
 simp only at hS hR hu hus
 obtain⟨ad,cap,rfl,_,_⟩:=id hu
 obtain⟨sd,sap,rfl,_,_⟩:=id hus
 have HU:=qh hu;have HUS:=qh hus;have HE:=qh hE
 have HX:=qh hS
 have HT0S:=qh ht;have HSP:=qh (P.a1m ht)
 have hcl:=P.a9f more [32]
 clear ht hu hus hE hR hS
 go_enter Tryz.func141,Tryz.ntmps141
 go_wp2_with fail
 refine (L.c0k more 32 _ oZ HE.o).mono ?_
 rintro e w1 ⟨rfl,k1,rfl⟩
 obtain⟨hd,tx,hb,hcut⟩:∃x y b,Lib.cut more [32]=(x,y,b):=⟨_,_,_,rfl⟩
 have HD0:=qh (P.c0u (s:=(l,(st,sc))) hcut);have HD2:=qh (λo=>P.c4r (s:=(l,(st,sc))) (o:=o) hcut);have HD3:=qh (λo r=>P.c3m (s:=(l,(st,sc))) (o:=o) (r:=r) hcut)
 rw [hcut]at hcl⊢
 simp only at hcl⊢
 clear hcut
 have hb1:Bl w (w.drewN k1):=below_drewN bZ _
 have HX1:=qh (HX.o.below hb1);have HB1:=qh hb1
 clear hb1 HX
 generalize w.drewN k1=w1 at *
 go_wp2_with fail
 refine (a7d hd _ oZ ((HE.o.below HB1.o HE.o.size).dic)).mono ?_
 rintro e w2 ⟨ou,rfl,ho,hb⟩
 have HX2:=qh (HX1.o.below hb);have HB2:=bt HB1 hb;have HO:=qh ho
 obtain⟨oa,oc,rfl⟩:=a0h ho
 have hz2:=HB2.o.size
 obtain⟨ro,hro⟩:∃r,P.a1u hd=r:=⟨_,rfl⟩
 have hol:(ro.getD []).length<=6:=by
  rw [<-hro]
  cases hp:P.a1u hd with
  |none=>simp
  |some o=>have:=P.a1k (P.a8k hp).1;exact this.2
 have HRO:=qh hro;rw [hro]at HO;obtain⟨o,ho2⟩:∃o,ro.getD []=o:=⟨_,rfl⟩;have HOE:=qh ho2;rw [hro,ho2];rw [ho2]at HO hol;obtain⟨D,ns,nsc,en,et,ok,hrr⟩:∃D ns nsc en et ok,P.a3j l (st,sc) (o,tx)=(((D,(ns,nsc)),(en,et)),ok):=⟨_,_,_,_,_,_,rfl⟩;have hns:ns.length<=st.length:=by have h:=P.b3k l (st,sc) (o,tx);rw [hrr]at h;exact h
 obtain⟨hl1,hl2⟩:=HSP.o;try simp only at hl1 hl2
 have HNL:=qh (show ns.length<=2^30 by omega);have HRR:=qh hrr;refine zm38 ?_;intro HEO HH1 HH2 HUW HIW HOW;have HEW:=qh ((HE.o.below HB2.o HE.o.size).dic);clear ho hb HX1 HB1 hrr hns HSP hro ho2;go_upto_region 3 with fail;generalize w2=wr at *;have hbzW:B<wr.heap.size:=by omega
 go_cut [11,12,13,14] (λq1 q2 q3 q4 wx=>∃b1 b2 b3 xa xc ya yc,q1=.pointer (some ⟨b1,0,none⟩)/\q2=.pointer (some ⟨b2,0,none⟩)/\q3=.pointer (some ⟨b3,0,none⟩)/\q4=.bool ok/\Box1 b1 (.slice xa D.length xc) wx/\a1z b2 (.slice ya ns.length yc) nsc wx/\a1z b3 (.int .i64 en) et wx/\DfR wr (some b1) (some b2) (some b3) (.slice xa D.length xc) (.slice ya ns.length yc) D ns wx/\Bl wr wx/\wr.heap.size<=b1/\wr.heap.size<=b2/\wr.heap.size<=b3)
 case first=>
  apply a0m;intro k1111;apply a0m;intro k1110;apply a0m;intro k1101;apply a0m;intro k1011;apply a0m;intro k0111;apply a0m;intro k1100;apply a0m;intro k1010;apply a0m;intro k1001;apply a0m;intro k0110;apply a0m;intro k0101;apply a0m;intro k0011;apply a0m;intro k1000;apply a0m;intro k0100;apply a0m;intro k0010;apply a0m;intro k0001;have HL0:=qh (show DfSt wr B (.slice ad l.length cap) (.slice sd st.length sap) sc none none none wr.drew from⟨⟨HX2.o.1.1,HX2.o.1.2.1,HX2.o.1.2.2.1,HX2.o.1.2.2.2.2.2.2⟩,hbzW,bZ.drew,λ_ e=>(by cases e),λ_ e=>(by cases e),λ_ e=>(by cases e),λ_ _ e=>(by cases e),λ_ _ e=>(by cases e),λ_ _ e=>(by cases e)⟩);refine wp_region_held_drew (S:=DfS B (.slice ad l.length cap) (.slice sd st.length sap) sc) kZ HL0.o.s (λhS=>?_);refine zm76 ?_;refine tk0 9 hS ?_;refine tk0 10 hS ?_;generalize wr.drew=v at hS HL0⊢;have HL:=qh HL0.o;clear HL0 hS;refine wpAnyH_ready (rs:=[11,17,18,19]) kZ sZ ?_;refine AllReadyH.cons rfl (λK hK=>?_) (AllReadyH.cons rfl (λK hK=>?_) (AllReadyH.cons rfl (λK hK=>?_) (AllReadyH.cons rfl (λK hK=>?_) AllReadyH.nil)))
  .skip;go_simp;refine zm3 ?_;exact zq35
  .exact zq78
  .exact zq71
  .exact zq74
  intro v b3 HL;refine wpAnyH_ready (rs:=[11,17,18]) kZ sZ ?_;refine AllReadyH.cons rfl (λK hK=>?_) (AllReadyH.cons rfl (λK hK=>?_) (AllReadyH.cons rfl (λK hK=>?_) AllReadyH.nil))
  .skip;go_simp;refine zm3 ?_;exact zq32
  .exact zq76
  .exact zq64
  intro v b2 HL;refine wpAnyH_ready (rs:=[11,17,19]) kZ sZ ?_;refine AllReadyH.cons rfl (λK hK=>?_) (AllReadyH.cons rfl (λK hK=>?_) (AllReadyH.cons rfl (λK hK=>?_) AllReadyH.nil))
  .skip;go_simp;refine zm3 ?_;exact zq33
  .exact zq77
  .exact zq67
  intro v b1 HL;refine wpAnyH_ready (rs:=[11,18,19]) kZ sZ ?_;refine AllReadyH.cons rfl (λK hK=>?_) (AllReadyH.cons rfl (λK hK=>?_) (AllReadyH.cons rfl (λK hK=>?_) AllReadyH.nil))
  .skip;go_simp;refine zm3 ?_;exact zq34
  .exact zq65
  .exact zq68
  intro v xa xc ya yc HL HR;refine wpAnyH_ready (rs:=[17,18,19]) kZ sZ ?_;refine AllReadyH.cons rfl (λK hK=>?_) (AllReadyH.cons rfl (λK hK=>?_) (AllReadyH.cons rfl (λK hK=>?_) AllReadyH.nil))
  .exact zq51
  .exact zq46
  .exact zq47
  intro v b2 b3 HL;refine wpAnyH_ready (rs:=[11,17]) kZ sZ ?_;refine AllReadyH.cons rfl (λK hK=>?_) (AllReadyH.cons rfl (λK hK=>?_) AllReadyH.nil)
  .skip;go_simp;refine zm3 ?_;exact zq29
  .exact zq70
  intro v b1 b3 HL;refine wpAnyH_ready (rs:=[11,18]) kZ sZ ?_;refine AllReadyH.cons rfl (λK hK=>?_) (AllReadyH.cons rfl (λK hK=>?_) AllReadyH.nil)
  .skip;go_simp;refine zm3 ?_;exact zq30
  .exact zq62
  intro v b1 b2 HL;refine wpAnyH_ready (rs:=[11,19]) kZ sZ ?_;refine AllReadyH.cons rfl (λK hK=>?_) (AllReadyH.cons rfl (λK hK=>?_) AllReadyH.nil)
  .skip;go_simp;refine zm3 ?_;exact zq31
  .exact zq63
  intro v b3 xa xc ya yc HL HR;refine wpAnyH_ready (rs:=[17,18]) kZ sZ ?_;refine AllReadyH.cons rfl (λK hK=>?_) (AllReadyH.cons rfl (λK hK=>?_) AllReadyH.nil)
  .exact zq48
  .exact zq42
  intro v b2 xa xc ya yc HL HR;refine wpAnyH_ready (rs:=[17,19]) kZ sZ ?_;refine AllReadyH.cons rfl (λK hK=>?_) (AllReadyH.cons rfl (λK hK=>?_) AllReadyH.nil)
  .exact zq49
  .exact zq44
  intro v b1 xa xc ya yc HL HR;refine wpAnyH_ready (rs:=[18,19]) kZ sZ ?_;refine AllReadyH.cons rfl (λK hK=>?_) (AllReadyH.cons rfl (λK hK=>?_) AllReadyH.nil)
  .exact zq43
  .exact zq45
  intro v b1 b2 b3 HL;refine trd 11 λK hK=>?_;go_simp;refine zm3 ?_;rintro e v9 ⟨x,y,m,rfl,hd,ho,hm1,hm2,hb⟩;rw [HRR.o]at hd ho⊢;simp only at hd ho⊢;unfold a1d;have HLn:=qh (HL.o.below hb);have HRn:=qh (DfR.called HL.o hd ho hm1 hm2 HNL.o);obtain⟨xa,xc,rfl,-,-⟩:=hd;obtain⟨ya,yc,rfl⟩:=a0h ho;refine hK.out _ _ HLn.o.s (λhS9=>?_);clear hK K ho hm1 hm2 hb hS9;refine zm0 ?_;refine tk0 12 HLn.o.s ?_;refine tk0 13 HLn.o.s ?_;refine tk0 14 HLn.o.s ?_;refine tk0 15 HLn.o.s ?_;refine tk0 16 HLn.o.s ?_;clear HL;revert HRn;revert HLn;revert yc;revert ya;revert xc;revert xa;revert b3;revert b2;revert b1;revert v9;exact k1111;intro v b2 b3 xa xc ya yc HL HR;refine trd 17 λK hK=>?_;go_simp;have HLn:=qh (HL.o.a5s);have HRn:=qh (HR.o.alloc (.cells #[.slice none 0 0] 26) (.inr rfl) (.inl rfl) (.inl rfl));refine zm48 ?_;clear hK K;refine zm0 ?_;clear HL HR;generalize v.alloc (.cells #[.slice none 0 0] 26)=v9 at HLn HRn⊢;generalize v.heap.size=b1 at HLn HRn⊢;revert HRn;revert HLn;revert yc;revert ya;revert xc;revert xa;revert b3;revert b2;revert b1;revert v9;exact k1111;intro v b1 b3 xa xc ya yc HL HR;refine trd 18 λK hK=>?_;go_simp;have HLn:=qh (HL.o.a5u);have HRn:=qh (HR.o.alloc (.cells #[.slice none 0 0,.string (S [])] 35) (.inl rfl) (.inr rfl) (.inl rfl));refine zm48 ?_;clear hK K;refine zm0 ?_;clear HL HR;generalize v.alloc (.cells #[.slice none 0 0,.string (S [])] 35)=v9 at HLn HRn⊢;generalize v.heap.size=b2 at HLn HRn⊢;revert HRn;revert HLn;revert yc;revert ya;revert xc;revert xa;revert b3;revert b2;revert b1;revert v9;exact k1111;intro v b1 b2 xa xc ya yc HL HR;refine trd 19 λK hK=>?_;go_simp;have HLn:=qh (HL.o.b2y);have HRn:=qh (HR.o.alloc (.cells #[.int .i64 0,.string (S [])] 55) (.inl rfl) (.inl rfl) (.inr rfl));refine zm48 ?_;clear hK K;refine zm0 ?_;clear HL HR;generalize v.alloc (.cells #[.int .i64 0,.string (S [])] 55)=v9 at HLn HRn⊢;generalize v.heap.size=b3 at HLn HRn⊢;revert HRn;revert HLn;revert yc;revert ya;revert xc;revert xa;revert b3;revert b2;revert b1;revert v9;exact k1111;exact zq3
 case rest=>
  obtain⟨b1,b2,b3,xa,xc,ya,yc,rfl,rfl,rfl,rfl,hx1,hx2,hx3,hrows,hb,hw1,hw2,hw3⟩:=hcut;have HX3:=qh (HX2.o.below hb);have HB3:=bt HB2 hb;have HX1:=qh hx1;have HXT:=qh hx2;have HE3:=qh hx3;have HRW:=qh hrows;generalize hww:wc=w3 at *;clear hww hb hx1 hx2 hx3 hrows HX2 HB2
  cases ro with
  |none=>
   have HP:=qh (HD0.o HRO.o);go_wp2;go_ret2;exact HSM.o.keep (x:=[]) HB3.o HP.o
  |some o'=>
   have hoo:o'=o:=HOE.o;subst hoo
   cases ok
   .have HP:=qh (HD2.o o' HRO.o (by rw [HRR.o]));go_wp2;go_ret2;exact HSM.o.keep (x:=[]) HB3.o HP.o
   .have HP:=qh (HD3.o o' ((D,(ns,nsc)),(en,et)) HRO.o HRR.o);have HED:=qh (HEO.o rfl);have HXD:=qh (HX3.o.below bZ.drew);have HX1D:=qh (HX1.o.below bZ.drew);have HXTD:=qh (HXT.o.below bZ.drew);have HE3D:=qh (HE3.o.below bZ.drew);have HB4:=qh (HB3.o.trans (bZ.drew.mono HB3.o.size));have HRWD:=qh (HRW.o.below bZ.drew);clear HX3 HX1 HXT HE3 HB3 HRW;have hbz:B<wr.heap.size:=by omega
    go_upto_region 6 with fail;refine wp_region_held_drew (S:=λv=>Box1 b1 (.slice xa D.length xc) v/\a1z b2 (.slice ya ns.length yc) nsc v) kZ ⟨HX1D.o,HXTD.o⟩ (λhS0=>?_);generalize w3.drew=v0 at *;refine tk16 0 hS0 ?_;refine tk16 1 hS0 ?_;refine tk16 2 hS0 ?_;refine tk16 3 hS0 ?_;refine tk16 4 hS0 ?_;refine tk16 5 hS0 ?_;obtain⟨⟨o0,o1,o2,o3,o4,o5,o6⟩,g0,g1,g2,g3,g4,g5⟩:=HXD.o;obtain⟨y1,hy1⟩:∃v,v0.setCell ⟨B,0,none⟩ (.slice xa D.length xc)=v:=⟨_,rfl⟩;have hc1:Chg (λb=>b=B) v0 y1:=by rw [<-hy1];exact (Chg.refl (λb=>b=B) v0).setCell (p:=⟨B,0,none⟩) rfl _
    have HX4:Hq (SOut B (.slice xa D.length xc) (.slice sd st.length sap) sc d p n y1):=⟨by rw [<-hy1];exact HXD.o.set0 (x:=.slice xa D.length xc)⟩;refine trd 6 λK hK=>?_;go_simp;refine hK.out _ _ (by (try rw [hy1]);exact⟨hS0.1.a0b hc1 oZ,hS0.2.a0b hc1 oZ⟩) (λhS1=>?_);clear hK K;try rw [hy1]at hS1⊢
    clear o0 o1 o2 o3 o4 o5 o6 g0 g1 g2 g3 g4 g5 hy1;refine zm0 ?_;refine tk16 7 hS1 ?_;refine tk16 8 hS1 ?_;obtain⟨⟨o0,o1,o2,o3,o4,o5,o6⟩,g0,g1,g2,g3,g4,g5⟩:=HX4.o;obtain⟨y2,hy2⟩:∃v,(y1.setCell ⟨B,1,none⟩ (.slice ya ns.length yc)).setCell ⟨B,2,none⟩ (.string (S nsc))=v:=⟨_,rfl⟩;have hc2:Chg (λb=>b=B) y1 y2:=by rw [<-hy2];exact ((Chg.refl (λb=>b=B) y1).setCell (p:=⟨B,1,none⟩) rfl _).setCell (p:=⟨B,2,none⟩) rfl _
    have HX5:Hq (SOut B (.slice xa D.length xc) (.slice ya ns.length yc) nsc d p n y2):=⟨by rw [<-hy2];exact HX4.o.set1 (x:=.slice ya ns.length yc) (r:=nsc)⟩;refine trd 9 λK hK=>?_;go_simp;refine hK.out _ _ (by (try rw [hy2]);exact⟨hS1.1.a0b hc2 oZ,hS1.2.a0b hc2 oZ⟩) (λhS2=>?_);clear hK K;try rw [hy2]at hS2⊢
    clear o0 o1 o2 o3 o4 o5 o6 g0 g1 g2 g3 g4 g5 hy2;refine zm0 ?_;refine wpAnyH_done kZ ?_ _;have hcc:=hc1.trans hc2;have HE5:=qh (HE3D.o.a0b hcc oZ);have HRW5:=qh (HRWD.o.low hcc (λb h=>by have h9:b=B:=h;omega));have HC5:Hq (Chg (λb=>b=B) w y2):=⟨(Below.chg HB4.o _).trans hcc⟩;have HSM5:=qh (show SesM lo B (D,(ns,nsc)) (d,p,n) y2 from⟨hEB,Nat.le_trans hlo HC5.o.size,_,_,HX5.o,HRW5.o.rows oZ hbz⟩);have HEN:=qh (L.Env.chgB HE.o hEB HC5.o);clear hc1 hc2 hcc hS0 hS1 hS2 HX4 HX5 HXD HX1D HXTD HE3D HB4 HRWD;obtain⟨e0,e1,_⟩:=HE5.o;go_wp2_with fail;refine (a5z en et _ HED.o HEN.o).mono ?_;rintro e w7 ⟨rfl,hb⟩;have HC7:=qh (HC5.o.trans (Below.chg hb _));have HS7:=qh (HSM5.o.below hb);clear hb e0 e1;go_wp2;go_ret2;exact⟨P.fmtE (en,et),true,rfl,by rw [HP.o];rfl,by rw [HP.o];exact HS7.o,HC7.o⟩
end Go.Proofs.YtggfdnopminemaaGreatDoor
