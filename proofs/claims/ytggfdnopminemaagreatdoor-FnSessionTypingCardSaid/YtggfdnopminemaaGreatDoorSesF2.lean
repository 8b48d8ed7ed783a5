/- Walks: an entry defined in a session (program). -/
import Derived.Test.YtggfdnopminemaaGreatDoorZt
import Derived.Test.YtggfdnopminemaaGreatDoorSesDL
import Derived.Test.YtggfdnopminemaaGreatDoorSesC2
set_option linter.all false
namespace Go.Proofs.YtggfdnopminemaaGreatDoor
open Go Go.RowKit
set_option maxHeartbeats 8000000
set_option maxRecDepth 100000
theorem P.b5p {s:P.Ses} {more x y:Str} {b:Bool} (hc:Lib.cut more [32]=(x,y,b)) (h:P.a2q x=none):P.a5r s more=(s,none):=by rw [P.a7v,hc];simp only;rw [h]
theorem P.b6v {s:P.Ses} {more x y:Str} {b:Bool} {o:List Int} (hc:Lib.cut more [32]=(x,y,b)) (h:P.a2q x=some o) (h2:(P.a3y s.1 s.2 (o,y)).2=false):P.a5r s more=(s,none):=by
 rw [P.a7v,hc];simp only;rw [h];simp only;rw [if_neg (by rw [h2];decide)]
theorem P.b6x {s:P.Ses} {more x y:Str} {b:Bool} {o:List Int} {r:(P.Dic×P.Tr)×P.Edit} (hc:Lib.cut more [32]=(x,y,b)) (h:P.a2q x=some o) (h2:P.a3y s.1 s.2 (o,y)=(r,true)):P.a5r s more=(r.1,some (P.fmtE r.2)):=by
 rw [P.a7v,hc];simp only;rw [h];simp only;rw [h2,if_pos rfl]
theorem b7a (lo B:Nat) (l:P.Dic) (st:List Int) (sc d p:Str) (n:Int) (more:Str) (w:World) (h:SesM lo B (l,(st,sc)) (d,p,n) w) (hm:Small l) (ht:P.trans l (st,sc)=true) (hl:more.length≤2^20) (hE:L.Env w) :
 Calls Tryz.prog 141 #[.pointer (some ⟨B,0,none⟩),.string (S more)] w (a4l lo B (P.a5r (l,(st,sc)) more) (d,p,n) w):=by
 have HSM:=qh h
 obtain⟨hEB,hlo,u,us,hS,hR⟩:=h
 have hBz:B<w.heap.size:=hS.1.2.2.2.2.2.2
 have hu:=hR.dic;have hus:=hR.str
 simp only at hS hR hu hus
 obtain⟨ad,cap,rfl,_,_⟩:=id hu
 obtain⟨sd,sap,rfl,_,_⟩:=id hus
 have HU:=qh hu;have HUS:=qh hus;have HE:=qh hE
 have HX:=qh hS
 have HT0S:=qh ht;have HSP:=qh (P.a4h ht)
 have hcl:=P.a6q more [32]
 clear ht hu hus hE hR hS
 go_enter Tryz.func141,Tryz.ntmps141
 go_wp2_with fail
 refine (L.b2f more 32 _ oZ HE.o).mono ?_
 rintro e w1 ⟨rfl,k1,rfl⟩
 obtain⟨hd,tx,hb,hcut⟩:∃x y b,Lib.cut more [32]=(x,y,b):=⟨_,_,_,rfl⟩
 have HD0:=qh (P.b5p (s:=(l,(st,sc))) hcut);have HD2:=qh (fun o=>P.b6v (s:=(l,(st,sc))) (o:=o) hcut);have HD3:=qh (fun o r=>P.b6x (s:=(l,(st,sc))) (o:=o) (r:=r) hcut)
 rw [hcut]at hcl⊢
 simp only at hcl⊢
 clear hcut
 have hb1:Below w.heap.size w (w.drewN k1):=below_drewN bZ _
 have HX1:=qh (HX.o.below hb1);have HB1:=qh hb1
 clear hb1 HX
 generalize w.drewN k1=w1 at *
 go_wp2_with fail
 refine (a5j hd _ oZ ((HE.o.below HB1.o HE.o.size).dic)).mono ?_
 rintro e w2 ⟨ou,rfl,ho,hb⟩
 have HX2:=qh (HX1.o.below hb);have HB2:=bt HB1 hb;have HO:=qh ho
 obtain⟨oa,oc,rfl⟩:=a0j ho
 have hz2:=HB2.o.size
 obtain⟨ro,hro⟩:∃r,P.a2q hd=r:=⟨_,rfl⟩
 have hol:(ro.getD []).length≤6:=by
  rw [←hro]
  cases hp:P.a2q hd with
  |none=>simp
  |some o=>have:=P.a4e (P.b2c hp).1;exact this.2
 have HRO:=qh hro
 rw [hro]at HO
 obtain⟨o,ho2⟩:∃o,ro.getD []=o:=⟨_,rfl⟩
 have HOE:=qh ho2
 rw [hro,ho2]
 rw [ho2]at HO hol
 obtain⟨D,ns,nsc,en,et,ok,hrr⟩:∃D ns nsc en et ok,P.a3y l (st,sc) (o,tx)=(((D,(ns,nsc)),(en,et)),ok):=⟨_,_,_,_,_,_,rfl⟩
 have hns:ns.length≤st.length:=by have h:=P.b5z l (st,sc) (o,tx);rw [hrr]at h;exact h
 obtain⟨hl1,hl2⟩:=HSP.o
 try simp only at hl1 hl2
 have HNL:=qh (show ns.length≤2^30 by omega)
 have HRR:=qh hrr
 have HEO:=qh (show ok=true→P.a3d (en,et)=true from fun h=>by have g:=P.b6u (d:=l) (t:=(st,sc)) (e:=(o,tx)) (by rw [hrr];exact h);rw [hrr]at g;exact g)
 have HH1:=qh (show o.length≤2^20 by omega);have HH2:=qh (show tx.length≤2^30 by omega)
 have HUW:=qh (HU.o.below HB2.o);have HIW:=qh (HUS.o.below HB2.o);have HOW:=qh (a1i HO.o (show o.length≤2^45 by omega))
 have HEW:=qh ((HE.o.below HB2.o HE.o.size).dic)
 clear ho hb HX1 HB1 hrr hns HSP hro ho2
 go_upto_region 3 with fail
 generalize w2=wr at *
 have hbzW:B<wr.heap.size:=by omega
 go_cut [11,12,13,14] (fun q1 q2 q3 q4 wx=>∃b1 b2 b3 xa xc ya yc,q1=.pointer (some ⟨b1,0,none⟩)∧q2=.pointer (some ⟨b2,0,none⟩)∧q3=.pointer (some ⟨b3,0,none⟩)∧q4=.bool ok∧Box1 b1 (.slice xa D.length xc) wx∧a0w b2 (.slice ya ns.length yc) nsc wx∧a0w b3 (.int .i64 en) et wx∧DfR wr (some b1) (some b2) (some b3) (.slice xa D.length xc) (.slice ya ns.length yc) D ns wx∧Below wr.heap.size wr wx∧wr.heap.size≤b1∧wr.heap.size≤b2∧wr.heap.size≤b3)
 case first=>
  apply a2v;intro k1111;apply a2v;intro k1110;apply a2v;intro k1101;apply a2v;intro k1011;apply a2v;intro k0111;apply a2v;intro k1100;apply a2v;intro k1010;apply a2v;intro k1001;apply a2v;intro k0110;apply a2v;intro k0101;apply a2v;intro k0011;apply a2v;intro k1000;apply a2v;intro k0100;apply a2v;intro k0010;apply a2v;intro k0001;have HL0:=qh (show DfSt wr B (.slice ad l.length cap) (.slice sd st.length sap) sc none none none wr.drew from⟨⟨HX2.o.1.1,HX2.o.1.2.1,HX2.o.1.2.2.1,HX2.o.1.2.2.2.2.2.2⟩,hbzW,bZ.drew,fun _ e=>(by cases e),fun _ e=>(by cases e),fun _ e=>(by cases e),fun _ _ e=>(by cases e),fun _ _ e=>(by cases e),fun _ _ e=>(by cases e)⟩);refine wp_region_held_drew (S:=DfS B (.slice ad l.length cap) (.slice sd st.length sap) sc) kZ HL0.o.s (fun hS=>?_);refine tk1 0 hS ?_;refine tk1 1 hS ?_;refine tk1 2 hS ?_;refine tk1 3 hS ?_;refine tk1 4 hS ?_;refine tk1 5 hS ?_;refine tk1 6 hS ?_;refine tk1 7 hS ?_;refine tk1 8 hS ?_;refine tk1 9 hS ?_;refine tk1 10 hS ?_;generalize wr.drew=v at hS HL0⊢;have HL:=qh HL0.o;clear HL0 hS;refine wpAnyH_ready (rs:=[11,17,18,19]) kZ sZ ?_;refine AllReadyH.cons rfl (fun K hK=>?_) (AllReadyH.cons rfl (fun K hK=>?_) (AllReadyH.cons rfl (fun K hK=>?_) (AllReadyH.cons rfl (fun K hK=>?_) AllReadyH.nil)))
  ·skip;go_simp;refine (a1d _ _ _ l st sc o tx _ (HUW.o.below HL.o.bw) (HIW.o.below HL.o.bw) (HOW.o.below HL.o.bw) hm HH1.o HH2.o (HEW.o.below HL.o.bw HEW.o.size)).mono ?_;rintro e v9 ⟨x,y,m,rfl,hd,ho,hm1,hm2,hb⟩;rw [HRR.o]at hd ho⊢;simp only at hd ho⊢;unfold a2j;have HLn:=qh (HL.o.below hb);have HRn:=qh (DfR.called HL.o hd ho hm1 hm2 HNL.o);obtain⟨xa,xc,rfl,-,-⟩:=hd;obtain⟨ya,yc,rfl⟩:=a0j ho;refine hK.out _ _ HLn.o.s (fun hS9=>?_);clear hK K ho hm1 hm2 hb hS9
   try simp only []
   refine tk1 12 HLn.o.s ?_;refine tk1 13 HLn.o.s ?_;refine tk1 14 HLn.o.s ?_;refine tk1 15 HLn.o.s ?_;refine tk1 16 HLn.o.s ?_;clear HL;revert HRn;revert HLn;revert yc;revert ya;revert xc;revert xa;revert v9;exact k1000
  ·skip;go_simp;have HLn:=qh (HL.o.b0n);refine hK.out _ _ HLn.o.s (fun _=>?_);clear hK K
   try simp only [qA,qB,qC,Act.put,qD,qE,qF]
   clear HL;generalize v.alloc (.cells #[.slice none 0 0] 26)=v9 at HLn⊢;generalize v.heap.size=b1 at HLn⊢;revert HLn;revert b1;revert v9;exact k0100
  ·skip;go_simp;have HLn:=qh (HL.o.b0p);refine hK.out _ _ HLn.o.s (fun _=>?_);clear hK K
   try simp only [qA,qB,qC,Act.put,qD,qE,qF]
   clear HL;generalize v.alloc (.cells #[.slice none 0 0,.string (S [])] 35)=v9 at HLn⊢;generalize v.heap.size=b2 at HLn⊢;revert HLn;revert b2;revert v9;exact k0010
  ·skip;go_simp;have HLn:=qh (HL.o.b0s);refine hK.out _ _ HLn.o.s (fun _=>?_);clear hK K
   try simp only [qA,qB,qC,Act.put,qD,qE,qF]
   clear HL;generalize v.alloc (.cells #[.int .i64 0,.string (S [])] 55)=v9 at HLn⊢;generalize v.heap.size=b3 at HLn⊢;revert HLn;revert b3;revert v9;exact k0001
  intro v b3 HL;refine wpAnyH_ready (rs:=[11,17,18]) kZ sZ ?_;refine AllReadyH.cons rfl (fun K hK=>?_) (AllReadyH.cons rfl (fun K hK=>?_) (AllReadyH.cons rfl (fun K hK=>?_) AllReadyH.nil))
  ·skip;go_simp;refine (a1d _ _ _ l st sc o tx _ (HUW.o.below HL.o.bw) (HIW.o.below HL.o.bw) (HOW.o.below HL.o.bw) hm HH1.o HH2.o (HEW.o.below HL.o.bw HEW.o.size)).mono ?_;rintro e v9 ⟨x,y,m,rfl,hd,ho,hm1,hm2,hb⟩;rw [HRR.o]at hd ho⊢;simp only at hd ho⊢;unfold a2j;have HLn:=qh (HL.o.below hb);have HRn:=qh (DfR.called HL.o hd ho hm1 hm2 HNL.o);obtain⟨xa,xc,rfl,-,-⟩:=hd;obtain⟨ya,yc,rfl⟩:=a0j ho;refine hK.out _ _ HLn.o.s (fun hS9=>?_);clear hK K ho hm1 hm2 hb hS9
   try simp only []
   refine tk1 12 HLn.o.s ?_;refine tk1 13 HLn.o.s ?_;refine tk1 14 HLn.o.s ?_;refine tk1 15 HLn.o.s ?_;refine tk1 16 HLn.o.s ?_;clear HL;revert HRn;revert HLn;revert yc;revert ya;revert xc;revert xa;revert b3;revert v9;exact k1001
  ·skip;go_simp;have HLn:=qh (HL.o.b0n);refine hK.out _ _ HLn.o.s (fun _=>?_);clear hK K
   try simp only [qA,qB,qC,Act.put,qD,qE,qF]
   clear HL;generalize v.alloc (.cells #[.slice none 0 0] 26)=v9 at HLn⊢;generalize v.heap.size=b1 at HLn⊢;revert HLn;revert b3;revert b1;revert v9;exact k0101
  ·skip;go_simp;have HLn:=qh (HL.o.b0p);refine hK.out _ _ HLn.o.s (fun _=>?_);clear hK K
   try simp only [qA,qB,qC,Act.put,qD,qE,qF]
   clear HL;generalize v.alloc (.cells #[.slice none 0 0,.string (S [])] 35)=v9 at HLn⊢;generalize v.heap.size=b2 at HLn⊢;revert HLn;revert b3;revert b2;revert v9;exact k0011
  intro v b2 HL;refine wpAnyH_ready (rs:=[11,17,19]) kZ sZ ?_;refine AllReadyH.cons rfl (fun K hK=>?_) (AllReadyH.cons rfl (fun K hK=>?_) (AllReadyH.cons rfl (fun K hK=>?_) AllReadyH.nil))
  ·skip;go_simp;refine (a1d _ _ _ l st sc o tx _ (HUW.o.below HL.o.bw) (HIW.o.below HL.o.bw) (HOW.o.below HL.o.bw) hm HH1.o HH2.o (HEW.o.below HL.o.bw HEW.o.size)).mono ?_;rintro e v9 ⟨x,y,m,rfl,hd,ho,hm1,hm2,hb⟩;rw [HRR.o]at hd ho⊢;simp only at hd ho⊢;unfold a2j;have HLn:=qh (HL.o.below hb);have HRn:=qh (DfR.called HL.o hd ho hm1 hm2 HNL.o);obtain⟨xa,xc,rfl,-,-⟩:=hd;obtain⟨ya,yc,rfl⟩:=a0j ho;refine hK.out _ _ HLn.o.s (fun hS9=>?_);clear hK K ho hm1 hm2 hb hS9
   try simp only []
   refine tk1 12 HLn.o.s ?_;refine tk1 13 HLn.o.s ?_;refine tk1 14 HLn.o.s ?_;refine tk1 15 HLn.o.s ?_;refine tk1 16 HLn.o.s ?_;clear HL;revert HRn;revert HLn;revert yc;revert ya;revert xc;revert xa;revert b2;revert v9;exact k1010
  ·skip;go_simp;have HLn:=qh (HL.o.b0n);refine hK.out _ _ HLn.o.s (fun _=>?_);clear hK K
   try simp only [qA,qB,qC,Act.put,qD,qE,qF]
   clear HL;generalize v.alloc (.cells #[.slice none 0 0] 26)=v9 at HLn⊢;generalize v.heap.size=b1 at HLn⊢;revert HLn;revert b2;revert b1;revert v9;exact k0110
  ·skip;go_simp;have HLn:=qh (HL.o.b0s);refine hK.out _ _ HLn.o.s (fun _=>?_);clear hK K
   try simp only [qA,qB,qC,Act.put,qD,qE,qF]
   clear HL;generalize v.alloc (.cells #[.int .i64 0,.string (S [])] 55)=v9 at HLn⊢;generalize v.heap.size=b3 at HLn⊢;revert HLn;revert b3;revert b2;revert v9;exact k0011
  intro v b1 HL;refine wpAnyH_ready (rs:=[11,18,19]) kZ sZ ?_;refine AllReadyH.cons rfl (fun K hK=>?_) (AllReadyH.cons rfl (fun K hK=>?_) (AllReadyH.cons rfl (fun K hK=>?_) AllReadyH.nil))
  ·skip;go_simp;refine (a1d _ _ _ l st sc o tx _ (HUW.o.below HL.o.bw) (HIW.o.below HL.o.bw) (HOW.o.below HL.o.bw) hm HH1.o HH2.o (HEW.o.below HL.o.bw HEW.o.size)).mono ?_;rintro e v9 ⟨x,y,m,rfl,hd,ho,hm1,hm2,hb⟩;rw [HRR.o]at hd ho⊢;simp only at hd ho⊢;unfold a2j;have HLn:=qh (HL.o.below hb);have HRn:=qh (DfR.called HL.o hd ho hm1 hm2 HNL.o);obtain⟨xa,xc,rfl,-,-⟩:=hd;obtain⟨ya,yc,rfl⟩:=a0j ho;refine hK.out _ _ HLn.o.s (fun hS9=>?_);clear hK K ho hm1 hm2 hb hS9
   try simp only []
   refine tk1 12 HLn.o.s ?_;refine tk1 13 HLn.o.s ?_;refine tk1 14 HLn.o.s ?_;refine tk1 15 HLn.o.s ?_;refine tk1 16 HLn.o.s ?_;clear HL;revert HRn;revert HLn;revert yc;revert ya;revert xc;revert xa;revert b1;revert v9;exact k1100
  ·skip;go_simp;have HLn:=qh (HL.o.b0p);refine hK.out _ _ HLn.o.s (fun _=>?_);clear hK K
   try simp only [qA,qB,qC,Act.put,qD,qE,qF]
   clear HL;generalize v.alloc (.cells #[.slice none 0 0,.string (S [])] 35)=v9 at HLn⊢;generalize v.heap.size=b2 at HLn⊢;revert HLn;revert b2;revert b1;revert v9;exact k0110
  ·skip;go_simp;have HLn:=qh (HL.o.b0s);refine hK.out _ _ HLn.o.s (fun _=>?_);clear hK K
   try simp only [qA,qB,qC,Act.put,qD,qE,qF]
   clear HL;generalize v.alloc (.cells #[.int .i64 0,.string (S [])] 55)=v9 at HLn⊢;generalize v.heap.size=b3 at HLn⊢;revert HLn;revert b3;revert b1;revert v9;exact k0101
  intro v xa xc ya yc HL HR;refine wpAnyH_ready (rs:=[17,18,19]) kZ sZ ?_;refine AllReadyH.cons rfl (fun K hK=>?_) (AllReadyH.cons rfl (fun K hK=>?_) (AllReadyH.cons rfl (fun K hK=>?_) AllReadyH.nil))
  ·skip;go_simp;have HLn:=qh (HL.o.b0n);have HRn:=qh (HR.o.alloc (.cells #[.slice none 0 0] 26) (.inr rfl) (.inl rfl) (.inl rfl));refine hK.out _ _ HLn.o.s (fun _=>?_);clear hK K
   try simp only [qA,qB,qC,Act.put,qD,qE,qF]
   clear HL HR;generalize v.alloc (.cells #[.slice none 0 0] 26)=v9 at HLn HRn⊢;generalize v.heap.size=b1 at HLn HRn⊢;revert HRn;revert HLn;revert yc;revert ya;revert xc;revert xa;revert b1;revert v9;exact k1100
  ·skip;go_simp;have HLn:=qh (HL.o.b0p);have HRn:=qh (HR.o.alloc (.cells #[.slice none 0 0,.string (S [])] 35) (.inl rfl) (.inr rfl) (.inl rfl));refine hK.out _ _ HLn.o.s (fun _=>?_);clear hK K
   try simp only [qA,qB,qC,Act.put,qD,qE,qF]
   clear HL HR;generalize v.alloc (.cells #[.slice none 0 0,.string (S [])] 35)=v9 at HLn HRn⊢;generalize v.heap.size=b2 at HLn HRn⊢;revert HRn;revert HLn;revert yc;revert ya;revert xc;revert xa;revert b2;revert v9;exact k1010
  ·skip;go_simp;have HLn:=qh (HL.o.b0s);have HRn:=qh (HR.o.alloc (.cells #[.int .i64 0,.string (S [])] 55) (.inl rfl) (.inl rfl) (.inr rfl));refine hK.out _ _ HLn.o.s (fun _=>?_);clear hK K
   try simp only [qA,qB,qC,Act.put,qD,qE,qF]
   clear HL HR;generalize v.alloc (.cells #[.int .i64 0,.string (S [])] 55)=v9 at HLn HRn⊢;generalize v.heap.size=b3 at HLn HRn⊢;revert HRn;revert HLn;revert yc;revert ya;revert xc;revert xa;revert b3;revert v9;exact k1001
  intro v b2 b3 HL;refine wpAnyH_ready (rs:=[11,17]) kZ sZ ?_;refine AllReadyH.cons rfl (fun K hK=>?_) (AllReadyH.cons rfl (fun K hK=>?_) AllReadyH.nil)
  ·skip;go_simp;refine (a1d _ _ _ l st sc o tx _ (HUW.o.below HL.o.bw) (HIW.o.below HL.o.bw) (HOW.o.below HL.o.bw) hm HH1.o HH2.o (HEW.o.below HL.o.bw HEW.o.size)).mono ?_;rintro e v9 ⟨x,y,m,rfl,hd,ho,hm1,hm2,hb⟩;rw [HRR.o]at hd ho⊢;simp only at hd ho⊢;unfold a2j;have HLn:=qh (HL.o.below hb);have HRn:=qh (DfR.called HL.o hd ho hm1 hm2 HNL.o);obtain⟨xa,xc,rfl,-,-⟩:=hd;obtain⟨ya,yc,rfl⟩:=a0j ho;refine hK.out _ _ HLn.o.s (fun hS9=>?_);clear hK K ho hm1 hm2 hb hS9
   try simp only []
   refine tk1 12 HLn.o.s ?_;refine tk1 13 HLn.o.s ?_;refine tk1 14 HLn.o.s ?_;refine tk1 15 HLn.o.s ?_;refine tk1 16 HLn.o.s ?_;clear HL;exact zq45
  ·skip;go_simp;have HLn:=qh (HL.o.b0n);refine hK.out _ _ HLn.o.s (fun _=>?_);clear hK K
   try simp only [qA,qB,qC,Act.put,qD,qE,qF]
   clear HL;generalize v.alloc (.cells #[.slice none 0 0] 26)=v9 at HLn⊢;generalize v.heap.size=b1 at HLn⊢;revert HLn;revert b3;revert b2;revert b1;revert v9;exact k0111
  intro v b1 b3 HL;refine wpAnyH_ready (rs:=[11,18]) kZ sZ ?_;refine AllReadyH.cons rfl (fun K hK=>?_) (AllReadyH.cons rfl (fun K hK=>?_) AllReadyH.nil)
  ·skip;go_simp;refine (a1d _ _ _ l st sc o tx _ (HUW.o.below HL.o.bw) (HIW.o.below HL.o.bw) (HOW.o.below HL.o.bw) hm HH1.o HH2.o (HEW.o.below HL.o.bw HEW.o.size)).mono ?_;rintro e v9 ⟨x,y,m,rfl,hd,ho,hm1,hm2,hb⟩;rw [HRR.o]at hd ho⊢;simp only at hd ho⊢;unfold a2j;have HLn:=qh (HL.o.below hb);have HRn:=qh (DfR.called HL.o hd ho hm1 hm2 HNL.o);obtain⟨xa,xc,rfl,-,-⟩:=hd;obtain⟨ya,yc,rfl⟩:=a0j ho;refine hK.out _ _ HLn.o.s (fun hS9=>?_);clear hK K ho hm1 hm2 hb hS9
   try simp only []
   refine tk1 12 HLn.o.s ?_;refine tk1 13 HLn.o.s ?_;refine tk1 14 HLn.o.s ?_;refine tk1 15 HLn.o.s ?_;refine tk1 16 HLn.o.s ?_;clear HL;exact zq46
  ·skip;go_simp;have HLn:=qh (HL.o.b0p);refine hK.out _ _ HLn.o.s (fun _=>?_);clear hK K
   try simp only [qA,qB,qC,Act.put,qD,qE,qF]
   clear HL;generalize v.alloc (.cells #[.slice none 0 0,.string (S [])] 35)=v9 at HLn⊢;generalize v.heap.size=b2 at HLn⊢;revert HLn;revert b3;revert b2;revert b1;revert v9;exact k0111
  intro v b1 b2 HL;refine wpAnyH_ready (rs:=[11,19]) kZ sZ ?_;refine AllReadyH.cons rfl (fun K hK=>?_) (AllReadyH.cons rfl (fun K hK=>?_) AllReadyH.nil)
  ·skip;go_simp;refine (a1d _ _ _ l st sc o tx _ (HUW.o.below HL.o.bw) (HIW.o.below HL.o.bw) (HOW.o.below HL.o.bw) hm HH1.o HH2.o (HEW.o.below HL.o.bw HEW.o.size)).mono ?_;rintro e v9 ⟨x,y,m,rfl,hd,ho,hm1,hm2,hb⟩;rw [HRR.o]at hd ho⊢;simp only at hd ho⊢;unfold a2j;have HLn:=qh (HL.o.below hb);have HRn:=qh (DfR.called HL.o hd ho hm1 hm2 HNL.o);obtain⟨xa,xc,rfl,-,-⟩:=hd;obtain⟨ya,yc,rfl⟩:=a0j ho;refine hK.out _ _ HLn.o.s (fun hS9=>?_);clear hK K ho hm1 hm2 hb hS9
   try simp only []
   refine tk1 12 HLn.o.s ?_;refine tk1 13 HLn.o.s ?_;refine tk1 14 HLn.o.s ?_;refine tk1 15 HLn.o.s ?_;refine tk1 16 HLn.o.s ?_;clear HL;exact zq47
  ·skip;go_simp;have HLn:=qh (HL.o.b0s);refine hK.out _ _ HLn.o.s (fun _=>?_);clear hK K
   try simp only [qA,qB,qC,Act.put,qD,qE,qF]
   clear HL;generalize v.alloc (.cells #[.int .i64 0,.string (S [])] 55)=v9 at HLn⊢;generalize v.heap.size=b3 at HLn⊢;revert HLn;revert b3;revert b2;revert b1;revert v9;exact k0111
  intro v b3 xa xc ya yc HL HR;refine wpAnyH_ready (rs:=[17,18]) kZ sZ ?_;refine AllReadyH.cons rfl (fun K hK=>?_) (AllReadyH.cons rfl (fun K hK=>?_) AllReadyH.nil)
  ·skip;go_simp;have HLn:=qh (HL.o.b0n);have HRn:=qh (HR.o.alloc (.cells #[.slice none 0 0] 26) (.inr rfl) (.inl rfl) (.inl rfl));refine hK.out _ _ HLn.o.s (fun _=>?_);clear hK K
   try simp only [qA,qB,qC,Act.put,qD,qE,qF]
   clear HL HR;generalize v.alloc (.cells #[.slice none 0 0] 26)=v9 at HLn HRn⊢;generalize v.heap.size=b1 at HLn HRn⊢;exact zq46
  ·skip;go_simp;have HLn:=qh (HL.o.b0p);have HRn:=qh (HR.o.alloc (.cells #[.slice none 0 0,.string (S [])] 35) (.inl rfl) (.inr rfl) (.inl rfl));refine hK.out _ _ HLn.o.s (fun _=>?_);clear hK K
   try simp only [qA,qB,qC,Act.put,qD,qE,qF]
   clear HL HR;generalize v.alloc (.cells #[.slice none 0 0,.string (S [])] 35)=v9 at HLn HRn⊢;generalize v.heap.size=b2 at HLn HRn⊢;exact zq45
  intro v b2 xa xc ya yc HL HR;refine wpAnyH_ready (rs:=[17,19]) kZ sZ ?_;refine AllReadyH.cons rfl (fun K hK=>?_) (AllReadyH.cons rfl (fun K hK=>?_) AllReadyH.nil)
  ·skip;go_simp;have HLn:=qh (HL.o.b0n);have HRn:=qh (HR.o.alloc (.cells #[.slice none 0 0] 26) (.inr rfl) (.inl rfl) (.inl rfl));refine hK.out _ _ HLn.o.s (fun _=>?_);clear hK K
   try simp only [qA,qB,qC,Act.put,qD,qE,qF]
   clear HL HR;generalize v.alloc (.cells #[.slice none 0 0] 26)=v9 at HLn HRn⊢;generalize v.heap.size=b1 at HLn HRn⊢;exact zq47
  ·skip;go_simp;have HLn:=qh (HL.o.b0s);have HRn:=qh (HR.o.alloc (.cells #[.int .i64 0,.string (S [])] 55) (.inl rfl) (.inl rfl) (.inr rfl));refine hK.out _ _ HLn.o.s (fun _=>?_);clear hK K
   try simp only [qA,qB,qC,Act.put,qD,qE,qF]
   clear HL HR;generalize v.alloc (.cells #[.int .i64 0,.string (S [])] 55)=v9 at HLn HRn⊢;generalize v.heap.size=b3 at HLn HRn⊢;exact zq45
  intro v b1 xa xc ya yc HL HR;refine wpAnyH_ready (rs:=[18,19]) kZ sZ ?_;refine AllReadyH.cons rfl (fun K hK=>?_) (AllReadyH.cons rfl (fun K hK=>?_) AllReadyH.nil)
  ·skip;go_simp;have HLn:=qh (HL.o.b0p);have HRn:=qh (HR.o.alloc (.cells #[.slice none 0 0,.string (S [])] 35) (.inl rfl) (.inr rfl) (.inl rfl));refine hK.out _ _ HLn.o.s (fun _=>?_);clear hK K
   try simp only [qA,qB,qC,Act.put,qD,qE,qF]
   clear HL HR;generalize v.alloc (.cells #[.slice none 0 0,.string (S [])] 35)=v9 at HLn HRn⊢;generalize v.heap.size=b2 at HLn HRn⊢;exact zq47
  ·skip;go_simp;have HLn:=qh (HL.o.b0s);have HRn:=qh (HR.o.alloc (.cells #[.int .i64 0,.string (S [])] 55) (.inl rfl) (.inl rfl) (.inr rfl));refine hK.out _ _ HLn.o.s (fun _=>?_);clear hK K
   try simp only [qA,qB,qC,Act.put,qD,qE,qF]
   clear HL HR;generalize v.alloc (.cells #[.int .i64 0,.string (S [])] 55)=v9 at HLn HRn⊢;generalize v.heap.size=b3 at HLn HRn⊢;exact zq46
  intro v b1 b2 b3 HL;refine trd 11 fun K hK=>?_;go_simp;refine (a1d _ _ _ l st sc o tx _ (HUW.o.below HL.o.bw) (HIW.o.below HL.o.bw) (HOW.o.below HL.o.bw) hm HH1.o HH2.o (HEW.o.below HL.o.bw HEW.o.size)).mono ?_;rintro e v9 ⟨x,y,m,rfl,hd,ho,hm1,hm2,hb⟩;rw [HRR.o]at hd ho⊢;simp only at hd ho⊢;unfold a2j;have HLn:=qh (HL.o.below hb);have HRn:=qh (DfR.called HL.o hd ho hm1 hm2 HNL.o);obtain⟨xa,xc,rfl,-,-⟩:=hd;obtain⟨ya,yc,rfl⟩:=a0j ho;refine hK.out _ _ HLn.o.s (fun hS9=>?_);clear hK K ho hm1 hm2 hb hS9
  try simp only []
  refine tk1 12 HLn.o.s ?_;refine tk1 13 HLn.o.s ?_;refine tk1 14 HLn.o.s ?_;refine tk1 15 HLn.o.s ?_;refine tk1 16 HLn.o.s ?_;clear HL;revert HRn;revert HLn;revert yc;revert ya;revert xc;revert xa;revert b3;revert b2;revert b1;revert v9;exact k1111;intro v b2 b3 xa xc ya yc HL HR;refine trd 17 fun K hK=>?_;go_simp;have HLn:=qh (HL.o.b0n);have HRn:=qh (HR.o.alloc (.cells #[.slice none 0 0] 26) (.inr rfl) (.inl rfl) (.inl rfl));refine hK.out _ _ HLn.o.s (fun _=>?_);clear hK K
  try simp only [qA,qB,qC,Act.put,qD,qE,qF]
  clear HL HR;generalize v.alloc (.cells #[.slice none 0 0] 26)=v9 at HLn HRn⊢;generalize v.heap.size=b1 at HLn HRn⊢;revert HRn;revert HLn;revert yc;revert ya;revert xc;revert xa;revert b3;revert b2;revert b1;revert v9;exact k1111;intro v b1 b3 xa xc ya yc HL HR;refine trd 18 fun K hK=>?_;go_simp;have HLn:=qh (HL.o.b0p);have HRn:=qh (HR.o.alloc (.cells #[.slice none 0 0,.string (S [])] 35) (.inl rfl) (.inr rfl) (.inl rfl));refine hK.out _ _ HLn.o.s (fun _=>?_);clear hK K
  try simp only [qA,qB,qC,Act.put,qD,qE,qF]
  clear HL HR;generalize v.alloc (.cells #[.slice none 0 0,.string (S [])] 35)=v9 at HLn HRn⊢;generalize v.heap.size=b2 at HLn HRn⊢;revert HRn;revert HLn;revert yc;revert ya;revert xc;revert xa;revert b3;revert b2;revert b1;revert v9;exact k1111;intro v b1 b2 xa xc ya yc HL HR;refine trd 19 fun K hK=>?_;go_simp;have HLn:=qh (HL.o.b0s);have HRn:=qh (HR.o.alloc (.cells #[.int .i64 0,.string (S [])] 55) (.inl rfl) (.inl rfl) (.inr rfl));refine hK.out _ _ HLn.o.s (fun _=>?_);clear hK K
  try simp only [qA,qB,qC,Act.put,qD,qE,qF]
  clear HL HR;generalize v.alloc (.cells #[.int .i64 0,.string (S [])] 55)=v9 at HLn HRn⊢;generalize v.heap.size=b3 at HLn HRn⊢;revert HRn;revert HLn;revert yc;revert ya;revert xc;revert xa;revert b3;revert b2;revert b1;revert v9;exact k1111;intro v b1 b2 b3 xa xc ya yc HL HR;obtain⟨⟨hd1,hd2⟩,hd3,hd4⟩:=HL.o.d b1 rfl;obtain⟨ht0,ht⟩:=HL.o.t b2 rfl;obtain⟨he0,he⟩:=HL.o.e b3 rfl;have n12:=HL.o.n12 b1 b2 rfl rfl;have n13:=HL.o.n13 b1 b3 rfl rfl;have n23:=HL.o.n23 b2 b3 rfl rfl;have hBw:=HL.o.hB;have HBW:=qh HL.o.bw;have hS:=HL.o.s;refine trd 20 fun K hK=>?_;go_simp;obtain⟨y1,hy1⟩:∃y,v.setCell ⟨b1,0,none⟩ (.slice xa D.length xc)=y:=⟨_,rfl⟩;have hc1:Chg (fun k=>k=b1) v y1:=by rw [←hy1];exact (Chg.refl (fun k=>k=b1) v).setCell (p:=⟨b1,0,none⟩) rfl _
  have hx1:Box1 b1 (.slice xa D.length xc) y1:=by rw [←hy1];exact Box1.set1 hd3 hd2
  have hw1:Below wr.heap.size wr y1:=Chg.a0x HBW.o hc1 HBW.o.size (fun k h=>by have h9:k=b1:=h;omega);refine hK.out _ _ (by (try rw [hy1]);exact hS.a0c hc1 oZ) (fun hS1=>?_);clear hK K
  try rw [hy1]at hS1⊢
  try simp only [qA,qB,qC,Act.put,qD,qE,qF]
  have ht1:=ht.a0c hc1 oZ;have he1:=he.a0c hc1 oZ;have HR1:=qh (HR.o.a0c hc1 (fun b h _=>.inl (by have h9:b=b1:=h;rw [h9])));clear hd3 hd4 ht he hy1 HR;obtain⟨zb,cb0,cb1,fb0,fb1⟩:=ht1;refine trd 21 fun K hK=>?_;go_simp;obtain⟨y2,hy2⟩:∃y,((y1.setCell ⟨b2,0,none⟩ (.slice ya ns.length yc)).setCell ⟨b2,1,none⟩ (.string (S nsc)))=y:=⟨_,rfl⟩;have hc2:Chg (fun k=>k=b2) y1 y2:=by rw [←hy2];exact ((Chg.refl (fun k=>k=b2) y1).setCell (p:=⟨b2,0,none⟩) rfl _).setCell (p:=⟨b2,1,none⟩) rfl _
  have hx2:a0w b2 (.slice ya ns.length yc) nsc y2:=by rw [←hy2];exact a0w.set2 cb0 cb1 zb
  have hw2:Below wr.heap.size wr y2:=Chg.a0x hw1 hc2 hw1.size (fun k h=>by have h9:k=b2:=h;omega);refine hK.out _ _ (by (try rw [hy2]);exact hS1.a0c hc2 oZ) (fun hS2=>?_);clear hK K
  try rw [hy2]at hS2⊢
  try simp only [qA,qB,qC,Act.put,qD,qE,qF]
  have he2:=he1.a0c hc2 oZ;have hx1':=hx1.a0c hc2 oZ;have HR2:=qh (HR1.o.a0c hc2 (fun b h _=>.inr (.inl (by have h9:b=b2:=h;rw [h9]))));clear zb cb0 cb1 fb0 fb1 he1 hx1 hy2 HR1;obtain⟨zb,cb0,cb1,fb0,fb1⟩:=he2;refine trd 22 fun K hK=>?_;go_simp;obtain⟨y3,hy3⟩:∃y,((y2.setCell ⟨b3,0,none⟩ (.int .i64 en)).setCell ⟨b3,1,none⟩ (.string (S et)))=y:=⟨_,rfl⟩;have hc3:Chg (fun k=>k=b3) y2 y3:=by rw [←hy3];exact ((Chg.refl (fun k=>k=b3) y2).setCell (p:=⟨b3,0,none⟩) rfl _).setCell (p:=⟨b3,1,none⟩) rfl _
  have hx3:a0w b3 (.int .i64 en) et y3:=by rw [←hy3];exact a0w.set2 cb0 cb1 zb
  have hw3:Below wr.heap.size wr y3:=Chg.a0x hw2 hc3 hw2.size (fun k h=>by have h9:k=b3:=h;omega);refine hK.out _ _ (by (try rw [hy3]);exact hS2.a0c hc3 oZ) (fun hS3=>?_);clear hK K
  try rw [hy3]at hS3⊢
  try simp only [qA,qB,qC,Act.put,qD,qE,qF]
  have HR3:=qh (HR2.o.a0c hc3 (fun b h _=>.inr (.inr (by have h9:b=b3:=h;rw [h9]))));have hx1'':=hx1'.a0c hc3 oZ;have hx2':=hx2.a0c hc3 oZ;clear zb cb0 cb1 fb0 fb1 hy3;refine tk1 23 hS3 ?_;refine wpAnyH_done kZ ?_ _
  go_wp2_with fail
  go_meet;exact⟨b1,b2,b3,xa,xc,ya,yc,rfl,rfl,rfl,rfl,hx1'',hx2',hx3,HR3.o,hw3,hd1,ht0,he0⟩
 case rest=>
  obtain⟨b1,b2,b3,xa,xc,ya,yc,rfl,rfl,rfl,rfl,hx1,hx2,hx3,hrows,hb,hw1,hw2,hw3⟩:=hcut;have HX3:=qh (HX2.o.below hb);have HB3:=bt HB2 hb;have HX1:=qh hx1;have HXT:=qh hx2;have HE3:=qh hx3;have HRW:=qh hrows;generalize hww:wc=w3 at *;clear hww hb hx1 hx2 hx3 hrows HX2 HB2
  cases ro with
  |none=>
   have HP:=qh (HD0.o HRO.o);go_wp2;go_ret2;exact HSM.o.keep (x:=[]) HB3.o HP.o
  |some o'=>
   have hoo:o'=o:=HOE.o;subst hoo
   cases ok
   ·have HP:=qh (HD2.o o' HRO.o (by rw [HRR.o]));go_wp2;go_ret2;exact HSM.o.keep (x:=[]) HB3.o HP.o
   ·have HP:=qh (HD3.o o' ((D,(ns,nsc)),(en,et)) HRO.o HRR.o);have HED:=qh (HEO.o rfl);have HXD:=qh (HX3.o.below bZ.drew);have HX1D:=qh (HX1.o.below bZ.drew);have HXTD:=qh (HXT.o.below bZ.drew);have HE3D:=qh (HE3.o.below bZ.drew);have HB4:=qh (HB3.o.trans (bZ.drew.mono HB3.o.size));have HRWD:=qh (HRW.o.below bZ.drew);clear HX3 HX1 HXT HE3 HB3 HRW;have hbz:B<wr.heap.size:=by omega
    go_upto_region 6 with fail
    refine wp_region_held_drew (S:=fun v=>Box1 b1 (.slice xa D.length xc) v∧a0w b2 (.slice ya ns.length yc) nsc v) kZ ⟨HX1D.o,HXTD.o⟩ (fun hS0=>?_);generalize w3.drew=v0 at *;refine tk9 0 hS0 ?_;refine tk9 1 hS0 ?_;refine tk9 2 hS0 ?_;refine tk9 3 hS0 ?_;refine tk9 4 hS0 ?_;refine tk9 5 hS0 ?_;obtain⟨⟨o0,o1,o2,o3,o4,o5,o6⟩,g0,g1,g2,g3,g4,g5⟩:=HXD.o;obtain⟨y1,hy1⟩:∃v,v0.setCell ⟨B,0,none⟩ (.slice xa D.length xc)=v:=⟨_,rfl⟩;have hc1:Chg (fun b=>b=B) v0 y1:=by rw [←hy1];exact (Chg.refl (fun b=>b=B) v0).setCell (p:=⟨B,0,none⟩) rfl _
    have HX4:=qh (show SOut B (.slice xa D.length xc) (.slice sd st.length sap) sc d p n y1 from by rw [←hy1];exact HXD.o.set0 (x:=.slice xa D.length xc));refine trd 6 fun K hK=>?_;go_simp;refine hK.out _ _ (by (try rw [hy1]);exact⟨hS0.1.a0c hc1 oZ,hS0.2.a0c hc1 oZ⟩) (fun hS1=>?_);clear hK K
    try rw [hy1]at hS1⊢
    clear o0 o1 o2 o3 o4 o5 o6 g0 g1 g2 g3 g4 g5 hy1
    try simp only [qA,qB,qC,Act.put,qD,qE,qF]
    refine tk9 7 hS1 ?_;refine tk9 8 hS1 ?_;obtain⟨⟨o0,o1,o2,o3,o4,o5,o6⟩,g0,g1,g2,g3,g4,g5⟩:=HX4.o;obtain⟨y2,hy2⟩:∃v,(y1.setCell ⟨B,1,none⟩ (.slice ya ns.length yc)).setCell ⟨B,2,none⟩ (.string (S nsc))=v:=⟨_,rfl⟩;have hc2:Chg (fun b=>b=B) y1 y2:=by rw [←hy2];exact ((Chg.refl (fun b=>b=B) y1).setCell (p:=⟨B,1,none⟩) rfl _).setCell (p:=⟨B,2,none⟩) rfl _
    have HX5:=qh (show SOut B (.slice xa D.length xc) (.slice ya ns.length yc) nsc d p n y2 from by rw [←hy2];exact HX4.o.set1 (x:=.slice ya ns.length yc) (r:=nsc));refine trd 9 fun K hK=>?_;go_simp;refine hK.out _ _ (by (try rw [hy2]);exact⟨hS1.1.a0c hc2 oZ,hS1.2.a0c hc2 oZ⟩) (fun hS2=>?_);clear hK K
    try rw [hy2]at hS2⊢
    clear o0 o1 o2 o3 o4 o5 o6 g0 g1 g2 g3 g4 g5 hy2
    try simp only [qA,qB,qC,Act.put,qD,qE,qF]
    refine wpAnyH_done kZ ?_ _;have hcc:=hc1.trans hc2;have HE5:=qh (HE3D.o.a0c hcc oZ);have HRW5:=qh (HRWD.o.low hcc (fun b h=>by have h9:b=B:=h;omega));have HC5:=qh (show Chg (fun b=>b=B) w y2 from (Below.chg HB4.o _).trans hcc);have HSM5:=qh (show SesM lo B (D,(ns,nsc)) (d,p,n) y2 from⟨hEB,Nat.le_trans hlo HC5.o.size,_,_,HX5.o,HRW5.o.rows oZ hbz⟩);have HEN:=qh (L.Env.chgB HE.o hEB HC5.o);clear hc1 hc2 hcc hS0 hS1 hS2 HX4 HX5 HXD HX1D HXTD HE3D HB4 HRWD;obtain⟨e0,e1,_⟩:=HE5.o
    go_wp2_with fail
    refine (a2f en et _ HED.o HEN.o).mono ?_;rintro e w7 ⟨rfl,hb⟩;have HC7:=qh (HC5.o.trans (Below.chg hb _));have HS7:=qh (HSM5.o.below hb);clear hb e0 e1;go_wp2;go_ret2;exact⟨P.fmtE (en,et),true,rfl,by rw [HP.o];rfl,by rw [HP.o];exact HS7.o,HC7.o⟩
end Go.Proofs.YtggfdnopminemaaGreatDoor
