/- Walks: strokes pressed. -/
import Derived.Test.YtggfdnopminemaaGreatDoorSesP
set_option linter.all false
namespace Go.Proofs.YtggfdnopminemaaGreatDoor
open Go.Proofs.Tryz
open Go Go.RowKit
set_option maxHeartbeats 8000000
set_option maxRecDepth 100000
variable {B:Nat} {v w:Go.World}
theorem SesM.keep {lo:Nat} {s:P.Ses} {g:P.LogT} {a:P.Ans} {x:Str} (h:SesM lo B s g w) (hb:Bl w v) (ha:a=(s,none)):a5v lo B a g w (.returned (.tuple #[.string (S x),.bool false])) v:=
 ⟨x,false,rfl,by rw [ha];rfl,by rw [ha];exact h.below hb,Below.chg hb _⟩
theorem L.Env.chgB (h:L.Env w) (hB:L.EB<=B) (hc:Chg (λb=>b=B) w v):L.Env v:=
 h.below (hc.below h.size (λb e=>by have e2:b=B:=e;omega)) lZ
theorem b1h (lo B:Nat) (ou:Value) (l:P.Dic) (st o:List Int) (sc d p:Str) (n:Int) (w:World) (h:SesM lo B (l,(st,sc)) (d,p,n) w) (hm:Small l) (ht:P.trans l (st,sc)=true) (ho:IntR w ou o) (hE:L.Env w) :
 Cz 139 #[.pointer (some ⟨B,0,none⟩),ou] w (a5v lo B (P.typed (l,(st,sc)) o) (d,p,n) w):=by
 have HSM:=qh h
 obtain⟨hEB,hlo,u,us,hS,hR⟩:=h
 have hBz:B<w.heap.size:=hS.1.2.2.2.2.2.2
 have hu:=hR.dic;have hus:=hR.str
 simp only at hS hR hu hus
 obtain⟨ad,cap,rfl,_,_⟩:=id hu
 obtain⟨sd,sap,rfl,_,_⟩:=id hus
 obtain⟨W0,hW0⟩:∃v,w.alloc (.cells #[(.slice sd st.length sap),.string (S sc)] 35)=v:=⟨_,rfl⟩
 have hb0:Bl w W0:=by rw [<-hW0];exact bZ.alloc lZ _
 have hz0:W0.heap.size=w.heap.size+1:=by rw [<-hW0];simp
 have htb:TBx w.heap.size (.slice sd st.length sap) sc W0:=by rw [<-hW0];exact TBx.new (.slice sd st.length sap) sc w
 have HU:=qh hu;have HUS:=qh hus;have HO:=qh ho;have HB:=qh hb0;have HE:=qh hE
 have HX:=qh (hS.below hb0);have HSR:=qh hR
 have HT0:=qh (show TySt W0 (w.heap.size+1) w.heap.size l (.slice sd st.length sap) st (.slice sd st.length sap) (st,sc) W0 from⟨htb,hus.below hb0,ht,Chg.refl _ _,.inl ⟨rfl,rfl⟩⟩)
 have HSP:=qh (P.a1m ht)
 have HT0S:=qh ht
 obtain⟨⟨o0,o1,o2,o3,o4,o5,o6⟩,_⟩:=hS
 clear htb hb0 ht hu hus hE hR
 obtain⟨od,oc,rfl,hol,_⟩:=ho
 go_enter Tryz.func139,Tryz.ntmps139
 go_upto_region 2 with fail
 try rw [hW0]
 clear hW0 o0 o1 o2 o3 o4 o5 o6
 go_wp2
 go_loopw [19] (λi wr=>∃(j:Nat) (t:P.Tr) (tv:Value),j<=o.length/\i=.int .i64 j/\P.b1f l (st,sc) o=P.b1f l t (o.drop j)/\TySt W0 (w.heap.size+1) w.heap.size l (.slice sd st.length sap) st tv t wr) (λi _=>o.length-(intOf i).toNat)
 case atStart=>exact⟨0,(st,sc),(.slice sd st.length sap),Nat.zero_le _,rfl,by rw [List.drop_zero],HT0.o⟩
 case round=>
  obtain⟨j,⟨t1,t2⟩,tv,hj,rfl,hrun,hst⟩:=hrel;have HRUN:=qh hrun;have HT:=qh hst;obtain⟨ta,tc,rfl,_,_⟩:=id hst.str;have hs12:=P.a1m hst.tra;have HBW:=qh (Chg.a0n HB.o hst.chg HB.o.size (λb h=>by have h9:b=w.heap.size:=h;omega));have HXW:=qh (HX.o.a0b hst.chg oZ);obtain⟨hs1,hs2⟩:=hs12;simp only at hs1 hs2;have hbz:=hst.box.1;have hz3:w.heap.size+1<=wr.heap.size:=by have h1:=hst.chg.size;omega
  clear hrun hst HT0
  by_cases hlt:j<o.length
  .obtain⟨g,og,hga,hgs,c0⟩:=(HO.o.below HBW.o).at j hlt;subst hga;have HN1:=qh (HRUN.o.trans (P.c9y hlt));generalize o[j]=k at *;have i2:(j:Int)<(o.length:Int):=by omega
   obtain⟨nx,scr,en,et,ok,hrr⟩:∃nx scr en et ok,P.a6q l (t1,t2) k=(((nx,scr),(en,et)),ok):=⟨_,_,_,_,_,rfl⟩;have HRR:=qh hrr;clear hrr;have HLT:=qh (show B<wr.heap.size/\w.heap.size<wr.heap.size/\g<wr.heap.size from⟨by omega,hbz,hgs⟩);have HRD:Hq (RdS B w.heap.size g (og+j) (.slice ad l.length cap) (.slice ta t1.length tc) t2 k wr.drew):=⟨RdS.step (B:=wr.heap.size) ⟨HXW.o.1.1,HT.o.box.2.1,HT.o.box.2.2.1,c0⟩ bZ.drew HLT.o⟩
   go_upto_region 5 with fail
   clear c0
   go_cut [9,10,11] (λpp qq okv wx=>∃b1 b2 va vc,pp=.pointer (some ⟨b1,0,none⟩)/\qq=.pointer (some ⟨b2,0,none⟩)/\okv=.bool ok/\a1z b1 (.slice va nx.length vc) scr wx/\a1z b2 (.int .i64 en) et wx/\OwnK wr.heap.size wx (.slice va nx.length vc) nx/\Bl wr wx/\wr.heap.size<=b1/\wr.heap.size<=b2)
   case first=>
    have HP1:=qh (show t1.length<=2^20 by omega);have HP2:=qh (show t2.length<=2^30 by omega);apply a0m;intro k111;apply a0m;intro k110;apply a0m;intro k101;apply a0m;intro k011;apply a0m;intro k100;apply a0m;intro k010;apply a0m;intro k001;have HBW0:Hq (Bl wr wr.drew):=⟨bZ.drew⟩;refine wp_region_held_drew (S:=RdS B w.heap.size g (og+j) (.slice ad l.length cap) (.slice ta t1.length tc) t2 k) kZ HRD.o (λhS0=>?_);refine zm34 ?_;refine tk0 3 hS0 ?_;refine tk0 4 hS0 ?_;refine tk0 5 hS0 ?_;have HL0:=qh (PrSt.start hS0 (λx y h hb=>h.step (B:=wr.heap.size) hb HLT.o) HBW0.o);generalize wr.drew=v at hS0 HL0⊢;have HL:=qh HL0.o;clear HL0 hS0 HBW0;refine wpAnyH_ready (rs:=[6,11,12]) kZ sZ ?_;refine AllReadyH.cons rfl (λK hK=>?_) (AllReadyH.cons rfl (λK hK=>?_) (AllReadyH.cons rfl (λK hK=>?_) AllReadyH.nil))
    .skip;go_simp;refine zm9 ?_;rintro e v9 ⟨nv,rfl,ho,hb⟩;rw [HRR.o]at ho⊢;simp only at ho⊢;unfold a1d;obtain⟨va,vc,rfl⟩:=a0h ho;refine zn11 ?_;intro HLn HRn;clear hK K ho hb;refine zm0 ?_;refine tk0 7 HLn.o.s ?_;refine zm18 ?_;clear HL;revert HRn;revert HLn;revert vc;revert va;revert v9;exact k100
    .exact zq72
    .exact zq75
    intro v b2 HL;refine wpAnyH_ready (rs:=[6,11]) kZ sZ ?_;refine AllReadyH.cons rfl (λK hK=>?_) (AllReadyH.cons rfl (λK hK=>?_) AllReadyH.nil)
    .skip;go_simp;refine zm9 ?_;rintro e v9 ⟨nv,rfl,ho,hb⟩;rw [HRR.o]at ho⊢;simp only at ho⊢;unfold a1d;obtain⟨va,vc,rfl⟩:=a0h ho;refine zn11 ?_;intro HLn HRn;clear hK K ho hb;refine zm0 ?_;refine tk0 7 HLn.o.s ?_;refine zm18 ?_;clear HL;exact e3e
    .exact zq66
    intro v b1 HL;refine wpAnyH_ready (rs:=[6,12]) kZ sZ ?_;refine AllReadyH.cons rfl (λK hK=>?_) (AllReadyH.cons rfl (λK hK=>?_) AllReadyH.nil)
    .skip;go_simp;refine zm9 ?_;rintro e v9 ⟨nv,rfl,ho,hb⟩;rw [HRR.o]at ho⊢;simp only at ho⊢;unfold a1d;obtain⟨va,vc,rfl⟩:=a0h ho;refine zn11 ?_;intro HLn HRn;clear hK K ho hb;refine zm0 ?_;refine tk0 7 HLn.o.s ?_;refine zm18 ?_;clear HL;exact e3c
    .exact zq69
    intro v va vc HL HR;refine wpAnyH_ready (rs:=[11,12]) kZ sZ ?_;refine AllReadyH.cons rfl (λK hK=>?_) (AllReadyH.cons rfl (λK hK=>?_) AllReadyH.nil)
    .exact zq50
    .exact zq52
    intro v b1 b2 HL;refine trd 6 λK hK=>?_;go_simp;refine zm9 ?_;rintro e v9 ⟨nv,rfl,ho,hb⟩;rw [HRR.o]at ho⊢;simp only at ho⊢;unfold a1d;obtain⟨va,vc,rfl⟩:=a0h ho;refine zn11 ?_;intro HLn HRn;clear hK K ho hb;refine zm0 ?_;refine tk0 7 HLn.o.s ?_;refine zm18 ?_;clear HL;revert HRn;revert HLn;revert vc;revert va;revert b2;revert b1;revert v9;exact k111;intro v b2 va vc HL HR;refine trd 11 λK hK=>?_;go_simp;have HLn:=qh (HL.o.a5s);have HRn:=qh (HR.o.alloc (.cells #[.slice none 0 0,.string (S [])] 35) (.inr rfl) (.inl rfl));refine zm48 ?_;clear hK K;refine zm0 ?_;clear HL HR;generalize v.alloc (.cells #[.slice none 0 0,.string (S [])] 35)=v9 at HLn HRn⊢;generalize v.heap.size=b1 at HLn HRn⊢;revert HRn;revert HLn;revert vc;revert va;revert b2;revert b1;revert v9;exact k111;intro v b1 va vc HL HR;refine trd 12 λK hK=>?_;go_simp;have HLn:=qh (HL.o.a5u);have HRn:=qh (HR.o.alloc (.cells #[.int .i64 0,.string (S [])] 55) (.inl rfl) (.inr rfl));refine zm48 ?_;clear hK K;refine zm0 ?_;clear HL HR;generalize v.alloc (.cells #[.int .i64 0,.string (S [])] 55)=v9 at HLn HRn⊢;generalize v.heap.size=b2 at HLn HRn⊢;revert HRn;revert HLn;revert vc;revert va;revert b2;revert b1;revert v9;exact k111;intro v b1 b2 va vc HL HR;obtain⟨ht0,zb,cb0,cb1,fb0,fb1⟩:=HL.o.t b1 rfl;obtain⟨he0,he⟩:=HL.o.e b2 rfl;have n12:=HL.o.n b1 b2 rfl rfl;have HB0:=qh HL.o.bw;have hS:=HL.o.s;have hkk:=HL.o.k;clear HL;refine trd 13 λK hK=>?_;go_simp;obtain⟨y1,hy1⟩:∃y,((v.setCell ⟨b1,0,none⟩ (.slice va nx.length vc)).setCell ⟨b1,1,none⟩ (.string (S scr)))=y:=⟨_,rfl⟩;have hc1:Chg (λk=>k=b1) v y1:=by rw [<-hy1];exact ((Chg.refl (λk=>k=b1) v).setCell (p:=⟨b1,0,none⟩) rfl _).setCell (p:=⟨b1,1,none⟩) rfl _
    have hx1:a1z b1 (.slice va nx.length vc) scr y1:=by rw [<-hy1];exact a1z.set2 cb0 cb1 zb
    refine zm96 ?_;intro hw1 HB1 hS1;clear hK K;try rw [hy1]at hS1⊢
    refine zm0 ?_;have he1:=he.a0b hc1 oZ;have HR1:=qh (HR.o.a0b hc1 (λb h=>.inl (by have h9:b=b1:=h;rw [h9])));clear zb cb0 cb1 fb0 fb1 he hy1 HR;obtain⟨zb,cb0,cb1,fb0,fb1⟩:=he1;refine trd 14 λK hK=>?_;go_simp;obtain⟨y2,hy2⟩:∃y,((y1.setCell ⟨b2,0,none⟩ (.int .i64 en)).setCell ⟨b2,1,none⟩ (.string (S et)))=y:=⟨_,rfl⟩;have hc2:Chg (λk=>k=b2) y1 y2:=by rw [<-hy2];exact ((Chg.refl (λk=>k=b2) y1).setCell (p:=⟨b2,0,none⟩) rfl _).setCell (p:=⟨b2,1,none⟩) rfl _
    have hx2:a1z b2 (.int .i64 en) et y2:=by rw [<-hy2];exact a1z.set2 cb0 cb1 zb
    refine zm94 ?_;intro hw2 HB2 hS2;clear hK K;try rw [hy2]at hS2⊢
    refine zm0 ?_;have hx1':=hx1.a0b hc2 oZ;have HR2:=qh (HR1.o.a0b hc2 (λb h=>.inr (by have h9:b=b2:=h;rw [h9])));clear zb cb0 cb1 fb0 fb1 hy2 HR1;refine tk0 15 hS2 ?_;exact zq158
   case rest=>
    obtain⟨b1,b2,va,vc,rfl,rfl,rfl,hx1,hx2,ho,hb,hw1,hw2⟩:=hcut;have HT3:=qh (HT.o.below hb);have HB3:=bt HBW hb;have HX1:=qh hx1;have HOW:=qh ho;have HBB:=qh hb;have hzz:=hb.size;generalize hww:wc=w3 at *;clear hww hb ho hx1 hx2 HRD
    cases ok
    .have HP:=qh (P.c8v (s:=(l,(st,sc))) (o:=o) (by rw [HN1.o,HRR.o];rfl));go_wp2;go_ret2;exact HSM.o.keep (x:=[]) HB3.o HP.o
    .have htr:P.trans l (nx,scr)=true:=by have h:=P.b1l (d:=l) (t:=(t1,t2)) (k:=k) (by rw [HRR.o]);rw [HRR.o]at h;exact h
     have hnl:=(P.a1m htr).1;simp only at hnl;have HT4:=qh (HT.o.store (t':=(nx,scr)) (nv:=.slice va nx.length vc) HBB.o hz3 HOW.o htr (by simp only;omega));obtain⟨k1,k2,_⟩:=HX1.o;obtain⟨zb,c0,c1,f0,f1⟩:=HT3.o.box;clear HT HT3 HB3 HXW;exact zq137
  .have hjl:j=o.length:=by omega
   subst hjl;have HP:Hq (P.typed (l,(st,sc)) o=((l,(t1,t2)),some (P.fmtE (P.least sc t2)))):=⟨P.c2h (s:=(l,(st,sc))) (HRUN.o.trans P.c2g)⟩;obtain⟨hl1,hl2⟩:=HSP.o;have HED:Hq (P.a4g (P.least sc t2)=true):=⟨P.b2l (P.a2l HT0S.o) (P.a2l HT.o.tra)⟩;obtain⟨x,et,hE⟩:∃x et,P.least sc t2=(x,et):=⟨_,_,rfl⟩;have HLE:=qh hE;rw [hE]at HP HED;clear hE;have HRC:=qh (show wr.drew.cell? ⟨B,2,none⟩=some (.string (S sc))/\wr.drew.cell? ⟨w.heap.size,1,none⟩=some (.string (S t2))/\B<wr.drew.heap.size/\w.heap.size<wr.drew.heap.size from⟨HXW.o.1.2.2.1,HT.o.box.2.2.1,HXW.o.1.2.2.2.2.2.2,hbz⟩)
   go_upto_region 10 with fail
   go_cut [12] (λep wx=>∃be,ep=.pointer (some ⟨be,0,none⟩)/\a1z be (.int .i64 x) et wx/\Bl wr wx/\wr.heap.size<=be)
   case first=>
    have HBW0:Hq (Bl wr wr.drew):=⟨bZ.drew⟩;refine wp_region_held_drew (S:=λv=>v.cell? ⟨B,2,none⟩=some (.string (S sc))/\v.cell? ⟨w.heap.size,1,none⟩=some (.string (S t2))/\B<v.heap.size/\w.heap.size<v.heap.size) kZ HRC.o (λhS0=>?_);generalize wr.drew=v0 at *;refine zm34 ?_;refine tk0 3 hS0 ?_;refine tk0 4 hS0 ?_;refine tk0 5 hS0 ?_;refine tk0 6 hS0 ?_;refine wpAnyH_ready (rs:=[7,8]) kZ sZ ?_;refine AllReadyH.cons rfl (λK hK=>?_) (AllReadyH.cons rfl (λK hK=>?_) AllReadyH.nil)
    .skip;go_simp;refine (a9b sc t2 _ oZ oZ).mono ?_;rintro e v1 ⟨rfl,hb⟩;rw [HLE.o];have hS1:v1.cell? ⟨B,2,none⟩=some (.string (S sc))/\v1.cell? ⟨w.heap.size,1,none⟩=some (.string (S t2))/\B<v1.heap.size/\w.heap.size<v1.heap.size:=⟨(hb.cell (p:=⟨B,2,none⟩) hS0.2.2.1).trans hS0.1,(hb.cell (p:=⟨w.heap.size,1,none⟩) hS0.2.2.2).trans hS0.2.1,Nat.lt_of_lt_of_le hS0.2.2.1 hb.size,Nat.lt_of_lt_of_le hS0.2.2.2 hb.size⟩;have HB1:=bt HBW0 hb;have hz1:=HB1.o.size;refine hK.out _ _ hS1 (λhS2=>?_);clear hK K hb;refine zm0 ?_;refine trd 8 λK hK=>?_;go_simp;have hba:=(Below.refl v1.heap.size v1).alloc lZ (.cells #[.int .i64 0,.string (S [])] 55);have HBX:=qh (EBx.new v1);have hS3:(v1.alloc (.cells #[.int .i64 0,.string (S [])] 55)).cell? ⟨B,2,none⟩=some (.string (S sc))/\(v1.alloc (.cells #[.int .i64 0,.string (S [])] 55)).cell? ⟨w.heap.size,1,none⟩=some (.string (S t2))/\B<(v1.alloc (.cells #[.int .i64 0,.string (S [])] 55)).heap.size/\w.heap.size<(v1.alloc (.cells #[.int .i64 0,.string (S [])] 55)).heap.size:=⟨(hba.cell (p:=⟨B,2,none⟩) hS2.2.2.1).trans hS2.1,(hba.cell (p:=⟨w.heap.size,1,none⟩) hS2.2.2.2).trans hS2.2.1,Nat.lt_of_lt_of_le hS2.2.2.1 hba.size,Nat.lt_of_lt_of_le hS2.2.2.2 hba.size⟩;have HB2:=bt HB1 hba;refine hK.out _ _ hS3 (λhS4=>?_);clear hK K hba;generalize v1.alloc (.cells #[.int .i64 0,.string (S [])] 55)=v2 at *;refine zm0 ?_;refine trd 9 λK hK=>?_;obtain⟨zb,cb0,cb1,fb0,fb1⟩:=HBX.o;go_simp;obtain⟨y9,hy9⟩:∃y,((v2.setCell ⟨v1.heap.size,0,none⟩ (.int .i64 x)).setCell ⟨v1.heap.size,1,none⟩ (.string (S et)))=y:=⟨_,rfl⟩;have hcg:Chg (λk=>k=v1.heap.size) v2 y9:=by rw [<-hy9];exact ((Chg.refl (λk=>k=v1.heap.size) v2).setCell (p:=⟨v1.heap.size,0,none⟩) rfl _).setCell (p:=⟨v1.heap.size,1,none⟩) rfl _
     have hbox:a1z v1.heap.size (.int .i64 x) et y9:=by rw [<-hy9];exact a1z.set2 cb0 cb1 zb
     have hbw:Bl wr y9:=Chg.a0n HB2.o hcg (Nat.le_trans lZ HB2.o.size) (λk h=>by have h9:k=v1.heap.size:=h;omega);refine hK.out _ _ (by (try rw [hy9]);exact⟨(hcg.cell (p:=⟨B,2,none⟩) hS4.2.2.1 (by show ¬B=v1.heap.size;omega)).trans hS4.1,(hcg.cell (p:=⟨w.heap.size,1,none⟩) hS4.2.2.2 (by show ¬w.heap.size=v1.heap.size;omega)).trans hS4.2.1,Nat.lt_of_lt_of_le hS4.2.2.1 hcg.size,Nat.lt_of_lt_of_le hS4.2.2.2 hcg.size⟩) (λhS9=>?_);clear hK K;try rw [hy9]at hS9⊢
     refine zm0 ?_;refine wpAnyH_done kZ ?_ _;go_wp2_with fail;go_meet;exact⟨v1.heap.size,rfl,hbox,hbw,by omega⟩
    .skip;go_simp;have hba:=(Below.refl v0.heap.size v0).alloc lZ (.cells #[.int .i64 0,.string (S [])] 55);have HBX:=qh (EBx.new v0);have hS3:(v0.alloc (.cells #[.int .i64 0,.string (S [])] 55)).cell? ⟨B,2,none⟩=some (.string (S sc))/\(v0.alloc (.cells #[.int .i64 0,.string (S [])] 55)).cell? ⟨w.heap.size,1,none⟩=some (.string (S t2))/\B<(v0.alloc (.cells #[.int .i64 0,.string (S [])] 55)).heap.size/\w.heap.size<(v0.alloc (.cells #[.int .i64 0,.string (S [])] 55)).heap.size:=⟨(hba.cell (p:=⟨B,2,none⟩) hS0.2.2.1).trans hS0.1,(hba.cell (p:=⟨w.heap.size,1,none⟩) hS0.2.2.2).trans hS0.2.1,Nat.lt_of_lt_of_le hS0.2.2.1 hba.size,Nat.lt_of_lt_of_le hS0.2.2.2 hba.size⟩;have HB2:=bt HBW0 hba;have hz1:=HBW0.o.size;refine hK.out _ _ hS3 (λhS4=>?_);clear hK K hba;generalize v0.alloc (.cells #[.int .i64 0,.string (S [])] 55)=v2 at *;refine zm0 ?_;refine trd 7 λK hK=>?_;go_simp;refine (a9b sc t2 _ oZ oZ).mono ?_;rintro e v1 ⟨rfl,hb⟩;rw [HLE.o];have hS1:v1.cell? ⟨B,2,none⟩=some (.string (S sc))/\v1.cell? ⟨w.heap.size,1,none⟩=some (.string (S t2))/\B<v1.heap.size/\w.heap.size<v1.heap.size:=⟨(hb.cell (p:=⟨B,2,none⟩) hS4.2.2.1).trans hS4.1,(hb.cell (p:=⟨w.heap.size,1,none⟩) hS4.2.2.2).trans hS4.2.1,Nat.lt_of_lt_of_le hS4.2.2.1 hb.size,Nat.lt_of_lt_of_le hS4.2.2.2 hb.size⟩;have HB1:=bt HB2 hb;have HBX1:=qh (HBX.o.below hb);refine hK.out _ _ hS1 (λhS2=>?_);clear hK K hb;refine zm0 ?_;refine trd 9 λK hK=>?_;obtain⟨zb,cb0,cb1,fb0,fb1⟩:=HBX1.o;go_simp;obtain⟨y9,hy9⟩:∃y,((v1.setCell ⟨v0.heap.size,0,none⟩ (.int .i64 x)).setCell ⟨v0.heap.size,1,none⟩ (.string (S et)))=y:=⟨_,rfl⟩;have hcg:Chg (λk=>k=v0.heap.size) v1 y9:=by rw [<-hy9];exact ((Chg.refl (λk=>k=v0.heap.size) v1).setCell (p:=⟨v0.heap.size,0,none⟩) rfl _).setCell (p:=⟨v0.heap.size,1,none⟩) rfl _
     have hbox:a1z v0.heap.size (.int .i64 x) et y9:=by rw [<-hy9];exact a1z.set2 cb0 cb1 zb
     have hbw:Bl wr y9:=Chg.a0n HB1.o hcg (Nat.le_trans lZ HB1.o.size) (λk h=>by have h9:k=v0.heap.size:=h;omega);refine hK.out _ _ (by (try rw [hy9]);exact⟨(hcg.cell (p:=⟨B,2,none⟩) hS2.2.2.1 (by show ¬B=v0.heap.size;omega)).trans hS2.1,(hcg.cell (p:=⟨w.heap.size,1,none⟩) hS2.2.2.2 (by show ¬w.heap.size=v0.heap.size;omega)).trans hS2.2.1,Nat.lt_of_lt_of_le hS2.2.2.1 hcg.size,Nat.lt_of_lt_of_le hS2.2.2.2 hcg.size⟩) (λhS9=>?_);clear hK K;try rw [hy9]at hS9⊢
     refine zm0 ?_;refine wpAnyH_done kZ ?_ _;go_wp2_with fail;go_meet;exact⟨v0.heap.size,rfl,hbox,hbw,by omega⟩
   case rest=>
    obtain⟨be,rfl,hbx,hb,hbe⟩:=hcut;generalize hww:wc=w3 at *;clear hww;have HT4:=qh (HT.o.below hb);have HX4:=qh (HXW.o.below hb);have HB4:=bt HBW hb;have HE4:=qh hbx;have hz4:=hb.size;clear hb hbx HT HXW HRC;obtain⟨⟨o0,o1,o2,o3,o4,o5,o6⟩,g0,g1,g2,g3,g4,g5⟩:=HX4.o;obtain⟨zb,c0,c1,f0,f1⟩:=HT4.o.box;obtain⟨w5,hw5⟩:∃v,(w3.setCell ⟨B,1,none⟩ (.slice ta t1.length tc)).setCell ⟨B,2,none⟩ (.string (S t2))=v:=⟨_,rfl⟩;have hset:Chg (λb=>b=B) w3 w5:=by rw [<-hw5];exact ((Chg.refl (λb=>b=B) w3).setCell (p:=⟨B,1,none⟩) rfl _).setCell (p:=⟨B,2,none⟩) rfl _
    have HROW:=qh (show a3b lo B w3 (.slice ad l.length cap) (.slice ta t1.length tc) l t1 from by
     rcases HT4.o.own with⟨e1,e2⟩|ho
     .simp only at e2;rw [e1,e2];exact HSR.o.below HB4.o
     .exact HSR.o.a9a HB4.o (Nat.le_succ _) hlo hBz ho (by show t1.length<=_;omega))
    have HSM5:=qh (show SesM lo B (l,(t1,t2)) (d,p,n) w5 from⟨hEB,Nat.le_trans hlo (Nat.le_trans HB4.o.size hset.size),_,_,by rw [<-hw5];exact HX4.o.set1 (x:=(.slice ta t1.length tc)) (r:=t2),HROW.o.a0b hset (λb h=>.inl h)⟩);have HE5:=qh (HE4.o.a0b hset oZ);have HC5:Hq (Chg (λb=>b=B) w w5):=⟨(Below.chg HB4.o _).trans hset⟩;have HEN:=qh (L.Env.chgB HE.o hEB HC5.o)
    go_upto_region 12 with fail
    try rw [hw5]
    clear o0 o1 o2 o3 o4 o5 o6 g0 g1 g2 g3 g4 g5 zb c0 c1 f0 f1 hset hw5 HX4 HE4 HB4;obtain⟨e0,e1,_⟩:=HE5.o
    go_wp2_with fail
    refine (a5z x et _ HED.o HEN.o).mono ?_;rintro e w6 ⟨rfl,hb⟩;have HC6:=qh (HC5.o.trans (Below.chg hb _));have HS6:=qh (HSM5.o.below hb);clear hb e0 e1;go_wp2;go_ret2;exact⟨P.fmtE (x,et),true,rfl,by rw [HP.o];rfl,by rw [HP.o];exact HS6.o,HC6.o⟩
end Go.Proofs.YtggfdnopminemaaGreatDoor
