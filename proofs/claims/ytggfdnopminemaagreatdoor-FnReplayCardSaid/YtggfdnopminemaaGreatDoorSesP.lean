/- Walks: strokes pressed. -/
import Derived.Test.YtggfdnopminemaaGreatDoorSesC3
set_option linter.all false
namespace Go.Proofs.YtggfdnopminemaaGreatDoor
open Go.Proofs.Tryz
variable {st0:List Int} {b m:Nat} {l:P.Dic} {t:P.Tr} {tv us0:Go.Value} {W0 v:Go.World}
namespace P
theorem c9y {d:Dic} {t:Tr} {o:List Int} {j:Nat} (hj:j<o.length):b1f d t (o.drop j)=if (a6q d t o[j]).2 then b1f d (a6q d t o[j]).1.1 (o.drop (j+1)) else none:=by
 rw [List.drop_eq_getElem_cons hj];rfl
theorem c8v {s:Ses} {o:List Int} (h:b1f s.1 s.2 o=none):typed s o=(s,none):=by unfold typed;rw [h]
theorem c2h {s:Ses} {o:List Int} {t:Tr} (h:b1f s.1 s.2 o=some t):typed s o=((s.1,t),some (fmtE (least s.2.2 t.2))):=by unfold typed;rw [h]
theorem c2g {d:Dic} {t:Tr} {o:List Int}:b1f d t (o.drop o.length)=some t:=by rw [List.drop_length];rfl
end P
open Go Go.RowKit
set_option maxHeartbeats 8000000
set_option maxRecDepth 100000
theorem c7g (x:Int) (t:Str) (w:World) (he:P.a4g (x,t)=true) :
 Cz 235 #[a1d (x,t),.bool true] w λe w'=>e=.returned (.string (S (P.fmtE (x,t))))/\Bl w w':=by
 have HOK:=qh he
 have hb0:=(Below.refl w.heap.size w).alloc lZ (.cells #[.int .i64 x,.string (S t)] 55)
 have HX:=qh (a1z.new (.int .i64 x) t 55 w)
 have HB:=qh hb0
 clear hb0 he
 unfold a1d
 go_enter func235,ntmps235
 go_upto_region 1 with fail
 generalize (World.alloc _ _)=v0 at *
 obtain⟨c0,c1,_⟩:=HX.o
 go_wp2_with fail
 refine (b6v x t _ HOK.o).mono ?_
 rintro e w1 ⟨rfl,hb⟩
 have HB1:=bt HB hb
 clear hb c0 c1
 go_wp2
 go_ret
 exact⟨rfl,HB1.o⟩
theorem d7m (s:Str) (ok:Bool) (w:World) :
 Cz 173 #[.string (S s),.bool ok] w λe w'=>e=.returned (.string (S (txtB (okB s ok))))/\w=w':=by
 cases ok
 .go_enter func173,ntmps173
  go_wp2;go_ret;exact⟨rfl,rfl⟩
 .go_enter func173,ntmps173
  go_wp2;go_ret;exact⟨rfl,rfl⟩
structure TySt (W0:World) (m b:Nat) (l:P.Dic) (us0:Value) (st0:List Int) (tv:Value) (t:P.Tr) (v:World):Prop where
 box:TBx b tv t.2 v
 str:IntR v tv t.1
 tra:P.trans l t=true
 chg:Chg (λk=>k=b) W0 v
 own:(tv=us0/\t.1=st0)\/OwnK m v tv t.1
theorem TySt.below {v':World} (h:TySt W0 m b l us0 st0 tv t v) (hb:Bl v v'):TySt W0 m b l us0 st0 tv t v':=
 ⟨h.box.below hb,h.str.below hb,h.tra,h.chg.trans (Below.chg hb _),h.own.imp id λk=>a0i k hb lZ⟩
theorem TySt.store {nv:Value} {t':P.Tr} {z:World} (h:TySt W0 m b l us0 st0 tv t v) (hb:Bl v z) (hmz:m<=v.heap.size)
 (ho:OwnK v.heap.size z nv t'.1) (ht:P.trans l t'=true) (hl:t'.1.length<=2^45):TySt W0 m b l us0 st0 nv t' ((z.setCell ⟨b,0,none⟩ nv).setCell ⟨b,1,none⟩ (.string (S t'.2))):=by
 have hset:Chg (λk=>k=b) z ((z.setCell ⟨b,0,none⟩ nv).setCell ⟨b,1,none⟩ (.string (S t'.2))):=((Chg.refl (λk=>k=b) z).setCell (p:=⟨b,0,none⟩) rfl _).setCell (p:=⟨b,1,none⟩) rfl _
 have hbz:=h.box.1
 obtain⟨z1,c0,c1,f0,f1⟩:=h.box.below hb
 have ho2:OwnK v.heap.size ((z.setCell ⟨b,0,none⟩ nv).setCell ⟨b,1,none⟩ (.string (S t'.2))) nv t'.1:=a1f ho hset λk hk e=>by
  have:=(World.ownsRow.lt ho k hk).1;have e2:k=b:=e;omega
 exact⟨⟨by simpa [World.setCell] using z1,by go_simp,by go_simp,by go_simp,by go_simp⟩,a2j ho2 hl,ht,(h.chg.trans (Below.chg hb _)).trans hset,.inr (a2g ho2 hmz)⟩
theorem TySt.fresh {w V:World} {X:Blk} (h:TySt W0 m b l us0 st0 tv t v) (hc:Chg X v V) (hX:∀k,X k->k<m) (hl:t.1.length<=2^30) (hw:w.heap.size<=m):b7s w V us0 st0 tv t.1:=by
 rcases h.own with h1|ho
 .exact .inl h1
 .exact .inr ⟨BetO m V.heap.size tv,a7b (a1f ho hc λk hk hx=>by have h1:=(World.ownsRow.lt ho k hk).1;have h2:=hX k hx;omega) hl,λk hk=>Nat.le_trans hw hk.1.1⟩
theorem c7n (u us ou:Value) (l:P.Dic) (st o:List Int) (sc d p:Str) (n:Int) (w:World) (hu:EntR w u l) (hus:IntR w us st) (ho:IntR w ou o) (hm:Small l) (ht:P.trans l (st,sc)=true) :
 Cz 168 #[a1a u us sc d p n,ou] w (b3q u us (l,(st,sc)) (P.typed (l,(st,sc)) o) (d,p,n) w):=by
 have hu0:=hu;have hus0:=hus
 obtain⟨ad,cap,rfl,_,_⟩:=hu0
 obtain⟨sd,sap,rfl,_,_⟩:=hus0
 obtain⟨W0,hW0⟩:∃v,((w.alloc (a0d (.slice ad l.length cap) (.slice sd st.length sap) sc d p n)).alloc (a0d (.slice none 0 0) (.slice none 0 0) [] [] [] 0)).alloc (.cells #[(.slice sd st.length sap),.string (S sc)] 35)=v:=⟨_,rfl⟩
 have hb1:=((Below.refl w.heap.size w).alloc lZ (a0d (.slice ad l.length cap) (.slice sd st.length sap) sc d p n)).alloc sZ (a0d (.slice none 0 0) (.slice none 0 0) [] [] [] 0)
 have hb0:Bl w W0:=by rw [<-hW0];exact hb1.alloc (by simp;omega) _
 have hz0:W0.heap.size=w.heap.size+3:=by rw [<-hW0];simp
 have hsx:SOut w.heap.size (.slice ad l.length cap) (.slice sd st.length sap) sc d p n W0:=by
  rw [<-hW0];exact ((SOut.new (.slice ad l.length cap) (.slice sd st.length sap) sc d p n w).below (bZ.alloc lZ _)).below (bZ.alloc lZ _)
 have hsr:SOut (w.heap.size+1) (.slice none 0 0) (.slice none 0 0) [] [] [] 0 W0:=by
  rw [<-hW0];have h:=(SOut.new (.slice none 0 0) (.slice none 0 0) [] [] [] 0 (w.alloc (a0d (.slice ad l.length cap) (.slice sd st.length sap) sc d p n))).below (bZ.alloc lZ (.cells #[(.slice sd st.length sap),.string (S sc)] 35))
  simpa using h
 have htb:TBx (w.heap.size+2) (.slice sd st.length sap) sc W0:=by
  rw [<-hW0];have h:=TBx.new (.slice sd st.length sap) sc ((w.alloc (a0d (.slice ad l.length cap) (.slice sd st.length sap) sc d p n)).alloc (a0d (.slice none 0 0) (.slice none 0 0) [] [] [] 0))
  simpa using h
 have HU:=qh hu;have HUS:=qh hus;have HO:=qh ho
 have HX:=qh hsx;have HR:=qh hsr;have HB:=qh hb0
 have HT0:=qh (show TySt W0 (w.heap.size+3) (w.heap.size+2) l (.slice sd st.length sap) st (.slice sd st.length sap) (st,sc) W0 from⟨htb,hus.below hb0,ht,Chg.refl _ _,.inl ⟨rfl,rfl⟩⟩)
 have HSP:=qh (P.a1m ht)
 have HT0S:=qh ht
 clear hb1 hsx hsr htb hb0 ht hu hus
 obtain⟨od,oc,rfl,hol,_⟩:=ho
 go_enter func168,ntmps168
 go_upto_region 2 with fail
 try rw [hW0]
 clear hW0
 go_wp2
 go_loopw [7] (λi wr=>∃(j:Nat) (t:P.Tr) (tv:Value),j<=o.length/\i=.int .i64 j/\P.b1f l (st,sc) o=P.b1f l t (o.drop j)/\TySt W0 (w.heap.size+3) (w.heap.size+2) l (.slice sd st.length sap) st tv t wr) (λi _=>o.length-(intOf i).toNat)
 case atStart=>exact⟨0,(st,sc),(.slice sd st.length sap),Nat.zero_le _,rfl,by rw [List.drop_zero],HT0.o⟩
 case round=>
  obtain⟨j,⟨t1,t2⟩,tv,hj,rfl,hrun,hst⟩:=hrel;have HRUN:=qh hrun;have HT:=qh hst;obtain⟨ta,tc,rfl,_,_⟩:=id hst.str;have hs12:=P.a1m hst.tra;have HBW:=qh (Chg.a0n HB.o hst.chg HB.o.size (λb h=>by have h9:b=w.heap.size+2:=h;omega));have HXW:=qh (HX.o.a0b hst.chg oZ);have HRW:=qh (HR.o.a0b hst.chg oZ);obtain⟨hs1,hs2⟩:=hs12;simp only at hs1 hs2;have hbz:=hst.box.1;have hz3:w.heap.size+3<=wr.heap.size:=by have h1:=hst.chg.size;omega
  clear hrun hst HT0
  by_cases hlt:j<o.length
  .obtain⟨g,og,hga,hgs,c0⟩:=(HO.o.below HBW.o).at j hlt;subst hga;have HN1:=qh (HRUN.o.trans (P.c9y hlt));generalize o[j]=k at *;have i2:(j:Int)<(o.length:Int):=by omega
   obtain⟨nx,scr,en,et,ok,hrr⟩:∃nx scr en et ok,P.a6q l (t1,t2) k=(((nx,scr),(en,et)),ok):=⟨_,_,_,_,_,rfl⟩;have HRR:=qh hrr;clear hrr;have HLT:=qh (show w.heap.size<wr.heap.size/\w.heap.size+2<wr.heap.size/\g<wr.heap.size from⟨by omega,hbz,hgs⟩);have HRD:Hq (RdS w.heap.size (w.heap.size+2) g (og+j) (.slice ad l.length cap) (.slice ta t1.length tc) t2 k wr.drew):=⟨RdS.step (B:=wr.heap.size) ⟨HXW.o.1.1,HT.o.box.2.1,HT.o.box.2.2.1,c0⟩ bZ.drew HLT.o⟩;clear c0
   go_upto_region 5 with fail
   go_cut [8,9,10] (λpp qq okv wx=>∃b1 b2 va vc,pp=.pointer (some ⟨b1,0,none⟩)/\qq=.pointer (some ⟨b2,0,none⟩)/\okv=.bool ok/\a1z b1 (.slice va nx.length vc) scr wx/\a1z b2 (.int .i64 en) et wx/\OwnK wr.heap.size wx (.slice va nx.length vc) nx/\Bl wr wx/\wr.heap.size<=b1/\wr.heap.size<=b2)
   case first=>
    have HP1:=qh (show t1.length<=2^20 by omega);have HP2:=qh (show t2.length<=2^30 by omega);apply a0m;intro k111;apply a0m;intro k110;apply a0m;intro k101;apply a0m;intro k011;apply a0m;intro k100;apply a0m;intro k010;apply a0m;intro k001;have HBW0:Hq (Bl wr wr.drew):=⟨bZ.drew⟩;refine wp_region_held_drew (S:=RdS w.heap.size (w.heap.size+2) g (og+j) (.slice ad l.length cap) (.slice ta t1.length tc) t2 k) kZ HRD.o (λhS0=>?_);refine zm34 ?_;refine tk0 3 hS0 ?_;refine tk0 4 hS0 ?_;refine tk0 5 (v:=.pointer (some ⟨g,og+j,none⟩)) hS0 ?_;refine tk0 6 hS0 ?_;have HL0:=qh (PrSt.start hS0 (λx y h hb=>h.step (B:=wr.heap.size) hb HLT.o) HBW0.o);generalize wr.drew=v at hS0 HL0⊢;have HL:=qh HL0.o;clear HL0 hS0 HBW0;refine wpAnyH_ready (rs:=[7,12,13]) kZ sZ ?_;refine AllReadyH.cons rfl (λK hK=>?_) (AllReadyH.cons rfl (λK hK=>?_) (AllReadyH.cons rfl (λK hK=>?_) AllReadyH.nil))
    .skip;go_simp;refine zm23 ?_;rintro e v9 ⟨nv,rfl,ho,hb⟩;rw [HRR.o]at ho⊢;simp only at ho⊢;unfold a1d;obtain⟨va,vc,rfl⟩:=a0h ho;refine zn11 ?_;intro HLn HRn;clear hK K ho hb;refine zm0 ?_;refine zm18 ?_;refine tk0 11 HLn.o.s ?_;clear HL;revert HRn;revert HLn;revert vc;revert va;revert v9;exact k100
    .exact zq72
    .exact zq75
    intro v b2 HL;refine wpAnyH_ready (rs:=[7,12]) kZ sZ ?_;refine AllReadyH.cons rfl (λK hK=>?_) (AllReadyH.cons rfl (λK hK=>?_) AllReadyH.nil)
    .skip;go_simp;refine zm23 ?_;rintro e v9 ⟨nv,rfl,ho,hb⟩;rw [HRR.o]at ho⊢;simp only at ho⊢;unfold a1d;obtain⟨va,vc,rfl⟩:=a0h ho;refine zn11 ?_;intro HLn HRn;clear hK K ho hb;refine zm0 ?_;refine zm18 ?_;refine tk0 11 HLn.o.s ?_;clear HL;exact e3e
    .exact zq66
    intro v b1 HL;refine wpAnyH_ready (rs:=[7,13]) kZ sZ ?_;refine AllReadyH.cons rfl (λK hK=>?_) (AllReadyH.cons rfl (λK hK=>?_) AllReadyH.nil)
    .skip;go_simp;refine zm23 ?_;rintro e v9 ⟨nv,rfl,ho,hb⟩;rw [HRR.o]at ho⊢;simp only at ho⊢;unfold a1d;obtain⟨va,vc,rfl⟩:=a0h ho;refine zn11 ?_;intro HLn HRn;clear hK K ho hb;refine zm0 ?_;refine zm18 ?_;refine tk0 11 HLn.o.s ?_;clear HL;exact e3c
    .exact zq69
    intro v va vc HL HR;refine wpAnyH_ready (rs:=[12,13]) kZ sZ ?_;refine AllReadyH.cons rfl (λK hK=>?_) (AllReadyH.cons rfl (λK hK=>?_) AllReadyH.nil)
    .exact zq50
    .exact zq52
    intro v b1 b2 HL;refine trd 7 λK hK=>?_;go_simp;refine zm23 ?_;rintro e v9 ⟨nv,rfl,ho,hb⟩;rw [HRR.o]at ho⊢;simp only at ho⊢;unfold a1d;obtain⟨va,vc,rfl⟩:=a0h ho;refine zn11 ?_;intro HLn HRn;clear hK K ho hb;refine zm0 ?_;refine zm18 ?_;refine tk0 11 HLn.o.s ?_;clear HL;revert HRn;revert HLn;revert vc;revert va;revert b2;revert b1;revert v9;exact k111;intro v b2 va vc HL HR;refine trd 12 λK hK=>?_;go_simp;have HLn:=qh (HL.o.a5s);have HRn:=qh (HR.o.alloc (.cells #[.slice none 0 0,.string (S [])] 35) (.inr rfl) (.inl rfl));refine zm48 ?_;clear hK K;refine zm0 ?_;clear HL HR;generalize v.alloc (.cells #[.slice none 0 0,.string (S [])] 35)=v9 at HLn HRn⊢;generalize v.heap.size=b1 at HLn HRn⊢;revert HRn;revert HLn;revert vc;revert va;revert b2;revert b1;revert v9;exact k111;intro v b1 va vc HL HR;refine trd 13 λK hK=>?_;go_simp;have HLn:=qh (HL.o.a5u);have HRn:=qh (HR.o.alloc (.cells #[.int .i64 0,.string (S [])] 55) (.inl rfl) (.inr rfl));refine zm48 ?_;clear hK K;refine zm0 ?_;clear HL HR;generalize v.alloc (.cells #[.int .i64 0,.string (S [])] 55)=v9 at HLn HRn⊢;generalize v.heap.size=b2 at HLn HRn⊢;revert HRn;revert HLn;revert vc;revert va;revert b2;revert b1;revert v9;exact k111;intro v b1 b2 va vc HL HR;obtain⟨ht0,zb,cb0,cb1,fb0,fb1⟩:=HL.o.t b1 rfl;obtain⟨he0,he⟩:=HL.o.e b2 rfl;have n12:=HL.o.n b1 b2 rfl rfl;have HB0:=qh HL.o.bw;have hS:=HL.o.s;have hkk:=HL.o.k;clear HL;refine trd 14 λK hK=>?_;go_simp;obtain⟨y1,hy1⟩:∃y,((v.setCell ⟨b1,0,none⟩ (.slice va nx.length vc)).setCell ⟨b1,1,none⟩ (.string (S scr)))=y:=⟨_,rfl⟩;have hc1:Chg (λk=>k=b1) v y1:=by rw [<-hy1];exact ((Chg.refl (λk=>k=b1) v).setCell (p:=⟨b1,0,none⟩) rfl _).setCell (p:=⟨b1,1,none⟩) rfl _
    have hx1:a1z b1 (.slice va nx.length vc) scr y1:=by rw [<-hy1];exact a1z.set2 cb0 cb1 zb
    refine zm96 ?_;intro hw1 HB1 hS1;clear hK K;try rw [hy1]at hS1⊢
    refine zm0 ?_;have he1:=he.a0b hc1 oZ;have HR1:=qh (HR.o.a0b hc1 (λb h=>.inl (by have h9:b=b1:=h;rw [h9])));clear zb cb0 cb1 fb0 fb1 he hy1 HR;obtain⟨zb,cb0,cb1,fb0,fb1⟩:=he1;refine trd 15 λK hK=>?_;go_simp;obtain⟨y2,hy2⟩:∃y,((y1.setCell ⟨b2,0,none⟩ (.int .i64 en)).setCell ⟨b2,1,none⟩ (.string (S et)))=y:=⟨_,rfl⟩;have hc2:Chg (λk=>k=b2) y1 y2:=by rw [<-hy2];exact ((Chg.refl (λk=>k=b2) y1).setCell (p:=⟨b2,0,none⟩) rfl _).setCell (p:=⟨b2,1,none⟩) rfl _
    have hx2:a1z b2 (.int .i64 en) et y2:=by rw [<-hy2];exact a1z.set2 cb0 cb1 zb
    refine zm94 ?_;intro hw2 HB2 hS2;clear hK K;try rw [hy2]at hS2⊢
    refine zm0 ?_;have hx1':=hx1.a0b hc2 oZ;have HR2:=qh (HR1.o.a0b hc2 (λb h=>.inr (by have h9:b=b2:=h;rw [h9])));clear zb cb0 cb1 fb0 fb1 hy2 HR1;refine tk0 16 hS2 ?_;exact zq158
   case rest=>
    obtain⟨b1,b2,va,vc,rfl,rfl,rfl,hx1,hx2,ho,hb,hw1,hw2⟩:=hcut;have HT3:=qh (HT.o.below hb);have HX3:=qh (HXW.o.below hb);have HR3:=qh (HRW.o.below hb);have HB3:=bt HBW hb;have HX1:=qh hx1;have HOW:=qh ho;have HBB:=qh hb;have hzz:=hb.size;generalize hww:wc=w3 at *;clear hww hb ho hx1 hx2 HRD
    cases ok
    .have HP:=qh (P.c8v (s:=(l,(st,sc))) (o:=o) (by rw [HN1.o,HRR.o];rfl));obtain⟨⟨o0,o1,o2,o3,o4,o5,o6⟩,_⟩:=HX3.o;obtain⟨⟨r0,r1,r2,r3,r4,r5,r6⟩,f0,f1,f2,f3,f4,f5⟩:=HR3.o;obtain⟨V,hV⟩:∃v,((((((w3.setCell ⟨w.heap.size+1,0,none⟩ ((.slice ad l.length cap))).setCell ⟨w.heap.size+1,1,none⟩ ((.slice sd st.length sap))).setCell ⟨w.heap.size+1,2,none⟩ (.string (S sc))).setCell ⟨w.heap.size+1,3,none⟩ (.string (S d))).setCell ⟨w.heap.size+1,4,none⟩ (.string (S p))).setCell ⟨w.heap.size+1,5,none⟩ (.int .i64 n))=v:=⟨_,rfl⟩;have hset:Chg (λb=>b=w.heap.size+1) w3 V:=by rw [<-hV];exact (((((((Chg.refl (λb=>b=w.heap.size+1) w3).setCell (p:=⟨w.heap.size+1,0,none⟩) rfl _).setCell (p:=⟨w.heap.size+1,1,none⟩) rfl _).setCell (p:=⟨w.heap.size+1,2,none⟩) rfl _).setCell (p:=⟨w.heap.size+1,3,none⟩) rfl _).setCell (p:=⟨w.heap.size+1,4,none⟩) rfl _).setCell (p:=⟨w.heap.size+1,5,none⟩) rfl _)
     refine zm31 ?_;intro HRV HBV;go_wp2;refine zn50 ?_;intro q0 q1 q2 q3 q4 q5 q6;clear hset hV;refine bodyPost_ret (v:=.tuple #[a1a ((.slice ad l.length cap)) ((.slice sd st.length sap)) sc d p n,.string (S [63])]) (by simp [results,results168,go_sem,q0,q1,q2,q3,q4,q5]) rfl ⟨(.slice ad l.length cap),(.slice sd st.length sap),by rw [HP.o];rfl,by rw [HP.o];exact .inl ⟨rfl,rfl⟩,by rw [HP.o];exact .inl ⟨rfl,rfl⟩,HBV.o⟩
    .have htr:P.trans l (nx,scr)=true:=by have h:=P.b1l (d:=l) (t:=(t1,t2)) (k:=k) (by rw [HRR.o]);rw [HRR.o]at h;exact h
     have hnl:=(P.a1m htr).1;simp only at hnl;have HT4:=qh (HT.o.store (t':=(nx,scr)) (nv:=.slice va nx.length vc) HBB.o hz3 HOW.o htr (by simp only;omega));obtain⟨k1,k2,_⟩:=HX1.o;obtain⟨zb,c0,c1,f0,f1⟩:=HT3.o.box;clear HT HT3 HX3 HR3 HB3 HXW HRW;exact zq137
  .have hjl:j=o.length:=by omega
   subst hjl;have HP:Hq (P.typed (l,(st,sc)) o=((l,(t1,t2)),some (P.fmtE (P.least sc t2)))):=⟨P.c2h (s:=(l,(st,sc))) (HRUN.o.trans P.c2g)⟩;obtain⟨hl1,hl2⟩:=HSP.o;obtain⟨⟨o0,o1,o2,o3,o4,o5,o6⟩,g0,g1,g2,g3,g4,g5⟩:=HXW.o;obtain⟨zb,c0,c1,f0,f1⟩:=HT.o.box;have HED:Hq (P.a4g (P.least sc t2)=true):=⟨P.b2l (P.a2l HT0S.o) (P.a2l HT.o.tra)⟩;go_wp2_with fail;refine (b5n sc t2 _ oZ oZ).mono ?_;rintro e w3 ⟨rfl,hb⟩;obtain⟨x,et,hE⟩:∃x et,P.least sc t2=(x,et):=⟨_,_,rfl⟩;rw [hE]at HP HED⊢;clear hE;have hba:=(Below.refl w3.heap.size w3).alloc lZ (.cells #[.int .i64 x,.string (S et)] 55);have HT4:=qh ((HT.o.below hb).below hba);have HX4:=qh ((HXW.o.below hb).below hba);have HR4:=qh ((HRW.o.below hb).below hba);have HB3:=bt HBW hb;have HB4:=bt HB3 hba;have HE4:=qh (a1z.new (.int .i64 x) et 55 w3);have hz4:w.heap.size+3<=w3.heap.size:=Nat.le_trans hz3 hb.size;clear o0 o1 o2 o3 o4 o5 o6 g0 g1 g2 g3 g4 g5 zb c0 c1 f0 f1 hb hba HT HXW HRW HBW HB3;go_upto_region 10 with fail;generalize w3.alloc (.cells #[.int .i64 x,.string (S et)] 55)=w4 at *;obtain⟨⟨o0,o1,o2,o3,o4,o5,o6⟩,g0,g1,g2,g3,g4,g5⟩:=HX4.o;obtain⟨zb,c0,c1,f0,f1⟩:=HT4.o.box;obtain⟨w5,hw5⟩:∃v,(w4.setCell ⟨w.heap.size,1,none⟩ (.slice ta t1.length tc)).setCell ⟨w.heap.size,2,none⟩ (.string (S t2))=v:=⟨_,rfl⟩;have hset:Chg (λb=>b=w.heap.size) w4 w5:=by rw [<-hw5];exact ((Chg.refl (λb=>b=w.heap.size) w4).setCell (p:=⟨w.heap.size,1,none⟩) rfl _).setCell (p:=⟨w.heap.size,2,none⟩) rfl _
   have HX5:Hq (SOut w.heap.size (.slice ad l.length cap) (.slice ta t1.length tc) t2 d p n w5):=⟨by rw [<-hw5];exact HX4.o.set1 (x:=(.slice ta t1.length tc)) (r:=t2)⟩;have HR5:=qh (HR4.o.a0b hset oZ);have HE5:=qh (HE4.o.a0b hset oZ);have HB5:=qh (Chg.a0n HB4.o hset HB4.o.size (λb h=>by have h9:b=w.heap.size:=h;omega));have HC5a:=qh (hset.mono (F':=λb=>b<w.heap.size+3) (λb _ h=>by have h9:b=w.heap.size:=h;omega));go_upto_region 11 with fail;try rw [hw5]
   clear o0 o1 o2 o3 o4 o5 o6 g0 g1 g2 g3 g4 g5 zb c0 c1 f0 f1 hset hw5 HX4 HR4 HE4 HB4;have HXD:=qh (HX5.o.below bZ.drew);have HRD2:=qh (HR5.o.below bZ.drew);have HEB:=qh (HE5.o.below bZ.drew);have HBD:=qh (HB5.o.trans (bZ.drew.mono HB5.o.size));go_upto_region 11 with fail;refine wp_region_held_drew (S:=λv=>SOut (w.heap.size) ((.slice ad l.length cap)) ((.slice ta t1.length tc)) t2 d p n v/\a1z (w3.heap.size) (.int .i64 x) et v) kZ ⟨HXD.o,HEB.o⟩ (λhS0=>?_);have HCD:Hq (Chg (λb=>b=w.heap.size+1) w5 w5.drew):=⟨(Chg.refl _ _).drew⟩;generalize w5.drew=y0 at *;refine tk14 0 hS0 ?_;refine tk14 1 hS0 ?_;refine trd 2 λK hK=>?_;go_simp;refine (c7g x et _ HED.o).mono ?_;rintro e y1 ⟨rfl,hb⟩;refine zm57 ?_;intro HR5 HB5 HC5 hS1;clear hK K hb;refine zm0 ?_;obtain⟨⟨r0,r1,r2,r3,r4,r5,r6⟩,f0,f1,f2,f3,f4,f5⟩:=HR5.o;obtain⟨V,hV⟩:∃v,((((((y1.setCell ⟨w.heap.size+1,0,none⟩ ((.slice ad l.length cap))).setCell ⟨w.heap.size+1,1,none⟩ ((.slice ta t1.length tc))).setCell ⟨w.heap.size+1,2,none⟩ (.string (S t2))).setCell ⟨w.heap.size+1,3,none⟩ (.string (S d))).setCell ⟨w.heap.size+1,4,none⟩ (.string (S p))).setCell ⟨w.heap.size+1,5,none⟩ (.int .i64 n))=v:=⟨_,rfl⟩;have hset:Chg (λb=>b=w.heap.size+1) y1 V:=by rw [<-hV];exact (((((((Chg.refl (λb=>b=w.heap.size+1) y1).setCell (p:=⟨w.heap.size+1,0,none⟩) rfl _).setCell (p:=⟨w.heap.size+1,1,none⟩) rfl _).setCell (p:=⟨w.heap.size+1,2,none⟩) rfl _).setCell (p:=⟨w.heap.size+1,3,none⟩) rfl _).setCell (p:=⟨w.heap.size+1,4,none⟩) rfl _).setCell (p:=⟨w.heap.size+1,5,none⟩) rfl _)
   have HRV:Hq (SOut (w.heap.size+1) ((.slice ad l.length cap)) ((.slice ta t1.length tc)) t2 d p n V):=⟨by rw [<-hV];exact ((HR5.o.set0 (x:=(.slice ad l.length cap))).set1 (x:=(.slice ta t1.length tc)) (r:=t2)).set3 (d':=d) (p':=p) (n':=n)⟩;refine zm63 ?_;intro HBV HCV K hK;go_simp;refine hK.out _ _ (by (try rw [hV]);exact⟨hS1.1.a0b hset (λh=>by have h9:w.heap.size=w.heap.size+1:=h;omega),hS1.2.a0b hset (λh=>by have h9:w3.heap.size=w.heap.size+1:=h;omega)⟩) (λhS2=>?_);clear hK K;try rw [hV]at hS2⊢
   clear r0 r1 r2 r3 r4 r5 r6 f0 f1 f2 f3 f4 f5;refine zm0 ?_;refine tk14 4 hS2 ?_;refine wpAnyH_done kZ ?_ _;go_wp2;refine zn50 ?_;intro q0 q1 q2 q3 q4 q5 q6;clear hset hV;refine bodyPost_ret (v:=.tuple #[a1a ((.slice ad l.length cap)) ((.slice ta t1.length tc)) t2 d p n,.string (S (P.fmtE (x,et)))]) (by simp [results,results168,go_sem,q0,q1,q2,q3,q4,q5]) rfl ⟨(.slice ad l.length cap),(.slice ta t1.length tc),by rw [HP.o];rfl,by rw [HP.o];exact .inl ⟨rfl,rfl⟩,by rw [HP.o];exact HT4.o.fresh (w:=w) (HC5a.o.trans (HCV.o.mono (λb _ h=>by have h9:b=w.heap.size+1:=h;show b<_;omega))) (λ_ h=>h) (by show t1.length<=_;omega) oZ,HBV.o⟩
end Go.Proofs.YtggfdnopminemaaGreatDoor
