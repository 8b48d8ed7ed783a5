/- Walks: a command. -/
import Derived.Test.YtggfdnopminemaaGreatDoorCurS0
import Derived.Test.YtggfdnopminemaaGreatDoorSesB3
set_option linter.all false
namespace Go.Proofs.YtggfdnopminemaaGreatDoor
open Go.Proofs.Tryz
open Go Go.RowKit
set_option maxHeartbeats 8000000
set_option maxRecDepth 100000
variable {B C D K K':Nat} {g:P.LogT} {s:P.Ses} {u us:Go.Value} {W v v' w:Go.World}
theorem a8x (u us:Value) (l:P.Dic) (st:List Int) (sc d p:Str) (n:Int) (line:Str) (w:World) (hu:EntR w u l) (hus:IntR w us st) (hf:P.Fit (l,(st,sc)) (d,p,n)) (hl:line.length<=2^20) (hE:L.Env w) :
 Cz 34 #[a1a u us sc d p n,.string (S line)] w (d0b (P.exec (l,(st,sc)) (d,p,n) line) w):=by
 obtain⟨hf1,hf2,hf3,hf4,hf5,hf6⟩:=hf
 have hm:Small l:=⟨hf1,hf2,hf3⟩
 simp only at hf4 hf5 hf6
 clear hf1 hf2 hf3
 have hu0:=hu;have hus0:=hus
 obtain⟨ad,cap,rfl,_,_⟩:=hu0
 obtain⟨sd,sap,rfl,_,_⟩:=hus0
 obtain⟨W0,hW0⟩:∃v,(w.alloc (a0d (.slice ad l.length cap) (.slice sd st.length sap) sc d p n)).alloc (a0d (.slice none 0 0) (.slice none 0 0) [] [] [] 0)=v:=⟨_,rfl⟩
 have hb0:Bl w W0:=by rw [<-hW0];exact ((Below.refl w.heap.size w).alloc lZ _).alloc sZ _
 have hzW:W0.heap.size=w.heap.size+2:=by rw [<-hW0];simp
 have hq0:SQ w.heap.size (.slice ad l.length cap) (.slice sd st.length sap) sc d p n W0:=by
  exact zq96
 have HU:=qh hu;have HUS:=qh hus;have HE:=qh hE;have HQ:=qh hq0;have HB:=qh hb0;have hzW2:w.heap.size+2<=W0.heap.size:=by omega
 clear hq0 hb0 hu hus hE hzW;go_enter func34,ntmps34;go_upto_region 1 with fail;try rw [hW0]
 clear hW0;obtain⟨⟨o0,o1,o2,o3,o4,o5,o6⟩,_⟩:=HQ.o.1;go_wp2_with fail;refine (e1n _ _ l st sc d p n _ (HU.o.below HB.o) (HUS.o.below HB.o) hm oZ).mono ?_;rintro e w1 ⟨nu,nus,m,rfl,hD,hI,hm1,hm2,hb⟩;obtain⟨na,nc,rfl,-,-⟩:=id hD;obtain⟨ma,mc,rfl,-,-⟩:=id hI;obtain⟨w2,hw2⟩:∃v,w1.alloc (a0d (.slice na l.length nc) (.slice ma st.length mc) sc d p n)=v:=⟨_,rfl⟩;have hba:Bl w1 w2:=by rw [<-hw2];exact bZ.alloc lZ _
 have hz1:=hb.size;have hBz:w1.heap.size<w2.heap.size:=by rw [<-hw2];simp
 refine zm40 ?_;intro HB2 HQ2 HS2;clear hD hI hm1 hm2 hb hba HQ HB o0 o1 o2 o3 o4 o5 o6;go_upto_region 2 with fail;try rw [hw2]
 clear hw2;obtain⟨⟨o0,o1,o2,o3,o4,o5,o6⟩,_⟩:=HQ2.o.1;go_wp2_with fail;refine (e2h _ _ l st sc d p n _ (HU.o.below HB2.o) (HUS.o.below HB2.o) hm hf5 hf6).mono ?_;rintro e w3 ⟨rfl,hb⟩;have HB3:=bt HB2 hb;have HQ3:=qh (HQ2.o.below hb);have HS3:=qh (HS2.o.below hb);have hB3:=hb.size;clear hb HB2 HQ2 HS2 o0 o1 o2 o3 o4 o5 o6
 cases h1:P.sess l st sc d p n
 .have HP:=qh (P.c1x (s:=(l,(st,sc))) (g:=(d,p,n)) (line:=line) h1);obtain⟨_,_,bu,bus,hso,hrows⟩:=HS3.o;simp only at hso hrows;obtain⟨ba,bc,rfl,_,_⟩:=id hrows.dic;obtain⟨ia,ic,rfl,_,_⟩:=id hrows.str;obtain⟨⟨o0,o1,o2,o3,o4,o5,o6⟩,_⟩:=hso;obtain⟨⟨r0,r1,r2,r3,r4,r5,r6⟩,f0,f1,f2,f3,f4,f5⟩:=HQ3.o.2;obtain⟨V,hV⟩:∃v,wr6 w3 (w.heap.size+1) (.slice ba l.length bc) (.slice ia st.length ic) sc d p n=v:=⟨_,rfl⟩;have hset:Chg (λb=>b=w.heap.size+1) w3 V:=by rw [<-hV];exact a3m _ _ _ _ _ _ _ _
  refine zm35 ?_;intro HRV HBV HROW;unfold wr6 at hV;clear hrows;go_wp2;refine zn50 ?_;intro q0 q1 q2 q3 q4 q5 q6;clear hset hV;refine bodyPost_ret (v:=.tuple #[a1a (.slice ba l.length bc) (.slice ia st.length ic) sc d p n,.string (S [110,111])]) (by simp [results,results34,go_sem,q0,q1,q2,q3,q4,q5]) rfl ⟨_,_,w1.heap.size,by rw [HP.o]<;>rfl,by rw [HP.o];exact HROW.o,HBV.o⟩
 have HT:=qh (P.a3d (s:=(l,(st,sc))) (g:=(d,p,n)) h1)
 go_wp2_with fail
 refine (L.b3z line [] _ (by unfold maxLen;omega) (by unfold maxLen;simp)).mono ?_
 rintro e w4 ⟨rfl,hb⟩
 have HB4:=bt HB3 hb;have HQ4:=qh (HQ3.o.below hb);have HS4:=qh (HS3.o.below hb)
 have hB4:=Nat.le_trans hB3 hb.size
 clear hb HB3 HQ3 HS3
 cases h2:P.good line []
 .have HP:=qh (P.b2t (s:=(l,(st,sc))) (g:=(d,p,n)) (line:=line) h1 h2);obtain⟨_,_,bu,bus,hso,hrows⟩:=HS4.o;simp only at hso hrows;obtain⟨ba,bc,rfl,_,_⟩:=id hrows.dic;obtain⟨ia,ic,rfl,_,_⟩:=id hrows.str;obtain⟨⟨o0,o1,o2,o3,o4,o5,o6⟩,_⟩:=hso;obtain⟨⟨r0,r1,r2,r3,r4,r5,r6⟩,f0,f1,f2,f3,f4,f5⟩:=HQ4.o.2;obtain⟨V,hV⟩:∃v,wr6 w4 (w.heap.size+1) (.slice ba l.length bc) (.slice ia st.length ic) sc d p n=v:=⟨_,rfl⟩;have hset:Chg (λb=>b=w.heap.size+1) w4 V:=by rw [<-hV];exact a3m _ _ _ _ _ _ _ _
  refine zm4 ?_;intro HRV HBV HROW;unfold wr6 at hV;clear hrows;go_wp2;refine zn50 ?_;intro q0 q1 q2 q3 q4 q5 q6;clear hset hV;refine bodyPost_ret (v:=.tuple #[a1a (.slice ba l.length bc) (.slice ia st.length ic) sc d p n,.string (S [98,97,100])]) (by simp [results,results34,go_sem,q0,q1,q2,q3,q4,q5]) rfl ⟨_,_,w1.heap.size,by rw [HP.o]<;>rfl,by rw [HP.o];exact HROW.o,HBV.o⟩
 by_cases h3:n=60
 .have HP:=qh (P.a9j (s:=(l,(st,sc))) (g:=(d,p,n)) (line:=line) h1 h2 h3);have f9:(n==60)=true:=by rw [h3];rfl
  clear h3;obtain⟨⟨x0,x1,x2,x3,x4,x5,x6⟩,_⟩:=HQ4.o.1;obtain⟨_,_,bu,bus,hso,hrows⟩:=HS4.o;simp only at hso hrows;obtain⟨ba,bc,rfl,_,_⟩:=id hrows.dic;obtain⟨ia,ic,rfl,_,_⟩:=id hrows.str;obtain⟨⟨o0,o1,o2,o3,o4,o5,o6⟩,_⟩:=hso;obtain⟨⟨r0,r1,r2,r3,r4,r5,r6⟩,f0,f1,f2,f3,f4,f5⟩:=HQ4.o.2;obtain⟨V,hV⟩:∃v,wr6 w4 (w.heap.size+1) (.slice ba l.length bc) (.slice ia st.length ic) sc d p n=v:=⟨_,rfl⟩;have hset:Chg (λb=>b=w.heap.size+1) w4 V:=by rw [<-hV];exact a3m _ _ _ _ _ _ _ _
  refine zm4 ?_;intro HRV HBV HROW;unfold wr6 at hV;clear hrows;go_wp2;refine zn50 ?_;intro q0 q1 q2 q3 q4 q5 q6;clear hset hV;refine bodyPost_ret (v:=.tuple #[a1a (.slice ba l.length bc) (.slice ia st.length ic) sc d p n,.string (S [102,117,108,108])]) (by simp [results,results34,go_sem,q0,q1,q2,q3,q4,q5]) rfl ⟨_,_,w1.heap.size,by rw [HP.o]<;>rfl,by rw [HP.o];exact HROW.o,HBV.o⟩
 have HP:=qh (P.b2r (s:=(l,(st,sc))) (g:=(d,p,n)) (line:=line) h1 h2 h3)
 have f9:(n==60)=false:=by rw [beq_eq_false_iff_ne];exact h3
 obtain⟨⟨x0,x1,x2,x3,x4,x5,x6⟩,_⟩:=HQ4.o.1
 have HKT:=qh (P.b2u (s:=(l,(st,sc))) (line:=line) HT.o.1)
 obtain⟨_,_,bu,bus,hso,hrows⟩:=HS4.o
 simp only at hso hrows
 have HE1:=qh hrows.dic;have HI1:=qh hrows.str
 obtain⟨ba,bc,rfl,_,_⟩:=id HE1.o
 obtain⟨ia,ic,rfl,_,_⟩:=id HI1.o
 obtain⟨⟨o0,o1,o2,o3,o4,o5,o6⟩,_⟩:=hso
 clear hrows
 go_wp2_with fail
 refine (l25Run _ _ l st sc d p n line _ HE1.o HI1.o hm HT.o.1 hl).mono ?_
 rintro e w5 ⟨nu2,nus2,rfl,hfe,hfi,hb⟩
 have HE2:=qh (hfe.read HE1.o hb);have HI2:=qh (hfi.read HI1.o hb)
 obtain⟨⟨⟨l2,⟨st2,sc2⟩⟩,ro⟩,ha⟩:∃a,P.cmd (l,(st,sc)) line=a:=⟨_,rfl⟩
 rw [ha]at HP HKT HE2 HI2⊢
 simp only at HP HKT HE2 HI2⊢
 clear ha hfe hfi HE1 HI1 x0 x1 x2 x3 x4 x5 x6 o0 o1 o2 o3 o4 o5 o6
 obtain⟨na2,nc2,rfl,_,_⟩:=id HE2.o
 obtain⟨ma2,mc2,rfl,_,_⟩:=id HI2.o
 have hz5:=Nat.le_trans hB4 hb.size
 obtain⟨w6,hw6⟩:∃v,w5.alloc (a0d (.slice na2 l2.length nc2) (.slice ma2 st2.length mc2) sc2 d p n)=v:=⟨_,rfl⟩
 have hba:Bl w5 w6:=by rw [<-hw6];exact bZ.alloc lZ _
 have hBz6:w5.heap.size<w6.heap.size:=by rw [<-hw6];simp
 have HX6:Hq (SOut w5.heap.size (.slice na2 l2.length nc2) (.slice ma2 st2.length mc2) sc2 d p n w6):=⟨by rw [<-hw6];exact SOut.new _ _ _ _ _ _ _⟩
 have HB6:=qh ((HB4.o.trans (hb.mono HB4.o.size)).trans (hba.mono oZ));have HQ6:=qh ((HQ4.o.below hb).below hba);have HE6:=qh (HE2.o.below hba);have HI6:=qh (HI2.o.below hba)
 clear hb hba HB4 HQ4 HS4 HE2 HI2
 go_upto_region 9 with fail
 try rw [hw6]
 clear hw6
 obtain⟨⟨o0,o1,o2,o3,o4,o5,o6⟩,_⟩:=HX6.o
 have hsl2:=P.a4w (P.d4x (P.a2c HKT.o).1).2.1
 simp only at hsl2
 go_wp2_with fail
 refine (e1n _ _ l2 st2 sc2 d p n _ HE6.o HI6.o (a8v (P.b1v HKT.o)) oZ).mono ?_
 rintro e w7 ⟨nu3,nus3,m3,rfl,hD,hI,hm1,hm2,hb⟩
 obtain⟨na3,nc3,rfl,-,-⟩:=id hD
 obtain⟨ma3,mc3,rfl,-,-⟩:=id hI
 have HX7:=qh (HX6.o.below hb);have HQ7:=qh (HQ6.o.below hb);have HB7:=bt HB6 hb
 have hz7:=hb.size
 clear hb HX6 HQ6 HB6 HE6 HI6 o0 o1 o2 o3 o4 o5 o6
 obtain⟨w8,hw8⟩:∃v,wr6 w7 w5.heap.size (.slice na3 l2.length nc3) (.slice ma3 st2.length mc3) sc2 d p n=v:=⟨_,rfl⟩
 have hc8:Chg (λb=>b=w5.heap.size) w7 w8:=by rw [<-hw8];exact a3m _ _ _ _ _ _ _ _
 have HROW8:=qh ((a3b.of (lo:=w.heap.size+2) (B:=w5.heap.size) hD hI oZ hm2 hm1 (.inr hBz6)).a0b hc8 (λb h=>.inl h))
 have HS8:=qh (show SesM (w.heap.size+2) w5.heap.size (l2,(st2,sc2)) (d,p,n) w8 from⟨by have:=HE.o.size;omega,by have:=hc8.size;omega,_,_,by rw [<-hw8];exact a5o HX7.o _ _ _ _ _ _,HROW8.o⟩)
 have HQ8:=qh (show SQ w.heap.size (.slice ad l.length cap) (.slice sd st.length sap) sc d p n w8 from⟨HQ7.o.1.a0b hc8 (λh=>by have h9:w.heap.size=w5.heap.size:=h;omega),HQ7.o.2.a0b hc8 (λh=>by have h9:w.heap.size+1=w5.heap.size:=h;omega)⟩)
 have HB8:=qh (Chg.a0n HB7.o hc8 HB7.o.size (λb h=>by have h9:b=w5.heap.size:=h;omega))
 have hz8:=hc8.size
 obtain⟨⟨o0,o1,o2,o3,o4,o5,o6⟩,g0,g1,g2,g3,g4,g5⟩:=HX7.o
 clear hD hI hm1 hm2 HROW8
 unfold wr6 at hw8
 have HRP:=qh (b6f ro)
 go_upto_region 10 with fail
 try rw [hw8]
 clear hw8 hc8 HX7 HQ7 HB7 o0 o1 o2 o3 o4 o5 o6 g0 g1 g2 g3 g4 g5
 generalize txtB ro=t1 at *
 go_upto_if 38 with fail
 go_cut [8] (λrv wx=>rv=.string (S (P.a2s ro))/\w8=wx)
 case first=>
  exact zq89
 case rest=>
  obtain⟨rfl,rfl⟩:=hcut;have hrl:=P.b1b ro;generalize P.a2s ro=rep at *;obtain⟨_,_,zu,zus,hzs,_⟩:=HS8.o;simp only at hzs;obtain⟨⟨x0,x1,x2,x3,x4,x5,x6⟩,_⟩:=hzs;go_wp2_with fail;refine (L.b1g d p n line rep _ hf5 hf6 hl oZ (HE.o.below HB8.o HE.o.size)).mono ?_;rintro e w9 ⟨rfl,hb⟩;have HB9:=bt HB8 hb;have HQ9:=qh (HQ8.o.below hb);have HS9:=qh (HS8.o.below hb);have hz9:=hb.size;have HG:Hq (P.b0w (d,p,n) line rep=(d,(P.appS d p n line rep).1,(P.appS d p n line rep).2.1)):=⟨rfl⟩;rw [HG.o]at HP;generalize P.appS d p n line rep=g9 at *;obtain⟨p9,n9,c9⟩:=g9;simp only at HP⊢;clear hb HB8 HQ8 HS8 x0 x1 x2 x3 x4 x5 x6 HG;obtain⟨w10,hw10⟩:∃v,wr3 w9 w5.heap.size d p9 n9=v:=⟨_,rfl⟩;have hc10:Chg (λb=>b=w5.heap.size) w9 w10:=by rw [<-hw10];exact b4d _ _ _ _ _
  have HS10:Hq (SesM (w.heap.size+2) w5.heap.size (l2,(st2,sc2)) (d,p9,n9) w10):=⟨by rw [<-hw10];exact HS9.o.log⟩;have HQ10:=qh (show SQ w.heap.size (.slice ad l.length cap) (.slice sd st.length sap) sc d p n w10 from⟨HQ9.o.1.a0b hc10 (λh=>by have h9:w.heap.size=w5.heap.size:=h;omega),HQ9.o.2.a0b hc10 (λh=>by have h9:w.heap.size+1=w5.heap.size:=h;omega)⟩);have HB10:=qh (Chg.a0n HB9.o hc10 HB9.o.size (λb h=>by have h9:b=w5.heap.size:=h;omega));have hz10:=hc10.size;obtain⟨_,_,zu9,zus9,hzs,_⟩:=HS9.o;obtain⟨⟨o0,o1,o2,o3,o4,o5,o6⟩,g0,g1,g2,g3,g4,g5⟩:=hzs;unfold wr3 at hw10;go_upto_region 13 with fail;try rw [hw10]
  clear hw10 hc10 HB9 HQ9 HS9 o0 o1 o2 o3 o4 o5 o6 g0 g1 g2 g3 g4 g5;obtain⟨_,_,bu,bus,hso,hrows⟩:=HS10.o;simp only at hso hrows;obtain⟨ba,bc,rfl,_,_⟩:=id hrows.dic;obtain⟨ia,ic,rfl,_,_⟩:=id hrows.str;obtain⟨⟨o0,o1,o2,o3,o4,o5,o6⟩,_⟩:=hso;obtain⟨⟨r0,r1,r2,r3,r4,r5,r6⟩,f0,f1,f2,f3,f4,f5⟩:=HQ10.o.2;obtain⟨V,hV⟩:∃v,wr6 w10 (w.heap.size+1) (.slice ba l2.length bc) (.slice ia st2.length ic) sc2 d p9 n9=v:=⟨_,rfl⟩;have hset:Chg (λb=>b=w.heap.size+1) w10 V:=by rw [<-hV];exact a3m _ _ _ _ _ _ _ _
  have HRV:Hq (SOut (w.heap.size+1) (.slice ba l2.length bc) (.slice ia st2.length ic) sc2 d p9 n9 V):=⟨by rw [<-hV];exact a5o HQ10.o.2 _ _ _ _ _ _⟩;have HBV:=qh (Chg.a0n HB10.o hset HB10.o.size (λb h=>by have h9:b=w.heap.size+1:=h;omega));have HROW:=qh ((hrows.a7r hset (λb h=>by have h9:b=w.heap.size+1:=h;omega)).lo (lo':=w.heap.size) oZ);unfold wr6 at hV;clear hrows;go_wp2;refine zn50 ?_;intro q0 q1 q2 q3 q4 q5 q6;clear hset hV;refine bodyPost_ret (v:=.tuple #[a1a (.slice ba l2.length bc) (.slice ia st2.length ic) sc2 d p9 n9,.string (S rep)]) (by simp [results,results34,go_sem,q0,q1,q2,q3,q4,q5]) rfl ⟨_,_,w5.heap.size,by rw [HP.o]<;>rfl,by rw [HP.o];exact HROW.o,HBV.o⟩
theorem c7h (B C N:Nat) (w:World) (hN:N<2^28) (hB:L.EB<=B) (h:a1o B C N w) (hE:L.Env w) :
 Cz 61 #[.pointer (some ⟨C,0,none⟩)] w (c8j B C (N+8000) w):=by
 have hlt:=h.lt
 obtain⟨V0,hV0⟩:∃v,w.alloc (a0d (.slice none 0 0) (.slice none 0 0) [] [] [] 0)=v:=⟨_,rfl⟩
 have hba:Bl w V0:=by rw [<-hV0];exact (Below.refl w.heap.size w).alloc lZ _
 have HC:=qh ((a0e.refl h (Nat.le_refl N)).below hba)
 have HRS:=qh (show SOut w.heap.size (.slice none 0 0) (.slice none 0 0) [] [] [] 0 V0 by rw [<-hV0];exact SOut.new _ _ _ _ _ _ _)
 have HE:=qh (hE.below hba hE.size)
 have hzV:w.heap.size<V0.heap.size:=HRS.o.1.2.2.2.2.2.2
 clear h hba hE
 go_enter func61,ntmps61
 go_upto_region 1 with fail
 try rw [hV0]
 clear hV0
 go_wp2_with fail
 refine (b0p B C N _ oZ HC.o.1).mono ?_
 rintro e w1 ⟨l,u,rfl,hd,_,_,hen,_,hc⟩
 obtain⟨ua,uc,rfl,_,_⟩:=id hen
 have HS0:=qh (a5g.start (t:=26) (a0e.trans (a0e.refl HC.o.1 (Nat.le_refl N)) hc) (hc.envL HE.o hB hlt.1 oZ) hd (hen.c4t (λb hb=>hb) lZ) hB hlt.1 oZ)
 have HDR:=qh hd
 clear hc hen HE hd
 go_upto_region 3 with fail
 generalize hW:World.alloc (w1.alloc _) _=W2 at *
 clear hW
 go_wp2_with fail
 refine (a0r B C (N+1000) 5 _ oZ dZ HS0.o.cur.1).mono ?_
 rintro e w3 ⟨x,hx,rfl,hc⟩
 have HS1:=qh (HS0.o.draw hc)
 have hx5:x<5:=by omega
 clear hc HS0 hx
 go_wp2_with fail
 go_loopw [5] (λn wr=>∃(k:Nat) (u us:Value) (s:P.Ses) (g:P.LogT),k<=4/\n=.int .i64 k/\a5g B C (N+1002+400*(4-k)) V0 w1.heap.size (.slice ua l.length uc) l u us s g wr) (λn _=>(intOf n).toNat)
 case atStart=>exact⟨x,_,_,_,_,by omega,rfl,HS1.o.mono oZ⟩
 case round=>
  obtain⟨k,u,us,⟨l1,st1,sc1⟩,⟨d1,p1,n1⟩,hk,rfl,hr⟩:=hrel;have H3:=qh hr;obtain⟨xa,xc,rfl,_,_⟩:=hr.rdE.now;obtain⟨ya,yc,rfl,_,_⟩:=hr.rdI.now;clear HS1 hr
  by_cases h0:0<k
  .have h0i:(0:Int)<(k:Int):=by omega
   have hk1:((k:Int)-1)=((k-1:Nat):Int):=by omega
   have A4:=H3.o.call (Below.refl wr.heap.size wr).drew;obtain⟨⟨y0,y1,y2,y3,y4,y5,y6⟩,f0,f1,f2,f3,f4,f5⟩:=A4.box;obtain⟨b0,b1,b2⟩:=A4.dbx
   go_upto_region 6 with fail
   have hN2:N+1002+400*(4-k)<2^30:=by omega
   have hlo2:C<V0.heap.size:=by omega
   have hln:∀t:Str,t.length<=700->t.length<=2^20:=λt h=>by omega
   have hKK:N+1002+400*(4-k)+300<=N+1002+400*(4-(k-1)):=by omega
   go_region_law ((go_simp;(first|(go_at_call 52;refine (a7t B C _ _ _ _ l _ hN2 A4.cur.1 A4.rd0 hlo2 HDR.o).mono ?_;rintro e v ⟨t,rfl,htl,hcp⟩;have A5:=A4.draw hcp)|(go_at_call 34;refine (a8x _ _ l1 st1 sc1 d1 p1 n1 _ _ A5.rdE.now A5.rdI.now A5.fit.fit (hln _ (by assumption)) A5.env).mono ?_;rintro e v hpost;obtain⟨na,ma,nc,mc,⟨l2,st2,sc2⟩,⟨d2,p2,n2⟩,rep,rfl,A6,A7⟩:=a5g.run (s:=(l1,(st1,sc1))) (g:=(d1,p1,n1)) A5 hpost;clear hpost));clear y0 y1 y2 y3 y4 y5 y6 f0 f1 f2 f3 f4 f5 b0 b1 b2;obtain⟨⟨y0,y1,y2,y3,y4,y5,y6⟩,f0,f1,f2,f3,f4,f5⟩:=(by first|exact A6.box|exact A5.box);obtain⟨b0,b1,b2⟩:=(by first|exact A6.dbx|exact A5.dbx)))
   all_goals
    go_wp2
    go_roundw
    case rel=>exact⟨k-1,_,_,_,_,by omega,by go_num,A7.mono hKK⟩
    case measure=>exact zq
  .have h00:¬(0:Int)<(k:Int):=by omega
   go_wp2_with fail
   refine (a0r B C (N+1002+400*(4-k)) 24 _ oZ dZ H3.o.cur.1).mono ?_;rintro e w4 ⟨p,hp,rfl,hc⟩;have H4:=qh (H3.o.draw hc);clear hc hp H3;have hzD:V0.heap.size<=w1.heap.size:=H4.o.lo.2.2.2
   have HEND:=qh (show ∀(u us:Value) (s:P.Ses) (g:P.LogT) (v:World),a0e B C (N+7000) V0 v->RdE V0.heap.size w1.heap.size v u s.1->RdI V0.heap.size w1.heap.size v us s.2.1->w1.heap.size<=v.heap.size->a8p s.1->P.Fit s g->c8j B C (N+8000) w (.returned (a1a u us s.2.2 g.1 g.2.1 g.2.2)) (wr6 v w.heap.size u us s.2.2 g.1 g.2.1 g.2.2) from λu us s g v hcur hre hri hz hd hf=>by
    have hcw:=a3m v w.heap.size u us s.2.2 g.1 g.2.1 g.2.2;have hzz:=hcw.size;have hcc:a0e B C (N+8000) w v:=(HC.o.trans hcur).mono oZ;exact⟨s,g,u,us,rfl,hd,hf,((hre.wide (m:=V0.heap.size) lZ (by have:=hcur.2.size;have:=HC.o.2.size;omega) hz).chg hcw (λb h1 h2 e=>by omega)).wide oZ hzz lZ,((hri.wide (m:=V0.heap.size) lZ oZ hz).chg hcw (λb h1 h2 e=>by omega)).wide oZ hzz lZ,hcc.new hcw (by rintro b rfl;exact Nat.le_refl _) hlt.2 oZ⟩)
   have HRS4:=qh (HRS.o.a0b H4.o.cur.2 oZ);have hzw4:w1.heap.size+1<w4.heap.size:=H4.o.box.1.2.2.2.2.2.2;have hfit:=H4.o.fit.fit;have hscl:=H4.o.fit.scr;simp only at hscl
   by_cases p0:p=0
   .subst p0;have hc4:Chg (λb=>b=w1.heap.size+1) w4 (w4.setCell ⟨w1.heap.size+1,2,none⟩ (.string (S (sc1++[120])))):=(Chg.refl (λb=>b=w1.heap.size+1) w4).setCell (p:=⟨w1.heap.size+1,2,none⟩) rfl _;have f1:¬9223372036854775807<sc1.length+1:=by omega
    have HX:=qh (HEND.o (.slice xa l1.length xc) (.slice ya st1.length yc) (l1,(st1,sc1++[120])) (d1,p1,n1) _ ((H4.o.cur.new hc4 (by rintro b rfl;omega) oZ oZ).mono oZ) (H4.o.rdE.step hc4 (λb e=>.inr (.inr e)) hzD) (H4.o.rdI.step hc4 (λb e=>.inr (.inr e)) hzD) (by have:=hc4.size;omega) H4.o.fit.dic hfit);have HB:=qh H4.o.box;clear hc4 H4 HEND HRS hfit;obtain⟨⟨z0,z1,z2,z3,z4,z5,z6⟩,g0,g1,g2,g3,g4,g5⟩:=HRS4.o;obtain⟨⟨y0,y1,y2,y3,y4,y5,y6⟩,f0,f1',f2,f3,f4,f5⟩:=HB.o;go_wp2;refine bodyPost_ret (v:=a1a (.slice xa l1.length xc) (.slice ya st1.length yc) (sc1++[120]) d1 p1 n1) (by simp [results,results61,go_sem,z0,z1,z2,z3,z4,z5]) rfl ?_;exact HX.o
   .have n0:¬(p:Int)=0:=by omega
    by_cases p1':p=1
    .subst p1'
     go_wp2_with fail
     refine (d0y B C (N+1002+400*(4-k)+2) _ oZ hB H4.o.cur.1 H4.o.env).mono ?_;rintro e w5 ⟨d2,p2,n2,hd2,hp2,rfl,hc⟩;have H5:=qh (H4.o.draw hc);have HRS5:=qh (HRS4.o.a0b hc.2 oZ);have hz5:=hc.2.size;clear hc;have hc5:Chg (λb=>b=w1.heap.size+1) w5 (wr3 w5 (w1.heap.size+1) d2 p2 n2):=b4d _ _ _ _ _;have HX:=qh (HEND.o (.slice xa l1.length xc) (.slice ya st1.length yc) (l1,(st1,sc1)) (d2,p2,n2) _ ((H5.o.cur.new hc5 (by rintro b rfl;omega) oZ oZ).mono oZ) (H5.o.rdE.step hc5 (λb e=>.inr (.inr e)) hzD) (H5.o.rdI.step hc5 (λb e=>.inr (.inr e)) hzD) (by have:=hc5.size;omega) H5.o.fit.dic ⟨hfit.1,hfit.2.1,hfit.2.2.1,hfit.2.2.2.1,by show d2.length<=_;omega,by show p2.length<=_;omega⟩);have HB:=qh H5.o.box;clear hc5 H5 H4 HEND HRS HRS4 hfit;obtain⟨⟨z0,z1,z2,z3,z4,z5,z6⟩,g0,g1,g2,g3,g4,g5⟩:=HRS5.o;obtain⟨⟨y0,y1,y2,y3,y4,y5,y6⟩,f0,f1',f2,f3,f4,f5⟩:=HB.o;go_wp2;refine bodyPost_ret (v:=a1a (.slice xa l1.length xc) (.slice ya st1.length yc) sc1 d2 p2 n2) (by simp [results,results61,go_sem,z0,z1,z2,z3,z4,z5]) rfl ?_;exact HX.o
    .have n1':¬(p:Int)=1:=by omega
     by_cases p2':p=2
     .subst p2'
      go_wp2_with fail
      refine (a6v B C (N+1002+400*(4-k)+2) _ oZ H4.o.cur.1).mono ?_;rintro e w5 ⟨l2,u2,rfl,hd2,hr2,hc⟩;obtain⟨na,nc,rfl,_,_⟩:=hr2.now;have H5:=qh (H4.o.draw hc);have HRS5:=qh (HRS4.o.a0b hc.2 oZ);have hz5:=hc.2.size;clear hc;have hc5:Chg (λb=>b=w1.heap.size+1) w5 (w5.setCell ⟨w1.heap.size+1,0,none⟩ (.slice na l2.length nc)):=(Chg.refl (λb=>b=w1.heap.size+1) w5).setCell (p:=⟨w1.heap.size+1,0,none⟩) rfl _;have hre:RdE V0.heap.size w1.heap.size w5 (.slice na l2.length nc) l2:=.inr (hr2.wide oZ lZ lZ);have HX:=qh (HEND.o (.slice na l2.length nc) (.slice ya st1.length yc) (l2,(st1,sc1)) (d1,p1,n1) _ ((H5.o.cur.new hc5 (by rintro b rfl;omega) oZ oZ).mono oZ) (hre.step hc5 (λb e=>.inr (.inr e)) hzD) (H5.o.rdI.step hc5 (λb e=>.inr (.inr e)) hzD) (by have:=hc5.size;omega) hd2 ⟨hd2.small.len,hd2.small.outs,hd2.small.texts,hfit.2.2.2.1,hfit.2.2.2.2.1,hfit.2.2.2.2.2⟩);have HB:=qh H5.o.box;clear hc5 H5 H4 HEND HRS HRS4 hfit hre hr2 hd2;obtain⟨⟨z0,z1,z2,z3,z4,z5,z6⟩,g0,g1,g2,g3,g4,g5⟩:=HRS5.o;obtain⟨⟨y0,y1,y2,y3,y4,y5,y6⟩,f0,f1',f2,f3,f4,f5⟩:=HB.o;go_wp2;refine bodyPost_ret (v:=a1a (.slice na l2.length nc) (.slice ya st1.length yc) sc1 d1 p1 n1) (by simp [results,results61,go_sem,z0,z1,z2,z3,z4,z5]) rfl ?_;exact HX.o
     .have n2':¬(p:Int)=2:=by omega
      have HX:=qh (HEND.o (.slice xa l1.length xc) (.slice ya st1.length yc) (l1,(st1,sc1)) (d1,p1,n1) _ (H4.o.cur.mono oZ) H4.o.rdE H4.o.rdI oZ H4.o.fit.dic hfit);have HB:=qh H4.o.box;clear H4 HEND HRS hfit;obtain⟨⟨z0,z1,z2,z3,z4,z5,z6⟩,g0,g1,g2,g3,g4,g5⟩:=HRS4.o;obtain⟨⟨y0,y1,y2,y3,y4,y5,y6⟩,f0,f1',f2,f3,f4,f5⟩:=HB.o;go_wp2;refine bodyPost_ret (v:=a1a (.slice xa l1.length xc) (.slice ya st1.length yc) sc1 d1 p1 n1) (by simp [results,results61,go_sem,z0,z1,z2,z3,z4,z5]) rfl ?_;exact HX.o
theorem c6u {w':World} {v:Value} (h:b8e w v) (hb:Bl w w'):b8e w' v:=by
 obtain⟨ad,n,cap,rfl,hn,hc⟩:=h;refine⟨ad,n,cap,rfl,hn,hc.imp id ?_⟩;rintro⟨g,o,h1,h2,h3⟩;refine⟨g,o,h1,Nat.lt_of_lt_of_le h2 hb.size,λj hj=>?_⟩;obtain⟨b,hb1,hb2⟩:=h3 j hj;exact⟨b,hb1,(hb.cell (p:=⟨g,o+j,none⟩) h2).trans hb2⟩
structure DsSt (B C K:Nat) (W:World) (D:Nat) (u us:Value) (s:P.Ses) (g:P.LogT) (v:World):Prop where
 cur:a0e B C K W v
 env:L.Env v
 box:SOut D u us s.2.2 g.1 g.2.1 g.2.2 v
 rdE:a5q W.heap.size D v u s.1
 rdI:a7j W.heap.size D v us s.2.1
 lo:L.EB<=B/\B<=C/\C<W.heap.size/\W.heap.size<=D
theorem DsSt.draw (h:DsSt B C K W D u us s g v) (hc:a0e B C K' v v'):DsSt B C K' W D u us s g v':=by
 obtain⟨l1,l2,l3,l4⟩:=h.lo;exact⟨h.cur.trans hc,hc.envL h.env l1 l2 h.cur.1.lt.2,h.box.a0b hc.2 oZ,h.rdE.chg hc.2 (λb h1 h2 e=>by omega),h.rdI.chg hc.2 (λb h1 h2 e=>by omega),h.lo⟩
theorem DsSt.call (h:DsSt B C K W D u us s g v) (hb:Bl v v'):DsSt B C K W D u us s g v':=by
 have hc:=Below.chg hb (λ_=>False);exact⟨h.cur.below hb,h.env.below hb h.env.size,h.box.below hb,h.rdE.chg hc (λ_ _ _ h=>h),h.rdI.chg hc (λ_ _ _ h=>h),h.lo⟩
theorem DsSt.mono (h:DsSt B C K W D u us s g v) (hK:K<=K'):DsSt B C K' W D u us s g v:=
 ⟨h.cur.mono hK,h.env,h.box,h.rdE,h.rdI,h.lo⟩
theorem DsSt.other {E:Nat} (h:DsSt B C K W D u us s g v) (hc:Chg (λb=>b=E) v v') (hE:D<E):DsSt B C K W D u us s g v':=by
 obtain⟨l1,l2,l3,l4⟩:=h.lo;have hz:=h.cur.2.size;exact⟨h.cur.new hc (by rintro b rfl;omega) l3 oZ,h.env.below (hc.below (B:=W.heap.size) hz (by rintro b rfl;omega)) oZ,h.box.a0b hc oZ,h.rdE.chg hc (λb h1 h2 e=>by omega),h.rdI.chg hc (λb h1 h2 e=>by omega),h.lo⟩
theorem DsSt.log (h:DsSt B C K W D u us s g v) (d p:Str) (n:Int):DsSt B C K W D u us s (d,p,n) (wr3 v D d p n):=by
 obtain⟨l1,l2,l3,l4⟩:=h.lo;have hz:=h.cur.2.size;have hc:=b4d v D d p n;exact⟨h.cur.new hc (by rintro b rfl;omega) l3 oZ,h.env.below (hc.below (B:=W.heap.size) hz (by rintro b rfl;omega)) oZ,h.box.set3,h.rdE.chg hc (λb h1 h2 e=>by omega),h.rdI.chg hc (λb h1 h2 e=>by omega),h.lo⟩
def b3n (w:World) (e:Ending) (w':World):Prop:=∃(s:P.Ses) (g:P.LogT) (u us:Value) (t:Str),e=.returned (.tuple #[a1a u us s.2.2 g.1 g.2.1 g.2.2,.string (S t)])/\t.length<=4000/\a8p s.1/\P.Fit s g/\EntR w' u s.1/\IntR w' us s.2.1/\Bl w w'
theorem b3n.mk (hW:Bl w W) (h:DsSt w.heap.size C K W D u us s g v) (hd:a8p s.1) (hf:P.Fit s g) (hlo:w.heap.size<W.heap.size) (t:Str) (ht:t.length<=4000) :
 b3n w (.returned (.tuple #[a1a u us s.2.2 g.1 g.2.1 g.2.2,.string (S t)])) (wr6 v w.heap.size u us s.2.2 g.1 g.2.1 g.2.2):=by
 have hc:=a3m v w.heap.size u us s.2.2 g.1 g.2.1 g.2.2
 obtain⟨l1,l2,l3,l4⟩:=h.lo
 have hb:Bl w v:=Chg.a0n hW h.cur.2 hW.size (λb e=>by omega)
 exact⟨s,g,u,us,t,rfl,ht,hd,hf,(h.rdE.chg hc (λb h1 h2 e=>by omega)).now,(h.rdI.chg hc (λb h1 h2 e=>by omega)).now,Chg.a0n hb hc hb.size (λb e=>by omega)⟩
theorem c0l (v:Value) (w:World) (hv:b8e w v) (hE:L.Env w) :
 Cz 14 #[v] w (b3n w):=by
 obtain⟨ad,n,cap,rfl,_,_⟩:=id hv
 obtain⟨V0,hV0⟩:∃v,w.alloc (a0d (.slice none 0 0) (.slice none 0 0) [] [] [] 0)=v:=⟨_,rfl⟩
 have hb0:Bl w V0:=by rw [<-hV0];exact (Below.refl w.heap.size w).alloc lZ _
 have HRS:=qh (show SOut w.heap.size (.slice none 0 0) (.slice none 0 0) [] [] [] 0 V0 by rw [<-hV0];exact SOut.new _ _ _ _ _ _ _)
 have HV:=qh hv;have HEB:=qh hE.size
 have HB0:=qh hb0;have HE:=qh (hE.below hb0 hE.size)
 have hzV:w.heap.size<V0.heap.size:=HRS.o.1.2.2.2.2.2.2
 clear hb0 hv hE
 go_enter func14,ntmps14
 go_upto_region 1 with fail
 try rw [hV0]
 clear hV0
 have HC:=qh (HV.o.fresh (t:=91) HB0.o)
 have hba:=(Below.refl V0.heap.size V0).alloc lZ (.cells #[.slice ad n cap,.int .i64 0,.int .u64 0] 91)
 have HRS1:=qh (HRS.o.below hba);have HB1:=bt HB0 hba;have HE1:=qh (HE.o.below hba HE.o.size)
 have hz1:V0.heap.size<(V0.alloc (.cells #[.slice ad n cap,.int .i64 0,.int .u64 0] 91)).heap.size:=by simp
 clear hba HB0 HV HRS HE
 go_upto_region 2 with fail
 generalize V0.alloc (.cells #[.slice ad n cap,.int .i64 0,.int .u64 0] 91)=v1 at *
 generalize V0.heap.size=C at *
 go_wp2_with fail
 refine (c7h w.heap.size C 0 _ dZ HEB.o HC.o HE1.o).mono ?_
 rintro e w2 ⟨⟨l,st,sc⟩,⟨d,p,m⟩,u,us,rfl,hd,hf,hre,hri,hc⟩
 obtain⟨ua,uc,rfl,_,_⟩:=hre.now
 obtain⟨sa,sap,rfl,_,_⟩:=hri.now
 have HD:=qh hd;have HF:=qh hf
 have hz2:v1.heap.size<=w2.heap.size:=hc.2.size
 have hbb:=(Below.refl w2.heap.size w2).alloc lZ (a0d (.slice ua l.length uc) (.slice sa st.length sap) sc d p m)
 have HT:=qh (show DsSt w.heap.size C 8000 v1 w2.heap.size (.slice ua l.length uc) (.slice sa st.length sap) (l,(st,sc)) (d,p,m) (w2.alloc (a0d (.slice ua l.length uc) (.slice sa st.length sap) sc d p m)) from⟨hc.below hbb,(hc.envL HE1.o HEB.o oZ hz1).below hbb (hc.envL HE1.o HEB.o oZ hz1).size,SOut.new _ _ _ _ _ _ _,hre.chg (Below.chg hbb (λ_=>False)) (λ_ _ _ h=>h),hri.chg (Below.chg hbb (λ_=>False)) (λ_ _ _ h=>h),HEB.o,by omega,hz1,hz2⟩)
 clear hc hre hri hbb HC HE1 hd hf
 go_upto_region 3 with fail
 generalize w2.alloc (a0d (.slice ua l.length uc) (.slice sa st.length sap) sc d p m)=w3 at *
 obtain⟨⟨c0,c1,c2,c3,c4,c5,c6⟩,f0,f1,f2,f3,f4,f5⟩:=HT.o.box
 go_wp2_with fail
 refine (a7t w.heap.size C 8000 v1.heap.size w2.heap.size _ l _ dZ HT.o.cur.1 HT.o.rdE hz1 HD.o).mono ?_
 rintro e w4 ⟨tx,rfl,htx,hc⟩
 have H4:=qh (HT.o.draw hc)
 clear hc HT c0 c1 c2 c3 c4 c5 c6 f0 f1 f2 f3 f4 f5
 go_wp2_with fail
 refine (a0r w.heap.size C (8000+300) 5 _ dZ dZ H4.o.cur.1).mono ?_
 rintro e w5 ⟨x,hx,rfl,hc⟩
 have hx5:x<5:=by omega
 have H5:=qh (H4.o.draw hc)
 clear hc H4 hx
 go_wp2_with fail
 go_loopw [6,7] (λt n wr=>∃(tx:Str) (k:Nat),k<=4/\t=.string (S tx)/\tx.length<=700+701*(4-k)/\n=.int .i64 k/\DsSt w.heap.size C (8302+300*(4-k)) v1 w2.heap.size (.slice ua l.length uc) (.slice sa st.length sap) (l,(st,sc)) (d,p,m) wr) (λ_ n _=>(intOf n).toNat)
 case atStart=>exact⟨tx,x,by omega,rfl,by omega,rfl,H5.o.mono oZ⟩
 case round=>
  obtain⟨t1,k,hk,rfl,ht1,rfl,hr⟩:=hrel;have H6:=qh hr;clear H5 hr
  by_cases h0:0<k
  .have h0i:(0:Int)<(k:Int):=by omega
   have hk1:((k:Int)-1)=((k-1:Nat):Int):=by omega
   have f1:¬9223372036854775807<t1.length+1:=by omega
   obtain⟨⟨c0,c1,c2,c3,c4,c5,c6⟩,_⟩:=H6.o.box
   go_wp2_with fail
   refine (a7t w.heap.size C (8302+300*(4-k)) v1.heap.size w2.heap.size _ l _ oZ H6.o.cur.1 H6.o.rdE hz1 HD.o).mono ?_;rintro e w6 ⟨t2,rfl,ht2,hc⟩;have H7:=qh (H6.o.draw hc);clear hc H6 c0 c1 c2 c3 c4 c5 c6;have f2:¬9223372036854775807<t1.length+1+t2.length:=by omega
   go_wp2
   go_roundw
   case rel=>exact⟨_,k-1,by omega,rfl,by simp;omega,by go_num,H7.o.mono oZ⟩
   case measure=>exact zq
  .have h00:¬(0:Int)<(k:Int):=by omega
   go_wp2_with fail
   refine (a9t w.heap.size C (8302+300*(4-k)) 20 _ oZ dZ H6.o.cur.1).mono ?_;rintro e w6 ⟨b,rfl,hc⟩;have H7:=qh (H6.o.draw hc);clear hc H6
   cases b
   .have HX:=qh (b3n.mk HB1.o H7.o HD.o HF.o oZ (t1) oZ);have HQ:=qh (HRS1.o.a0b H7.o.cur.2 oZ);obtain⟨⟨c0,c1,c2,c3,c4,c5,c6⟩,f0,f1,f2,f3,f4,f5⟩:=H7.o.box;obtain⟨⟨r0,r1,r2,r3,r4,r5,r6⟩,g0,g1,g2,g3,g4,g5⟩:=HQ.o;go_wp2;refine bodyPost_ret (v:=.tuple #[a1a (.slice ua l.length uc) (.slice sa st.length sap) sc d p m,.string (S (t1))]) (by simp [results,results14,go_sem,r0,r1,r2,r3,r4,r5]) rfl ?_;exact HX.o
   .go_wp2_with fail
    refine (a0r w.heap.size C (8302+300*(4-k)+2) 2 _ oZ dZ H7.o.cur.1).mono ?_;rintro e w7 ⟨y,hy,rfl,hc⟩;have hy2:y<2:=by omega
    have H8:=qh ((H7.o.draw hc).mono (show 8302+300*(4-k)+2+2<=9999 by omega));clear hc H7 hy;have hw8:IntKind.i64.wrap (29+(y:Int))=29+(y:Int):=IntWalk.i64_in _ oZ
    go_wp2_with fail
    go_loopw [6,8] (λt n wr=>∃(tx:Str) (j:Nat),j<=30/\t=.string (S tx)/\tx.length<=30-j/\n=.int .i64 j/\DsSt w.heap.size C (9999) v1 w2.heap.size (.slice ua l.length uc) (.slice sa st.length sap) (l,(st,sc)) (d,p,m) wr) (λ_ n _=>(intOf n).toNat)
    case atStart=>exact⟨[],29+y,by omega,rfl,by simp,by go_num,H8.o⟩
    case round=>
     obtain⟨t3,j,hj,rfl,ht3,rfl,hr⟩:=hrel;have H9:=qh hr;clear H8 hr
     by_cases hj0:0<j
     .have h0i:(0:Int)<(j:Int):=by omega
      have hk1:((j:Int)-1)=((j-1:Nat):Int):=by omega
      have f1:¬9223372036854775807<t3.length+1:=by omega
      go_wp2
      go_roundw
      case rel=>exact⟨_,j-1,by omega,rfl,by simp;omega,by go_num,H9.o⟩
      case measure=>exact zq
     .have h01:¬(0:Int)<(j:Int):=by omega
      have HX:=qh (b3n.mk HB1.o H9.o HD.o HF.o oZ (t3) oZ);have HQ:=qh (HRS1.o.a0b H9.o.cur.2 oZ);obtain⟨⟨c0,c1,c2,c3,c4,c5,c6⟩,f0,f1,f2,f3,f4,f5⟩:=H9.o.box;obtain⟨⟨r0,r1,r2,r3,r4,r5,r6⟩,g0,g1,g2,g3,g4,g5⟩:=HQ.o;go_wp2;refine bodyPost_ret (v:=.tuple #[a1a (.slice ua l.length uc) (.slice sa st.length sap) sc d p m,.string (S (t3))]) (by simp [results,results14,go_sem,r0,r1,r2,r3,r4,r5]) rfl ?_;exact HX.o
end Go.Proofs.YtggfdnopminemaaGreatDoor
