/- Walks: commands without. -/
import Derived.Test.YtggfdnopminemaaGreatDoorSesB1
set_option linter.all false
namespace Go.Proofs.YtggfdnopminemaaGreatDoor
open Go.Proofs.Tryz
open Go Go.RowKit
set_option maxHeartbeats 8000000
set_option maxRecDepth 100000
variable {g i:Nat} {x:Str} {v:Go.World}
theorem d8o (u us:Value) (l:P.Dic) (st:List Int) (sc d p:Str) (n:Int) (word:Str) (w:World) (hu:EntR w u l) (hus:IntR w us st) (hm:Small l) (ht:P.trans l (st,sc)=true) :
 Cz 166 #[a1a u us sc d p n,.string (S word)] w (b3q u us (l,(st,sc)) (P.alone (l,(st,sc)) word) (d,p,n) w):=by
 have hu0:=hu;have hus0:=hus
 obtain⟨ad,cap,rfl,_,_⟩:=hu0
 obtain⟨sd,sap,rfl,_,_⟩:=hus0
 obtain⟨W0,hW0⟩:∃v,(w.alloc (a0d (.slice ad l.length cap) (.slice sd st.length sap) sc d p n)).alloc (a0d (.slice none 0 0) (.slice none 0 0) [] [] [] 0)=v:=⟨_,rfl⟩
 have hb0:Bl w W0:=by rw [<-hW0];exact ((Below.refl w.heap.size w).alloc lZ _).alloc sZ _
 have hz0:W0.heap.size=w.heap.size+2:=by rw [<-hW0];simp
 have hsx:SOut w.heap.size (.slice ad l.length cap) (.slice sd st.length sap) sc d p n W0:=by
  exact zq25
 have hsr:SOut (w.heap.size+1) (.slice none 0 0) (.slice none 0 0) [] [] [] 0 W0:=by
  exact zq20
 refine zm73 ?_;intro HU HUS HX HR HB;have HT:=qh ht;have hs60:=(P.a1m ht).1;try simp only at hs60
 clear hsx hsr hb0 ht hu hus;refine zm29 ?_;intro HP0;have hz1:w.heap.size+2<=W0.heap.size:=by omega
 clear hz0;by_cases h1:word=[117,110,100,111]
 .have HP:=qh (HP0.o.trans (if_pos h1));have f1:=P.beqB h1;have hba:=(Below.refl W0.heap.size W0).alloc lZ (.cells #[.int .i64 1024] 3);have HX1:=qh (HX.o.below hba);have HR1:=qh (HR.o.below hba);have HB1:=bt HB hba;have HO:=qh (c1j 1024 W0);have hz2:w.heap.size+2<=(W0.alloc (.cells #[.int .i64 1024] 3)).heap.size:=Nat.le_trans hz1 hba.size;clear h1 hba HP0;go_enter func166,ntmps166;go_upto_region 1 with fail;try rw [hW0]
  clear hW0;obtain⟨⟨o0,o1,o2,o3,o4,o5,o6⟩,_⟩:=HX.o;go_wp2_with fail;refine (c7n _ _ _ l st [1024] sc d p n _ (HU.o.below HB1.o) (HUS.o.below HB1.o) HO.o hm HT.o).mono ?_;rintro e x2 ⟨nu,nus,rfl,hfe,hfi,hb⟩;refine zm44 ?_;intro HEN HIN;obtain⟨⟨⟨l2,⟨st2,sc2⟩⟩,rep⟩,ha⟩:∃a,P.typed (l,(st,sc)) [1024]=a:=⟨_,rfl⟩;rw [ha]at HP hfe hfi HEN HIN⊢;simp only at hfe hfi HEN HIN⊢;clear ha;obtain⟨na,nc,rfl,_,_⟩:=id HEN.o;obtain⟨ma,mc,rfl,_,_⟩:=id HIN.o;have HR9:=qh (HR1.o.below hb);have HB9:=bt HB1 hb;have HFE:=qh hfe;have HFI:=qh hfi;clear hb hfe hfi;obtain⟨⟨r0,r1,r2,r3,r4,r5,r6⟩,f0,f1,f2,f3,f4,f5⟩:=HR9.o;obtain⟨V,hV⟩:∃v,((((((x2.setCell ⟨w.heap.size+1,0,none⟩ (.slice na l2.length nc)).setCell ⟨w.heap.size+1,1,none⟩ (.slice ma st2.length mc)).setCell ⟨w.heap.size+1,2,none⟩ (.string (S sc2))).setCell ⟨w.heap.size+1,3,none⟩ (.string (S d))).setCell ⟨w.heap.size+1,4,none⟩ (.string (S p))).setCell ⟨w.heap.size+1,5,none⟩ (.int .i64 n))=v:=⟨_,rfl⟩;have hset:Chg (λb=>b=w.heap.size+1) x2 V:=by rw [<-hV];exact (((((((Chg.refl (λb=>b=w.heap.size+1) x2).setCell (p:=⟨w.heap.size+1,0,none⟩) rfl _).setCell (p:=⟨w.heap.size+1,1,none⟩) rfl _).setCell (p:=⟨w.heap.size+1,2,none⟩) rfl _).setCell (p:=⟨w.heap.size+1,3,none⟩) rfl _).setCell (p:=⟨w.heap.size+1,4,none⟩) rfl _).setCell (p:=⟨w.heap.size+1,5,none⟩) rfl _)
  have HRV:Hq (SOut (w.heap.size+1) (.slice na l2.length nc) (.slice ma st2.length mc) sc2 d p n V):=⟨by rw [<-hV];exact ((HR9.o.set0 (x:=.slice na l2.length nc)).set1 (x:=.slice ma st2.length mc) (r:=sc2)).set3 (d':=d) (p':=p) (n':=n)⟩;have HBV:=qh (Chg.a0n HB9.o hset HB9.o.size (λb h=>by have h9:b=w.heap.size+1:=h;omega));have HFE2:=qh (HFE.o.after (w:=w) oZ hset (λb h=>by have h9:b=w.heap.size+1:=h;omega));have HFI2:=qh (HFI.o.after (w:=w) oZ hset (λb h=>by have h9:b=w.heap.size+1:=h;omega));go_wp2;refine zn50 ?_;intro q0 q1 q2 q3 q4 q5 q6;clear hset hV;refine bodyPost_ret (v:=.tuple #[a1a (.slice na l2.length nc) (.slice ma st2.length mc) sc2 d p n,.string (S (txtB rep))]) (by simp [results,results166,go_sem,q0,q1,q2,q3,q4,q5]) rfl ⟨.slice na l2.length nc,.slice ma st2.length mc,by rw [HP.o],by rw [HP.o];exact HFE2.o,by rw [HP.o];exact HFI2.o,HBV.o⟩
 have HP1:=qh (HP0.o.trans (if_neg h1))
 have f1:=P.beqN h1
 clear HP0 h1
 by_cases h2:word=[115,99,114,101,101,110]
 .have HP:=qh (HP1.o.trans (if_pos h2));have f2:=P.beqB h2;clear h2 HP1;go_enter func166,ntmps166;go_upto_region 1 with fail;try rw [hW0]
  clear hW0;have HXD:=qh (HX.o.below bZ.drew);have HRD2:=qh (HR.o.below bZ.drew);have HBD:=qh (HB.o.trans (bZ.drew.mono HB.o.size));go_upto_region 5 with fail;refine zm6 ?_;intro hS0;generalize W0.drew=y0 at *;refine zm37 ?_;have HR5:=qh HRD2.o;have HB5:=qh HBD.o;have hS1:=hS0;obtain⟨⟨r0,r1,r2,r3,r4,r5,r6⟩,f0,f1,f2,f3,f4,f5⟩:=HR5.o;obtain⟨V,hV⟩:∃v,((((((y0.setCell ⟨w.heap.size+1,0,none⟩ ((.slice ad l.length cap))).setCell ⟨w.heap.size+1,1,none⟩ ((.slice sd st.length sap))).setCell ⟨w.heap.size+1,2,none⟩ (.string (S sc))).setCell ⟨w.heap.size+1,3,none⟩ (.string (S d))).setCell ⟨w.heap.size+1,4,none⟩ (.string (S p))).setCell ⟨w.heap.size+1,5,none⟩ (.int .i64 n))=v:=⟨_,rfl⟩;have hset:Chg (λb=>b=w.heap.size+1) y0 V:=by rw [<-hV];exact (((((((Chg.refl (λb=>b=w.heap.size+1) y0).setCell (p:=⟨w.heap.size+1,0,none⟩) rfl _).setCell (p:=⟨w.heap.size+1,1,none⟩) rfl _).setCell (p:=⟨w.heap.size+1,2,none⟩) rfl _).setCell (p:=⟨w.heap.size+1,3,none⟩) rfl _).setCell (p:=⟨w.heap.size+1,4,none⟩) rfl _).setCell (p:=⟨w.heap.size+1,5,none⟩) rfl _)
  refine zm1 ?_;intro HRV HBV;refine trd 4 λK hK=>?_;go_simp;refine zm15 ?_;intro hS2;clear hK K;try rw [hV]at hS2⊢
  clear r0 r1 r2 r3 r4 r5 r6 f0 f1 f2 f3 f4 f5;refine zm0 ?_;refine tk2 5 hS2 ?_;refine wpAnyH_done kZ ?_ _;go_wp2;refine zn50 ?_;intro q0 q1 q2 q3 q4 q5 q6;clear hset hV;refine bodyPost_ret (v:=.tuple #[a1a ((.slice ad l.length cap)) ((.slice sd st.length sap)) sc d p n,.string (S sc)]) (by simp [results,results166,go_sem,q0,q1,q2,q3,q4,q5]) rfl ⟨(.slice ad l.length cap),(.slice sd st.length sap),by rw [HP.o]<;>rfl,by rw [HP.o];exact .inl ⟨rfl,rfl⟩,by rw [HP.o];exact .inl ⟨rfl,rfl⟩,HBV.o⟩
 have HP2:=qh (HP1.o.trans (if_neg h2))
 have f2:=P.beqN h2
 clear HP1 h2
 by_cases h3:word=[99,111,117,110,116]
 .have HP:=qh (HP2.o.trans (if_pos h3));have f3:=P.beqB h3;clear h3 HP2;go_enter func166,ntmps166;go_upto_region 1 with fail;try rw [hW0]
  clear hW0;have HXD:=qh (HX.o.below bZ.drew);have HRD2:=qh (HR.o.below bZ.drew);have HBD:=qh (HB.o.trans (bZ.drew.mono HB.o.size));go_upto_region 7 with fail;refine zm6 ?_;intro hS0;generalize W0.drew=y0 at *;refine zm37 ?_;refine tk2 4 (v:=.int .i64 st.length) hS0 ?_;refine trd 5 λK hK=>?_;go_simp;refine (L.c1a (st.length:Int) _ oZ oZ).mono ?_;rintro e w' ⟨rfl,k,rfl⟩;have hb:Bl y0 (y0.drewN k):=below_drewN bZ _;have HR5:=qh (HRD2.o.below hb);have HB5:=bt HBD hb;refine zm71 ?_;intro hS1;clear hK K hb hS0;generalize y0.drewN k=y1 at *;refine zm0 ?_;obtain⟨⟨r0,r1,r2,r3,r4,r5,r6⟩,f0,f1,f2,f3,f4,f5⟩:=HR5.o;obtain⟨V,hV⟩:∃v,((((((y1.setCell ⟨w.heap.size+1,0,none⟩ ((.slice ad l.length cap))).setCell ⟨w.heap.size+1,1,none⟩ ((.slice sd st.length sap))).setCell ⟨w.heap.size+1,2,none⟩ (.string (S sc))).setCell ⟨w.heap.size+1,3,none⟩ (.string (S d))).setCell ⟨w.heap.size+1,4,none⟩ (.string (S p))).setCell ⟨w.heap.size+1,5,none⟩ (.int .i64 n))=v:=⟨_,rfl⟩;have hset:Chg (λb=>b=w.heap.size+1) y1 V:=by rw [<-hV];exact (((((((Chg.refl (λb=>b=w.heap.size+1) y1).setCell (p:=⟨w.heap.size+1,0,none⟩) rfl _).setCell (p:=⟨w.heap.size+1,1,none⟩) rfl _).setCell (p:=⟨w.heap.size+1,2,none⟩) rfl _).setCell (p:=⟨w.heap.size+1,3,none⟩) rfl _).setCell (p:=⟨w.heap.size+1,4,none⟩) rfl _).setCell (p:=⟨w.heap.size+1,5,none⟩) rfl _)
  refine zm1 ?_;intro HRV HBV;refine trd 6 λK hK=>?_;go_simp;refine zm15 ?_;intro hS2;clear hK K;try rw [hV]at hS2⊢
  clear r0 r1 r2 r3 r4 r5 r6 f0 f1 f2 f3 f4 f5;refine zm0 ?_;refine tk2 7 hS2 ?_;refine wpAnyH_done kZ ?_ _;go_wp2;refine zn50 ?_;intro q0 q1 q2 q3 q4 q5 q6;clear hset hV;refine bodyPost_ret (v:=.tuple #[a1a ((.slice ad l.length cap)) ((.slice sd st.length sap)) sc d p n,.string (S (P.num st.length))]) (by simp [results,results166,go_sem,q0,q1,q2,q3,q4,q5]) rfl ⟨(.slice ad l.length cap),(.slice sd st.length sap),by rw [HP.o]<;>rfl,by rw [HP.o];exact .inl ⟨rfl,rfl⟩,by rw [HP.o];exact .inl ⟨rfl,rfl⟩,HBV.o⟩
 have HP3:=qh (HP2.o.trans (if_neg h3))
 have f3:=P.beqN h3
 clear HP2 h3
 by_cases h4:word=[112,105,101,99,101,115]
 .have HP:=qh (HP3.o.trans (if_pos h4));have f4:=P.beqB h4;clear h4 HP3;go_enter func166,ntmps166;go_upto_region 1 with fail;try rw [hW0]
  clear hW0;obtain⟨⟨o0,o1,o2,o3,o4,o5,o6⟩,_⟩:=HX.o;go_wp2_with fail;refine (b8s _ _ l st _ (HU.o.below HB.o) (HUS.o.below HB.o) hs60).mono ?_;rintro e w1 ⟨pv,rfl,hpv,hb⟩;refine zm85 ?_;intro HX1 HR1 HB1;have hsl:=P.b1t l st;have hbl:=P.b5o (P.segA l st);have HPV:=qh ((OwnP.read hpv oZ).below bZ.drew);obtain⟨pa,pc,rfl⟩:=OwnP.form hpv;generalize P.segA l st=ps at *;have hn1:=P.num_len ps.length oZ;have hn2:=P.num_len (P.blank ps) oZ;have m1:(P.num ps.length).length<=9223372036854775806:=by omega
  have m2:(P.num ps.length).length+1+(P.num (P.blank ps)).length<=9223372036854775807:=by omega
  clear hb hpv o0 o1 o2 o3 o4 o5 o6;have HXD:=qh (HX1.o.below bZ.drew);have HRD2:=qh (HR1.o.below bZ.drew);have HBD:=qh (HB1.o.trans (bZ.drew.mono HB1.o.size));go_upto_region 10 with fail;refine zm6 ?_;intro hS0;generalize w1.drew=y0 at *;refine tk2 0 hS0 ?_;refine tk2 1 hS0 ?_;refine tk2 2 hS0 ?_;refine tk2 5 hS0 ?_;refine trd 3 λK hK=>?_;go_simp;refine (L.c1a (ps.length:Int) _ oZ oZ).mono ?_;rintro e w' ⟨rfl,k_2,rfl⟩;have hb:Bl y0 (y0.drewN k_2):=below_drewN bZ _;have HR_2:=qh (HRD2.o.below hb);have HB_2:=bt HBD hb;have HV_2:=qh (HPV.o.below hb);refine hK.out _ _ (hS0.below hb) (λhS_2=>?_);clear hK K hb hS0;generalize y0.drewN k_2=y_2 at *;refine zm0 ?_;refine tk2 4 (v:=.string (S (P.num ps.length++[32]))) hS_2 ?_;refine trd 6 λK hK=>?_;go_simp;refine (d1k _ ps _ HV_2.o).mono ?_;rintro e w' ⟨rfl,rfl⟩;refine hK.out _ _ hS_2 (λhS_4=>?_);clear hK K;refine zm0 ?_;refine trd 7 λK hK=>?_;go_simp;refine (L.c1a ((P.blank ps):Int) _ oZ oZ).mono ?_;rintro e w' ⟨rfl,k_6,rfl⟩;have hb:Bl y_2 (y_2.drewN k_6):=below_drewN bZ _;have HR_6:=qh (HR_2.o.below hb);have HB_6:=bt HB_2 hb;have HV_6:=qh (HV_2.o.below hb);refine hK.out _ _ (hS_4.below hb) (λhS_6=>?_);clear hK K hb hS_4;generalize y_2.drewN k_6=y_6 at *;refine zm0 ?_;refine tk2 8 (v:=.string (S ((P.num ps.length++[32])++P.num (P.blank ps)))) hS_6 ?_;have HR5:=qh HR_6.o;have HB5:=qh HB_6.o;have hS1:=hS_6;obtain⟨⟨r0,r1,r2,r3,r4,r5,r6⟩,f0,f1,f2,f3,f4,f5⟩:=HR5.o;obtain⟨V,hV⟩:∃v,((((((y_6.setCell ⟨w.heap.size+1,0,none⟩ ((.slice ad l.length cap))).setCell ⟨w.heap.size+1,1,none⟩ ((.slice sd st.length sap))).setCell ⟨w.heap.size+1,2,none⟩ (.string (S sc))).setCell ⟨w.heap.size+1,3,none⟩ (.string (S d))).setCell ⟨w.heap.size+1,4,none⟩ (.string (S p))).setCell ⟨w.heap.size+1,5,none⟩ (.int .i64 n))=v:=⟨_,rfl⟩;have hset:Chg (λb=>b=w.heap.size+1) y_6 V:=by rw [<-hV];exact (((((((Chg.refl (λb=>b=w.heap.size+1) y_6).setCell (p:=⟨w.heap.size+1,0,none⟩) rfl _).setCell (p:=⟨w.heap.size+1,1,none⟩) rfl _).setCell (p:=⟨w.heap.size+1,2,none⟩) rfl _).setCell (p:=⟨w.heap.size+1,3,none⟩) rfl _).setCell (p:=⟨w.heap.size+1,4,none⟩) rfl _).setCell (p:=⟨w.heap.size+1,5,none⟩) rfl _)
  refine zm1 ?_;intro HRV HBV;refine trd 9 λK hK=>?_;go_simp;refine zm15 ?_;intro hS2;clear hK K;try rw [hV]at hS2⊢
  clear r0 r1 r2 r3 r4 r5 r6 f0 f1 f2 f3 f4 f5;refine zm0 ?_;refine tk2 10 hS2 ?_;refine wpAnyH_done kZ ?_ _;go_wp2;refine zn50 ?_;intro q0 q1 q2 q3 q4 q5 q6;clear hset hV;refine bodyPost_ret (v:=.tuple #[a1a ((.slice ad l.length cap)) ((.slice sd st.length sap)) sc d p n,.string (S ((P.num ps.length++[32])++P.num (P.blank ps)))]) (by simp [results,results166,go_sem,q0,q1,q2,q3,q4,q5]) rfl ⟨(.slice ad l.length cap),(.slice sd st.length sap),by rw [HP.o]<;>rfl,by rw [HP.o];exact .inl ⟨rfl,rfl⟩,by rw [HP.o];exact .inl ⟨rfl,rfl⟩,HBV.o⟩
 have HP:=qh (HP3.o.trans (if_neg h4));have f4:=P.beqN h4;clear HP3 h4;go_enter func166,ntmps166;go_upto_region 1 with fail;try rw [hW0]
 clear hW0;obtain⟨⟨o0,o1,o2,o3,o4,o5,o6⟩,_⟩:=HX.o;obtain⟨⟨r0,r1,r2,r3,r4,r5,r6⟩,f0,f1,f2,f3,f4,f5⟩:=HR.o;obtain⟨V,hV⟩:∃v,((((((W0.setCell ⟨w.heap.size+1,0,none⟩ ((.slice ad l.length cap))).setCell ⟨w.heap.size+1,1,none⟩ ((.slice sd st.length sap))).setCell ⟨w.heap.size+1,2,none⟩ (.string (S sc))).setCell ⟨w.heap.size+1,3,none⟩ (.string (S d))).setCell ⟨w.heap.size+1,4,none⟩ (.string (S p))).setCell ⟨w.heap.size+1,5,none⟩ (.int .i64 n))=v:=⟨_,rfl⟩;have hset:Chg (λb=>b=w.heap.size+1) W0 V:=by rw [<-hV];exact (((((((Chg.refl (λb=>b=w.heap.size+1) W0).setCell (p:=⟨w.heap.size+1,0,none⟩) rfl _).setCell (p:=⟨w.heap.size+1,1,none⟩) rfl _).setCell (p:=⟨w.heap.size+1,2,none⟩) rfl _).setCell (p:=⟨w.heap.size+1,3,none⟩) rfl _).setCell (p:=⟨w.heap.size+1,4,none⟩) rfl _).setCell (p:=⟨w.heap.size+1,5,none⟩) rfl _)
 have HRV:Hq (SOut (w.heap.size+1) ((.slice ad l.length cap)) ((.slice sd st.length sap)) sc d p n V):=⟨by rw [<-hV];exact ((HR.o.set0 (x:=(.slice ad l.length cap))).set1 (x:=(.slice sd st.length sap)) (r:=sc)).set3 (d':=d) (p':=p) (n':=n)⟩;have HBV:=qh (Chg.a0n HB.o hset HB.o.size (λb h=>by have h9:b=w.heap.size+1:=h;omega));go_wp2;refine zn50 ?_;intro q0 q1 q2 q3 q4 q5 q6;clear hset hV;refine bodyPost_ret (v:=.tuple #[a1a ((.slice ad l.length cap)) ((.slice sd st.length sap)) sc d p n,.string (S [63])]) (by simp [results,results166,go_sem,q0,q1,q2,q3,q4,q5]) rfl ⟨(.slice ad l.length cap),(.slice sd st.length sap),by rw [HP.o]<;>rfl,by rw [HP.o];exact .inl ⟨rfl,rfl⟩,by rw [HP.o];exact .inl ⟨rfl,rfl⟩,HBV.o⟩
namespace P
def revJ (its:List (Value×List Int)):Bs:=Go.Lib.join (its.map λit=>fmtS 47 it.2) [32]
theorem e3o {o:List Int} (h:a0k o=true):fmtS 47 o≠[]:=by
 cases o with
 |nil=>exact absurd h dZ
 |cons k r=>
  have hk:a0q k=true:=by
   unfold a0k at h;simp only [Bool.and_eq_true,List.all_cons]at h;exact h.2.1
  obtain⟨m,rfl⟩:∃m:Nat,k=(m:Int):=by
   unfold a0q at hk;simp only [decide_eq_true_eq]at hk;exact⟨k.toNat,by omega⟩
  intro e;unfold fmtS at e;rw [List.map_cons,Go.Lib.join_cons]at e;exact e1k hk (List.append_eq_nil_iff.1 e).1
end P
theorem P.e0g (it:Value×List Int):P.revJ [it]=P.fmtS 47 it.2:=Go.Lib.join_one _ _
theorem P.d5r (l:List (Value×List Int)) (it:Value×List Int) (h:l≠[]):P.revJ (l++[it])=P.revJ l++[32]++P.fmtS 47 it.2:=by
 unfold P.revJ;rw [List.map_append];exact P.c2b _ _ _ (by simpa using h)
theorem P.e1i {l:List (Value×List Int)} (h:∀it∈l,P.a0k it.2=true) (hl:l.length<=40):(P.revJ l).length<=12000:=by
 have h1:=P.c0r (l.map λit=>P.fmtS 47 it.2) 32 282 (λx hx=>by
  obtain⟨it,hi,rfl⟩:=List.mem_map.1 hx;have h2:=P.a5h 47 it.2;have h3:=(P.a1k (h it hi)).2;omega)
 rw [List.length_map]at h1;have:l.length*(282+1)<=40*283:=Nat.mul_le_mul_right _ hl;unfold P.revJ;omega
theorem P.e3t {l:List (Value×List Int)} (h:∀it∈l,P.a0k it.2=true) (hl:l≠[]):P.revJ l≠[]:=by
 cases l with
 |nil=>exact absurd rfl hl
 |cons it r=>
  intro e;unfold P.revJ at e;rw [List.map_cons,Go.Lib.join_cons]at e;exact P.e3o (h it sZ) (List.append_eq_nil_iff.1 e).1
theorem P.d6m (d:P.Dic) (t:Str) (its:List (Value×List Int)) (h:its.map (·.2)=P.a2e t d):(P.revJ its).map P.hash=Go.Lib.join (P.a7l t d) [32]:=by
 unfold P.revJ P.a7l;rw [P.c1u,<-h,List.map_map,List.map_map];rfl
def BInv (g:Nat) (x:Str) (i:Nat) (v:World):Prop:=g<v.heap.size/\∀(j:Nat) (h:j<x.length),v.cell? ⟨g,j,none⟩=some (.int .u8 (((if j<i then P.hash x[j] else x[j]).toNat:Nat):Int))/\v.frozen? ⟨g,j,none⟩=false
theorem BInv.step (h:BInv g x i v) (hi:i<x.length) (he:x[i]≠35):BInv g x (i+1) v:=by
 refine⟨h.1,λj hj=>⟨?_,(h.2 j hj).2⟩⟩;rw [(h.2 j hj).1]
 by_cases hji:j=i
 .subst hji;rw [if_neg (Nat.lt_irrefl _),if_pos (Nat.lt_succ_self _)];unfold P.hash;rw [if_neg he]
 .by_cases h1:j<i
  .rw [if_pos h1,if_pos oZ]
  .rw [if_neg h1,if_neg oZ]
theorem BInv.put (h:BInv g x i v) (hi:i<x.length) (he:x[i]=35):BInv g x (i+1) (v.setCell ⟨g,i,none⟩ (.int .u8 61)):=by
 refine⟨by simpa [World.setCell] using h.1,λj hj=>?_⟩;obtain⟨h1,h2⟩:=h.2 j hj;refine⟨?_,by go_simp⟩
 by_cases hji:j=i
 .subst hji;rw [World.cell?_setCell_same _ _ _ h1,if_pos (Nat.lt_succ_self _)];unfold P.hash;rw [if_pos he];rfl
 .rw [World.cell?_setCell_other _ _ _ _ (by intro e';injection e';omega),h1]
  by_cases h3:j<i
  .rw [if_pos h3,if_pos oZ]
  .rw [if_neg h3,if_neg oZ]
theorem d1n (dv:Value) (l:P.Dic) (t:Str) (w:World) (hu:EntR w dv l) (hm:Small l) (hdc:P.dic l=true) :
 Cz 172 #[.agg #[dv],.string (S t)] w λe w'=>e=.returned (.string (S (P.revT l t)))/\Bl w w':=by
 refine zm53 ?_;intro hb0;have HU:=qh (hu.below hb0);have HB0:=qh hb0;have HBX:=qh (Box1.new dv 26 w);have HDC:=qh hdc;have HOO:=qh (P.b0x (t:=t) hdc);have hl40:=Nat.le_trans (P.a9w t l) (P.b7b hdc);have HRT:=qh (P.d5h l t);obtain⟨ad,cap,rfl,_,_⟩:=hu;clear hb0 hdc;go_enter func172,ntmps172;go_upto_region 1 with fail;generalize w.alloc (.cells #[.slice ad l.length cap] 26)=v0 at *;obtain⟨b0,bz⟩:=HBX.o;go_wp2_with fail;refine (b3d _ l t _ HU.o hm).mono ?_;rintro e w1 ⟨x,its,B1,rfl,hmap,hI⟩;rw [HDC.o,if_pos rfl]at hmap;rw [HDC.o];obtain⟨xa,xc,rfl⟩:=hI.form;have HI0:=qh hI;have HM:Hq (its.map (·.2)=P.a2e t l):=⟨hmap⟩;have hil:its.length<=40:=by have h1:=congrArg List.length hmap;rw [List.length_map]at h1;omega
 have HOI:Hq (∀it∈its,P.a0k it.2=true):=⟨λit hi=>HOO.o it.2 (by rw [<-hmap];exact List.mem_map_of_mem hi)⟩;have HLN:Hq (its.length=(P.a2e t l).length):=⟨by rw [<-hmap,List.length_map]⟩;clear hmap hI b0 bz;go_wp2;go_loopw [7,8] (λs i wr=>∃k:Nat,k<=its.length/\i=.int .i64 k/\s=.string (S (P.revJ (its.take k)))/\RevI v0 B1 (.slice xa its.length xc) its wr) (λ_ i _=>its.length-(intOf i).toNat)
 case atStart=>exact⟨0,Nat.zero_le _,rfl,rfl,HI0.o⟩
 case round=>
  obtain⟨k,hk,rfl,rfl,hI⟩:=hrel;have HI:=qh hI;clear HI0;have hrl:=P.e1i (l:=its.take k) (λit hi=>HOI.o it (List.mem_of_mem_take hi)) (by rw [List.length_take];omega)
  by_cases hlt:k<its.length
  .obtain⟨g,hga,hgB,hgl,c0⟩:=hI.at k hlt;subst hga;have i1:(k:Int)<(its.length:Int):=by omega
   have hok:=hI.els its[k] (List.getElem_mem hlt);have HOL:=qh (HOI.o its[k] (List.getElem_mem hlt));have htk:(its.take k).length=k:=by rw [List.length_take];omega
   have HS1:Hq (k=0->P.revJ (its.take (k+1))=P.revJ (its.take k)++P.fmtS 47 its[k].2):=⟨λh=>by subst h;rw [a0g its 0 hlt];exact P.e0g _⟩;have HS2:Hq (k≠0->P.revJ (its.take (k+1))=P.revJ (its.take k)++[32]++P.fmtS 47 its[k].2):=⟨λh=>by rw [a0g its k hlt];exact P.d5r _ _ (λe=>by rw [e]at htk;simp at htk;omega)⟩;generalize its[k]=it at *;obtain⟨y,o⟩:=it;simp only at hok HOL c0 HS1 HS2;have h6:=(P.a1k HOL.o).2;have hfs:=P.a5h 47 o;obtain⟨ya,yc,rfl⟩:=a0h hok;have HK:=qh (a2j hok oZ);clear hok hI htk;generalize P.revJ (its.take k)=ff at *
   by_cases hk0:k=0
   .have HSN:=qh (HS1.o hk0);have i2:¬(0:Int)<(k:Int):=by omega
    clear HS1 HS2 hk0
    go_wp2_with fail
    refine (b3e _ o _ HK.o HOL.o).mono ?_;rintro e w2 ⟨rfl,hb⟩;have HI2:=qh (HI.o.below hb);clear hb c0 HI;generalize P.fmtS 47 o=fm at *;have j1:¬9223372036854775807<ff.length+fm.length:=by omega
    go_wp2
    go_roundw
    case rel=>exact⟨k+1,by omega,by go_num,by rw [HSN.o],HI2.o⟩
    case measure=>exact zq
   .have HSN:=qh (HS2.o hk0);have i2:(0:Int)<(k:Int):=by omega
    have j0:¬9223372036854775807<ff.length+1:=by omega
    clear HS1 HS2 hk0
    go_wp2_with fail
    refine (b3e _ o _ HK.o HOL.o).mono ?_;rintro e w2 ⟨rfl,hb⟩;have HI2:=qh (HI.o.below hb);clear hb c0 HI;generalize P.fmtS 47 o=fm at *;have j1:¬9223372036854775807<ff.length+1+fm.length:=by omega
    go_wp2
    go_roundw
    case rel=>exact⟨k+1,by omega,by go_num,by rw [HSN.o];simp,HI2.o⟩
    case measure=>exact zq
  .have hkl:k=its.length:=by omega
   subst hkl;have hTL:its.take its.length=its:=List.take_length;rw [hTL]at hrl⊢;have HB1:=qh (HB0.o.trans (HI.o.bel.mono HB0.o.size));clear hI hTL HI
   by_cases h0:its=[]
   .have HP:Hq (P.revT l t=[110,111,110,101]):=⟨by rw [HRT.o,if_pos (List.eq_nil_of_length_eq_zero (by rw [<-HLN.o,h0];rfl))];rfl⟩;have hx:P.revJ its=[]:=by rw [h0];rfl
    rw [hx];clear hx h0 hrl;go_wp2;go_ret;exact⟨by rw [HP.o];rfl,HB1.o⟩
   .have HP:Hq (P.revT l t=(P.revJ its).map P.hash):=⟨by rw [HRT.o,if_neg (λh=>h0 (List.eq_nil_of_length_eq_zero (by rw [HLN.o,h];rfl))),P.d6m l t its HM.o]⟩;have hne:=P.e3t HOI.o h0;obtain⟨x,hx⟩:∃x,P.revJ its=x:=⟨_,rfl⟩;rw [hx]at HP hne hrl⊢
    have f1:x.isEmpty=false:=by cases x with
     |nil=>exact absurd rfl hne
     |cons _ _=>rfl
    have f2:(x==[])=false:=by simpa using hne
    clear hx h0 hne HM HOI HLN HRT HOO
    go_wp2_with fail
    obtain⟨cap2,w3,hconv,hcell,hfz,hb3,hz3⟩:=L.b9t x wr;rw [hconv];have HB3:=bt HB1 hb3;have HI3:=qh (show BInv wr.heap.size x 0 w3 from⟨hz3,λj hj=>⟨by rw [hcell j hj,if_neg (Nat.not_lt_zero _)],hfz j hj⟩⟩);have hwz:=HB1.o.size;generalize wr.heap.size=g at *;clear hconv hcell hfz hb3 hz3;go_wp2
    go_loopw [10] (λi wx=>∃k:Nat,k<=x.length/\i=.int .i64 k/\BInv g x k wx/\Bl w wx) (λi _=>x.length-(intOf i).toNat)
    case atStart=>exact⟨0,Nat.zero_le _,rfl,HI3.o,HB3.o⟩
    case round=>
     obtain⟨k,hk,rfl,hi,hb⟩:=hrel;have HI:=qh hi;have HB:=qh hb;clear HI3 HB3 hb
     by_cases hlt:k<x.length
     .obtain⟨c0,z0⟩:=hi.2 k hlt;rw [if_neg (Nat.lt_irrefl _)]at c0;have i1:(k:Int)<(x.length:Int):=by omega
      by_cases he:x[k]=35
      .have f3:(((x[k].toNat:Nat):Int)==35)=true:=by rw [he];rfl
       have HN:=qh (HI.o.put hlt he);clear hi he;go_wp2
       go_roundw
       case rel=>exact⟨k+1,by omega,by go_num,HN.o,HB.o.setCell (by show w.heap.size<=g;omega) _⟩
       case measure=>exact zq
      .have f3:(((x[k].toNat:Nat):Int)==35)=false:=c8d (b:=35) he;have HN:=qh (HI.o.step hlt he);clear hi he;go_wp2
       go_roundw
       case rel=>exact⟨k+1,by omega,by go_num,HN.o,HB.o⟩
       case measure=>exact zq
     .have hkx:k=x.length:=by omega
      subst hkx
      have hback:=run_convert_bytes_back (P:=Tryz.prog) wr 22 9 5 ⟨g,0,none⟩ cap2 (x.map P.hash) underlying22 underlying5 underlying9 (by
       intro j hj
       have hjl:j<x.length:=by simpa using hj
       rw [List.getElem_map,add0,(hi.2 j hjl).1,if_pos hjl])
      rw [List.length_map]at hback;clear hi;go_wp2;go_ret;exact⟨by rw [HP.o];rfl,HB.o⟩
end Go.Proofs.YtggfdnopminemaaGreatDoor
