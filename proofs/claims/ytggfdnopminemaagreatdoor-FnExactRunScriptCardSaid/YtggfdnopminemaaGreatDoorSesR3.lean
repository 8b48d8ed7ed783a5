/- Walks: commands without arguments (reference). -/
import Derived.Test.YtggfdnopminemaaGreatDoorZt
import Derived.Test.YtggfdnopminemaaGreatDoorSesB1
namespace Go.Proofs.YtggfdnopminemaaGreatDoor
open Go Go.RowKit
set_option maxHeartbeats 8000000
set_option maxRecDepth 100000
theorem d5w (u us:Value) (l:P.Dic) (st:List Int) (sc d p:Str) (n:Int) (word:Str) (w:World) (hu:EntR w u l) (hus:IntR w us st) (hm:Small l) (ht:P.trans l (st,sc)=true) :
 Calls Tryz.prog 166 #[a1d u us sc d p n,.string (S word)] w (b1r u us (l,(st,sc)) (P.alone (l,(st,sc)) word) (d,p,n) w):=by
 have hu0:=hu;have hus0:=hus
 obtain⟨ad,cap,rfl,_,_⟩:=hu0
 obtain⟨sd,sap,rfl,_,_⟩:=hus0
 obtain⟨W0,hW0⟩:∃v,(w.alloc (a0d (.slice ad l.length cap) (.slice sd st.length sap) sc d p n)).alloc (a0d (.slice none 0 0) (.slice none 0 0) [] [] [] 0)=v:=⟨_,rfl⟩
 have hb0:Below w.heap.size w W0:=by rw [←hW0];exact ((Below.refl w.heap.size w).alloc lZ _).alloc sZ _
 have hz0:W0.heap.size=w.heap.size+2:=by rw [←hW0];simp
 have hsx:SOut w.heap.size (.slice ad l.length cap) (.slice sd st.length sap) sc d p n W0:=by
  exact zq25
 have hsr:SOut (w.heap.size+1) (.slice none 0 0) (.slice none 0 0) [] [] [] 0 W0:=by
  exact zq21
 have HU:=qh hu;have HUS:=qh hus
 have HX:=qh hsx;have HR:=qh hsr;have HB:=qh hb0
 have HT:=qh ht
 have hs60:=(P.a1h ht).1
 try simp only at hs60
 clear hsx hsr hb0 ht hu hus
 have HP0:=qh (show P.alone (l,(st,sc)) word=if word=P.d9r then P.typed (l,(st,sc)) [1024] else if word=P.c4u then ((l,(st,sc)),some sc) else if word=P.d0z then ((l,(st,sc)),some (P.num st.length)) else if word=P.c5m then ((l,(st,sc)),some ((P.num (P.segA l st).length++[32])++P.num (P.blank (P.segA l st)))) else ((l,(st,sc)),none) from rfl)
 have hz1:w.heap.size+2≤W0.heap.size:=by omega
 clear hz0
 by_cases h1:word=[117,110,100,111]
 ·have HP:=qh (HP0.o.trans (if_pos h1));have f1:=P.beqB h1;have hba:=(Below.refl W0.heap.size W0).alloc lZ (.cells #[.int .i64 1024] 3);have HX1:=qh (HX.o.below hba);have HR1:=qh (HR.o.below hba);have HB1:=bt HB hba;have HO:=qh (b8d 1024 W0);have hz2:w.heap.size+2≤(W0.alloc (.cells #[.int .i64 1024] 3)).heap.size:=Nat.le_trans hz1 hba.size;clear h1 hba HP0
  go_enter Tryz.func166,Tryz.ntmps166
  go_upto_region 1 with fail
  try rw [hW0]
  clear hW0;obtain⟨⟨o0,o1,o2,o3,o4,o5,o6⟩,_⟩:=HX.o
  go_wp2_with fail
  refine (c4h _ _ _ l st [1024] sc d p n _ (HU.o.below HB1.o) (HUS.o.below HB1.o) HO.o hm HT.o).mono ?_;rintro e x2 ⟨nu,nus,rfl,hfe,hfi,hb⟩;have HEN:=qh (hfe.read (HU.o.below HB1.o) hb);have HIN:=qh (hfi.read (HUS.o.below HB1.o) hb);obtain⟨⟨⟨l2,⟨st2,sc2⟩⟩,rep⟩,ha⟩:∃a,P.typed (l,(st,sc)) [1024]=a:=⟨_,rfl⟩;rw [ha]at HP hfe hfi HEN HIN⊢;simp only at hfe hfi HEN HIN⊢;clear ha;obtain⟨na,nc,rfl,_,_⟩:=id HEN.o;obtain⟨ma,mc,rfl,_,_⟩:=id HIN.o;have HR9:=qh (HR1.o.below hb);have HB9:=bt HB1 hb;have HFE:=qh hfe;have HFI:=qh hfi;clear hb hfe hfi;obtain⟨⟨r0,r1,r2,r3,r4,r5,r6⟩,f0,f1,f2,f3,f4,f5⟩:=HR9.o;obtain⟨V,hV⟩:∃v,((((((x2.setCell ⟨w.heap.size+1,0,none⟩ (.slice na l2.length nc)).setCell ⟨w.heap.size+1,1,none⟩ (.slice ma st2.length mc)).setCell ⟨w.heap.size+1,2,none⟩ (.string (S sc2))).setCell ⟨w.heap.size+1,3,none⟩ (.string (S d))).setCell ⟨w.heap.size+1,4,none⟩ (.string (S p))).setCell ⟨w.heap.size+1,5,none⟩ (.int .i64 n))=v:=⟨_,rfl⟩;have hset:Chg (fun b=>b=w.heap.size+1) x2 V:=by rw [←hV];exact (((((((Chg.refl (fun b=>b=w.heap.size+1) x2).setCell (p:=⟨w.heap.size+1,0,none⟩) rfl _).setCell (p:=⟨w.heap.size+1,1,none⟩) rfl _).setCell (p:=⟨w.heap.size+1,2,none⟩) rfl _).setCell (p:=⟨w.heap.size+1,3,none⟩) rfl _).setCell (p:=⟨w.heap.size+1,4,none⟩) rfl _).setCell (p:=⟨w.heap.size+1,5,none⟩) rfl _)
  have HRV:=qh (show SOut (w.heap.size+1) (.slice na l2.length nc) (.slice ma st2.length mc) sc2 d p n V from by rw [←hV];exact ((HR9.o.set0 (x:=.slice na l2.length nc)).set1 (x:=.slice ma st2.length mc) (r:=sc2)).set3 (d':=d) (p':=p) (n':=n));have HBV:=qh (Chg.a0j HB9.o hset HB9.o.size (fun b h=>by have h9:b=w.heap.size+1:=h;omega));have HFE2:=qh (HFE.o.after (w:=w) oZ hset (fun b h=>by have h9:b=w.heap.size+1:=h;omega));have HFI2:=qh (HFI.o.after (w:=w) oZ hset (fun b h=>by have h9:b=w.heap.size+1:=h;omega));go_wp2
  try rw [hV]
  clear hset hV;obtain⟨q0,q1,q2,q3,q4,q5,q6⟩:=HRV.o.1;refine bodyPost_ret (v:=.tuple #[a1d (.slice na l2.length nc) (.slice ma st2.length mc) sc2 d p n,.string (S (txtB rep))]) (by simp [results,Tryz.results166,go_sem,q0,q1,q2,q3,q4,q5]) rfl ⟨.slice na l2.length nc,.slice ma st2.length mc,by rw [HP.o],by rw [HP.o];exact HFE2.o,by rw [HP.o];exact HFI2.o,HBV.o⟩
 have HP1:=qh (HP0.o.trans (if_neg h1))
 have f1:=P.beqN h1
 clear HP0 h1
 by_cases h2:word=[115,99,114,101,101,110]
 ·have HP:=qh (HP1.o.trans (if_pos h2));have f2:=P.beqB h2;clear h2 HP1
  go_enter Tryz.func166,Tryz.ntmps166
  go_upto_region 1 with fail
  try rw [hW0]
  clear hW0;have HXD:=qh (HX.o.below bZ.drew);have HRD2:=qh (HR.o.below bZ.drew);have HBD:=qh (HB.o.trans (bZ.drew.mono HB.o.size))
  go_upto_region 5 with fail
  refine wp_region_held_drew (S:=SOut w.heap.size (.slice ad l.length cap) (.slice sd st.length sap) sc d p n) kZ HXD.o (fun hS0=>?_);generalize W0.drew=y0 at *;refine tk2 0 hS0 ?_;refine tk2 1 hS0 ?_;refine tk2 2 hS0 ?_;refine tk2 3 hS0 ?_;have HR5:=qh HRD2.o;have HB5:=qh HBD.o;have hS1:=hS0;obtain⟨⟨r0,r1,r2,r3,r4,r5,r6⟩,f0,f1,f2,f3,f4,f5⟩:=HR5.o;obtain⟨V,hV⟩:∃v,((((((y0.setCell ⟨w.heap.size+1,0,none⟩ ((.slice ad l.length cap))).setCell ⟨w.heap.size+1,1,none⟩ ((.slice sd st.length sap))).setCell ⟨w.heap.size+1,2,none⟩ (.string (S sc))).setCell ⟨w.heap.size+1,3,none⟩ (.string (S d))).setCell ⟨w.heap.size+1,4,none⟩ (.string (S p))).setCell ⟨w.heap.size+1,5,none⟩ (.int .i64 n))=v:=⟨_,rfl⟩;have hset:Chg (fun b=>b=w.heap.size+1) y0 V:=by rw [←hV];exact (((((((Chg.refl (fun b=>b=w.heap.size+1) y0).setCell (p:=⟨w.heap.size+1,0,none⟩) rfl _).setCell (p:=⟨w.heap.size+1,1,none⟩) rfl _).setCell (p:=⟨w.heap.size+1,2,none⟩) rfl _).setCell (p:=⟨w.heap.size+1,3,none⟩) rfl _).setCell (p:=⟨w.heap.size+1,4,none⟩) rfl _).setCell (p:=⟨w.heap.size+1,5,none⟩) rfl _)
  have HRV:=qh (show SOut (w.heap.size+1) ((.slice ad l.length cap)) ((.slice sd st.length sap)) sc d p n V from by rw [←hV];exact ((HR5.o.set0 (x:=(.slice ad l.length cap))).set1 (x:=(.slice sd st.length sap)) (r:=sc)).set3 (d':=d) (p':=p) (n':=n));have HBV:=qh (Chg.a0j HB5.o hset HB5.o.size (fun b h=>by have h9:b=w.heap.size+1:=h;omega));refine trd 4 fun K hK=>?_;go_simp;refine hK.out _ _ (by (try rw [hV]);exact hS1.a0c hset (fun h=>by have h9:w.heap.size=w.heap.size+1:=h;omega)) (fun hS2=>?_);clear hK K
  try rw [hV]at hS2⊢
  clear r0 r1 r2 r3 r4 r5 r6 f0 f1 f2 f3 f4 f5
  try simp only [qA,qB,qC,Act.put,qD,qE,qF]
  refine tk2 5 hS2 ?_;refine wpAnyH_done kZ ?_ _;go_wp2
  try rw [hV]
  clear hset hV;obtain⟨q0,q1,q2,q3,q4,q5,q6⟩:=HRV.o.1;refine bodyPost_ret (v:=.tuple #[a1d ((.slice ad l.length cap)) ((.slice sd st.length sap)) sc d p n,.string (S sc)]) (by simp [results,Tryz.results166,go_sem,q0,q1,q2,q3,q4,q5]) rfl ⟨(.slice ad l.length cap),(.slice sd st.length sap),by rw [HP.o]<;>rfl,by rw [HP.o];exact .inl ⟨rfl,rfl⟩,by rw [HP.o];exact .inl ⟨rfl,rfl⟩,HBV.o⟩
 have HP2:=qh (HP1.o.trans (if_neg h2))
 have f2:=P.beqN h2
 clear HP1 h2
 by_cases h3:word=[99,111,117,110,116]
 ·have HP:=qh (HP2.o.trans (if_pos h3));have f3:=P.beqB h3;clear h3 HP2
  go_enter Tryz.func166,Tryz.ntmps166
  go_upto_region 1 with fail
  try rw [hW0]
  clear hW0;have HXD:=qh (HX.o.below bZ.drew);have HRD2:=qh (HR.o.below bZ.drew);have HBD:=qh (HB.o.trans (bZ.drew.mono HB.o.size))
  go_upto_region 7 with fail
  refine wp_region_held_drew (S:=SOut w.heap.size (.slice ad l.length cap) (.slice sd st.length sap) sc d p n) kZ HXD.o (fun hS0=>?_);generalize W0.drew=y0 at *;refine tk2 0 hS0 ?_;refine tk2 1 hS0 ?_;refine tk2 2 hS0 ?_;refine tk2 3 hS0 ?_;refine tk2 4 hS0 ?_;refine trd 5 fun K hK=>?_;go_simp;refine (L.b7y (st.length:Int) _ oZ oZ).mono ?_;rintro e w' ⟨rfl,k,rfl⟩;have hb:Below y0.heap.size y0 (y0.drewN k):=below_drewN bZ _;have HR5:=qh (HRD2.o.below hb);have HB5:=bt HBD hb;refine hK.out _ _ (hS0.below hb) (fun hS1=>?_);clear hK K hb hS0;generalize y0.drewN k=y1 at *
  try simp only [qA,qB,qC,Act.put,qD,qE,qF]
  obtain⟨⟨r0,r1,r2,r3,r4,r5,r6⟩,f0,f1,f2,f3,f4,f5⟩:=HR5.o;obtain⟨V,hV⟩:∃v,((((((y1.setCell ⟨w.heap.size+1,0,none⟩ ((.slice ad l.length cap))).setCell ⟨w.heap.size+1,1,none⟩ ((.slice sd st.length sap))).setCell ⟨w.heap.size+1,2,none⟩ (.string (S sc))).setCell ⟨w.heap.size+1,3,none⟩ (.string (S d))).setCell ⟨w.heap.size+1,4,none⟩ (.string (S p))).setCell ⟨w.heap.size+1,5,none⟩ (.int .i64 n))=v:=⟨_,rfl⟩;have hset:Chg (fun b=>b=w.heap.size+1) y1 V:=by rw [←hV];exact (((((((Chg.refl (fun b=>b=w.heap.size+1) y1).setCell (p:=⟨w.heap.size+1,0,none⟩) rfl _).setCell (p:=⟨w.heap.size+1,1,none⟩) rfl _).setCell (p:=⟨w.heap.size+1,2,none⟩) rfl _).setCell (p:=⟨w.heap.size+1,3,none⟩) rfl _).setCell (p:=⟨w.heap.size+1,4,none⟩) rfl _).setCell (p:=⟨w.heap.size+1,5,none⟩) rfl _)
  have HRV:=qh (show SOut (w.heap.size+1) ((.slice ad l.length cap)) ((.slice sd st.length sap)) sc d p n V from by rw [←hV];exact ((HR5.o.set0 (x:=(.slice ad l.length cap))).set1 (x:=(.slice sd st.length sap)) (r:=sc)).set3 (d':=d) (p':=p) (n':=n));have HBV:=qh (Chg.a0j HB5.o hset HB5.o.size (fun b h=>by have h9:b=w.heap.size+1:=h;omega));refine trd 6 fun K hK=>?_;go_simp;refine hK.out _ _ (by (try rw [hV]);exact hS1.a0c hset (fun h=>by have h9:w.heap.size=w.heap.size+1:=h;omega)) (fun hS2=>?_);clear hK K
  try rw [hV]at hS2⊢
  clear r0 r1 r2 r3 r4 r5 r6 f0 f1 f2 f3 f4 f5
  try simp only [qA,qB,qC,Act.put,qD,qE,qF]
  refine tk2 7 hS2 ?_;refine wpAnyH_done kZ ?_ _;go_wp2
  try rw [hV]
  clear hset hV;obtain⟨q0,q1,q2,q3,q4,q5,q6⟩:=HRV.o.1;refine bodyPost_ret (v:=.tuple #[a1d ((.slice ad l.length cap)) ((.slice sd st.length sap)) sc d p n,.string (S (P.num st.length))]) (by simp [results,Tryz.results166,go_sem,q0,q1,q2,q3,q4,q5]) rfl ⟨(.slice ad l.length cap),(.slice sd st.length sap),by rw [HP.o]<;>rfl,by rw [HP.o];exact .inl ⟨rfl,rfl⟩,by rw [HP.o];exact .inl ⟨rfl,rfl⟩,HBV.o⟩
 have HP3:=qh (HP2.o.trans (if_neg h3))
 have f3:=P.beqN h3
 clear HP2 h3
 by_cases h4:word=[112,105,101,99,101,115]
 ·have HP:=qh (HP3.o.trans (if_pos h4));have f4:=P.beqB h4;clear h4 HP3
  go_enter Tryz.func166,Tryz.ntmps166
  go_upto_region 1 with fail
  try rw [hW0]
  clear hW0;obtain⟨⟨o0,o1,o2,o3,o4,o5,o6⟩,_⟩:=HX.o
  go_wp2_with fail
  refine (b7t _ _ l st _ (HU.o.below HB.o) (HUS.o.below HB.o) hs60).mono ?_;rintro e w1 ⟨pv,rfl,hpv,hb⟩;have HX1:=qh (HX.o.below hb);have HR1:=qh (HR.o.below hb);have HB1:=bt HB hb;have hsl:=P.b1c l st;have hbl:=P.b3b (P.segA l st);have HPV:=qh ((OwnP.read hpv oZ).below bZ.drew);obtain⟨pa,pc,rfl⟩:=OwnP.form hpv;generalize P.segA l st=ps at *;have hn1:=P.num_len ps.length oZ;have hn2:=P.num_len (P.blank ps) oZ;have m1:(P.num ps.length).length≤9223372036854775806:=by omega
  have m2:(P.num ps.length).length+1+(P.num (P.blank ps)).length≤9223372036854775807:=by omega
  clear hb hpv o0 o1 o2 o3 o4 o5 o6;have HXD:=qh (HX1.o.below bZ.drew);have HRD2:=qh (HR1.o.below bZ.drew);have HBD:=qh (HB1.o.trans (bZ.drew.mono HB1.o.size))
  go_upto_region 10 with fail
  refine wp_region_held_drew (S:=SOut w.heap.size (.slice ad l.length cap) (.slice sd st.length sap) sc d p n) kZ HXD.o (fun hS0=>?_);generalize w1.drew=y0 at *;refine tk2 0 hS0 ?_;refine tk2 1 hS0 ?_;refine tk2 2 hS0 ?_;refine tk2 5 hS0 ?_;refine trd 3 fun K hK=>?_;go_simp;refine (L.b7y (ps.length:Int) _ oZ oZ).mono ?_;rintro e w' ⟨rfl,k_2,rfl⟩;have hb:Below y0.heap.size y0 (y0.drewN k_2):=below_drewN bZ _;have HR_2:=qh (HRD2.o.below hb);have HB_2:=bt HBD hb;have HV_2:=qh (HPV.o.below hb);refine hK.out _ _ (hS0.below hb) (fun hS_2=>?_);clear hK K hb hS0;generalize y0.drewN k_2=y_2 at *
  try simp only [qA,qB,qC,Act.put,qD,qE,qF]
  refine tk2 4 (v:=.string (S (P.num ps.length++[32]))) hS_2 ?_;refine trd 6 fun K hK=>?_;go_simp;refine (c9a _ ps _ HV_2.o).mono ?_;rintro e w' ⟨rfl,rfl⟩;refine hK.out _ _ hS_2 (fun hS_4=>?_);clear hK K
  try simp only [qA,qB,qC,Act.put,qD,qE,qF]
  refine trd 7 fun K hK=>?_;go_simp;refine (L.b7y ((P.blank ps):Int) _ oZ oZ).mono ?_;rintro e w' ⟨rfl,k_6,rfl⟩;have hb:Below y_2.heap.size y_2 (y_2.drewN k_6):=below_drewN bZ _;have HR_6:=qh (HR_2.o.below hb);have HB_6:=bt HB_2 hb;have HV_6:=qh (HV_2.o.below hb);refine hK.out _ _ (hS_4.below hb) (fun hS_6=>?_);clear hK K hb hS_4;generalize y_2.drewN k_6=y_6 at *
  try simp only [qA,qB,qC,Act.put,qD,qE,qF]
  refine tk2 8 (v:=.string (S ((P.num ps.length++[32])++P.num (P.blank ps)))) hS_6 ?_;have HR5:=qh HR_6.o;have HB5:=qh HB_6.o;have hS1:=hS_6;obtain⟨⟨r0,r1,r2,r3,r4,r5,r6⟩,f0,f1,f2,f3,f4,f5⟩:=HR5.o;obtain⟨V,hV⟩:∃v,((((((y_6.setCell ⟨w.heap.size+1,0,none⟩ ((.slice ad l.length cap))).setCell ⟨w.heap.size+1,1,none⟩ ((.slice sd st.length sap))).setCell ⟨w.heap.size+1,2,none⟩ (.string (S sc))).setCell ⟨w.heap.size+1,3,none⟩ (.string (S d))).setCell ⟨w.heap.size+1,4,none⟩ (.string (S p))).setCell ⟨w.heap.size+1,5,none⟩ (.int .i64 n))=v:=⟨_,rfl⟩;have hset:Chg (fun b=>b=w.heap.size+1) y_6 V:=by rw [←hV];exact (((((((Chg.refl (fun b=>b=w.heap.size+1) y_6).setCell (p:=⟨w.heap.size+1,0,none⟩) rfl _).setCell (p:=⟨w.heap.size+1,1,none⟩) rfl _).setCell (p:=⟨w.heap.size+1,2,none⟩) rfl _).setCell (p:=⟨w.heap.size+1,3,none⟩) rfl _).setCell (p:=⟨w.heap.size+1,4,none⟩) rfl _).setCell (p:=⟨w.heap.size+1,5,none⟩) rfl _)
  have HRV:=qh (show SOut (w.heap.size+1) ((.slice ad l.length cap)) ((.slice sd st.length sap)) sc d p n V from by rw [←hV];exact ((HR5.o.set0 (x:=(.slice ad l.length cap))).set1 (x:=(.slice sd st.length sap)) (r:=sc)).set3 (d':=d) (p':=p) (n':=n));have HBV:=qh (Chg.a0j HB5.o hset HB5.o.size (fun b h=>by have h9:b=w.heap.size+1:=h;omega));refine trd 9 fun K hK=>?_;go_simp;refine hK.out _ _ (by (try rw [hV]);exact hS1.a0c hset (fun h=>by have h9:w.heap.size=w.heap.size+1:=h;omega)) (fun hS2=>?_);clear hK K
  try rw [hV]at hS2⊢
  clear r0 r1 r2 r3 r4 r5 r6 f0 f1 f2 f3 f4 f5
  try simp only [qA,qB,qC,Act.put,qD,qE,qF]
  refine tk2 10 hS2 ?_;refine wpAnyH_done kZ ?_ _;go_wp2
  try rw [hV]
  clear hset hV;obtain⟨q0,q1,q2,q3,q4,q5,q6⟩:=HRV.o.1;refine bodyPost_ret (v:=.tuple #[a1d ((.slice ad l.length cap)) ((.slice sd st.length sap)) sc d p n,.string (S ((P.num ps.length++[32])++P.num (P.blank ps)))]) (by simp [results,Tryz.results166,go_sem,q0,q1,q2,q3,q4,q5]) rfl ⟨(.slice ad l.length cap),(.slice sd st.length sap),by rw [HP.o]<;>rfl,by rw [HP.o];exact .inl ⟨rfl,rfl⟩,by rw [HP.o];exact .inl ⟨rfl,rfl⟩,HBV.o⟩
 have HP:=qh (HP3.o.trans (if_neg h4))
 have f4:=P.beqN h4
 clear HP3 h4
 go_enter Tryz.func166,Tryz.ntmps166
 go_upto_region 1 with fail
 try rw [hW0]
 clear hW0
 obtain⟨⟨o0,o1,o2,o3,o4,o5,o6⟩,_⟩:=HX.o
 obtain⟨⟨r0,r1,r2,r3,r4,r5,r6⟩,f0,f1,f2,f3,f4,f5⟩:=HR.o
 obtain⟨V,hV⟩:∃v,((((((W0.setCell ⟨w.heap.size+1,0,none⟩ ((.slice ad l.length cap))).setCell ⟨w.heap.size+1,1,none⟩ ((.slice sd st.length sap))).setCell ⟨w.heap.size+1,2,none⟩ (.string (S sc))).setCell ⟨w.heap.size+1,3,none⟩ (.string (S d))).setCell ⟨w.heap.size+1,4,none⟩ (.string (S p))).setCell ⟨w.heap.size+1,5,none⟩ (.int .i64 n))=v:=⟨_,rfl⟩
 have hset:Chg (fun b=>b=w.heap.size+1) W0 V:=by rw [←hV];exact (((((((Chg.refl (fun b=>b=w.heap.size+1) W0).setCell (p:=⟨w.heap.size+1,0,none⟩) rfl _).setCell (p:=⟨w.heap.size+1,1,none⟩) rfl _).setCell (p:=⟨w.heap.size+1,2,none⟩) rfl _).setCell (p:=⟨w.heap.size+1,3,none⟩) rfl _).setCell (p:=⟨w.heap.size+1,4,none⟩) rfl _).setCell (p:=⟨w.heap.size+1,5,none⟩) rfl _)
 have HRV:=qh (show SOut (w.heap.size+1) ((.slice ad l.length cap)) ((.slice sd st.length sap)) sc d p n V from by rw [←hV];exact ((HR.o.set0 (x:=(.slice ad l.length cap))).set1 (x:=(.slice sd st.length sap)) (r:=sc)).set3 (d':=d) (p':=p) (n':=n))
 have HBV:=qh (Chg.a0j HB.o hset HB.o.size (fun b h=>by have h9:b=w.heap.size+1:=h;omega))
 go_wp2
 try rw [hV]
 clear hset hV
 obtain⟨q0,q1,q2,q3,q4,q5,q6⟩:=HRV.o.1
 refine bodyPost_ret (v:=.tuple #[a1d ((.slice ad l.length cap)) ((.slice sd st.length sap)) sc d p n,.string (S [63])]) (by simp [results,Tryz.results166,go_sem,q0,q1,q2,q3,q4,q5]) rfl ⟨(.slice ad l.length cap),(.slice sd st.length sap),by rw [HP.o]<;>rfl,by rw [HP.o];exact .inl ⟨rfl,rfl⟩,by rw [HP.o];exact .inl ⟨rfl,rfl⟩,HBV.o⟩
namespace P
def revJ (its:List (Value×List Int)):Bs:=Go.Lib.join (its.map fun it=>fmtS 47 it.2) [32]
theorem d9o {o:List Int} (h:a0k o=true):fmtS 47 o≠[]:=by
 cases o with
 |nil=>exact absurd h dZ
 |cons k r=>
  have hk:a0q k=true:=by
   unfold a0k at h;simp only [Bool.and_eq_true,List.all_cons]at h;exact h.2.1
  obtain⟨m,rfl⟩:∃m:Nat,k=(m:Int):=by
   unfold a0q at hk;simp only [decide_eq_true_eq]at hk;exact⟨k.toNat,by omega⟩
  intro e;unfold fmtS at e;rw [List.map_cons,Go.Lib.join_cons]at e;exact d7w hk (List.append_eq_nil_iff.1 e).1
end P
theorem P.d4u (it:Value×List Int):P.revJ [it]=P.fmtS 47 it.2:=Go.Lib.join_one _ _
theorem P.d1q (l:List (Value×List Int)) (it:Value×List Int) (h:l≠[]):P.revJ (l++[it])=P.revJ l++[32]++P.fmtS 47 it.2:=by
 unfold P.revJ;rw [List.map_append];exact P.c1n _ _ _ (by simpa using h)
theorem P.d6y {l:List (Value×List Int)} (h:∀it∈l,P.a0k it.2=true) (hl:l.length≤40):(P.revJ l).length≤12000:=by
 have h1:=P.b8n (l.map fun it=>P.fmtS 47 it.2) 32 282 (fun x hx=>by
  obtain⟨it,hi,rfl⟩:=List.mem_map.1 hx;have h2:=P.a8n 47 it.2;have h3:=(P.a1l (h it hi)).2;omega)
 rw [List.length_map]at h1;have:l.length*(282+1)≤40*283:=Nat.mul_le_mul_right _ hl;unfold P.revJ;omega
theorem P.d9v {l:List (Value×List Int)} (h:∀it∈l,P.a0k it.2=true) (hl:l≠[]):P.revJ l≠[]:=by
 cases l with
 |nil=>exact absurd rfl hl
 |cons it r=>
  intro e;unfold P.revJ at e;rw [List.map_cons,Go.Lib.join_cons]at e;exact P.d9o (h it sZ) (List.append_eq_nil_iff.1 e).1
theorem P.d2p (d:P.Dic) (t:Str) (its:List (Value×List Int)) (h:its.map (·.2)=P.a1x t d):(P.revJ its).map P.hash=Go.Lib.join (P.a6p t d) [32]:=by
 unfold P.revJ P.a6p;rw [P.b8l,←h,List.map_map,List.map_map];rfl
def BInv (g:Nat) (x:Str) (i:Nat) (v:World):Prop:=g<v.heap.size∧∀(j:Nat) (h:j<x.length),v.cell? ⟨g,j,none⟩=some (.int .u8 (((if j<i then P.hash x[j] else x[j]).toNat:Nat):Int))∧v.frozen? ⟨g,j,none⟩=false
theorem BInv.step {g:Nat} {x:Str} {i:Nat} {v:World} (h:BInv g x i v) (hi:i<x.length) (he:x[i]≠35):BInv g x (i+1) v:=by
 refine⟨h.1,fun j hj=>⟨?_,(h.2 j hj).2⟩⟩;rw [(h.2 j hj).1]
 by_cases hji:j=i
 ·subst hji;rw [if_neg (Nat.lt_irrefl _),if_pos (Nat.lt_succ_self _)];unfold P.hash;rw [if_neg he]
 ·by_cases h1:j<i
  ·rw [if_pos h1,if_pos oZ]
  ·rw [if_neg h1,if_neg oZ]
theorem BInv.put {g:Nat} {x:Str} {i:Nat} {v:World} (h:BInv g x i v) (hi:i<x.length) (he:x[i]=35):BInv g x (i+1) (v.setCell ⟨g,i,none⟩ (.int .u8 61)):=by
 refine⟨by simpa [World.setCell] using h.1,fun j hj=>?_⟩;obtain⟨h1,h2⟩:=h.2 j hj;refine⟨?_,by go_simp⟩
 by_cases hji:j=i
 ·subst hji;rw [World.cell?_setCell_same _ _ _ h1,if_pos (Nat.lt_succ_self _)];unfold P.hash;rw [if_pos he];rfl
 ·rw [World.cell?_setCell_other _ _ _ _ (by intro e';injection e';omega),h1]
  by_cases h3:j<i
  ·rw [if_pos h3,if_pos oZ]
  ·rw [if_neg h3,if_neg oZ]
theorem c9j (dv:Value) (l:P.Dic) (t:Str) (w:World) (hu:EntR w dv l) (hm:Small l) (hdc:P.dic l=true) :
 Calls Tryz.prog 172 #[.agg #[dv],.string (S t)] w fun e w'=>e=.returned (.string (S (P.revT l t)))∧Below w.heap.size w w':=by
 have hb0:=(Below.refl w.heap.size w).alloc lZ (.cells #[dv] 26)
 have HU:=qh (hu.below hb0);have HB0:=qh hb0;have HBX:=qh (Box1.new dv 26 w);have HDC:=qh hdc
 have HOO:=qh (P.a8y (t:=t) hdc)
 have hl40:=Nat.le_trans (P.a8j t l) (P.b3z hdc)
 have HRT:=qh (P.d2d l t)
 obtain⟨ad,cap,rfl,_,_⟩:=hu
 clear hb0 hdc
 go_enter Tryz.func172,Tryz.ntmps172
 go_upto_region 1 with fail
 generalize w.alloc (.cells #[.slice ad l.length cap] 26)=v0 at *
 obtain⟨b0,bz⟩:=HBX.o
 go_wp2_with fail
 refine (b0z _ l t _ HU.o hm).mono ?_
 rintro e w1 ⟨x,its,B1,rfl,hmap,hI⟩
 rw [HDC.o,if_pos rfl]at hmap
 rw [HDC.o]
 obtain⟨xa,xc,rfl⟩:=hI.form
 have HI0:=qh hI
 have HM:=qh (show its.map (·.2)=P.a1x t l from hmap)
 have hil:its.length≤40:=by have h1:=congrArg List.length hmap;rw [List.length_map]at h1;omega
 have HOI:=qh (show ∀it∈its,P.a0k it.2=true from fun it hi=>HOO.o it.2 (by rw [←hmap];exact List.mem_map_of_mem hi))
 have HLN:=qh (show its.length=(P.a1x t l).length from by rw [←hmap,List.length_map])
 clear hmap hI b0 bz
 go_wp2
 go_loopw [7,8] (fun s i wr=>∃k:Nat,k≤its.length∧i=.int .i64 k∧s=.string (S (P.revJ (its.take k)))∧RevI v0 B1 (.slice xa its.length xc) its wr) (fun _ i _=>its.length-(intOf i).toNat)
 case atStart=>exact⟨0,Nat.zero_le _,rfl,rfl,HI0.o⟩
 case round=>
  obtain⟨k,hk,rfl,rfl,hI⟩:=hrel;have HI:=qh hI;clear HI0;have hrl:=P.d6y (l:=its.take k) (fun it hi=>HOI.o it (List.mem_of_mem_take hi)) (by rw [List.length_take];omega)
  by_cases hlt:k<its.length
  ·obtain⟨g,hga,hgB,hgl,c0⟩:=hI.at k hlt;subst hga;have i1:(k:Int)<(its.length:Int):=by omega
   have hok:=hI.els its[k] (List.getElem_mem hlt);have HOL:=qh (HOI.o its[k] (List.getElem_mem hlt));have htk:(its.take k).length=k:=by rw [List.length_take];omega
   have HS1:=qh (show k=0→P.revJ (its.take (k+1))=P.revJ (its.take k)++P.fmtS 47 its[k].2 from fun h=>by subst h;rw [a0f its 0 hlt];exact P.d4u _);have HS2:=qh (show k≠0→P.revJ (its.take (k+1))=P.revJ (its.take k)++[32]++P.fmtS 47 its[k].2 from fun h=>by rw [a0f its k hlt];exact P.d1q _ _ (fun e=>by rw [e]at htk;simp at htk;omega));generalize its[k]=it at *;obtain⟨y,o⟩:=it;simp only at hok HOL c0 HS1 HS2;have h6:=(P.a1l HOL.o).2;have hfs:=P.a8n 47 o;obtain⟨ya,yc,rfl⟩:=a0i hok;have HK:=qh (a2b hok oZ);clear hok hI htk;generalize P.revJ (its.take k)=ff at *
   by_cases hk0:k=0
   ·have HSN:=qh (HS1.o hk0);have i2:¬(0:Int)<(k:Int):=by omega
    clear HS1 HS2 hk0
    go_wp2_with fail
    refine (c6k _ o _ HK.o HOL.o).mono ?_;rintro e w2 ⟨rfl,hb⟩;have HI2:=qh (HI.o.below hb);clear hb c0 HI;generalize P.fmtS 47 o=fm at *;have j1:¬9223372036854775807<ff.length+fm.length:=by omega
    go_wp2
    go_roundw
    case rel=>exact⟨k+1,by omega,by go_num,by rw [HSN.o],HI2.o⟩
    case measure=>simp [intOf];omega
   ·have HSN:=qh (HS2.o hk0);have i2:(0:Int)<(k:Int):=by omega
    have j0:¬9223372036854775807<ff.length+1:=by omega
    clear HS1 HS2 hk0
    go_wp2_with fail
    refine (c6k _ o _ HK.o HOL.o).mono ?_;rintro e w2 ⟨rfl,hb⟩;have HI2:=qh (HI.o.below hb);clear hb c0 HI;generalize P.fmtS 47 o=fm at *;have j1:¬9223372036854775807<ff.length+1+fm.length:=by omega
    go_wp2
    go_roundw
    case rel=>exact⟨k+1,by omega,by go_num,by rw [HSN.o];simp,HI2.o⟩
    case measure=>simp [intOf];omega
  ·have hkl:k=its.length:=by omega
   subst hkl;have hTL:its.take its.length=its:=List.take_length;rw [hTL]at hrl⊢;have HB1:=qh (HB0.o.trans (HI.o.bel.mono HB0.o.size));clear hI hTL HI
   by_cases h0:its=[]
   ·have HP:=qh (show P.revT l t=[110,111,110,101] from by rw [HRT.o,if_pos (List.eq_nil_of_length_eq_zero (by rw [←HLN.o,h0];rfl))];rfl);have hx:P.revJ its=[]:=by rw [h0];rfl
    rw [hx];clear hx h0 hrl;go_wp2;go_ret;exact⟨by rw [HP.o];rfl,HB1.o⟩
   ·have HP:=qh (show P.revT l t=(P.revJ its).map P.hash from by rw [HRT.o,if_neg (fun h=>h0 (List.eq_nil_of_length_eq_zero (by rw [HLN.o,h];rfl))),P.d2p l t its HM.o]);have hne:=P.d9v HOI.o h0;obtain⟨x,hx⟩:∃x,P.revJ its=x:=⟨_,rfl⟩;rw [hx]at HP hne hrl⊢
    have f1:x.isEmpty=false:=by cases x with
     |nil=>exact absurd rfl hne
     |cons _ _=>rfl
    have f2:(x==[])=false:=by simpa using hne
    clear hx h0 hne HM HOI HLN HRT HOO
    go_wp2_with fail
    obtain⟨cap2,w3,hconv,hcell,hfz,hb3,hz3⟩:=L.c9k x wr;rw [hconv];have HB3:=bt HB1 hb3;have HI3:=qh (show BInv wr.heap.size x 0 w3 from⟨hz3,fun j hj=>⟨by rw [hcell j hj,if_neg (Nat.not_lt_zero _)],hfz j hj⟩⟩);have hwz:=HB1.o.size;generalize wr.heap.size=g at *;clear hconv hcell hfz hb3 hz3;go_wp2
    go_loopw [10] (fun i wx=>∃k:Nat,k≤x.length∧i=.int .i64 k∧BInv g x k wx∧Below w.heap.size w wx) (fun i _=>x.length-(intOf i).toNat)
    case atStart=>exact⟨0,Nat.zero_le _,rfl,HI3.o,HB3.o⟩
    case round=>
     obtain⟨k,hk,rfl,hi,hb⟩:=hrel;have HI:=qh hi;have HB:=qh hb;clear HI3 HB3 hb
     by_cases hlt:k<x.length
     ·obtain⟨c0,z0⟩:=hi.2 k hlt;rw [if_neg (Nat.lt_irrefl _)]at c0;have i1:(k:Int)<(x.length:Int):=by omega
      by_cases he:x[k]=35
      ·have f3:(((x[k].toNat:Nat):Int)==35)=true:=by rw [he];rfl
       have HN:=qh (HI.o.put hlt he);clear hi he;go_wp2
       go_roundw
       case rel=>exact⟨k+1,by omega,by go_num,HN.o,HB.o.setCell (by show w.heap.size≤g;omega) _⟩
       case measure=>simp [intOf];omega
      ·have f3:(((x[k].toNat:Nat):Int)==35)=false:=c5y (b:=35) he;have HN:=qh (HI.o.step hlt he);clear hi he;go_wp2
       go_roundw
       case rel=>exact⟨k+1,by omega,by go_num,HN.o,HB.o⟩
       case measure=>simp [intOf];omega
     ·have hkx:k=x.length:=by omega
      subst hkx
      have hback:=run_convert_bytes_back (P:=Tryz.prog) wr 22 9 5 ⟨g,0,none⟩ cap2 (x.map P.hash) Tryz.underlying22 Tryz.underlying5 Tryz.underlying9 (by
       intro j hj
       have hjl:j<x.length:=by simpa using hj
       rw [List.getElem_map,add0,(hi.2 j hjl).1,if_pos hjl])
      rw [List.length_map]at hback;clear hi;go_wp2;go_ret;exact⟨by rw [HP.o];rfl,HB.o⟩
end Go.Proofs.YtggfdnopminemaaGreatDoor
namespace Go.Proofs.YtggfdnopminemaaGreatDoor
open Go Go.RowKit
set_option maxHeartbeats 8000000
set_option maxRecDepth 100000
namespace P
theorem two_of {l:List Bs} (h:l.length=2):∃a b,l=[a,b]:=by
 match l,h with
 |[a,b],_=>exact⟨a,b,rfl⟩
theorem c7v {more a b:Bs} (h:split 32 more=[a,b]):a0w more=optB (a1y a b):=by unfold a0w;rw [h]
theorem d1h {more:Bs} (h:(split 32 more).length≠2):a0w more=none:=by
 unfold a0w
 split
 ·rename_i hs;rw [hs]at h;exact absurd rfl h
 ·rfl
end P
theorem l25Run (u us:Value) (l:P.Dic) (st:List Int) (sc d p:Str) (n:Int) (line:Str) (w:World) (hu:EntR w u l) (hus:IntR w us st) (hm:Small l) (ht:P.trans l (st,sc)=true) (hl:line.length≤2^20) :
 Calls Tryz.prog 95 #[a1d u us sc d p n,.string (S line)] w (b1r u us (l,(st,sc)) (P.cmd (l,(st,sc)) line) (d,p,n) w):=by
 have hu0:=hu;have hus0:=hus
 obtain⟨ad,cap,rfl,_,_⟩:=hu0
 obtain⟨sd,sap,rfl,_,_⟩:=hus0
 obtain⟨W0,hW0⟩:∃v,(w.alloc (a0d (.slice ad l.length cap) (.slice sd st.length sap) sc d p n)).alloc (a0d (.slice none 0 0) (.slice none 0 0) [] [] [] 0)=v:=⟨_,rfl⟩
 have hb0:Below w.heap.size w W0:=by rw [←hW0];exact ((Below.refl w.heap.size w).alloc lZ _).alloc sZ _
 have hz0:W0.heap.size=w.heap.size+2:=by rw [←hW0];simp
 have hsx:SOut w.heap.size (.slice ad l.length cap) (.slice sd st.length sap) sc d p n W0:=by
  exact zq25
 have hsr:SOut (w.heap.size+1) (.slice none 0 0) (.slice none 0 0) [] [] [] 0 W0:=by
  exact zq21
 have HU:=qh hu;have HUS:=qh hus
 have HX:=qh hsx;have HR:=qh hsr;have HB:=qh hb0
 have HT:=qh ht
 have hs60:=(P.a1h ht).1
 try simp only at hs60
 clear hsx hsr hb0 ht hu hus
 have HNE:=qh (List.length_pos_iff.2 (P.a2o 32 line));have HG:=qh (P.c7t (c:=32) (s:=line));have hhl:=P.b0p 32 line
 have HCM:=qh (show P.cmd (l,(st,sc)) line=if (P.head 32 line).length=line.length then P.alone (l,(st,sc)) (P.head 32 line) else P.args (l,(st,sc)) (P.head 32 line) (line.drop ((P.head 32 line).length+1)) from rfl)
 go_enter Tryz.func95,Tryz.ntmps95
 go_upto_region 1 with fail
 try rw [hW0]
 clear hW0
 go_wp2_with fail
 refine (a3v line 32 _ oZ).mono ?_
 rintro e w1 ⟨v,rfl,hst0,hb⟩
 obtain⟨g,gc,rfl,hg,hst⟩:=a6i hst0 (List.length_pos_iff.1 HNE.o)
 have c0:=hst.2 0 HNE.o
 rw [HG.o HNE.o]at c0
 have HX1:=qh (HX.o.below hb);have HR1:=qh (HR.o.below hb);have HB1:=bt HB hb
 have hz1:w.heap.size+2≤w1.heap.size:=by have:=hb.size;omega
 have i1:(0:Int)<((P.split 32 line).length:Int):=by have:=HNE.o;omega
 clear hst0 hst hb HX HR HB HG HNE
 generalize (P.split 32 line).length=sl at *
 generalize P.head 32 line=word at *
 by_cases hw:word.length=line.length
 ·have HP:=qh (HCM.o.trans (if_pos hw));have i2:((word.length:Int)==(line.length:Int))=true:=by rw [hw];simp
  clear HCM;obtain⟨⟨o0,o1,o2,o3,o4,o5,o6⟩,_⟩:=HX1.o
  go_wp2_with fail
  refine (d5w _ _ l st sc d p n word _ (HU.o.below HB1.o) (HUS.o.below HB1.o) hm HT.o).mono ?_;rintro e x2 ⟨nu,nus,rfl,hfe,hfi,hb⟩;have HEN:=qh (hfe.read (HU.o.below HB1.o) hb);have HIN:=qh (hfi.read (HUS.o.below HB1.o) hb);obtain⟨⟨⟨l2,⟨st2,sc2⟩⟩,rep⟩,ha⟩:∃a,P.alone (l,(st,sc)) word=a:=⟨_,rfl⟩;exact zq173
 have i2:((word.length:Int)==(line.length:Int))=false:=by rw [beq_eq_false_iff_ne];omega
 obtain⟨more,hmore⟩:∃m,line.drop (word.length+1)=m:=⟨_,rfl⟩
 have hml:more.length≤2^20:=by rw [←hmore,List.length_drop];omega
 have HP0:=qh (show P.cmd (l,(st,sc)) line=if word=P.d2c then P.a5j (l,(st,sc)) more else if word=P.c9g∨word=P.b1h∨word=P.c3y then P.a5n (l,(st,sc)) word more else if word=P.c3v then P.a1j (l,(st,sc)) more else if word=P.b8t then ((l,(st,sc)),P.a5g l more) else if word=P.d9y then ((l,(st,sc)),P.a0w more) else if word=P.d2q then ((l,(st,sc)),P.c1h more) else ((l,(st,sc)),none) from by rw [HCM.o,if_neg hw,hmore];rfl)
 have i8:IntKind.i64.wrap ((word.length:Int)+1)=(word.length:Int)+1:=by rw [IntKind.wrap_i64];omega
 have i9:¬(line.length:Int)<(word.length:Int)+1:=by omega
 have i11:¬(word.length:Int)+1<0:=by omega
 have i10:((word.length:Int)+1).toNat=word.length+1:=by omega
 clear HCM hw
 by_cases h1:word=[112,114,101,115,115]
 ·have HP0:=qh (HP0.o.trans (if_pos h1));have f1:=P.beqB h1;clear h1
  go_wp2_with fail
  refine (a7k more _ oZ).mono ?_;rintro e w2 ⟨rfl,hb⟩;have HX2:=qh (HX1.o.below hb);have HR2:=qh (HR1.o.below hb);have HB2:=bt HB1 hb;have hz2:w.heap.size+2≤w2.heap.size:=Nat.le_trans hz1 hb.size;clear hb c0;have HPR:=qh (show P.a5j (l,(st,sc)) more=if (P.parse more).2 then P.typed (l,(st,sc)) [((P.parse more).1:Int)] else ((l,(st,sc)),none) from rfl);generalize P.parse more=q at *;obtain⟨k,q⟩:=q;simp only at HPR⊢
  cases q
  ·have HP:=qh (HP0.o.trans (HPR.o.trans (if_neg dZ)));exact zq3
  ·have HP:=qh (HP0.o.trans (HPR.o.trans (if_pos rfl)));have hba:=(Below.refl w2.heap.size w2).alloc lZ (.cells #[.int .i64 (k:Int)] 3);have HR3:=qh (HR2.o.below hba);have HB3:=bt HB2 hba;have HO:=qh (b8d (k:Int) w2);have hz3:w.heap.size+2≤(w2.alloc (.cells #[.int .i64 (k:Int)] 3)).heap.size:=Nat.le_trans hz2 hba.size;clear hba;obtain⟨⟨o0,o1,o2,o3,o4,o5,o6⟩,_⟩:=HX2.o
   go_wp2_with fail
   refine (c4h _ _ _ l st [(k:Int)] sc d p n _ (HU.o.below HB3.o) (HUS.o.below HB3.o) HO.o hm HT.o).mono ?_;rintro e x2 ⟨nu,nus,rfl,hfe,hfi,hb⟩;have HEN:=qh (hfe.read (HU.o.below HB3.o) hb);have HIN:=qh (hfi.read (HUS.o.below HB3.o) hb);obtain⟨⟨⟨l2,⟨st2,sc2⟩⟩,rep⟩,ha⟩:∃a,P.typed (l,(st,sc)) [(k:Int)]=a:=⟨_,rfl⟩;rw [ha]at HP hfe hfi HEN HIN⊢;simp only at hfe hfi HEN HIN⊢;clear ha;obtain⟨na,nc,rfl,_,_⟩:=id HEN.o;obtain⟨ma,mc,rfl,_,_⟩:=id HIN.o;have HR9:=qh (HR3.o.below hb);have HB9:=bt HB3 hb;have HFE:=qh hfe;have HFI:=qh hfi;exact zq1
 have HP1:=qh (HP0.o.trans (if_neg h1))
 have f1:=P.beqN h1
 clear HP0 h1
 by_cases ho_type:word=[116,121,112,101]
 ·have HP:=qh (HP1.o.trans (if_pos (.inl ho_type)));have f_type:=P.beqB ho_type;clear ho_type;exact d9t
 by_cases ho_delete:word=[100,101,108,101,116,101]
 ·have HP:=qh (HP1.o.trans (if_pos (.inr (.inl ho_delete))));have f_type:=P.beqN ho_type;have f_delete:=P.beqB ho_delete;clear ho_delete ho_type;exact d9t
 by_cases ho_lookup:word=[108,111,111,107,117,112]
 ·have HP:=qh (HP1.o.trans (if_pos (.inr (.inr ho_lookup))));have f_type:=P.beqN ho_type;have f_delete:=P.beqN ho_delete;have f_lookup:=P.beqB ho_lookup;clear ho_lookup ho_type ho_delete;exact d9t
 have HP2:=qh (HP1.o.trans (if_neg (fun h=>by rcases h with h|h|h;exact ho_type h;exact ho_delete h;exact ho_lookup h)))
 have f_type:=P.beqN ho_type;have f_delete:=P.beqN ho_delete;have f_lookup:=P.beqN ho_lookup
 clear HP1 ho_type ho_delete ho_lookup
 by_cases h3:word=[100,101,102,105,110,101]
 ·have HP:=qh (HP2.o.trans (if_pos h3));have f3:=P.beqB h3;clear h3;obtain⟨⟨o0,o1,o2,o3,o4,o5,o6⟩,_⟩:=HX1.o
  go_wp2_with fail
  refine (d3y _ _ l st sc d p n more _ (HU.o.below HB1.o) (HUS.o.below HB1.o) hm HT.o hml).mono ?_;rintro e x2 ⟨nu,nus,rfl,hfe,hfi,hb⟩;have HEN:=qh (hfe.read (HU.o.below HB1.o) hb);have HIN:=qh (hfi.read (HUS.o.below HB1.o) hb);obtain⟨⟨⟨l2,⟨st2,sc2⟩⟩,rep⟩,ha⟩:∃a,P.a1j (l,(st,sc)) more=a:=⟨_,rfl⟩;exact zq173
 have HP3:=qh (HP2.o.trans (if_neg h3))
 have f3:=P.beqN h3
 clear HP2 h3
 by_cases h4:word=[114,101,118,101,114,115,101]
 ·have HP0:=qh (HP3.o.trans (if_pos h4));have f4:=P.beqB h4;clear h4
  go_wp2_with fail
  refine (c5c more _ oZ).mono ?_;rintro e w2 ⟨v,rfl,-,hb⟩;have HX2:=qh (HX1.o.below hb);have HR2:=qh (HR1.o.below hb);have HB2:=bt HB1 hb;clear hb c0;have HREV:=qh (show P.a5g l more=if (P.a0o more).2 then some (P.revT l more) else none from rfl);generalize (P.a0o more).2=q at *
  cases q
  ·have HP:=qh (show P.cmd (l,(st,sc)) line=((l,(st,sc)),none) from by rw [HP0.o,HREV.o];rfl);exact zq3
  ·have HP:=qh (show P.cmd (l,(st,sc)) line=((l,(st,sc)),some (P.revT l more)) from by rw [HP0.o,HREV.o];rfl);have HXD:=qh (HX2.o.below bZ.drew);have HRD2:=qh (HR2.o.below bZ.drew);have HBD:=qh (HB2.o.trans (bZ.drew.mono HB2.o.size))
   go_upto_region 21 with fail
   refine wp_region_held_drew (S:=SOut w.heap.size (.slice ad l.length cap) (.slice sd st.length sap) sc d p n) kZ HXD.o (fun hS0=>?_);generalize w2.drew=y0 at *;refine tk2 0 hS0 ?_;refine tk2 1 hS0 ?_;refine tk2 2 hS0 ?_;refine tk2 3 hS0 ?_;refine trd 4 fun K hK=>?_;go_simp;refine (c9j _ l more _ (HU.o.below HBD.o) hm (P.a8p HT.o)).mono ?_;rintro e y1 ⟨rfl,hb⟩;have HRx:=qh (HRD2.o.below hb);have HBx:=bt HBD hb;refine hK.out _ _ (hS0.below hb) (fun hS1=>?_);clear hK K hb hS0
   try simp only [qA,qB,qC,Act.put,qD,qE,qF]
   have HR5:=qh HRx.o;have HB5:=qh HBx.o;obtain⟨⟨r0,r1,r2,r3,r4,r5,r6⟩,f0,f1,f2,f3,f4,f5⟩:=HR5.o;obtain⟨V,hV⟩:∃v,((((((y1.setCell ⟨w.heap.size+1,0,none⟩ ((.slice ad l.length cap))).setCell ⟨w.heap.size+1,1,none⟩ ((.slice sd st.length sap))).setCell ⟨w.heap.size+1,2,none⟩ (.string (S sc))).setCell ⟨w.heap.size+1,3,none⟩ (.string (S d))).setCell ⟨w.heap.size+1,4,none⟩ (.string (S p))).setCell ⟨w.heap.size+1,5,none⟩ (.int .i64 n))=v:=⟨_,rfl⟩;have hset:Chg (fun b=>b=w.heap.size+1) y1 V:=by rw [←hV];exact (((((((Chg.refl (fun b=>b=w.heap.size+1) y1).setCell (p:=⟨w.heap.size+1,0,none⟩) rfl _).setCell (p:=⟨w.heap.size+1,1,none⟩) rfl _).setCell (p:=⟨w.heap.size+1,2,none⟩) rfl _).setCell (p:=⟨w.heap.size+1,3,none⟩) rfl _).setCell (p:=⟨w.heap.size+1,4,none⟩) rfl _).setCell (p:=⟨w.heap.size+1,5,none⟩) rfl _)
   have HRV:=qh (show SOut (w.heap.size+1) ((.slice ad l.length cap)) ((.slice sd st.length sap)) sc d p n V from by rw [←hV];exact ((HR5.o.set0 (x:=(.slice ad l.length cap))).set1 (x:=(.slice sd st.length sap)) (r:=sc)).set3 (d':=d) (p':=p) (n':=n));have HBV:=qh (Chg.a0j HB5.o hset HB5.o.size (fun b h=>by have h9:b=w.heap.size+1:=h;omega));refine trd 5 fun K hK=>?_;go_simp;refine hK.out _ _ (by (try rw [hV]);exact hS1.a0c hset (fun h=>by have h9:w.heap.size=w.heap.size+1:=h;omega)) (fun hS2=>?_);clear hK K
   try rw [hV]at hS2⊢
   clear r0 r1 r2 r3 r4 r5 r6 f0 f1 f2 f3 f4 f5
   try simp only [qA,qB,qC,Act.put,qD,qE,qF]
   refine tk2 6 hS2 ?_;refine wpAnyH_done kZ ?_ _;go_wp2
   try rw [hV]
   clear hset hV;obtain⟨q0,q1,q2,q3,q4,q5,q6⟩:=HRV.o.1;refine bodyPost_ret (v:=.tuple #[a1d ((.slice ad l.length cap)) ((.slice sd st.length sap)) sc d p n,.string (S (P.revT l more))]) (by simp [results,Tryz.results95,go_sem,q0,q1,q2,q3,q4,q5]) rfl ⟨(.slice ad l.length cap),(.slice sd st.length sap),by rw [HP.o]<;>rfl,by rw [HP.o];exact .inl ⟨rfl,rfl⟩,by rw [HP.o];exact .inl ⟨rfl,rfl⟩,HBV.o⟩
 have HP4:=qh (HP3.o.trans (if_neg h4))
 have f4:=P.beqN h4
 clear HP3 h4
 by_cases h5:word=[106,111,105,110]
 ·have HP0:=qh (HP4.o.trans (if_pos h5));have f5:=P.beqB h5;clear h5
  go_wp2_with fail
  refine (a3v more 32 _ oZ).mono ?_;rintro e w2 ⟨v,rfl,hst0,hb⟩;obtain⟨g2,gc2,rfl,hg2,hst2⟩:=a6i hst0 (P.a2o 32 more);have HX2:=qh (HX1.o.below hb);have HR2:=qh (HR1.o.below hb);have HB2:=bt HB1 hb;have HST2:=qh (hst2.below bZ.drew);have hg3:w.heap.size+2≤g2:=Nat.le_trans hz1 hg2;clear hb c0 hst0 hst2
  by_cases h2:(P.split 32 more).length=2
  ·obtain⟨a,b,hab⟩:=P.two_of h2;have hpa:=b1q (c:=32) (s:=more) (j:=0) (by rw [h2];decide);have hpb:=b1q (c:=32) (s:=more) (j:=1) (by rw [h2];decide);have HP:=qh (show P.cmd (l,(st,sc)) line=((l,(st,sc)),okB (P.a1y a b).1 (P.a1y a b).2) from by rw [HP0.o,P.c7v hab];rfl);simp only [hab,List.getElem_cons_zero,List.getElem_cons_succ]at hpa hpb;rw [hab]at HST2⊢;clear h2 hab;have HC0:=qh (HST2.o.2 0 sZ);have HC1:=qh (HST2.o.2 1 sZ);simp only [List.getElem_cons_zero,List.getElem_cons_succ]at HC0 HC1;have HXD:=qh (HX2.o.below bZ.drew);have HRD2:=qh (HR2.o.below bZ.drew);have HBD:=qh (HB2.o.trans (bZ.drew.mono HB2.o.size))
   go_upto_region 26 with fail
   refine wp_region_held_drew (S:=fun v=>SOut w.heap.size (.slice ad l.length cap) (.slice sd st.length sap) sc d p n v∧v.cell? ⟨g2,0,none⟩=some (.string (S a))∧v.cell? ⟨g2,1,none⟩=some (.string (S b))∧g2<v.heap.size) kZ ⟨HXD.o,HC0.o,HC1.o,HST2.o.1.1⟩ (fun hS0=>?_);generalize w2.drew=y0 at *;refine tk12 0 hS0 ?_;refine tk12 1 hS0 ?_;refine tk12 2 hS0 ?_;refine tk12 3 hS0 ?_;refine tk12 4 hS0 ?_;refine tk12 5 hS0 ?_;refine tk12 6 hS0 ?_;refine trd 7 fun K hK=>?_;go_simp;refine (a8g a b _ oZ oZ).mono ?_;rintro e y1 ⟨rfl,rfl⟩;refine hK.out _ _ hS0 (fun hS3=>?_);clear hK K hS0
   try simp only [qA,qB,qC,Act.put,qD,qE,qF]
   refine tk12 8 hS3 ?_;refine tk12 9 hS3 ?_;refine trd 10 fun K hK=>?_;go_simp;refine (d4d (P.a1y a b).1 (P.a1y a b).2 _).mono ?_;rintro e y1 ⟨rfl,rfl⟩;refine hK.out _ _ hS3 (fun hS1=>?_);clear hK K hS3
   try simp only [qA,qB,qC,Act.put,qD,qE,qF]
   have HR5:=qh HRD2.o;have HB5:=qh HBD.o;obtain⟨⟨r0,r1,r2,r3,r4,r5,r6⟩,f0,f1,f2,f3,f4,f5⟩:=HR5.o;obtain⟨V,hV⟩:∃v,((((((y0.setCell ⟨w.heap.size+1,0,none⟩ ((.slice ad l.length cap))).setCell ⟨w.heap.size+1,1,none⟩ ((.slice sd st.length sap))).setCell ⟨w.heap.size+1,2,none⟩ (.string (S sc))).setCell ⟨w.heap.size+1,3,none⟩ (.string (S d))).setCell ⟨w.heap.size+1,4,none⟩ (.string (S p))).setCell ⟨w.heap.size+1,5,none⟩ (.int .i64 n))=v:=⟨_,rfl⟩;have hset:Chg (fun b=>b=w.heap.size+1) y0 V:=by rw [←hV];exact (((((((Chg.refl (fun b=>b=w.heap.size+1) y0).setCell (p:=⟨w.heap.size+1,0,none⟩) rfl _).setCell (p:=⟨w.heap.size+1,1,none⟩) rfl _).setCell (p:=⟨w.heap.size+1,2,none⟩) rfl _).setCell (p:=⟨w.heap.size+1,3,none⟩) rfl _).setCell (p:=⟨w.heap.size+1,4,none⟩) rfl _).setCell (p:=⟨w.heap.size+1,5,none⟩) rfl _)
   have HRV:=qh (show SOut (w.heap.size+1) ((.slice ad l.length cap)) ((.slice sd st.length sap)) sc d p n V from by rw [←hV];exact ((HR5.o.set0 (x:=(.slice ad l.length cap))).set1 (x:=(.slice sd st.length sap)) (r:=sc)).set3 (d':=d) (p':=p) (n':=n));have HBV:=qh (Chg.a0j HB5.o hset HB5.o.size (fun b h=>by have h9:b=w.heap.size+1:=h;omega));refine trd 11 fun K hK=>?_;go_simp;refine hK.out _ _ (by (try rw [hV]);exact⟨hS1.1.a0c hset (fun h=>by have h9:w.heap.size=w.heap.size+1:=h;omega),(hset.cell (p:=⟨g2,0,none⟩) hS1.2.2.2 (fun h=>by have h9:g2=w.heap.size+1:=h;omega)).trans hS1.2.1,(hset.cell (p:=⟨g2,1,none⟩) hS1.2.2.2 (fun h=>by have h9:g2=w.heap.size+1:=h;omega)).trans hS1.2.2.1,Nat.lt_of_lt_of_le hS1.2.2.2 hset.size⟩) (fun hS2=>?_);clear hK K
   try rw [hV]at hS2⊢
   clear r0 r1 r2 r3 r4 r5 r6 f0 f1 f2 f3 f4 f5
   try simp only [qA,qB,qC,Act.put,qD,qE,qF]
   refine tk12 12 hS2 ?_;refine wpAnyH_done kZ ?_ _;go_wp2
   try rw [hV]
   clear hset hV;obtain⟨q0,q1,q2,q3,q4,q5,q6⟩:=HRV.o.1;refine bodyPost_ret (v:=.tuple #[a1d ((.slice ad l.length cap)) ((.slice sd st.length sap)) sc d p n,.string (S (txtB (okB (P.a1y a b).1 (P.a1y a b).2)))]) (by simp [results,Tryz.results95,go_sem,q0,q1,q2,q3,q4,q5]) rfl ⟨(.slice ad l.length cap),(.slice sd st.length sap),by rw [HP.o]<;>rfl,by rw [HP.o];exact .inl ⟨rfl,rfl⟩,by rw [HP.o];exact .inl ⟨rfl,rfl⟩,HBV.o⟩
  ·have HP:=qh (show P.cmd (l,(st,sc)) line=((l,(st,sc)),none) from by rw [HP0.o,P.d1h h2]);have f9:(((P.split 32 more).length:Int) != 2)=true:=by show (!_)=true;rw [beq_eq_false_iff_ne.2 oZ];rfl
   exact zq3
 have HP5:=qh (HP4.o.trans (if_neg h5))
 have f5:=P.beqN h5
 clear HP4 h5
 by_cases h6:word=[108,111,111,115,101]
 ·have HP0:=qh (HP5.o.trans (if_pos h6));have f6:=P.beqB h6;clear h6
  go_wp2_with fail
  refine (b3w more _ oZ).mono ?_;rintro e w2 ⟨rfl,hb⟩;have HX2:=qh (HX1.o.below hb);have HR2:=qh (HR1.o.below hb);have HB2:=bt HB1 hb;clear hb c0;have HPL:=qh (show P.c1h more=if (P.loose more).2 then some (P.fmt ((P.loose more).1:Int)) else none from rfl);have HLT:=qh (P.b3d more);generalize P.loose more=q at *;obtain⟨k,q⟩:=q;simp only at HPL HLT⊢
  cases q
  ·have HP:=qh (show P.cmd (l,(st,sc)) line=((l,(st,sc)),none) from by rw [HP0.o,HPL.o];rfl);exact zq3
  ·have HP:=qh (show P.cmd (l,(st,sc)) line=((l,(st,sc)),some (P.fmt (k:Int))) from by rw [HP0.o,HPL.o];rfl);have HXD:=qh (HX2.o.below bZ.drew);have HRD2:=qh (HR2.o.below bZ.drew);have HBD:=qh (HB2.o.trans (bZ.drew.mono HB2.o.size))
   go_upto_region 31 with fail
   refine wp_region_held_drew (S:=SOut w.heap.size (.slice ad l.length cap) (.slice sd st.length sap) sc d p n) kZ HXD.o (fun hS0=>?_);generalize w2.drew=y0 at *;refine tk2 0 hS0 ?_;refine tk2 1 hS0 ?_;refine trd 2 fun K hK=>?_;go_simp;refine (b1b k _ HLT.o).mono ?_;rintro e y1 ⟨rfl,hb⟩;have HRx:=qh (HRD2.o.below hb);have HBx:=bt HBD hb;refine hK.out _ _ (hS0.below hb) (fun hS1=>?_);clear hK K hb hS0
   try simp only [qA,qB,qC,Act.put,qD,qE,qF]
   have HR5:=qh HRx.o;have HB5:=qh HBx.o;obtain⟨⟨r0,r1,r2,r3,r4,r5,r6⟩,f0,f1,f2,f3,f4,f5⟩:=HR5.o;obtain⟨V,hV⟩:∃v,((((((y1.setCell ⟨w.heap.size+1,0,none⟩ ((.slice ad l.length cap))).setCell ⟨w.heap.size+1,1,none⟩ ((.slice sd st.length sap))).setCell ⟨w.heap.size+1,2,none⟩ (.string (S sc))).setCell ⟨w.heap.size+1,3,none⟩ (.string (S d))).setCell ⟨w.heap.size+1,4,none⟩ (.string (S p))).setCell ⟨w.heap.size+1,5,none⟩ (.int .i64 n))=v:=⟨_,rfl⟩;have hset:Chg (fun b=>b=w.heap.size+1) y1 V:=by rw [←hV];exact (((((((Chg.refl (fun b=>b=w.heap.size+1) y1).setCell (p:=⟨w.heap.size+1,0,none⟩) rfl _).setCell (p:=⟨w.heap.size+1,1,none⟩) rfl _).setCell (p:=⟨w.heap.size+1,2,none⟩) rfl _).setCell (p:=⟨w.heap.size+1,3,none⟩) rfl _).setCell (p:=⟨w.heap.size+1,4,none⟩) rfl _).setCell (p:=⟨w.heap.size+1,5,none⟩) rfl _)
   have HRV:=qh (show SOut (w.heap.size+1) ((.slice ad l.length cap)) ((.slice sd st.length sap)) sc d p n V from by rw [←hV];exact ((HR5.o.set0 (x:=(.slice ad l.length cap))).set1 (x:=(.slice sd st.length sap)) (r:=sc)).set3 (d':=d) (p':=p) (n':=n));have HBV:=qh (Chg.a0j HB5.o hset HB5.o.size (fun b h=>by have h9:b=w.heap.size+1:=h;omega));refine trd 3 fun K hK=>?_;go_simp;refine hK.out _ _ (by (try rw [hV]);exact hS1.a0c hset (fun h=>by have h9:w.heap.size=w.heap.size+1:=h;omega)) (fun hS2=>?_);clear hK K
   try rw [hV]at hS2⊢
   clear r0 r1 r2 r3 r4 r5 r6 f0 f1 f2 f3 f4 f5
   try simp only [qA,qB,qC,Act.put,qD,qE,qF]
   refine tk2 4 hS2 ?_;refine wpAnyH_done kZ ?_ _;go_wp2
   try rw [hV]
   clear hset hV;obtain⟨q0,q1,q2,q3,q4,q5,q6⟩:=HRV.o.1;refine bodyPost_ret (v:=.tuple #[a1d ((.slice ad l.length cap)) ((.slice sd st.length sap)) sc d p n,.string (S (P.fmt (k:Int)))]) (by simp [results,Tryz.results95,go_sem,q0,q1,q2,q3,q4,q5]) rfl ⟨(.slice ad l.length cap),(.slice sd st.length sap),by rw [HP.o]<;>rfl,by rw [HP.o];exact .inl ⟨rfl,rfl⟩,by rw [HP.o];exact .inl ⟨rfl,rfl⟩,HBV.o⟩
 have HP:=qh (HP5.o.trans (if_neg h6))
 have f6:=P.beqN h6
 clear HP5 h6
 obtain⟨⟨o0,o1,o2,o3,o4,o5,o6⟩,_⟩:=HX1.o
 obtain⟨⟨r0,r1,r2,r3,r4,r5,r6⟩,f0,f1,f2,f3,f4,f5⟩:=HR1.o
 obtain⟨V,hV⟩:∃v,((((((w1.setCell ⟨w.heap.size+1,0,none⟩ ((.slice ad l.length cap))).setCell ⟨w.heap.size+1,1,none⟩ ((.slice sd st.length sap))).setCell ⟨w.heap.size+1,2,none⟩ (.string (S sc))).setCell ⟨w.heap.size+1,3,none⟩ (.string (S d))).setCell ⟨w.heap.size+1,4,none⟩ (.string (S p))).setCell ⟨w.heap.size+1,5,none⟩ (.int .i64 n))=v:=⟨_,rfl⟩
 have hset:Chg (fun b=>b=w.heap.size+1) w1 V:=by rw [←hV];exact (((((((Chg.refl (fun b=>b=w.heap.size+1) w1).setCell (p:=⟨w.heap.size+1,0,none⟩) rfl _).setCell (p:=⟨w.heap.size+1,1,none⟩) rfl _).setCell (p:=⟨w.heap.size+1,2,none⟩) rfl _).setCell (p:=⟨w.heap.size+1,3,none⟩) rfl _).setCell (p:=⟨w.heap.size+1,4,none⟩) rfl _).setCell (p:=⟨w.heap.size+1,5,none⟩) rfl _)
 have HRV:=qh (show SOut (w.heap.size+1) ((.slice ad l.length cap)) ((.slice sd st.length sap)) sc d p n V from by rw [←hV];exact ((HR1.o.set0 (x:=(.slice ad l.length cap))).set1 (x:=(.slice sd st.length sap)) (r:=sc)).set3 (d':=d) (p':=p) (n':=n))
 have HBV:=qh (Chg.a0j HB1.o hset HB1.o.size (fun b h=>by have h9:b=w.heap.size+1:=h;omega))
 go_wp2
 try rw [hV]
 clear hset hV
 obtain⟨q0,q1,q2,q3,q4,q5,q6⟩:=HRV.o.1
 refine bodyPost_ret (v:=.tuple #[a1d ((.slice ad l.length cap)) ((.slice sd st.length sap)) sc d p n,.string (S [63])]) (by simp [results,Tryz.results95,go_sem,q0,q1,q2,q3,q4,q5]) rfl ⟨(.slice ad l.length cap),(.slice sd st.length sap),by rw [HP.o]<;>rfl,by rw [HP.o];exact .inl ⟨rfl,rfl⟩,by rw [HP.o];exact .inl ⟨rfl,rfl⟩,HBV.o⟩
end Go.Proofs.YtggfdnopminemaaGreatDoor
