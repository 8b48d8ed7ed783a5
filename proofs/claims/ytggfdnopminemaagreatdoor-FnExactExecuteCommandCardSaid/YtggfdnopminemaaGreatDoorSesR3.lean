/- Walks: commands without arguments (reference). -/
import Derived.Test.YtggfdnopminemaaGreatDoorZt
import Derived.Test.YtggfdnopminemaaGreatDoorSesB1
import Derived.Test.YtggfdnopminemaaGreatDoorSesE1
namespace Go.Proofs.YtggfdnopminemaaGreatDoor
open Go Go.RowKit
set_option maxHeartbeats 8000000
set_option maxRecDepth 100000
theorem d6o (u us:Value) (l:P.Dic) (st:List Int) (sc d p:Str) (n:Int) (word:Str) (w:World) (hu:EntR w u l) (hus:IntR w us st) (hm:Small l) (ht:P.trans l (st,sc)=true) :
 Calls Tryz.prog 166 #[a1e u us sc d p n,.string (S word)] w (b1u u us (l,(st,sc)) (P.alone (l,(st,sc)) word) (d,p,n) w):=by
 have hu0:=hu;have hus0:=hus
 obtain⟨ad,cap,rfl,_,_⟩:=hu0
 obtain⟨sd,sap,rfl,_,_⟩:=hus0
 obtain⟨W0,hW0⟩:∃v,(w.alloc (a0d (.slice ad l.length cap) (.slice sd st.length sap) sc d p n)).alloc (a0d (.slice none 0 0) (.slice none 0 0) [] [] [] 0)=v:=⟨_,rfl⟩
 have hb0:Below w.heap.size w W0:=by rw [←hW0];exact ((Below.refl w.heap.size w).alloc lZ _).alloc sZ _
 have hz0:W0.heap.size=w.heap.size+2:=by rw [←hW0];simp
 have hsx:SOut w.heap.size (.slice ad l.length cap) (.slice sd st.length sap) sc d p n W0:=by
  exact zq24
 have hsr:SOut (w.heap.size+1) (.slice none 0 0) (.slice none 0 0) [] [] [] 0 W0:=by
  exact zq21
 have HU:=qh hu;have HUS:=qh hus
 have HX:=qh hsx;have HR:=qh hsr;have HB:=qh hb0
 have HT:=qh ht
 have hs60:=(P.a1h ht).1
 try simp only at hs60
 clear hsx hsr hb0 ht hu hus
 have HP0:=qh (show P.alone (l,(st,sc)) word=if word=P.d8x then P.typed (l,(st,sc)) [1024] else if word=P.c4b then ((l,(st,sc)),some sc) else if word=P.d0m then ((l,(st,sc)),some (P.num st.length)) else if word=P.c3s then ((l,(st,sc)),some ((P.num (P.segA l st).length++[32])++P.num (P.blank (P.segA l st)))) else ((l,(st,sc)),none) from rfl)
 have hz1:w.heap.size+2≤W0.heap.size:=by omega
 clear hz0
 by_cases h1:word=[117,110,100,111]
 ·have HP:=qh (HP0.o.trans (if_pos h1));have f1:=P.beqB h1;have hba:=(Below.refl W0.heap.size W0).alloc lZ (.cells #[.int .i64 1024] 3);have HX1:=qh (HX.o.below hba);have HR1:=qh (HR.o.below hba);have HB1:=bt HB hba;have HO:=qh (b8i 1024 W0);have hz2:w.heap.size+2≤(W0.alloc (.cells #[.int .i64 1024] 3)).heap.size:=Nat.le_trans hz1 hba.size;clear h1 hba HP0
  go_enter Tryz.func166,Tryz.ntmps166
  go_upto_region 1 with fail
  try rw [hW0]
  clear hW0;obtain⟨⟨o0,o1,o2,o3,o4,o5,o6⟩,_⟩:=HX.o
  go_wp2_with fail
  refine (c2w _ _ _ l st [1024] sc d p n _ (HU.o.below HB1.o) (HUS.o.below HB1.o) HO.o hm HT.o).mono ?_;rintro e x2 ⟨nu,nus,rfl,hfe,hfi,hb⟩;have HEN:=qh (hfe.read (HU.o.below HB1.o) hb);have HIN:=qh (hfi.read (HUS.o.below HB1.o) hb);obtain⟨⟨⟨l2,⟨st2,sc2⟩⟩,rep⟩,ha⟩:∃a,P.typed (l,(st,sc)) [1024]=a:=⟨_,rfl⟩;rw [ha]at HP hfe hfi HEN HIN⊢;simp only at hfe hfi HEN HIN⊢;clear ha;obtain⟨na,nc,rfl,_,_⟩:=id HEN.o;obtain⟨ma,mc,rfl,_,_⟩:=id HIN.o;have HR9:=qh (HR1.o.below hb);have HB9:=bt HB1 hb;have HFE:=qh hfe;have HFI:=qh hfi;clear hb hfe hfi;obtain⟨⟨r0,r1,r2,r3,r4,r5,r6⟩,f0,f1,f2,f3,f4,f5⟩:=HR9.o;obtain⟨V,hV⟩:∃v,((((((x2.setCell ⟨w.heap.size+1,0,none⟩ (.slice na l2.length nc)).setCell ⟨w.heap.size+1,1,none⟩ (.slice ma st2.length mc)).setCell ⟨w.heap.size+1,2,none⟩ (.string (S sc2))).setCell ⟨w.heap.size+1,3,none⟩ (.string (S d))).setCell ⟨w.heap.size+1,4,none⟩ (.string (S p))).setCell ⟨w.heap.size+1,5,none⟩ (.int .i64 n))=v:=⟨_,rfl⟩;have hset:Chg (fun b=>b=w.heap.size+1) x2 V:=by rw [←hV];exact (((((((Chg.refl (fun b=>b=w.heap.size+1) x2).setCell (p:=⟨w.heap.size+1,0,none⟩) rfl _).setCell (p:=⟨w.heap.size+1,1,none⟩) rfl _).setCell (p:=⟨w.heap.size+1,2,none⟩) rfl _).setCell (p:=⟨w.heap.size+1,3,none⟩) rfl _).setCell (p:=⟨w.heap.size+1,4,none⟩) rfl _).setCell (p:=⟨w.heap.size+1,5,none⟩) rfl _)
  have HRV:=qh (show SOut (w.heap.size+1) (.slice na l2.length nc) (.slice ma st2.length mc) sc2 d p n V from by rw [←hV];exact ((HR9.o.set0 (x:=.slice na l2.length nc)).set1 (x:=.slice ma st2.length mc) (r:=sc2)).set3 (d':=d) (p':=p) (n':=n));have HBV:=qh (Chg.a0k HB9.o hset HB9.o.size (fun b h=>by have h9:b=w.heap.size+1:=h;omega));have HFE2:=qh (HFE.o.after (w:=w) oZ hset (fun b h=>by have h9:b=w.heap.size+1:=h;omega));have HFI2:=qh (HFI.o.after (w:=w) oZ hset (fun b h=>by have h9:b=w.heap.size+1:=h;omega));go_wp2
  try rw [hV]
  clear hset hV;obtain⟨q0,q1,q2,q3,q4,q5,q6⟩:=HRV.o.1;refine bodyPost_ret (v:=.tuple #[a1e (.slice na l2.length nc) (.slice ma st2.length mc) sc2 d p n,.string (S (txtB rep))]) (by simp [results,Tryz.results166,go_sem,q0,q1,q2,q3,q4,q5]) rfl ⟨.slice na l2.length nc,.slice ma st2.length mc,by rw [HP.o],by rw [HP.o];exact HFE2.o,by rw [HP.o];exact HFI2.o,HBV.o⟩
 have HP1:=qh (HP0.o.trans (if_neg h1))
 have f1:=P.beqN h1
 clear HP0 h1
 by_cases h2:word=[115,99,114,101,101,110]
 ·have HP:=qh (HP1.o.trans (if_pos h2));have f2:=P.beqB h2;clear h2 HP1
  go_enter Tryz.func166,Tryz.ntmps166
  go_upto_region 1 with fail
  try rw [hW0]
  clear hW0;have HXD:=qh (HX.o.below bZ.drew);have HRD2:=qh (HR.o.below bZ.drew);have HBD:=qh (HB.o.trans (bZ.drew.mono HB.o.size))
  go_upto_region 5 with fail
  refine wp_region_held_drew (S:=SOut w.heap.size (.slice ad l.length cap) (.slice sd st.length sap) sc d p n) kZ HXD.o (fun hS0=>?_);generalize W0.drew=y0 at *;refine tk2 0 hS0 ?_;refine tk2 1 hS0 ?_;refine tk2 2 hS0 ?_;refine tk2 3 hS0 ?_;have HR5:=qh HRD2.o;have HB5:=qh HBD.o;have hS1:=hS0;obtain⟨⟨r0,r1,r2,r3,r4,r5,r6⟩,f0,f1,f2,f3,f4,f5⟩:=HR5.o;obtain⟨V,hV⟩:∃v,((((((y0.setCell ⟨w.heap.size+1,0,none⟩ ((.slice ad l.length cap))).setCell ⟨w.heap.size+1,1,none⟩ ((.slice sd st.length sap))).setCell ⟨w.heap.size+1,2,none⟩ (.string (S sc))).setCell ⟨w.heap.size+1,3,none⟩ (.string (S d))).setCell ⟨w.heap.size+1,4,none⟩ (.string (S p))).setCell ⟨w.heap.size+1,5,none⟩ (.int .i64 n))=v:=⟨_,rfl⟩;have hset:Chg (fun b=>b=w.heap.size+1) y0 V:=by rw [←hV];exact (((((((Chg.refl (fun b=>b=w.heap.size+1) y0).setCell (p:=⟨w.heap.size+1,0,none⟩) rfl _).setCell (p:=⟨w.heap.size+1,1,none⟩) rfl _).setCell (p:=⟨w.heap.size+1,2,none⟩) rfl _).setCell (p:=⟨w.heap.size+1,3,none⟩) rfl _).setCell (p:=⟨w.heap.size+1,4,none⟩) rfl _).setCell (p:=⟨w.heap.size+1,5,none⟩) rfl _)
  have HRV:=qh (show SOut (w.heap.size+1) ((.slice ad l.length cap)) ((.slice sd st.length sap)) sc d p n V from by rw [←hV];exact ((HR5.o.set0 (x:=(.slice ad l.length cap))).set1 (x:=(.slice sd st.length sap)) (r:=sc)).set3 (d':=d) (p':=p) (n':=n));have HBV:=qh (Chg.a0k HB5.o hset HB5.o.size (fun b h=>by have h9:b=w.heap.size+1:=h;omega));refine trd 4 fun K hK=>?_;go_simp;refine hK.out _ _ (by (try rw [hV]);exact hS1.a0e hset (fun h=>by have h9:w.heap.size=w.heap.size+1:=h;omega)) (fun hS2=>?_);clear hK K
  try rw [hV]at hS2⊢
  clear r0 r1 r2 r3 r4 r5 r6 f0 f1 f2 f3 f4 f5
  try simp only [qA,qB,qC,Act.put,qD,qE,qF]
  refine tk2 5 hS2 ?_;refine wpAnyH_done kZ ?_ _;go_wp2
  try rw [hV]
  clear hset hV;obtain⟨q0,q1,q2,q3,q4,q5,q6⟩:=HRV.o.1;refine bodyPost_ret (v:=.tuple #[a1e ((.slice ad l.length cap)) ((.slice sd st.length sap)) sc d p n,.string (S sc)]) (by simp [results,Tryz.results166,go_sem,q0,q1,q2,q3,q4,q5]) rfl ⟨(.slice ad l.length cap),(.slice sd st.length sap),by rw [HP.o]<;>rfl,by rw [HP.o];exact .inl ⟨rfl,rfl⟩,by rw [HP.o];exact .inl ⟨rfl,rfl⟩,HBV.o⟩
 have HP2:=qh (HP1.o.trans (if_neg h2))
 have f2:=P.beqN h2
 clear HP1 h2
 by_cases h3:word=[99,111,117,110,116]
 ·have HP:=qh (HP2.o.trans (if_pos h3));have f3:=P.beqB h3;clear h3 HP2
  go_enter Tryz.func166,Tryz.ntmps166
  go_upto_region 1 with fail
  try rw [hW0]
  clear hW0;have HXD:=qh (HX.o.below bZ.drew);have HRD2:=qh (HR.o.below bZ.drew);have HBD:=qh (HB.o.trans (bZ.drew.mono HB.o.size))
  go_upto_region 7 with fail
  refine wp_region_held_drew (S:=SOut w.heap.size (.slice ad l.length cap) (.slice sd st.length sap) sc d p n) kZ HXD.o (fun hS0=>?_);generalize W0.drew=y0 at *;refine tk2 0 hS0 ?_;refine tk2 1 hS0 ?_;refine tk2 2 hS0 ?_;refine tk2 3 hS0 ?_;refine tk2 4 hS0 ?_;refine trd 5 fun K hK=>?_;go_simp;refine (L.b8t (st.length:Int) _ oZ oZ).mono ?_;rintro e w' ⟨rfl,k,rfl⟩;have hb:Below y0.heap.size y0 (y0.drewN k):=below_drewN bZ _;have HR5:=qh (HRD2.o.below hb);have HB5:=bt HBD hb;refine hK.out _ _ (hS0.below hb) (fun hS1=>?_);clear hK K hb hS0;generalize y0.drewN k=y1 at *
  try simp only [qA,qB,qC,Act.put,qD,qE,qF]
  obtain⟨⟨r0,r1,r2,r3,r4,r5,r6⟩,f0,f1,f2,f3,f4,f5⟩:=HR5.o;obtain⟨V,hV⟩:∃v,((((((y1.setCell ⟨w.heap.size+1,0,none⟩ ((.slice ad l.length cap))).setCell ⟨w.heap.size+1,1,none⟩ ((.slice sd st.length sap))).setCell ⟨w.heap.size+1,2,none⟩ (.string (S sc))).setCell ⟨w.heap.size+1,3,none⟩ (.string (S d))).setCell ⟨w.heap.size+1,4,none⟩ (.string (S p))).setCell ⟨w.heap.size+1,5,none⟩ (.int .i64 n))=v:=⟨_,rfl⟩;have hset:Chg (fun b=>b=w.heap.size+1) y1 V:=by rw [←hV];exact (((((((Chg.refl (fun b=>b=w.heap.size+1) y1).setCell (p:=⟨w.heap.size+1,0,none⟩) rfl _).setCell (p:=⟨w.heap.size+1,1,none⟩) rfl _).setCell (p:=⟨w.heap.size+1,2,none⟩) rfl _).setCell (p:=⟨w.heap.size+1,3,none⟩) rfl _).setCell (p:=⟨w.heap.size+1,4,none⟩) rfl _).setCell (p:=⟨w.heap.size+1,5,none⟩) rfl _)
  have HRV:=qh (show SOut (w.heap.size+1) ((.slice ad l.length cap)) ((.slice sd st.length sap)) sc d p n V from by rw [←hV];exact ((HR5.o.set0 (x:=(.slice ad l.length cap))).set1 (x:=(.slice sd st.length sap)) (r:=sc)).set3 (d':=d) (p':=p) (n':=n));have HBV:=qh (Chg.a0k HB5.o hset HB5.o.size (fun b h=>by have h9:b=w.heap.size+1:=h;omega));refine trd 6 fun K hK=>?_;go_simp;refine hK.out _ _ (by (try rw [hV]);exact hS1.a0e hset (fun h=>by have h9:w.heap.size=w.heap.size+1:=h;omega)) (fun hS2=>?_);clear hK K
  try rw [hV]at hS2⊢
  clear r0 r1 r2 r3 r4 r5 r6 f0 f1 f2 f3 f4 f5
  try simp only [qA,qB,qC,Act.put,qD,qE,qF]
  refine tk2 7 hS2 ?_;refine wpAnyH_done kZ ?_ _;go_wp2
  try rw [hV]
  clear hset hV;obtain⟨q0,q1,q2,q3,q4,q5,q6⟩:=HRV.o.1;refine bodyPost_ret (v:=.tuple #[a1e ((.slice ad l.length cap)) ((.slice sd st.length sap)) sc d p n,.string (S (P.num st.length))]) (by simp [results,Tryz.results166,go_sem,q0,q1,q2,q3,q4,q5]) rfl ⟨(.slice ad l.length cap),(.slice sd st.length sap),by rw [HP.o]<;>rfl,by rw [HP.o];exact .inl ⟨rfl,rfl⟩,by rw [HP.o];exact .inl ⟨rfl,rfl⟩,HBV.o⟩
 have HP3:=qh (HP2.o.trans (if_neg h3))
 have f3:=P.beqN h3
 clear HP2 h3
 by_cases h4:word=[112,105,101,99,101,115]
 ·have HP:=qh (HP3.o.trans (if_pos h4));have f4:=P.beqB h4;clear h4 HP3
  go_enter Tryz.func166,Tryz.ntmps166
  go_upto_region 1 with fail
  try rw [hW0]
  clear hW0;obtain⟨⟨o0,o1,o2,o3,o4,o5,o6⟩,_⟩:=HX.o
  go_wp2_with fail
  refine (b7r _ _ l st _ (HU.o.below HB.o) (HUS.o.below HB.o) hs60).mono ?_;rintro e w1 ⟨pv,rfl,hpv,hb⟩;have HX1:=qh (HX.o.below hb);have HR1:=qh (HR.o.below hb);have HB1:=bt HB hb;have hsl:=P.b0z l st;have hbl:=P.b3j (P.segA l st);have HPV:=qh ((OwnP.read hpv oZ).below bZ.drew);obtain⟨pa,pc,rfl⟩:=OwnP.form hpv;generalize P.segA l st=ps at *;have hn1:=P.num_len ps.length oZ;have hn2:=P.num_len (P.blank ps) oZ;have m1:(P.num ps.length).length≤9223372036854775806:=by omega
  have m2:(P.num ps.length).length+1+(P.num (P.blank ps)).length≤9223372036854775807:=by omega
  clear hb hpv o0 o1 o2 o3 o4 o5 o6;have HXD:=qh (HX1.o.below bZ.drew);have HRD2:=qh (HR1.o.below bZ.drew);have HBD:=qh (HB1.o.trans (bZ.drew.mono HB1.o.size))
  go_upto_region 10 with fail
  refine wp_region_held_drew (S:=SOut w.heap.size (.slice ad l.length cap) (.slice sd st.length sap) sc d p n) kZ HXD.o (fun hS0=>?_);generalize w1.drew=y0 at *;refine tk2 0 hS0 ?_;refine tk2 1 hS0 ?_;refine tk2 2 hS0 ?_;refine tk2 5 hS0 ?_;refine trd 3 fun K hK=>?_;go_simp;refine (L.b8t (ps.length:Int) _ oZ oZ).mono ?_;rintro e w' ⟨rfl,k_2,rfl⟩;have hb:Below y0.heap.size y0 (y0.drewN k_2):=below_drewN bZ _;have HR_2:=qh (HRD2.o.below hb);have HB_2:=bt HBD hb;have HV_2:=qh (HPV.o.below hb);refine hK.out _ _ (hS0.below hb) (fun hS_2=>?_);clear hK K hb hS0;generalize y0.drewN k_2=y_2 at *
  try simp only [qA,qB,qC,Act.put,qD,qE,qF]
  refine tk2 4 (v:=.string (S (P.num ps.length++[32]))) hS_2 ?_;refine trd 6 fun K hK=>?_;go_simp;refine (c8r _ ps _ HV_2.o).mono ?_;rintro e w' ⟨rfl,rfl⟩;refine hK.out _ _ hS_2 (fun hS_4=>?_);clear hK K
  try simp only [qA,qB,qC,Act.put,qD,qE,qF]
  refine trd 7 fun K hK=>?_;go_simp;refine (L.b8t ((P.blank ps):Int) _ oZ oZ).mono ?_;rintro e w' ⟨rfl,k_6,rfl⟩;have hb:Below y_2.heap.size y_2 (y_2.drewN k_6):=below_drewN bZ _;have HR_6:=qh (HR_2.o.below hb);have HB_6:=bt HB_2 hb;have HV_6:=qh (HV_2.o.below hb);refine hK.out _ _ (hS_4.below hb) (fun hS_6=>?_);clear hK K hb hS_4;generalize y_2.drewN k_6=y_6 at *
  try simp only [qA,qB,qC,Act.put,qD,qE,qF]
  refine tk2 8 (v:=.string (S ((P.num ps.length++[32])++P.num (P.blank ps)))) hS_6 ?_;have HR5:=qh HR_6.o;have HB5:=qh HB_6.o;have hS1:=hS_6;obtain⟨⟨r0,r1,r2,r3,r4,r5,r6⟩,f0,f1,f2,f3,f4,f5⟩:=HR5.o;obtain⟨V,hV⟩:∃v,((((((y_6.setCell ⟨w.heap.size+1,0,none⟩ ((.slice ad l.length cap))).setCell ⟨w.heap.size+1,1,none⟩ ((.slice sd st.length sap))).setCell ⟨w.heap.size+1,2,none⟩ (.string (S sc))).setCell ⟨w.heap.size+1,3,none⟩ (.string (S d))).setCell ⟨w.heap.size+1,4,none⟩ (.string (S p))).setCell ⟨w.heap.size+1,5,none⟩ (.int .i64 n))=v:=⟨_,rfl⟩;have hset:Chg (fun b=>b=w.heap.size+1) y_6 V:=by rw [←hV];exact (((((((Chg.refl (fun b=>b=w.heap.size+1) y_6).setCell (p:=⟨w.heap.size+1,0,none⟩) rfl _).setCell (p:=⟨w.heap.size+1,1,none⟩) rfl _).setCell (p:=⟨w.heap.size+1,2,none⟩) rfl _).setCell (p:=⟨w.heap.size+1,3,none⟩) rfl _).setCell (p:=⟨w.heap.size+1,4,none⟩) rfl _).setCell (p:=⟨w.heap.size+1,5,none⟩) rfl _)
  have HRV:=qh (show SOut (w.heap.size+1) ((.slice ad l.length cap)) ((.slice sd st.length sap)) sc d p n V from by rw [←hV];exact ((HR5.o.set0 (x:=(.slice ad l.length cap))).set1 (x:=(.slice sd st.length sap)) (r:=sc)).set3 (d':=d) (p':=p) (n':=n));have HBV:=qh (Chg.a0k HB5.o hset HB5.o.size (fun b h=>by have h9:b=w.heap.size+1:=h;omega));refine trd 9 fun K hK=>?_;go_simp;refine hK.out _ _ (by (try rw [hV]);exact hS1.a0e hset (fun h=>by have h9:w.heap.size=w.heap.size+1:=h;omega)) (fun hS2=>?_);clear hK K
  try rw [hV]at hS2⊢
  clear r0 r1 r2 r3 r4 r5 r6 f0 f1 f2 f3 f4 f5
  try simp only [qA,qB,qC,Act.put,qD,qE,qF]
  refine tk2 10 hS2 ?_;refine wpAnyH_done kZ ?_ _;go_wp2
  try rw [hV]
  clear hset hV;obtain⟨q0,q1,q2,q3,q4,q5,q6⟩:=HRV.o.1;refine bodyPost_ret (v:=.tuple #[a1e ((.slice ad l.length cap)) ((.slice sd st.length sap)) sc d p n,.string (S ((P.num ps.length++[32])++P.num (P.blank ps)))]) (by simp [results,Tryz.results166,go_sem,q0,q1,q2,q3,q4,q5]) rfl ⟨(.slice ad l.length cap),(.slice sd st.length sap),by rw [HP.o]<;>rfl,by rw [HP.o];exact .inl ⟨rfl,rfl⟩,by rw [HP.o];exact .inl ⟨rfl,rfl⟩,HBV.o⟩
 have HP:=qh (HP3.o.trans (if_neg h4))
 have f4:=P.beqN h4
 clear HP3 h4
 go_enter Tryz.func166,Tryz.ntmps166
 go_upto_region 1 with fail
 try rw [hW0]
 clear hW0
 obtain⟨⟨o0,o1,o2,o3,o4,o5,o6⟩,_⟩:=HX.o
 obtain⟨⟨r0,r1,r2,r3,r4,r5,r6⟩,f0,f1,f2,f3,f4,f5⟩:=HR.o
 obtain⟨V,hV⟩:∃v,((((((W0.setCell ⟨w.heap.size+1,0,none⟩ ((.slice ad l.length cap))).setCell ⟨w.heap.size+1,1,none⟩ ((.slice sd st.length sap))).setCell ⟨w.heap.size+1,2,none⟩ (.string (S sc))).setCell ⟨w.heap.size+1,3,none⟩ (.string (S d))).setCell ⟨w.heap.size+1,4,none⟩ (.string (S p))).setCell ⟨w.heap.size+1,5,none⟩ (.int .i64 n))=v:=⟨_,rfl⟩
 have hset:Chg (fun b=>b=w.heap.size+1) W0 V:=by rw [←hV];exact (((((((Chg.refl (fun b=>b=w.heap.size+1) W0).setCell (p:=⟨w.heap.size+1,0,none⟩) rfl _).setCell (p:=⟨w.heap.size+1,1,none⟩) rfl _).setCell (p:=⟨w.heap.size+1,2,none⟩) rfl _).setCell (p:=⟨w.heap.size+1,3,none⟩) rfl _).setCell (p:=⟨w.heap.size+1,4,none⟩) rfl _).setCell (p:=⟨w.heap.size+1,5,none⟩) rfl _)
 have HRV:=qh (show SOut (w.heap.size+1) ((.slice ad l.length cap)) ((.slice sd st.length sap)) sc d p n V from by rw [←hV];exact ((HR.o.set0 (x:=(.slice ad l.length cap))).set1 (x:=(.slice sd st.length sap)) (r:=sc)).set3 (d':=d) (p':=p) (n':=n))
 have HBV:=qh (Chg.a0k HB.o hset HB.o.size (fun b h=>by have h9:b=w.heap.size+1:=h;omega))
 go_wp2
 try rw [hV]
 clear hset hV
 obtain⟨q0,q1,q2,q3,q4,q5,q6⟩:=HRV.o.1
 refine bodyPost_ret (v:=.tuple #[a1e ((.slice ad l.length cap)) ((.slice sd st.length sap)) sc d p n,.string (S [63])]) (by simp [results,Tryz.results166,go_sem,q0,q1,q2,q3,q4,q5]) rfl ⟨(.slice ad l.length cap),(.slice sd st.length sap),by rw [HP.o]<;>rfl,by rw [HP.o];exact .inl ⟨rfl,rfl⟩,by rw [HP.o];exact .inl ⟨rfl,rfl⟩,HBV.o⟩
namespace P
def revJ (its:List (Value×List Int)):Bs:=Go.Lib.join (its.map fun it=>fmtS 47 it.2) [32]
theorem d9s {o:List Int} (h:a0l o=true):fmtS 47 o≠[]:=by
 cases o with
 |nil=>exact absurd h dZ
 |cons k r=>
  have hk:a0p k=true:=by
   unfold a0l at h;simp only [Bool.and_eq_true,List.all_cons]at h;exact h.2.1
  obtain⟨m,rfl⟩:∃m:Nat,k=(m:Int):=by
   unfold a0p at hk;simp only [decide_eq_true_eq]at hk;exact⟨k.toNat,by omega⟩
  intro e;unfold fmtS at e;rw [List.map_cons,Go.Lib.join_cons]at e;exact d7b hk (List.append_eq_nil_iff.1 e).1
end P
theorem P.d6l (it:Value×List Int):P.revJ [it]=P.fmtS 47 it.2:=Go.Lib.join_one _ _
theorem P.d1r (l:List (Value×List Int)) (it:Value×List Int) (h:l≠[]):P.revJ (l++[it])=P.revJ l++[32]++P.fmtS 47 it.2:=by
 unfold P.revJ;rw [List.map_append];exact P.b9k _ _ _ (by simpa using h)
theorem P.d5x {l:List (Value×List Int)} (h:∀it∈l,P.a0l it.2=true) (hl:l.length≤40):(P.revJ l).length≤12000:=by
 have h1:=P.b8h (l.map fun it=>P.fmtS 47 it.2) 32 282 (fun x hx=>by
  obtain⟨it,hi,rfl⟩:=List.mem_map.1 hx;have h2:=P.a8j 47 it.2;have h3:=(P.a1n (h it hi)).2;omega)
 rw [List.length_map]at h1;have:l.length*(282+1)≤40*283:=Nat.mul_le_mul_right _ hl;unfold P.revJ;omega
theorem P.d8s {l:List (Value×List Int)} (h:∀it∈l,P.a0l it.2=true) (hl:l≠[]):P.revJ l≠[]:=by
 cases l with
 |nil=>exact absurd rfl hl
 |cons it r=>
  intro e;unfold P.revJ at e;rw [List.map_cons,Go.Lib.join_cons]at e;exact P.d9s (h it sZ) (List.append_eq_nil_iff.1 e).1
theorem P.d1p (d:P.Dic) (t:Str) (its:List (Value×List Int)) (h:its.map (·.2)=P.a1w t d):(P.revJ its).map P.hash=Go.Lib.join (P.a6y t d) [32]:=by
 unfold P.revJ P.a6y;rw [P.b8a,←h,List.map_map,List.map_map];rfl
def BInv (g:Nat) (x:Str) (i:Nat) (v:World):Prop:=g<v.heap.size∧∀(j:Nat) (h:j<x.length),v.cell? ⟨g,j,none⟩=some (.int .u8 (((if j<i then P.hash x[j] else x[j]).toNat:Nat):Int))∧v.frozen? ⟨g,j,none⟩=false
theorem BInv.step {g:Nat} {x:Str} {i:Nat} {v:World} (h:BInv g x i v) (hi:i<x.length) (he:x[i]≠35):BInv g x (i+1) v:=by
 refine⟨h.1,fun j hj=>⟨?_,(h.2 j hj).2⟩⟩;rw [(h.2 j hj).1]
 by_cases hji:j=i
 ·subst hji;rw [if_neg (Nat.lt_irrefl _),if_pos (Nat.lt_succ_self _)];unfold P.hash;rw [if_neg he]
 ·by_cases h1:j<i
  ·rw [if_pos h1,if_pos oZ]
  ·rw [if_neg h1,if_neg oZ]
theorem BInv.put {g:Nat} {x:Str} {i:Nat} {v:World} (h:BInv g x i v) (hi:i<x.length) (he:x[i]=35):BInv g x (i+1) (v.setCell ⟨g,i,none⟩ (.int .u8 61)):=by
 refine⟨by simpa [World.setCell] using h.1,fun j hj=>?_⟩;obtain⟨h1,h2⟩:=h.2 j hj;refine⟨?_,by go_simp⟩
 by_cases hji:j=i
 ·subst hji;rw [World.cell?_setCell_same _ _ _ h1,if_pos (Nat.lt_succ_self _)];unfold P.hash;rw [if_pos he];rfl
 ·rw [World.cell?_setCell_other _ _ _ _ (by intro e';injection e';omega),h1]
  by_cases h3:j<i
  ·rw [if_pos h3,if_pos oZ]
  ·rw [if_neg h3,if_neg oZ]
theorem c8d (dv:Value) (l:P.Dic) (t:Str) (w:World) (hu:EntR w dv l) (hm:Small l) (hdc:P.dic l=true) :
 Calls Tryz.prog 172 #[.agg #[dv],.string (S t)] w fun e w'=>e=.returned (.string (S (P.revT l t)))∧Below w.heap.size w w':=by
 have hb0:=(Below.refl w.heap.size w).alloc lZ (.cells #[dv] 26)
 have HU:=qh (hu.below hb0);have HB0:=qh hb0;have HBX:=qh (Box1.new dv 26 w);have HDC:=qh hdc
 have HOO:=qh (P.a8t (t:=t) hdc)
 have hl40:=Nat.le_trans (P.a8h t l) (P.b3t hdc)
 have HRT:=qh (P.d2h l t)
 obtain⟨ad,cap,rfl,_,_⟩:=hu
 clear hb0 hdc
 go_enter Tryz.func172,Tryz.ntmps172
 go_upto_region 1 with fail
 generalize w.alloc (.cells #[.slice ad l.length cap] 26)=v0 at *
 obtain⟨b0,bz⟩:=HBX.o
 go_wp2_with fail
 refine (b0k _ l t _ HU.o hm).mono ?_
 rintro e w1 ⟨x,its,B1,rfl,hmap,hI⟩
 rw [HDC.o,if_pos rfl]at hmap
 rw [HDC.o]
 obtain⟨xa,xc,rfl⟩:=hI.form
 have HI0:=qh hI
 have HM:=qh (show its.map (·.2)=P.a1w t l from hmap)
 have hil:its.length≤40:=by have h1:=congrArg List.length hmap;rw [List.length_map]at h1;omega
 have HOI:=qh (show ∀it∈its,P.a0l it.2=true from fun it hi=>HOO.o it.2 (by rw [←hmap];exact List.mem_map_of_mem hi))
 have HLN:=qh (show its.length=(P.a1w t l).length from by rw [←hmap,List.length_map])
 clear hmap hI b0 bz
 go_wp2
 go_loopw [7,8] (fun s i wr=>∃k:Nat,k≤its.length∧i=.int .i64 k∧s=.string (S (P.revJ (its.take k)))∧RevI v0 B1 (.slice xa its.length xc) its wr) (fun _ i _=>its.length-(intOf i).toNat)
 case atStart=>exact⟨0,Nat.zero_le _,rfl,rfl,HI0.o⟩
 case round=>
  obtain⟨k,hk,rfl,rfl,hI⟩:=hrel;have HI:=qh hI;clear HI0;have hrl:=P.d5x (l:=its.take k) (fun it hi=>HOI.o it (List.mem_of_mem_take hi)) (by rw [List.length_take];omega)
  by_cases hlt:k<its.length
  ·obtain⟨g,hga,hgB,hgl,c0⟩:=hI.at k hlt;subst hga;have i1:(k:Int)<(its.length:Int):=by omega
   have hok:=hI.els its[k] (List.getElem_mem hlt);have HOL:=qh (HOI.o its[k] (List.getElem_mem hlt));have htk:(its.take k).length=k:=by rw [List.length_take];omega
   have HS1:=qh (show k=0→P.revJ (its.take (k+1))=P.revJ (its.take k)++P.fmtS 47 its[k].2 from fun h=>by subst h;rw [a0f its 0 hlt];exact P.d6l _);have HS2:=qh (show k≠0→P.revJ (its.take (k+1))=P.revJ (its.take k)++[32]++P.fmtS 47 its[k].2 from fun h=>by rw [a0f its k hlt];exact P.d1r _ _ (fun e=>by rw [e]at htk;simp at htk;omega));generalize its[k]=it at *;obtain⟨y,o⟩:=it;simp only at hok HOL c0 HS1 HS2;have h6:=(P.a1n HOL.o).2;have hfs:=P.a8j 47 o;obtain⟨ya,yc,rfl⟩:=a0i hok;have HK:=qh (a1y hok oZ);clear hok hI htk;generalize P.revJ (its.take k)=ff at *
   by_cases hk0:k=0
   ·have HSN:=qh (HS1.o hk0);have i2:¬(0:Int)<(k:Int):=by omega
    clear HS1 HS2 hk0
    go_wp2_with fail
    refine (c6v _ o _ HK.o HOL.o).mono ?_;rintro e w2 ⟨rfl,hb⟩;have HI2:=qh (HI.o.below hb);clear hb c0 HI;generalize P.fmtS 47 o=fm at *;have j1:¬9223372036854775807<ff.length+fm.length:=by omega
    go_wp2
    go_roundw
    case rel=>exact⟨k+1,by omega,by go_num,by rw [HSN.o],HI2.o⟩
    case measure=>simp [intOf];omega
   ·have HSN:=qh (HS2.o hk0);have i2:(0:Int)<(k:Int):=by omega
    have j0:¬9223372036854775807<ff.length+1:=by omega
    clear HS1 HS2 hk0
    go_wp2_with fail
    refine (c6v _ o _ HK.o HOL.o).mono ?_;rintro e w2 ⟨rfl,hb⟩;have HI2:=qh (HI.o.below hb);clear hb c0 HI;generalize P.fmtS 47 o=fm at *;have j1:¬9223372036854775807<ff.length+1+fm.length:=by omega
    go_wp2
    go_roundw
    case rel=>exact⟨k+1,by omega,by go_num,by rw [HSN.o];simp,HI2.o⟩
    case measure=>simp [intOf];omega
  ·have hkl:k=its.length:=by omega
   subst hkl;have hTL:its.take its.length=its:=List.take_length;rw [hTL]at hrl⊢;have HB1:=qh (HB0.o.trans (HI.o.bel.mono HB0.o.size));clear hI hTL HI
   by_cases h0:its=[]
   ·have HP:=qh (show P.revT l t=[110,111,110,101] from by rw [HRT.o,if_pos (List.eq_nil_of_length_eq_zero (by rw [←HLN.o,h0];rfl))];rfl);have hx:P.revJ its=[]:=by rw [h0];rfl
    rw [hx];clear hx h0 hrl;go_wp2;go_ret;exact⟨by rw [HP.o];rfl,HB1.o⟩
   ·have HP:=qh (show P.revT l t=(P.revJ its).map P.hash from by rw [HRT.o,if_neg (fun h=>h0 (List.eq_nil_of_length_eq_zero (by rw [HLN.o,h];rfl))),P.d1p l t its HM.o]);have hne:=P.d8s HOI.o h0;obtain⟨x,hx⟩:∃x,P.revJ its=x:=⟨_,rfl⟩;rw [hx]at HP hne hrl⊢
    have f1:x.isEmpty=false:=by cases x with
     |nil=>exact absurd rfl hne
     |cons _ _=>rfl
    have f2:(x==[])=false:=by simpa using hne
    clear hx h0 hne HM HOI HLN HRT HOO
    go_wp2_with fail
    obtain⟨cap2,w3,hconv,hcell,hfz,hb3,hz3⟩:=L.c8n x wr;rw [hconv];have HB3:=bt HB1 hb3;have HI3:=qh (show BInv wr.heap.size x 0 w3 from⟨hz3,fun j hj=>⟨by rw [hcell j hj,if_neg (Nat.not_lt_zero _)],hfz j hj⟩⟩);have hwz:=HB1.o.size;generalize wr.heap.size=g at *;clear hconv hcell hfz hb3 hz3;go_wp2
    go_loopw [10] (fun i wx=>∃k:Nat,k≤x.length∧i=.int .i64 k∧BInv g x k wx∧Below w.heap.size w wx) (fun i _=>x.length-(intOf i).toNat)
    case atStart=>exact⟨0,Nat.zero_le _,rfl,HI3.o,HB3.o⟩
    case round=>
     obtain⟨k,hk,rfl,hi,hb⟩:=hrel;have HI:=qh hi;have HB:=qh hb;clear HI3 HB3 hb
     by_cases hlt:k<x.length
     ·obtain⟨c0,z0⟩:=hi.2 k hlt;rw [if_neg (Nat.lt_irrefl _)]at c0;have i1:(k:Int)<(x.length:Int):=by omega
      by_cases he:x[k]=35
      ·have f3:(((x[k].toNat:Nat):Int)==35)=true:=by rw [he];rfl
       have HN:=qh (HI.o.put hlt he);clear hi he;go_wp2
       go_roundw
       case rel=>exact⟨k+1,by omega,by go_num,HN.o,HB.o.setCell (by show w.heap.size≤g;omega) _⟩
       case measure=>simp [intOf];omega
      ·have f3:(((x[k].toNat:Nat):Int)==35)=false:=c7e (b:=35) he;have HN:=qh (HI.o.step hlt he);clear hi he;go_wp2
       go_roundw
       case rel=>exact⟨k+1,by omega,by go_num,HN.o,HB.o⟩
       case measure=>simp [intOf];omega
     ·have hkx:k=x.length:=by omega
      subst hkx
      have hback:=run_convert_bytes_back (P:=Tryz.prog) wr 22 9 5 ⟨g,0,none⟩ cap2 (x.map P.hash) Tryz.underlying22 Tryz.underlying5 Tryz.underlying9 (by
       intro j hj
       have hjl:j<x.length:=by simpa using hj
       rw [List.getElem_map,add0,(hi.2 j hjl).1,if_pos hjl])
      rw [List.length_map]at hback;clear hi;go_wp2;go_ret;exact⟨by rw [HP.o];rfl,HB.o⟩
end Go.Proofs.YtggfdnopminemaaGreatDoor
namespace Go.Proofs.YtggfdnopminemaaGreatDoor
open Go Go.RowKit
set_option maxHeartbeats 8000000
set_option maxRecDepth 100000
namespace P
theorem two_of {l:List Bs} (h:l.length=2):∃a b,l=[a,b]:=by
 match l,h with
 |[a,b],_=>exact⟨a,b,rfl⟩
theorem c8i {more a b:Bs} (h:split 32 more=[a,b]):a0w more=optB (a1x a b):=by unfold a0w;rw [h]
theorem d2z {more:Bs} (h:(split 32 more).length≠2):a0w more=none:=by
 unfold a0w
 split
 ·rename_i hs;rw [hs]at h;exact absurd rfl h
 ·rfl
end P
theorem l25Run (u us:Value) (l:P.Dic) (st:List Int) (sc d p:Str) (n:Int) (line:Str) (w:World) (hu:EntR w u l) (hus:IntR w us st) (hm:Small l) (ht:P.trans l (st,sc)=true) (hl:line.length≤2^20) :
 Calls Tryz.prog 95 #[a1e u us sc d p n,.string (S line)] w (b1u u us (l,(st,sc)) (P.cmd (l,(st,sc)) line) (d,p,n) w):=by
 have hu0:=hu;have hus0:=hus
 obtain⟨ad,cap,rfl,_,_⟩:=hu0
 obtain⟨sd,sap,rfl,_,_⟩:=hus0
 obtain⟨W0,hW0⟩:∃v,(w.alloc (a0d (.slice ad l.length cap) (.slice sd st.length sap) sc d p n)).alloc (a0d (.slice none 0 0) (.slice none 0 0) [] [] [] 0)=v:=⟨_,rfl⟩
 have hb0:Below w.heap.size w W0:=by rw [←hW0];exact ((Below.refl w.heap.size w).alloc lZ _).alloc sZ _
 have hz0:W0.heap.size=w.heap.size+2:=by rw [←hW0];simp
 have hsx:SOut w.heap.size (.slice ad l.length cap) (.slice sd st.length sap) sc d p n W0:=by
  exact zq24
 have hsr:SOut (w.heap.size+1) (.slice none 0 0) (.slice none 0 0) [] [] [] 0 W0:=by
  exact zq21
 have HU:=qh hu;have HUS:=qh hus
 have HX:=qh hsx;have HR:=qh hsr;have HB:=qh hb0
 have HT:=qh ht
 have hs60:=(P.a1h ht).1
 try simp only at hs60
 clear hsx hsr hb0 ht hu hus
 have HNE:=qh (List.length_pos_iff.2 (P.a2p 32 line));have HG:=qh (P.c6b (c:=32) (s:=line));have hhl:=P.b0v 32 line
 have HCM:=qh (show P.cmd (l,(st,sc)) line=if (P.head 32 line).length=line.length then P.alone (l,(st,sc)) (P.head 32 line) else P.args (l,(st,sc)) (P.head 32 line) (line.drop ((P.head 32 line).length+1)) from rfl)
 go_enter Tryz.func95,Tryz.ntmps95
 go_upto_region 1 with fail
 try rw [hW0]
 clear hW0
 go_wp2_with fail
 refine (a4c line 32 _ oZ).mono ?_
 rintro e w1 ⟨v,rfl,hst0,hb⟩
 obtain⟨g,gc,rfl,hg,hst⟩:=a8a hst0 (List.length_pos_iff.1 HNE.o)
 have c0:=hst.2 0 HNE.o
 rw [HG.o HNE.o]at c0
 have HX1:=qh (HX.o.below hb);have HR1:=qh (HR.o.below hb);have HB1:=bt HB hb
 have hz1:w.heap.size+2≤w1.heap.size:=by have:=hb.size;omega
 have i1:(0:Int)<((P.split 32 line).length:Int):=by have:=HNE.o;omega
 clear hst0 hst hb HX HR HB HG HNE
 generalize (P.split 32 line).length=sl at *
 generalize P.head 32 line=word at *
 by_cases hw:word.length=line.length
 ·have HP:=qh (HCM.o.trans (if_pos hw));have i2:((word.length:Int)==(line.length:Int))=true:=by rw [hw];simp
  clear HCM;obtain⟨⟨o0,o1,o2,o3,o4,o5,o6⟩,_⟩:=HX1.o
  go_wp2_with fail
  refine (d6o _ _ l st sc d p n word _ (HU.o.below HB1.o) (HUS.o.below HB1.o) hm HT.o).mono ?_;rintro e x2 ⟨nu,nus,rfl,hfe,hfi,hb⟩;have HEN:=qh (hfe.read (HU.o.below HB1.o) hb);have HIN:=qh (hfi.read (HUS.o.below HB1.o) hb);obtain⟨⟨⟨l2,⟨st2,sc2⟩⟩,rep⟩,ha⟩:∃a,P.alone (l,(st,sc)) word=a:=⟨_,rfl⟩;exact zq171
 have i2:((word.length:Int)==(line.length:Int))=false:=by rw [beq_eq_false_iff_ne];omega
 obtain⟨more,hmore⟩:∃m,line.drop (word.length+1)=m:=⟨_,rfl⟩
 have hml:more.length≤2^20:=by rw [←hmore,List.length_drop];omega
 have HP0:=qh (show P.cmd (l,(st,sc)) line=if word=P.d2x then P.a4v (l,(st,sc)) more else if word=P.c8k∨word=P.b1y∨word=P.c3t then P.a5k (l,(st,sc)) word more else if word=P.c3v then P.a1i (l,(st,sc)) more else if word=P.b8x then ((l,(st,sc)),P.a5d l more) else if word=P.d7x then ((l,(st,sc)),P.a0w more) else if word=P.d1t then ((l,(st,sc)),P.b9s more) else ((l,(st,sc)),none) from by rw [HCM.o,if_neg hw,hmore];rfl)
 have i8:IntKind.i64.wrap ((word.length:Int)+1)=(word.length:Int)+1:=by rw [IntKind.wrap_i64];omega
 have i9:¬(line.length:Int)<(word.length:Int)+1:=by omega
 have i11:¬(word.length:Int)+1<0:=by omega
 have i10:((word.length:Int)+1).toNat=word.length+1:=by omega
 clear HCM hw
 by_cases h1:word=[112,114,101,115,115]
 ·have HP0:=qh (HP0.o.trans (if_pos h1));have f1:=P.beqB h1;clear h1
  go_wp2_with fail
  refine (a7f more _ oZ).mono ?_;rintro e w2 ⟨rfl,hb⟩;have HX2:=qh (HX1.o.below hb);have HR2:=qh (HR1.o.below hb);have HB2:=bt HB1 hb;have hz2:w.heap.size+2≤w2.heap.size:=Nat.le_trans hz1 hb.size;clear hb c0;have HPR:=qh (show P.a4v (l,(st,sc)) more=if (P.parse more).2 then P.typed (l,(st,sc)) [((P.parse more).1:Int)] else ((l,(st,sc)),none) from rfl);generalize P.parse more=q at *;obtain⟨k,q⟩:=q;simp only at HPR⊢
  cases q
  ·have HP:=qh (HP0.o.trans (HPR.o.trans (if_neg dZ)));exact zq3
  ·have HP:=qh (HP0.o.trans (HPR.o.trans (if_pos rfl)));have hba:=(Below.refl w2.heap.size w2).alloc lZ (.cells #[.int .i64 (k:Int)] 3);have HR3:=qh (HR2.o.below hba);have HB3:=bt HB2 hba;have HO:=qh (b8i (k:Int) w2);have hz3:w.heap.size+2≤(w2.alloc (.cells #[.int .i64 (k:Int)] 3)).heap.size:=Nat.le_trans hz2 hba.size;clear hba;obtain⟨⟨o0,o1,o2,o3,o4,o5,o6⟩,_⟩:=HX2.o
   go_wp2_with fail
   refine (c2w _ _ _ l st [(k:Int)] sc d p n _ (HU.o.below HB3.o) (HUS.o.below HB3.o) HO.o hm HT.o).mono ?_;rintro e x2 ⟨nu,nus,rfl,hfe,hfi,hb⟩;have HEN:=qh (hfe.read (HU.o.below HB3.o) hb);have HIN:=qh (hfi.read (HUS.o.below HB3.o) hb);obtain⟨⟨⟨l2,⟨st2,sc2⟩⟩,rep⟩,ha⟩:∃a,P.typed (l,(st,sc)) [(k:Int)]=a:=⟨_,rfl⟩;rw [ha]at HP hfe hfi HEN HIN⊢;simp only at hfe hfi HEN HIN⊢;clear ha;obtain⟨na,nc,rfl,_,_⟩:=id HEN.o;obtain⟨ma,mc,rfl,_,_⟩:=id HIN.o;have HR9:=qh (HR3.o.below hb);have HB9:=bt HB3 hb;have HFE:=qh hfe;have HFI:=qh hfi;exact zq1
 have HP1:=qh (HP0.o.trans (if_neg h1))
 have f1:=P.beqN h1
 clear HP0 h1
 by_cases ho_type:word=[116,121,112,101]
 ·have HP:=qh (HP1.o.trans (if_pos (.inl ho_type)));have f_type:=P.beqB ho_type;clear ho_type;exact d9g
 by_cases ho_delete:word=[100,101,108,101,116,101]
 ·have HP:=qh (HP1.o.trans (if_pos (.inr (.inl ho_delete))));have f_type:=P.beqN ho_type;have f_delete:=P.beqB ho_delete;clear ho_delete ho_type;exact d9g
 by_cases ho_lookup:word=[108,111,111,107,117,112]
 ·have HP:=qh (HP1.o.trans (if_pos (.inr (.inr ho_lookup))));have f_type:=P.beqN ho_type;have f_delete:=P.beqN ho_delete;have f_lookup:=P.beqB ho_lookup;clear ho_lookup ho_type ho_delete;exact d9g
 have HP2:=qh (HP1.o.trans (if_neg (fun h=>by rcases h with h|h|h;exact ho_type h;exact ho_delete h;exact ho_lookup h)))
 have f_type:=P.beqN ho_type;have f_delete:=P.beqN ho_delete;have f_lookup:=P.beqN ho_lookup
 clear HP1 ho_type ho_delete ho_lookup
 by_cases h3:word=[100,101,102,105,110,101]
 ·have HP:=qh (HP2.o.trans (if_pos h3));have f3:=P.beqB h3;clear h3;obtain⟨⟨o0,o1,o2,o3,o4,o5,o6⟩,_⟩:=HX1.o
  go_wp2_with fail
  refine (c9y _ _ l st sc d p n more _ (HU.o.below HB1.o) (HUS.o.below HB1.o) hm HT.o hml).mono ?_;rintro e x2 ⟨nu,nus,rfl,hfe,hfi,hb⟩;have HEN:=qh (hfe.read (HU.o.below HB1.o) hb);have HIN:=qh (hfi.read (HUS.o.below HB1.o) hb);obtain⟨⟨⟨l2,⟨st2,sc2⟩⟩,rep⟩,ha⟩:∃a,P.a1i (l,(st,sc)) more=a:=⟨_,rfl⟩;exact zq171
 have HP3:=qh (HP2.o.trans (if_neg h3))
 have f3:=P.beqN h3
 clear HP2 h3
 by_cases h4:word=[114,101,118,101,114,115,101]
 ·have HP0:=qh (HP3.o.trans (if_pos h4));have f4:=P.beqB h4;clear h4
  go_wp2_with fail
  refine (c4c more _ oZ).mono ?_;rintro e w2 ⟨v,rfl,-,hb⟩;have HX2:=qh (HX1.o.below hb);have HR2:=qh (HR1.o.below hb);have HB2:=bt HB1 hb;clear hb c0;have HREV:=qh (show P.a5d l more=if (P.a0o more).2 then some (P.revT l more) else none from rfl);generalize (P.a0o more).2=q at *
  cases q
  ·have HP:=qh (show P.cmd (l,(st,sc)) line=((l,(st,sc)),none) from by rw [HP0.o,HREV.o];rfl);exact zq3
  ·have HP:=qh (show P.cmd (l,(st,sc)) line=((l,(st,sc)),some (P.revT l more)) from by rw [HP0.o,HREV.o];rfl);have HXD:=qh (HX2.o.below bZ.drew);have HRD2:=qh (HR2.o.below bZ.drew);have HBD:=qh (HB2.o.trans (bZ.drew.mono HB2.o.size))
   go_upto_region 21 with fail
   refine wp_region_held_drew (S:=SOut w.heap.size (.slice ad l.length cap) (.slice sd st.length sap) sc d p n) kZ HXD.o (fun hS0=>?_);generalize w2.drew=y0 at *;refine tk2 0 hS0 ?_;refine tk2 1 hS0 ?_;refine tk2 2 hS0 ?_;refine tk2 3 hS0 ?_;refine trd 4 fun K hK=>?_;go_simp;refine (c8d _ l more _ (HU.o.below HBD.o) hm (P.a8p HT.o)).mono ?_;rintro e y1 ⟨rfl,hb⟩;have HRx:=qh (HRD2.o.below hb);have HBx:=bt HBD hb;refine hK.out _ _ (hS0.below hb) (fun hS1=>?_);clear hK K hb hS0
   try simp only [qA,qB,qC,Act.put,qD,qE,qF]
   have HR5:=qh HRx.o;have HB5:=qh HBx.o;obtain⟨⟨r0,r1,r2,r3,r4,r5,r6⟩,f0,f1,f2,f3,f4,f5⟩:=HR5.o;obtain⟨V,hV⟩:∃v,((((((y1.setCell ⟨w.heap.size+1,0,none⟩ ((.slice ad l.length cap))).setCell ⟨w.heap.size+1,1,none⟩ ((.slice sd st.length sap))).setCell ⟨w.heap.size+1,2,none⟩ (.string (S sc))).setCell ⟨w.heap.size+1,3,none⟩ (.string (S d))).setCell ⟨w.heap.size+1,4,none⟩ (.string (S p))).setCell ⟨w.heap.size+1,5,none⟩ (.int .i64 n))=v:=⟨_,rfl⟩;have hset:Chg (fun b=>b=w.heap.size+1) y1 V:=by rw [←hV];exact (((((((Chg.refl (fun b=>b=w.heap.size+1) y1).setCell (p:=⟨w.heap.size+1,0,none⟩) rfl _).setCell (p:=⟨w.heap.size+1,1,none⟩) rfl _).setCell (p:=⟨w.heap.size+1,2,none⟩) rfl _).setCell (p:=⟨w.heap.size+1,3,none⟩) rfl _).setCell (p:=⟨w.heap.size+1,4,none⟩) rfl _).setCell (p:=⟨w.heap.size+1,5,none⟩) rfl _)
   have HRV:=qh (show SOut (w.heap.size+1) ((.slice ad l.length cap)) ((.slice sd st.length sap)) sc d p n V from by rw [←hV];exact ((HR5.o.set0 (x:=(.slice ad l.length cap))).set1 (x:=(.slice sd st.length sap)) (r:=sc)).set3 (d':=d) (p':=p) (n':=n));have HBV:=qh (Chg.a0k HB5.o hset HB5.o.size (fun b h=>by have h9:b=w.heap.size+1:=h;omega));refine trd 5 fun K hK=>?_;go_simp;refine hK.out _ _ (by (try rw [hV]);exact hS1.a0e hset (fun h=>by have h9:w.heap.size=w.heap.size+1:=h;omega)) (fun hS2=>?_);clear hK K
   try rw [hV]at hS2⊢
   clear r0 r1 r2 r3 r4 r5 r6 f0 f1 f2 f3 f4 f5
   try simp only [qA,qB,qC,Act.put,qD,qE,qF]
   refine tk2 6 hS2 ?_;refine wpAnyH_done kZ ?_ _;go_wp2
   try rw [hV]
   clear hset hV;obtain⟨q0,q1,q2,q3,q4,q5,q6⟩:=HRV.o.1;refine bodyPost_ret (v:=.tuple #[a1e ((.slice ad l.length cap)) ((.slice sd st.length sap)) sc d p n,.string (S (P.revT l more))]) (by simp [results,Tryz.results95,go_sem,q0,q1,q2,q3,q4,q5]) rfl ⟨(.slice ad l.length cap),(.slice sd st.length sap),by rw [HP.o]<;>rfl,by rw [HP.o];exact .inl ⟨rfl,rfl⟩,by rw [HP.o];exact .inl ⟨rfl,rfl⟩,HBV.o⟩
 have HP4:=qh (HP3.o.trans (if_neg h4))
 have f4:=P.beqN h4
 clear HP3 h4
 by_cases h5:word=[106,111,105,110]
 ·have HP0:=qh (HP4.o.trans (if_pos h5));have f5:=P.beqB h5;clear h5
  go_wp2_with fail
  refine (a4c more 32 _ oZ).mono ?_;rintro e w2 ⟨v,rfl,hst0,hb⟩;obtain⟨g2,gc2,rfl,hg2,hst2⟩:=a8a hst0 (P.a2p 32 more);have HX2:=qh (HX1.o.below hb);have HR2:=qh (HR1.o.below hb);have HB2:=bt HB1 hb;have HST2:=qh (hst2.below bZ.drew);have hg3:w.heap.size+2≤g2:=Nat.le_trans hz1 hg2;clear hb c0 hst0 hst2
  by_cases h2:(P.split 32 more).length=2
  ·obtain⟨a,b,hab⟩:=P.two_of h2;have hpa:=b8u (c:=32) (s:=more) (j:=0) (by rw [h2];decide);have hpb:=b8u (c:=32) (s:=more) (j:=1) (by rw [h2];decide);have HP:=qh (show P.cmd (l,(st,sc)) line=((l,(st,sc)),okB (P.a1x a b).1 (P.a1x a b).2) from by rw [HP0.o,P.c8i hab];rfl);simp only [hab,List.getElem_cons_zero,List.getElem_cons_succ]at hpa hpb;rw [hab]at HST2⊢;clear h2 hab;have HC0:=qh (HST2.o.2 0 sZ);have HC1:=qh (HST2.o.2 1 sZ);simp only [List.getElem_cons_zero,List.getElem_cons_succ]at HC0 HC1;have HXD:=qh (HX2.o.below bZ.drew);have HRD2:=qh (HR2.o.below bZ.drew);have HBD:=qh (HB2.o.trans (bZ.drew.mono HB2.o.size))
   go_upto_region 26 with fail
   refine wp_region_held_drew (S:=fun v=>SOut w.heap.size (.slice ad l.length cap) (.slice sd st.length sap) sc d p n v∧v.cell? ⟨g2,0,none⟩=some (.string (S a))∧v.cell? ⟨g2,1,none⟩=some (.string (S b))∧g2<v.heap.size) kZ ⟨HXD.o,HC0.o,HC1.o,HST2.o.1.1⟩ (fun hS0=>?_);generalize w2.drew=y0 at *;refine tk12 0 hS0 ?_;refine tk12 1 hS0 ?_;refine tk12 2 hS0 ?_;refine tk12 3 hS0 ?_;refine tk12 4 hS0 ?_;refine tk12 5 hS0 ?_;refine tk12 6 hS0 ?_;refine trd 7 fun K hK=>?_;go_simp;refine (a7v a b _ oZ oZ).mono ?_;rintro e y1 ⟨rfl,rfl⟩;refine hK.out _ _ hS0 (fun hS3=>?_);clear hK K hS0
   try simp only [qA,qB,qC,Act.put,qD,qE,qF]
   refine tk12 8 hS3 ?_;refine tk12 9 hS3 ?_;refine trd 10 fun K hK=>?_;go_simp;refine (d0p (P.a1x a b).1 (P.a1x a b).2 _).mono ?_;rintro e y1 ⟨rfl,rfl⟩;refine hK.out _ _ hS3 (fun hS1=>?_);clear hK K hS3
   try simp only [qA,qB,qC,Act.put,qD,qE,qF]
   have HR5:=qh HRD2.o;have HB5:=qh HBD.o;obtain⟨⟨r0,r1,r2,r3,r4,r5,r6⟩,f0,f1,f2,f3,f4,f5⟩:=HR5.o;obtain⟨V,hV⟩:∃v,((((((y0.setCell ⟨w.heap.size+1,0,none⟩ ((.slice ad l.length cap))).setCell ⟨w.heap.size+1,1,none⟩ ((.slice sd st.length sap))).setCell ⟨w.heap.size+1,2,none⟩ (.string (S sc))).setCell ⟨w.heap.size+1,3,none⟩ (.string (S d))).setCell ⟨w.heap.size+1,4,none⟩ (.string (S p))).setCell ⟨w.heap.size+1,5,none⟩ (.int .i64 n))=v:=⟨_,rfl⟩;have hset:Chg (fun b=>b=w.heap.size+1) y0 V:=by rw [←hV];exact (((((((Chg.refl (fun b=>b=w.heap.size+1) y0).setCell (p:=⟨w.heap.size+1,0,none⟩) rfl _).setCell (p:=⟨w.heap.size+1,1,none⟩) rfl _).setCell (p:=⟨w.heap.size+1,2,none⟩) rfl _).setCell (p:=⟨w.heap.size+1,3,none⟩) rfl _).setCell (p:=⟨w.heap.size+1,4,none⟩) rfl _).setCell (p:=⟨w.heap.size+1,5,none⟩) rfl _)
   have HRV:=qh (show SOut (w.heap.size+1) ((.slice ad l.length cap)) ((.slice sd st.length sap)) sc d p n V from by rw [←hV];exact ((HR5.o.set0 (x:=(.slice ad l.length cap))).set1 (x:=(.slice sd st.length sap)) (r:=sc)).set3 (d':=d) (p':=p) (n':=n));have HBV:=qh (Chg.a0k HB5.o hset HB5.o.size (fun b h=>by have h9:b=w.heap.size+1:=h;omega));refine trd 11 fun K hK=>?_;go_simp;refine hK.out _ _ (by (try rw [hV]);exact⟨hS1.1.a0e hset (fun h=>by have h9:w.heap.size=w.heap.size+1:=h;omega),(hset.cell (p:=⟨g2,0,none⟩) hS1.2.2.2 (fun h=>by have h9:g2=w.heap.size+1:=h;omega)).trans hS1.2.1,(hset.cell (p:=⟨g2,1,none⟩) hS1.2.2.2 (fun h=>by have h9:g2=w.heap.size+1:=h;omega)).trans hS1.2.2.1,Nat.lt_of_lt_of_le hS1.2.2.2 hset.size⟩) (fun hS2=>?_);clear hK K
   try rw [hV]at hS2⊢
   clear r0 r1 r2 r3 r4 r5 r6 f0 f1 f2 f3 f4 f5
   try simp only [qA,qB,qC,Act.put,qD,qE,qF]
   refine tk12 12 hS2 ?_;refine wpAnyH_done kZ ?_ _;go_wp2
   try rw [hV]
   clear hset hV;obtain⟨q0,q1,q2,q3,q4,q5,q6⟩:=HRV.o.1;refine bodyPost_ret (v:=.tuple #[a1e ((.slice ad l.length cap)) ((.slice sd st.length sap)) sc d p n,.string (S (txtB (okB (P.a1x a b).1 (P.a1x a b).2)))]) (by simp [results,Tryz.results95,go_sem,q0,q1,q2,q3,q4,q5]) rfl ⟨(.slice ad l.length cap),(.slice sd st.length sap),by rw [HP.o]<;>rfl,by rw [HP.o];exact .inl ⟨rfl,rfl⟩,by rw [HP.o];exact .inl ⟨rfl,rfl⟩,HBV.o⟩
  ·have HP:=qh (show P.cmd (l,(st,sc)) line=((l,(st,sc)),none) from by rw [HP0.o,P.d2z h2]);have f9:(((P.split 32 more).length:Int) != 2)=true:=by show (!_)=true;rw [beq_eq_false_iff_ne.2 oZ];rfl
   exact zq3
 have HP5:=qh (HP4.o.trans (if_neg h5))
 have f5:=P.beqN h5
 clear HP4 h5
 by_cases h6:word=[108,111,111,115,101]
 ·have HP0:=qh (HP5.o.trans (if_pos h6));have f6:=P.beqB h6;clear h6
  go_wp2_with fail
  refine (b4p more _ oZ).mono ?_;rintro e w2 ⟨rfl,hb⟩;have HX2:=qh (HX1.o.below hb);have HR2:=qh (HR1.o.below hb);have HB2:=bt HB1 hb;clear hb c0;have HPL:=qh (show P.b9s more=if (P.loose more).2 then some (P.fmt ((P.loose more).1:Int)) else none from rfl);have HLT:=qh (P.b3c more);generalize P.loose more=q at *;obtain⟨k,q⟩:=q;simp only at HPL HLT⊢
  cases q
  ·have HP:=qh (show P.cmd (l,(st,sc)) line=((l,(st,sc)),none) from by rw [HP0.o,HPL.o];rfl);exact zq3
  ·have HP:=qh (show P.cmd (l,(st,sc)) line=((l,(st,sc)),some (P.fmt (k:Int))) from by rw [HP0.o,HPL.o];rfl);have HXD:=qh (HX2.o.below bZ.drew);have HRD2:=qh (HR2.o.below bZ.drew);have HBD:=qh (HB2.o.trans (bZ.drew.mono HB2.o.size))
   go_upto_region 31 with fail
   refine wp_region_held_drew (S:=SOut w.heap.size (.slice ad l.length cap) (.slice sd st.length sap) sc d p n) kZ HXD.o (fun hS0=>?_);generalize w2.drew=y0 at *;refine tk2 0 hS0 ?_;refine tk2 1 hS0 ?_;refine trd 2 fun K hK=>?_;go_simp;refine (b0r k _ HLT.o).mono ?_;rintro e y1 ⟨rfl,hb⟩;have HRx:=qh (HRD2.o.below hb);have HBx:=bt HBD hb;refine hK.out _ _ (hS0.below hb) (fun hS1=>?_);clear hK K hb hS0
   try simp only [qA,qB,qC,Act.put,qD,qE,qF]
   have HR5:=qh HRx.o;have HB5:=qh HBx.o;obtain⟨⟨r0,r1,r2,r3,r4,r5,r6⟩,f0,f1,f2,f3,f4,f5⟩:=HR5.o;obtain⟨V,hV⟩:∃v,((((((y1.setCell ⟨w.heap.size+1,0,none⟩ ((.slice ad l.length cap))).setCell ⟨w.heap.size+1,1,none⟩ ((.slice sd st.length sap))).setCell ⟨w.heap.size+1,2,none⟩ (.string (S sc))).setCell ⟨w.heap.size+1,3,none⟩ (.string (S d))).setCell ⟨w.heap.size+1,4,none⟩ (.string (S p))).setCell ⟨w.heap.size+1,5,none⟩ (.int .i64 n))=v:=⟨_,rfl⟩;have hset:Chg (fun b=>b=w.heap.size+1) y1 V:=by rw [←hV];exact (((((((Chg.refl (fun b=>b=w.heap.size+1) y1).setCell (p:=⟨w.heap.size+1,0,none⟩) rfl _).setCell (p:=⟨w.heap.size+1,1,none⟩) rfl _).setCell (p:=⟨w.heap.size+1,2,none⟩) rfl _).setCell (p:=⟨w.heap.size+1,3,none⟩) rfl _).setCell (p:=⟨w.heap.size+1,4,none⟩) rfl _).setCell (p:=⟨w.heap.size+1,5,none⟩) rfl _)
   have HRV:=qh (show SOut (w.heap.size+1) ((.slice ad l.length cap)) ((.slice sd st.length sap)) sc d p n V from by rw [←hV];exact ((HR5.o.set0 (x:=(.slice ad l.length cap))).set1 (x:=(.slice sd st.length sap)) (r:=sc)).set3 (d':=d) (p':=p) (n':=n));have HBV:=qh (Chg.a0k HB5.o hset HB5.o.size (fun b h=>by have h9:b=w.heap.size+1:=h;omega));refine trd 3 fun K hK=>?_;go_simp;refine hK.out _ _ (by (try rw [hV]);exact hS1.a0e hset (fun h=>by have h9:w.heap.size=w.heap.size+1:=h;omega)) (fun hS2=>?_);clear hK K
   try rw [hV]at hS2⊢
   clear r0 r1 r2 r3 r4 r5 r6 f0 f1 f2 f3 f4 f5
   try simp only [qA,qB,qC,Act.put,qD,qE,qF]
   refine tk2 4 hS2 ?_;refine wpAnyH_done kZ ?_ _;go_wp2
   try rw [hV]
   clear hset hV;obtain⟨q0,q1,q2,q3,q4,q5,q6⟩:=HRV.o.1;refine bodyPost_ret (v:=.tuple #[a1e ((.slice ad l.length cap)) ((.slice sd st.length sap)) sc d p n,.string (S (P.fmt (k:Int)))]) (by simp [results,Tryz.results95,go_sem,q0,q1,q2,q3,q4,q5]) rfl ⟨(.slice ad l.length cap),(.slice sd st.length sap),by rw [HP.o]<;>rfl,by rw [HP.o];exact .inl ⟨rfl,rfl⟩,by rw [HP.o];exact .inl ⟨rfl,rfl⟩,HBV.o⟩
 have HP:=qh (HP5.o.trans (if_neg h6))
 have f6:=P.beqN h6
 clear HP5 h6
 obtain⟨⟨o0,o1,o2,o3,o4,o5,o6⟩,_⟩:=HX1.o
 obtain⟨⟨r0,r1,r2,r3,r4,r5,r6⟩,f0,f1,f2,f3,f4,f5⟩:=HR1.o
 obtain⟨V,hV⟩:∃v,((((((w1.setCell ⟨w.heap.size+1,0,none⟩ ((.slice ad l.length cap))).setCell ⟨w.heap.size+1,1,none⟩ ((.slice sd st.length sap))).setCell ⟨w.heap.size+1,2,none⟩ (.string (S sc))).setCell ⟨w.heap.size+1,3,none⟩ (.string (S d))).setCell ⟨w.heap.size+1,4,none⟩ (.string (S p))).setCell ⟨w.heap.size+1,5,none⟩ (.int .i64 n))=v:=⟨_,rfl⟩
 have hset:Chg (fun b=>b=w.heap.size+1) w1 V:=by rw [←hV];exact (((((((Chg.refl (fun b=>b=w.heap.size+1) w1).setCell (p:=⟨w.heap.size+1,0,none⟩) rfl _).setCell (p:=⟨w.heap.size+1,1,none⟩) rfl _).setCell (p:=⟨w.heap.size+1,2,none⟩) rfl _).setCell (p:=⟨w.heap.size+1,3,none⟩) rfl _).setCell (p:=⟨w.heap.size+1,4,none⟩) rfl _).setCell (p:=⟨w.heap.size+1,5,none⟩) rfl _)
 have HRV:=qh (show SOut (w.heap.size+1) ((.slice ad l.length cap)) ((.slice sd st.length sap)) sc d p n V from by rw [←hV];exact ((HR1.o.set0 (x:=(.slice ad l.length cap))).set1 (x:=(.slice sd st.length sap)) (r:=sc)).set3 (d':=d) (p':=p) (n':=n))
 have HBV:=qh (Chg.a0k HB1.o hset HB1.o.size (fun b h=>by have h9:b=w.heap.size+1:=h;omega))
 go_wp2
 try rw [hV]
 clear hset hV
 obtain⟨q0,q1,q2,q3,q4,q5,q6⟩:=HRV.o.1
 refine bodyPost_ret (v:=.tuple #[a1e ((.slice ad l.length cap)) ((.slice sd st.length sap)) sc d p n,.string (S [63])]) (by simp [results,Tryz.results95,go_sem,q0,q1,q2,q3,q4,q5]) rfl ⟨(.slice ad l.length cap),(.slice sd st.length sap),by rw [HP.o]<;>rfl,by rw [HP.o];exact .inl ⟨rfl,rfl⟩,by rw [HP.o];exact .inl ⟨rfl,rfl⟩,HBV.o⟩
end Go.Proofs.YtggfdnopminemaaGreatDoor
namespace Go.Proofs.YtggfdnopminemaaGreatDoor.L
open Go Go.RowKit
set_option maxHeartbeats 8000000
set_option maxRecDepth 100000
theorem c3k (d p:Str) (n:Int) (c r:Str) (w:World) (hd:d.length≤2^20) (hp:p.length≤2^20) (hc:c.length≤2^20) (hr:r.length≤2^20) (hE:Env w) :
 Calls Tryz.prog 54 #[logV d p n,.agg #[.string (S c),.string (S r)]] w fun e w'=>e=.returned (.tuple #[logV d (P.appS d p n c r).1 (P.appS d p n c r).2.1,.int .i64 (P.appS d p n c r).2.2])∧Below w.heap.size w w':=by
 have A1:=qh (AB.start (w:=w) (d:=d) (p:=p) (n:=n) (c:=c) (r:=r) (t:=28) (u:=86) hE)
 clear hE
 cases h1:P.a1t d p n
 ·have HF:=qh (show P.appS d p n c r=(p,n,1) by unfold P.appS;rw [h1];rfl)
  go_enter Tryz.func54,Tryz.ntmps54
  go_wp2_with fail
  refine (c1l _ _ _ _ hd hp).mono ?_;rintro e w1 ⟨rfl,hb⟩;have A2:=qh (A1.o.carry hb);clear hb A1;obtain⟨⟨a1,a2,a3⟩,⟨b1,b2⟩,⟨c1,c2,c3⟩,⟨d1,d2,d3⟩,⟨e1,e2,e3⟩,hz,_⟩:=A2.o;rw [h1];go_wp2;refine bodyPost_ret (v:=.tuple #[logV d p n,.int .i64 1]) (by simp [results,Tryz.results54,go_sem,c1,c2,c3]) rfl ⟨by rw [HF.o],?_⟩;exact ((A2.o.below.setCell (by simp;omega) _).setCell (by simp;omega) _).setCell (by simp;omega) _
 ·cases h2:P.good c r
  ·have HF:=qh (show P.appS d p n c r=(p,n,1) by unfold P.appS;rw [h1,h2];rfl)
   go_enter Tryz.func54,Tryz.ntmps54
   go_wp2_with fail
   refine (c1l _ _ _ _ hd hp).mono ?_;rintro e w1 ⟨rfl,hb⟩;have A2:=qh (A1.o.carry hb);clear hb A1;obtain⟨⟨a1,a2,a3⟩,⟨b1,b2⟩,⟨c1,c2,c3⟩,⟨d1,d2,d3⟩,⟨e1,e2,e3⟩,hz,_⟩:=A2.o;rw [h1]
   go_wp2_with fail
   refine (b1i _ _ _ (by unfold maxLen;omega) (by unfold maxLen;omega)).mono ?_;rintro e w2 ⟨rfl,hb⟩;have A3:=qh (A2.o.carry hb);clear hb A2;clear a1 a2 a3 b1 b2 c1 c2 c3 d1 d2 d3 e1 e2 e3 hz;obtain⟨⟨a1,a2,a3⟩,⟨b1,b2⟩,⟨c1,c2,c3⟩,⟨d1,d2,d3⟩,⟨e1,e2,e3⟩,hz,_⟩:=A3.o;rw [h2];go_wp2;refine bodyPost_ret (v:=.tuple #[logV d p n,.int .i64 1]) (by simp [results,Tryz.results54,go_sem,c1,c2,c3]) rfl ⟨by rw [HF.o],?_⟩;exact zq90
  ·cases h3:(n==60)
   ·obtain⟨hn0,hn1,_⟩:=P.b9e h1;obtain⟨x,hx⟩:∃x,P.line n.toNat c r=x:=⟨_,rfl⟩;have HX:=qh hx;have HF:=qh (show P.appS d p n c r=(p++x,n+1,0) by unfold P.appS;rw [h1,h2,h3,hx];rfl)
    have hxl:x.length≤10000:=by
     rw [←hx];have h6:n≠60:=by simpa using h3
     have:=(P.a7b (k:=n.toNat) oZ h2).1;omega
    clear hx;have f1:¬9223372036854775807<p.length+x.length:=by omega
    go_enter Tryz.func54,Tryz.ntmps54
    go_wp2_with fail
    refine (c1l _ _ _ _ hd hp).mono ?_;rintro e w1 ⟨rfl,hb⟩;have A2:=qh (A1.o.carry hb);clear hb A1;obtain⟨⟨a1,a2,a3⟩,⟨b1,b2⟩,⟨c1,c2,c3⟩,⟨d1,d2,d3⟩,⟨e1,e2,e3⟩,hz,_⟩:=A2.o;rw [h1]
    go_wp2_with fail
    refine (b1i _ _ _ (by unfold maxLen;omega) (by unfold maxLen;omega)).mono ?_;rintro e w2 ⟨rfl,hb⟩;have A3:=qh (A2.o.carry hb);clear hb A2;clear a1 a2 a3 b1 b2 c1 c2 c3 d1 d2 d3 e1 e2 e3 hz;obtain⟨⟨a1,a2,a3⟩,⟨b1,b2⟩,⟨c1,c2,c3⟩,⟨d1,d2,d3⟩,⟨e1,e2,e3⟩,hz,_⟩:=A3.o;rw [h2]
    go_upto_region 5 with fail
    have A4:AB w d p n c r w2.drew:=A3.o.carry (bZ.drew);clear a1 a2 a3 b1 b2 c1 c2 c3 d1 d2 d3 e1 e2 e3 hz A3;have A5:=qh A4;obtain⟨⟨a1,a2,a3⟩,⟨b1,b2⟩,⟨c1,c2,c3⟩,⟨d1,d2,d3⟩,⟨e1,e2,e3⟩,hz,_⟩:=A4
    go_region_law ((go_simp;go_at_call 122;refine (d0z _ _ _ _ hn0 oZ oZ oZ).mono ?_;rintro e v ⟨rfl,hb⟩;rw [HX.o];have A6:=qh (A5.o.carry hb);obtain⟨⟨a1,a2,a3⟩,⟨b1,b2⟩,⟨c1,c2,c3⟩,⟨d1,d2,d3⟩,⟨e1,e2,e3⟩,hz,_⟩:=A6.o;clear hb))
    all_goals
     go_wp2
     refine bodyPost_ret (v:=.tuple #[logV d (p++x) (n+1),.int .i64 0]) (by simp [results,Tryz.results54,go_sem,c1,c2,c3]) rfl ⟨by rw [HF.o],?_⟩
     exact (((((A6.o.below.setCell sZ _).setCell sZ _).setCell (by simp;omega) _).setCell (by simp;omega) _).setCell (by simp;omega) _)
   ·have HF:=qh (show P.appS d p n c r=(p,n,2) by unfold P.appS;rw [h1,h2,h3];rfl)
    go_enter Tryz.func54,Tryz.ntmps54
    go_wp2_with fail
    refine (c1l _ _ _ _ hd hp).mono ?_;rintro e w1 ⟨rfl,hb⟩;have A2:=qh (A1.o.carry hb);clear hb A1;obtain⟨⟨a1,a2,a3⟩,⟨b1,b2⟩,⟨c1,c2,c3⟩,⟨d1,d2,d3⟩,⟨e1,e2,e3⟩,hz,_⟩:=A2.o;rw [h1]
    go_wp2_with fail
    refine (b1i _ _ _ (by unfold maxLen;omega) (by unfold maxLen;omega)).mono ?_;rintro e w2 ⟨rfl,hb⟩;have A3:=qh (A2.o.carry hb);clear hb A2;clear a1 a2 a3 b1 b2 c1 c2 c3 d1 d2 d3 e1 e2 e3 hz;obtain⟨⟨a1,a2,a3⟩,⟨b1,b2⟩,⟨c1,c2,c3⟩,⟨d1,d2,d3⟩,⟨e1,e2,e3⟩,hz,_⟩:=A3.o;rw [h2];go_wp2;refine bodyPost_ret (v:=.tuple #[logV d p n,.int .i64 2]) (by simp [results,Tryz.results54,go_sem,c1,c2,c3]) rfl ⟨by rw [HF.o],?_⟩;exact zq90
end Go.Proofs.YtggfdnopminemaaGreatDoor.L
namespace Go.Proofs.YtggfdnopminemaaGreatDoor
open Go Go.RowKit
set_option maxHeartbeats 8000000
set_option maxRecDepth 100000
theorem c0t (u us:Value) (l:P.Dic) (st:List Int) (sc d p:Str) (n:Int) (line:Str) (w:World) (hu:EntR w u l) (hus:IntR w us st) (hf:P.Fit (l,(st,sc)) (d,p,n)) (hl:line.length≤2^20) (hE:L.Env w) :
 Calls Tryz.prog 34 #[a1e u us sc d p n,.string (S line)] w (d7g (P.exec (l,(st,sc)) (d,p,n) line) w):=by
 obtain⟨hf1,hf2,hf3,hf4,hf5,hf6⟩:=hf
 have hm:Small l:=⟨hf1,hf2,hf3⟩
 simp only at hf4 hf5 hf6
 clear hf1 hf2 hf3
 have hu0:=hu;have hus0:=hus
 obtain⟨ad,cap,rfl,_,_⟩:=hu0
 obtain⟨sd,sap,rfl,_,_⟩:=hus0
 obtain⟨W0,hW0⟩:∃v,(w.alloc (a0d (.slice ad l.length cap) (.slice sd st.length sap) sc d p n)).alloc (a0d (.slice none 0 0) (.slice none 0 0) [] [] [] 0)=v:=⟨_,rfl⟩
 have hb0:Below w.heap.size w W0:=by rw [←hW0];exact ((Below.refl w.heap.size w).alloc lZ _).alloc sZ _
 have hzW:W0.heap.size=w.heap.size+2:=by rw [←hW0];simp
 have hq0:SQ w.heap.size (.slice ad l.length cap) (.slice sd st.length sap) sc d p n W0:=by
  exact zq89
 have HU:=qh hu;have HUS:=qh hus;have HE:=qh hE
 have HQ:=qh hq0;have HB:=qh hb0
 have hzW2:w.heap.size+2≤W0.heap.size:=by omega
 clear hq0 hb0 hu hus hE hzW
 go_enter Tryz.func34,Tryz.ntmps34
 go_upto_region 1 with fail
 try rw [hW0]
 clear hW0
 obtain⟨⟨o0,o1,o2,o3,o4,o5,o6⟩,_⟩:=HQ.o.1
 go_wp2_with fail
 refine (d6w _ _ l st sc d p n _ (HU.o.below HB.o) (HUS.o.below HB.o) hm oZ).mono ?_
 rintro e w1 ⟨nu,nus,m,rfl,hD,hI,hm1,hm2,hb⟩
 obtain⟨na,nc,rfl,-,-⟩:=id hD
 obtain⟨ma,mc,rfl,-,-⟩:=id hI
 obtain⟨w2,hw2⟩:∃v,w1.alloc (a0d (.slice na l.length nc) (.slice ma st.length mc) sc d p n)=v:=⟨_,rfl⟩
 have hba:Below w1.heap.size w1 w2:=by rw [←hw2];exact bZ.alloc lZ _
 have hz1:=hb.size
 have hBz:w1.heap.size<w2.heap.size:=by rw [←hw2];simp
 have HB2:=qh ((HB.o.trans (hb.mono HB.o.size)).trans (hba.mono oZ))
 have HQ2:=qh ((HQ.o.below hb).below hba)
 have HS2:=qh (show SesM (w.heap.size+2) w1.heap.size (l,(st,sc)) (d,p,n) w2 from⟨by have:=HE.o.size;omega,by omega,_,_,by rw [←hw2];exact SOut.new _ _ _ _ _ _ _,(a2q.of hD hI hzW2 hm2 hm1 (.inl lZ)).below hba⟩)
 clear hD hI hm1 hm2 hb hba HQ HB o0 o1 o2 o3 o4 o5 o6
 go_upto_region 2 with fail
 try rw [hw2]
 clear hw2
 obtain⟨⟨o0,o1,o2,o3,o4,o5,o6⟩,_⟩:=HQ2.o.1
 go_wp2_with fail
 refine (d9d _ _ l st sc d p n _ (HU.o.below HB2.o) (HUS.o.below HB2.o) hm hf5 hf6).mono ?_
 rintro e w3 ⟨rfl,hb⟩
 have HB3:=bt HB2 hb;have HQ3:=qh (HQ2.o.below hb);have HS3:=qh (HS2.o.below hb)
 have hB3:=hb.size
 clear hb HB2 HQ2 HS2 o0 o1 o2 o3 o4 o5 o6
 cases h1:P.sess l st sc d p n
 ·have HP:=qh (P.b7w (s:=(l,(st,sc))) (g:=(d,p,n)) (line:=line) h1);obtain⟨_,_,bu,bus,hso,hrows⟩:=HS3.o;simp only at hso hrows;obtain⟨ba,bc,rfl,_,_⟩:=id hrows.dic;obtain⟨ia,ic,rfl,_,_⟩:=id hrows.str;obtain⟨⟨o0,o1,o2,o3,o4,o5,o6⟩,_⟩:=hso;obtain⟨⟨r0,r1,r2,r3,r4,r5,r6⟩,f0,f1,f2,f3,f4,f5⟩:=HQ3.o.2;obtain⟨V,hV⟩:∃v,wr6 w3 (w.heap.size+1) (.slice ba l.length bc) (.slice ia st.length ic) sc d p n=v:=⟨_,rfl⟩;have hset:Chg (fun b=>b=w.heap.size+1) w3 V:=by rw [←hV];exact a6d _ _ _ _ _ _ _ _
  have HRV:=qh (show SOut (w.heap.size+1) (.slice ba l.length bc) (.slice ia st.length ic) sc d p n V from by rw [←hV];exact a7a HQ3.o.2 _ _ _ _ _ _);have HBV:=qh (Chg.a0k HB3.o hset HB3.o.size (fun b h=>by have h9:b=w.heap.size+1:=h;omega));have HROW:=qh ((hrows.a6k hset (fun b h=>by have h9:b=w.heap.size+1:=h;omega)).lo (lo':=w.heap.size) oZ);unfold wr6 at hV;clear hrows;go_wp2
  try rw [hV]
  clear hset hV;obtain⟨q0,q1,q2,q3,q4,q5,q6⟩:=HRV.o.1;refine bodyPost_ret (v:=.tuple #[a1e (.slice ba l.length bc) (.slice ia st.length ic) sc d p n,.string (S [110,111])]) (by simp [results,Tryz.results34,go_sem,q0,q1,q2,q3,q4,q5]) rfl ⟨_,_,w1.heap.size,by rw [HP.o]<;>rfl,by rw [HP.o];exact HROW.o,HBV.o⟩
 have HT:=qh (P.a7d (s:=(l,(st,sc))) (g:=(d,p,n)) h1)
 go_wp2_with fail
 refine (L.b1i line [] _ (by unfold maxLen;omega) (by unfold maxLen;simp)).mono ?_
 rintro e w4 ⟨rfl,hb⟩
 have HB4:=bt HB3 hb;have HQ4:=qh (HQ3.o.below hb);have HS4:=qh (HS3.o.below hb)
 have hB4:=Nat.le_trans hB3 hb.size
 clear hb HB3 HQ3 HS3
 cases h2:P.good line []
 ·have HP:=qh (P.b3i (s:=(l,(st,sc))) (g:=(d,p,n)) (line:=line) h1 h2);obtain⟨_,_,bu,bus,hso,hrows⟩:=HS4.o;simp only at hso hrows;obtain⟨ba,bc,rfl,_,_⟩:=id hrows.dic;obtain⟨ia,ic,rfl,_,_⟩:=id hrows.str;obtain⟨⟨o0,o1,o2,o3,o4,o5,o6⟩,_⟩:=hso;obtain⟨⟨r0,r1,r2,r3,r4,r5,r6⟩,f0,f1,f2,f3,f4,f5⟩:=HQ4.o.2;obtain⟨V,hV⟩:∃v,wr6 w4 (w.heap.size+1) (.slice ba l.length bc) (.slice ia st.length ic) sc d p n=v:=⟨_,rfl⟩;have hset:Chg (fun b=>b=w.heap.size+1) w4 V:=by rw [←hV];exact a6d _ _ _ _ _ _ _ _
  have HRV:=qh (show SOut (w.heap.size+1) (.slice ba l.length bc) (.slice ia st.length ic) sc d p n V from by rw [←hV];exact a7a HQ4.o.2 _ _ _ _ _ _);have HBV:=qh (Chg.a0k HB4.o hset HB4.o.size (fun b h=>by have h9:b=w.heap.size+1:=h;omega));have HROW:=qh ((hrows.a6k hset (fun b h=>by have h9:b=w.heap.size+1:=h;omega)).lo (lo':=w.heap.size) oZ);unfold wr6 at hV;clear hrows;go_wp2
  try rw [hV]
  clear hset hV;obtain⟨q0,q1,q2,q3,q4,q5,q6⟩:=HRV.o.1;refine bodyPost_ret (v:=.tuple #[a1e (.slice ba l.length bc) (.slice ia st.length ic) sc d p n,.string (S [98,97,100])]) (by simp [results,Tryz.results34,go_sem,q0,q1,q2,q3,q4,q5]) rfl ⟨_,_,w1.heap.size,by rw [HP.o]<;>rfl,by rw [HP.o];exact HROW.o,HBV.o⟩
 by_cases h3:n=60
 ·have HP:=qh (P.a9t (s:=(l,(st,sc))) (g:=(d,p,n)) (line:=line) h1 h2 h3);have f9:(n==60)=true:=by rw [h3];rfl
  clear h3;obtain⟨⟨x0,x1,x2,x3,x4,x5,x6⟩,_⟩:=HQ4.o.1;obtain⟨_,_,bu,bus,hso,hrows⟩:=HS4.o;simp only at hso hrows;obtain⟨ba,bc,rfl,_,_⟩:=id hrows.dic;obtain⟨ia,ic,rfl,_,_⟩:=id hrows.str;obtain⟨⟨o0,o1,o2,o3,o4,o5,o6⟩,_⟩:=hso;obtain⟨⟨r0,r1,r2,r3,r4,r5,r6⟩,f0,f1,f2,f3,f4,f5⟩:=HQ4.o.2;obtain⟨V,hV⟩:∃v,wr6 w4 (w.heap.size+1) (.slice ba l.length bc) (.slice ia st.length ic) sc d p n=v:=⟨_,rfl⟩;have hset:Chg (fun b=>b=w.heap.size+1) w4 V:=by rw [←hV];exact a6d _ _ _ _ _ _ _ _
  have HRV:=qh (show SOut (w.heap.size+1) (.slice ba l.length bc) (.slice ia st.length ic) sc d p n V from by rw [←hV];exact a7a HQ4.o.2 _ _ _ _ _ _);have HBV:=qh (Chg.a0k HB4.o hset HB4.o.size (fun b h=>by have h9:b=w.heap.size+1:=h;omega));have HROW:=qh ((hrows.a6k hset (fun b h=>by have h9:b=w.heap.size+1:=h;omega)).lo (lo':=w.heap.size) oZ);unfold wr6 at hV;clear hrows;go_wp2
  try rw [hV]
  clear hset hV;obtain⟨q0,q1,q2,q3,q4,q5,q6⟩:=HRV.o.1;refine bodyPost_ret (v:=.tuple #[a1e (.slice ba l.length bc) (.slice ia st.length ic) sc d p n,.string (S [102,117,108,108])]) (by simp [results,Tryz.results34,go_sem,q0,q1,q2,q3,q4,q5]) rfl ⟨_,_,w1.heap.size,by rw [HP.o]<;>rfl,by rw [HP.o];exact HROW.o,HBV.o⟩
 have HP:=qh (P.b3a (s:=(l,(st,sc))) (g:=(d,p,n)) (line:=line) h1 h2 h3)
 have f9:(n==60)=false:=by rw [beq_eq_false_iff_ne];exact h3
 obtain⟨⟨x0,x1,x2,x3,x4,x5,x6⟩,_⟩:=HQ4.o.1
 have HKT:=qh (P.b5d (s:=(l,(st,sc))) (line:=line) HT.o.1)
 obtain⟨_,_,bu,bus,hso,hrows⟩:=HS4.o
 simp only at hso hrows
 have HE1:=qh hrows.dic;have HI1:=qh hrows.str
 obtain⟨ba,bc,rfl,_,_⟩:=id HE1.o
 obtain⟨ia,ic,rfl,_,_⟩:=id HI1.o
 obtain⟨⟨o0,o1,o2,o3,o4,o5,o6⟩,_⟩:=hso
 clear hrows
 go_wp2_with fail
 refine (l25Run _ _ l st sc d p n line _ HE1.o HI1.o hm HT.o.1 hl).mono ?_
 rintro e w5 ⟨nu2,nus2,rfl,hfe,hfi,hb⟩
 have HE2:=qh (hfe.read HE1.o hb);have HI2:=qh (hfi.read HI1.o hb)
 obtain⟨⟨⟨l2,⟨st2,sc2⟩⟩,ro⟩,ha⟩:∃a,P.cmd (l,(st,sc)) line=a:=⟨_,rfl⟩
 rw [ha]at HP HKT HE2 HI2⊢
 simp only at HP HKT HE2 HI2⊢
 clear ha hfe hfi HE1 HI1 x0 x1 x2 x3 x4 x5 x6 o0 o1 o2 o3 o4 o5 o6
 obtain⟨na2,nc2,rfl,_,_⟩:=id HE2.o
 obtain⟨ma2,mc2,rfl,_,_⟩:=id HI2.o
 have hz5:=Nat.le_trans hB4 hb.size
 obtain⟨w6,hw6⟩:∃v,w5.alloc (a0d (.slice na2 l2.length nc2) (.slice ma2 st2.length mc2) sc2 d p n)=v:=⟨_,rfl⟩
 have hba:Below w5.heap.size w5 w6:=by rw [←hw6];exact bZ.alloc lZ _
 have hBz6:w5.heap.size<w6.heap.size:=by rw [←hw6];simp
 have HX6:=qh (show SOut w5.heap.size (.slice na2 l2.length nc2) (.slice ma2 st2.length mc2) sc2 d p n w6 from by rw [←hw6];exact SOut.new _ _ _ _ _ _ _)
 have HB6:=qh ((HB4.o.trans (hb.mono HB4.o.size)).trans (hba.mono oZ));have HQ6:=qh ((HQ4.o.below hb).below hba);have HE6:=qh (HE2.o.below hba);have HI6:=qh (HI2.o.below hba)
 clear hb hba HB4 HQ4 HS4 HE2 HI2
 go_upto_region 9 with fail
 try rw [hw6]
 clear hw6
 obtain⟨⟨o0,o1,o2,o3,o4,o5,o6⟩,_⟩:=HX6.o
 have hsl2:=P.a4q (P.d7j (P.a2o HKT.o).1).2.1
 simp only at hsl2
 go_wp2_with fail
 refine (d6w _ _ l2 st2 sc2 d p n _ HE6.o HI6.o (a7o (P.b4s HKT.o)) oZ).mono ?_
 rintro e w7 ⟨nu3,nus3,m3,rfl,hD,hI,hm1,hm2,hb⟩
 obtain⟨na3,nc3,rfl,-,-⟩:=id hD
 obtain⟨ma3,mc3,rfl,-,-⟩:=id hI
 have HX7:=qh (HX6.o.below hb);have HQ7:=qh (HQ6.o.below hb);have HB7:=bt HB6 hb
 have hz7:=hb.size
 clear hb HX6 HQ6 HB6 HE6 HI6 o0 o1 o2 o3 o4 o5 o6
 obtain⟨w8,hw8⟩:∃v,wr6 w7 w5.heap.size (.slice na3 l2.length nc3) (.slice ma3 st2.length mc3) sc2 d p n=v:=⟨_,rfl⟩
 have hc8:Chg (fun b=>b=w5.heap.size) w7 w8:=by rw [←hw8];exact a6d _ _ _ _ _ _ _ _
 have HROW8:=qh ((a2q.of (lo:=w.heap.size+2) (B:=w5.heap.size) hD hI oZ hm2 hm1 (.inr hBz6)).a0e hc8 (fun b h=>.inl h))
 have HS8:=qh (show SesM (w.heap.size+2) w5.heap.size (l2,(st2,sc2)) (d,p,n) w8 from⟨by have:=HE.o.size;omega,by have:=hc8.size;omega,_,_,by rw [←hw8];exact a7a HX7.o _ _ _ _ _ _,HROW8.o⟩)
 have HQ8:=qh (show SQ w.heap.size (.slice ad l.length cap) (.slice sd st.length sap) sc d p n w8 from⟨HQ7.o.1.a0e hc8 (fun h=>by have h9:w.heap.size=w5.heap.size:=h;omega),HQ7.o.2.a0e hc8 (fun h=>by have h9:w.heap.size+1=w5.heap.size:=h;omega)⟩)
 have HB8:=qh (Chg.a0k HB7.o hc8 HB7.o.size (fun b h=>by have h9:b=w5.heap.size:=h;omega))
 have hz8:=hc8.size
 obtain⟨⟨o0,o1,o2,o3,o4,o5,o6⟩,g0,g1,g2,g3,g4,g5⟩:=HX7.o
 clear hD hI hm1 hm2 HROW8
 unfold wr6 at hw8
 have HRP:=qh (b5o ro)
 go_upto_region 10 with fail
 try rw [hw8]
 clear hw8 hc8 HX7 HQ7 HB7 o0 o1 o2 o3 o4 o5 o6 g0 g1 g2 g3 g4 g5
 generalize txtB ro=t1 at *
 go_upto_if 38 with fail
 go_cut [8] (fun rv wx=>rv=.string (S (P.a4s ro))∧w8=wx)
 case first=>
  exact zq81
 case rest=>
  obtain⟨rfl,rfl⟩:=hcut;have hrl:=P.b4f ro;generalize P.a4s ro=rep at *;obtain⟨_,_,zu,zus,hzs,_⟩:=HS8.o;simp only at hzs;obtain⟨⟨x0,x1,x2,x3,x4,x5,x6⟩,_⟩:=hzs
  go_wp2_with fail
  refine (L.c3k d p n line rep _ hf5 hf6 hl oZ (HE.o.below HB8.o HE.o.size)).mono ?_;rintro e w9 ⟨rfl,hb⟩;have HB9:=bt HB8 hb;have HQ9:=qh (HQ8.o.below hb);have HS9:=qh (HS8.o.below hb);have hz9:=hb.size;have HG:=qh (show P.c6h (d,p,n) line rep=(d,(P.appS d p n line rep).1,(P.appS d p n line rep).2.1) from rfl);rw [HG.o]at HP;generalize P.appS d p n line rep=g9 at *;obtain⟨p9,n9,c9⟩:=g9;simp only at HP⊢;clear hb HB8 HQ8 HS8 x0 x1 x2 x3 x4 x5 x6 HG;obtain⟨w10,hw10⟩:∃v,wr3 w9 w5.heap.size d p9 n9=v:=⟨_,rfl⟩;have hc10:Chg (fun b=>b=w5.heap.size) w9 w10:=by rw [←hw10];exact b8b _ _ _ _ _
  have HS10:=qh (show SesM (w.heap.size+2) w5.heap.size (l2,(st2,sc2)) (d,p9,n9) w10 from by rw [←hw10];exact HS9.o.log);have HQ10:=qh (show SQ w.heap.size (.slice ad l.length cap) (.slice sd st.length sap) sc d p n w10 from⟨HQ9.o.1.a0e hc10 (fun h=>by have h9:w.heap.size=w5.heap.size:=h;omega),HQ9.o.2.a0e hc10 (fun h=>by have h9:w.heap.size+1=w5.heap.size:=h;omega)⟩);have HB10:=qh (Chg.a0k HB9.o hc10 HB9.o.size (fun b h=>by have h9:b=w5.heap.size:=h;omega));have hz10:=hc10.size;obtain⟨_,_,zu9,zus9,hzs,_⟩:=HS9.o;obtain⟨⟨o0,o1,o2,o3,o4,o5,o6⟩,g0,g1,g2,g3,g4,g5⟩:=hzs;unfold wr3 at hw10
  go_upto_region 13 with fail
  try rw [hw10]
  clear hw10 hc10 HB9 HQ9 HS9 o0 o1 o2 o3 o4 o5 o6 g0 g1 g2 g3 g4 g5;obtain⟨_,_,bu,bus,hso,hrows⟩:=HS10.o;simp only at hso hrows;obtain⟨ba,bc,rfl,_,_⟩:=id hrows.dic;obtain⟨ia,ic,rfl,_,_⟩:=id hrows.str;obtain⟨⟨o0,o1,o2,o3,o4,o5,o6⟩,_⟩:=hso;obtain⟨⟨r0,r1,r2,r3,r4,r5,r6⟩,f0,f1,f2,f3,f4,f5⟩:=HQ10.o.2;obtain⟨V,hV⟩:∃v,wr6 w10 (w.heap.size+1) (.slice ba l2.length bc) (.slice ia st2.length ic) sc2 d p9 n9=v:=⟨_,rfl⟩;have hset:Chg (fun b=>b=w.heap.size+1) w10 V:=by rw [←hV];exact a6d _ _ _ _ _ _ _ _
  have HRV:=qh (show SOut (w.heap.size+1) (.slice ba l2.length bc) (.slice ia st2.length ic) sc2 d p9 n9 V from by rw [←hV];exact a7a HQ10.o.2 _ _ _ _ _ _);have HBV:=qh (Chg.a0k HB10.o hset HB10.o.size (fun b h=>by have h9:b=w.heap.size+1:=h;omega));have HROW:=qh ((hrows.a6k hset (fun b h=>by have h9:b=w.heap.size+1:=h;omega)).lo (lo':=w.heap.size) oZ);unfold wr6 at hV;clear hrows;go_wp2
  try rw [hV]
  clear hset hV;obtain⟨q0,q1,q2,q3,q4,q5,q6⟩:=HRV.o.1;refine bodyPost_ret (v:=.tuple #[a1e (.slice ba l2.length bc) (.slice ia st2.length ic) sc2 d p9 n9,.string (S rep)]) (by simp [results,Tryz.results34,go_sem,q0,q1,q2,q3,q4,q5]) rfl ⟨_,_,w5.heap.size,by rw [HP.o]<;>rfl,by rw [HP.o];exact HROW.o,HBV.o⟩
set_option maxHeartbeats 8000000
def b7z (a b:Nat) (u us x xs:Value) (sc d p:Str) (n:Int) (v:World):Prop:=SBox a u us sc d p n v∧SBox b x xs sc d p n v
theorem c3p (u us:Value) (l:P.Dic) (st:List Int) (sc d p:Str) (n:Int) (tx:Str) (w:World) (hu:EntA w u l) (ht:∀e∈l,e.2.length≤9223372036854775807) (hus:IntA w us st) (hsc:sc.length≤9223372036854775807) (hd:d.length≤maxLen) (hp:p.length≤maxLen) (_htx:tx.length≤maxLen) (hE:L.Env w) :
 Calls Tryz.prog 6 #[a1e u us sc d p n,.string (S tx)] w fun e w'=>e=.returned (.bool true)∧Below w.heap.size w w':=by
 have HUA:=qh hu;have HUSA:=qh hus;have HE:=qh hE;have HT:=qh ht
 have HZE:=qh (P.a3e l)
 obtain⟨W0,hW0⟩:∃v,w.alloc (a1z u us sc d p n)=v:=⟨_,rfl⟩
 have hb0:Below w.heap.size w W0:=by rw [←hW0];exact bZ.alloc lZ _
 have hx0:SBox w.heap.size u us sc d p n W0:=by rw [←hW0];exact SBox.newL u us sc d p n w
 clear hE ht
 obtain⟨ad,cap,rfl,_,_⟩:=hu
 obtain⟨sd,sap,rfl,_,_⟩:=hus
 have HX_0:=qh hx0;have HB_0:=qh hb0
 clear hx0 hb0
 go_enter Tryz.func6,Tryz.ntmps6
 go_upto_region 1 with fail
 try rw [hW0]
 clear hW0
 by_cases hbig:1048576<tx.length
 ·have hbi:(1048576:Int)<(tx.length:Int):=by omega
  go_wp2;go_ret;exact⟨rfl,HB_0.o⟩
 have hbi:¬(1048576:Int)<(tx.length:Int):=by omega
 have htx:tx.length≤2^20:=by omega
 clear hbig
 obtain⟨c0,c1,c2,c3,c4,c5,_⟩:=HX_0.o
 go_wp2_with fail
 refine (d1c _ _ l st sc d p n 1048576 _ (HUA.o.below HB_0.o) HT.o (HUSA.o.below HB_0.o) hsc hd hp dZ dZ).mono ?_
 rintro e w1 ⟨⟨r,rfl,hr0,hr⟩,hb⟩
 have HR:=qh hr
 clear hr hsc hd hp
 clear c0 c1 c2 c3 c4 c5
 have HX_1:=qh (HX_0.o.below hb)
 have HB_1:=bt HB_0 hb
 clear HX_0 HB_0 hb
 by_cases hn1:r<0
 ·go_wp2;go_ret;exact⟨rfl,HB_1.o⟩
 have hsz:P.c5d l st sc d p≤1048576:=by have:=HR.o oZ;omega
 unfold P.c5d at hsz
 have HSM:=qh (d4i (l:=l) (by have:=HZE.o;omega))
 have HLN:=qh (show st.length≤2^20∧d.length≤2^20∧p.length≤2^20 by have:=HZE.o;omega)
 have HFIT:=qh (show P.Fit (l,(st,sc)) (d,p,n) from⟨HSM.o.len,HSM.o.outs,HSM.o.texts,HLN.o.1,HLN.o.2.1,HLN.o.2.2⟩)
 have HKA:=qh (show 0≤P.kAt 1 l+(st.length:Int)∧P.kAt 1 l≤2^40 by have h1:=P.d7c 1 l;have h2:=P.a8x 1 l;have h3:=HZE.o;omega)
 have HU:=qh (HUA.o.read HSM.o.len HSM.o.outs);have HUS:=qh (HUSA.o.read HLN.o.1)
 clear HR hsz HT HZE HUA HUSA hr0
 obtain⟨c0,c1,c2,c3,c4,c5,_⟩:=HX_1.o
 go_wp2_with fail
 refine (b0b _ _ l st sc d p n _ (HU.o.below HB_1.o) (HUS.o.below HB_1.o) HSM.o HLN.o.1).mono ?_
 rintro e w2 ⟨u2,u2s,u2m,rfl,hX,hY,hm1,hm2,hb⟩
 clear c0 c1 c2 c3 c4 c5
 have HX_2:=qh (HX_1.o.below hb)
 have HB_2:=bt HB_1 hb
 clear HX_1 HB_1 hb
 have HD2_0:=qh (Ents.read hX)
 have HI2_0:=qh (Ints.read hY)
 clear hX hY
 go_wp2_with fail
 refine (c0t _ _ l st sc d p n tx _ HD2_0.o HI2_0.o HFIT.o htx (HE.o.below HB_2.o HE.o.size)).mono ?_
 rintro e w3 ⟨v,vs,BB,rfl,hr,hb⟩
 have hbz3:w.heap.size≤w3.heap.size:=Nat.le_trans HB_2.o.size hb.size
 have hex:=P.d4l (l,(st,sc)) (d,p,n) tx
 have hfx:=P.d5j (line:=tx) HFIT.o
 obtain⟨⟨⟨⟨l2,st2,sc2⟩,d2,p2,n2⟩,rep⟩,hrs⟩:∃a,P.exec (l,(st,sc)) (d,p,n) tx=a:=⟨_,rfl⟩
 have HRS:=qh hrs
 rw [hrs]at hex hfx
 simp only at hex hfx
 clear hrs
 have HKB:=qh (show P.kAt 1 l2≤2^40∧0≤P.kAt 1 l2+(st2.length:Int)∧st2.length≤2^20 from by have h1:=P.a8x 1 l2;have h2:=hfx.2.2.2.1;simp only at h2;have h3:=HKA.o.2;exact⟨by rcases hex with e|e;rw [e];exact h3;omega,by omega,h2⟩)
 clear hex hfx
 clear HD2_0
 clear HI2_0
 have HX_3:=qh (HX_2.o.below hb)
 have HB_3:=bt HB_2 hb
 clear HX_2 HB_2 hb
 rw [HRS.o]at hr⊢
 simp only at hr⊢
 obtain⟨vF,vG,hr1,hr2,hr3,hr4,hr5⟩:=hr
 obtain⟨va,vc,rfl,-,-⟩:=id hr1
 obtain⟨ve,vf,rfl,-,-⟩:=id hr2
 obtain⟨w4,hw4⟩:∃v,w3.alloc (a0d (.slice va l2.length vc) (.slice ve st2.length vf) sc2 d2 p2 n2)=v:=⟨_,rfl⟩
 have hba:Below w3.heap.size w3 w4:=by rw [←hw4];exact bZ.alloc lZ _
 have hzw4:w3.heap.size<w4.heap.size:=by rw [←hw4];simp
 have HX_4:=qh (HX_3.o.below hba)
 have HB_4:=bt HB_3 hba
 clear HX_3 HB_3
 have HEw_0:=qh (hr1.below a0b hba)
 have HIw_0:=qh (hr2.below a0g hba)
 have HBw_0:=qh (show SBox w3.heap.size (.slice va l2.length vc) (.slice ve st2.length vf) sc2 d2 p2 n2 w4 from by rw [←hw4];exact SBox.new _ _ _ _ _ _ _)
 clear hr1 hr2 hba
 go_upto_region 8 with fail
 try rw [hw4]
 clear hw4
 have HVS:=qh (show (∀k,vF k→k<w3.heap.size)∧(∀k,vG k→k<w3.heap.size) from⟨fun k h=>(hr3 k h).2.1,fun k h=>(hr4 k h).2.1⟩)
 have hzz:w.heap.size≤w3.heap.size:=hbz3
 clear hr3 hr4 hr5
 generalize hbw:w3.heap.size=bw at *
 clear hbw
 obtain⟨c0,c1,c2,c3,c4,c5,_⟩:=HX_4.o
 go_wp2_with fail
 refine (b0b _ _ l st sc d p n _ (HU.o.below HB_4.o) (HUS.o.below HB_4.o) HSM.o HLN.o.1).mono ?_
 rintro e w5 ⟨x,xs,xm,rfl,hX,hY,hm1,hm2,hb⟩
 clear c0 c1 c2 c3 c4 c5
 obtain⟨xa,xc,rfl,-,-⟩:=id hX
 obtain⟨ya,yc,rfl,-,-⟩:=id hY
 have hb4:=hb.size
 have HX_5:=qh (HX_4.o.below hb)
 have HB_5:=bt HB_4 hb
 have HEw_1:=qh (HEw_0.o.below a0b hb)
 have HIw_1:=qh (HIw_0.o.below a0g hb)
 have HBw_1:=qh (HBw_0.o.below hb)
 clear HX_4 HB_4 HEw_0 HIw_0 HBw_0 hb
 obtain⟨w6,hw6⟩:∃v,w5.alloc (a0d (.slice xa l.length xc) (.slice ya st.length yc) sc d p n)=v:=⟨_,rfl⟩
 have hba:Below w5.heap.size w5 w6:=by rw [←hw6];exact bZ.alloc lZ _
 have hz5:w5.heap.size<w6.heap.size:=by rw [←hw6];simp
 have HX_6:=qh (HX_5.o.below hba)
 have HB_6:=bt HB_5 hba
 have HEw_2:=qh (HEw_1.o.below a0b hba)
 have HIw_2:=qh (HIw_1.o.below a0g hba)
 have HBw_2:=qh (HBw_1.o.below hba)
 clear HX_5 HB_5 HEw_1 HIw_1 HBw_1
 have HP_0:=qh (hX.below a0b hba)
 have HQ_0:=qh (hY.below a0g hba)
 have HLT_0:=qh (Nat.le_of_lt hz5)
 have HY_0:=qh (show SBox w5.heap.size (.slice xa l.length xc) (.slice ya st.length yc) sc d p n w6 from by rw [←hw6];exact SBox.new _ _ _ _ _ _ _)
 clear hX hY hba
 go_upto_region 9 with fail
 try rw [hw6]
 clear hw6
 generalize w5.heap.size=b at *
 obtain⟨c0,c1,c2,c3,c4,c5,_⟩:=HY_0.o
 go_wp2_with fail
 refine (b2r _ _ l st sc d p n tx _ (Ents.read HP_0.o) (Ints.read HQ_0.o) HFIT.o htx (HE.o.below HB_6.o HE.o.size)).mono ?_
 rintro e w7 ⟨q,qs,BQ,rfl,hr,hb⟩
 have hbz7:=hb.size
 clear c0 c1 c2 c3 c4 c5
 have HX_7:=qh (HX_6.o.below hb)
 have HB_7:=bt HB_6 hb
 have HEw_3:=qh (HEw_2.o.below a0b hb)
 have HIw_3:=qh (HIw_2.o.below a0g hb)
 have HBw_3:=qh (HBw_2.o.below hb)
 have HP_1:=qh (HP_0.o.below a0b hb)
 have HQ_1:=qh (HQ_0.o.below a0g hb)
 have HLT_1:=qh (Nat.le_trans HLT_0.o hb.size)
 have HY_1:=qh (HY_0.o.below hb)
 clear HX_6 HB_6 HEw_2 HIw_2 HBw_2 HP_0 HQ_0 HLT_0 HY_0 hb
 rw [HRS.o]at hr⊢
 simp only at hr⊢
 obtain⟨qF,qG,hr1,hr2,hr3,hr4,hr5⟩:=hr
 obtain⟨qa,qc,rfl,-,-⟩:=id hr1
 obtain⟨qe,qf,rfl,-,-⟩:=id hr2
 obtain⟨w8,hw8⟩:∃v,w7.alloc (a0d (.slice qa l2.length qc) (.slice qe st2.length qf) sc2 d2 p2 n2)=v:=⟨_,rfl⟩
 have hba:Below w7.heap.size w7 w8:=by rw [←hw8];exact bZ.alloc lZ _
 have hzw8:w7.heap.size<w8.heap.size:=by rw [←hw8];simp
 have HX_8:=qh (HX_7.o.below hba)
 have HB_8:=bt HB_7 hba
 have HEw_4:=qh (HEw_3.o.below a0b hba)
 have HIw_4:=qh (HIw_3.o.below a0g hba)
 have HBw_4:=qh (HBw_3.o.below hba)
 have HP_2:=qh (HP_1.o.below a0b hba)
 have HQ_2:=qh (HQ_1.o.below a0g hba)
 have HLT_2:=qh (Nat.le_trans HLT_1.o hba.size)
 have HY_2:=qh (HY_1.o.below hba)
 clear HX_7 HB_7 HEw_3 HIw_3 HBw_3 HP_1 HQ_1 HLT_1 HY_1
 have HEg_0:=qh (hr1.below a0b hba)
 have HIg_0:=qh (hr2.below a0g hba)
 have HBg_0:=qh (show SBox w7.heap.size (.slice qa l2.length qc) (.slice qe st2.length qf) sc2 d2 p2 n2 w8 from by rw [←hw8];exact SBox.new _ _ _ _ _ _ _)
 clear hr1 hr2 hba
 go_upto_region 10 with fail
 try rw [hw8]
 clear hw8
 have HQS:=qh (show (∀k,qF k→w6.heap.size≤k∧k<w7.heap.size)∧(∀k,qG k→w6.heap.size≤k∧k<w7.heap.size)∧(∀k,qF k→qG k→False) from⟨fun k h=>⟨(hr3 k h).1,(hr3 k h).2.1⟩,fun k h=>⟨(hr4 k h).1,(hr4 k h).2.1⟩,hr5⟩)
 have hzg:w6.heap.size≤w7.heap.size:=hbz7
 clear hr3 hr4 hr5
 generalize hbg:w7.heap.size=bg at *
 clear hbg
 obtain⟨c0,c1,c2,c3,c4,c5,_⟩:=HBg_0.o
 obtain⟨k0,k1,k2,k3,k4,k5,_⟩:=HBw_4.o
 go_wp2_with fail
 refine (b0e _ _ _ _ l2 st2 sc2 d2 p2 n2 _ (Ents.read HEg_0.o) (Ents.read HEw_4.o) (Ints.read HIg_0.o) (Ints.read HIw_4.o)).mono ?_
 rintro e w9 ⟨rfl,hb⟩
 clear c0 c1 c2 c3 c4 c5
 clear k0 k1 k2 k3 k4 k5
 have HX_9:=qh (HX_8.o.below hb)
 have HB_9:=bt HB_8 hb
 have HEw_5:=qh (HEw_4.o.below a0b hb)
 have HIw_5:=qh (HIw_4.o.below a0g hb)
 have HBw_5:=qh (HBw_4.o.below hb)
 have HP_3:=qh (HP_2.o.below a0b hb)
 have HQ_3:=qh (HQ_2.o.below a0g hb)
 have HLT_3:=qh (Nat.le_trans HLT_2.o hb.size)
 have HY_3:=qh (HY_2.o.below hb)
 have HEg_1:=qh (HEg_0.o.below a0b hb)
 have HIg_1:=qh (HIg_0.o.below a0g hb)
 have HBg_1:=qh (HBg_0.o.below hb)
 clear HX_8 HB_8 HEw_4 HIw_4 HBw_4 HP_2 HQ_2 HLT_2 HY_2 HEg_0 HIg_0 HBg_0 hb
 have hdd:Below w9.heap.size w9 w9.drew:=bZ.drew
 have HX_10:=qh (HX_9.o.below hdd)
 have HB_10:=bt HB_9 hdd
 have HEw_6:=qh (HEw_5.o.below a0b hdd)
 have HIw_6:=qh (HIw_5.o.below a0g hdd)
 have HBw_6:=qh (HBw_5.o.below hdd)
 have HP_4:=qh (HP_3.o.below a0b hdd)
 have HQ_4:=qh (HQ_3.o.below a0g hdd)
 have HLT_4:=qh (Nat.le_trans HLT_3.o hdd.size)
 have HY_4:=qh (HY_3.o.below hdd)
 have HEg_2:=qh (HEg_1.o.below a0b hdd)
 have HIg_2:=qh (HIg_1.o.below a0g hdd)
 have HBg_2:=qh (HBg_1.o.below hdd)
 clear HX_9 HB_9 HEw_5 HIw_5 HBw_5 HP_3 HQ_3 HLT_3 HY_3 HEg_1 HIg_1 HBg_1 hdd
 go_upto_region 12 with fail
 refine wp_region_held_drew (S:=b7z w.heap.size b (.slice ad l.length cap) (.slice sd st.length sap) (.slice xa l.length xc) (.slice ya st.length yc) sc d p n) kZ ⟨HX_10.o,HY_4.o⟩ (fun hS0=>?_)
 generalize w9.drew=y0 at *
 refine tk 0 (a1e (.slice xa l.length xc) (.slice ya st.length yc) sc d p n) (fun z hz=>by obtain⟨⟨z0,z1,z2,z3,z4,z5,z6⟩,y0',y1,y2,y3,y4,y5,y6⟩:=hz;go_simp) hS0 ?_
 refine tk 1 (a1e (.slice ad l.length cap) (.slice sd st.length sap) sc d p n) (fun z hz=>by obtain⟨⟨z0,z1,z2,z3,z4,z5,z6⟩,y0',y1,y2,y3,y4,y5,y6⟩:=hz;go_simp) hS0 ?_
 refine trd 2 fun K hK=>?_
 go_simp
 refine (b0b _ _ l st sc d p n _ (HU.o.below HB_10.o) (HUS.o.below HB_10.o) HSM.o HLN.o.1).mono ?_
 rintro e y7 ⟨x2,xs2,m2,rfl,hX,hY,_,_,hb⟩
 refine hK.out _ _ ⟨hS0.1.below hb,hS0.2.below hb⟩ (fun hS1=>?_)
 clear hK K hS0
 have HX_11:=qh (HX_10.o.below hb)
 have HB_11:=bt HB_10 hb
 have HEw_7:=qh (HEw_6.o.below a0b hb)
 have HIw_7:=qh (HIw_6.o.below a0g hb)
 have HBw_7:=qh (HBw_6.o.below hb)
 have HP_5:=qh (HP_4.o.below a0b hb)
 have HQ_5:=qh (HQ_4.o.below a0g hb)
 have HLT_5:=qh (Nat.le_trans HLT_4.o hb.size)
 have HY_5:=qh (HY_4.o.below hb)
 have HEg_3:=qh (HEg_2.o.below a0b hb)
 have HIg_3:=qh (HIg_2.o.below a0g hb)
 have HBg_3:=qh (HBg_2.o.below hb)
 clear HX_10 HB_10 HEw_6 HIw_6 HBw_6 HP_4 HQ_4 HLT_4 HY_4 HEg_2 HIg_2 HBg_2 hb
 have HD9_0:=qh (Ents.read hX)
 have HI9_0:=qh (Ints.read hY)
 clear hX hY
 try simp only [qA,qB,qC,Act.put,qD,qE,qF]
 refine trd 3 fun K hK=>?_
 go_simp
 refine (b0e _ _ _ _ l st sc d p n _ (Ents.read HP_5.o) HD9_0.o (Ints.read HQ_5.o) HI9_0.o).mono ?_
 rintro e y8 ⟨rfl,hb⟩
 refine hK.out _ _ ⟨hS1.1.below hb,hS1.2.below hb⟩ (fun hS2=>?_)
 clear hK K hS1
 clear HD9_0
 clear HI9_0
 have HX_12:=qh (HX_11.o.below hb)
 have HB_12:=bt HB_11 hb
 have HEw_8:=qh (HEw_7.o.below a0b hb)
 have HIw_8:=qh (HIw_7.o.below a0g hb)
 have HBw_8:=qh (HBw_7.o.below hb)
 have HP_6:=qh (HP_5.o.below a0b hb)
 have HQ_6:=qh (HQ_5.o.below a0g hb)
 have HLT_6:=qh (Nat.le_trans HLT_5.o hb.size)
 have HY_6:=qh (HY_5.o.below hb)
 have HEg_4:=qh (HEg_3.o.below a0b hb)
 have HIg_4:=qh (HIg_3.o.below a0g hb)
 have HBg_4:=qh (HBg_3.o.below hb)
 clear HX_11 HB_11 HEw_7 HIw_7 HBw_7 HP_5 HQ_5 HLT_5 HY_5 HEg_3 HIg_3 HBg_3 hb
 try simp only [qA,qB,qC,Act.put,qD,qE,qF]
 refine tk 4 (.bool false) (fun z hz=>by obtain⟨⟨z0,z1,z2,z3,z4,z5,z6⟩,y0',y1,y2,y3,y4,y5,y6⟩:=hz;go_simp) hS2 ?_
 refine wpAnyH_done kZ ?_ _
 clear hS2
 obtain⟨c0,c1,c2,c3,c4,c5,_⟩:=HY_6.o
 go_wp2_with fail
 refine (b3r _ _ l st sc d p n 1 (Bet w4.heap.size xm) (Bet xm b) _ HP_6.o HQ_6.o (fun k h=>by have h1:=h.2;have h3:=HLT_6.o;omega) (fun k h=>by have h1:=h.2;have h3:=HLT_6.o;omega) (fun k h1 h2=>by have h3:=h1.2;have h4:=h2.1;omega) dZ HKA.o.2).mono ?_
 rintro e w10 ⟨rfl,_,_,hc⟩
 clear c0 c1 c2 c3 c4 c5
 clear HP_6
 clear HQ_6
 clear HLT_6
 have hFG:∀k,(Bet w4.heap.size xm k∨Bet xm b k)→w4.heap.size≤k∧k<b:=fun k h=>by rcases h with h|h<;>(have h1:=h.1;have h2:=h.2;omega)
 have hka:=HKA.o.1
 have hkn:¬P.kAt 1 l+(st.length:Int)<0:=by omega
 have HX_13:=qh (HX_12.o.a0e hc (fun k=>by have h1:=hFG _ k;omega))
 have HB_13:=qh (Chg.a0k HB_12.o hc HB_12.o.size (fun k h=>by have h1:=hFG k h;omega))
 have HEw_9:=qh (HEw_8.o.a0e a0b hc (fun k h1 h2=>by have h3:=hFG _ h2;have h4:=HVS.o.1 k h1;omega))
 have HIw_9:=qh (HIw_8.o.a0e a0g hc (fun k h1 h2=>by have h3:=hFG _ h2;have h4:=HVS.o.2 k h1;omega))
 have HBw_9:=qh (HBw_8.o.a0e hc (fun k=>by have h1:=hFG _ k;omega))
 have HY_7:=qh (HY_6.o.a0e hc (fun k=>by have h1:=hFG _ k;omega))
 have HEg_5:=qh (HEg_4.o.a0e a0b hc (fun k h1 h2=>by have h3:=hFG _ h2;have h4:=HQS.o.1 k h1;omega))
 have HIg_5:=qh (HIg_4.o.a0e a0g hc (fun k h1 h2=>by have h3:=hFG _ h2;have h4:=HQS.o.2.1 k h1;omega))
 have HBg_5:=qh (HBg_4.o.a0e hc (fun k=>by have h1:=hFG _ k;omega))
 clear HX_12 HB_12 HEw_8 HIw_8 HBw_8 HY_6 HEg_4 HIg_4 HBg_4 hc hFG
 obtain⟨c0,c1,c2,c3,c4,c5,_⟩:=HBg_5.o
 obtain⟨k0,k1,k2,k3,k4,k5,_⟩:=HBw_9.o
 go_wp2_with fail
 refine (b0e _ _ _ _ l2 st2 sc2 d2 p2 n2 _ (Ents.read HEg_5.o) (Ents.read HEw_9.o) (Ints.read HIg_5.o) (Ints.read HIw_9.o)).mono ?_
 rintro e w11 ⟨rfl,hb⟩
 clear c0 c1 c2 c3 c4 c5
 clear k0 k1 k2 k3 k4 k5
 have HX_14:=qh (HX_13.o.below hb)
 have HB_14:=bt HB_13 hb
 have HEw_10:=qh (HEw_9.o.below a0b hb)
 have HIw_10:=qh (HIw_9.o.below a0g hb)
 have HBw_10:=qh (HBw_9.o.below hb)
 have HY_8:=qh (HY_7.o.below hb)
 have HEg_6:=qh (HEg_5.o.below a0b hb)
 have HIg_6:=qh (HIg_5.o.below a0g hb)
 have HBg_6:=qh (HBg_5.o.below hb)
 clear HX_13 HB_13 HEw_9 HIw_9 HBw_9 HY_7 HEg_5 HIg_5 HBg_5 hb
 clear HY_8
 obtain⟨c0,c1,c2,c3,c4,c5,_⟩:=HBg_6.o
 go_wp2_with fail
 refine (b3r _ _ l2 st2 sc2 d2 p2 n2 1 qF qG _ HEg_6.o HIg_6.o (fun k h=>by have h1:=HQS.o.1 k h;have h2:=HBg_6.o.2.2.2.2.2.2;omega) (fun k h=>by have h1:=HQS.o.2.1 k h;have h2:=HBg_6.o.2.2.2.2.2.2;omega) HQS.o.2.2 dZ HKB.o.1).mono ?_
 rintro e w12 ⟨rfl,hm9,hn9,hc⟩
 clear c0 c1 c2 c3 c4 c5
 clear HEg_6
 clear HIg_6
 have hFG:∀k,(qF k∨qG k)→w6.heap.size≤k∧k<bg:=fun k h=>by rcases h with h|h;exact HQS.o.1 k h;exact HQS.o.2.1 k h
 have HX_15:=qh (HX_14.o.a0e hc (fun k=>by have h1:=hFG _ k;omega))
 have HB_15:=qh (Chg.a0k HB_14.o hc HB_14.o.size (fun k h=>by have h1:=hFG k h;omega))
 have HEw_11:=qh (HEw_10.o.a0e a0b hc (fun k h1 h2=>by have h3:=hFG _ h2;have h4:=HVS.o.1 k h1;omega))
 have HIw_11:=qh (HIw_10.o.a0e a0g hc (fun k h1 h2=>by have h3:=hFG _ h2;have h4:=HVS.o.2 k h1;omega))
 have HBw_11:=qh (HBw_10.o.a0e hc (fun k=>by have h1:=hFG _ k;omega))
 have HBg_7:=qh (HBg_6.o.a0e hc (fun k=>by have h1:=hFG _ k;omega))
 clear HX_14 HB_14 HEw_10 HIw_10 HBw_10 HBg_6 hc hFG
 have HEm_0:=qh (hm9)
 have HIm_0:=qh (hn9)
 clear hm9 hn9 hkn hka
 have hkb:=HKB.o.2.1
 have hrn:¬P.kAt 1 l2+(st2.length:Int)<0:=by omega
 obtain⟨c0,c1,c2,c3,c4,c5,_⟩:=HBg_7.o
 go_wp2_with fail
 refine (b4d _ _ l2 st2.length sc2 d2 p2 n2 1 _ (Ents.read HEm_0.o) (Ints.read HIm_0.o) (by have h:=HKB.o.2.2;omega) dZ HKB.o.1).mono ?_
 rintro e w13 ⟨rfl,hb⟩
 clear c0 c1 c2 c3 c4 c5
 have HX_16:=qh (HX_15.o.below hb)
 have HB_16:=bt HB_15 hb
 have HEw_12:=qh (HEw_11.o.below a0b hb)
 have HIw_12:=qh (HIw_11.o.below a0g hb)
 have HBw_12:=qh (HBw_11.o.below hb)
 have HBg_8:=qh (HBg_7.o.below hb)
 have HEm_1:=qh (HEm_0.o.below a0b hb)
 have HIm_1:=qh (HIm_0.o.below a0g hb)
 clear HX_15 HB_15 HEw_11 HIw_11 HBw_11 HBg_7 HEm_0 HIm_0 hb
 obtain⟨c0,c1,c2,c3,c4,c5,_⟩:=HX_16.o
 go_wp2_with fail
 refine (b0b _ _ l st sc d p n _ (HU.o.below HB_16.o) (HUS.o.below HB_16.o) HSM.o HLN.o.1).mono ?_
 rintro e w14 ⟨u3,u3s,u3m,rfl,hX,hY,hm1,hm2,hb⟩
 clear c0 c1 c2 c3 c4 c5
 have HX_17:=qh (HX_16.o.below hb)
 have HB_17:=bt HB_16 hb
 have HEw_13:=qh (HEw_12.o.below a0b hb)
 have HIw_13:=qh (HIw_12.o.below a0g hb)
 have HBw_13:=qh (HBw_12.o.below hb)
 have HBg_9:=qh (HBg_8.o.below hb)
 have HEm_2:=qh (HEm_1.o.below a0b hb)
 have HIm_2:=qh (HIm_1.o.below a0g hb)
 clear HX_16 HB_16 HEw_12 HIw_12 HBw_12 HBg_8 HEm_1 HIm_1 hb
 have HD3_0:=qh (Ents.read hX)
 have HI3_0:=qh (Ints.read hY)
 clear hX hY
 go_wp2_with fail
 refine (b2r _ _ l st sc d p n tx _ HD3_0.o HI3_0.o HFIT.o htx (HE.o.below HB_17.o HE.o.size)).mono ?_
 rintro e w15 ⟨t,ts,BT,rfl,hr,hb⟩
 clear HD3_0
 clear HI3_0
 have HX_18:=qh (HX_17.o.below hb)
 have HB_18:=bt HB_17 hb
 have HEw_14:=qh (HEw_13.o.below a0b hb)
 have HIw_14:=qh (HIw_13.o.below a0g hb)
 have HBw_14:=qh (HBw_13.o.below hb)
 have HBg_10:=qh (HBg_9.o.below hb)
 have HEm_3:=qh (HEm_2.o.below a0b hb)
 have HIm_3:=qh (HIm_2.o.below a0g hb)
 clear HX_17 HB_17 HEw_13 HIw_13 HBw_13 HBg_9 HEm_2 HIm_2 hb
 rw [HRS.o]at hr⊢
 simp only at hr⊢
 obtain⟨tF,tG,hr1,hr2,hr3,hr4,hr5⟩:=hr
 obtain⟨ta,tc,rfl,-,-⟩:=id hr1
 obtain⟨te,tf,rfl,-,-⟩:=id hr2
 obtain⟨w16,hw16⟩:∃v,w15.alloc (a0d (.slice ta l2.length tc) (.slice te st2.length tf) sc2 d2 p2 n2)=v:=⟨_,rfl⟩
 have hba:Below w15.heap.size w15 w16:=by rw [←hw16];exact bZ.alloc lZ _
 have hzw16:w15.heap.size<w16.heap.size:=by rw [←hw16];simp
 have HX_19:=qh (HX_18.o.below hba)
 have HB_19:=bt HB_18 hba
 have HEw_15:=qh (HEw_14.o.below a0b hba)
 have HIw_15:=qh (HIw_14.o.below a0g hba)
 have HBw_15:=qh (HBw_14.o.below hba)
 have HBg_11:=qh (HBg_10.o.below hba)
 have HEm_4:=qh (HEm_3.o.below a0b hba)
 have HIm_4:=qh (HIm_3.o.below a0g hba)
 clear HX_18 HB_18 HEw_14 HIw_14 HBw_14 HBg_10 HEm_3 HIm_3
 have HEt_0:=qh (hr1.below a0b hba)
 have HIt_0:=qh (hr2.below a0g hba)
 have HBt_0:=qh (show SBox w15.heap.size (.slice ta l2.length tc) (.slice te st2.length tf) sc2 d2 p2 n2 w16 from by rw [←hw16];exact SBox.new _ _ _ _ _ _ _)
 clear hr1 hr2 hba
 go_upto_region 27 with fail
 try rw [hw16]
 clear hw16
 obtain⟨c0,c1,c2,c3,c4,c5,_⟩:=HBt_0.o
 obtain⟨k0,k1,k2,k3,k4,k5,_⟩:=HBw_15.o
 go_wp2_with fail
 refine (b0e _ _ _ _ l2 st2 sc2 d2 p2 n2 _ (Ents.read HEt_0.o) (Ents.read HEw_15.o) (Ints.read HIt_0.o) (Ints.read HIw_15.o)).mono ?_
 rintro e w17 ⟨rfl,hb⟩
 clear c0 c1 c2 c3 c4 c5
 clear k0 k1 k2 k3 k4 k5
 have HX_20:=qh (HX_19.o.below hb)
 have HB_20:=bt HB_19 hb
 have HEw_16:=qh (HEw_15.o.below a0b hb)
 have HIw_16:=qh (HIw_15.o.below a0g hb)
 have HBw_16:=qh (HBw_15.o.below hb)
 have HBg_12:=qh (HBg_11.o.below hb)
 have HEm_5:=qh (HEm_4.o.below a0b hb)
 have HIm_5:=qh (HIm_4.o.below a0g hb)
 have HEt_1:=qh (HEt_0.o.below a0b hb)
 have HIt_1:=qh (HIt_0.o.below a0g hb)
 have HBt_1:=qh (HBt_0.o.below hb)
 clear HX_19 HB_19 HEw_15 HIw_15 HBw_15 HBg_11 HEm_4 HIm_4 HEt_0 HIt_0 HBt_0 hb
 clear HBt_1
 clear HEt_1
 clear HIt_1
 obtain⟨c0,c1,c2,c3,c4,c5,_⟩:=HBg_12.o
 go_wp2_with fail
 refine (b4d _ _ l2 st2.length sc2 d2 p2 n2 1 _ (Ents.read HEm_5.o) (Ints.read HIm_5.o) (by have h:=HKB.o.2.2;omega) dZ HKB.o.1).mono ?_
 rintro e w18 ⟨rfl,hb⟩
 clear c0 c1 c2 c3 c4 c5
 have HX_21:=qh (HX_20.o.below hb)
 have HB_21:=bt HB_20 hb
 have HEw_17:=qh (HEw_16.o.below a0b hb)
 have HIw_17:=qh (HIw_16.o.below a0g hb)
 have HBw_17:=qh (HBw_16.o.below hb)
 have HBg_13:=qh (HBg_12.o.below hb)
 have HEm_6:=qh (HEm_5.o.below a0b hb)
 have HIm_6:=qh (HIm_5.o.below a0g hb)
 clear HX_20 HB_20 HEw_16 HIw_16 HBw_16 HBg_12 HEm_5 HIm_5 hb
 go_wp2
 go_ret
 exact⟨rfl,HB_21.o⟩
end Go.Proofs.YtggfdnopminemaaGreatDoor
