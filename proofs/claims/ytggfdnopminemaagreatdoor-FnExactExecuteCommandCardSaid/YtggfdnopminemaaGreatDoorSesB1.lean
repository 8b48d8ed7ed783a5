/- Walks: commands with an outline, commands without arguments (program). -/
import Derived.Test.YtggfdnopminemaaGreatDoorZt
import Derived.Test.YtggfdnopminemaaGreatDoorSesF2
import Derived.Test.YtggfdnopminemaaGreatDoorSesR2
namespace Go.Proofs.YtggfdnopminemaaGreatDoor
namespace P
theorem b6r {s:Ses} {word more:Bs} (h:a1l more=none):a5k s word more=(s,none):=by unfold a5k;rw [h]
theorem b7q {s:Ses} {word more:Bs} {o:List Int} (h:a1l more=some o):a5k s word more=outl s word o:=by unfold a5k;rw [h]
theorem beqB {a b:Bs} (h:a=b):(a==b)=true:=by rw [h];simp
theorem beqN {a b:Bs} (h:a≠b):(a==b)=false:=by simpa using h
end P
open Go Go.RowKit
set_option maxHeartbeats 8000000
set_option maxRecDepth 100000
theorem a4o.after {lo B:Nat} {a:P.Ans} {g:P.LogT} {w w1 v:World} {e:Ending} (h:a4o lo B a g w1 e v) (hb:Below w.heap.size w w1):a4o lo B a g w e v:=by
 obtain⟨x,ok,h1,h2,h3,h4⟩:=h;exact⟨x,ok,h1,h2,h3,(Below.chg hb _).trans h4⟩
theorem b8i (k:Int) (w:World):IntR (w.alloc (.cells #[.int .i64 k] 3)) (.slice (some ⟨w.heap.size,0,none⟩) 1 1) [k]:=by
 refine⟨_,1,rfl,⟨by simp,by simp⟩,(fun h=>by cases h),.inr ⟨w.heap.size,0,rfl,by simp,fun j hj=>?_⟩⟩;have hj0:j=0:=by simp at hj;omega
 subst hj0;rw [World.cell?_alloc_new];rfl
theorem b1j (lo B:Nat) (l:P.Dic) (st:List Int) (sc d p:Str) (n:Int) (word more:Str) (w:World) (h:SesM lo B (l,(st,sc)) (d,p,n) w) (hm:Small l) (ht:P.trans l (st,sc)=true) (hl:more.length≤2^20) (hE:L.Env w) :
 Calls Tryz.prog 140 #[.pointer (some ⟨B,0,none⟩),.string (S word),.string (S more)] w (a4o lo B (P.a5k (l,(st,sc)) word more) (d,p,n) w):=by
 have HSM:=qh h;have HE:=qh hE;have HT:=qh ht
 have HNO:=qh (P.b6r (s:=(l,(st,sc))) (word:=word) (more:=more));have HSO:=qh (fun o=>P.b7q (s:=(l,(st,sc))) (word:=word) (more:=more) (o:=o))
 clear h hE ht
 go_enter Tryz.func140,Tryz.ntmps140
 go_wp2_with fail
 refine (a5s more _ oZ HE.o.dic).mono ?_
 rintro e w1 ⟨ou,rfl,ho,hb⟩
 have HB1:=qh hb;have HO:=qh ho;have HE1:=qh (HE.o.below hb HE.o.size);have HS1:=qh (HSM.o.below hb)
 obtain⟨oa,oc,rfl⟩:=a0i ho
 clear hb ho
 cases hp:P.a1l more with
 |none=>
  have HP:=qh (HNO.o hp);clear hp;go_wp2;go_ret2;exact HSM.o.keep (x:=[]) HB1.o HP.o
 |some o=>
  have HP0:=qh (show P.a5k (l,(st,sc)) word more=(if word=P.c8k then P.typed (l,(st,sc)) o else if word=P.b1y then P.a2x (l,(st,sc)) o else ((l,(st,sc)),P.optB (P.b5f o l))) from HSO.o o hp);have hov:=(P.a1n (P.a6i hp).1).2;rw [hp]at HO;simp only [Option.getD_some,Option.isSome_some]at HO⊢;have HOR:=qh (a1y HO.o (show o.length≤2^45 by omega));clear hp
  by_cases h1:word=[116,121,112,101]
  ·have HP:=qh (show P.a5k (l,(st,sc)) word more=P.typed (l,(st,sc)) o from HP0.o.trans (if_pos h1));have f1:=P.beqB h1;clear h1
   go_wp2_with fail
   refine (a9i lo B _ l st o sc d p n _ HS1.o hm HT.o HOR.o HE1.o).mono ?_;exact d9l
  ·have f1:=P.beqN h1
   by_cases h2:word=[100,101,108,101,116,101]
   ·have HP:=qh (show P.a5k (l,(st,sc)) word more=P.a2x (l,(st,sc)) o from HP0.o.trans ((if_neg h1).trans (if_pos h2)));have f2:=P.beqB h2;clear h1 h2
    go_wp2_with fail
    refine (c0g lo B _ l st o sc d p n _ HS1.o hm HT.o HOR.o HE1.o).mono ?_;exact d9l
   ·have f2:=P.beqN h2;have HP:=qh (show P.a5k (l,(st,sc)) word more=((l,(st,sc)),P.optB (P.b5f o l)) from HP0.o.trans ((if_neg h1).trans (if_neg h2)));clear h1 h2;obtain⟨_,_,u,us,hS,hR⟩:=HS1.o;have HU:=qh hR.dic;obtain⟨ad,cap,rfl,_,_⟩:=id hR.dic;obtain⟨⟨o0,o1,o2,o3,o4,o5,o6⟩,_⟩:=hS;simp only at o0 HU hR;clear hR
    go_wp2_with fail
    refine (c4d _ _ l o _ HU.o HOR.o hm HE1.o.dic).mono ?_;rintro e w2 ⟨rfl,hb⟩;have HB2:=bt HB1 hb;clear hb o0 o1 o2 o3 o4 o5 o6;go_wp2;go_ret2;exact⟨_,_,rfl,by rw [HP.o];rfl,by rw [HP.o];exact HSM.o.below HB2.o,Below.chg HB2.o _⟩
theorem c4m (lo B:Nat) (l:P.Dic) (st:List Int) (sc d p:Str) (n:Int) (word:Str) (w:World) (h:SesM lo B (l,(st,sc)) (d,p,n) w) (hm:Small l) (ht:P.trans l (st,sc)=true) (hE:L.Env w) :
 Calls Tryz.prog 71 #[.pointer (some ⟨B,0,none⟩),.string (S word)] w (a4o lo B (P.alone (l,(st,sc)) word) (d,p,n) w):=by
 have HSM:=qh h;have HE:=qh hE;have HT:=qh ht
 have HP0:=qh (show P.alone (l,(st,sc)) word=if word=P.d8x then P.typed (l,(st,sc)) [1024] else if word=P.c4b then ((l,(st,sc)),some sc) else if word=P.d0m then ((l,(st,sc)),some (P.num st.length)) else if word=P.c3s then ((l,(st,sc)),some ((P.num (P.segA l st).length++[32])++P.num (P.blank (P.segA l st)))) else ((l,(st,sc)),none) from rfl)
 have hs60:=(P.a1h ht).1
 try simp only at hs60
 obtain⟨hEB,hlo,u,us,hS,hR⟩:=h
 have hBz:B<w.heap.size:=hS.1.2.2.2.2.2.2
 have hu:=hR.dic;have hus:=hR.str
 simp only at hS hR hu hus
 have HU:=qh hu;have HUS:=qh hus
 obtain⟨ad,cap,rfl,_,_⟩:=hu
 obtain⟨sd,sap,rfl,_,_⟩:=hus
 obtain⟨⟨o0,o1,o2,o3,o4,o5,o6⟩,_⟩:=hS
 clear hE ht hR
 by_cases h1:word=[117,110,100,111]
 ·have HP:=qh (HP0.o.trans (if_pos h1));have f1:=P.beqB h1;have hba:=(Below.refl w.heap.size w).alloc lZ (.cells #[.int .i64 1024] 3);have HB1:=qh hba;have HS1:=qh (HSM.o.below hba);have HE1:=qh (HE.o.below hba HE.o.size);have HO:=qh (b8i 1024 w);clear h1 hba HP0
  go_enter Tryz.func71,Tryz.ntmps71
  go_wp2_with fail
  refine (a9i lo B _ l st [1024] sc d p n _ HS1.o hm HT.o HO.o HE1.o).mono ?_;exact d9l
 have HP1:=qh (HP0.o.trans (if_neg h1))
 have f1:=P.beqN h1
 clear HP0 h1
 by_cases h2:word=[115,99,114,101,101,110]
 ·have HP:=qh (HP1.o.trans (if_pos h2));have f2:=P.beqB h2;clear h2 HP1
  go_enter Tryz.func71,Tryz.ntmps71
  go_wp2;go_ret2;exact⟨sc,true,rfl,by rw [HP.o];rfl,by rw [HP.o];exact HSM.o,Chg.refl _ _⟩
 have HP2:=qh (HP1.o.trans (if_neg h2))
 have f2:=P.beqN h2
 clear HP1 h2
 by_cases h3:word=[99,111,117,110,116]
 ·have HP:=qh (HP2.o.trans (if_pos h3));have f3:=P.beqB h3;clear h3 HP2
  go_enter Tryz.func71,Tryz.ntmps71
  go_wp2_with fail
  refine (L.a5e (st.length:Int) _ oZ oZ HE.o).mono ?_;rintro e w1 ⟨rfl,hb⟩;have HB:=qh hb;clear hb;go_wp2;go_ret2;exact⟨P.num st.length,true,rfl,by rw [HP.o];rfl,by rw [HP.o];exact HSM.o.below HB.o,Below.chg HB.o _⟩
 have HP3:=qh (HP2.o.trans (if_neg h3))
 have f3:=P.beqN h3
 clear HP2 h3
 by_cases h4:word=[112,105,101,99,101,115]
 ·have HP:=qh (HP3.o.trans (if_pos h4));have f4:=P.beqB h4;clear h4 HP3;have HRD:=qh (show w.drew.cell? ⟨B,0,none⟩=some (.slice ad l.length cap)∧w.drew.cell? ⟨B,1,none⟩=some (.slice sd st.length sap)∧B<w.drew.heap.size from⟨o0,o1,o6⟩);have HBD:=qh (show Below w.heap.size w w.drew from bZ.drew)
  go_enter Tryz.func71,Tryz.ntmps71
  go_upto_region 9 with fail
  clear o0 o1 o2 o3 o4 o5 o6
  go_cut [6] (fun pv wx=>PcR wx pv (P.segA l st)∧Below w.heap.size w wx)
  case first=>
   refine wp_region_held_drew (S:=fun v=>v.cell? ⟨B,0,none⟩=some (.slice ad l.length cap)∧v.cell? ⟨B,1,none⟩=some (.slice sd st.length sap)∧B<v.heap.size) kZ HRD.o (fun hS0=>?_);generalize w.drew=v0 at *;refine tk11 0 hS0 ?_;refine tk11 1 hS0 ?_;refine tk11 2 hS0 ?_;refine tk11 3 hS0 ?_;refine tk11 4 hS0 ?_;refine tk11 5 hS0 ?_;refine tk11 6 hS0 ?_;refine tk11 7 hS0 ?_;refine tk11 8 hS0 ?_;refine trd 9 fun K hK=>?_;go_simp;refine (d1y _ _ l st _ (HU.o.below HBD.o) (HUS.o.below HBD.o) hs60).mono ?_;rintro e v1 ⟨pv,rfl,hpv,hb⟩;refine hK.out _ _ ⟨(hb.cell (p:=⟨B,0,none⟩) hS0.2.2).trans hS0.1,(hb.cell (p:=⟨B,1,none⟩) hS0.2.2).trans hS0.2.1,Nat.lt_of_lt_of_le hS0.2.2 hb.size⟩ (fun hS1=>?_);clear hK K;have HPV:=qh hpv;have HB4:=bt HBD hb;obtain⟨pa,pc,rfl,_⟩:=hpv;clear hb
   try simp only [qA,qB,qC,Act.put,qD,qE,qF]
   refine tk11 10 hS1 ?_;refine wpAnyH_done kZ ?_ _
   go_wp2_with fail
   go_meet;exact⟨HPV.o,HB4.o⟩
  case rest=>
   obtain⟨hpv,hb⟩:=hcut;have HPV:=qh hpv;have HB:=qh hb;have HE1:=qh (HE.o.below hb HE.o.size);have hsl:=P.b0z l st;obtain⟨pa,pc,rfl,_⟩:=hpv;have hbl:=P.b3j (P.segA l st);generalize P.segA l st=ps at *;generalize hww:wc=w3 at *;clear hww hb HRD HBD
   go_wp2_with fail
   refine (L.a5e (ps.length:Int) _ oZ oZ HE1.o).mono ?_;rintro e w4 ⟨rfl,hb⟩;have HB4:=bt HB hb;have HE4:=qh (HE1.o.below hb HE1.o.size);have HPV4:=qh (HPV.o.below hb);have hn1:=P.num_len ps.length oZ;clear hb
   go_wp2_with fail
   refine (c8t _ ps _ HPV4.o oZ).mono ?_;rintro e w5 ⟨rfl,hb⟩;have HB5:=bt HB4 hb;have HE5:=qh (HE4.o.below hb HE4.o.size);clear hb
   go_wp2_with fail
   refine (L.a5e (P.blank ps:Int) _ oZ oZ HE5.o).mono ?_;rintro e w6 ⟨rfl,hb⟩;have HB6:=bt HB5 hb;have hn2:=P.num_len (P.blank ps) oZ;clear hb;simp only [Int.toNat_natCast]at *;generalize P.num ps.length=na at *;generalize P.num (P.blank ps)=nb at *;go_wp2;go_ret2;exact⟨_,true,rfl,by rw [HP.o];simp [okB],by rw [HP.o];exact HSM.o.below HB6.o,Below.chg HB6.o _⟩
 ·have HP:=qh (HP3.o.trans (if_neg h4));have f4:=P.beqN h4;clear h4 HP3
  go_enter Tryz.func71,Tryz.ntmps71
  go_wp2;go_ret2;exact HSM.o.keep (x:=[]) bZ HP.o
theorem c7z (u us:Value) (l:P.Dic) (st:List Int) (sc d p:Str) (n:Int) (word more:Str) (w:World) (hu:EntR w u l) (hus:IntR w us st) (hm:Small l) (ht:P.trans l (st,sc)=true) (hl:more.length≤2^20) :
 Calls Tryz.prog 169 #[a1e u us sc d p n,.string (S word),.string (S more)] w (b1u u us (l,(st,sc)) (P.a5k (l,(st,sc)) word more) (d,p,n) w):=by
 have hu0:=hu;have hus0:=hus
 obtain⟨ad,cap,rfl,_,_⟩:=hu0
 obtain⟨sd,sap,rfl,_,_⟩:=hus0
 obtain⟨W0,hW0⟩:∃v,(w.alloc (a0d (.slice ad l.length cap) (.slice sd st.length sap) sc d p n)).alloc (a0d (.slice none 0 0) (.slice none 0 0) [] [] [] 0)=v:=⟨_,rfl⟩
 have hb0:Below w.heap.size w W0:=by rw [←hW0];exact ((Below.refl w.heap.size w).alloc lZ _).alloc sZ _
 have hz0:W0.heap.size=w.heap.size+2:=by rw [←hW0];simp
 have hsx:SOut w.heap.size (.slice ad l.length cap) (.slice sd st.length sap) sc d p n W0:=by
  exact zq24
 have hsr:SOut (w.heap.size+1) (.slice none 0 0) (.slice none 0 0) [] [] [] 0 W0:=by
  exact zq21
 have HU:=qh hu;have HUS:=qh hus
 have HX:=qh hsx;have HR:=qh hsr;have HB:=qh hb0
 have HT:=qh ht
 have hs60:=(P.a1h ht).1
 try simp only at hs60
 clear hsx hsr hb0 ht hu hus
 have HNO:=qh (P.b6r (s:=(l,(st,sc))) (word:=word) (more:=more));have HSO:=qh (fun o=>P.b7q (s:=(l,(st,sc))) (word:=word) (more:=more) (o:=o))
 go_enter Tryz.func169,Tryz.ntmps169
 go_upto_region 1 with fail
 try rw [hW0]
 clear hW0
 go_wp2_with fail
 refine (a5n more _ oZ).mono ?_
 rintro e w1 ⟨ou,rfl,ho,hb⟩
 have HX1:=qh (HX.o.below hb);have HR1:=qh (HR.o.below hb);have HB1:=bt HB hb;have HO:=qh ho
 have hz1:w.heap.size+2≤w1.heap.size:=by have:=hb.size;omega
 obtain⟨oa,oc,rfl⟩:=a0i ho
 clear hb ho HX HR HB
 cases hp:P.a1l more with
 |none=>
  have HP:=qh (HNO.o hp);clear hp;obtain⟨⟨o0,o1,o2,o3,o4,o5,o6⟩,_⟩:=HX1.o;obtain⟨⟨r0,r1,r2,r3,r4,r5,r6⟩,f0,f1,f2,f3,f4,f5⟩:=HR1.o;obtain⟨V,hV⟩:∃v,((((((w1.setCell ⟨w.heap.size+1,0,none⟩ ((.slice ad l.length cap))).setCell ⟨w.heap.size+1,1,none⟩ ((.slice sd st.length sap))).setCell ⟨w.heap.size+1,2,none⟩ (.string (S sc))).setCell ⟨w.heap.size+1,3,none⟩ (.string (S d))).setCell ⟨w.heap.size+1,4,none⟩ (.string (S p))).setCell ⟨w.heap.size+1,5,none⟩ (.int .i64 n))=v:=⟨_,rfl⟩;have hset:Chg (fun b=>b=w.heap.size+1) w1 V:=by rw [←hV];exact (((((((Chg.refl (fun b=>b=w.heap.size+1) w1).setCell (p:=⟨w.heap.size+1,0,none⟩) rfl _).setCell (p:=⟨w.heap.size+1,1,none⟩) rfl _).setCell (p:=⟨w.heap.size+1,2,none⟩) rfl _).setCell (p:=⟨w.heap.size+1,3,none⟩) rfl _).setCell (p:=⟨w.heap.size+1,4,none⟩) rfl _).setCell (p:=⟨w.heap.size+1,5,none⟩) rfl _)
  have HRV:=qh (show SOut (w.heap.size+1) ((.slice ad l.length cap)) ((.slice sd st.length sap)) sc d p n V from by rw [←hV];exact ((HR1.o.set0 (x:=(.slice ad l.length cap))).set1 (x:=(.slice sd st.length sap)) (r:=sc)).set3 (d':=d) (p':=p) (n':=n));have HBV:=qh (Chg.a0k HB1.o hset HB1.o.size (fun b h=>by have h9:b=w.heap.size+1:=h;omega));go_wp2
  try rw [hV]
  clear hset hV;obtain⟨q0,q1,q2,q3,q4,q5,q6⟩:=HRV.o.1;refine bodyPost_ret (v:=.tuple #[a1e ((.slice ad l.length cap)) ((.slice sd st.length sap)) sc d p n,.string (S [63])]) (by simp [results,Tryz.results169,go_sem,q0,q1,q2,q3,q4,q5]) rfl ⟨(.slice ad l.length cap),(.slice sd st.length sap),by rw [HP.o]<;>rfl,by rw [HP.o];exact .inl ⟨rfl,rfl⟩,by rw [HP.o];exact .inl ⟨rfl,rfl⟩,HBV.o⟩
 |some o=>
  have HP0:=qh (show P.a5k (l,(st,sc)) word more=(if word=P.c8k then P.typed (l,(st,sc)) o else if word=P.b1y then P.a2x (l,(st,sc)) o else ((l,(st,sc)),P.optB (P.b5f o l))) from HSO.o o hp);have hov:=(P.a1n (P.a6i hp).1).2;rw [hp]at HO;simp only [Option.getD_some,Option.isSome_some]at HO⊢;have HOR:=qh (a1y HO.o (show o.length≤2^45 by omega));clear hp
  by_cases h1:word=[116,121,112,101]
  ·have HP:=qh (show P.a5k (l,(st,sc)) word more=P.typed (l,(st,sc)) o from HP0.o.trans (if_pos h1));have e1:=P.beqB h1;clear h1 HP0;obtain⟨⟨o0,o1,o2,o3,o4,o5,o6⟩,_⟩:=HX1.o
   go_wp2_with fail
   refine (c2w _ _ _ l st o sc d p n _ (HU.o.below HB1.o) (HUS.o.below HB1.o) HOR.o hm HT.o).mono ?_;rintro e x2 ⟨nu,nus,rfl,hfe,hfi,hb⟩;have HEN:=qh (hfe.read (HU.o.below HB1.o) hb);have HIN:=qh (hfi.read (HUS.o.below HB1.o) hb);obtain⟨⟨⟨l2,⟨st2,sc2⟩⟩,rep⟩,ha⟩:∃a,P.typed (l,(st,sc)) o=a:=⟨_,rfl⟩;exact zq10
  ·have e1:=P.beqN h1
   by_cases h2:word=[100,101,108,101,116,101]
   ·have HP:=qh (show P.a5k (l,(st,sc)) word more=P.a2x (l,(st,sc)) o from HP0.o.trans ((if_neg h1).trans (if_pos h2)));have e2:=P.beqB h2;clear h1 h2 HP0;obtain⟨⟨o0,o1,o2,o3,o4,o5,o6⟩,_⟩:=HX1.o
    go_wp2_with fail
    refine (d3r _ _ _ l st o sc d p n _ (HU.o.below HB1.o) (HUS.o.below HB1.o) HOR.o hm HT.o).mono ?_;rintro e x2 ⟨nu,nus,rfl,hfe,hfi,hb⟩;have HEN:=qh (hfe.read (HU.o.below HB1.o) hb);have HIN:=qh (hfi.read (HUS.o.below HB1.o) hb);obtain⟨⟨⟨l2,⟨st2,sc2⟩⟩,rep⟩,ha⟩:∃a,P.a2x (l,(st,sc)) o=a:=⟨_,rfl⟩;exact zq10
   ·have e2:=P.beqN h2;have HP:=qh (show P.a5k (l,(st,sc)) word more=((l,(st,sc)),okB (P.a3b o l) (P.hasE o l)) from HP0.o.trans ((if_neg h1).trans ((if_neg h2).trans (by unfold P.optB P.b5f;rw [if_pos (P.a8p HT.o)];rfl))));clear h1 h2 HP0;have HORD:=qh (show IntR w1.drew (.slice oa o.length oc) o from HOR.o.below bZ.drew);have HXD:=qh (HX1.o.below bZ.drew);have HRD2:=qh (HR1.o.below bZ.drew);have HBD:=qh (HB1.o.trans (bZ.drew.mono HB1.o.size))
    go_upto_region 9 with fail
    refine wp_region_held_drew (S:=SOut w.heap.size (.slice ad l.length cap) (.slice sd st.length sap) sc d p n) kZ HXD.o (fun hS0=>?_);generalize w1.drew=y0 at *;refine tk2 0 hS0 ?_;refine tk2 1 hS0 ?_;refine tk2 2 hS0 ?_;refine tk2 3 hS0 ?_;have HOD:=qh (show IntR y0 (.slice oa o.length oc) o from HORD.o);refine trd 4 fun K hK=>?_;go_simp;refine (d6z _ _ l o _ (HU.o.below HBD.o) HOD.o).mono ?_;rintro e y2 ⟨rfl,hb⟩;have HR3:=qh (HRD2.o.below hb);have HB3:=bt HBD hb;refine hK.out _ _ (hS0.below hb) (fun hS3=>?_);clear hK K hb hS0
    try simp only [qA,qB,qC,Act.put,qD,qE,qF]
    refine tk2 5 hS3 ?_;refine tk2 6 hS3 ?_;refine trd 7 fun K hK=>?_;go_simp;refine (d0p (P.a3b o l) (P.hasE o l) _).mono ?_;rintro e y1 ⟨rfl,rfl⟩;refine hK.out _ _ hS3 (fun hS1=>?_);clear hK K hS3
    try simp only [qA,qB,qC,Act.put,qD,qE,qF]
    have HR5:=qh HR3.o;have HB5:=qh HB3.o;obtain⟨⟨r0,r1,r2,r3,r4,r5,r6⟩,f0,f1,f2,f3,f4,f5⟩:=HR5.o;obtain⟨V,hV⟩:∃v,((((((y2.setCell ⟨w.heap.size+1,0,none⟩ ((.slice ad l.length cap))).setCell ⟨w.heap.size+1,1,none⟩ ((.slice sd st.length sap))).setCell ⟨w.heap.size+1,2,none⟩ (.string (S sc))).setCell ⟨w.heap.size+1,3,none⟩ (.string (S d))).setCell ⟨w.heap.size+1,4,none⟩ (.string (S p))).setCell ⟨w.heap.size+1,5,none⟩ (.int .i64 n))=v:=⟨_,rfl⟩;have hset:Chg (fun b=>b=w.heap.size+1) y2 V:=by rw [←hV];exact (((((((Chg.refl (fun b=>b=w.heap.size+1) y2).setCell (p:=⟨w.heap.size+1,0,none⟩) rfl _).setCell (p:=⟨w.heap.size+1,1,none⟩) rfl _).setCell (p:=⟨w.heap.size+1,2,none⟩) rfl _).setCell (p:=⟨w.heap.size+1,3,none⟩) rfl _).setCell (p:=⟨w.heap.size+1,4,none⟩) rfl _).setCell (p:=⟨w.heap.size+1,5,none⟩) rfl _)
    have HRV:=qh (show SOut (w.heap.size+1) ((.slice ad l.length cap)) ((.slice sd st.length sap)) sc d p n V from by rw [←hV];exact ((HR5.o.set0 (x:=(.slice ad l.length cap))).set1 (x:=(.slice sd st.length sap)) (r:=sc)).set3 (d':=d) (p':=p) (n':=n));have HBV:=qh (Chg.a0k HB5.o hset HB5.o.size (fun b h=>by have h9:b=w.heap.size+1:=h;omega));refine trd 8 fun K hK=>?_;go_simp;refine hK.out _ _ (by (try rw [hV]);exact hS1.a0e hset (fun h=>by have h9:w.heap.size=w.heap.size+1:=h;omega)) (fun hS2=>?_);clear hK K
    try rw [hV]at hS2⊢
    clear r0 r1 r2 r3 r4 r5 r6 f0 f1 f2 f3 f4 f5
    try simp only [qA,qB,qC,Act.put,qD,qE,qF]
    refine tk2 9 hS2 ?_;refine wpAnyH_done kZ ?_ _;go_wp2
    try rw [hV]
    clear hset hV;obtain⟨q0,q1,q2,q3,q4,q5,q6⟩:=HRV.o.1;refine bodyPost_ret (v:=.tuple #[a1e ((.slice ad l.length cap)) ((.slice sd st.length sap)) sc d p n,.string (S (txtB (okB (P.a3b o l) (P.hasE o l))))]) (by simp [results,Tryz.results169,go_sem,q0,q1,q2,q3,q4,q5]) rfl ⟨(.slice ad l.length cap),(.slice sd st.length sap),by rw [HP.o]<;>rfl,by rw [HP.o];exact .inl ⟨rfl,rfl⟩,by rw [HP.o];exact .inl ⟨rfl,rfl⟩,HBV.o⟩
end Go.Proofs.YtggfdnopminemaaGreatDoor
