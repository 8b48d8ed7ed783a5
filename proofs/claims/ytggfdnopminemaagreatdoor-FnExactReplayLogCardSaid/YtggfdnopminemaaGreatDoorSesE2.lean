/- Walk: one record more (reference). -/
import Derived.Test.YtggfdnopminemaaGreatDoorZt
import Derived.Test.YtggfdnopminemaaGreatDoorSesL1
import Derived.Test.YtggfdnopminemaaGreatDoorSesB3
namespace Go.Proofs.YtggfdnopminemaaGreatDoor.L
open Go Go.RowKit
set_option maxHeartbeats 8000000
set_option maxRecDepth 100000
theorem spec_append (d p:Str) (n:Int) (c r:Str) (w:World) (hd:d.length≤2^20) (hp:p.length≤2^20) (hc:c.length≤2^20) (hr:r.length≤2^20) (hE:Env w) :
 Calls Tryz.prog 54 #[logV d p n,.agg #[.string (S c),.string (S r)]] w fun e w'=>e=.returned (.tuple #[logV d (P.appS d p n c r).1 (P.appS d p n c r).2.1,.int .i64 (P.appS d p n c r).2.2])∧Below w.heap.size w w':=by
 have A1:=qh (AB.start (w:=w) (d:=d) (p:=p) (n:=n) (c:=c) (r:=r) (t:=28) (u:=86) hE)
 clear hE
 cases h1:P.validLog d p n
 ·have HF:=qh (show P.appS d p n c r=(p,n,1) by unfold P.appS;rw [h1];rfl)
  go_enter Tryz.func54,Tryz.ntmps54
  go_wp2_with fail
  refine (l24Log _ _ _ _ hd hp).mono ?_;rintro e w1 ⟨rfl,hb⟩;have A2:=qh (A1.o.carry hb);clear hb A1;obtain⟨⟨a1,a2,a3⟩,⟨b1,b2⟩,⟨c1,c2,c3⟩,⟨d1,d2,d3⟩,⟨e1,e2,e3⟩,hz,_⟩:=A2.o;rw [h1];go_wp2;refine bodyPost_ret (v:=.tuple #[logV d p n,.int .i64 1]) (by simp [results,Tryz.results54,go_sem,c1,c2,c3]) rfl ⟨by rw [HF.o],?_⟩;exact ((A2.o.below.setCell (by simp;omega) _).setCell (by simp;omega) _).setCell (by simp;omega) _
 ·cases h2:P.good c r
  ·have HF:=qh (show P.appS d p n c r=(p,n,1) by unfold P.appS;rw [h1,h2];rfl)
   go_enter Tryz.func54,Tryz.ntmps54
   go_wp2_with fail
   refine (l24Log _ _ _ _ hd hp).mono ?_;rintro e w1 ⟨rfl,hb⟩;have A2:=qh (A1.o.carry hb);clear hb A1;obtain⟨⟨a1,a2,a3⟩,⟨b1,b2⟩,⟨c1,c2,c3⟩,⟨d1,d2,d3⟩,⟨e1,e2,e3⟩,hz,_⟩:=A2.o;rw [h1]
   go_wp2_with fail
   refine (l24Good _ _ _ (by unfold maxLen;omega) (by unfold maxLen;omega)).mono ?_;rintro e w2 ⟨rfl,hb⟩;have A3:=qh (A2.o.carry hb);clear hb A2;clear a1 a2 a3 b1 b2 c1 c2 c3 d1 d2 d3 e1 e2 e3 hz;obtain⟨⟨a1,a2,a3⟩,⟨b1,b2⟩,⟨c1,c2,c3⟩,⟨d1,d2,d3⟩,⟨e1,e2,e3⟩,hz,_⟩:=A3.o;rw [h2];go_wp2;refine bodyPost_ret (v:=.tuple #[logV d p n,.int .i64 1]) (by simp [results,Tryz.results54,go_sem,c1,c2,c3]) rfl ⟨by rw [HF.o],?_⟩;exact zq89
  ·cases h3:(n==60)
   ·obtain⟨hn0,hn1,_⟩:=P.valid_n h1;obtain⟨x,hx⟩:∃x,P.line n.toNat c r=x:=⟨_,rfl⟩;have HX:=qh hx;have HF:=qh (show P.appS d p n c r=(p++x,n+1,0) by unfold P.appS;rw [h1,h2,h3,hx];rfl)
    have hxl:x.length≤10000:=by
     rw [←hx];have h6:n≠60:=by simpa using h3
     have:=(P.line_len (k:=n.toNat) oZ h2).1;omega
    clear hx;have f1:¬9223372036854775807<p.length+x.length:=by omega
    go_enter Tryz.func54,Tryz.ntmps54
    go_wp2_with fail
    refine (l24Log _ _ _ _ hd hp).mono ?_;rintro e w1 ⟨rfl,hb⟩;have A2:=qh (A1.o.carry hb);clear hb A1;obtain⟨⟨a1,a2,a3⟩,⟨b1,b2⟩,⟨c1,c2,c3⟩,⟨d1,d2,d3⟩,⟨e1,e2,e3⟩,hz,_⟩:=A2.o;rw [h1]
    go_wp2_with fail
    refine (l24Good _ _ _ (by unfold maxLen;omega) (by unfold maxLen;omega)).mono ?_;rintro e w2 ⟨rfl,hb⟩;have A3:=qh (A2.o.carry hb);clear hb A2;clear a1 a2 a3 b1 b2 c1 c2 c3 d1 d2 d3 e1 e2 e3 hz;obtain⟨⟨a1,a2,a3⟩,⟨b1,b2⟩,⟨c1,c2,c3⟩,⟨d1,d2,d3⟩,⟨e1,e2,e3⟩,hz,_⟩:=A3.o;rw [h2]
    go_upto_region 5 with fail
    have A4:AB w d p n c r w2.drew:=A3.o.carry (bZ.drew);clear a1 a2 a3 b1 b2 c1 c2 c3 d1 d2 d3 e1 e2 e3 hz A3;have A5:=qh A4;obtain⟨⟨a1,a2,a3⟩,⟨b1,b2⟩,⟨c1,c2,c3⟩,⟨d1,d2,d3⟩,⟨e1,e2,e3⟩,hz,_⟩:=A4
    go_region_law ((go_simp;go_at_call 122;refine (l24Line _ _ _ _ hn0 oZ oZ oZ).mono ?_;rintro e v ⟨rfl,hb⟩;rw [HX.o];have A6:=qh (A5.o.carry hb);obtain⟨⟨a1,a2,a3⟩,⟨b1,b2⟩,⟨c1,c2,c3⟩,⟨d1,d2,d3⟩,⟨e1,e2,e3⟩,hz,_⟩:=A6.o;clear hb))
    all_goals
     go_wp2
     refine bodyPost_ret (v:=.tuple #[logV d (p++x) (n+1),.int .i64 0]) (by simp [results,Tryz.results54,go_sem,c1,c2,c3]) rfl ⟨by rw [HF.o],?_⟩
     exact (((((A6.o.below.setCell sZ _).setCell sZ _).setCell (by simp;omega) _).setCell (by simp;omega) _).setCell (by simp;omega) _)
   ·have HF:=qh (show P.appS d p n c r=(p,n,2) by unfold P.appS;rw [h1,h2,h3];rfl)
    go_enter Tryz.func54,Tryz.ntmps54
    go_wp2_with fail
    refine (l24Log _ _ _ _ hd hp).mono ?_;rintro e w1 ⟨rfl,hb⟩;have A2:=qh (A1.o.carry hb);clear hb A1;obtain⟨⟨a1,a2,a3⟩,⟨b1,b2⟩,⟨c1,c2,c3⟩,⟨d1,d2,d3⟩,⟨e1,e2,e3⟩,hz,_⟩:=A2.o;rw [h1]
    go_wp2_with fail
    refine (l24Good _ _ _ (by unfold maxLen;omega) (by unfold maxLen;omega)).mono ?_;rintro e w2 ⟨rfl,hb⟩;have A3:=qh (A2.o.carry hb);clear hb A2;clear a1 a2 a3 b1 b2 c1 c2 c3 d1 d2 d3 e1 e2 e3 hz;obtain⟨⟨a1,a2,a3⟩,⟨b1,b2⟩,⟨c1,c2,c3⟩,⟨d1,d2,d3⟩,⟨e1,e2,e3⟩,hz,_⟩:=A3.o;rw [h2];go_wp2;refine bodyPost_ret (v:=.tuple #[logV d p n,.int .i64 2]) (by simp [results,Tryz.results54,go_sem,c1,c2,c3]) rfl ⟨by rw [HF.o],?_⟩;exact zq89
end Go.Proofs.YtggfdnopminemaaGreatDoor.L
namespace Go.Proofs.YtggfdnopminemaaGreatDoor
open Go Go.RowKit
set_option maxHeartbeats 8000000
set_option maxRecDepth 100000
theorem spec_execute (u us:Value) (l:P.Dic) (st:List Int) (sc d p:Str) (n:Int) (line:Str) (w:World) (hu:EntR w u l) (hus:IntR w us st) (hf:P.Fit (l,(st,sc)) (d,p,n)) (hl:line.length≤2^20) (hE:L.Env w) :
 Calls Tryz.prog 34 #[sessV u us sc d p n,.string (S line)] w (ExPost (P.exec (l,(st,sc)) (d,p,n) line) w):=by
 obtain⟨hf1,hf2,hf3,hf4,hf5,hf6⟩:=hf
 have hm:Small l:=⟨hf1,hf2,hf3⟩
 simp only at hf4 hf5 hf6
 clear hf1 hf2 hf3
 have hu0:=hu;have hus0:=hus
 obtain⟨ad,cap,rfl,_,_⟩:=hu0
 obtain⟨sd,sap,rfl,_,_⟩:=hus0
 obtain⟨W0,hW0⟩:∃v,(w.alloc (sessCells (.slice ad l.length cap) (.slice sd st.length sap) sc d p n)).alloc (sessCells (.slice none 0 0) (.slice none 0 0) [] [] [] 0)=v:=⟨_,rfl⟩
 have hb0:Below w.heap.size w W0:=by rw [←hW0];exact ((Below.refl w.heap.size w).alloc lZ _).alloc sZ _
 have hzW:W0.heap.size=w.heap.size+2:=by rw [←hW0];simp
 have hq0:SQ w.heap.size (.slice ad l.length cap) (.slice sd st.length sap) sc d p n W0:=by
  exact zq88
 have HU:=qh hu;have HUS:=qh hus;have HE:=qh hE
 have HQ:=qh hq0;have HB:=qh hb0
 have hzW2:w.heap.size+2≤W0.heap.size:=by omega
 clear hq0 hb0 hu hus hE hzW
 go_enter Tryz.func34,Tryz.ntmps34
 go_upto_region 1 with fail
 try rw [hW0]
 clear hW0
 obtain⟨⟨o0,o1,o2,o3,o4,o5,o6⟩,_⟩:=HQ.o.1
 go_wp2_with fail
 refine (l25Own _ _ l st sc d p n _ (HU.o.below HB.o) (HUS.o.below HB.o) hm oZ).mono ?_
 rintro e w1 ⟨nu,nus,m,rfl,hD,hI,hm1,hm2,hb⟩
 obtain⟨na,nc,rfl,-,-⟩:=id hD
 obtain⟨ma,mc,rfl,-,-⟩:=id hI
 obtain⟨w2,hw2⟩:∃v,w1.alloc (sessCells (.slice na l.length nc) (.slice ma st.length mc) sc d p n)=v:=⟨_,rfl⟩
 have hba:Below w1.heap.size w1 w2:=by rw [←hw2];exact bZ.alloc lZ _
 have hz1:=hb.size
 have hBz:w1.heap.size<w2.heap.size:=by rw [←hw2];simp
 have HB2:=qh ((HB.o.trans (hb.mono HB.o.size)).trans (hba.mono oZ))
 have HQ2:=qh ((HQ.o.below hb).below hba)
 have HS2:=qh (show SesM (w.heap.size+2) w1.heap.size (l,(st,sc)) (d,p,n) w2 from⟨by have:=HE.o.size;omega,by omega,_,_,by rw [←hw2];exact SOut.new _ _ _ _ _ _ _,(SRows.of hD hI hzW2 hm2 hm1 (.inl lZ)).below hba⟩)
 clear hD hI hm1 hm2 hb hba HQ HB o0 o1 o2 o3 o4 o5 o6
 go_upto_region 2 with fail
 try rw [hw2]
 clear hw2
 obtain⟨⟨o0,o1,o2,o3,o4,o5,o6⟩,_⟩:=HQ2.o.1
 go_wp2_with fail
 refine (l25Good _ _ l st sc d p n _ (HU.o.below HB2.o) (HUS.o.below HB2.o) hm hf5 hf6).mono ?_
 rintro e w3 ⟨rfl,hb⟩
 have HB3:=bt HB2 hb;have HQ3:=qh (HQ2.o.below hb);have HS3:=qh (HS2.o.below hb)
 have hB3:=hb.size
 clear hb HB2 HQ2 HS2 o0 o1 o2 o3 o4 o5 o6
 cases h1:P.sess l st sc d p n
 ·have HP:=qh (P.exec_no (s:=(l,(st,sc))) (g:=(d,p,n)) (line:=line) h1);obtain⟨_,_,bu,bus,hso,hrows⟩:=HS3.o;simp only at hso hrows;obtain⟨ba,bc,rfl,_,_⟩:=id hrows.dic;obtain⟨ia,ic,rfl,_,_⟩:=id hrows.str;obtain⟨⟨o0,o1,o2,o3,o4,o5,o6⟩,_⟩:=hso;obtain⟨⟨r0,r1,r2,r3,r4,r5,r6⟩,f0,f1,f2,f3,f4,f5⟩:=HQ3.o.2;obtain⟨V,hV⟩:∃v,wr6 w3 (w.heap.size+1) (.slice ba l.length bc) (.slice ia st.length ic) sc d p n=v:=⟨_,rfl⟩;have hset:Chg (fun b=>b=w.heap.size+1) w3 V:=by rw [←hV];exact wr6_chg _ _ _ _ _ _ _ _
  have HRV:=qh (show SOut (w.heap.size+1) (.slice ba l.length bc) (.slice ia st.length ic) sc d p n V from by rw [←hV];exact wr6_out HQ3.o.2 _ _ _ _ _ _);have HBV:=qh (Chg.belowB HB3.o hset HB3.o.size (fun b h=>by have h9:b=w.heap.size+1:=h;omega));have HROW:=qh ((hrows.standLo hset (fun b h=>by have h9:b=w.heap.size+1:=h;omega)).lo (lo':=w.heap.size) oZ);unfold wr6 at hV;clear hrows;go_wp2
  try rw [hV]
  clear hset hV;obtain⟨q0,q1,q2,q3,q4,q5,q6⟩:=HRV.o.1;refine bodyPost_ret (v:=.tuple #[sessV (.slice ba l.length bc) (.slice ia st.length ic) sc d p n,.string (S [110,111])]) (by simp [results,Tryz.results34,go_sem,q0,q1,q2,q3,q4,q5]) rfl ⟨_,_,w1.heap.size,by rw [HP.o]<;>rfl,by rw [HP.o];exact HROW.o,HBV.o⟩
 have HT:=qh (P.sesOk_parts (s:=(l,(st,sc))) (g:=(d,p,n)) h1)
 go_wp2_with fail
 refine (L.l24Good line [] _ (by unfold maxLen;omega) (by unfold maxLen;simp)).mono ?_
 rintro e w4 ⟨rfl,hb⟩
 have HB4:=bt HB3 hb;have HQ4:=qh (HQ3.o.below hb);have HS4:=qh (HS3.o.below hb)
 have hB4:=Nat.le_trans hB3 hb.size
 clear hb HB3 HQ3 HS3
 cases h2:P.good line []
 ·have HP:=qh (P.exec_bad (s:=(l,(st,sc))) (g:=(d,p,n)) (line:=line) h1 h2);obtain⟨_,_,bu,bus,hso,hrows⟩:=HS4.o;simp only at hso hrows;obtain⟨ba,bc,rfl,_,_⟩:=id hrows.dic;obtain⟨ia,ic,rfl,_,_⟩:=id hrows.str;obtain⟨⟨o0,o1,o2,o3,o4,o5,o6⟩,_⟩:=hso;obtain⟨⟨r0,r1,r2,r3,r4,r5,r6⟩,f0,f1,f2,f3,f4,f5⟩:=HQ4.o.2;obtain⟨V,hV⟩:∃v,wr6 w4 (w.heap.size+1) (.slice ba l.length bc) (.slice ia st.length ic) sc d p n=v:=⟨_,rfl⟩;have hset:Chg (fun b=>b=w.heap.size+1) w4 V:=by rw [←hV];exact wr6_chg _ _ _ _ _ _ _ _
  have HRV:=qh (show SOut (w.heap.size+1) (.slice ba l.length bc) (.slice ia st.length ic) sc d p n V from by rw [←hV];exact wr6_out HQ4.o.2 _ _ _ _ _ _);have HBV:=qh (Chg.belowB HB4.o hset HB4.o.size (fun b h=>by have h9:b=w.heap.size+1:=h;omega));have HROW:=qh ((hrows.standLo hset (fun b h=>by have h9:b=w.heap.size+1:=h;omega)).lo (lo':=w.heap.size) oZ);unfold wr6 at hV;clear hrows;go_wp2
  try rw [hV]
  clear hset hV;obtain⟨q0,q1,q2,q3,q4,q5,q6⟩:=HRV.o.1;refine bodyPost_ret (v:=.tuple #[sessV (.slice ba l.length bc) (.slice ia st.length ic) sc d p n,.string (S [98,97,100])]) (by simp [results,Tryz.results34,go_sem,q0,q1,q2,q3,q4,q5]) rfl ⟨_,_,w1.heap.size,by rw [HP.o]<;>rfl,by rw [HP.o];exact HROW.o,HBV.o⟩
 by_cases h3:n=60
 ·have HP:=qh (P.exec_full (s:=(l,(st,sc))) (g:=(d,p,n)) (line:=line) h1 h2 h3);have f9:(n==60)=true:=by rw [h3];rfl
  clear h3;obtain⟨⟨x0,x1,x2,x3,x4,x5,x6⟩,_⟩:=HQ4.o.1;obtain⟨_,_,bu,bus,hso,hrows⟩:=HS4.o;simp only at hso hrows;obtain⟨ba,bc,rfl,_,_⟩:=id hrows.dic;obtain⟨ia,ic,rfl,_,_⟩:=id hrows.str;obtain⟨⟨o0,o1,o2,o3,o4,o5,o6⟩,_⟩:=hso;obtain⟨⟨r0,r1,r2,r3,r4,r5,r6⟩,f0,f1,f2,f3,f4,f5⟩:=HQ4.o.2;obtain⟨V,hV⟩:∃v,wr6 w4 (w.heap.size+1) (.slice ba l.length bc) (.slice ia st.length ic) sc d p n=v:=⟨_,rfl⟩;have hset:Chg (fun b=>b=w.heap.size+1) w4 V:=by rw [←hV];exact wr6_chg _ _ _ _ _ _ _ _
  have HRV:=qh (show SOut (w.heap.size+1) (.slice ba l.length bc) (.slice ia st.length ic) sc d p n V from by rw [←hV];exact wr6_out HQ4.o.2 _ _ _ _ _ _);have HBV:=qh (Chg.belowB HB4.o hset HB4.o.size (fun b h=>by have h9:b=w.heap.size+1:=h;omega));have HROW:=qh ((hrows.standLo hset (fun b h=>by have h9:b=w.heap.size+1:=h;omega)).lo (lo':=w.heap.size) oZ);unfold wr6 at hV;clear hrows;go_wp2
  try rw [hV]
  clear hset hV;obtain⟨q0,q1,q2,q3,q4,q5,q6⟩:=HRV.o.1;refine bodyPost_ret (v:=.tuple #[sessV (.slice ba l.length bc) (.slice ia st.length ic) sc d p n,.string (S [102,117,108,108])]) (by simp [results,Tryz.results34,go_sem,q0,q1,q2,q3,q4,q5]) rfl ⟨_,_,w1.heap.size,by rw [HP.o]<;>rfl,by rw [HP.o];exact HROW.o,HBV.o⟩
 have HP:=qh (P.exec_run (s:=(l,(st,sc))) (g:=(d,p,n)) (line:=line) h1 h2 h3)
 have f9:(n==60)=false:=by rw [beq_eq_false_iff_ne];exact h3
 obtain⟨⟨x0,x1,x2,x3,x4,x5,x6⟩,_⟩:=HQ4.o.1
 have HKT:=qh (P.cmd_trans (s:=(l,(st,sc))) (line:=line) HT.o.1)
 obtain⟨_,_,bu,bus,hso,hrows⟩:=HS4.o
 simp only at hso hrows
 have HE1:=qh hrows.dic;have HI1:=qh hrows.str
 obtain⟨ba,bc,rfl,_,_⟩:=id HE1.o
 obtain⟨ia,ic,rfl,_,_⟩:=id HI1.o
 obtain⟨⟨o0,o1,o2,o3,o4,o5,o6⟩,_⟩:=hso
 clear hrows
 go_wp2_with fail
 refine (l25Run _ _ l st sc d p n line _ HE1.o HI1.o hm HT.o.1 hl).mono ?_
 rintro e w5 ⟨nu2,nus2,rfl,hfe,hfi,hb⟩
 have HE2:=qh (hfe.read HE1.o hb);have HI2:=qh (hfi.read HI1.o hb)
 obtain⟨⟨⟨l2,⟨st2,sc2⟩⟩,ro⟩,ha⟩:∃a,P.cmd (l,(st,sc)) line=a:=⟨_,rfl⟩
 rw [ha]at HP HKT HE2 HI2⊢
 simp only at HP HKT HE2 HI2⊢
 clear ha hfe hfi HE1 HI1 x0 x1 x2 x3 x4 x5 x6 o0 o1 o2 o3 o4 o5 o6
 obtain⟨na2,nc2,rfl,_,_⟩:=id HE2.o
 obtain⟨ma2,mc2,rfl,_,_⟩:=id HI2.o
 have hz5:=Nat.le_trans hB4 hb.size
 obtain⟨w6,hw6⟩:∃v,w5.alloc (sessCells (.slice na2 l2.length nc2) (.slice ma2 st2.length mc2) sc2 d p n)=v:=⟨_,rfl⟩
 have hba:Below w5.heap.size w5 w6:=by rw [←hw6];exact bZ.alloc lZ _
 have hBz6:w5.heap.size<w6.heap.size:=by rw [←hw6];simp
 have HX6:=qh (show SOut w5.heap.size (.slice na2 l2.length nc2) (.slice ma2 st2.length mc2) sc2 d p n w6 from by rw [←hw6];exact SOut.new _ _ _ _ _ _ _)
 have HB6:=qh ((HB4.o.trans (hb.mono HB4.o.size)).trans (hba.mono oZ));have HQ6:=qh ((HQ4.o.below hb).below hba);have HE6:=qh (HE2.o.below hba);have HI6:=qh (HI2.o.below hba)
 clear hb hba HB4 HQ4 HS4 HE2 HI2
 go_upto_region 9 with fail
 try rw [hw6]
 clear hw6
 obtain⟨⟨o0,o1,o2,o3,o4,o5,o6⟩,_⟩:=HX6.o
 have hsl2:=P.slist_len (P.scr_ok (P.trans_parts HKT.o).1).2.1
 simp only at hsl2
 go_wp2_with fail
 refine (l25Own _ _ l2 st2 sc2 d p n _ HE6.o HI6.o (small_of_dic (P.trans_dic HKT.o)) oZ).mono ?_
 rintro e w7 ⟨nu3,nus3,m3,rfl,hD,hI,hm1,hm2,hb⟩
 obtain⟨na3,nc3,rfl,-,-⟩:=id hD
 obtain⟨ma3,mc3,rfl,-,-⟩:=id hI
 have HX7:=qh (HX6.o.below hb);have HQ7:=qh (HQ6.o.below hb);have HB7:=bt HB6 hb
 have hz7:=hb.size
 clear hb HX6 HQ6 HB6 HE6 HI6 o0 o1 o2 o3 o4 o5 o6
 obtain⟨w8,hw8⟩:∃v,wr6 w7 w5.heap.size (.slice na3 l2.length nc3) (.slice ma3 st2.length mc3) sc2 d p n=v:=⟨_,rfl⟩
 have hc8:Chg (fun b=>b=w5.heap.size) w7 w8:=by rw [←hw8];exact wr6_chg _ _ _ _ _ _ _ _
 have HROW8:=qh ((SRows.of (lo:=w.heap.size+2) (B:=w5.heap.size) hD hI oZ hm2 hm1 (.inr hBz6)).stand hc8 (fun b h=>.inl h))
 have HS8:=qh (show SesM (w.heap.size+2) w5.heap.size (l2,(st2,sc2)) (d,p,n) w8 from⟨by have:=HE.o.size;omega,by have:=hc8.size;omega,_,_,by rw [←hw8];exact wr6_out HX7.o _ _ _ _ _ _,HROW8.o⟩)
 have HQ8:=qh (show SQ w.heap.size (.slice ad l.length cap) (.slice sd st.length sap) sc d p n w8 from⟨HQ7.o.1.stand hc8 (fun h=>by have h9:w.heap.size=w5.heap.size:=h;omega),HQ7.o.2.stand hc8 (fun h=>by have h9:w.heap.size+1=w5.heap.size:=h;omega)⟩)
 have HB8:=qh (Chg.belowB HB7.o hc8 HB7.o.size (fun b h=>by have h9:b=w5.heap.size:=h;omega))
 have hz8:=hc8.size
 obtain⟨⟨o0,o1,o2,o3,o4,o5,o6⟩,g0,g1,g2,g3,g4,g5⟩:=HX7.o
 clear hD hI hm1 hm2 HROW8
 unfold wr6 at hw8
 have HRP:=qh (replied_txt ro)
 go_upto_region 10 with fail
 try rw [hw8]
 clear hw8 hc8 HX7 HQ7 HB7 o0 o1 o2 o3 o4 o5 o6 g0 g1 g2 g3 g4 g5
 generalize txtB ro=t1 at *
 go_upto_if 38 with fail
 go_cut [8] (fun rv wx=>rv=.string (S (P.replied ro))∧w8=wx)
 case first=>
  exact zq82
 case rest=>
  obtain⟨rfl,rfl⟩:=hcut;have hrl:=P.replied_len ro;generalize P.replied ro=rep at *;obtain⟨_,_,zu,zus,hzs,_⟩:=HS8.o;simp only at hzs;obtain⟨⟨x0,x1,x2,x3,x4,x5,x6⟩,_⟩:=hzs
  go_wp2_with fail
  refine (L.spec_append d p n line rep _ hf5 hf6 hl oZ (HE.o.below HB8.o HE.o.size)).mono ?_;rintro e w9 ⟨rfl,hb⟩;have HB9:=bt HB8 hb;have HQ9:=qh (HQ8.o.below hb);have HS9:=qh (HS8.o.below hb);have hz9:=hb.size;have HG:=qh (show P.logged (d,p,n) line rep=(d,(P.appS d p n line rep).1,(P.appS d p n line rep).2.1) from rfl);rw [HG.o]at HP;generalize P.appS d p n line rep=g9 at *;obtain⟨p9,n9,c9⟩:=g9;simp only at HP⊢;clear hb HB8 HQ8 HS8 x0 x1 x2 x3 x4 x5 x6 HG;obtain⟨w10,hw10⟩:∃v,wr3 w9 w5.heap.size d p9 n9=v:=⟨_,rfl⟩;have hc10:Chg (fun b=>b=w5.heap.size) w9 w10:=by rw [←hw10];exact wr3_chg _ _ _ _ _
  have HS10:=qh (show SesM (w.heap.size+2) w5.heap.size (l2,(st2,sc2)) (d,p9,n9) w10 from by rw [←hw10];exact HS9.o.log);have HQ10:=qh (show SQ w.heap.size (.slice ad l.length cap) (.slice sd st.length sap) sc d p n w10 from⟨HQ9.o.1.stand hc10 (fun h=>by have h9:w.heap.size=w5.heap.size:=h;omega),HQ9.o.2.stand hc10 (fun h=>by have h9:w.heap.size+1=w5.heap.size:=h;omega)⟩);have HB10:=qh (Chg.belowB HB9.o hc10 HB9.o.size (fun b h=>by have h9:b=w5.heap.size:=h;omega));have hz10:=hc10.size;obtain⟨_,_,zu9,zus9,hzs,_⟩:=HS9.o;obtain⟨⟨o0,o1,o2,o3,o4,o5,o6⟩,g0,g1,g2,g3,g4,g5⟩:=hzs;unfold wr3 at hw10
  go_upto_region 13 with fail
  try rw [hw10]
  clear hw10 hc10 HB9 HQ9 HS9 o0 o1 o2 o3 o4 o5 o6 g0 g1 g2 g3 g4 g5;obtain⟨_,_,bu,bus,hso,hrows⟩:=HS10.o;simp only at hso hrows;obtain⟨ba,bc,rfl,_,_⟩:=id hrows.dic;obtain⟨ia,ic,rfl,_,_⟩:=id hrows.str;obtain⟨⟨o0,o1,o2,o3,o4,o5,o6⟩,_⟩:=hso;obtain⟨⟨r0,r1,r2,r3,r4,r5,r6⟩,f0,f1,f2,f3,f4,f5⟩:=HQ10.o.2;obtain⟨V,hV⟩:∃v,wr6 w10 (w.heap.size+1) (.slice ba l2.length bc) (.slice ia st2.length ic) sc2 d p9 n9=v:=⟨_,rfl⟩;have hset:Chg (fun b=>b=w.heap.size+1) w10 V:=by rw [←hV];exact wr6_chg _ _ _ _ _ _ _ _
  have HRV:=qh (show SOut (w.heap.size+1) (.slice ba l2.length bc) (.slice ia st2.length ic) sc2 d p9 n9 V from by rw [←hV];exact wr6_out HQ10.o.2 _ _ _ _ _ _);have HBV:=qh (Chg.belowB HB10.o hset HB10.o.size (fun b h=>by have h9:b=w.heap.size+1:=h;omega));have HROW:=qh ((hrows.standLo hset (fun b h=>by have h9:b=w.heap.size+1:=h;omega)).lo (lo':=w.heap.size) oZ);unfold wr6 at hV;clear hrows;go_wp2
  try rw [hV]
  clear hset hV;obtain⟨q0,q1,q2,q3,q4,q5,q6⟩:=HRV.o.1;refine bodyPost_ret (v:=.tuple #[sessV (.slice ba l2.length bc) (.slice ia st2.length ic) sc2 d p9 n9,.string (S rep)]) (by simp [results,Tryz.results34,go_sem,q0,q1,q2,q3,q4,q5]) rfl ⟨_,_,w5.heap.size,by rw [HP.o]<;>rfl,by rw [HP.o];exact HROW.o,HBV.o⟩
end Go.Proofs.YtggfdnopminemaaGreatDoor
namespace Go.Proofs.YtggfdnopminemaaGreatDoor
open Go Go.RowKit
set_option maxHeartbeats 8000000
set_option maxRecDepth 100000
theorem spec_replayLog (dv:Value) (l:P.Dic) (d p:Str) (n:Int) (w:World) (hu:EntR w dv l) (hm:Small l) (hd:d.length≤2^20) (hp:p.length≤2^20) (hE:L.Env w) :
 Calls Tryz.prog 13 #[.agg #[dv],logV d p n] w (RplPost (P.replayL l (d,p,n)) w):=by
 obtain⟨ad,cap,rfl,_,_⟩:=id hu
 obtain⟨W0,hW0⟩:∃v,(w.alloc (.cells #[.slice ad l.length cap] 26)).alloc (.cells #[.string (S d),.string (S p),.int .i64 n] 28)=v:=⟨_,rfl⟩
 have hb0:Below w.heap.size w W0:=by rw [←hW0];exact ((Below.refl w.heap.size w).alloc lZ _).alloc sZ _
 have hx0:RlX w.heap.size (.slice ad l.length cap) d p n W0:=by rw [←hW0];exact RlX.new _ _ _ _ _ _ _
 have HU:=qh hu;have HE:=qh hE
 have HX:=qh hx0;have HB:=qh hb0
 have HNO:=qh (P.replayL_no (d:=l) (g:=(d,p,n)));have HYES:=qh (P.replayL_yes (d:=l) (g:=(d,p,n)))
 have HRG:=qh (P.readAll_good (d++p));have hrl:=(P.readAll_len (d++p)).1
 have hzW:w.heap.size+1<W0.heap.size:=hx0.2.2.2.2
 have HBAD:=qh (show ∀v:World,Below w.heap.size w v→(P.dic l&&P.validLog d p n)=false→RplPost (P.replayL l (d,p,n)) w (.returned (.tuple #[.int .i64 0,.bool false])) v from fun v hb h=>by rw [P.replayL_no h];exact⟨rfl,hb⟩)
 clear hx0 hb0 hu hE
 go_enter Tryz.func13,Tryz.ntmps13
 go_upto_region 1 with fail
 try rw [hW0]
 clear hW0
 obtain⟨o0,o1,o2,o3,_⟩:=HX.o
 go_wp2_with fail
 refine (l6Good _ l _ (HU.o.below HB.o) hm.texts).mono ?_
 rintro e w1 ⟨rfl,hb⟩
 have HX1:=qh (HX.o.below hb);have HB1:=bt HB hb
 have hz1:=hb.size
 clear hb HX HB o0 o1 o2 o3
 cases h1:P.dic l
 ·have HQ:=qh (HBAD.o _ HB1.o (by rw [h1];rfl));go_wp2;go_ret2;exact HQ.o
 obtain⟨o0,o1,o2,o3,_⟩:=HX1.o
 go_wp2_with fail
 refine (L.l24Log d p n _ hd hp).mono ?_
 rintro e w2 ⟨rfl,hb⟩
 have HX2:=qh (HX1.o.below hb);have HB2:=bt HB1 hb
 have hz2:=hb.size
 clear hb HX1 HB1 o0 o1 o2 o3
 cases h2:P.validLog d p n
 ·have HQ:=qh (HBAD.o _ HB2.o (by rw [h1,h2];rfl));go_wp2;go_ret2;exact HQ.o
 obtain⟨o0,o1,o2,o3,_⟩:=HX2.o
 go_wp2_with fail
 refine (L.spec_records d p n _ hd hp).mono ?_
 rintro e w3 ⟨rv,rfl,hrec,hb⟩
 rw [show P.recsS d p n=(P.readAll (d++p)).1 from by unfold P.recsS;rw [if_pos h2,P.openLog_eq]]at hrec
 obtain⟨g,hrow,hg⟩:=L.own_row hrec oZ
 obtain⟨ra,rc,rfl,_,hra⟩:=id hrow
 have HX3:=qh (HX2.o.below hb);have HB3:=bt HB2 hb;have HROW3:=qh hrow
 have hz3:=hb.size
 have hg1:(P.readAll (d++p)).1=[]∨g<w3.heap.size:=hg.imp id fun h=>h.2
 clear hb hrec hrow hra hg HX2 HB2 o0 o1 o2 o3
 obtain⟨o0,o1,o2,o3,_⟩:=HX3.o
 go_wp2_with fail
 refine (l6Own _ l _ (HU.o.below HB3.o) hm.len hm.outs).mono ?_
 rintro e w4 ⟨nu,rfl,hD,hb⟩
 obtain⟨na,nc,rfl,-,-⟩:=id hD
 have HB4:=bt HB3 hb;have HROW4:=qh (HROW3.o.carry hb)
 have hz4:=hb.size
 have hg2:(P.readAll (d++p)).1=[]∨g<w4.heap.size:=hg1.imp id fun h=>Nat.lt_of_lt_of_le h hz4
 have HD:=qh hD;have HBN:=qh hb
 have hba:Below w4.heap.size w4 (w4.alloc (sessCells (.slice na l.length nc) (.slice none 0 0) [] [] [] 0)):=bZ.alloc lZ _
 have hz5:w4.heap.size<(w4.alloc (sessCells (.slice na l.length nc) (.slice none 0 0) [] [] [] 0)).heap.size:=by simp
 have HB5:=bt HB4 hba;have HROW5:=qh (HROW4.o.carry hba)
 have HS5:=qh (show SesM w.heap.size w4.heap.size (P.ses0 l).1 (P.ses0 l).2 (w4.alloc (sessCells (.slice na l.length nc) (.slice none 0 0) [] [] [] 0)) from SesM.new (w:=w3) (by have:=HE.o.size;omega) oZ HBN.o HD.o)
 clear hb hba hD HX3 HB3 HROW3 HB4 HROW4 HD HBN o0 o1 o2 o3 hg1
 go_upto_region 5 with fail
 generalize w4.alloc (sessCells (.slice na l.length nc) (.slice none 0 0) [] [] [] 0)=w5 at *
 have HP:=qh (HYES.o h1 h2)
 have HF0:=qh (P.ses0_fit h1)
 try simp only at HP
 clear HBAD HNO HYES h1 h2
 generalize hrs:(P.readAll (d++p)).1=rs at *
 clear hrs
 go_wp2
 go_loopw [9,10] (fun r i wr=>∃(j:Nat) (s1:P.Ses) (g1:P.LogT),j≤rs.length∧i=.int .i64 j∧(∃x,r=.string (S x))∧P.firstBad (P.ses0 l) rs=j+P.firstBad (s1,g1) (rs.drop j)∧P.Fit s1 g1∧SesM w.heap.size w4.heap.size s1 g1 wr∧L.RowR (.slice ra rs.length rc) g rs wr∧Below w.heap.size w wr) (fun _ i _=>rs.length-(intOf i).toNat)
 case atStart=>exact⟨0,_,_,Nat.zero_le _,rfl,⟨[],rfl⟩,by rw [List.drop_zero];simp,HF0.o,HS5.o,HROW5.o,HB5.o⟩
 case round=>
  obtain⟨j,s1,g1,hj,rfl,⟨r0,rfl⟩,hfb,hfit,hs,hrow,hb⟩:=hrel;have HFB:=qh hfb;have HFIT:=qh hfit;have HS:=qh hs;have HROW2:=qh hrow;have HBR:=qh hb;clear hfb hfit hs hb HF0 HS5 HROW5 HB5
  by_cases hlt:j<rs.length
  ·obtain⟨ra',rc',hrv,_,hra⟩:=hrow;injection hrv with e1 e2 e3;subst e1 e3
   rcases hra with hra|⟨rfl,hgz,hra⟩
   ·rw [hra]at hlt;exact absurd hlt (Nat.not_lt_zero _)
   obtain⟨c0,c1,_,_⟩:=hra j hlt;have i1:(j:Int)<(rs.length:Int):=by omega
   have hgd:=P.good_parts (HRG.o rs[j] (List.getElem_mem hlt));have HDR:=qh (List.drop_eq_getElem_cons hlt);have HFX:=qh (P.exec_fit (line:=rs[j].1) HFIT.o);have hgne:g<w4.heap.size:=by rcases hg2 with e|e;exact absurd hlt (by rw [e];exact Nat.not_lt_zero _);exact e
   generalize rs[j]=x at *;obtain⟨cx,rx⟩:=x;simp only at hgd c0 c1 HDR HFX;obtain⟨l1,st1,sc1⟩:=s1;obtain⟨d1,p1,n1⟩:=g1;have hsd:wr.drew.heap.size=wr.heap.size:=rfl;have HSD:=qh (HS.o.below bZ.drew);have HROWD:=qh (HROW2.o.carry bZ.drew);have HBD:=qh (HBR.o.trans (bZ.drew.mono HBR.o.size));obtain⟨_,_,bu,bus,hso,hrows0⟩:=HSD.o;simp only at hso hrows0;have HRE:=qh hrows0.dic;have HRI:=qh hrows0.str;obtain⟨ua,uc,rfl,_,_⟩:=id HRE.o;obtain⟨ia,ic,rfl,_,_⟩:=id HRI.o;have hwr:w4.heap.size<wr.drew.heap.size:=hso.1.2.2.2.2.2.2;have HSAME:=qh (P.firstBad_same (a:=((l1,(st1,sc1)),(d1,p1,n1))) (r:=(cx,rx)) (rs:=rs.drop (j+1)));have HOTH:=qh (P.firstBad_other (a:=((l1,(st1,sc1)),(d1,p1,n1))) (r:=(cx,rx)) (rs:=rs.drop (j+1)));rw [HDR.o]at HFB;simp only at HSAME HOTH;obtain⟨⟨⟨⟨l2,st2,sc2⟩,d2,p2,n2⟩,rep⟩,hq⟩:∃q,P.exec (l1,(st1,sc1)) (d1,p1,n1) cx=q:=⟨_,rfl⟩;have HEX:=qh hq;rw [hq]at HFX HSAME HOTH;simp only at HFX HSAME HOTH;clear hq;have HXD:=qh (show SOut w4.heap.size (.slice ua l1.length uc) (.slice ia st1.length ic) sc1 d1 p1 n1 wr.drew∧wr.drew.cell? ⟨g,j*2,none⟩=some (.string (S cx))∧wr.drew.cell? ⟨g,j*2+1,none⟩=some (.string (S rx))∧g<wr.drew.heap.size from⟨hso,c0,c1,hgz⟩);clear hrows0 hso hra HS HROW2 HBR c0 c1 hsd
   go_upto_region 9 with fail
   go_cut [9] (fun rv wx=>rv=.string (S rep)∧SesM w.heap.size w4.heap.size (l2,(st2,sc2)) (d2,p2,n2) wx∧L.RowR (.slice (some ⟨g,0,none⟩) rs.length rc) g rs wx∧Below w.heap.size w wx∧wx.cell? ⟨g,j*2+1,none⟩=some (.string (S rx)))
   case first=>
    refine Left.region [9,10,11] (S:=fun v=>SOut w4.heap.size (.slice ua l1.length uc) (.slice ia st1.length ic) sc1 d1 p1 n1 v∧v.cell? ⟨g,j*2,none⟩=some (.string (S cx))∧v.cell? ⟨g,j*2+1,none⟩=some (.string (S rx))∧g<v.heap.size) kZ HXD.o (fun hS0=>?_);generalize wr.drew=y0 at *;refine lk17 0 hS0 ?_;refine lk17 1 hS0 ?_;refine lk17 2 hS0 ?_;refine lk17 3 (v:=.pointer (some ⟨g,j*2,none⟩)) hS0 ?_;refine lk17 4 (v:=.pointer (some ⟨g,j*2,none⟩)) hS0 ?_;refine lk17 5 hS0 ?_;refine lrd 6 fun K hK=>?_;go_simp;refine (spec_execute _ _ l1 st1 sc1 d1 p1 n1 cx _ HRE.o HRI.o HFIT.o oZ (HE.o.below HBD.o HE.o.size)).mono ?_;rintro e w6 ⟨nu2,nus2,B2,rfl,hrows,hb⟩;rw [HEX.o]at hrows⊢;simp only at hrows⊢;have HS6:=qh (HSD.o.below hb);have HROW6:=qh (HROWD.o.carry hb);have HB6:=bt HBD hb;have HS7:=qh (HS6.o.store (g2:=(d2,p2,n2)) (s2:=(l2,(st2,sc2))) hrows hwr HBD.o.size);obtain⟨na2,nc2,rfl,_,_⟩:=id hrows.dic;obtain⟨ma2,mc2,rfl,_,_⟩:=id hrows.str;refine on_held hK dZ ⟨hS0.1.below hb,(hb.cell (p:=⟨g,j*2,none⟩) hS0.2.2.2).trans hS0.2.1,(hb.cell (p:=⟨g,j*2+1,none⟩) hS0.2.2.2).trans hS0.2.2.1,Nat.lt_of_lt_of_le hS0.2.2.2 hb.size⟩ (fun hS1=>?_);clear hK K hb hS0 hrows
    try simp only [qA,qB,qC,Act.put,qD,qE,qF]
    refine lk17 7 hS1 ?_;obtain⟨w7,hw7⟩:∃v,wr6 w6 w4.heap.size (.slice na2 l2.length nc2) (.slice ma2 st2.length mc2) sc2 d2 p2 n2=v:=⟨_,rfl⟩;have hc7:Chg (fun b=>b=w4.heap.size) w6 w7:=by rw [←hw7];exact wr6_chg _ _ _ _ _ _ _ _
    have HROW7:=qh (recAt_chg HROW6.o hc7 (.inr oZ));have HB7:=qh (Chg.belowB HB6.o hc7 HB6.o.size (fun b e=>by have h9:b=w4.heap.size:=e;omega));have HC1:=qh (show w7.cell? ⟨g,j*2+1,none⟩=some (.string (S rx)) from (hc7.cell (p:=⟨g,j*2+1,none⟩) hS1.2.2.2 (fun e=>by have h9:g=w4.heap.size:=e;omega)).trans hS1.2.2.1);simp only at HS7;rw [hw7]at HS7;obtain⟨_,_,zu,zus,hzs,_⟩:=HS6.o;obtain⟨⟨r0',r1,r2,r3,r4,r5,r6⟩,f0,f1,f2,f3,f4,f5⟩:=hzs;clear hc7 HROW6;unfold wr6 at hw7;refine Left.ready (rs:=[8,9]) kZ sZ ?_;refine Nexts.cons rfl (fun K hK=>?_) (Nexts.cons rfl (fun K hK=>?_) Nexts.nil)
    ·skip;go_simp;refine on_held hK dZ hS1 (fun _=>?_);clear hK K
     try simp only [qA,qB,qC,Act.put,qD,qE,qF]
     refine Left.ready (rs:=[9,10]) kZ sZ ?_;refine Nexts.cons rfl (fun K hK=>?_) (Nexts.cons rfl (fun K hK=>?_) Nexts.nil)
     ·skip;go_simp;refine on_last hK dZ ?_;exact zq180
     ·skip;go_simp;refine on_last hK dZ ?_;clear hK K
      try rw [hw7]
      try simp only [qA,qB,qC,Act.put,qD,qE,qF]
      refine lrd 9 fun K hK=>?_;go_simp;refine on_last hK dZ ?_;clear hK K;exact zq22
    ·skip;go_simp;refine on_last hK dZ ?_;clear hK K
     try simp only [qA,qB,qC,Act.put,qD,qE,qF]
     refine lrd 8 fun K hK=>?_;go_simp;refine on_held hK dZ hS1 (fun _=>?_);exact zq180
   case rest=>
    obtain⟨rfl,hs7,hrow7,hb7,hc1⟩:=hcut;generalize hww:wc=w7 at *;have HS7:=qh hs7;have HROW7:=qh hrow7;have HB7:=qh hb7;have hgz7:g<w7.heap.size:=Nat.lt_of_lt_of_le hgne (Nat.le_of_lt (by obtain⟨_,_,_,_,h,_⟩:=hs7;exact h.1.2.2.2.2.2.2));clear hww hs7 hrow7 hb7
    by_cases heq:rep=rx
    ·subst heq;have HF2:=qh (HFB.o.trans (by rw [HSAME.o rfl]));go_wp2
     go_roundw
     case rel=>exact⟨j+1,_,_,by omega,by go_num,⟨_,rfl⟩,by rw [HF2.o];omega,HFX.o,HS7.o,HROW7.o,HB7.o⟩
     case measure=>simp [intOf];omega
    ·have f1:(rep==rx)=false:=by simpa using heq
     have HF2:=qh (HFB.o.trans (by rw [HOTH.o heq]));have HEND:=qh (show RplPost (P.replayL l (d,p,n)) w (.returned (.tuple #[.int .i64 (j:Int),.bool true])) w7 from by rw [HP.o,HF2.o];exact⟨rfl,HB7.o⟩);clear HF2;go_wp2;go_ret2;exact HEND.o
  ·exact zq99
theorem law_replayLog (u:Value) (l:P.Dic) (d p:Str) (n:Int) (w:World) (hu:EntA w u l) (ht:∀e∈l,e.2.length≤9223372036854775807) (hd:d.length≤maxLen) (hp:p.length≤maxLen) (hE:L.Env w) :
 Calls Tryz.prog 5 #[.agg #[u],logV d p n] w fun e w'=>e=.returned (.bool true)∧Below w.heap.size w w':=by
 obtain⟨ad,cap,rfl,hln,_⟩:=id hu
 obtain⟨W0,hW0⟩:∃v,(w.alloc (.cells #[.slice ad l.length cap] 63)).alloc (.cells #[.string (S d),.string (S p),.int .i64 n] 64)=v:=⟨_,rfl⟩
 have hb0:Below w.heap.size w W0:=by rw [←hW0];exact ((Below.refl w.heap.size w).alloc lZ _).alloc sZ _
 have hx0:RlX w.heap.size (.slice ad l.length cap) d p n W0:=by rw [←hW0];exact RlX.new _ _ _ _ _ _ _
 have HUA:=qh hu;have HE:=qh hE;have HT:=qh ht
 have HX:=qh hx0;have HB:=qh hb0
 have HZE:=qh (P.sizeE_nonneg l)
 clear hx0 hb0 hu hE ht
 go_enter Tryz.func5,Tryz.ntmps5
 go_upto_region 1 with fail
 try rw [hW0]
 clear hW0
 obtain⟨o0,o1,o2,o3,_⟩:=HX.o
 go_wp2_with fail
 refine (szDictionary _ l 1048576 _ (HUA.o.below HB.o) HT.o dZ dZ).mono ?_
 rintro e w1 ⟨⟨r,rfl,hra,hrb⟩,hb⟩
 have HX1:=qh (HX.o.below hb);have HB1:=bt HB hb;have HRB:=qh hrb
 clear hb hrb HX HB o0 o1 o2 o3
 obtain⟨o0,o1,o2,o3,_⟩:=HX1.o
 by_cases hneg:r<0
 ·go_wp2;go_ret;exact⟨rfl,HB1.o⟩
 have hR:r=1048576-((l.length:Int)+P.sizeE l):=HRB.o oZ
 have hr1:r≤1048576:=by have:=HZE.o;omega
 have HSM:=qh (small_of (l:=l) (by have:=HZE.o;omega))
 have HU:=qh (HUA.o.read HSM.o.len HSM.o.outs)
 clear HUA HRB hR HZE HT
 go_wp2_with fail
 refine (L.szLog d p n r _ hd hp oZ hr1).mono ?_
 rintro e w2 ⟨rfl,hb⟩
 have HX2:=qh (HX1.o.below hb);have HB2:=bt HB1 hb
 clear hb HX1 HB1 o0 o1 o2 o3 hra
 have HZ2:=qh (fun h=>L.sz2_le (a:=d.length) (b:=p.length) (left:=r) h)
 generalize P.sz2 d.length p.length r=r2 at *
 by_cases hn2:r2<0
 ·go_wp2;go_ret;exact⟨rfl,HB2.o⟩
 have hle:=HZ2.o oZ
 have hd2:d.length≤2^20:=by omega
 have hp2:p.length≤2^20:=by omega
 clear HZ2 hd hp hle hneg hr1
 have hdd:Below w2.heap.size w2 w2.drew:=bZ.drew
 have HX3:=qh (HX2.o.below hdd);have HB3:=bt HB2 hdd
 clear hdd HX2 HB2
 go_upto_region 8 with fail
 refine wp_region_held_drew (S:=RlX w.heap.size (.slice ad l.length cap) d p n) kZ HX3.o (fun hS0=>?_)
 generalize w2.drew=y0 at *
 refine tk18 0 hS0 ?_
 refine tk18 2 hS0 ?_
 refine trd 1 fun K hK=>?_
 go_simp
 refine (toDictionary _ l _ (HU.o.below HB3.o) HSM.o.len HSM.o.outs).mono ?_
 rintro e y1 ⟨x,rfl,hI,hb⟩
 have HB4:=bt HB3 hb;have HD4:=qh (Ents.read hI)
 refine hK.out _ _ (hS0.below hb) (fun hS1=>?_)
 clear hK K hb hS0 HX3 HB3 hI
 try simp only [qA,qB,qC,Act.put,qD,qE,qF]
 refine trd 3 fun K hK=>?_
 go_simp
 refine (L.toLog d p n _).mono ?_
 rintro e y2 ⟨rfl,hb⟩
 have HB5:=bt HB4 hb;have HD5:=qh (HD4.o.below hb)
 refine hK.out _ _ (hS1.below hb) (fun hS2=>?_)
 clear hK K hb hS1 HB4 HD4
 try simp only [qA,qB,qC,Act.put,qD,qE,qF]
 refine trd 4 fun K hK=>?_
 go_simp
 refine (spec_replayLog _ l d p n _ HD5.o HSM.o hd2 hp2 (HE.o.below HB5.o HE.o.size)).mono ?_
 rintro e y3 ⟨rfl,hb⟩
 have HB6:=bt HB5 hb;have HX6:=qh (hS2.below hb)
 refine hK.out _ _ (hS2.below hb) (fun hS3=>?_)
 clear hK K hb hS2 HB5 HD5
 try simp only [qA,qB,qC,Act.put,qD,qE,qF]
 obtain⟨q1,q2,hq⟩:∃a b,P.replayL l (d,p,n)=(a,b):=⟨_,_,rfl⟩
 have HQ:=qh hq
 rw [hq]
 simp only
 clear hq
 refine tk18 5 hS3 ?_
 refine tk18 6 hS3 ?_
 refine tk18 7 hS3 ?_
 refine tk18 8 hS3 ?_
 refine tk18 9 hS3 ?_
 refine wpAnyH_done kZ ?_ _
 clear hS3
 obtain⟨o0,o1,o2,o3,_⟩:=HX6.o
 go_wp2_with fail
 refine (toDictionary _ l _ (HU.o.below HB6.o) HSM.o.len HSM.o.outs).mono ?_
 rintro e w4 ⟨x0,rfl,hI,hb⟩
 obtain⟨xa,xc,rfl,_,_⟩:=id hI
 obtain⟨w5,hw5⟩:∃v,w4.alloc (.cells #[.slice xa l.length xc] 26)=v:=⟨_,rfl⟩
 have hba:Below w4.heap.size w4 w5:=by rw [←hw5];exact bZ.alloc lZ _
 have HB7:=qh ((HB6.o.trans (hb.mono HB6.o.size)).trans (hba.mono (Nat.le_trans HB6.o.size hb.size)));have HX7:=qh ((HX6.o.below hb).below hba)
 have HD7:=qh ((Ents.read hI).below hba)
 have HC7:=qh (show Box1 w4.heap.size (.slice xa l.length xc) w5 from by rw [←hw5];exact Box1.new _ _ _)
 clear hb hba hI HB6 HX6 o0 o1 o2 o3
 go_upto_region 10 with fail
 try rw [hw5]
 clear hw5
 generalize w4.heap.size=b at *
 have hdd:Below w5.heap.size w5 w5.drew:=bZ.drew
 have HX8:=qh (HX7.o.below hdd);have HB8:=bt HB7 hdd;have HD8:=qh (HD7.o.below hdd);have HC8:=qh (HC7.o.below hdd)
 clear hdd HX7 HB7 HD7 HC7
 refine wp_region_held_drew (S:=fun v=>RlX w.heap.size (.slice ad l.length cap) d p n v∧Box1 b (.slice xa l.length xc) v) kZ ⟨HX8.o,HC8.o⟩ (fun hS0=>?_)
 generalize w5.drew=y4 at *
 refine tk13 0 hS0 ?_
 refine tk13 1 hS0 ?_
 refine trd 2 fun K hK=>?_
 go_simp
 refine (L.toLog d p n _).mono ?_
 rintro e y5 ⟨rfl,hb⟩
 have HB9:=bt HB8 hb;have HD9:=qh (HD8.o.below hb)
 refine hK.out _ _ ⟨hS0.1.below hb,hS0.2.below hb⟩ (fun hS1=>?_)
 clear hK K hb hS0 HB8 HD8 HX8 HC8
 try simp only [qA,qB,qC,Act.put,qD,qE,qF]
 refine trd 3 fun K hK=>?_
 go_simp
 refine (impl_replayLog _ l d p n _ HD9.o HSM.o hd2 hp2 (HE.o.below HB9.o HE.o.size)).mono ?_
 rintro e y6 ⟨rfl,hb⟩
 have HB10:=bt HB9 hb;have HD10:=qh (HD9.o.below hb);have HX10:=qh (hS1.1.below hb);have HC10:=qh (hS1.2.below hb)
 refine hK.out _ _ ⟨hS1.1.below hb,hS1.2.below hb⟩ (fun hS2=>?_)
 clear hK K hb hS1 HB9 HD9
 try simp only [qA,qB,qC,Act.put,qD,qE,qF]
 rw [HQ.o]
 simp only
 refine tk13 4 hS2 ?_
 refine tk13 5 hS2 ?_
 refine tk13 6 hS2 ?_
 refine tk13 7 hS2 ?_
 refine tk13 8 hS2 ?_
 refine wpAnyH_done kZ ?_ _
 clear hS2
 have hdd:Below y6.heap.size y6 y6.drew:=bZ.drew
 have HX11:=qh (HX10.o.below hdd);have HB11:=bt HB10 hdd;have HD11:=qh (HD10.o.below hdd);have HC11:=qh (HC10.o.below hdd)
 clear hdd HX10 HB10 HD10 HC10
 go_upto_region 13 with fail
 refine wp_region_held_drew (S:=fun v=>RlX w.heap.size (.slice ad l.length cap) d p n v∧Box1 b (.slice xa l.length xc) v) kZ ⟨HX11.o,HC11.o⟩ (fun hS0=>?_)
 generalize y6.drew=y7 at *
 refine tk13 0 hS0 ?_
 refine tk13 1 hS0 ?_
 refine trd 2 fun K hK=>?_
 go_simp
 refine (toDictionary _ l _ (HU.o.below HB11.o) HSM.o.len HSM.o.outs).mono ?_
 rintro e y8 ⟨x2,rfl,hI,hb⟩
 have HB12:=bt HB11 hb;have HD12:=qh (HD11.o.below hb);have HI12:=qh (Ents.read hI)
 refine hK.out _ _ ⟨hS0.1.below hb,hS0.2.below hb⟩ (fun hS1=>?_)
 clear hK K hb hS0 HB11 HD11 hI HX11 HC11
 try simp only [qA,qB,qC,Act.put,qD,qE,qF]
 refine trd 3 fun K hK=>?_
 go_simp
 refine (eqDictionary _ _ l _ HD12.o HI12.o).mono ?_
 rintro e y9 ⟨rfl,hb⟩
 have HB13:=bt HB12 hb
 refine hK.out _ _ ⟨hS1.1.below hb,hS1.2.below hb⟩ (fun hS2=>?_)
 clear hK K hb hS1 HB12 HD12 HI12
 try simp only [qA,qB,qC,Act.put,qD,qE,qF]
 refine tk13 4 hS2 ?_
 refine wpAnyH_done kZ ?_ _
 clear hS2
 go_wp2
 go_ret
 exact⟨rfl,HB13.o⟩
end Go.Proofs.YtggfdnopminemaaGreatDoor
