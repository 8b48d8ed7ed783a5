/- Walk: one record more (reference). -/
import Derived.Test.YtggfdnopminemaaGreatDoorZt
import Derived.Test.YtggfdnopminemaaGreatDoorSesL1
import Derived.Test.YtggfdnopminemaaGreatDoorSesB3
namespace Go.Proofs.YtggfdnopminemaaGreatDoor.L
open Go Go.RowKit
set_option maxHeartbeats 8000000
set_option maxRecDepth 100000
theorem spec_append (d p:Str) (n:Int) (c r:Str) (w:World) (hd:d.length≤2^20) (hp:p.length≤2^20) (hc:c.length≤2^20) (hr:r.length≤2^20) (hE:Env w) :
 Calls Tryz.prog 54 #[logV d p n,.agg #[.string (S c),.string (S r)]] w fun e w'=>e=.returned (.tuple #[logV d (P.appS d p n c r).1 (P.appS d p n c r).2.1,.int .i64 (P.appS d p n c r).2.2])∧Below w.heap.size w w':=by
 have A1:=qh (AB.start (w:=w) (d:=d) (p:=p) (n:=n) (c:=c) (r:=r) (t:=28) (u:=86) hE)
 clear hE
 cases h1:P.validLog d p n
 ·have HF:=qh (show P.appS d p n c r=(p,n,1) by unfold P.appS;rw [h1];rfl)
  go_enter Tryz.func54,Tryz.ntmps54
  go_wp2_with fail
  refine (l24Log _ _ _ _ hd hp).mono ?_;rintro e w1 ⟨rfl,hb⟩;have A2:=qh (A1.o.carry hb);clear hb A1;obtain⟨⟨a1,a2,a3⟩,⟨b1,b2⟩,⟨c1,c2,c3⟩,⟨d1,d2,d3⟩,⟨e1,e2,e3⟩,hz,_⟩:=A2.o;rw [h1];go_wp2;refine bodyPost_ret (v:=.tuple #[logV d p n,.int .i64 1]) (by simp [results,Tryz.results54,go_sem,c1,c2,c3]) rfl ⟨by rw [HF.o],?_⟩;exact ((A2.o.below.setCell (by simp;omega) _).setCell (by simp;omega) _).setCell (by simp;omega) _
 ·cases h2:P.good c r
  ·have HF:=qh (show P.appS d p n c r=(p,n,1) by unfold P.appS;rw [h1,h2];rfl)
   go_enter Tryz.func54,Tryz.ntmps54
   go_wp2_with fail
   refine (l24Log _ _ _ _ hd hp).mono ?_;rintro e w1 ⟨rfl,hb⟩;have A2:=qh (A1.o.carry hb);clear hb A1;obtain⟨⟨a1,a2,a3⟩,⟨b1,b2⟩,⟨c1,c2,c3⟩,⟨d1,d2,d3⟩,⟨e1,e2,e3⟩,hz,_⟩:=A2.o;rw [h1]
   go_wp2_with fail
   refine (l24Good _ _ _ (by unfold maxLen;omega) (by unfold maxLen;omega)).mono ?_;rintro e w2 ⟨rfl,hb⟩;have A3:=qh (A2.o.carry hb);clear hb A2;clear a1 a2 a3 b1 b2 c1 c2 c3 d1 d2 d3 e1 e2 e3 hz;obtain⟨⟨a1,a2,a3⟩,⟨b1,b2⟩,⟨c1,c2,c3⟩,⟨d1,d2,d3⟩,⟨e1,e2,e3⟩,hz,_⟩:=A3.o;rw [h2];go_wp2;refine bodyPost_ret (v:=.tuple #[logV d p n,.int .i64 1]) (by simp [results,Tryz.results54,go_sem,c1,c2,c3]) rfl ⟨by rw [HF.o],?_⟩;exact zq89
  ·cases h3:(n==60)
   ·obtain⟨hn0,hn1,_⟩:=P.valid_n h1;obtain⟨x,hx⟩:∃x,P.line n.toNat c r=x:=⟨_,rfl⟩;have HX:=qh hx;have HF:=qh (show P.appS d p n c r=(p++x,n+1,0) by unfold P.appS;rw [h1,h2,h3,hx];rfl)
    have hxl:x.length≤10000:=by
     rw [←hx];have h6:n≠60:=by simpa using h3
     have:=(P.line_len (k:=n.toNat) oZ h2).1;omega
    clear hx;have f1:¬9223372036854775807<p.length+x.length:=by omega
    go_enter Tryz.func54,Tryz.ntmps54
    go_wp2_with fail
    refine (l24Log _ _ _ _ hd hp).mono ?_;rintro e w1 ⟨rfl,hb⟩;have A2:=qh (A1.o.carry hb);clear hb A1;obtain⟨⟨a1,a2,a3⟩,⟨b1,b2⟩,⟨c1,c2,c3⟩,⟨d1,d2,d3⟩,⟨e1,e2,e3⟩,hz,_⟩:=A2.o;rw [h1]
    go_wp2_with fail
    refine (l24Good _ _ _ (by unfold maxLen;omega) (by unfold maxLen;omega)).mono ?_;rintro e w2 ⟨rfl,hb⟩;have A3:=qh (A2.o.carry hb);clear hb A2;clear a1 a2 a3 b1 b2 c1 c2 c3 d1 d2 d3 e1 e2 e3 hz;obtain⟨⟨a1,a2,a3⟩,⟨b1,b2⟩,⟨c1,c2,c3⟩,⟨d1,d2,d3⟩,⟨e1,e2,e3⟩,hz,_⟩:=A3.o;rw [h2]
    go_upto_region 5 with fail
    have A4:AB w d p n c r w2.drew:=A3.o.carry (bZ.drew);clear a1 a2 a3 b1 b2 c1 c2 c3 d1 d2 d3 e1 e2 e3 hz A3;have A5:=qh A4;obtain⟨⟨a1,a2,a3⟩,⟨b1,b2⟩,⟨c1,c2,c3⟩,⟨d1,d2,d3⟩,⟨e1,e2,e3⟩,hz,_⟩:=A4
    go_region_law ((go_simp;go_at_call 122;refine (l24Line _ _ _ _ hn0 oZ oZ oZ).mono ?_;rintro e v ⟨rfl,hb⟩;rw [HX.o];have A6:=qh (A5.o.carry hb);obtain⟨⟨a1,a2,a3⟩,⟨b1,b2⟩,⟨c1,c2,c3⟩,⟨d1,d2,d3⟩,⟨e1,e2,e3⟩,hz,_⟩:=A6.o;clear hb))
    all_goals
     go_wp2
     refine bodyPost_ret (v:=.tuple #[logV d (p++x) (n+1),.int .i64 0]) (by simp [results,Tryz.results54,go_sem,c1,c2,c3]) rfl ⟨by rw [HF.o],?_⟩
     exact (((((A6.o.below.setCell sZ _).setCell sZ _).setCell (by simp;omega) _).setCell (by simp;omega) _).setCell (by simp;omega) _)
   ·have HF:=qh (show P.appS d p n c r=(p,n,2) by unfold P.appS;rw [h1,h2,h3];rfl)
    go_enter Tryz.func54,Tryz.ntmps54
    go_wp2_with fail
    refine (l24Log _ _ _ _ hd hp).mono ?_;rintro e w1 ⟨rfl,hb⟩;have A2:=qh (A1.o.carry hb);clear hb A1;obtain⟨⟨a1,a2,a3⟩,⟨b1,b2⟩,⟨c1,c2,c3⟩,⟨d1,d2,d3⟩,⟨e1,e2,e3⟩,hz,_⟩:=A2.o;rw [h1]
    go_wp2_with fail
    refine (l24Good _ _ _ (by unfold maxLen;omega) (by unfold maxLen;omega)).mono ?_;rintro e w2 ⟨rfl,hb⟩;have A3:=qh (A2.o.carry hb);clear hb A2;clear a1 a2 a3 b1 b2 c1 c2 c3 d1 d2 d3 e1 e2 e3 hz;obtain⟨⟨a1,a2,a3⟩,⟨b1,b2⟩,⟨c1,c2,c3⟩,⟨d1,d2,d3⟩,⟨e1,e2,e3⟩,hz,_⟩:=A3.o;rw [h2];go_wp2;refine bodyPost_ret (v:=.tuple #[logV d p n,.int .i64 2]) (by simp [results,Tryz.results54,go_sem,c1,c2,c3]) rfl ⟨by rw [HF.o],?_⟩;exact zq89
end Go.Proofs.YtggfdnopminemaaGreatDoor.L
namespace Go.Proofs.YtggfdnopminemaaGreatDoor
open Go Go.RowKit
set_option maxHeartbeats 8000000
set_option maxRecDepth 100000
theorem spec_execute (u us:Value) (l:P.Dic) (st:List Int) (sc d p:Str) (n:Int) (line:Str) (w:World) (hu:EntR w u l) (hus:IntR w us st) (hf:P.Fit (l,(st,sc)) (d,p,n)) (hl:line.length≤2^20) (hE:L.Env w) :
 Calls Tryz.prog 34 #[sessV u us sc d p n,.string (S line)] w (ExPost (P.exec (l,(st,sc)) (d,p,n) line) w):=by
 obtain⟨hf1,hf2,hf3,hf4,hf5,hf6⟩:=hf
 have hm:Small l:=⟨hf1,hf2,hf3⟩
 simp only at hf4 hf5 hf6
 clear hf1 hf2 hf3
 have hu0:=hu;have hus0:=hus
 obtain⟨ad,cap,rfl,_,_⟩:=hu0
 obtain⟨sd,sap,rfl,_,_⟩:=hus0
 obtain⟨W0,hW0⟩:∃v,(w.alloc (sessCells (.slice ad l.length cap) (.slice sd st.length sap) sc d p n)).alloc (sessCells (.slice none 0 0) (.slice none 0 0) [] [] [] 0)=v:=⟨_,rfl⟩
 have hb0:Below w.heap.size w W0:=by rw [←hW0];exact ((Below.refl w.heap.size w).alloc lZ _).alloc sZ _
 have hzW:W0.heap.size=w.heap.size+2:=by rw [←hW0];simp
 have hq0:SQ w.heap.size (.slice ad l.length cap) (.slice sd st.length sap) sc d p n W0:=by
  exact zq88
 have HU:=qh hu;have HUS:=qh hus;have HE:=qh hE
 have HQ:=qh hq0;have HB:=qh hb0
 have hzW2:w.heap.size+2≤W0.heap.size:=by omega
 clear hq0 hb0 hu hus hE hzW
 go_enter Tryz.func34,Tryz.ntmps34
 go_upto_region 1 with fail
 try rw [hW0]
 clear hW0
 obtain⟨⟨o0,o1,o2,o3,o4,o5,o6⟩,_⟩:=HQ.o.1
 go_wp2_with fail
 refine (l25Own _ _ l st sc d p n _ (HU.o.below HB.o) (HUS.o.below HB.o) hm oZ).mono ?_
 rintro e w1 ⟨nu,nus,m,rfl,hD,hI,hm1,hm2,hb⟩
 obtain⟨na,nc,rfl,-,-⟩:=id hD
 obtain⟨ma,mc,rfl,-,-⟩:=id hI
 obtain⟨w2,hw2⟩:∃v,w1.alloc (sessCells (.slice na l.length nc) (.slice ma st.length mc) sc d p n)=v:=⟨_,rfl⟩
 have hba:Below w1.heap.size w1 w2:=by rw [←hw2];exact bZ.alloc lZ _
 have hz1:=hb.size
 have hBz:w1.heap.size<w2.heap.size:=by rw [←hw2];simp
 have HB2:=qh ((HB.o.trans (hb.mono HB.o.size)).trans (hba.mono oZ))
 have HQ2:=qh ((HQ.o.below hb).below hba)
 have HS2:=qh (show SesM (w.heap.size+2) w1.heap.size (l,(st,sc)) (d,p,n) w2 from⟨by have:=HE.o.size;omega,by omega,_,_,by rw [←hw2];exact SOut.new _ _ _ _ _ _ _,(SRows.of hD hI hzW2 hm2 hm1 (.inl lZ)).below hba⟩)
 clear hD hI hm1 hm2 hb hba HQ HB o0 o1 o2 o3 o4 o5 o6
 go_upto_region 2 with fail
 try rw [hw2]
 clear hw2
 obtain⟨⟨o0,o1,o2,o3,o4,o5,o6⟩,_⟩:=HQ2.o.1
 go_wp2_with fail
 refine (l25Good _ _ l st sc d p n _ (HU.o.below HB2.o) (HUS.o.below HB2.o) hm hf5 hf6).mono ?_
 rintro e w3 ⟨rfl,hb⟩
 have HB3:=bt HB2 hb;have HQ3:=qh (HQ2.o.below hb);have HS3:=qh (HS2.o.below hb)
 have hB3:=hb.size
 clear hb HB2 HQ2 HS2 o0 o1 o2 o3 o4 o5 o6
 cases h1:P.sess l st sc d p n
 ·have HP:=qh (P.exec_no (s:=(l,(st,sc))) (g:=(d,p,n)) (line:=line) h1);obtain⟨_,_,bu,bus,hso,hrows⟩:=HS3.o;simp only at hso hrows;obtain⟨ba,bc,rfl,_,_⟩:=id hrows.dic;obtain⟨ia,ic,rfl,_,_⟩:=id hrows.str;obtain⟨⟨o0,o1,o2,o3,o4,o5,o6⟩,_⟩:=hso;obtain⟨⟨r0,r1,r2,r3,r4,r5,r6⟩,f0,f1,f2,f3,f4,f5⟩:=HQ3.o.2;obtain⟨V,hV⟩:∃v,wr6 w3 (w.heap.size+1) (.slice ba l.length bc) (.slice ia st.length ic) sc d p n=v:=⟨_,rfl⟩;have hset:Chg (fun b=>b=w.heap.size+1) w3 V:=by rw [←hV];exact wr6_chg _ _ _ _ _ _ _ _
  have HRV:=qh (show SOut (w.heap.size+1) (.slice ba l.length bc) (.slice ia st.length ic) sc d p n V from by rw [←hV];exact wr6_out HQ3.o.2 _ _ _ _ _ _);have HBV:=qh (Chg.belowB HB3.o hset HB3.o.size (fun b h=>by have h9:b=w.heap.size+1:=h;omega));have HROW:=qh ((hrows.standLo hset (fun b h=>by have h9:b=w.heap.size+1:=h;omega)).lo (lo':=w.heap.size) oZ);unfold wr6 at hV;clear hrows;go_wp2
  try rw [hV]
  clear hset hV;obtain⟨q0,q1,q2,q3,q4,q5,q6⟩:=HRV.o.1;refine bodyPost_ret (v:=.tuple #[sessV (.slice ba l.length bc) (.slice ia st.length ic) sc d p n,.string (S [110,111])]) (by simp [results,Tryz.results34,go_sem,q0,q1,q2,q3,q4,q5]) rfl ⟨_,_,w1.heap.size,by rw [HP.o]<;>rfl,by rw [HP.o];exact HROW.o,HBV.o⟩
 have HT:=qh (P.sesOk_parts (s:=(l,(st,sc))) (g:=(d,p,n)) h1)
 go_wp2_with fail
 refine (L.l24Good line [] _ (by unfold maxLen;omega) (by unfold maxLen;simp)).mono ?_
 rintro e w4 ⟨rfl,hb⟩
 have HB4:=bt HB3 hb;have HQ4:=qh (HQ3.o.below hb);have HS4:=qh (HS3.o.below hb)
 have hB4:=Nat.le_trans hB3 hb.size
 clear hb HB3 HQ3 HS3
 cases h2:P.good line []
 ·have HP:=qh (P.exec_bad (s:=(l,(st,sc))) (g:=(d,p,n)) (line:=line) h1 h2);obtain⟨_,_,bu,bus,hso,hrows⟩:=HS4.o;simp only at hso hrows;obtain⟨ba,bc,rfl,_,_⟩:=id hrows.dic;obtain⟨ia,ic,rfl,_,_⟩:=id hrows.str;obtain⟨⟨o0,o1,o2,o3,o4,o5,o6⟩,_⟩:=hso;obtain⟨⟨r0,r1,r2,r3,r4,r5,r6⟩,f0,f1,f2,f3,f4,f5⟩:=HQ4.o.2;obtain⟨V,hV⟩:∃v,wr6 w4 (w.heap.size+1) (.slice ba l.length bc) (.slice ia st.length ic) sc d p n=v:=⟨_,rfl⟩;have hset:Chg (fun b=>b=w.heap.size+1) w4 V:=by rw [←hV];exact wr6_chg _ _ _ _ _ _ _ _
  have HRV:=qh (show SOut (w.heap.size+1) (.slice ba l.length bc) (.slice ia st.length ic) sc d p n V from by rw [←hV];exact wr6_out HQ4.o.2 _ _ _ _ _ _);have HBV:=qh (Chg.belowB HB4.o hset HB4.o.size (fun b h=>by have h9:b=w.heap.size+1:=h;omega));have HROW:=qh ((hrows.standLo hset (fun b h=>by have h9:b=w.heap.size+1:=h;omega)).lo (lo':=w.heap.size) oZ);unfold wr6 at hV;clear hrows;go_wp2
  try rw [hV]
  clear hset hV;obtain⟨q0,q1,q2,q3,q4,q5,q6⟩:=HRV.o.1;refine bodyPost_ret (v:=.tuple #[sessV (.slice ba l.length bc) (.slice ia st.length ic) sc d p n,.string (S [98,97,100])]) (by simp [results,Tryz.results34,go_sem,q0,q1,q2,q3,q4,q5]) rfl ⟨_,_,w1.heap.size,by rw [HP.o]<;>rfl,by rw [HP.o];exact HROW.o,HBV.o⟩
 by_cases h3:n=60
 ·have HP:=qh (P.exec_full (s:=(l,(st,sc))) (g:=(d,p,n)) (line:=line) h1 h2 h3);have f9:(n==60)=true:=by rw [h3];rfl
  clear h3;obtain⟨⟨x0,x1,x2,x3,x4,x5,x6⟩,_⟩:=HQ4.o.1;obtain⟨_,_,bu,bus,hso,hrows⟩:=HS4.o;simp only at hso hrows;obtain⟨ba,bc,rfl,_,_⟩:=id hrows.dic;obtain⟨ia,ic,rfl,_,_⟩:=id hrows.str;obtain⟨⟨o0,o1,o2,o3,o4,o5,o6⟩,_⟩:=hso;obtain⟨⟨r0,r1,r2,r3,r4,r5,r6⟩,f0,f1,f2,f3,f4,f5⟩:=HQ4.o.2;obtain⟨V,hV⟩:∃v,wr6 w4 (w.heap.size+1) (.slice ba l.length bc) (.slice ia st.length ic) sc d p n=v:=⟨_,rfl⟩;have hset:Chg (fun b=>b=w.heap.size+1) w4 V:=by rw [←hV];exact wr6_chg _ _ _ _ _ _ _ _
  have HRV:=qh (show SOut (w.heap.size+1) (.slice ba l.length bc) (.slice ia st.length ic) sc d p n V from by rw [←hV];exact wr6_out HQ4.o.2 _ _ _ _ _ _);have HBV:=qh (Chg.belowB HB4.o hset HB4.o.size (fun b h=>by have h9:b=w.heap.size+1:=h;omega));have HROW:=qh ((hrows.standLo hset (fun b h=>by have h9:b=w.heap.size+1:=h;omega)).lo (lo':=w.heap.size) oZ);unfold wr6 at hV;clear hrows;go_wp2
  try rw [hV]
  clear hset hV;obtain⟨q0,q1,q2,q3,q4,q5,q6⟩:=HRV.o.1;refine bodyPost_ret (v:=.tuple #[sessV (.slice ba l.length bc) (.slice ia st.length ic) sc d p n,.string (S [102,117,108,108])]) (by simp [results,Tryz.results34,go_sem,q0,q1,q2,q3,q4,q5]) rfl ⟨_,_,w1.heap.size,by rw [HP.o]<;>rfl,by rw [HP.o];exact HROW.o,HBV.o⟩
 have HP:=qh (P.exec_run (s:=(l,(st,sc))) (g:=(d,p,n)) (line:=line) h1 h2 h3)
 have f9:(n==60)=false:=by rw [beq_eq_false_iff_ne];exact h3
 obtain⟨⟨x0,x1,x2,x3,x4,x5,x6⟩,_⟩:=HQ4.o.1
 have HKT:=qh (P.cmd_trans (s:=(l,(st,sc))) (line:=line) HT.o.1)
 obtain⟨_,_,bu,bus,hso,hrows⟩:=HS4.o
 simp only at hso hrows
 have HE1:=qh hrows.dic;have HI1:=qh hrows.str
 obtain⟨ba,bc,rfl,_,_⟩:=id HE1.o
 obtain⟨ia,ic,rfl,_,_⟩:=id HI1.o
 obtain⟨⟨o0,o1,o2,o3,o4,o5,o6⟩,_⟩:=hso
 clear hrows
 go_wp2_with fail
 refine (l25Run _ _ l st sc d p n line _ HE1.o HI1.o hm HT.o.1 hl).mono ?_
 rintro e w5 ⟨nu2,nus2,rfl,hfe,hfi,hb⟩
 have HE2:=qh (hfe.read HE1.o hb);have HI2:=qh (hfi.read HI1.o hb)
 obtain⟨⟨⟨l2,⟨st2,sc2⟩⟩,ro⟩,ha⟩:∃a,P.cmd (l,(st,sc)) line=a:=⟨_,rfl⟩
 rw [ha]at HP HKT HE2 HI2⊢
 simp only at HP HKT HE2 HI2⊢
 clear ha hfe hfi HE1 HI1 x0 x1 x2 x3 x4 x5 x6 o0 o1 o2 o3 o4 o5 o6
 obtain⟨na2,nc2,rfl,_,_⟩:=id HE2.o
 obtain⟨ma2,mc2,rfl,_,_⟩:=id HI2.o
 have hz5:=Nat.le_trans hB4 hb.size
 obtain⟨w6,hw6⟩:∃v,w5.alloc (sessCells (.slice na2 l2.length nc2) (.slice ma2 st2.length mc2) sc2 d p n)=v:=⟨_,rfl⟩
 have hba:Below w5.heap.size w5 w6:=by rw [←hw6];exact bZ.alloc lZ _
 have hBz6:w5.heap.size<w6.heap.size:=by rw [←hw6];simp
 have HX6:=qh (show SOut w5.heap.size (.slice na2 l2.length nc2) (.slice ma2 st2.length mc2) sc2 d p n w6 from by rw [←hw6];exact SOut.new _ _ _ _ _ _ _)
 have HB6:=qh ((HB4.o.trans (hb.mono HB4.o.size)).trans (hba.mono oZ));have HQ6:=qh ((HQ4.o.below hb).below hba);have HE6:=qh (HE2.o.below hba);have HI6:=qh (HI2.o.below hba)
 clear hb hba HB4 HQ4 HS4 HE2 HI2
 go_upto_region 9 with fail
 try rw [hw6]
 clear hw6
 obtain⟨⟨o0,o1,o2,o3,o4,o5,o6⟩,_⟩:=HX6.o
 have hsl2:=P.slist_len (P.scr_ok (P.trans_parts HKT.o).1).2.1
 simp only at hsl2
 go_wp2_with fail
 refine (l25Own _ _ l2 st2 sc2 d p n _ HE6.o HI6.o (small_of_dic (P.trans_dic HKT.o)) oZ).mono ?_
 rintro e w7 ⟨nu3,nus3,m3,rfl,hD,hI,hm1,hm2,hb⟩
 obtain⟨na3,nc3,rfl,-,-⟩:=id hD
 obtain⟨ma3,mc3,rfl,-,-⟩:=id hI
 have HX7:=qh (HX6.o.below hb);have HQ7:=qh (HQ6.o.below hb);have HB7:=bt HB6 hb
 have hz7:=hb.size
 clear hb HX6 HQ6 HB6 HE6 HI6 o0 o1 o2 o3 o4 o5 o6
 obtain⟨w8,hw8⟩:∃v,wr6 w7 w5.heap.size (.slice na3 l2.length nc3) (.slice ma3 st2.length mc3) sc2 d p n=v:=⟨_,rfl⟩
 have hc8:Chg (fun b=>b=w5.heap.size) w7 w8:=by rw [←hw8];exact wr6_chg _ _ _ _ _ _ _ _
 have HROW8:=qh ((SRows.of (lo:=w.heap.size+2) (B:=w5.heap.size) hD hI oZ hm2 hm1 (.inr hBz6)).stand hc8 (fun b h=>.inl h))
 have HS8:=qh (show SesM (w.heap.size+2) w5.heap.size (l2,(st2,sc2)) (d,p,n) w8 from⟨by have:=HE.o.size;omega,by have:=hc8.size;omega,_,_,by rw [←hw8];exact wr6_out HX7.o _ _ _ _ _ _,HROW8.o⟩)
 have HQ8:=qh (show SQ w.heap.size (.slice ad l.length cap) (.slice sd st.length sap) sc d p n w8 from⟨HQ7.o.1.stand hc8 (fun h=>by have h9:w.heap.size=w5.heap.size:=h;omega),HQ7.o.2.stand hc8 (fun h=>by have h9:w.heap.size+1=w5.heap.size:=h;omega)⟩)
 have HB8:=qh (Chg.belowB HB7.o hc8 HB7.o.size (fun b h=>by have h9:b=w5.heap.size:=h;omega))
 have hz8:=hc8.size
 obtain⟨⟨o0,o1,o2,o3,o4,o5,o6⟩,g0,g1,g2,g3,g4,g5⟩:=HX7.o
 clear hD hI hm1 hm2 HROW8
 unfold wr6 at hw8
 have HRP:=qh (replied_txt ro)
 go_upto_region 10 with fail
 try rw [hw8]
 clear hw8 hc8 HX7 HQ7 HB7 o0 o1 o2 o3 o4 o5 o6 g0 g1 g2 g3 g4 g5
 generalize txtB ro=t1 at *
 go_upto_if 38 with fail
 go_cut [8] (fun rv wx=>rv=.string (S (P.replied ro))∧w8=wx)
 case first=>
  exact zq82
 case rest=>
  obtain⟨rfl,rfl⟩:=hcut;have hrl:=P.replied_len ro;generalize P.replied ro=rep at *;obtain⟨_,_,zu,zus,hzs,_⟩:=HS8.o;simp only at hzs;obtain⟨⟨x0,x1,x2,x3,x4,x5,x6⟩,_⟩:=hzs
  go_wp2_with fail
  refine (L.spec_append d p n line rep _ hf5 hf6 hl oZ (HE.o.below HB8.o HE.o.size)).mono ?_;rintro e w9 ⟨rfl,hb⟩;have HB9:=bt HB8 hb;have HQ9:=qh (HQ8.o.below hb);have HS9:=qh (HS8.o.below hb);have hz9:=hb.size;have HG:=qh (show P.logged (d,p,n) line rep=(d,(P.appS d p n line rep).1,(P.appS d p n line rep).2.1) from rfl);rw [HG.o]at HP;generalize P.appS d p n line rep=g9 at *;obtain⟨p9,n9,c9⟩:=g9;simp only at HP⊢;clear hb HB8 HQ8 HS8 x0 x1 x2 x3 x4 x5 x6 HG;obtain⟨w10,hw10⟩:∃v,wr3 w9 w5.heap.size d p9 n9=v:=⟨_,rfl⟩;have hc10:Chg (fun b=>b=w5.heap.size) w9 w10:=by rw [←hw10];exact wr3_chg _ _ _ _ _
  have HS10:=qh (show SesM (w.heap.size+2) w5.heap.size (l2,(st2,sc2)) (d,p9,n9) w10 from by rw [←hw10];exact HS9.o.log);have HQ10:=qh (show SQ w.heap.size (.slice ad l.length cap) (.slice sd st.length sap) sc d p n w10 from⟨HQ9.o.1.stand hc10 (fun h=>by have h9:w.heap.size=w5.heap.size:=h;omega),HQ9.o.2.stand hc10 (fun h=>by have h9:w.heap.size+1=w5.heap.size:=h;omega)⟩);have HB10:=qh (Chg.belowB HB9.o hc10 HB9.o.size (fun b h=>by have h9:b=w5.heap.size:=h;omega));have hz10:=hc10.size;obtain⟨_,_,zu9,zus9,hzs,_⟩:=HS9.o;obtain⟨⟨o0,o1,o2,o3,o4,o5,o6⟩,g0,g1,g2,g3,g4,g5⟩:=hzs;unfold wr3 at hw10
  go_upto_region 13 with fail
  try rw [hw10]
  clear hw10 hc10 HB9 HQ9 HS9 o0 o1 o2 o3 o4 o5 o6 g0 g1 g2 g3 g4 g5;obtain⟨_,_,bu,bus,hso,hrows⟩:=HS10.o;simp only at hso hrows;obtain⟨ba,bc,rfl,_,_⟩:=id hrows.dic;obtain⟨ia,ic,rfl,_,_⟩:=id hrows.str;obtain⟨⟨o0,o1,o2,o3,o4,o5,o6⟩,_⟩:=hso;obtain⟨⟨r0,r1,r2,r3,r4,r5,r6⟩,f0,f1,f2,f3,f4,f5⟩:=HQ10.o.2;obtain⟨V,hV⟩:∃v,wr6 w10 (w.heap.size+1) (.slice ba l2.length bc) (.slice ia st2.length ic) sc2 d p9 n9=v:=⟨_,rfl⟩;have hset:Chg (fun b=>b=w.heap.size+1) w10 V:=by rw [←hV];exact wr6_chg _ _ _ _ _ _ _ _
  have HRV:=qh (show SOut (w.heap.size+1) (.slice ba l2.length bc) (.slice ia st2.length ic) sc2 d p9 n9 V from by rw [←hV];exact wr6_out HQ10.o.2 _ _ _ _ _ _);have HBV:=qh (Chg.belowB HB10.o hset HB10.o.size (fun b h=>by have h9:b=w.heap.size+1:=h;omega));have HROW:=qh ((hrows.standLo hset (fun b h=>by have h9:b=w.heap.size+1:=h;omega)).lo (lo':=w.heap.size) oZ);unfold wr6 at hV;clear hrows;go_wp2
  try rw [hV]
  clear hset hV;obtain⟨q0,q1,q2,q3,q4,q5,q6⟩:=HRV.o.1;refine bodyPost_ret (v:=.tuple #[sessV (.slice ba l2.length bc) (.slice ia st2.length ic) sc2 d p9 n9,.string (S rep)]) (by simp [results,Tryz.results34,go_sem,q0,q1,q2,q3,q4,q5]) rfl ⟨_,_,w5.heap.size,by rw [HP.o]<;>rfl,by rw [HP.o];exact HROW.o,HBV.o⟩
end Go.Proofs.YtggfdnopminemaaGreatDoor
