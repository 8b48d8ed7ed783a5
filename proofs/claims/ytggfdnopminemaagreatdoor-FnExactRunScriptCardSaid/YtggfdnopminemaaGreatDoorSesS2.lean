/- Walk: one record more (reference). -/
import Derived.Test.YtggfdnopminemaaGreatDoorZt
import Derived.Test.YtggfdnopminemaaGreatDoorSesS1
import Derived.Test.YtggfdnopminemaaGreatDoorSesR3
namespace Go.Proofs.YtggfdnopminemaaGreatDoor.L
open Go Go.RowKit
set_option maxHeartbeats 8000000
set_option maxRecDepth 100000
theorem c4k (d p:Str) (n:Int) (c r:Str) (w:World) (hd:d.length≤2^20) (hp:p.length≤2^20) (hc:c.length≤2^20) (hr:r.length≤2^20) (hE:Env w) :
 Calls Tryz.prog 54 #[logV d p n,.agg #[.string (S c),.string (S r)]] w fun e w'=>e=.returned (.tuple #[logV d (P.appS d p n c r).1 (P.appS d p n c r).2.1,.int .i64 (P.appS d p n c r).2.2])∧Below w.heap.size w w':=by
 have A1:=qh (AB.start (w:=w) (d:=d) (p:=p) (n:=n) (c:=c) (r:=r) (t:=28) (u:=86) hE)
 clear hE
 cases h1:P.a1s d p n
 ·have HF:=qh (show P.appS d p n c r=(p,n,1) by unfold P.appS;rw [h1];rfl)
  go_enter Tryz.func54,Tryz.ntmps54
  go_wp2_with fail
  refine (c1m _ _ _ _ hd hp).mono ?_;rintro e w1 ⟨rfl,hb⟩;have A2:=qh (A1.o.carry hb);clear hb A1;obtain⟨⟨a1,a2,a3⟩,⟨b1,b2⟩,⟨c1,c2,c3⟩,⟨d1,d2,d3⟩,⟨e1,e2,e3⟩,hz,_⟩:=A2.o;rw [h1];go_wp2;refine bodyPost_ret (v:=.tuple #[logV d p n,.int .i64 1]) (by simp [results,Tryz.results54,go_sem,c1,c2,c3]) rfl ⟨by rw [HF.o],?_⟩;exact ((A2.o.below.setCell (by simp;omega) _).setCell (by simp;omega) _).setCell (by simp;omega) _
 ·cases h2:P.good c r
  ·have HF:=qh (show P.appS d p n c r=(p,n,1) by unfold P.appS;rw [h1,h2];rfl)
   go_enter Tryz.func54,Tryz.ntmps54
   go_wp2_with fail
   refine (c1m _ _ _ _ hd hp).mono ?_;rintro e w1 ⟨rfl,hb⟩;have A2:=qh (A1.o.carry hb);clear hb A1;obtain⟨⟨a1,a2,a3⟩,⟨b1,b2⟩,⟨c1,c2,c3⟩,⟨d1,d2,d3⟩,⟨e1,e2,e3⟩,hz,_⟩:=A2.o;rw [h1]
   go_wp2_with fail
   refine (b2b _ _ _ (by unfold maxLen;omega) (by unfold maxLen;omega)).mono ?_;rintro e w2 ⟨rfl,hb⟩;have A3:=qh (A2.o.carry hb);clear hb A2;clear a1 a2 a3 b1 b2 c1 c2 c3 d1 d2 d3 e1 e2 e3 hz;obtain⟨⟨a1,a2,a3⟩,⟨b1,b2⟩,⟨c1,c2,c3⟩,⟨d1,d2,d3⟩,⟨e1,e2,e3⟩,hz,_⟩:=A3.o;rw [h2];go_wp2;refine bodyPost_ret (v:=.tuple #[logV d p n,.int .i64 1]) (by simp [results,Tryz.results54,go_sem,c1,c2,c3]) rfl ⟨by rw [HF.o],?_⟩;exact zq92
  ·cases h3:(n==60)
   ·obtain⟨hn0,hn1,_⟩:=P.b8y h1;obtain⟨x,hx⟩:∃x,P.line n.toNat c r=x:=⟨_,rfl⟩;have HX:=qh hx;have HF:=qh (show P.appS d p n c r=(p++x,n+1,0) by unfold P.appS;rw [h1,h2,h3,hx];rfl)
    have hxl:x.length≤10000:=by
     rw [←hx];have h6:n≠60:=by simpa using h3
     have:=(P.a6t (k:=n.toNat) oZ h2).1;omega
    clear hx;have f1:¬9223372036854775807<p.length+x.length:=by omega
    go_enter Tryz.func54,Tryz.ntmps54
    go_wp2_with fail
    refine (c1m _ _ _ _ hd hp).mono ?_;rintro e w1 ⟨rfl,hb⟩;have A2:=qh (A1.o.carry hb);clear hb A1;obtain⟨⟨a1,a2,a3⟩,⟨b1,b2⟩,⟨c1,c2,c3⟩,⟨d1,d2,d3⟩,⟨e1,e2,e3⟩,hz,_⟩:=A2.o;rw [h1]
    go_wp2_with fail
    refine (b2b _ _ _ (by unfold maxLen;omega) (by unfold maxLen;omega)).mono ?_;rintro e w2 ⟨rfl,hb⟩;have A3:=qh (A2.o.carry hb);clear hb A2;clear a1 a2 a3 b1 b2 c1 c2 c3 d1 d2 d3 e1 e2 e3 hz;obtain⟨⟨a1,a2,a3⟩,⟨b1,b2⟩,⟨c1,c2,c3⟩,⟨d1,d2,d3⟩,⟨e1,e2,e3⟩,hz,_⟩:=A3.o;rw [h2]
    go_upto_region 5 with fail
    have A4:AB w d p n c r w2.drew:=A3.o.carry (bZ.drew);clear a1 a2 a3 b1 b2 c1 c2 c3 d1 d2 d3 e1 e2 e3 hz A3;have A5:=qh A4;obtain⟨⟨a1,a2,a3⟩,⟨b1,b2⟩,⟨c1,c2,c3⟩,⟨d1,d2,d3⟩,⟨e1,e2,e3⟩,hz,_⟩:=A4
    go_region_law ((go_simp;go_at_call 122;refine (d4h _ _ _ _ hn0 oZ oZ oZ).mono ?_;rintro e v ⟨rfl,hb⟩;rw [HX.o];have A6:=qh (A5.o.carry hb);obtain⟨⟨a1,a2,a3⟩,⟨b1,b2⟩,⟨c1,c2,c3⟩,⟨d1,d2,d3⟩,⟨e1,e2,e3⟩,hz,_⟩:=A6.o;clear hb))
    all_goals
     go_wp2
     refine bodyPost_ret (v:=.tuple #[logV d (p++x) (n+1),.int .i64 0]) (by simp [results,Tryz.results54,go_sem,c1,c2,c3]) rfl ⟨by rw [HF.o],?_⟩
     exact (((((A6.o.below.setCell sZ _).setCell sZ _).setCell (by simp;omega) _).setCell (by simp;omega) _).setCell (by simp;omega) _)
   ·have HF:=qh (show P.appS d p n c r=(p,n,2) by unfold P.appS;rw [h1,h2,h3];rfl)
    go_enter Tryz.func54,Tryz.ntmps54
    go_wp2_with fail
    refine (c1m _ _ _ _ hd hp).mono ?_;rintro e w1 ⟨rfl,hb⟩;have A2:=qh (A1.o.carry hb);clear hb A1;obtain⟨⟨a1,a2,a3⟩,⟨b1,b2⟩,⟨c1,c2,c3⟩,⟨d1,d2,d3⟩,⟨e1,e2,e3⟩,hz,_⟩:=A2.o;rw [h1]
    go_wp2_with fail
    refine (b2b _ _ _ (by unfold maxLen;omega) (by unfold maxLen;omega)).mono ?_;rintro e w2 ⟨rfl,hb⟩;have A3:=qh (A2.o.carry hb);clear hb A2;clear a1 a2 a3 b1 b2 c1 c2 c3 d1 d2 d3 e1 e2 e3 hz;obtain⟨⟨a1,a2,a3⟩,⟨b1,b2⟩,⟨c1,c2,c3⟩,⟨d1,d2,d3⟩,⟨e1,e2,e3⟩,hz,_⟩:=A3.o;rw [h2];go_wp2;refine bodyPost_ret (v:=.tuple #[logV d p n,.int .i64 2]) (by simp [results,Tryz.results54,go_sem,c1,c2,c3]) rfl ⟨by rw [HF.o],?_⟩;exact zq92
end Go.Proofs.YtggfdnopminemaaGreatDoor.L
namespace Go.Proofs.YtggfdnopminemaaGreatDoor
open Go Go.RowKit
set_option maxHeartbeats 8000000
set_option maxRecDepth 100000
theorem c2d (u us:Value) (l:P.Dic) (st:List Int) (sc d p:Str) (n:Int) (line:Str) (w:World) (hu:EntR w u l) (hus:IntR w us st) (hf:P.Fit (l,(st,sc)) (d,p,n)) (hl:line.length≤2^20) (hE:L.Env w) :
 Calls Tryz.prog 34 #[a1d u us sc d p n,.string (S line)] w (d7l (P.exec (l,(st,sc)) (d,p,n) line) w):=by
 obtain⟨hf1,hf2,hf3,hf4,hf5,hf6⟩:=hf
 have hm:Small l:=⟨hf1,hf2,hf3⟩
 simp only at hf4 hf5 hf6
 clear hf1 hf2 hf3
 have hu0:=hu;have hus0:=hus
 obtain⟨ad,cap,rfl,_,_⟩:=hu0
 obtain⟨sd,sap,rfl,_,_⟩:=hus0
 obtain⟨W0,hW0⟩:∃v,(w.alloc (a0d (.slice ad l.length cap) (.slice sd st.length sap) sc d p n)).alloc (a0d (.slice none 0 0) (.slice none 0 0) [] [] [] 0)=v:=⟨_,rfl⟩
 have hb0:Below w.heap.size w W0:=by rw [←hW0];exact ((Below.refl w.heap.size w).alloc lZ _).alloc sZ _
 have hzW:W0.heap.size=w.heap.size+2:=by rw [←hW0];simp
 have hq0:SQ w.heap.size (.slice ad l.length cap) (.slice sd st.length sap) sc d p n W0:=by
  exact zq91
 have HU:=qh hu;have HUS:=qh hus;have HE:=qh hE
 have HQ:=qh hq0;have HB:=qh hb0
 have hzW2:w.heap.size+2≤W0.heap.size:=by omega
 clear hq0 hb0 hu hus hE hzW
 go_enter Tryz.func34,Tryz.ntmps34
 go_upto_region 1 with fail
 try rw [hW0]
 clear hW0
 obtain⟨⟨o0,o1,o2,o3,o4,o5,o6⟩,_⟩:=HQ.o.1
 go_wp2_with fail
 refine (d8b _ _ l st sc d p n _ (HU.o.below HB.o) (HUS.o.below HB.o) hm oZ).mono ?_
 rintro e w1 ⟨nu,nus,m,rfl,hD,hI,hm1,hm2,hb⟩
 obtain⟨na,nc,rfl,-,-⟩:=id hD
 obtain⟨ma,mc,rfl,-,-⟩:=id hI
 obtain⟨w2,hw2⟩:∃v,w1.alloc (a0d (.slice na l.length nc) (.slice ma st.length mc) sc d p n)=v:=⟨_,rfl⟩
 have hba:Below w1.heap.size w1 w2:=by rw [←hw2];exact bZ.alloc lZ _
 have hz1:=hb.size
 have hBz:w1.heap.size<w2.heap.size:=by rw [←hw2];simp
 have HB2:=qh ((HB.o.trans (hb.mono HB.o.size)).trans (hba.mono oZ))
 have HQ2:=qh ((HQ.o.below hb).below hba)
 have HS2:=qh (show SesM (w.heap.size+2) w1.heap.size (l,(st,sc)) (d,p,n) w2 from⟨by have:=HE.o.size;omega,by omega,_,_,by rw [←hw2];exact SOut.new _ _ _ _ _ _ _,(a2k.of hD hI hzW2 hm2 hm1 (.inl lZ)).below hba⟩)
 clear hD hI hm1 hm2 hb hba HQ HB o0 o1 o2 o3 o4 o5 o6
 go_upto_region 2 with fail
 try rw [hw2]
 clear hw2
 obtain⟨⟨o0,o1,o2,o3,o4,o5,o6⟩,_⟩:=HQ2.o.1
 go_wp2_with fail
 refine (d2w _ _ l st sc d p n _ (HU.o.below HB2.o) (HUS.o.below HB2.o) hm hf5 hf6).mono ?_
 rintro e w3 ⟨rfl,hb⟩
 have HB3:=bt HB2 hb;have HQ3:=qh (HQ2.o.below hb);have HS3:=qh (HS2.o.below hb)
 have hB3:=hb.size
 clear hb HB2 HQ2 HS2 o0 o1 o2 o3 o4 o5 o6
 cases h1:P.sess l st sc d p n
 ·have HP:=qh (P.c4s (s:=(l,(st,sc))) (g:=(d,p,n)) (line:=line) h1);obtain⟨_,_,bu,bus,hso,hrows⟩:=HS3.o;simp only at hso hrows;obtain⟨ba,bc,rfl,_,_⟩:=id hrows.dic;obtain⟨ia,ic,rfl,_,_⟩:=id hrows.str;obtain⟨⟨o0,o1,o2,o3,o4,o5,o6⟩,_⟩:=hso;obtain⟨⟨r0,r1,r2,r3,r4,r5,r6⟩,f0,f1,f2,f3,f4,f5⟩:=HQ3.o.2;obtain⟨V,hV⟩:∃v,wr6 w3 (w.heap.size+1) (.slice ba l.length bc) (.slice ia st.length ic) sc d p n=v:=⟨_,rfl⟩;have hset:Chg (fun b=>b=w.heap.size+1) w3 V:=by rw [←hV];exact a4f _ _ _ _ _ _ _ _
  have HRV:=qh (show SOut (w.heap.size+1) (.slice ba l.length bc) (.slice ia st.length ic) sc d p n V from by rw [←hV];exact a5m HQ3.o.2 _ _ _ _ _ _);have HBV:=qh (Chg.a0j HB3.o hset HB3.o.size (fun b h=>by have h9:b=w.heap.size+1:=h;omega));have HROW:=qh ((hrows.a5r hset (fun b h=>by have h9:b=w.heap.size+1:=h;omega)).lo (lo':=w.heap.size) oZ);unfold wr6 at hV;clear hrows;go_wp2
  try rw [hV]
  clear hset hV;obtain⟨q0,q1,q2,q3,q4,q5,q6⟩:=HRV.o.1;refine bodyPost_ret (v:=.tuple #[a1d (.slice ba l.length bc) (.slice ia st.length ic) sc d p n,.string (S [110,111])]) (by simp [results,Tryz.results34,go_sem,q0,q1,q2,q3,q4,q5]) rfl ⟨_,_,w1.heap.size,by rw [HP.o]<;>rfl,by rw [HP.o];exact HROW.o,HBV.o⟩
 have HT:=qh (P.a9o (s:=(l,(st,sc))) (g:=(d,p,n)) h1)
 go_wp2_with fail
 refine (L.b2b line [] _ (by unfold maxLen;omega) (by unfold maxLen;simp)).mono ?_
 rintro e w4 ⟨rfl,hb⟩
 have HB4:=bt HB3 hb;have HQ4:=qh (HQ3.o.below hb);have HS4:=qh (HS3.o.below hb)
 have hB4:=Nat.le_trans hB3 hb.size
 clear hb HB3 HQ3 HS3
 cases h2:P.good line []
 ·have HP:=qh (P.b7w (s:=(l,(st,sc))) (g:=(d,p,n)) (line:=line) h1 h2);obtain⟨_,_,bu,bus,hso,hrows⟩:=HS4.o;simp only at hso hrows;obtain⟨ba,bc,rfl,_,_⟩:=id hrows.dic;obtain⟨ia,ic,rfl,_,_⟩:=id hrows.str;obtain⟨⟨o0,o1,o2,o3,o4,o5,o6⟩,_⟩:=hso;obtain⟨⟨r0,r1,r2,r3,r4,r5,r6⟩,f0,f1,f2,f3,f4,f5⟩:=HQ4.o.2;obtain⟨V,hV⟩:∃v,wr6 w4 (w.heap.size+1) (.slice ba l.length bc) (.slice ia st.length ic) sc d p n=v:=⟨_,rfl⟩;have hset:Chg (fun b=>b=w.heap.size+1) w4 V:=by rw [←hV];exact a4f _ _ _ _ _ _ _ _
  have HRV:=qh (show SOut (w.heap.size+1) (.slice ba l.length bc) (.slice ia st.length ic) sc d p n V from by rw [←hV];exact a5m HQ4.o.2 _ _ _ _ _ _);have HBV:=qh (Chg.a0j HB4.o hset HB4.o.size (fun b h=>by have h9:b=w.heap.size+1:=h;omega));have HROW:=qh ((hrows.a5r hset (fun b h=>by have h9:b=w.heap.size+1:=h;omega)).lo (lo':=w.heap.size) oZ);unfold wr6 at hV;clear hrows;go_wp2
  try rw [hV]
  clear hset hV;obtain⟨q0,q1,q2,q3,q4,q5,q6⟩:=HRV.o.1;refine bodyPost_ret (v:=.tuple #[a1d (.slice ba l.length bc) (.slice ia st.length ic) sc d p n,.string (S [98,97,100])]) (by simp [results,Tryz.results34,go_sem,q0,q1,q2,q3,q4,q5]) rfl ⟨_,_,w1.heap.size,by rw [HP.o]<;>rfl,by rw [HP.o];exact HROW.o,HBV.o⟩
 by_cases h3:n=60
 ·have HP:=qh (P.b4w (s:=(l,(st,sc))) (g:=(d,p,n)) (line:=line) h1 h2 h3);have f9:(n==60)=true:=by rw [h3];rfl
  clear h3;obtain⟨⟨x0,x1,x2,x3,x4,x5,x6⟩,_⟩:=HQ4.o.1;obtain⟨_,_,bu,bus,hso,hrows⟩:=HS4.o;simp only at hso hrows;obtain⟨ba,bc,rfl,_,_⟩:=id hrows.dic;obtain⟨ia,ic,rfl,_,_⟩:=id hrows.str;obtain⟨⟨o0,o1,o2,o3,o4,o5,o6⟩,_⟩:=hso;obtain⟨⟨r0,r1,r2,r3,r4,r5,r6⟩,f0,f1,f2,f3,f4,f5⟩:=HQ4.o.2;obtain⟨V,hV⟩:∃v,wr6 w4 (w.heap.size+1) (.slice ba l.length bc) (.slice ia st.length ic) sc d p n=v:=⟨_,rfl⟩;have hset:Chg (fun b=>b=w.heap.size+1) w4 V:=by rw [←hV];exact a4f _ _ _ _ _ _ _ _
  have HRV:=qh (show SOut (w.heap.size+1) (.slice ba l.length bc) (.slice ia st.length ic) sc d p n V from by rw [←hV];exact a5m HQ4.o.2 _ _ _ _ _ _);have HBV:=qh (Chg.a0j HB4.o hset HB4.o.size (fun b h=>by have h9:b=w.heap.size+1:=h;omega));have HROW:=qh ((hrows.a5r hset (fun b h=>by have h9:b=w.heap.size+1:=h;omega)).lo (lo':=w.heap.size) oZ);unfold wr6 at hV;clear hrows;go_wp2
  try rw [hV]
  clear hset hV;obtain⟨q0,q1,q2,q3,q4,q5,q6⟩:=HRV.o.1;refine bodyPost_ret (v:=.tuple #[a1d (.slice ba l.length bc) (.slice ia st.length ic) sc d p n,.string (S [102,117,108,108])]) (by simp [results,Tryz.results34,go_sem,q0,q1,q2,q3,q4,q5]) rfl ⟨_,_,w1.heap.size,by rw [HP.o]<;>rfl,by rw [HP.o];exact HROW.o,HBV.o⟩
 have HP:=qh (P.b8e (s:=(l,(st,sc))) (g:=(d,p,n)) (line:=line) h1 h2 h3)
 have f9:(n==60)=false:=by rw [beq_eq_false_iff_ne];exact h3
 obtain⟨⟨x0,x1,x2,x3,x4,x5,x6⟩,_⟩:=HQ4.o.1
 have HKT:=qh (P.c0b (s:=(l,(st,sc))) (line:=line) HT.o.1)
 obtain⟨_,_,bu,bus,hso,hrows⟩:=HS4.o
 simp only at hso hrows
 have HE1:=qh hrows.dic;have HI1:=qh hrows.str
 obtain⟨ba,bc,rfl,_,_⟩:=id HE1.o
 obtain⟨ia,ic,rfl,_,_⟩:=id HI1.o
 obtain⟨⟨o0,o1,o2,o3,o4,o5,o6⟩,_⟩:=hso
 clear hrows
 go_wp2_with fail
 refine (l25Run _ _ l st sc d p n line _ HE1.o HI1.o hm HT.o.1 hl).mono ?_
 rintro e w5 ⟨nu2,nus2,rfl,hfe,hfi,hb⟩
 have HE2:=qh (hfe.read HE1.o hb);have HI2:=qh (hfi.read HI1.o hb)
 obtain⟨⟨⟨l2,⟨st2,sc2⟩⟩,ro⟩,ha⟩:∃a,P.cmd (l,(st,sc)) line=a:=⟨_,rfl⟩
 rw [ha]at HP HKT HE2 HI2⊢
 simp only at HP HKT HE2 HI2⊢
 clear ha hfe hfi HE1 HI1 x0 x1 x2 x3 x4 x5 x6 o0 o1 o2 o3 o4 o5 o6
 obtain⟨na2,nc2,rfl,_,_⟩:=id HE2.o
 obtain⟨ma2,mc2,rfl,_,_⟩:=id HI2.o
 have hz5:=Nat.le_trans hB4 hb.size
 obtain⟨w6,hw6⟩:∃v,w5.alloc (a0d (.slice na2 l2.length nc2) (.slice ma2 st2.length mc2) sc2 d p n)=v:=⟨_,rfl⟩
 have hba:Below w5.heap.size w5 w6:=by rw [←hw6];exact bZ.alloc lZ _
 have hBz6:w5.heap.size<w6.heap.size:=by rw [←hw6];simp
 have HX6:=qh (show SOut w5.heap.size (.slice na2 l2.length nc2) (.slice ma2 st2.length mc2) sc2 d p n w6 from by rw [←hw6];exact SOut.new _ _ _ _ _ _ _)
 have HB6:=qh ((HB4.o.trans (hb.mono HB4.o.size)).trans (hba.mono oZ));have HQ6:=qh ((HQ4.o.below hb).below hba);have HE6:=qh (HE2.o.below hba);have HI6:=qh (HI2.o.below hba)
 clear hb hba HB4 HQ4 HS4 HE2 HI2
 go_upto_region 9 with fail
 try rw [hw6]
 clear hw6
 obtain⟨⟨o0,o1,o2,o3,o4,o5,o6⟩,_⟩:=HX6.o
 have hsl2:=P.a4w (P.d7z (P.a2p HKT.o).1).2.1
 simp only at hsl2
 go_wp2_with fail
 refine (d8b _ _ l2 st2 sc2 d p n _ HE6.o HI6.o (a7t (P.b9o HKT.o)) oZ).mono ?_
 rintro e w7 ⟨nu3,nus3,m3,rfl,hD,hI,hm1,hm2,hb⟩
 obtain⟨na3,nc3,rfl,-,-⟩:=id hD
 obtain⟨ma3,mc3,rfl,-,-⟩:=id hI
 have HX7:=qh (HX6.o.below hb);have HQ7:=qh (HQ6.o.below hb);have HB7:=bt HB6 hb
 have hz7:=hb.size
 clear hb HX6 HQ6 HB6 HE6 HI6 o0 o1 o2 o3 o4 o5 o6
 obtain⟨w8,hw8⟩:∃v,wr6 w7 w5.heap.size (.slice na3 l2.length nc3) (.slice ma3 st2.length mc3) sc2 d p n=v:=⟨_,rfl⟩
 have hc8:Chg (fun b=>b=w5.heap.size) w7 w8:=by rw [←hw8];exact a4f _ _ _ _ _ _ _ _
 have HROW8:=qh ((a2k.of (lo:=w.heap.size+2) (B:=w5.heap.size) hD hI oZ hm2 hm1 (.inr hBz6)).a0c hc8 (fun b h=>.inl h))
 have HS8:=qh (show SesM (w.heap.size+2) w5.heap.size (l2,(st2,sc2)) (d,p,n) w8 from⟨by have:=HE.o.size;omega,by have:=hc8.size;omega,_,_,by rw [←hw8];exact a5m HX7.o _ _ _ _ _ _,HROW8.o⟩)
 have HQ8:=qh (show SQ w.heap.size (.slice ad l.length cap) (.slice sd st.length sap) sc d p n w8 from⟨HQ7.o.1.a0c hc8 (fun h=>by have h9:w.heap.size=w5.heap.size:=h;omega),HQ7.o.2.a0c hc8 (fun h=>by have h9:w.heap.size+1=w5.heap.size:=h;omega)⟩)
 have HB8:=qh (Chg.a0j HB7.o hc8 HB7.o.size (fun b h=>by have h9:b=w5.heap.size:=h;omega))
 have hz8:=hc8.size
 obtain⟨⟨o0,o1,o2,o3,o4,o5,o6⟩,g0,g1,g2,g3,g4,g5⟩:=HX7.o
 clear hD hI hm1 hm2 HROW8
 unfold wr6 at hw8
 have HRP:=qh (b5q ro)
 go_upto_region 10 with fail
 try rw [hw8]
 clear hw8 hc8 HX7 HQ7 HB7 o0 o1 o2 o3 o4 o5 o6 g0 g1 g2 g3 g4 g5
 generalize txtB ro=t1 at *
 go_upto_if 38 with fail
 go_cut [8] (fun rv wx=>rv=.string (S (P.a4y ro))∧w8=wx)
 case first=>
  exact zq83
 case rest=>
  obtain⟨rfl,rfl⟩:=hcut;have hrl:=P.b5x ro;generalize P.a4y ro=rep at *;obtain⟨_,_,zu,zus,hzs,_⟩:=HS8.o;simp only at hzs;obtain⟨⟨x0,x1,x2,x3,x4,x5,x6⟩,_⟩:=hzs
  go_wp2_with fail
  refine (L.c4k d p n line rep _ hf5 hf6 hl oZ (HE.o.below HB8.o HE.o.size)).mono ?_;rintro e w9 ⟨rfl,hb⟩;have HB9:=bt HB8 hb;have HQ9:=qh (HQ8.o.below hb);have HS9:=qh (HS8.o.below hb);have hz9:=hb.size;have HG:=qh (show P.c7b (d,p,n) line rep=(d,(P.appS d p n line rep).1,(P.appS d p n line rep).2.1) from rfl);rw [HG.o]at HP;generalize P.appS d p n line rep=g9 at *;obtain⟨p9,n9,c9⟩:=g9;simp only at HP⊢;clear hb HB8 HQ8 HS8 x0 x1 x2 x3 x4 x5 x6 HG;obtain⟨w10,hw10⟩:∃v,wr3 w9 w5.heap.size d p9 n9=v:=⟨_,rfl⟩;have hc10:Chg (fun b=>b=w5.heap.size) w9 w10:=by rw [←hw10];exact b8b _ _ _ _ _
  have HS10:=qh (show SesM (w.heap.size+2) w5.heap.size (l2,(st2,sc2)) (d,p9,n9) w10 from by rw [←hw10];exact HS9.o.log);have HQ10:=qh (show SQ w.heap.size (.slice ad l.length cap) (.slice sd st.length sap) sc d p n w10 from⟨HQ9.o.1.a0c hc10 (fun h=>by have h9:w.heap.size=w5.heap.size:=h;omega),HQ9.o.2.a0c hc10 (fun h=>by have h9:w.heap.size+1=w5.heap.size:=h;omega)⟩);have HB10:=qh (Chg.a0j HB9.o hc10 HB9.o.size (fun b h=>by have h9:b=w5.heap.size:=h;omega));have hz10:=hc10.size;obtain⟨_,_,zu9,zus9,hzs,_⟩:=HS9.o;obtain⟨⟨o0,o1,o2,o3,o4,o5,o6⟩,g0,g1,g2,g3,g4,g5⟩:=hzs;unfold wr3 at hw10
  go_upto_region 13 with fail
  try rw [hw10]
  clear hw10 hc10 HB9 HQ9 HS9 o0 o1 o2 o3 o4 o5 o6 g0 g1 g2 g3 g4 g5;obtain⟨_,_,bu,bus,hso,hrows⟩:=HS10.o;simp only at hso hrows;obtain⟨ba,bc,rfl,_,_⟩:=id hrows.dic;obtain⟨ia,ic,rfl,_,_⟩:=id hrows.str;obtain⟨⟨o0,o1,o2,o3,o4,o5,o6⟩,_⟩:=hso;obtain⟨⟨r0,r1,r2,r3,r4,r5,r6⟩,f0,f1,f2,f3,f4,f5⟩:=HQ10.o.2;obtain⟨V,hV⟩:∃v,wr6 w10 (w.heap.size+1) (.slice ba l2.length bc) (.slice ia st2.length ic) sc2 d p9 n9=v:=⟨_,rfl⟩;have hset:Chg (fun b=>b=w.heap.size+1) w10 V:=by rw [←hV];exact a4f _ _ _ _ _ _ _ _
  have HRV:=qh (show SOut (w.heap.size+1) (.slice ba l2.length bc) (.slice ia st2.length ic) sc2 d p9 n9 V from by rw [←hV];exact a5m HQ10.o.2 _ _ _ _ _ _);have HBV:=qh (Chg.a0j HB10.o hset HB10.o.size (fun b h=>by have h9:b=w.heap.size+1:=h;omega));have HROW:=qh ((hrows.a5r hset (fun b h=>by have h9:b=w.heap.size+1:=h;omega)).lo (lo':=w.heap.size) oZ);unfold wr6 at hV;clear hrows;go_wp2
  try rw [hV]
  clear hset hV;obtain⟨q0,q1,q2,q3,q4,q5,q6⟩:=HRV.o.1;refine bodyPost_ret (v:=.tuple #[a1d (.slice ba l2.length bc) (.slice ia st2.length ic) sc2 d p9 n9,.string (S rep)]) (by simp [results,Tryz.results34,go_sem,q0,q1,q2,q3,q4,q5]) rfl ⟨_,_,w5.heap.size,by rw [HP.o]<;>rfl,by rw [HP.o];exact HROW.o,HBV.o⟩
theorem b6c (u us:Value) (l:P.Dic) (st:List Int) (sc d p:Str) (n:Int) (text:Str) (w:World) (hu:EntR w u l) (hus:IntR w us st) (hf:P.Fit (l,(st,sc)) (d,p,n)) (hl:text.length≤2^20) (hE:L.Env w) :
 Calls Tryz.prog 39 #[a1d u us sc d p n,.string (S text)] w (a6h (P.script (l,(st,sc)) (d,p,n) text) w):=by
 obtain⟨i0,hi,hj0,hj1,hj2⟩:=info_parts L.a6q
 have HF:=qh hf
 obtain⟨hf1,hf2,hf3,hf4,hf5,hf6⟩:=hf
 have hm:Small l:=⟨hf1,hf2,hf3⟩
 simp only at hf4 hf5 hf6
 clear hf1 hf2 hf3
 have hu0:=hu;have hus0:=hus
 obtain⟨ad,cap,rfl,_,_⟩:=hu0
 obtain⟨sd,sap,rfl,_,_⟩:=hus0
 obtain⟨W0,hW0⟩:∃v,w.alloc (a0d (.slice ad l.length cap) (.slice sd st.length sap) sc d p n)=v:=⟨_,rfl⟩
 have hb0:Below w.heap.size w W0:=by rw [←hW0];exact (Below.refl w.heap.size w).alloc lZ _
 have hx0:SOut w.heap.size (.slice ad l.length cap) (.slice sd st.length sap) sc d p n W0:=by rw [←hW0];exact SOut.new _ _ _ _ _ _ _
 have HU:=qh hu;have HUS:=qh hus;have HE:=qh hE
 have HX:=qh hx0;have HB:=qh hb0
 have HPL:=qh (fun j hj=>b1q (c:=10) (s:=text) (j:=j) hj)
 have HNO:=qh (P.b9w (s:=(l,(st,sc))) (g:=(d,p,n)) (text:=text));have HYES:=qh (P.b6r (s:=(l,(st,sc))) (g:=(d,p,n)) (text:=text))
 have hzW:w.heap.size<W0.heap.size:=hx0.1.2.2.2.2.2.2
 clear hx0 hb0 hu hus hE
 go_enter Tryz.func39,Tryz.ntmps39
 go_upto_region 1 with fail
 try rw [hW0]
 clear hW0
 have HOUT:=qh (show a0n W0.heap.size (W0.alloc (.cells #[] 9)) (.slice (some ⟨W0.heap.size,0,none⟩) 0 0) [] from by have h:=World.ownsRow_lit (base:=W0.heap.size) (e:=9) (size:=1) W0 #[] 0 lZ (Nat.zero_le _) sZ;simpa [a0n,a1o] using h)
 have hba:=(Below.refl W0.heap.size W0).alloc lZ (.cells #[] 9)
 have HXA:=qh (HX.o.below hba);have HBA:=bt HB hba
 have hzA:W0.heap.size<(W0.alloc (.cells #[] 9)).heap.size:=by simp
 clear hba HX HB
 go_upto_region 2 with fail
 generalize W0.alloc (.cells #[] 9)=W1 at *
 go_wp2_with fail
 refine (a3v text 10 _ oZ).mono ?_
 rintro e w1 ⟨v,rfl,hst0,hb⟩
 obtain⟨g,gc,rfl,hg,hst⟩:=a6i hst0 (P.a2o 10 text)
 have HX1:=qh (HXA.o.below hb);have HB1:=bt HBA hb;have HST:=qh hst;have HO1:=qh (a0g HOUT.o hb lZ)
 have hz1:W0.heap.size<w1.heap.size:=Nat.lt_of_lt_of_le hzA hb.size
 have hgB:W0.heap.size<g:=Nat.lt_of_lt_of_le hzA hg
 clear hst hst0 hb HXA HBA HOUT
 generalize hls:P.split 10 text=ls at *
 clear hls
 obtain⟨⟨o0,o1,o2,o3,o4,o5,o6⟩,_⟩:=HX1.o
 go_wp2_with fail
 refine (d2w _ _ l st sc d p n _ (HU.o.below HB1.o) (HUS.o.below HB1.o) hm hf5 hf6).mono ?_
 rintro e w2 ⟨rfl,hb⟩
 have HX2:=qh (HX1.o.below hb);have HB2:=bt HB1 hb;have HST2:=qh (HST.o.below hb);have HO2:=qh (a0g HO1.o hb lZ)
 have hz2:W0.heap.size<w2.heap.size:=Nat.lt_of_lt_of_le hz1 hb.size
 clear hb HX1 HB1 HST HO1 o0 o1 o2 o3 o4 o5 o6
 have HBAD:=qh (show (P.sess l st sc d p n=false∨30<ls.length∨4000<text.length)→a6h (P.script (l,(st,sc)) (d,p,n) text) w (.returned (.tuple #[.slice (some ⟨W0.heap.size,0,none⟩) 0 0,.bool false])) w2 from fun h=>by rw [HNO.o h];exact⟨_,rfl,a0x HO2.o oZ,HB2.o⟩)
 cases h1:P.sess l st sc d p n
 ·go_wp2;go_ret2;exact HBAD.o (.inl h1)
 by_cases h3:4000<text.length
 ·have i3:(4000:Int)<(text.length:Int):=by omega
  go_wp2;go_ret2;exact HBAD.o (.inr (.inr h3))
 by_cases h2:30<ls.length
 ·have i3:¬(4000:Int)<(text.length:Int):=by omega
  have i2:(30:Int)<(ls.length:Int):=by omega
  go_wp2;go_ret2;exact HBAD.o (.inr (.inl h2))
 have i2:¬(30:Int)<(ls.length:Int):=by omega
 have i3:¬(4000:Int)<(text.length:Int):=by omega
 have HP:=qh (HYES.o h1 oZ oZ)
 have HR0:=qh (show RunB w W0.heap.size W0.heap.size 0 (.slice ad l.length cap) (.slice sd st.length sap) (l,(st,sc)) [] (.slice ad l.length cap) (.slice sd st.length sap) (l,(st,sc)) (d,p,n) w2 from⟨HO2.o,HX2.o,.inl ⟨rfl,rfl,rfl,rfl⟩,HB2.o,by omega,Nat.le_refl _,by omega⟩)
 clear HX2 HB2 HNO HYES HBAD HO2 h1
 go_wp2
 go_loopw [6,8,9] (fun v r i wr=>∃(j:Nat) (s1:P.Ses) (g1:P.LogT) (ws:List Str) (B cp:Nat) (u1 us1:Value),j≤ls.length∧i=.int .i64 j∧(∃x,r=.string (S x))∧v=.slice (some ⟨B,0,none⟩) ws.length cp∧B≠g∧P.runX ((l,(st,sc)),(d,p,n)) (ls.take j)=((s1,g1),ws)∧ws.length=j∧P.Fit s1 g1∧RunB w W0.heap.size B cp (.slice ad l.length cap) (.slice sd st.length sap) (l,(st,sc)) ws u1 us1 s1 g1 wr∧a4i g ls wr) (fun _ _ i _=>ls.length-(intOf i).toNat)
 case atStart=>exact⟨0,_,_,[],_,0,_,_,Nat.zero_le _,rfl,⟨[],rfl⟩,rfl,by omega,rfl,rfl,HF.o,HR0.o,HST2.o⟩
 case round=>
  obtain⟨j,s1,g1,ws,B,cp,u1,us1,hj,rfl,⟨r0,rfl⟩,rfl,hBg,hrun,hwl,hfit,hI,hst⟩:=hrel;have HRUN:=qh hrun;have HFIT:=qh hfit;have HI:=qh hI;have HST:=qh hst;have hBz:=hI.lo;clear hrun hfit HR0 HST2 hI;have HWL:=qh hwl;have hwle:ws.length≤30:=by omega
  clear hwl
  by_cases hlt:j<ls.length
  ·have c0:=hst.2 j hlt;have i1:(j:Int)<(ls.length:Int):=by omega
   have hxl:=HPL.o j hlt;have HNX:=qh (P.c2n hlt HRUN.o);have HFX:=qh (P.c7n (line:=ls[j]) HFIT.o);have hlt0:=hst.1.1;generalize ls[j]=x at *;obtain⟨l1,st1,sc1⟩:=s1;obtain⟨d1,p1,n1⟩:=g1;obtain⟨hre,hri⟩:=HI.o.rows.read HU.o HUS.o HI.o.bel;have HRE:=qh (hre.below bZ.drew);have HRI:=qh (hri.below bZ.drew);obtain⟨ua,uc,rfl,_,_⟩:=id hre;obtain⟨ia,ic,rfl,_,_⟩:=id hri;simp only at HRE HRI;have HID:=qh (HI.o.below bZ.drew);have HSTD:=qh (HST.o.below bZ.drew);have hzd:B<wr.drew.heap.size:=hBz.2.2;obtain⟨⟨⟨⟨l2,st2,sc2⟩,d2,p2,n2⟩,rep⟩,hq⟩:∃q,P.exec (l1,(st1,sc1)) (d1,p1,n1) x=q:=⟨_,rfl⟩;have HEX:=qh hq;rw [hq]at HNX HFX;simp only at HNX HFX;clear hq;have HXD:=qh (show SOut w.heap.size (.slice ua l1.length uc) (.slice ia st1.length ic) sc1 d1 p1 n1 wr.drew∧wr.drew.cell? ⟨g,j,none⟩=some (.string (S x))∧g<wr.drew.heap.size from⟨HID.o.box,c0,hlt0⟩);clear hre hri hst HI HST c0
   go_upto_region 9 with fail
   go_cut [8] (fun rv wx=>rv=.string (S rep)∧(∃u2 us2,RunB w W0.heap.size B cp (.slice ad l.length cap) (.slice sd st.length sap) (l,(st,sc)) ws u2 us2 (l2,(st2,sc2)) (d2,p2,n2) wx)∧a4i g ls wx)
   case first=>
    refine Left.region [8,9,10] (S:=fun v=>SOut w.heap.size (.slice ua l1.length uc) (.slice ia st1.length ic) sc1 d1 p1 n1 v∧v.cell? ⟨g,j,none⟩=some (.string (S x))∧g<v.heap.size) kZ HXD.o (fun hS0=>?_);generalize wr.drew=y0 at *;refine lk16 0 hS0 ?_;refine lk16 1 hS0 ?_;refine lk16 2 hS0 ?_;refine lk16 3 (v:=.pointer (some ⟨g,j,none⟩)) hS0 ?_;refine lk16 4 hS0 ?_;refine lrd 5 fun K hK=>?_;go_simp;refine (c2d _ _ l1 st1 sc1 d1 p1 n1 x _ HRE.o HRI.o HFIT.o oZ (HE.o.below HID.o.bel HE.o.size)).mono ?_;rintro e w4 ⟨nu,nus,B2,rfl,hrows,hb⟩;rw [HEX.o]at hrows⊢;simp only at hrows⊢;have HI4:=qh (HID.o.below hb);have HST4:=qh (HSTD.o.below hb);have hz4:=hb.size;have HI5:=qh (HI4.o.store (g2:=(d2,p2,n2)) (s2:=(l2,(st2,sc2))) hrows hzd);obtain⟨na,nc,rfl,_,_⟩:=id hrows.dic;obtain⟨ma,mc,rfl,_,_⟩:=id hrows.str;refine a3c hK dZ ⟨hS0.1.below hb,(hb.cell (p:=⟨g,j,none⟩) hS0.2.2).trans hS0.2.1,Nat.lt_of_lt_of_le hS0.2.2 hb.size⟩ (fun hS1=>?_);clear hK K hb hS0 hrows
    try simp only [qA,qB,qC,Act.put,qD,qE,qF]
    refine lk16 6 hS1 ?_;obtain⟨w5,hw5⟩:∃v,wr6 w4 w.heap.size (.slice na l2.length nc) (.slice ma st2.length mc) sc2 d2 p2 n2=v:=⟨_,rfl⟩;have hc5:Chg (fun b=>b=w.heap.size) w4 w5:=by rw [←hw5];exact a4f _ _ _ _ _ _ _ _
    have HST5:=qh (show a4i g ls w5 from HST4.o.a0c hc5 oZ);simp only at HI5;rw [hw5]at HI5;obtain⟨⟨r0,r1,r2,r3,r4,r5,r6⟩,f0,f1,f2,f3,f4,f5⟩:=HI4.o.box;clear hc5 HST4;unfold wr6 at hw5;refine Left.ready (rs:=[7,8]) kZ sZ ?_;refine b0r.cons rfl (fun K hK=>?_) (b0r.cons rfl (fun K hK=>?_) b0r.nil)
    ·skip;go_simp;refine a3c hK dZ hS1 (fun _=>?_);clear hK K
     try simp only [qA,qB,qC,Act.put,qD,qE,qF]
     refine Left.ready (rs:=[8,9]) kZ sZ ?_;refine b0r.cons rfl (fun K hK=>?_) (b0r.cons rfl (fun K hK=>?_) b0r.nil)
     ·skip;go_simp;refine a3f hK dZ ?_;exact zq181
     ·skip;go_simp;refine a3f hK dZ ?_;clear hK K
      try rw [hw5]
      try simp only [qA,qB,qC,Act.put,qD,qE,qF]
      refine lrd 8 fun K hK=>?_;go_simp;refine a3f hK dZ ?_;clear hK K;exact zq22
    ·skip;go_simp;refine a3f hK dZ ?_;clear hK K
     try simp only [qA,qB,qC,Act.put,qD,qE,qF]
     refine lrd 7 fun K hK=>?_;go_simp;refine a3c hK dZ hS1 (fun _=>?_);exact zq181
   case rest=>
    obtain⟨rfl,⟨u2,us2,hI5⟩,hst5⟩:=hcut;generalize hww:wc=w5 at *;have HI5:=qh hI5;have HST5:=qh hst5;have hz5:=hI5.bel.size;have hlo5:=hI5.lo;clear hww hI5 hst5
    go_upto_region 10 with fail
    have HOA:=qh (show (w5.alloc (.cells #[.string (S rep)] 9)).ownsRow W0.heap.size 9 1 (.slice (some ⟨B,0,none⟩) ws.length cp) ws.length (a1o ws) from World.ownsRow.alloc HI5.o.own _)
    go_wp2_with (at_builtin;refine wpList_append_lies _ rfl _ _ 43 rfl W0.heap.size 9 i0 (.string ⟨#[]⟩) 1 16 Tryz.underlying43 hi hj0 hj1 hj2 rfl dZ (.slice (some ⟨B,0,none⟩) ws.length cp) ws.length (a1o ws) rfl HOA.o ⟨w5.heap.size,0,none⟩ 1 1 [.string (S rep)] rfl rfl ?c1 ?c2 (Nat.zero_lt_one) ?c3 ?c4 ?c5 _ rfl ?_)
    try case c1=>intro j u hj;match j,hj with|0,hj=>(simp at hj;subst hj;simp [Addr.add])
    case c2=>first|rfl|(intro u hu;simp at hu;subst hu;rfl)
    case c3=>unfold maxLen;omega
    case c4=>omega
    case c5=>first|omega|(simp;omega)
    intro B' cap' w6 hown hgr hat hlt6;have HI6:=qh (HI5.o.snoc (x:=rep) hown hgr (by rcases hat with e|e;exact .inl e;exact .inr (by simpa using e)) hlt6);have HST6:=qh (show a4i g ls w6 from (HST5.o.below ((Below.refl w5.heap.size w5).alloc lZ (.cells #[.string (S rep)] 9))).a0c (a3o hgr) (fun e=>by have h9:some B=some g:=e;injection h9 with h9;omega));have hB6:B'≠g:=by rcases hat with e|e;exact (by have h9:some B=some B':=e;injection h9 with h9;omega);exact (by have h9:=HST5.o.1.1;(try simp at e);omega)
    clear hown hgr hat HOA HI5 HST5;go_wp2
    go_roundw
    case rel=>exact⟨j+1,_,_,ws++[rep],B',cap',_,_,by omega,by go_num,⟨_,rfl⟩,by rw [List.length_append];rfl,hB6,HNX.o,by rw [List.length_append,HWL.o];rfl,HFX.o,HI6.o,HST6.o⟩
    case measure=>simp [intOf];omega
  ·exact zq59
end Go.Proofs.YtggfdnopminemaaGreatDoor
namespace Go.Proofs.YtggfdnopminemaaGreatDoor
namespace P
def a5h (k:Int) (n:Nat):List Bs:=(List.range n).map fun (j:Nat)=>a4m (k+(j:Int))
theorem a2u (k:Int) (n:Nat):(a5h k n).length=n:=by simp [a5h]
theorem c4y (k:Int) (n:Nat):a5h k (n+1)=a5h k n++[a4m (k+(n:Int))]:=by simp [a5h,List.range_succ]
theorem c8a {k:Int} {n j:Nat} (h:j<(a5h k n).length):(a5h k n)[j]=a4m (k+(j:Int)):=by simp [a5h]
def a7l (k:Int) (l:List Bs) (i:Nat):List Bs:=a5h k i++l.drop i
theorem c9d {k:Int} {l:List Bs} {i:Nat} (h:i≤l.length):(a7l k l i).length=l.length:=by simp [a7l,a2u];omega
theorem c3l (k:Int) (l:List Bs):a7l k l 0=l:=by simp [a7l,a5h]
theorem c8h (k:Int) (l:List Bs):a7l k l l.length=a5h k l.length:=by simp [a7l]
theorem c8d {k:Int} {l:List Bs} {i:Nat} (h:i<l.length):(a7l k l i).set i (a4m (k+(i:Int)))=a7l k l (i+1):=by
 unfold a7l;rw [List.set_append_right _ _ (by rw [a2u];exact Nat.le_refl _),a2u,Nat.sub_self,List.drop_eq_getElem_cons h,List.set_cons_zero,c4y,List.append_assoc];rfl
end P
open Go Go.RowKit
set_option maxHeartbeats 8000000
set_option maxRecDepth 100000
def StrW (g:Nat) (l:List Str) (v:World):Prop:=∀(j:Nat) (h:j<l.length),v.cell? ⟨g,j,none⟩=some (.string (S (l[j]'h)))∧v.frozen? ⟨g,j,none⟩=false
def StrR (u:Value) (g:Nat) (l:List Str) (v:World):Prop:=∃ad cap,u=.slice ad l.length cap∧l.length≤2^20∧(l=[]∨ad=some ⟨g,0,none⟩∧g<v.heap.size∧StrW g l v)
theorem StrR.chg {u:Value} {g:Nat} {l:List Str} {v v':World} {X:Blk} (h:StrR u g l v) (hc:Chg X v v') (hX:l=[]∨¬X g):StrR u g l v':=by
 obtain⟨ad,cap,h1,h2,h3⟩:=h;refine⟨ad,cap,h1,h2,?_⟩
 rcases hX with hX|hX
 ·exact .inl hX
 exact h3.imp id fun⟨k1,k2,k3⟩=>⟨k1,Nat.lt_of_lt_of_le k2 hc.size,fun j hj=>⟨(hc.cell (p:=⟨g,j,none⟩) k2 hX).trans (k3 j hj).1,(hc.frozen (p:=⟨g,j,none⟩) k2 hX).trans (k3 j hj).2⟩⟩
theorem StrR.below {u:Value} {g:Nat} {l:List Str} {v v':World} (h:StrR u g l v) (hb:Below v.heap.size v v'):StrR u g l v':=h.chg (Below.chg hb fun _=>False) (.inr fun h=>h)
theorem b9c {B:Nat} {w:World} {v:Value} {l:List Str} (h:a0n B w v l) (hl:l.length≤2^20):∃g,StrR v g l w∧B≤g∧(l=[]∨g<w.heap.size):=by
 rcases h.2 with⟨hv,h0⟩|⟨g,cap,cur,hv,hg,hh,_⟩
 ·have hn:=List.eq_nil_of_length_eq_zero h0;exact⟨B,⟨none,0,by rw [hv,hn];rfl,hl,.inl hn⟩,Nat.le_refl _,.inl hn⟩
 ·have hob:v.ownBlock=some g:=by rw [hv];rfl
  have hlt:=(World.ownsRow.lt h g hob).2;refine⟨g,⟨some ⟨g,0,none⟩,cap,hv,hl,.inr ⟨rfl,hlt,fun j hj=>?_⟩⟩,hg,.inr hlt⟩;have hc:=World.ownsRow.cells h hob j (.string (S l[j])) (by simp [a1o,List.getElem?_eq_getElem hj]);rw [add0]at hc;exact⟨hc,by simp [World.frozen?,hh]⟩
theorem b5e (u u':Value) (g g':Nat) (l:List Str) (w:World) (h:StrR u g l w) (h':StrR u' g' l w) :
 Calls Tryz.prog 41 #[u,u'] w fun e w'=>e=.returned (.bool true)∧Below w.heap.size w w':=by
 obtain⟨ad,cap,rfl,hl,hr⟩:=h
 obtain⟨ad',cap',rfl,_,hr'⟩:=h'
 have HR:=qh hr;have HR2:=qh hr'
 obtain⟨n,hn⟩:∃n,l.length=n:=⟨_,rfl⟩
 have HN:=qh hn
 rw [hn]at hl⊢
 clear hn hr hr'
 go_enter Tryz.func41,Tryz.ntmps41
 go_wp2
 go_loopw [5] (fun i wr=>∃j:Nat,j≤n∧i=.int .i64 j∧Below w.heap.size w wr) (fun i _=>n-(intOf i).toNat)
 case atStart=>exact⟨0,Nat.zero_le _,rfl,Below.refl _ _⟩
 case round=>
  obtain⟨j,hj,rfl,hb⟩:=hrel
  by_cases hlt:j<n
  ·have hjl:j<l.length:=by rw [HN.o];exact hlt
   obtain⟨rfl,hg1,hs1⟩:=HR.o.resolve_left (fun e=>by rw [e]at hjl;exact Nat.not_lt_zero _ hjl);obtain⟨rfl,hg2,hs2⟩:=HR2.o.resolve_left (fun e=>by rw [e]at hjl;exact Nat.not_lt_zero _ hjl);have c0:=(hb.cell (p:=⟨g,j,none⟩) hg1).trans (hs1 j hjl).1;have c1:=(hb.cell (p:=⟨g',j,none⟩) hg2).trans (hs2 j hjl).1;have i1:(j:Int)<(n:Int):=by omega
   have HB:=qh hb;generalize l[j]=x at *;have HBQ:=qh (fun q=>HB.o.trans ((below_drewN (Below.refl wr.heap.size wr) q).mono HB.o.size));clear hs1 hs2 hb
   go_wp2_with fail
   go_quiet (fail)
   go_wp2
   go_roundw
   case rel=>exact⟨j+1,by omega,by go_num,HBQ.o _⟩
   case measure=>simp [intOf];omega
  ·obtain rfl:n=j:=by omega
   go_wp2;go_ret;exact⟨rfl,hb⟩
theorem StrW.set {g i:Nat} {m:List Str} {v:World} (h:StrW g m v) (_hi:i<m.length) (a:Str):StrW g (m.set i a) (v.setCell ⟨g,i,none⟩ (.string (S a))):=by
 intro j hj;have hj':j<m.length:=by simpa using hj
 obtain⟨p1,p2⟩:=h j hj';rw [List.getElem_set];refine⟨?_,by simpa using p2⟩
 by_cases e:i=j
 ·subst e;rw [if_pos rfl];exact World.cell?_setCell_same _ _ _ p1
 ·rw [if_neg e,World.cell?_setCell_other _ _ _ _ (by intro e';injection e';omega)];exact p1
def MarkS (u:Value) (g:Nat) (l:List Str) (k:Int) (w:World) (e:Ending) (w':World):Prop:=e=.returned (.int .i64 (k+(l.length:Int)))∧StrR u g (P.a5h k l.length) w'∧Chg (fun b=>b=g) w w'
theorem c5j (u:Value) (g:Nat) (l:List Str) (k:Int) (w:World) (h:StrR u g l w) (hk0:0≤k) (hk:k≤2^30) :
 Calls Tryz.prog 42 #[u,.int .i64 k] w (MarkS u g l k w):=by
 obtain⟨ad,cap,rfl,hl,hr⟩:=h
 have HR:=qh hr
 obtain⟨n,hn⟩:∃n,l.length=n:=⟨_,rfl⟩
 have HN:=qh hn
 have HEND:=qh (show ∀v,(l=[]∨StrW g (P.a7l k l n) v)→Chg (fun b=>b=g) w v→MarkS (.slice ad n cap) g l k w (.returned (.int .i64 (k+(n:Int)))) v from fun v h1 h2=>⟨by rw [hn],⟨ad,cap,by rw [P.a2u,hn],by rw [P.a2u];exact hl,by
  rw [hn]
  rcases hr with hr|⟨k1,k2,_⟩
  ·exact .inl (List.eq_nil_of_length_eq_zero (by rw [P.a2u,←hn,hr];rfl))
  ·rcases h1 with h1|h1
   ·exact .inl (List.eq_nil_of_length_eq_zero (by rw [P.a2u,←hn,h1];rfl))
   ·rw [←hn,P.c8h,hn]at h1;exact .inr ⟨k1,Nat.lt_of_lt_of_le k2 h2.size,h1⟩⟩,h2⟩)
 rw [hn]at hl⊢
 clear hn hr
 go_enter Tryz.func42,Tryz.ntmps42
 go_wp2
 go_loopw [1,5] (fun c i wr=>∃j:Nat,j≤n∧i=.int .i64 j∧c=.int .i64 (k+(j:Int))∧(l=[]∨StrW g (P.a7l k l j) wr)∧Chg (fun b=>b=g) w wr) (fun _ i _=>n-(intOf i).toNat)
 case atStart=>exact⟨0,Nat.zero_le _,rfl,by go_num,by rw [P.c3l];exact HR.o.imp id (fun h=>h.2.2),Chg.refl _ _⟩
 case round=>
  obtain⟨j,hj,rfl,rfl,hrec,hc⟩:=hrel
  by_cases hlt:j<n
  ·have hjl:j<l.length:=by rw [HN.o];exact hlt
   have hne:l≠[]:=fun e=>by rw [e]at hjl;exact Nat.not_lt_zero _ hjl
   obtain⟨rfl,hg1,_⟩:=HR.o.resolve_left hne;have hs:=hrec.resolve_left hne;have hpl:=P.c9d (k:=k) (Nat.le_of_lt hjl);have i1:(j:Int)<(n:Int):=by omega
   have HS:=qh hs;have HC:=qh hc;have HP:=qh hpl;have hgr:g<wr.heap.size:=Nat.lt_of_lt_of_le hg1 hc.size;have HSET:=qh (P.c8d (k:=k) hjl);clear hrec hs hc hpl hne
   go_wp2_with fail
   refine (b8f _ _ oZ oZ).mono ?_;rintro e v ⟨rfl,hb⟩;have HS2:=qh (show StrW g (P.a7l k l j) v from fun i hi=>⟨(hb.cell (p:=⟨g,i,none⟩) hgr).trans (HS.o i hi).1,(hb.frozen (p:=⟨g,i,none⟩) hgr).trans (HS.o i hi).2⟩);have HC2:=qh (HC.o.trans (Below.chg hb _));obtain⟨c0,f0⟩:=HS2.o j (by rw [HP.o];exact hjl);have HS3:=qh (HS2.o.set (i:=j) (by rw [HP.o];exact hjl) (P.a4m (k+(j:Int))));have HC3:=qh (HC2.o.setCell (p:=⟨g,j,none⟩) rfl (.string (S (P.a4m (k+(j:Int))))));rw [HSET.o]at HS3;clear hb HS;go_wp2
   go_roundw
   case rel=>exact⟨j+1,by omega,by go_num,by go_num,.inr HS3.o,HC3.o⟩
   case measure=>simp [intOf];omega
  ·obtain rfl:n=j:=by omega
   have HE:=qh (HEND.o wr hrec hc);clear hrec;go_wp2;go_ret;exact HE.o
theorem b3y (u:Value) (g n:Nat) (k:Int) (w:World) (h:StrR u g (P.a5h k n) w) (hk0:0≤k) (hk:k≤2^30) (hn:n≤2^20) :
 Calls Tryz.prog 43 #[u,.int .i64 k] w fun e w'=>e=.returned (.int .i64 (k+(n:Int)))∧Below w.heap.size w w':=by
 obtain⟨ad,cap,rfl,_,hr⟩:=h
 have HR:=qh hr
 rw [P.a2u]
 clear hr
 go_enter Tryz.func43,Tryz.ntmps43
 go_wp2
 go_loopw [1,5] (fun c i wr=>∃j:Nat,j≤n∧i=.int .i64 j∧c=.int .i64 (k+(j:Int))∧Below w.heap.size w wr) (fun _ i _=>n-(intOf i).toNat)
 case atStart=>exact⟨0,Nat.zero_le _,rfl,by go_num,Below.refl _ _⟩
 case round=>
  obtain⟨j,hj,rfl,rfl,hb⟩:=hrel
  by_cases hlt:j<n
  ·have hjl:j<(P.a5h k n).length:=by rw [P.a2u];exact hlt
   obtain⟨rfl,hg1,hs⟩:=HR.o.resolve_left (fun e=>by rw [e]at hjl;exact Nat.not_lt_zero _ hjl)
   have c0:wr.cell? ⟨g,j,none⟩=some (.string (S (P.a4m (k+(j:Int))))):=by
    have h:=(hb.cell (p:=⟨g,j,none⟩) hg1).trans (hs j hjl).1
    rwa [P.c8a]at h
   have i1:(j:Int)<(n:Int):=by omega
   have hgr:g<wr.drew.heap.size:=Nat.lt_of_lt_of_le hg1 hb.size;have HB:=qh (hb.trans ((Below.refl wr.heap.size wr).drew.mono hb.size));have c1:wr.drew.cell? ⟨g,j,none⟩=some (.string (S (P.a4m (k+(j:Int))))):=c0;clear hs hb c0
   go_upto_region 4 with fail
   refine wp_region_held_drew (S:=fun v=>v.cell? ⟨g,j,none⟩=some (.string (S (P.a4m (k+(j:Int)))))∧g<v.heap.size) kZ ⟨c1,hgr⟩ (fun hS0=>?_);generalize wr.drew=v0 at *;refine tk4 0 hS0 ?_;refine tk4 1 hS0 ?_;refine tk4 2 (v:=.pointer (some ⟨g,j,none⟩)) hS0 ?_;refine tk4 3 hS0 ?_;refine tk4 4 hS0 ?_;refine trd 5 fun K hK=>?_;go_simp;refine (b8f _ _ oZ oZ).mono ?_;rintro e v1 ⟨rfl,hb⟩;have HB1:=bt HB hb;refine hK.out _ _ ⟨(hb.cell (p:=⟨g,j,none⟩) hS0.2).trans hS0.1,Nat.lt_of_lt_of_le hS0.2 hb.size⟩ (fun hS1=>?_);clear hK K hb hS0 HB c1
   try simp only [qA,qB,qC,Act.put,qD,qE,qF]
   refine tk4 6 hS1 ?_;refine wpAnyH_done kZ ?_ _;clear hS1;go_wp2
   go_roundw
   case rel=>exact⟨j+1,by omega,by go_num,by go_num,HB1.o⟩
   case measure=>simp [intOf];omega
  ·obtain rfl:n=j:=by omega
   go_wp2;go_ret;exact⟨rfl,hb⟩
set_option maxHeartbeats 8000000
def b3o (a b:Nat) (u us x xs:Value) (sc d p:Str) (n:Int) (v:World):Prop:=SBox a u us sc d p n v∧SBox b x xs sc d p n v
theorem b8m (u us:Value) (l:P.Dic) (st:List Int) (sc d p:Str) (n:Int) (tx:Str) (w:World) (hu:EntA w u l) (ht:∀e∈l,e.2.length≤9223372036854775807) (hus:IntA w us st) (hsc:sc.length≤9223372036854775807) (hd:d.length≤maxLen) (hp:p.length≤maxLen) (_htx:tx.length≤maxLen) (hE:L.Env w) :
 Calls Tryz.prog 7 #[a1d u us sc d p n,.string (S tx)] w fun e w'=>e=.returned (.bool true)∧Below w.heap.size w w':=by
 have HUA:=qh hu;have HUSA:=qh hus;have HE:=qh hE;have HT:=qh ht
 have HZE:=qh (P.a3j l)
 obtain⟨W0,hW0⟩:∃v,w.alloc (a2a u us sc d p n)=v:=⟨_,rfl⟩
 have hb0:Below w.heap.size w W0:=by rw [←hW0];exact bZ.alloc lZ _
 have hx0:SBox w.heap.size u us sc d p n W0:=by rw [←hW0];exact SBox.newL u us sc d p n w
 clear hE ht
 obtain⟨ad,cap,rfl,_,_⟩:=hu
 obtain⟨sd,sap,rfl,_,_⟩:=hus
 have HX_0:=qh hx0;have HB_0:=qh hb0
 clear hx0 hb0
 go_enter Tryz.func7,Tryz.ntmps7
 go_upto_region 1 with fail
 try rw [hW0]
 clear hW0
 by_cases hbig:1048576<tx.length
 ·have hbi:(1048576:Int)<(tx.length:Int):=by omega
  go_wp2;go_ret;exact⟨rfl,HB_0.o⟩
 have hbi:¬(1048576:Int)<(tx.length:Int):=by omega
 have htx:tx.length≤2^20:=by omega
 clear hbig
 obtain⟨c0,c1,c2,c3,c4,c5,_⟩:=HX_0.o
 go_wp2_with fail
 refine (d2t _ _ l st sc d p n 1048576 _ (HUA.o.below HB_0.o) HT.o (HUSA.o.below HB_0.o) hsc hd hp dZ dZ).mono ?_
 rintro e w1 ⟨⟨r,rfl,hr0,hr⟩,hb⟩
 have HR:=qh hr
 clear hr hsc hd hp
 clear c0 c1 c2 c3 c4 c5
 have HX_1:=qh (HX_0.o.below hb)
 have HB_1:=bt HB_0 hb
 clear HX_0 HB_0 hb
 by_cases hn1:r<0
 ·go_wp2;go_ret;exact⟨rfl,HB_1.o⟩
 have hsz:P.c6p l st sc d p≤1048576:=by have:=HR.o oZ;omega
 unfold P.c6p at hsz
 have HSM:=qh (d5n (l:=l) (by have:=HZE.o;omega))
 have HLN:=qh (show st.length≤2^20∧d.length≤2^20∧p.length≤2^20 by have:=HZE.o;omega)
 have HFIT:=qh (show P.Fit (l,(st,sc)) (d,p,n) from⟨HSM.o.len,HSM.o.outs,HSM.o.texts,HLN.o.1,HLN.o.2.1,HLN.o.2.2⟩)
 have HKA:=qh (show 0≤P.kAt 1 l+(st.length:Int)∧P.kAt 1 l≤2^40 by have h1:=P.d7v 1 l;have h2:=P.b6u 1 l;have h3:=HZE.o;omega)
 have HU:=qh (HUA.o.read HSM.o.len HSM.o.outs);have HUS:=qh (HUSA.o.read HLN.o.1)
 clear HR hsz HT HZE HUA HUSA hr0
 obtain⟨c0,c1,c2,c3,c4,c5,_⟩:=HX_1.o
 go_wp2_with fail
 refine (b0o _ _ l st sc d p n _ (HU.o.below HB_1.o) (HUS.o.below HB_1.o) HSM.o HLN.o.1).mono ?_
 rintro e w2 ⟨u2,u2s,u2m,rfl,hX,hY,hm1,hm2,hb⟩
 clear c0 c1 c2 c3 c4 c5
 have HX_2:=qh (HX_1.o.below hb)
 have HB_2:=bt HB_1 hb
 clear HX_1 HB_1 hb
 have HD2_0:=qh (Ents.read hX)
 have HI2_0:=qh (Ints.read hY)
 clear hX hY
 go_wp2_with fail
 refine (b6c _ _ l st sc d p n tx _ HD2_0.o HI2_0.o HFIT.o htx (HE.o.below HB_2.o HE.o.size)).mono ?_
 rintro e w3 ⟨ws,rfl,how,hb⟩
 clear HD2_0
 clear HI2_0
 have HX_3:=qh (HX_2.o.below hb)
 have HB_3:=bt HB_2 hb
 clear HX_2 HB_2 hb
 have hrl:=P.c9c (l,(st,sc)) (d,p,n) tx
 obtain⟨rs,ok,hrs⟩:∃a b,P.script (l,(st,sc)) (d,p,n) tx=(a,b):=⟨_,_,rfl⟩
 have HRS:=qh hrs
 rw [hrs]at how hrl⊢
 simp only at how hrl⊢
 clear hrs
 obtain⟨gw,hgw,hgw1,hgw2⟩:=b9c how oZ
 obtain⟨wa,wcp,rfl,_,_⟩:=id hgw
 clear how hgw1
 have HW_0:=qh (hgw)
 clear hgw
 have hz3:w.heap.size≤w3.heap.size:=HB_3.o.size
 obtain⟨c0,c1,c2,c3,c4,c5,_⟩:=HX_3.o
 go_wp2_with fail
 refine (b0o _ _ l st sc d p n _ (HU.o.below HB_3.o) (HUS.o.below HB_3.o) HSM.o HLN.o.1).mono ?_
 rintro e w4 ⟨x,xs,xm,rfl,hX,hY,hm1,hm2,hb⟩
 clear c0 c1 c2 c3 c4 c5
 obtain⟨xa,xc,rfl,-,-⟩:=id hX
 obtain⟨ya,yc,rfl,-,-⟩:=id hY
 have hb4:=hb.size
 have HX_4:=qh (HX_3.o.below hb)
 have HB_4:=bt HB_3 hb
 have HW_1:=qh (HW_0.o.below hb)
 clear HX_3 HB_3 HW_0 hb
 obtain⟨w5,hw5⟩:∃v,w4.alloc (a0d (.slice xa l.length xc) (.slice ya st.length yc) sc d p n)=v:=⟨_,rfl⟩
 have hba:Below w4.heap.size w4 w5:=by rw [←hw5];exact bZ.alloc lZ _
 have hz5:w4.heap.size<w5.heap.size:=by rw [←hw5];simp
 have HX_5:=qh (HX_4.o.below hba)
 have HB_5:=bt HB_4 hba
 have HW_2:=qh (HW_1.o.below hba)
 clear HX_4 HB_4 HW_1
 have HP_0:=qh (hX.below a0e hba)
 have HQ_0:=qh (hY.below a0t hba)
 have HLT_0:=qh (Nat.le_of_lt hz5)
 have HY_0:=qh (show SBox w4.heap.size (.slice xa l.length xc) (.slice ya st.length yc) sc d p n w5 from by rw [←hw5];exact SBox.new _ _ _ _ _ _ _)
 clear hX hY hba
 go_upto_region 9 with fail
 try rw [hw5]
 clear hw5
 generalize w4.heap.size=b at *
 obtain⟨c0,c1,c2,c3,c4,c5,_⟩:=HY_0.o
 go_wp2_with fail
 refine (a9b _ _ l st sc d p n tx _ (Ents.read HP_0.o) (Ints.read HQ_0.o) HFIT.o htx (HE.o.below HB_5.o HE.o.size)).mono ?_
 rintro e w6 ⟨gs,rfl,how,hb⟩
 clear c0 c1 c2 c3 c4 c5
 have HX_6:=qh (HX_5.o.below hb)
 have HB_6:=bt HB_5 hb
 have HW_3:=qh (HW_2.o.below hb)
 have HP_1:=qh (HP_0.o.below a0e hb)
 have HQ_1:=qh (HQ_0.o.below a0t hb)
 have HLT_1:=qh (Nat.le_trans HLT_0.o hb.size)
 have HY_1:=qh (HY_0.o.below hb)
 clear HX_5 HB_5 HW_2 HP_0 HQ_0 HLT_0 HY_0 hb
 rw [HRS.o]at how⊢
 simp only at how⊢
 obtain⟨gg,hgg,hgg1,_⟩:=b9c how oZ
 obtain⟨ga,gcp,rfl,_,_⟩:=id hgg
 clear how
 have HG_0:=qh (hgg)
 clear hgg
 go_wp2_with fail
 refine (b5e _ _ gg gw rs _ HG_0.o HW_3.o).mono ?_
 rintro e w7 ⟨rfl,hb⟩
 have HX_7:=qh (HX_6.o.below hb)
 have HB_7:=bt HB_6 hb
 have HW_4:=qh (HW_3.o.below hb)
 have HP_2:=qh (HP_1.o.below a0e hb)
 have HQ_2:=qh (HQ_1.o.below a0t hb)
 have HLT_2:=qh (Nat.le_trans HLT_1.o hb.size)
 have HY_2:=qh (HY_1.o.below hb)
 have HG_1:=qh (HG_0.o.below hb)
 clear HX_6 HB_6 HW_3 HP_1 HQ_1 HLT_1 HY_1 HG_0 hb
 have hdd:Below w7.heap.size w7 w7.drew:=bZ.drew
 have HX_8:=qh (HX_7.o.below hdd)
 have HB_8:=bt HB_7 hdd
 have HW_5:=qh (HW_4.o.below hdd)
 have HP_3:=qh (HP_2.o.below a0e hdd)
 have HQ_3:=qh (HQ_2.o.below a0t hdd)
 have HLT_3:=qh (Nat.le_trans HLT_2.o hdd.size)
 have HY_3:=qh (HY_2.o.below hdd)
 have HG_2:=qh (HG_1.o.below hdd)
 clear HX_7 HB_7 HW_4 HP_2 HQ_2 HLT_2 HY_2 HG_1 hdd
 go_upto_region 12 with fail
 refine wp_region_held_drew (S:=b3o w.heap.size b (.slice ad l.length cap) (.slice sd st.length sap) (.slice xa l.length xc) (.slice ya st.length yc) sc d p n) kZ ⟨HX_8.o,HY_3.o⟩ (fun hS0=>?_)
 generalize w7.drew=y0 at *
 refine tk 0 (a1d (.slice xa l.length xc) (.slice ya st.length yc) sc d p n) (fun z hz=>by obtain⟨⟨z0,z1,z2,z3,z4,z5,z6⟩,y0',y1,y2,y3,y4,y5,y6⟩:=hz;go_simp) hS0 ?_
 refine tk 1 (a1d (.slice ad l.length cap) (.slice sd st.length sap) sc d p n) (fun z hz=>by obtain⟨⟨z0,z1,z2,z3,z4,z5,z6⟩,y0',y1,y2,y3,y4,y5,y6⟩:=hz;go_simp) hS0 ?_
 refine trd 2 fun K hK=>?_
 go_simp
 refine (b0o _ _ l st sc d p n _ (HU.o.below HB_8.o) (HUS.o.below HB_8.o) HSM.o HLN.o.1).mono ?_
 rintro e y7 ⟨x2,xs2,m2,rfl,hX,hY,_,_,hb⟩
 refine hK.out _ _ ⟨hS0.1.below hb,hS0.2.below hb⟩ (fun hS1=>?_)
 clear hK K hS0
 have HX_9:=qh (HX_8.o.below hb)
 have HB_9:=bt HB_8 hb
 have HW_6:=qh (HW_5.o.below hb)
 have HP_4:=qh (HP_3.o.below a0e hb)
 have HQ_4:=qh (HQ_3.o.below a0t hb)
 have HLT_4:=qh (Nat.le_trans HLT_3.o hb.size)
 have HY_4:=qh (HY_3.o.below hb)
 have HG_3:=qh (HG_2.o.below hb)
 clear HX_8 HB_8 HW_5 HP_3 HQ_3 HLT_3 HY_3 HG_2 hb
 have HD9_0:=qh (Ents.read hX)
 have HI9_0:=qh (Ints.read hY)
 clear hX hY
 try simp only [qA,qB,qC,Act.put,qD,qE,qF]
 refine trd 3 fun K hK=>?_
 go_simp
 refine (d1g _ _ _ _ l st sc d p n _ (Ents.read HP_4.o) HD9_0.o (Ints.read HQ_4.o) HI9_0.o).mono ?_
 rintro e y8 ⟨rfl,hb⟩
 refine hK.out _ _ ⟨hS1.1.below hb,hS1.2.below hb⟩ (fun hS2=>?_)
 clear hK K hS1
 clear HD9_0
 clear HI9_0
 have HX_10:=qh (HX_9.o.below hb)
 have HB_10:=bt HB_9 hb
 have HW_7:=qh (HW_6.o.below hb)
 have HP_5:=qh (HP_4.o.below a0e hb)
 have HQ_5:=qh (HQ_4.o.below a0t hb)
 have HLT_5:=qh (Nat.le_trans HLT_4.o hb.size)
 have HY_5:=qh (HY_4.o.below hb)
 have HG_4:=qh (HG_3.o.below hb)
 clear HX_9 HB_9 HW_6 HP_4 HQ_4 HLT_4 HY_4 HG_3 hb
 try simp only [qA,qB,qC,Act.put,qD,qE,qF]
 refine tk 4 (.bool false) (fun z hz=>by obtain⟨⟨z0,z1,z2,z3,z4,z5,z6⟩,y0',y1,y2,y3,y4,y5,y6⟩:=hz;go_simp) hS2 ?_
 refine wpAnyH_done kZ ?_ _
 clear hS2
 obtain⟨c0,c1,c2,c3,c4,c5,_⟩:=HY_5.o
 go_wp2_with fail
 refine (c3u _ _ l st sc d p n 1 (Bet w3.heap.size xm) (Bet xm b) _ HP_5.o HQ_5.o (fun k h=>by have h1:=h.2;have h3:=HLT_5.o;omega) (fun k h=>by have h1:=h.2;have h3:=HLT_5.o;omega) (fun k h1 h2=>by have h3:=h1.2;have h4:=h2.1;omega) dZ HKA.o.2).mono ?_
 rintro e w10 ⟨rfl,_,_,hc⟩
 clear c0 c1 c2 c3 c4 c5
 clear HP_5
 clear HQ_5
 clear HLT_5
 have hFG:∀k,(Bet w3.heap.size xm k∨Bet xm b k)→w3.heap.size≤k∧k<b:=fun k h=>by rcases h with h|h<;>(have h1:=h.1;have h2:=h.2;omega)
 have hka:=HKA.o.1
 have hkn:¬P.kAt 1 l+(st.length:Int)<0:=by omega
 have HX_11:=qh (HX_10.o.a0c hc (fun k=>by have h1:=hFG _ k;omega))
 have HB_11:=qh (Chg.a0j HB_10.o hc HB_10.o.size (fun k h=>by have h1:=hFG k h;omega))
 have HW_8:=qh (HW_7.o.chg hc (hgw2.imp id fun h k=>by have h1:=hFG _ k;omega))
 have HY_6:=qh (HY_5.o.a0c hc (fun k=>by have h1:=hFG _ k;omega))
 have HG_5:=qh (HG_4.o.chg hc (.inr fun k=>by have h1:=hFG _ k;omega))
 clear HX_10 HB_10 HW_7 HY_5 HG_4 hc hFG
 go_wp2_with fail
 refine (b5e _ _ gg gw rs _ HG_5.o HW_8.o).mono ?_
 rintro e w11 ⟨rfl,hb⟩
 have HX_12:=qh (HX_11.o.below hb)
 have HB_12:=bt HB_11 hb
 have HW_9:=qh (HW_8.o.below hb)
 have HY_7:=qh (HY_6.o.below hb)
 have HG_6:=qh (HG_5.o.below hb)
 clear HX_11 HB_11 HW_8 HY_6 HG_5 hb
 clear HY_7
 go_wp2_with fail
 refine (c5j _ gg rs 1 _ HG_6.o dZ dZ).mono ?_
 rintro e w12 ⟨rfl,hg9,hc⟩
 clear HG_6
 have HX_13:=qh (HX_12.o.a0c hc (fun k=>by have h1:w.heap.size=gg:=k;omega))
 have HB_13:=qh (Chg.a0j HB_12.o hc HB_12.o.size (fun k h=>by have h1:k=gg:=h;omega))
 have HW_10:=qh (HW_9.o.chg hc (hgw2.imp id fun h k=>by have h1:gw=gg:=k;omega))
 clear HX_12 HB_12 HW_9 hc
 have HM_0:=qh (hg9)
 clear hg9 hkn hka
 have hrn:¬1+(rs.length:Int)<0:=by omega
 go_wp2_with fail
 refine (b3y _ gg rs.length 1 _ HM_0.o dZ dZ oZ).mono ?_
 rintro e w13 ⟨rfl,hb⟩
 have HX_14:=qh (HX_13.o.below hb)
 have HB_14:=bt HB_13 hb
 have HW_11:=qh (HW_10.o.below hb)
 have HM_1:=qh (HM_0.o.below hb)
 clear HX_13 HB_13 HW_10 HM_0 hb
 obtain⟨c0,c1,c2,c3,c4,c5,_⟩:=HX_14.o
 go_wp2_with fail
 refine (b0o _ _ l st sc d p n _ (HU.o.below HB_14.o) (HUS.o.below HB_14.o) HSM.o HLN.o.1).mono ?_
 rintro e w14 ⟨u3,u3s,u3m,rfl,hX,hY,hm1,hm2,hb⟩
 clear c0 c1 c2 c3 c4 c5
 have HX_15:=qh (HX_14.o.below hb)
 have HB_15:=bt HB_14 hb
 have HW_12:=qh (HW_11.o.below hb)
 have HM_2:=qh (HM_1.o.below hb)
 clear HX_14 HB_14 HW_11 HM_1 hb
 have HD3_0:=qh (Ents.read hX)
 have HI3_0:=qh (Ints.read hY)
 clear hX hY
 go_wp2_with fail
 refine (a9b _ _ l st sc d p n tx _ HD3_0.o HI3_0.o HFIT.o htx (HE.o.below HB_15.o HE.o.size)).mono ?_
 rintro e w15 ⟨hs,rfl,how,hb⟩
 clear HD3_0
 clear HI3_0
 have HX_16:=qh (HX_15.o.below hb)
 have HB_16:=bt HB_15 hb
 have HW_13:=qh (HW_12.o.below hb)
 have HM_3:=qh (HM_2.o.below hb)
 clear HX_15 HB_15 HW_12 HM_2 hb
 rw [HRS.o]at how⊢
 simp only at how⊢
 obtain⟨gh,hgh,_,_⟩:=b9c how oZ
 obtain⟨ha,hcp,rfl,_,_⟩:=id hgh
 clear how
 have HH_0:=qh (hgh)
 clear hgh
 go_wp2_with fail
 refine (b5e _ _ gh gw rs _ HH_0.o HW_13.o).mono ?_
 rintro e w16 ⟨rfl,hb⟩
 clear HH_0
 have HX_17:=qh (HX_16.o.below hb)
 have HB_17:=bt HB_16 hb
 have HW_14:=qh (HW_13.o.below hb)
 have HM_4:=qh (HM_3.o.below hb)
 clear HX_16 HB_16 HW_13 HM_3 hb
 go_wp2_with fail
 refine (b3y _ gg rs.length 1 _ HM_4.o dZ dZ oZ).mono ?_
 rintro e w17 ⟨rfl,hb⟩
 have HX_18:=qh (HX_17.o.below hb)
 have HB_18:=bt HB_17 hb
 have HW_15:=qh (HW_14.o.below hb)
 have HM_5:=qh (HM_4.o.below hb)
 clear HX_17 HB_17 HW_14 HM_4 hb
 go_wp2
 go_ret
 exact⟨rfl,HB_18.o⟩
end Go.Proofs.YtggfdnopminemaaGreatDoor
