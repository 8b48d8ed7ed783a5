/- Walks: a command. -/
import Derived.Test.YtggfdnopminemaaGreatDoorSesA2
set_option linter.all false
namespace Go.Proofs.YtggfdnopminemaaGreatDoor
open Go.Proofs.Tryz
open Go Go.RowKit
set_option maxHeartbeats 8000000
set_option maxRecDepth 100000
variable {n:Int} {ls:List Str} {B b0 g:Nat} {l:P.Dic} {d p sc:Str} {u us:Go.Value} {v v' w4 w6:Go.World}
theorem b4o (u us:Value) (l:P.Dic) (st:List Int) (sc d p:Str) (n:Int) (line:Str) (w:World) (hu:EntR w u l) (hus:IntR w us st) (hf:P.Fit (l,(st,sc)) (d,p,n)) (hl:line.length<=2^20) (hE:L.Env w) :
 Cz 19 #[a1a u us sc d p n,.string (S line)] w (d0b (P.exec (l,(st,sc)) (d,p,n) line) w):=by
 obtain⟨hf1,hf2,hf3,hf4,hf5,hf6⟩:=hf
 have hm:Small l:=⟨hf1,hf2,hf3⟩
 simp only at hf4 hf5 hf6
 clear hf1 hf2 hf3
 have hu0:=hu;have hus0:=hus
 obtain⟨ad,cap,rfl,_,_⟩:=hu0
 obtain⟨sd,sap,rfl,_,_⟩:=hus0
 obtain⟨W0,hW0⟩:∃v,(w.alloc (a0d (.slice ad l.length cap) (.slice sd st.length sap) sc d p n)).alloc (a0d (.slice none 0 0) (.slice none 0 0) [] [] [] 0)=v:=⟨_,rfl⟩
 have hb0:Bl w W0:=by rw [<-hW0];exact ((Below.refl w.heap.size w).alloc lZ _).alloc sZ _
 have hzW:W0.heap.size=w.heap.size+2:=by rw [<-hW0];simp
 have hq0:SQ w.heap.size (.slice ad l.length cap) (.slice sd st.length sap) sc d p n W0:=by
  exact zq96
 have HU:=qh hu;have HUS:=qh hus;have HE:=qh hE;have HQ:=qh hq0;have HB:=qh hb0;have hzW2:w.heap.size+2<=W0.heap.size:=by omega
 clear hq0 hb0 hu hus hE hzW;go_enter func19,ntmps19;go_upto_region 1 with fail;try rw [hW0]
 clear hW0;obtain⟨⟨o0,o1,o2,o3,o4,o5,o6⟩,_⟩:=HQ.o.1;go_wp2_with fail;refine (d0x _ _ l st sc d p n _ (HU.o.below HB.o) (HUS.o.below HB.o) hm oZ).mono ?_;rintro e w1 ⟨nu,nus,m,rfl,hD,hI,hm1,hm2,hb⟩;obtain⟨na,nc,rfl,-,-⟩:=id hD;obtain⟨ma,mc,rfl,-,-⟩:=id hI;obtain⟨w2,hw2⟩:∃v,w1.alloc (a0d (.slice na l.length nc) (.slice ma st.length mc) sc d p n)=v:=⟨_,rfl⟩;have hba:Bl w1 w2:=by rw [<-hw2];exact bZ.alloc lZ _
 have hz1:=hb.size;have hBz:w1.heap.size<w2.heap.size:=by rw [<-hw2];simp
 refine zm40 ?_;intro HB2 HQ2 HS2;clear hD hI hm1 hm2 hb hba HQ HB o0 o1 o2 o3 o4 o5 o6;go_upto_region 2 with fail;try rw [hw2]
 clear hw2;obtain⟨⟨o0,o1,o2,o3,o4,o5,o6⟩,_⟩:=HQ2.o.1;go_wp2_with fail;refine (b0y _ _ l st sc d p n _ (HU.o.below HB2.o) (HUS.o.below HB2.o) hm hf5 hf6 (HE.o.below HB2.o HE.o.size)).mono ?_;rintro e w3 ⟨rfl,hb⟩;have HB3:=bt HB2 hb;have HQ3:=qh (HQ2.o.below hb);have HS3:=qh (HS2.o.below hb);have hB3:=hb.size;clear hb HB2 HQ2 HS2 o0 o1 o2 o3 o4 o5 o6
 cases h1:P.sess l st sc d p n
 .have HP:=qh (P.c1x (s:=(l,(st,sc))) (g:=(d,p,n)) (line:=line) h1);obtain⟨_,_,bu,bus,hso,hrows⟩:=HS3.o;simp only at hso hrows;obtain⟨ba,bc,rfl,_,_⟩:=id hrows.dic;obtain⟨ia,ic,rfl,_,_⟩:=id hrows.str;obtain⟨⟨o0,o1,o2,o3,o4,o5,o6⟩,_⟩:=hso;obtain⟨⟨r0,r1,r2,r3,r4,r5,r6⟩,f0,f1,f2,f3,f4,f5⟩:=HQ3.o.2;obtain⟨V,hV⟩:∃v,wr6 w3 (w.heap.size+1) (.slice ba l.length bc) (.slice ia st.length ic) sc d p n=v:=⟨_,rfl⟩;have hset:Chg (λb=>b=w.heap.size+1) w3 V:=by rw [<-hV];exact a3m _ _ _ _ _ _ _ _
  refine zm35 ?_;intro HRV HBV HROW;unfold wr6 at hV;clear hrows;go_wp2;refine zn50 ?_;intro q0 q1 q2 q3 q4 q5 q6;clear hset hV;refine bodyPost_ret (v:=.tuple #[a1a (.slice ba l.length bc) (.slice ia st.length ic) sc d p n,.string (S [110,111])]) (by simp [results,results19,go_sem,q0,q1,q2,q3,q4,q5]) rfl ⟨_,_,w1.heap.size,by rw [HP.o]<;>rfl,by rw [HP.o];exact HROW.o,HBV.o⟩
 have HT:=qh (P.a3d (s:=(l,(st,sc))) (g:=(d,p,n)) h1)
 go_wp2_with fail
 refine (L.a3h line [] _ oZ sZ).mono ?_
 rintro e w4 ⟨rfl,hb⟩
 rw [P.a6y]
 have HB4:=bt HB3 hb;have HQ4:=qh (HQ3.o.below hb);have HS4:=qh (HS3.o.below hb)
 have hB4:=Nat.le_trans hB3 hb.size
 clear hb HB3 HQ3 HS3
 cases h2:P.good line []
 .have HP:=qh (P.b2t (s:=(l,(st,sc))) (g:=(d,p,n)) (line:=line) h1 h2);obtain⟨_,_,bu,bus,hso,hrows⟩:=HS4.o;simp only at hso hrows;obtain⟨ba,bc,rfl,_,_⟩:=id hrows.dic;obtain⟨ia,ic,rfl,_,_⟩:=id hrows.str;obtain⟨⟨o0,o1,o2,o3,o4,o5,o6⟩,_⟩:=hso;obtain⟨⟨r0,r1,r2,r3,r4,r5,r6⟩,f0,f1,f2,f3,f4,f5⟩:=HQ4.o.2;obtain⟨V,hV⟩:∃v,wr6 w4 (w.heap.size+1) (.slice ba l.length bc) (.slice ia st.length ic) sc d p n=v:=⟨_,rfl⟩;have hset:Chg (λb=>b=w.heap.size+1) w4 V:=by rw [<-hV];exact a3m _ _ _ _ _ _ _ _
  refine zm4 ?_;intro HRV HBV HROW;unfold wr6 at hV;clear hrows;go_wp2;refine zn50 ?_;intro q0 q1 q2 q3 q4 q5 q6;clear hset hV;refine bodyPost_ret (v:=.tuple #[a1a (.slice ba l.length bc) (.slice ia st.length ic) sc d p n,.string (S [98,97,100])]) (by simp [results,results19,go_sem,q0,q1,q2,q3,q4,q5]) rfl ⟨_,_,w1.heap.size,by rw [HP.o]<;>rfl,by rw [HP.o];exact HROW.o,HBV.o⟩
 by_cases h3:n=60
 .have HP:=qh (P.a9j (s:=(l,(st,sc))) (g:=(d,p,n)) (line:=line) h1 h2 h3);have f9:(n==60)=true:=by rw [h3];rfl
  clear h3;obtain⟨⟨x0,x1,x2,x3,x4,x5,x6⟩,_⟩:=HQ4.o.1;obtain⟨_,_,bu,bus,hso,hrows⟩:=HS4.o;simp only at hso hrows;obtain⟨ba,bc,rfl,_,_⟩:=id hrows.dic;obtain⟨ia,ic,rfl,_,_⟩:=id hrows.str;obtain⟨⟨o0,o1,o2,o3,o4,o5,o6⟩,_⟩:=hso;obtain⟨⟨r0,r1,r2,r3,r4,r5,r6⟩,f0,f1,f2,f3,f4,f5⟩:=HQ4.o.2;obtain⟨V,hV⟩:∃v,wr6 w4 (w.heap.size+1) (.slice ba l.length bc) (.slice ia st.length ic) sc d p n=v:=⟨_,rfl⟩;have hset:Chg (λb=>b=w.heap.size+1) w4 V:=by rw [<-hV];exact a3m _ _ _ _ _ _ _ _
  refine zm4 ?_;intro HRV HBV HROW;unfold wr6 at hV;clear hrows;go_wp2;refine zn50 ?_;intro q0 q1 q2 q3 q4 q5 q6;clear hset hV;refine bodyPost_ret (v:=.tuple #[a1a (.slice ba l.length bc) (.slice ia st.length ic) sc d p n,.string (S [102,117,108,108])]) (by simp [results,results19,go_sem,q0,q1,q2,q3,q4,q5]) rfl ⟨_,_,w1.heap.size,by rw [HP.o]<;>rfl,by rw [HP.o];exact HROW.o,HBV.o⟩
 have HP:=qh (P.b2r (s:=(l,(st,sc))) (g:=(d,p,n)) (line:=line) h1 h2 h3)
 have f9:(n==60)=false:=by rw [beq_eq_false_iff_ne];exact h3
 obtain⟨⟨x0,x1,x2,x3,x4,x5,x6⟩,_⟩:=HQ4.o.1
 have HCM:=qh (P.e3n (l,(st,sc)) line)
 have hcl:=P.a9f line [32]
 go_wp2_with fail
 refine (L.c0k line 32 _ oZ (HE.o.below HB4.o HE.o.size)).mono ?_
 rintro e w5 ⟨rfl,k1,rfl⟩
 obtain⟨x,y,q,hcut⟩:∃x y b,Lib.cut line [32]=(x,y,b):=⟨_,_,_,rfl⟩
 rw [hcut]at HCM hcl⊢
 simp only at HCM hcl⊢
 clear hcut
 have hbd:Bl w4 (w4.drewN k1):=below_drewN bZ _
 have HB5:=bt HB4 hbd;have HQ5:=qh (HQ4.o.below hbd);have HS5:=qh (HS4.o.below hbd)
 have hB5:=Nat.le_trans hB4 hbd.size
 clear hbd HB4 HQ4 HS4 x0 x1 x2 x3 x4 x5 x6
 generalize w4.drewN k1=w5 at *
 obtain⟨a,ha⟩:∃a,P.cmd (l,(st,sc)) line=a:=⟨_,rfl⟩
 rw [ha]at HP HCM
 clear ha
 go_upto_if 37 with fail
 go_cut [10,11] (λrv kv wx=>∃(r:Str) (ok:Bool),rv=.string (S r)/\kv=.bool ok/\okB r ok=a.2/\SesM (w.heap.size+2) w1.heap.size a.1 (d,p,n) wx/\Chg (λb=>b=w1.heap.size) w5 wx)
 case first=>
  cases q
  .go_wp2_with fail
   refine (c7y (w.heap.size+2) w1.heap.size l st sc d p n x _ HS5.o hm HT.o.1 (HE.o.below HB5.o HE.o.size)).mono ?_;rintro e w6 ⟨r,ok,rfl,hx,hs,hc⟩;rw [<-show a=P.alone (l,(st,sc)) x from HCM.o]at hx hs;exact zq155
  .go_wp2_with fail
   refine (d2b (w.heap.size+2) w1.heap.size l st sc d p n x y _ HS5.o hm HT.o.1 oZ (HE.o.below HB5.o HE.o.size)).mono ?_;rintro e w6 ⟨r,ok,rfl,hx,hs,hc⟩;rw [<-show a=P.args (l,(st,sc)) x y from HCM.o]at hx hs;exact zq155
 case rest=>
  obtain⟨r,ok,rfl,rfl,hx,hs,hc⟩:=hcut;generalize hww:wc=w6 at *;clear hww HCM;have HX:=qh hx;have HS6:=qh hs;have HQ6:=qh (show SQ w.heap.size (.slice ad l.length cap) (.slice sd st.length sap) sc d p n w6 from⟨HQ5.o.1.a0b hc (λh=>by have h9:w.heap.size=w1.heap.size:=h;omega),HQ5.o.2.a0b hc (λh=>by have h9:w.heap.size+1=w1.heap.size:=h;omega)⟩);have HB6:=qh (Chg.a0n HB5.o hc HB5.o.size (λb h=>by have h9:b=w1.heap.size:=h;omega));have hB6:=Nat.le_trans hB5 hc.size;clear hx hs hc HB5 HQ5 HS5;have HRP:=qh (b6f a.2)
  go_upto_if 50 with fail
  go_cut [10] (λrv wx=>rv=.string (S (txtB a.2))/\w6=wx)
  case first=>
   cases ok
   .go_wp2;go_meet;exact⟨by rw [<-HX.o];rfl,rfl⟩
   .go_wp2;go_meet;exact⟨by rw [<-HX.o];rfl,rfl⟩
  case rest=>
   obtain⟨rfl,rfl⟩:=hcut;generalize txtB a.2=t1 at *
   go_upto_if 53 with fail
   go_cut [10] (λrv wx=>rv=.string (S (P.a2s a.2))/\w6=wx)
   case first=>
    exact zq89
   case rest=>
    obtain⟨rfl,rfl⟩:=hcut;have hrl:=P.b1b a.2;generalize P.a2s a.2=rep at *;obtain⟨⟨x0,x1,x2,x3,x4,x5,x6⟩,_⟩:=HQ6.o.1;go_wp2_with fail;refine (L.c8a d p n line rep _ hf5 hf6 hl oZ (HE.o.below HB6.o HE.o.size)).mono ?_;rintro e w7 ⟨rfl,hb⟩;rw [P.app_eq];have HB7:=bt HB6 hb;have HQ7:=qh (HQ6.o.below hb);have HS7:=qh (HS6.o.below hb);have hB7:=Nat.le_trans hB6 hb.size;have HG:Hq (P.b0w (d,p,n) line rep=(d,(P.appS d p n line rep).1,(P.appS d p n line rep).2.1)):=⟨rfl⟩;rw [HG.o]at HP;generalize P.appS d p n line rep=g9 at *;obtain⟨p9,n9,c9⟩:=g9;simp only at HP⊢;clear hb HB6 HQ6 HS6 x0 x1 x2 x3 x4 x5 x6 HG;obtain⟨w8,hw8⟩:∃v,wr3 w7 w1.heap.size d p9 n9=v:=⟨_,rfl⟩;have hc8:Chg (λb=>b=w1.heap.size) w7 w8:=by rw [<-hw8];exact b4d _ _ _ _ _
    have HS8:Hq (SesM (w.heap.size+2) w1.heap.size a.1 (d,p9,n9) w8):=⟨by rw [<-hw8];exact HS7.o.log⟩;have HQ8:=qh (show SQ w.heap.size (.slice ad l.length cap) (.slice sd st.length sap) sc d p n w8 from⟨HQ7.o.1.a0b hc8 (λh=>by have h9:w.heap.size=w1.heap.size:=h;omega),HQ7.o.2.a0b hc8 (λh=>by have h9:w.heap.size+1=w1.heap.size:=h;omega)⟩);have HB8:=qh (Chg.a0n HB7.o hc8 HB7.o.size (λb h=>by have h9:b=w1.heap.size:=h;omega));have hB8:=Nat.le_trans hB7 hc8.size;obtain⟨_,_,zu,zus,hzs,_⟩:=HS7.o;obtain⟨⟨o0,o1,o2,o3,o4,o5,o6⟩,g0,g1,g2,g3,g4,g5⟩:=hzs;unfold wr3 at hw8;go_upto_region 18 with fail;try rw [hw8]
    clear hw8 hc8 HB7 HQ7 HS7 o0 o1 o2 o3 o4 o5 o6 g0 g1 g2 g3 g4 g5;obtain⟨⟨D,T2,sc2⟩,ro⟩:=a;simp only at HP HS8 hrl;obtain⟨_,_,bu,bus,hso,hrows⟩:=HS8.o;simp only at hso hrows;obtain⟨ba,bc,rfl,_,_⟩:=id hrows.dic;obtain⟨ia,ic,rfl,_,_⟩:=id hrows.str;obtain⟨⟨o0,o1,o2,o3,o4,o5,o6⟩,_⟩:=hso;obtain⟨⟨r0,r1,r2,r3,r4,r5,r6⟩,f0,f1,f2,f3,f4,f5⟩:=HQ8.o.2;obtain⟨V,hV⟩:∃v,wr6 w8 (w.heap.size+1) (.slice ba D.length bc) (.slice ia T2.length ic) sc2 d p9 n9=v:=⟨_,rfl⟩;have hset:Chg (λb=>b=w.heap.size+1) w8 V:=by rw [<-hV];exact a3m _ _ _ _ _ _ _ _
    have HRV:Hq (SOut (w.heap.size+1) (.slice ba D.length bc) (.slice ia T2.length ic) sc2 d p9 n9 V):=⟨by rw [<-hV];exact a5o HQ8.o.2 _ _ _ _ _ _⟩;have HBV:=qh (Chg.a0n HB8.o hset HB8.o.size (λb h=>by have h9:b=w.heap.size+1:=h;omega));have HROW:=qh ((hrows.a7r hset (λb h=>by have h9:b=w.heap.size+1:=h;omega)).lo (lo':=w.heap.size) oZ);unfold wr6 at hV;clear hrows;go_wp2;refine zn50 ?_;intro q0 q1 q2 q3 q4 q5 q6;clear hset hV;refine bodyPost_ret (v:=.tuple #[a1a (.slice ba D.length bc) (.slice ia T2.length ic) sc2 d p9 n9,.string (S rep)]) (by simp [results,results19,go_sem,q0,q1,q2,q3,q4,q5]) rfl ⟨_,_,w1.heap.size,by rw [HP.o]<;>rfl,by rw [HP.o];exact HROW.o,HBV.o⟩
theorem a6o (dv:Value) (l:P.Dic) (d p:Str) (n:Int) (w:World) (hu:EntR w dv l) (hm:Small l) (hd:d.length<=2^20) (hp:p.length<=2^20) (hE:L.Env w) :
 Cz 12 #[.agg #[dv],logV d p n] w (b1k (P.a4a l (d,p,n)) w):=by
 obtain⟨ad,cap,rfl,_,_⟩:=id hu;obtain⟨W0,hW0⟩:∃v,(w.alloc (.cells #[.slice ad l.length cap] 26)).alloc (.cells #[.string (S d),.string (S p),.int .i64 n] 28)=v:=⟨_,rfl⟩;have hb0:Bl w W0:=by rw [<-hW0];exact ((Below.refl w.heap.size w).alloc lZ _).alloc sZ _
 have hx0:RlX w.heap.size (.slice ad l.length cap) d p n W0:=by rw [<-hW0];exact RlX.new _ _ _ _ _ _ _
 refine zm26 ?_;intro HU HE HX HB HNO HYES HRG hrl hzW HBAD;clear hx0 hb0 hu hE;go_enter func12,ntmps12;go_upto_region 1 with fail;try rw [hW0]
 clear hW0;obtain⟨o0,o1,o2,o3,_⟩:=HX.o;go_wp2_with fail;refine (a9l _ l _ (HU.o.below HB.o) hm (HE.o.below HB.o HE.o.size).dic).mono ?_;rintro e w1 ⟨nu,rfl,hD,hb⟩;obtain⟨na,nc,rfl,-,-⟩:=id hD;have HX1:=qh (HX.o.below hb);have HB1:=bt HB hb;have hz1:=hb.size;have HD:=qh hD;have HBN:=qh hb;have hba:Bl w1 (w1.alloc (a0d (.slice na (P.kept (P.dic l) l).length nc) (.slice none 0 0) [] [] [] 0)):=bZ.alloc lZ _;have hz2:w1.heap.size<(w1.alloc (a0d (.slice na (P.kept (P.dic l) l).length nc) (.slice none 0 0) [] [] [] 0)).heap.size:=by simp
 have HX2:=qh (HX1.o.below hba);have HB2:=bt HB1 hba;have HSN:Hq (SesM w.heap.size w1.heap.size (P.ses0 (P.kept (P.dic l) l)).1 (P.ses0 (P.kept (P.dic l) l)).2 (w1.alloc (a0d (.slice na (P.kept (P.dic l) l).length nc) (.slice none 0 0) [] [] [] 0))):=⟨SesM.new (w:=W0) (by have:=HE.o.size;omega) oZ HBN.o HD.o⟩;clear hb hba hD HX HB HX1 HB1 HD HBN o0 o1 o2 o3;go_upto_region 2 with fail;generalize w1.alloc (a0d (.slice na (P.kept (P.dic l) l).length nc) (.slice none 0 0) [] [] [] 0)=w2 at *;obtain⟨o0,o1,o2,o3,_⟩:=HX2.o;go_wp2_with fail;refine (L.records d p n _ hd hp (HE.o.below HB2.o HE.o.size)).mono ?_;rintro e w3 ⟨rv,rfl,hrec,hb⟩;rw [P.a3y];obtain⟨g,hrow,hg⟩:=L.d6f hrec oZ;obtain⟨ra,rc,rfl,_,hra⟩:=id hrow;have HB3:=bt HB2 hb;have HS3:=qh (HSN.o.below hb);have HROW:=qh hrow;have hz3:w1.heap.size<w3.heap.size:=Nat.lt_of_lt_of_le hz2 hb.size;have hg1:(P.readAll (d++p)).1=[]\/w1.heap.size<g:=hg.imp id λh=>by omega
 clear hb hrec hrow hra hg HX2 HB2 HSN o0 o1 o2 o3
 cases h1:P.dic l
 .have HQ:=qh (HBAD.o _ HB3.o (by rw [h1];rfl));go_wp2;go_ret2;exact HQ.o
 cases h2:P.a0j d p n
 .have HQ:=qh (HBAD.o _ HB3.o (by rw [h1,h2];rfl));go_wp2;go_ret2;exact HQ.o
 have HP:=qh (HYES.o h1 h2)
 have HF0:=qh (P.c0j h1)
 rw [h1,show P.kept true l=l from rfl]at HS3
 try simp only at HP
 clear HBAD HNO HYES h1 h2
 generalize hrs:(P.readAll (d++p)).1=rs at *
 clear hrs
 go_wp2
 go_loopw [31] (λi wr=>∃(j:Nat) (s1:P.Ses) (g1:P.LogT),j<=rs.length/\i=.int .i64 j/\P.a2r (P.ses0 l) rs=j+P.a2r (s1,g1) (rs.drop j)/\P.Fit s1 g1/\SesM w.heap.size w1.heap.size s1 g1 wr/\L.RowR (.slice ra rs.length rc) g rs wr/\Bl w wr) (λi _=>rs.length-(intOf i).toNat)
 case atStart=>exact⟨0,_,_,Nat.zero_le _,rfl,by rw [List.drop_zero];simp,HF0.o,HS3.o,HROW.o,HB3.o⟩
 case round=>
  obtain⟨j,s1,g1,hj,rfl,hfb,hfit,hs,hrow,hb⟩:=hrel;have HFB:=qh hfb;have HFIT:=qh hfit;have HS:=qh hs;have HROW2:=qh hrow;have HBR:=qh hb;clear hfb hfit hs hb HF0 HS3 HROW HB3
  by_cases hlt:j<rs.length
  .obtain⟨ra',rc',hrv,_,hra⟩:=hrow;injection hrv with e1 e2 e3;subst e1 e3
   rcases hra with hra|⟨rfl,hgz,hra⟩
   .rw [hra]at hlt;exact absurd hlt (Nat.not_lt_zero _)
   obtain⟨c0,c1,_,_⟩:=hra j hlt;have i1:(j:Int)<(rs.length:Int):=by omega
   have hgd:=P.a7f (HRG.o rs[j] (List.getElem_mem hlt));have HDR:=qh (List.drop_eq_getElem_cons hlt);have HFX:=qh (P.c0n (line:=rs[j].1) HFIT.o);have hgne:w1.heap.size≠g:=by rcases hg1 with e|e;exact absurd hlt (by rw [e];exact Nat.not_lt_zero _);exact Nat.ne_of_lt e
   generalize rs[j]=x at *;obtain⟨cx,rx⟩:=x;simp only at hgd c0 c1 HDR HFX;obtain⟨w4,hw4⟩:∃v,wr.alloc (.cells #[.string (S cx),.string (S rx)] 86)=v:=⟨_,rfl⟩;have hba:Bl wr w4:=by rw [<-hw4];exact bZ.alloc lZ _
   have HC4:Hq (w4.cell? ⟨wr.heap.size,0,none⟩=some (.string (S cx))/\w4.cell? ⟨wr.heap.size,1,none⟩=some (.string (S rx))/\wr.heap.size<w4.heap.size):=⟨by subst hw4;exact⟨by go_simp,by go_simp,by simp⟩⟩;have HS4:=qh (HS.o.below hba);have HROW4:=qh (HROW2.o.carry hba);have HB4:=bt HBR hba;have hwr:w1.heap.size<wr.heap.size:=by obtain⟨_,_,_,_,h,_⟩:=HS.o;exact h.1.2.2.2.2.2.2
   clear hra hba HS HROW2 HBR
   go_upto_region 8 with fail
   try rw [hw4]
   clear hw4 c0 c1;obtain⟨l1,st1,sc1⟩:=s1;obtain⟨d1,p1,n1⟩:=g1;obtain⟨k0,k1,k2⟩:=HC4.o;obtain⟨_,_,bu,bus,hso,hrows0⟩:=HS4.o;simp only at hso hrows0;have HRE:=qh hrows0.dic;have HRI:=qh hrows0.str;obtain⟨ua,uc,rfl,_,_⟩:=id HRE.o;obtain⟨ia,ic,rfl,_,_⟩:=id HRI.o;obtain⟨⟨o0,o1,o2,o3,o4,o5,o6⟩,_⟩:=hso;clear hrows0
   go_wp2_with fail
   refine (b4o _ _ l1 st1 sc1 d1 p1 n1 cx _ HRE.o HRI.o HFIT.o oZ (HE.o.below HB4.o HE.o.size)).mono ?_;rintro e w5 ⟨nu2,nus2,B2,rfl,hrows,hb⟩;have HSAME:=qh (P.a7z (a:=((l1,(st1,sc1)),(d1,p1,n1))) (r:=(cx,rx)) (rs:=rs.drop (j+1)));have HOTH:=qh (P.b0l (a:=((l1,(st1,sc1)),(d1,p1,n1))) (r:=(cx,rx)) (rs:=rs.drop (j+1)));rw [HDR.o]at HFB;simp only at HSAME HOTH;generalize P.exec (l1,(st1,sc1)) (d1,p1,n1) cx=q at *;obtain⟨⟨⟨l2,st2,sc2⟩,d2,p2,n2⟩,rep⟩:=q;simp only at hrows HFX HSAME HOTH⊢;have HS5:=qh (HS4.o.below hb);have HROW5:=qh (HROW4.o.carry hb);have HB5:=bt HB4 hb;have k1':w5.cell? ⟨wr.heap.size,1,none⟩=some (.string (S rx)):=(hb.cell (p:=⟨wr.heap.size,1,none⟩) k2).trans k1;have hz5:wr.heap.size<w5.heap.size:=Nat.lt_of_lt_of_le k2 hb.size;have HS6:=qh (HS5.o.store (g2:=(d2,p2,n2)) (s2:=(l2,(st2,sc2))) hrows oZ (Nat.le_trans (by have:=HB4.o.size;exact this) lZ));obtain⟨na2,nc2,rfl,_,_⟩:=id hrows.dic;obtain⟨ma2,mc2,rfl,_,_⟩:=id hrows.str;obtain⟨w6,hw6⟩:∃v,wr6 w5 w1.heap.size (.slice na2 l2.length nc2) (.slice ma2 st2.length mc2) sc2 d2 p2 n2=v:=⟨_,rfl⟩;have hc6:Chg (λb=>b=w1.heap.size) w5 w6:=by rw [<-hw6];exact a3m _ _ _ _ _ _ _ _
   have HROW6:=qh (c5k HROW5.o hc6 (.inr (λe=>hgne e.symm)));have HB6:=qh (Chg.a0n HB5.o hc6 HB5.o.size (λb e=>by have h9:b=w1.heap.size:=e;have:=HB4.o.size;have:=hz1;omega));have k1'':w6.cell? ⟨wr.heap.size,1,none⟩=some (.string (S rx)):=(hc6.cell (p:=⟨wr.heap.size,1,none⟩) hz5 (λe=>by have h9:wr.heap.size=w1.heap.size:=e;omega)).trans k1';simp only at HS6;rw [hw6]at HS6;obtain⟨_,_,zu,zus,hzs,_⟩:=HS5.o;obtain⟨⟨r0,r1,r2,r3,r4,r5,r6⟩,f0,f1,f2,f3,f4,f5⟩:=hzs;clear o0 o1 o2 o3 o4 o5 o6 hb hrows hc6 HS4 HROW4 HB4 k0 k1 k1' HROW5;unfold wr6 at hw6
   go_upto_region 10 with fail
   try rw [hw6]
   clear hw6 r0 r1 r2 r3 r4 r5 r6 f0 f1 f2 f3 f4 f5 HS5
   by_cases heq:rep=rx
   .subst heq;have HF2:=qh (HFB.o.trans (by rw [HSAME.o rfl]));go_wp2
    go_roundw
    case rel=>exact⟨j+1,_,_,by omega,by go_num,by rw [HF2.o];omega,HFX.o,HS6.o,HROW6.o,HB6.o⟩
    case measure=>exact zq
   .have f1:(rep==rx)=false:=by simpa using heq
    have HF2:=qh (HFB.o.trans (by rw [HOTH.o heq]));have HEND:Hq (b1k (P.a4a l (d,p,n)) w (.returned (.tuple #[.int .i64 (j:Int),.bool true])) w6):=⟨by rw [HP.o,HF2.o];exact⟨rfl,HB6.o⟩⟩;clear HF2;go_wp2;go_ret2;exact HEND.o
  .exact zq108
theorem b8i (dv:Value) (l:P.Dic) (d p:Str) (n:Int) (w:World) (hu:EntR w dv l) (hm:Small l) (hd:d.length<=2^20) (hp:p.length<=2^20) (hE:L.Env w) :
 Cz 13 #[.agg #[dv],logV d p n] w (b1k (P.a4a l (d,p,n)) w):=by
 obtain⟨ad,cap,rfl,_,_⟩:=id hu;obtain⟨W0,hW0⟩:∃v,(w.alloc (.cells #[.slice ad l.length cap] 26)).alloc (.cells #[.string (S d),.string (S p),.int .i64 n] 28)=v:=⟨_,rfl⟩;have hb0:Bl w W0:=by rw [<-hW0];exact ((Below.refl w.heap.size w).alloc lZ _).alloc sZ _
 have hx0:RlX w.heap.size (.slice ad l.length cap) d p n W0:=by rw [<-hW0];exact RlX.new _ _ _ _ _ _ _
 refine zm26 ?_;intro HU HE HX HB HNO HYES HRG hrl hzW HBAD;clear hx0 hb0 hu hE;go_enter func13,ntmps13;go_upto_region 1 with fail;try rw [hW0]
 clear hW0;obtain⟨o0,o1,o2,o3,_⟩:=HX.o;go_wp2_with fail;refine (b7x _ l _ (HU.o.below HB.o) hm.texts).mono ?_;rintro e w1 ⟨rfl,hb⟩;have HX1:=qh (HX.o.below hb);have HB1:=bt HB hb;have hz1:=hb.size;clear hb HX HB o0 o1 o2 o3
 cases h1:P.dic l
 .have HQ:=qh (HBAD.o _ HB1.o (by rw [h1];rfl));go_wp2;go_ret2;exact HQ.o
 obtain⟨o0,o1,o2,o3,_⟩:=HX1.o
 go_wp2_with fail
 refine (L.b0u d p n _ hd hp).mono ?_
 rintro e w2 ⟨rfl,hb⟩
 have HX2:=qh (HX1.o.below hb);have HB2:=bt HB1 hb
 have hz2:=hb.size
 clear hb HX1 HB1 o0 o1 o2 o3
 cases h2:P.a0j d p n
 .have HQ:=qh (HBAD.o _ HB2.o (by rw [h1,h2];rfl));go_wp2;go_ret2;exact HQ.o
 obtain⟨o0,o1,o2,o3,_⟩:=HX2.o
 go_wp2_with fail
 refine (L.c5e d p n _ hd hp).mono ?_
 rintro e w3 ⟨rv,rfl,hrec,hb⟩
 rw [show P.c6i d p n=(P.readAll (d++p)).1 from by unfold P.c6i;rw [if_pos h2,P.a1s]]at hrec
 obtain⟨g,hrow,hg⟩:=L.d6f hrec oZ
 obtain⟨ra,rc,rfl,_,hra⟩:=id hrow
 have HX3:=qh (HX2.o.below hb);have HB3:=bt HB2 hb;have HROW3:=qh hrow
 have hz3:=hb.size
 have hg1:(P.readAll (d++p)).1=[]\/g<w3.heap.size:=hg.imp id λh=>h.2
 clear hb hrec hrow hra hg HX2 HB2 o0 o1 o2 o3
 obtain⟨o0,o1,o2,o3,_⟩:=HX3.o
 go_wp2_with fail
 refine (d8h _ l _ (HU.o.below HB3.o) hm.len hm.outs).mono ?_
 rintro e w4 ⟨nu,rfl,hD,hb⟩
 obtain⟨na,nc,rfl,-,-⟩:=id hD
 have HB4:=bt HB3 hb;have HROW4:=qh (HROW3.o.carry hb)
 have hz4:=hb.size
 have hg2:(P.readAll (d++p)).1=[]\/g<w4.heap.size:=hg1.imp id λh=>Nat.lt_of_lt_of_le h hz4
 have HD:=qh hD;have HBN:=qh hb
 have hba:Bl w4 (w4.alloc (a0d (.slice na l.length nc) (.slice none 0 0) [] [] [] 0)):=bZ.alloc lZ _
 have hz5:w4.heap.size<(w4.alloc (a0d (.slice na l.length nc) (.slice none 0 0) [] [] [] 0)).heap.size:=by simp
 have HB5:=bt HB4 hba;have HROW5:=qh (HROW4.o.carry hba)
 have HS5:Hq (SesM w.heap.size w4.heap.size (P.ses0 l).1 (P.ses0 l).2 (w4.alloc (a0d (.slice na l.length nc) (.slice none 0 0) [] [] [] 0))):=⟨SesM.new (w:=w3) (by have:=HE.o.size;omega) oZ HBN.o HD.o⟩
 clear hb hba hD HX3 HB3 HROW3 HB4 HROW4 HD HBN o0 o1 o2 o3 hg1
 go_upto_region 5 with fail
 generalize w4.alloc (a0d (.slice na l.length nc) (.slice none 0 0) [] [] [] 0)=w5 at *
 have HP:=qh (HYES.o h1 h2)
 have HF0:=qh (P.c0j h1)
 try simp only at HP
 clear HBAD HNO HYES h1 h2
 generalize hrs:(P.readAll (d++p)).1=rs at *
 clear hrs
 go_wp2
 go_loopw [9,10] (λr i wr=>∃(j:Nat) (s1:P.Ses) (g1:P.LogT),j<=rs.length/\i=.int .i64 j/\(∃x,r=.string (S x))/\P.a2r (P.ses0 l) rs=j+P.a2r (s1,g1) (rs.drop j)/\P.Fit s1 g1/\SesM w.heap.size w4.heap.size s1 g1 wr/\L.RowR (.slice ra rs.length rc) g rs wr/\Bl w wr) (λ_ i _=>rs.length-(intOf i).toNat)
 case atStart=>exact⟨0,_,_,Nat.zero_le _,rfl,⟨[],rfl⟩,by rw [List.drop_zero];simp,HF0.o,HS5.o,HROW5.o,HB5.o⟩
 case round=>
  obtain⟨j,s1,g1,hj,rfl,⟨r0,rfl⟩,hfb,hfit,hs,hrow,hb⟩:=hrel;have HFB:=qh hfb;have HFIT:=qh hfit;have HS:=qh hs;have HROW2:=qh hrow;have HBR:=qh hb;clear hfb hfit hs hb HF0 HS5 HROW5 HB5
  by_cases hlt:j<rs.length
  .obtain⟨ra',rc',hrv,_,hra⟩:=hrow;injection hrv with e1 e2 e3;subst e1 e3
   rcases hra with hra|⟨rfl,hgz,hra⟩
   .rw [hra]at hlt;exact absurd hlt (Nat.not_lt_zero _)
   obtain⟨c0,c1,_,_⟩:=hra j hlt;have i1:(j:Int)<(rs.length:Int):=by omega
   have hgd:=P.a7f (HRG.o rs[j] (List.getElem_mem hlt));have HDR:=qh (List.drop_eq_getElem_cons hlt);have HFX:=qh (P.c0n (line:=rs[j].1) HFIT.o);have hgne:g<w4.heap.size:=by rcases hg2 with e|e;exact absurd hlt (by rw [e];exact Nat.not_lt_zero _);exact e
   generalize rs[j]=x at *;obtain⟨cx,rx⟩:=x;simp only at hgd c0 c1 HDR HFX;obtain⟨l1,st1,sc1⟩:=s1;obtain⟨d1,p1,n1⟩:=g1;have hsd:wr.drew.heap.size=wr.heap.size:=rfl;have HSD:=qh (HS.o.below bZ.drew);have HROWD:=qh (HROW2.o.carry bZ.drew);have HBD:=qh (HBR.o.trans (bZ.drew.mono HBR.o.size));obtain⟨_,_,bu,bus,hso,hrows0⟩:=HSD.o;simp only at hso hrows0;have HRE:=qh hrows0.dic;have HRI:=qh hrows0.str;obtain⟨ua,uc,rfl,_,_⟩:=id HRE.o;obtain⟨ia,ic,rfl,_,_⟩:=id HRI.o;have hwr:w4.heap.size<wr.drew.heap.size:=hso.1.2.2.2.2.2.2;have HSAME:=qh (P.a7z (a:=((l1,(st1,sc1)),(d1,p1,n1))) (r:=(cx,rx)) (rs:=rs.drop (j+1)));have HOTH:=qh (P.b0l (a:=((l1,(st1,sc1)),(d1,p1,n1))) (r:=(cx,rx)) (rs:=rs.drop (j+1)));rw [HDR.o]at HFB;simp only at HSAME HOTH;obtain⟨⟨⟨⟨l2,st2,sc2⟩,d2,p2,n2⟩,rep⟩,hq⟩:∃q,P.exec (l1,(st1,sc1)) (d1,p1,n1) cx=q:=⟨_,rfl⟩;have HEX:=qh hq;rw [hq]at HFX HSAME HOTH;simp only at HFX HSAME HOTH;clear hq;have HXD:=qh (show SOut w4.heap.size (.slice ua l1.length uc) (.slice ia st1.length ic) sc1 d1 p1 n1 wr.drew/\wr.drew.cell? ⟨g,j*2,none⟩=some (.string (S cx))/\wr.drew.cell? ⟨g,j*2+1,none⟩=some (.string (S rx))/\g<wr.drew.heap.size from⟨hso,c0,c1,hgz⟩);clear hrows0 hso hra HS HROW2 HBR c0 c1 hsd
   go_upto_region 9 with fail
   go_cut [9] (λrv wx=>rv=.string (S rep)/\SesM w.heap.size w4.heap.size (l2,(st2,sc2)) (d2,p2,n2) wx/\L.RowR (.slice (some ⟨g,0,none⟩) rs.length rc) g rs wx/\Bl w wx/\wx.cell? ⟨g,j*2+1,none⟩=some (.string (S rx)))
   case first=>
    refine Left.region [9,10,11] (S:=λv=>SOut w4.heap.size (.slice ua l1.length uc) (.slice ia st1.length ic) sc1 d1 p1 n1 v/\v.cell? ⟨g,j*2,none⟩=some (.string (S cx))/\v.cell? ⟨g,j*2+1,none⟩=some (.string (S rx))/\g<v.heap.size) kZ HXD.o (λhS0=>?_);generalize wr.drew=y0 at *;refine lk17 0 hS0 ?_;refine lk17 1 hS0 ?_;refine lk17 2 hS0 ?_;refine lk17 3 (v:=.pointer (some ⟨g,j*2,none⟩)) hS0 ?_;refine lk17 4 (v:=.pointer (some ⟨g,j*2,none⟩)) hS0 ?_;refine lk17 5 hS0 ?_;refine lrd 6 λK hK=>?_;go_simp;refine (a8x _ _ l1 st1 sc1 d1 p1 n1 cx _ HRE.o HRI.o HFIT.o oZ (HE.o.below HBD.o HE.o.size)).mono ?_;rintro e w6 ⟨nu2,nus2,B2,rfl,hrows,hb⟩;rw [HEX.o]at hrows⊢;simp only at hrows⊢;have HS6:=qh (HSD.o.below hb);have HROW6:=qh (HROWD.o.carry hb);have HB6:=bt HBD hb;have HS7:=qh (HS6.o.store (g2:=(d2,p2,n2)) (s2:=(l2,(st2,sc2))) hrows hwr HBD.o.size);obtain⟨na2,nc2,rfl,_,_⟩:=id hrows.dic;obtain⟨ma2,mc2,rfl,_,_⟩:=id hrows.str;refine a1r hK dZ ⟨hS0.1.below hb,(hb.cell (p:=⟨g,j*2,none⟩) hS0.2.2.2).trans hS0.2.1,(hb.cell (p:=⟨g,j*2+1,none⟩) hS0.2.2.2).trans hS0.2.2.1,Nat.lt_of_lt_of_le hS0.2.2.2 hb.size⟩ (λhS1=>?_);clear hK K hb hS0 hrows;refine zm0 ?_;refine lk17 7 hS1 ?_;obtain⟨w7,hw7⟩:∃v,wr6 w6 w4.heap.size (.slice na2 l2.length nc2) (.slice ma2 st2.length mc2) sc2 d2 p2 n2=v:=⟨_,rfl⟩;have hc7:Chg (λb=>b=w4.heap.size) w6 w7:=by rw [<-hw7];exact a3m _ _ _ _ _ _ _ _
    have HROW7:=qh (c5k HROW6.o hc7 (.inr oZ));have HB7:=qh (Chg.a0n HB6.o hc7 HB6.o.size (λb e=>by have h9:b=w4.heap.size:=e;omega));have HC1:Hq (w7.cell? ⟨g,j*2+1,none⟩=some (.string (S rx))):=⟨(hc7.cell (p:=⟨g,j*2+1,none⟩) hS1.2.2.2 (λe=>by have h9:g=w4.heap.size:=e;omega)).trans hS1.2.2.1⟩;simp only at HS7;rw [hw7]at HS7;obtain⟨_,_,zu,zus,hzs,_⟩:=HS6.o;obtain⟨⟨r0',r1,r2,r3,r4,r5,r6⟩,f0,f1,f2,f3,f4,f5⟩:=hzs;clear hc7 HROW6;unfold wr6 at hw7;refine Left.ready (rs:=[8,9]) kZ sZ ?_;refine b3b.cons rfl (λK hK=>?_) (b3b.cons rfl (λK hK=>?_) b3b.nil)
    .skip;go_simp;refine a1r hK dZ hS1 (λ_=>?_);clear hK K;refine zm0 ?_;refine Left.ready (rs:=[9,10]) kZ sZ ?_;refine b3b.cons rfl (λK hK=>?_) (b3b.cons rfl (λK hK=>?_) b3b.nil)
     .skip;go_simp;refine a2p hK dZ ?_;exact zq191
     .skip;go_simp;refine a2p hK dZ ?_;clear hK K;try rw [hw7]
      refine zm0 ?_;refine lrd 9 λK hK=>?_;go_simp;refine a2p hK dZ ?_;clear hK K;exact zq21
    .skip;go_simp;refine a2p hK dZ ?_;clear hK K;refine zm0 ?_;refine lrd 8 λK hK=>?_;go_simp;refine a1r hK dZ hS1 (λ_=>?_);exact zq191
   case rest=>
    obtain⟨rfl,hs7,hrow7,hb7,hc1⟩:=hcut;generalize hww:wc=w7 at *;have HS7:=qh hs7;have HROW7:=qh hrow7;have HB7:=qh hb7;have hgz7:g<w7.heap.size:=Nat.lt_of_lt_of_le hgne (Nat.le_of_lt (by obtain⟨_,_,_,_,h,_⟩:=hs7;exact h.1.2.2.2.2.2.2));clear hww hs7 hrow7 hb7
    by_cases heq:rep=rx
    .subst heq;have HF2:=qh (HFB.o.trans (by rw [HSAME.o rfl]));go_wp2
     go_roundw
     case rel=>exact⟨j+1,_,_,by omega,by go_num,⟨_,rfl⟩,by rw [HF2.o];omega,HFX.o,HS7.o,HROW7.o,HB7.o⟩
     case measure=>exact zq
    .have f1:(rep==rx)=false:=by simpa using heq
     have HF2:=qh (HFB.o.trans (by rw [HOTH.o heq]));have HEND:Hq (b1k (P.a4a l (d,p,n)) w (.returned (.tuple #[.int .i64 (j:Int),.bool true])) w7):=⟨by rw [HP.o,HF2.o];exact⟨rfl,HB7.o⟩⟩;clear HF2;go_wp2;go_ret2;exact HEND.o
  .exact zq108
structure RyI (w6 w4:World) (b0 B g:Nat) (u us:Value) (l:P.Dic) (sc d p:Str) (n:Int) (ls:List Str) (a:P.Ses×P.LogT) (v:World):Prop where
 ses:SesM 0 B a.1 a.2 v
 fai:P.a8m l a
 fit:P.Fit a.1 a.2
 bel:Bl w6 v
 lin:a7n g ls v
 bz:B=w6.heap.size/\B<g
theorem SesM.parts {lo:Nat} {s:P.Ses} {g:P.LogT} (h:SesM lo B s g v):∃ua uc ia ic,SOut B (.slice ua s.1.length uc) (.slice ia s.2.1.length ic) s.2.2 g.1 g.2.1 g.2.2 v/\EntR v (.slice ua s.1.length uc) s.1/\IntR v (.slice ia s.2.1.length ic) s.2.1:=by
 obtain⟨_,_,u,us,h1,h2⟩:=h;have h3:=h2.dic;have h4:=h2.str;obtain⟨ua,uc,rfl,_,_⟩:=id h3;obtain⟨ia,ic,rfl,_,_⟩:=id h4;exact⟨ua,uc,ia,ic,h1,h3,h4⟩
theorem RyI.run {a:P.Ses×P.LogT} {line:Str} {e:Ending} (h:RyI w6 w4 b0 B g u us l sc d p n ls a v) (hp:d0b (P.exec a.1 a.2 line) v e v') :
 ∃(na ma:Option Addr) (nc mc:Nat) (s2:P.Ses) (g2:P.LogT) (rep:Str),e=.returned (.tuple #[a1a (.slice na s2.1.length nc) (.slice ma s2.2.1.length mc) s2.2.2 g2.1 g2.2.1 g2.2.2,.string (S rep)])/\RyI w6 w4 b0 B g u us l sc d p n ls a v' /\
  RyI w6 w4 b0 B g u us l sc d p n ls (s2,g2) (wr6 v' B (.slice na s2.1.length nc) (.slice ma s2.2.1.length mc) s2.2.2 g2.1 g2.2.1 g2.2.2):=by
 obtain⟨nu,nus,BB,rfl,hr,hb⟩:=hp
 have h0:RyI w6 w4 b0 B g u us l sc d p n ls a v':=⟨h.ses.below hb,h.fai,h.fit,h.bel.trans (hb.mono h.bel.size),h.lin.below hb,h.bz⟩
 obtain⟨na,nc,rfl,_,_⟩:=id hr.dic
 obtain⟨ma,mc,rfl,_,_⟩:=id hr.str
 obtain⟨ua,uc,ia,ic,hs,_,_⟩:=h.ses.parts
 have hBv:=hs.1.2.2.2.2.2.2
 have hc:=a3m v' B (.slice na (P.exec a.1 a.2 line).1.1.1.length nc) (.slice ma (P.exec a.1 a.2 line).1.1.2.1.length mc) (P.exec a.1 a.2 line).1.1.2.2 (P.exec a.1 a.2 line).1.2.1 (P.exec a.1 a.2 line).1.2.2.1 (P.exec a.1 a.2 line).1.2.2.2
 have hbz:=h.bz
 exact⟨na,ma,nc,mc,_,_,_,rfl,h0,h0.ses.store (g2:=(P.exec a.1 a.2 line).1.2) (s2:=(P.exec a.1 a.2 line).1.1) hr hBv (Nat.zero_le _),P.c1q h.fai line,P.c0n h.fit,Chg.a0n h0.bel hc h0.bel.size (λb e=>by omega),h0.lin.a0b hc (λe=>by omega),h.bz⟩
theorem RyI.call {a:P.Ses×P.LogT} (h:RyI w6 w4 b0 B g u us l sc d p n ls a v) (hb:Bl v v'):RyI w6 w4 b0 B g u us l sc d p n ls a v':=
 ⟨h.ses.below hb,h.fai,h.fit,h.bel.trans (hb.mono h.bel.size),h.lin.below hb,h.bz⟩
theorem c6s (v:Value) (wz:World) (hc:d4d wz v) (hE:L.Env wz) :
 Cz 3 #[v] wz λe w'=>e=.returned (.bool true)/\Bl wz w':=by
 obtain⟨ad0,n0,cap0,rfl,hn,hr⟩:=hc
 have HEZ:=qh hE
 clear hE
 go_enter func3,ntmps3
 go_wp2_with fail
 refine (vBig _ n0 ad0 cap0 rfl hn _).mono ?_
 rintro e w' ⟨rfl,rfl⟩
 cases hbig:decide (65536<n0)
 rotate_left
 .have hn2:=of_decide_eq_true hbig;go_wp2;go_ret;exact⟨rfl,Below.refl _ _⟩
 have HCD:=qh (show b8e wz (.slice ad0 n0 cap0) from⟨ad0,n0,cap0,rfl,by have:=of_decide_eq_false hbig;omega,hr⟩)
 clear hbig hr
 go_wp2_with fail
 refine (c1l _ _ HCD.o HEZ.o).mono ?_
 rintro e w ⟨l,u,d,p,n,rfl,hd,hdl,hpl,hu,hb⟩
 obtain⟨ad,cap,rfl,_,_⟩:=id hu
 have HSM:=qh hd.small
 obtain⟨W1,hW1⟩:∃v,(w.alloc (.cells #[.slice ad l.length cap] 26)).alloc (.cells #[.string (S d),.string (S p),.int .i64 n] 28)=v:=⟨_,rfl⟩
 have hba:Bl w W1:=by rw [<-hW1];exact ((Below.refl w.heap.size w).alloc lZ _).alloc sZ _
 have HX:=qh (show RlX w.heap.size (.slice ad l.length cap) d p n W1 by rw [<-hW1];exact RlX.new w _ d p n _ _)
 have HU:=qh (hu.below hba)
 have HE:=qh ((HEZ.o.below hb HEZ.o.size).below hba (HEZ.o.below hb HEZ.o.size).size)
 have HB:=qh (hb.trans (hba.mono hb.size))
 clear hd hu hb hba
 go_upto_region 4 with fail
 try rw [hW1]
 clear hW1
 obtain⟨c0,c1,c2,c3,_⟩:=HX.o
 go_wp2_with fail
 refine (a6o _ l d p n _ HU.o HSM.o hdl hpl HE.o).mono ?_
 rintro e w2 ⟨rfl,hb⟩
 have HX2:=qh (HX.o.below hb);have HU2:=qh (HU.o.below hb);have HE2:=qh (HE.o.below hb HE.o.size);have HB2:=bt HB hb
 clear hb HX HU HE HB c0 c1 c2 c3
 obtain⟨t,ok,hrp⟩:∃t ok,P.a4a l (d,p,n)=(t,ok):=⟨_,_,rfl⟩
 have HRP:=qh hrp
 rw [hrp]
 simp only
 clear hrp
 obtain⟨c0,c1,c2,c3,_⟩:=HX2.o
 go_wp2_with fail
 refine (b8i _ l d p n _ HU2.o HSM.o hdl hpl HE2.o).mono ?_
 rintro e w3 ⟨rfl,hb⟩
 rw [HRP.o]
 simp only
 have HE3:=qh (HE2.o.below hb HE2.o.size);have HB3:=bt HB2 hb
 clear hb HX2 HU2 HE2 HB2 c0 c1 c2 c3 HSM HRP hdl hpl
 go_wp2_with fail
 refine (c0l _ _ (c6u HCD.o HB3.o) HE3.o).mono ?_
 rintro e w4 ⟨⟨bl,bst,bsc⟩,⟨bd,bp,bn⟩,bu,bus,tx,rfl,htx,hd,_,hu,hus,hb⟩
 simp only at hd hu hus
 obtain⟨bsa,bsp,rfl,_,_⟩:=id hus
 clear hus
 obtain⟨ba,bc,rfl,_,_⟩:=id hu
 have HSM:=qh hd.small
 obtain⟨W4,hW4⟩:∃v,w4.alloc (a0d (.slice ba bl.length bc) (.slice bsa bst.length bsp) bsc bd bp bn)=v:=⟨_,rfl⟩
 have hba:Bl w4 W4:=by rw [<-hW4];exact bZ.alloc lZ _
 have HX:Hq (SBox w4.heap.size (.slice ba bl.length bc) (.slice bsa bst.length bsp) bsc bd bp bn W4):=⟨by rw [<-hW4];exact SBox.new _ _ _ _ _ _ _⟩
 have hbb:=hb.trans (hba.mono hb.size)
 have HU:=qh (hu.below hba)
 have HE4:=qh (HE3.o.below hbb HE3.o.size)
 have HB4:=bt HB3 hbb
 clear hd hu hb hba hbb HE3 HB3 HCD HEZ
 go_upto_region 9 with fail
 try rw [hW4]
 clear hW4
 obtain⟨c0,c1,c2,c3,c4,c5,_⟩:=HX.o
 go_wp2_with fail
 refine (a9l _ bl _ HU.o HSM.o HE4.o.dic).mono ?_
 rintro e w5 ⟨su,rfl,hents,hb⟩
 obtain⟨l0,hl0⟩:∃l0,P.kept (P.dic bl) bl=l0:=⟨_,rfl⟩
 have HL0:=qh hl0
 rw [hl0]at hents
 clear hl0
 obtain⟨sa,sc,rfl,_,_⟩:=id hents.read
 have hba:Bl w5 (w5.alloc (a0d (.slice sa l0.length sc) (.slice none 0 0) [] [] [] 0)):=bZ.alloc lZ _
 have HSN:Hq (SesM 0 w5.heap.size (P.ses0 l0).1 (P.ses0 l0).2 (w5.alloc (a0d (.slice sa l0.length sc) (.slice none 0 0) [] [] [] 0))):=⟨SesM.new (lo:=0) HE4.o.size (Nat.zero_le _) hb hents⟩
 have hbb:=hb.trans (hba.mono hb.size)
 have HSX:Hq (SBox w5.heap.size (.slice sa l0.length sc) (.slice none 0 0) [] [] [] 0 (w5.alloc (a0d (.slice sa l0.length sc) (.slice none 0 0) [] [] [] 0))):=⟨SBox.new _ _ _ _ _ _ _⟩
 have HSU:=qh (hents.read.below hba)
 have HBW:=qh hba
 have HX5:=qh (HX.o.below hbb);have HU5:=qh (HU.o.below hbb);have HE5:=qh (HE4.o.below hbb HE4.o.size);have HB5:=bt HB4 hbb
 have HXL:=qh (HX.o.below hb);have HUL:=qh (HU.o.below hb);have HEL:=qh (HE4.o.below hb HE4.o.size);have HBL:=bt HB4 hb
 clear hents hb hba hbb HX HU HE4 HB4 c0 c1 c2 c3 c4 c5
 unfold a1a
 go_upto_region 10 with fail
 generalize (w5.alloc (a0d (.slice sa l0.length sc) (.slice none 0 0) [] [] [] 0))=W5 at *
 obtain⟨c0,c1,c2,c3,c4,c5,_⟩:=HX5.o
 go_wp2_with fail
 refine (b7d _ bl _ HU5.o HSM.o).mono ?_
 rintro e w6 ⟨xu,rfl,hents,hb⟩
 rw [HL0.o]at hents
 obtain⟨xa,xc,rfl,_,_⟩:=id hents.read
 have hba:Bl w6 (w6.alloc (a0d (.slice xa l0.length xc) (.slice none 0 0) [] [] [] 0)):=bZ.alloc lZ _
 have hbb:=hb.trans (hba.mono hb.size)
 have HWX:Hq (SBox w6.heap.size (.slice xa l0.length xc) (.slice none 0 0) [] [] [] 0 (w6.alloc (a0d (.slice xa l0.length xc) (.slice none 0 0) [] [] [] 0))):=⟨SBox.new _ _ _ _ _ _ _⟩
 have HWU:=qh (hents.read.below hba)
 have HSN6:=qh (HSN.o.below hbb);have HSX6:=qh (HSX.o.below hbb);have HSU6:=qh (HSU.o.below hbb);have HBW6:=bt HBW hbb;have HE6:=qh (HE5.o.below hbb HE5.o.size);have HB6:=bt HB5 hbb
 clear hents hb hba hbb HX5 HU5 HE5 HB5 HSN HSX HSU HBW c0 c1 c2 c3 c4 c5
 unfold a1a
 go_upto_region 11 with fail
 generalize (w6.alloc (a0d (.slice xa l0.length xc) (.slice none 0 0) [] [] [] 0))=W6 at *
 obtain⟨c0,c1,c2,c3,c4,c5,_⟩:=HSX6.o
 obtain⟨e0,e1,e2,e3,e4,e5,_⟩:=HWX.o
 go_wp2_with fail
 refine (e0p _ _ _ _ l0 [] [] [] [] 0 _ HSU6.o HWU.o (b7y 0 _).now (b7y 0 _).now).mono ?_
 rintro e w7 ⟨rfl,hb⟩
 have HSN7:=qh (HSN6.o.below hb);have HBW7:=bt HBW6 hb;have HE7:=qh (HE6.o.below hb HE6.o.size);have HB7:=bt HB6 hb
 clear hb HSN6 HSX6 HSU6 HBW6 HE6 HB6 HWX HWU c0 c1 c2 c3 c4 c5 e0 e1 e2 e3 e4 e5
 cases hdi:P.dic bl
 .go_wp2;go_ret;exact⟨rfl,HB7.o⟩
 have hl0:=HL0.o
 rw [hdi]at hl0
 have hl1:bl=l0:=hl0
 subst hl1
 have HDI:=qh hdi
 clear hl0 HL0 hdi
 go_wp2_with fail
 refine (c3g tx _ htx).mono ?_
 rintro e w8 ⟨lv,rfl,hls,hb⟩
 obtain⟨gl,glc,rfl,hglz,hsl⟩:=a6r hls (P.a2y 10 tx)
 have hlx:=λx hx=>(P.b1n 10 tx).2 x hx
 have hlsl:(P.split 10 tx).length<=4001:=by have:=(P.b1n 10 tx).1;omega
 generalize P.split 10 tx=ls at *
 have hBz:w5.heap.size<w7.heap.size:=by obtain⟨_,_,_,_,h1,_⟩:=HSN7.o.parts;exact h1.1.2.2.2.2.2.2
 have HI:=qh (show RyI w5 w4 w4.heap.size w5.heap.size gl (.slice ba bl.length bc) (.slice bsa bst.length bsp) bl bsc bd bp bn ls (P.ses0 bl) w8 from⟨HSN7.o.below hb,P.b8h HDI.o,P.c0j HDI.o,HBW7.o.trans (hb.mono HBW7.o.size),hsl,rfl,by omega⟩)
 have HLX:=qh (λx hx=>Nat.le_trans (hlx x hx) htx)
 have HBB:Hq (Bl wz w5):=⟨HBL.o⟩
 clear hls hsl hb hlx HSN7 HBW7 HE7 HB7 HBL
 go_wp2
 go_loopw [17] (λi wr=>∃(j:Nat) (a:P.Ses×P.LogT),j<=ls.length/\i=.int .i64 j/\RyI w5 w4 w4.heap.size w5.heap.size gl (.slice ba bl.length bc) (.slice bsa bst.length bsp) bl bsc bd bp bn ls a wr) (λi _=>ls.length-(intOf i).toNat)
 case atStart=>exact⟨0,_,Nat.zero_le _,rfl,HI.o⟩
 case round=>
  obtain⟨j,⟨⟨l1,st1,sc1⟩,⟨d1,p1,n1⟩⟩,hj,rfl,hri⟩:=hrel;have HR:=qh hri;obtain⟨ua,uc,ia,ic,hs,_,_⟩:=hri.ses.parts;clear HI hri
  by_cases hlt:j<ls.length
  .have A4:=HR.o.call (Below.refl wr.heap.size wr).drew;obtain⟨ua,uc,ia,ic,⟨⟨y0,y1,y2,y3,y4,y5,y6⟩,f0,f1,f2,f3,f4,f5⟩,hE1,hI1⟩:=A4.ses.parts;have hlc:=A4.lin.2 j hlt;have hlz:=A4.lin.1.1;have i1:(j:Int)<(ls.length:Int):=by omega
   have hxl:=HLX.o _ (List.getElem_mem hlt);have HEW:=HEL.o.below A4.bel HEL.o.size;have hx20:ls[j].length<=2^20:=by omega
   generalize ls[j]=x at *
   go_upto_region 19 with fail
   clear hs
   go_region_law ((go_simp;go_at_call 19;refine (b4o _ _ l1 st1 sc1 d1 p1 n1 x _ hE1 hI1 A4.fit hx20 HEW).mono ?_;rintro e v hpost;obtain⟨na,ma,nc,mc,⟨l2,st2,sc2⟩,⟨d2,p2,n2⟩,rep,rfl,A6,A7⟩:=RyI.run (a:=((l1,(st1,sc1)),(d1,p1,n1))) A4 hpost;clear hpost;clear y0 y1 y2 y3 y4 y5 y6 f0 f1 f2 f3 f4 f5;obtain⟨ua2,uc2,ia2,ic2,⟨⟨y0,y1,y2,y3,y4,y5,y6⟩,f0,f1,f2,f3,f4,f5⟩,_,_⟩:=A6.ses.parts))
   all_goals
    go_wp2
    go_roundw
    case rel=>exact⟨j+1,((l2,(st2,sc2)),(d2,p2,n2)),by omega,by go_num,A7⟩
    case measure=>exact zq
  .have i1:¬(j:Int)<(ls.length:Int):=by omega
   obtain⟨t1,ht1,ht2⟩:=P.e3f HDI.o HR.o.fai;have HPA:=qh (λ(keep:Int) h0 h1=>P.e0s (keep:=keep) HDI.o HR.o.fai h0 h1);simp only at ht1 ht2 HPA;subst ht2;have HT1:=qh ht1;have hdl:d1.length<=2^20:=HR.o.fit.2.2.2.2.1;have hpl:p1.length<=2^20:=HR.o.fit.2.2.2.2.2;have HXE:=qh (HXL.o.below HR.o.bel);have HUE:=qh (HUL.o.below HR.o.bel);have HEE:=qh (HEL.o.below HR.o.bel HEL.o.size);have HBE:=qh (HBB.o.trans (HR.o.bel.mono HBB.o.size));have HSO:=qh hs.1;clear hs HR HXL HUL HEL HBB ht1;obtain⟨c0,c1,c2,c3,c4,c5,_⟩:=HXE.o;obtain⟨y0,y1,y2,y3,y4,y5,y6⟩:=HSO.o
   go_wp2_with fail
   refine (a6o _ bl d1 p1 (t1:Int) _ HUE.o HSM.o hdl hpl HEE.o).mono ?_;rintro e v1 ⟨rfl,hb⟩;rw [HT1.o];simp only;have HX2:=qh (HXE.o.below hb);have HU2:=qh (HUE.o.below hb);have HE2:=qh (HEE.o.below hb HEE.o.size);have HB2:=bt HBE hb;have HS2:=qh (HSO.o.below hb);clear hb HXE HUE HEE HBE HSO c0 c1 c2 c3 c4 c5 y0 y1 y2 y3 y4 y5 y6;obtain⟨y0,y1,y2,y3,y4,y5,y6⟩:=HS2.o
   go_wp2_with fail
   refine (L.c1h d1 p1 (t1:Int) _ false _ hdl hpl HE2.o).mono ?_;rintro e v2 ⟨rfl,hb⟩;obtain⟨b,q,c,k,hcr,hbl,hrec,hql,hrp⟩:=HPA.o ((p1.length:Int)-(p1.length:Int) % 7) oZ oZ;rw [hcr];simp only;have HRC:=qh hrec;have HRQ:=qh hrp;have HX3:=qh (HX2.o.below hb);have HU3:=qh (HU2.o.below hb);have HE3:=qh (HE2.o.below hb HE2.o.size);have HB3:=bt HB2 hb;have HS3:=qh (HS2.o.below hb);clear hb HX2 HU2 HE2 HB2 HS2 y0 y1 y2 y3 y4 y5 y6 hcr hrec hrp HPA HT1
   go_wp2_with fail
   refine (L.c4x b _ oZ HE3.o).mono ?_;rintro e v3 ⟨rfl,hb⟩;rw [HRC.o];simp only;have hba:=(Below.refl v3.heap.size v3).alloc lZ (.cells #[.string (S q),.string (S []),.int .i64 (c:Int)] 28);have hbb:=hb.trans (hba.mono hb.size);have HX4:=qh (HX3.o.below hbb);have HU4:=qh (HU3.o.below hbb);have HE4:=qh (HE3.o.below hbb HE3.o.size);have HB4:=bt HB3 hbb;have HS4:=qh (HS3.o.below hbb);have HL4:=qh (LgB.new q [] (c:Int) 28 v3);clear hb hba hbb HX3 HU3 HE3 HB3 HS3;unfold L.logV
   go_upto_region 23 with fail
   generalize v3.alloc (.cells #[.string (S q),.string (S []),.int .i64 (c:Int)] 28)=v4 at *;obtain⟨c0,c1,c2,c3,c4,c5,_⟩:=HX4.o;obtain⟨a0,a1,a2,_,_,_,a3⟩:=HL4.o
   go_wp2_with fail
   refine (a6o _ bl q [] (c:Int) _ HU4.o HSM.o oZ sZ HE4.o).mono ?_;rintro e v5 ⟨rfl,hb⟩;rw [HRQ.o];simp only;have HB5:=bt HB4 hb;obtain⟨y0,y1,y2,y3,y4,y5,y6⟩:=HS4.o.below hb;obtain⟨e0,e1,e2,_,_,_,e3⟩:=HL4.o.below hb;clear hb HX4 HU4 HE4 HB4 HS4 HL4 c0 c1 c2 c3 c4 c5 a0 a1 a2 a3;go_wp2;go_ret;exact⟨rfl,HB5.o⟩
open Go.ChangeShapes Go.WideShapes Go.ChangeAt Go.Deep
theorem b4y {P:Program} {W:World} {name:String} {k:IntKind} {zs:List Int} {t e:TypeId} {n:Nat}
 (hg:P.globalNamed name=some g) (hty:(P.globals[g]?).map (·.type)=some t) (ht:P.underlying t=some (.array n e)) (he:P.underlying e=some (.int k)) (hce:P.cellsOf e=1) (hct:P.cellsOf t=n) :
 ∀(laid:List (String×DataW Unit)) (ps:List MemPlace),(name,Lib.tabData k zs)∈laid->DataW.LaidVars P W laid ps->Lib.TabIs P W name k zs
 |[],_,h,_=>by cases h
 |(m,d)::r,ps,h,hl=>by
  obtain⟨g',t',cs,fuel,p,q,hg',ht',hvar,hd,hrest,_⟩:=hl
  rcases List.mem_cons.1 h with h|h
  .injection h with h1 h2;subst h1 h2;obtain rfl:=Option.some.inj (hg.symm.trans hg');obtain rfl:=Option.some.inj (hty.symm.trans ht');unfold Lib.TabIs;rw [hvar,<-Lib.cells_of_tab ht he hce hct hd]
  .exact b4y hg hty ht he hce hct r _ h hrest
theorem e2y {W:World} (hsh:W.ShapedOpen Tryz.prog) (h:laidMetH Tryz.prog [("math/bits.deBruijn32tab",Rows.laid_math_bits_deBruijn32tab),("math/bits.deBruijn64tab",Rows.laid_math_bits_deBruijn64tab),("internal/strconv.uint64pow10",Rows.laid_internal_strconv_uint64pow10),("unicode/utf8.acceptRanges",Rows.laid_unicode_utf8_acceptRanges),("unicode/utf8.first",Rows.laid_unicode_utf8_first)] W):L.Env W:=by
 have hm:laidMet Tryz.prog [("math/bits.deBruijn32tab",Rows.laid_math_bits_deBruijn32tab),("math/bits.deBruijn64tab",Rows.laid_math_bits_deBruijn64tab),("internal/strconv.uint64pow10",Rows.laid_internal_strconv_uint64pow10),("unicode/utf8.acceptRanges",Rows.laid_unicode_utf8_acceptRanges),("unicode/utf8.first",Rows.laid_unicode_utf8_first)] W:=h;obtain⟨ps,hv,_⟩:=hm
 have htab:Lib.TabIs Tryz.prog W "internal/strconv.uint64pow10" .u64 Lib.pow10Tab:=
  b4y (t:=302) (e:=89) (n:=20) L.c6c kZ underlying302 underlying89 kZ kZ _ _ (List.mem_cons_of_mem _ (List.mem_cons_of_mem _ (List.mem_cons_self ..))) hv
 obtain⟨_,m,hc⟩:=env_of hsh trivial;have h1:0<W.heap.size:=World.block_lt_of_cell? W _ hc;have h2:5<W.heap.size:=World.block_lt_of_cell? W _ (htab.cell L.c6c 0 dZ);exact⟨by unfold L.EB;omega,⟨m,hc⟩,htab⟩
def tab32Q:List Int:=[0,1,28,2,29,14,24,3,30,22,20,15,25,17,4,8,31,27,13,23,21,19,16,7,26,12,18,6,11,5,10,9]
def tab64Q:List Int:=[0,1,56,2,57,49,28,3,61,58,42,50,38,29,17,4,62,47,59,36,45,43,51,22,53,39,33,30,24,18,12,5,63,55,48,27,60,41,37,16,46,35,44,21,52,32,23,11,54,26,40,15,34,20,31,10,25,14,19,9,13,8,7,6]
noncomputable def laidWorldQ (os:Os):World:=
 { laidWorld os with heap:=c4v 5 .u64 Lib.pow10Tab (c4v 7 .u8 tab64Q (c4v 6 .u8 tab32Q (laidWorld os).heap)) }
end Go.Proofs.YtggfdnopminemaaGreatDoor
