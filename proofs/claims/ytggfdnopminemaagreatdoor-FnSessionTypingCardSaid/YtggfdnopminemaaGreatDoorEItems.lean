/- Walks: a command executed (program). -/
import Derived.Test.YtggfdnopminemaaGreatDoorZt
import Derived.Test.YtggfdnopminemaaGreatDoorSesA2
set_option linter.all false
namespace Go.Proofs.YtggfdnopminemaaGreatDoor
open Go Go.RowKit
set_option maxHeartbeats 8000000
set_option maxRecDepth 100000
theorem b8q (u us:Value) (l:P.Dic) (st:List Int) (sc d p:Str) (n:Int) (line:Str) (w:World) (hu:EntR w u l) (hus:IntR w us st) (hf:P.Fit (l,(st,sc)) (d,p,n)) (hl:line.length≤2^20) (hE:L.Env w) :
 Calls Tryz.prog 19 #[a7w u us sc d p n,.string (S line)] w (ExPost (P.exec (l,(st,sc)) (d,p,n) line) w):=by
 obtain⟨hf1,hf2,hf3,hf4,hf5,hf6⟩:=hf
 have hm:Small l:=⟨hf1,hf2,hf3⟩
 simp only at hf4 hf5 hf6
 clear hf1 hf2 hf3
 have hu0:=hu;have hus0:=hus
 obtain⟨ad,cap,rfl,_,_⟩:=hu0
 obtain⟨sd,sap,rfl,_,_⟩:=hus0
 obtain⟨W0,hW0⟩:∃v,(w.alloc (a0r (.slice ad l.length cap) (.slice sd st.length sap) sc d p n)).alloc (a0r (.slice none 0 0) (.slice none 0 0) [] [] [] 0)=v:=⟨_,rfl⟩
 have hb0:Below w.heap.size w W0:=by rw [←hW0];exact ((Below.refl w.heap.size w).alloc lZ _).alloc sZ _
 have hzW:W0.heap.size=w.heap.size+2:=by rw [←hW0];simp
 have hq0:SQ w.heap.size (.slice ad l.length cap) (.slice sd st.length sap) sc d p n W0:=by
  rw [←hW0];exact⟨(SOut.new (.slice ad l.length cap) (.slice sd st.length sap) sc d p n w).below (bZ.alloc lZ _),by have h:=SOut.new (.slice none 0 0) (.slice none 0 0) [] [] [] 0 (w.alloc (a0r (.slice ad l.length cap) (.slice sd st.length sap) sc d p n));simpa using h⟩
 have HU:=qh hu;have HUS:=qh hus;have HE:=qh hE
 have HQ:=qh hq0;have HB:=qh hb0
 have hzW2:w.heap.size+2≤W0.heap.size:=by omega
 clear hq0 hb0 hu hus hE hzW
 go_enter Tryz.func19,Tryz.ntmps19
 go_upto_region 1 with fail
 try rw [hW0]
 clear hW0
 obtain⟨⟨o0,o1,o2,o3,o4,o5,o6⟩,_⟩:=HQ.o.1
 go_wp2_with fail
 refine (c4y _ _ l st sc d p n _ (HU.o.below HB.o) (HUS.o.below HB.o) hm oZ).mono ?_
 rintro e w1 ⟨nu,nus,m,rfl,hD,hI,hm1,hm2,hb⟩
 obtain⟨na,nc,rfl,-,-⟩:=id hD
 obtain⟨ma,mc,rfl,-,-⟩:=id hI
 obtain⟨w2,hw2⟩:∃v,w1.alloc (a0r (.slice na l.length nc) (.slice ma st.length mc) sc d p n)=v:=⟨_,rfl⟩
 have hba:Below w1.heap.size w1 w2:=by rw [←hw2];exact bZ.alloc lZ _
 have hz1:=hb.size
 have hBz:w1.heap.size<w2.heap.size:=by rw [←hw2];simp
 have HB2:=qh ((HB.o.trans (hb.mono HB.o.size)).trans (hba.mono oZ))
 have HQ2:=qh ((HQ.o.below hb).below hba)
 have HS2:=qh (show SesM (w.heap.size+2) w1.heap.size (l,(st,sc)) (d,p,n) w2 from⟨by have:=HE.o.size;omega,by omega,_,_,by rw [←hw2];exact SOut.new _ _ _ _ _ _ _,(a2s.of hD hI hzW2 hm2 hm1 (.inl lZ)).below hba⟩)
 clear hD hI hm1 hm2 hb hba HQ HB o0 o1 o2 o3 o4 o5 o6
 go_upto_region 2 with fail
 try rw [hw2]
 clear hw2
 obtain⟨⟨o0,o1,o2,o3,o4,o5,o6⟩,_⟩:=HQ2.o.1
 go_wp2_with fail
 refine (a8f _ _ l st sc d p n _ (HU.o.below HB2.o) (HUS.o.below HB2.o) hm hf5 hf6 (HE.o.below HB2.o HE.o.size)).mono ?_
 rintro e w3 ⟨rfl,hb⟩
 have HB3:=bt HB2 hb;have HQ3:=qh (HQ2.o.below hb);have HS3:=qh (HS2.o.below hb)
 have hB3:=hb.size
 clear hb HB2 HQ2 HS2 o0 o1 o2 o3 o4 o5 o6
 cases h1:P.sess l st sc d p n
 ·have HP:=qh (P.d4i (s:=(l,(st,sc))) (g:=(d,p,n)) (line:=line) h1);obtain⟨_,_,bu,bus,hso,hrows⟩:=HS3.o;simp only at hso hrows;obtain⟨ba,bc,rfl,_,_⟩:=id hrows.dic;obtain⟨ia,ic,rfl,_,_⟩:=id hrows.str;obtain⟨⟨o0,o1,o2,o3,o4,o5,o6⟩,_⟩:=hso;obtain⟨⟨r0,r1,r2,r3,r4,r5,r6⟩,f0,f1,f2,f3,f4,f5⟩:=HQ3.o.2;obtain⟨V,hV⟩:∃v,wr6 w3 (w.heap.size+1) (.slice ba l.length bc) (.slice ia st.length ic) sc d p n=v:=⟨_,rfl⟩;have hset:Chg (fun b=>b=w.heap.size+1) w3 V:=by rw [←hV];exact b2l _ _ _ _ _ _ _ _
  have HRV:=qh (show SOut (w.heap.size+1) (.slice ba l.length bc) (.slice ia st.length ic) sc d p n V from by rw [←hV];exact b1t HQ3.o.2 _ _ _ _ _ _);have HBV:=qh (Chg.a0x HB3.o hset HB3.o.size (fun b h=>by have h9:b=w.heap.size+1:=h;omega));have HROW:=qh ((hrows.a8h hset (fun b h=>by have h9:b=w.heap.size+1:=h;omega)).lo (lo':=w.heap.size) oZ);unfold wr6 at hV;clear hrows;go_wp2
  try rw [hV]
  clear hset hV;obtain⟨q0,q1,q2,q3,q4,q5,q6⟩:=HRV.o.1;refine bodyPost_ret (v:=.tuple #[a7w (.slice ba l.length bc) (.slice ia st.length ic) sc d p n,.string (S [110,111])]) (by simp [results,Tryz.results19,go_sem,q0,q1,q2,q3,q4,q5]) rfl ⟨_,_,w1.heap.size,by rw [HP.o]<;>rfl,by rw [HP.o];exact HROW.o,HBV.o⟩
 have HT:=qh (P.a3f (s:=(l,(st,sc))) (g:=(d,p,n)) h1)
 go_wp2_with fail
 refine (L.a2l line [] _ oZ sZ).mono ?_
 rintro e w4 ⟨rfl,hb⟩
 rw [P.a4z]
 have HB4:=bt HB3 hb;have HQ4:=qh (HQ3.o.below hb);have HS4:=qh (HS3.o.below hb)
 have hB4:=Nat.le_trans hB3 hb.size
 clear hb HB3 HQ3 HS3
 cases h2:P.good line []
 ·have HP:=qh (P.c1y (s:=(l,(st,sc))) (g:=(d,p,n)) (line:=line) h1 h2);obtain⟨_,_,bu,bus,hso,hrows⟩:=HS4.o;simp only at hso hrows;obtain⟨ba,bc,rfl,_,_⟩:=id hrows.dic;obtain⟨ia,ic,rfl,_,_⟩:=id hrows.str;obtain⟨⟨o0,o1,o2,o3,o4,o5,o6⟩,_⟩:=hso;obtain⟨⟨r0,r1,r2,r3,r4,r5,r6⟩,f0,f1,f2,f3,f4,f5⟩:=HQ4.o.2;obtain⟨V,hV⟩:∃v,wr6 w4 (w.heap.size+1) (.slice ba l.length bc) (.slice ia st.length ic) sc d p n=v:=⟨_,rfl⟩;have hset:Chg (fun b=>b=w.heap.size+1) w4 V:=by rw [←hV];exact b2l _ _ _ _ _ _ _ _
  have HRV:=qh (show SOut (w.heap.size+1) (.slice ba l.length bc) (.slice ia st.length ic) sc d p n V from by rw [←hV];exact b1t HQ4.o.2 _ _ _ _ _ _);have HBV:=qh (Chg.a0x HB4.o hset HB4.o.size (fun b h=>by have h9:b=w.heap.size+1:=h;omega));have HROW:=qh ((hrows.a8h hset (fun b h=>by have h9:b=w.heap.size+1:=h;omega)).lo (lo':=w.heap.size) oZ);unfold wr6 at hV;clear hrows;go_wp2
  try rw [hV]
  clear hset hV;obtain⟨q0,q1,q2,q3,q4,q5,q6⟩:=HRV.o.1;refine bodyPost_ret (v:=.tuple #[a7w (.slice ba l.length bc) (.slice ia st.length ic) sc d p n,.string (S [98,97,100])]) (by simp [results,Tryz.results19,go_sem,q0,q1,q2,q3,q4,q5]) rfl ⟨_,_,w1.heap.size,by rw [HP.o]<;>rfl,by rw [HP.o];exact HROW.o,HBV.o⟩
 by_cases h3:n=60
 ·have HP:=qh (P.c9l (s:=(l,(st,sc))) (g:=(d,p,n)) (line:=line) h1 h2 h3);have f9:(n==60)=true:=by rw [h3];rfl
  clear h3;obtain⟨⟨x0,x1,x2,x3,x4,x5,x6⟩,_⟩:=HQ4.o.1;obtain⟨_,_,bu,bus,hso,hrows⟩:=HS4.o;simp only at hso hrows;obtain⟨ba,bc,rfl,_,_⟩:=id hrows.dic;obtain⟨ia,ic,rfl,_,_⟩:=id hrows.str;obtain⟨⟨o0,o1,o2,o3,o4,o5,o6⟩,_⟩:=hso;obtain⟨⟨r0,r1,r2,r3,r4,r5,r6⟩,f0,f1,f2,f3,f4,f5⟩:=HQ4.o.2;obtain⟨V,hV⟩:∃v,wr6 w4 (w.heap.size+1) (.slice ba l.length bc) (.slice ia st.length ic) sc d p n=v:=⟨_,rfl⟩;have hset:Chg (fun b=>b=w.heap.size+1) w4 V:=by rw [←hV];exact b2l _ _ _ _ _ _ _ _
  have HRV:=qh (show SOut (w.heap.size+1) (.slice ba l.length bc) (.slice ia st.length ic) sc d p n V from by rw [←hV];exact b1t HQ4.o.2 _ _ _ _ _ _);have HBV:=qh (Chg.a0x HB4.o hset HB4.o.size (fun b h=>by have h9:b=w.heap.size+1:=h;omega));have HROW:=qh ((hrows.a8h hset (fun b h=>by have h9:b=w.heap.size+1:=h;omega)).lo (lo':=w.heap.size) oZ);unfold wr6 at hV;clear hrows;go_wp2
  try rw [hV]
  clear hset hV;obtain⟨q0,q1,q2,q3,q4,q5,q6⟩:=HRV.o.1;refine bodyPost_ret (v:=.tuple #[a7w (.slice ba l.length bc) (.slice ia st.length ic) sc d p n,.string (S [102,117,108,108])]) (by simp [results,Tryz.results19,go_sem,q0,q1,q2,q3,q4,q5]) rfl ⟨_,_,w1.heap.size,by rw [HP.o]<;>rfl,by rw [HP.o];exact HROW.o,HBV.o⟩
 have HP:=qh (P.c1v (s:=(l,(st,sc))) (g:=(d,p,n)) (line:=line) h1 h2 h3)
 have f9:(n==60)=false:=by rw [beq_eq_false_iff_ne];exact h3
 obtain⟨⟨x0,x1,x2,x3,x4,x5,x6⟩,_⟩:=HQ4.o.1
 have HCM:=qh (P.c5x (l,(st,sc)) line)
 have hcl:=P.a6q line [32]
 go_wp2_with fail
 refine (L.b2f line 32 _ oZ (HE.o.below HB4.o HE.o.size)).mono ?_
 rintro e w5 ⟨rfl,k1,rfl⟩
 obtain⟨x,y,q,hcut⟩:∃x y b,Lib.cut line [32]=(x,y,b):=⟨_,_,_,rfl⟩
 rw [hcut]at HCM hcl⊢
 simp only at HCM hcl⊢
 clear hcut
 have hbd:Below w4.heap.size w4 (w4.drewN k1):=below_drewN bZ _
 have HB5:=bt HB4 hbd;have HQ5:=qh (HQ4.o.below hbd);have HS5:=qh (HS4.o.below hbd)
 have hB5:=Nat.le_trans hB4 hbd.size
 clear hbd HB4 HQ4 HS4 x0 x1 x2 x3 x4 x5 x6
 generalize w4.drewN k1=w5 at *
 obtain⟨a,ha⟩:∃a,P.cmd (l,(st,sc)) line=a:=⟨_,rfl⟩
 rw [ha]at HP HCM
 clear ha
 go_upto_if 37 with fail
 go_cut [10,11] (fun rv kv wx=>∃(r:Str) (ok:Bool),rv=.string (S r)∧kv=.bool ok∧okB r ok=a.2∧SesM (w.heap.size+2) w1.heap.size a.1 (d,p,n) wx∧Chg (fun b=>b=w1.heap.size) w5 wx)
 case first=>
  cases q
  ·go_wp2_with fail
   refine (b9m (w.heap.size+2) w1.heap.size l st sc d p n x _ HS5.o hm HT.o.1 (HE.o.below HB5.o HE.o.size)).mono ?_;rintro e w6 ⟨r,ok,rfl,hx,hs,hc⟩;rw [←show a=P.alone (l,(st,sc)) x from HCM.o]at hx hs;exact zq67
  ·go_wp2_with fail
   refine (c3d (w.heap.size+2) w1.heap.size l st sc d p n x y _ HS5.o hm HT.o.1 oZ (HE.o.below HB5.o HE.o.size)).mono ?_;rintro e w6 ⟨r,ok,rfl,hx,hs,hc⟩;rw [←show a=P.args (l,(st,sc)) x y from HCM.o]at hx hs;exact zq67
 case rest=>
  obtain⟨r,ok,rfl,rfl,hx,hs,hc⟩:=hcut;generalize hww:wc=w6 at *;clear hww HCM;have HX:=qh hx;have HS6:=qh hs;have HQ6:=qh (show SQ w.heap.size (.slice ad l.length cap) (.slice sd st.length sap) sc d p n w6 from⟨HQ5.o.1.a0c hc (fun h=>by have h9:w.heap.size=w1.heap.size:=h;omega),HQ5.o.2.a0c hc (fun h=>by have h9:w.heap.size+1=w1.heap.size:=h;omega)⟩);have HB6:=qh (Chg.a0x HB5.o hc HB5.o.size (fun b h=>by have h9:b=w1.heap.size:=h;omega));have hB6:=Nat.le_trans hB5 hc.size;clear hx hs hc HB5 HQ5 HS5;have HRP:=qh (b9v a.2)
  go_upto_if 50 with fail
  go_cut [10] (fun rv wx=>rv=.string (S (txtB a.2))∧w6=wx)
  case first=>
   cases ok
   ·go_wp2;go_meet;exact⟨by rw [←HX.o];rfl,rfl⟩
   ·go_wp2;go_meet;exact⟨by rw [←HX.o];rfl,rfl⟩
  case rest=>
   obtain⟨rfl,rfl⟩:=hcut;generalize txtB a.2=t1 at *
   go_upto_if 53 with fail
   go_cut [10] (fun rv wx=>rv=.string (S (P.a3a a.2))∧w6=wx)
   case first=>
    by_cases ht1:200<t1.length
    ·have i5:(200:Int)<(t1.length:Int):=by omega
     have HR:=qh (HRP.o.trans (if_pos ht1));go_wp2;go_meet;exact⟨by rw [HR.o];rfl,rfl⟩
    ·have i5:¬(200:Int)<(t1.length:Int):=by omega
     have HR:=qh (HRP.o.trans (if_neg ht1));go_wp2;go_meet;exact⟨by rw [HR.o],rfl⟩
   case rest=>
    obtain⟨rfl,rfl⟩:=hcut;have hrl:=P.c1c a.2;generalize P.a3a a.2=rep at *;obtain⟨⟨x0,x1,x2,x3,x4,x5,x6⟩,_⟩:=HQ6.o.1
    go_wp2_with fail
    refine (L.b9z d p n line rep _ hf5 hf6 hl oZ (HE.o.below HB6.o HE.o.size)).mono ?_;rintro e w7 ⟨rfl,hb⟩;rw [P.app_eq];have HB7:=bt HB6 hb;have HQ7:=qh (HQ6.o.below hb);have HS7:=qh (HS6.o.below hb);have hB7:=Nat.le_trans hB6 hb.size;have HG:=qh (show P.b4p (d,p,n) line rep=(d,(P.appS d p n line rep).1,(P.appS d p n line rep).2.1) from rfl);rw [HG.o]at HP;generalize P.appS d p n line rep=g9 at *;obtain⟨p9,n9,c9⟩:=g9;simp only at HP⊢;clear hb HB6 HQ6 HS6 x0 x1 x2 x3 x4 x5 x6 HG;obtain⟨w8,hw8⟩:∃v,wr3 w7 w1.heap.size d p9 n9=v:=⟨_,rfl⟩;have hc8:Chg (fun b=>b=w1.heap.size) w7 w8:=by rw [←hw8];exact c0i _ _ _ _ _
    have HS8:=qh (show SesM (w.heap.size+2) w1.heap.size a.1 (d,p9,n9) w8 from by rw [←hw8];exact HS7.o.log);have HQ8:=qh (show SQ w.heap.size (.slice ad l.length cap) (.slice sd st.length sap) sc d p n w8 from⟨HQ7.o.1.a0c hc8 (fun h=>by have h9:w.heap.size=w1.heap.size:=h;omega),HQ7.o.2.a0c hc8 (fun h=>by have h9:w.heap.size+1=w1.heap.size:=h;omega)⟩);have HB8:=qh (Chg.a0x HB7.o hc8 HB7.o.size (fun b h=>by have h9:b=w1.heap.size:=h;omega));have hB8:=Nat.le_trans hB7 hc8.size;obtain⟨_,_,zu,zus,hzs,_⟩:=HS7.o;obtain⟨⟨o0,o1,o2,o3,o4,o5,o6⟩,g0,g1,g2,g3,g4,g5⟩:=hzs;unfold wr3 at hw8
    go_upto_region 18 with fail
    try rw [hw8]
    clear hw8 hc8 HB7 HQ7 HS7 o0 o1 o2 o3 o4 o5 o6 g0 g1 g2 g3 g4 g5;obtain⟨⟨D,T2,sc2⟩,ro⟩:=a;simp only at HP HS8 hrl;obtain⟨_,_,bu,bus,hso,hrows⟩:=HS8.o;simp only at hso hrows;obtain⟨ba,bc,rfl,_,_⟩:=id hrows.dic;obtain⟨ia,ic,rfl,_,_⟩:=id hrows.str;obtain⟨⟨o0,o1,o2,o3,o4,o5,o6⟩,_⟩:=hso;obtain⟨⟨r0,r1,r2,r3,r4,r5,r6⟩,f0,f1,f2,f3,f4,f5⟩:=HQ8.o.2;obtain⟨V,hV⟩:∃v,wr6 w8 (w.heap.size+1) (.slice ba D.length bc) (.slice ia T2.length ic) sc2 d p9 n9=v:=⟨_,rfl⟩;have hset:Chg (fun b=>b=w.heap.size+1) w8 V:=by rw [←hV];exact b2l _ _ _ _ _ _ _ _
    have HRV:=qh (show SOut (w.heap.size+1) (.slice ba D.length bc) (.slice ia T2.length ic) sc2 d p9 n9 V from by rw [←hV];exact b1t HQ8.o.2 _ _ _ _ _ _);have HBV:=qh (Chg.a0x HB8.o hset HB8.o.size (fun b h=>by have h9:b=w.heap.size+1:=h;omega));have HROW:=qh ((hrows.a8h hset (fun b h=>by have h9:b=w.heap.size+1:=h;omega)).lo (lo':=w.heap.size) oZ);unfold wr6 at hV;clear hrows;go_wp2
    try rw [hV]
    clear hset hV;obtain⟨q0,q1,q2,q3,q4,q5,q6⟩:=HRV.o.1;refine bodyPost_ret (v:=.tuple #[a7w (.slice ba D.length bc) (.slice ia T2.length ic) sc2 d p9 n9,.string (S rep)]) (by simp [results,Tryz.results19,go_sem,q0,q1,q2,q3,q4,q5]) rfl ⟨_,_,w1.heap.size,by rw [HP.o]<;>rfl,by rw [HP.o];exact HROW.o,HBV.o⟩
abbrev EIt:=(Value×P.Ent)×Blk
structure EOk (v:World) (F:Blk) (its:List EIt):Prop where
 ent:∀t∈its,Ints v t.2 t.1.1 t.1.2.1
 sub:∀t∈its,∀b,t.2 b→F b
 apart:its.Pairwise fun a b=>∀x,a.2 x→b.2 x→False
theorem EOk.keep {v v':World} {F:Blk} {its:List EIt} (h:EOk v F its) (hk:Kept F v v'):EOk v' F its:=
 ⟨fun t ht=>(h.ent t ht).keep a1a (hk.mono fun b hb=>h.sub t ht b hb),h.sub,h.apart⟩
theorem Ents.items {v:World} {F:Blk} {ad:Option Addr} {n cap:Nat} {l:P.Dic} (h:Ents v F (.slice ad n cap) l):∃its:List EIt,its.map (·.1.2)=l∧EOk v F its ∧
 ∀(j:Nat) (hj:j<its.length),∃g o,ad=some ⟨g,o,none⟩∧F g∧g<v.heap.size∧v.cell? ⟨g,o+j*2,none⟩=some (its[j]'hj).1.1∧v.cell? ⟨g,o+j*2+1,none⟩=some (.string (S (its[j]'hj).1.2.2)):=by
 obtain⟨ad',cap',he,h1,hn,h3⟩:=h
 injection he with e1 e2 e3
 subst e1
 rcases h3 with rfl|⟨g,o,G,C,rfl,hr⟩
 ·exact⟨[],rfl,⟨(fun _ h=>by cases h),(fun _ h=>by cases h),List.Pairwise.nil⟩,fun j hj=>absurd hj (Nat.not_lt_zero _)⟩
 ·have hx:∀j,∃x,∀hj:j<l.length,C j=[x,.string (S (l[j]'hj).2)]∧Ints v (G j) x (l[j]'hj).1:=by
   exact zq58
  obtain⟨f,hf⟩:=Classical.axiomOfChoice hx;refine⟨List.ofFn fun j:Fin l.length=>((f j,l[j]),G j),?_,⟨?_,?_,?_⟩,?_⟩
  ·refine List.ext_getElem sZ fun i h1 h2=>by simp
  ·intro t ht;obtain⟨j,rfl⟩:=List.mem_ofFn.1 ht;exact (hf j j.2).2
  ·intro t ht;obtain⟨j,rfl⟩:=List.mem_ofFn.1 ht;exact fun b hb=>(hr.sub j j.2 b hb).1
  ·exact zq68
  ·intro j hj;have hj':j<l.length:=by simpa using hj
   refine⟨g,o,rfl,hr.own,hr.lt _ hr.own,?_,?_⟩
   ·have h:=hr.cel j hj' 0 (by rw [(hf j hj').1];simp);simp only [(hf j hj').1,List.getElem_cons_zero,Nat.add_zero]at h;rw [List.getElem_ofFn];exact h.1
   ·have h:=hr.cel j hj' 1 (by rw [(hf j hj').1];simp);simp only [(hf j hj').1,List.getElem_cons_zero,List.getElem_cons_succ]at h;rw [List.getElem_ofFn];exact h.1
abbrev a5n (its:List EIt):List Value:=its.flatMap fun t=>[t.1.1,.string (S t.1.2.2)]
theorem a8w:∀its:List EIt,(a5n its).length=its.length*2
 |[]=>rfl
 |t::its=>by
  have h:=a8w its;simp only [a5n,List.flatMap_cons,List.length_append,List.length_cons,List.length_nil]at h⊢;omega
theorem a9z:∀(its:List EIt) (j:Nat) (h:j<its.length),(a5n its)[j*2]?=some (its[j]'h).1.1∧(a5n its)[j*2+1]?=some (.string (S (its[j]'h).1.2.2))
 |t::its,0,_=>⟨rfl,rfl⟩
 |t::its,j+1,h=>by
  have:=a9z its j (by simpa using h);have e:a5n (t::its)=t.1.1::.string (S t.1.2.2)::a5n its:=rfl;rw [e,show (j+1)*2=j*2+1+1 by omega]
  simpa using this
theorem b6h (a b:List EIt):a5n (a++b)=a5n a++a5n b:=by unfold a5n;rw [List.flatMap_append]
theorem b5k {B:Nat} {v:World} {F:Blk} {g c:Nat} {its:List EIt} (hown:v.ownsRow B 119 2 (.slice (some ⟨g,0,none⟩) its.length c) its.length (a5n its)) (ho:EOk v F its) (hF:∀b,F b→b<v.heap.size) (hg:¬F g) (hl:its.length≤2^30) :
 Ents v (fun b=>F b∨b=g) (.slice (some ⟨g,0,none⟩) its.length c) (its.map (·.1.2)):=by
 have hlt:=World.ownsRow.lt hown g rfl
 rcases id hown.2 with⟨hv,_⟩|⟨g',cap,cur,hv,_,_,hnc,_⟩
 ·cases hv
 ·injection hv with e1 e2 e3;subst e3;refine⟨_,c,by rw [List.length_map],by rw [List.length_map];exact hl,⟨(fun h=>by cases h),by rw [List.length_map];exact hnc⟩,.inr ⟨g,0,fun j=>match its[j]? with|some t=>t.2|none=>fun _=>False,fun j=>match its[j]? with|some t=>[t.1.1,.string (S t.1.2.2)]|none=>[],rfl,RowC.mk_at _ _ (.inr rfl) (fun b hb=>by rcases hb with hb|rfl;exact hF b hb;exact hlt.2) (fun j hj=>?_) (fun i j hij hj b h1 h2=>?_)⟩⟩
  ·have hj':j<its.length:=by simpa using hj
   have e:its[j]?=some (its[j]'hj'):=List.getElem?_eq_getElem hj';have hm:=List.getElem_mem hj';simp only [e];refine⟨?_,rfl,?_,fun b hb=>?_⟩
   ·obtain⟨a,b⟩:=a9z its j hj';intro i hi;have hi2:i<2:=by simpa using hi
    have c:=World.ownsRow.cellAt hown (j*2+i) oZ;refine⟨?_,World.ownsRow.frozenAt hown _⟩;rw [show 0+j*2+i=0+(j*2+i) by omega,Nat.zero_add]at *;rw [c]
    rcases (show i=0∨i=1 by omega) with rfl|rfl
    ·exact a
    ·exact b
   ·refine⟨(its[j]'hj').1.1,by simp,?_⟩;have:=ho.ent _ hm
    simpa using this
   ·exact⟨.inl (ho.sub _ hm b hb),fun e=>hg (e ▸ ho.sub _ hm b hb)⟩
  ·have hj':j<its.length:=by simpa using hj
   have ei:its[i]?=some (its[i]'(by omega)):=List.getElem?_eq_getElem oZ;have ej:its[j]?=some (its[j]'hj'):=List.getElem?_eq_getElem hj';simp only [ei]at h1;simp only [ej]at h2;exact (List.pairwise_iff_getElem.1 ho.apart) i j oZ hj' hij b h1 h2
theorem Ents.a7x {v:World} {F:Blk} {B:Nat} {u:Value} {l:P.Dic} {xs:List Value} (h:Ents v F u l) (hw:v.ownsRow B 119 2 u l.length xs) (hn:0<l.length) :
 ∃g cap its,u=.slice (some ⟨g,0,none⟩) l.length cap∧B≤g∧g<v.heap.size∧F g∧its.map (·.1.2)=l∧xs=a5n its∧EOk v (fun b=>F b∧b≠g) its:=by
 rcases id hw.2 with⟨_,h0⟩|⟨g,cap,cur,rfl,hg,hh,hnc,hcm,hcs,htk⟩
 ·omega
 ·obtain⟨ad',cap',he,h1,hnn,h3⟩:=h;injection he with e1 e2 e3
  rcases h3 with rfl|⟨g',o,G,C,h4,hr⟩
  ·exact absurd hn (Nat.lt_irrefl _)
  ·rw [h4]at e1;injection e1 with e1;injection e1 with e1 e5;subst e1 e5
   have hx:∀j,∃x,∀hj:j<l.length,C j=[x,.string (S (l[j]'hj).2)]∧Ints v (G j) x (l[j]'hj).1:=by
    exact zq58
   obtain⟨f,hf⟩:=Classical.axiomOfChoice hx;refine⟨g,cap,List.ofFn fun j:Fin l.length=>((f j,l[j]),G j),rfl,hg,hr.lt _ hr.own,hr.own,?_,?_,⟨?_,?_,?_⟩⟩
   ·refine List.ext_getElem sZ fun i h1 h2=>by simp
   ·apply List.ext_getElem?;intro i;have hcell:=World.ownsRow.cells hw (g:=g) rfl
    by_cases hi:i<l.length*2
    ·have hil:i<xs.length:=by rw [hw.1];exact hi
     have hc:=hcell i (xs[i]'hil) (List.getElem?_eq_getElem hil);rw [add0]at hc;rw [List.getElem?_eq_getElem hil];have hj:i / 2<l.length:=by omega
     have hj':i / 2<(List.ofFn fun j:Fin l.length=>(((f j,l[j]),G j):EIt)).length:=by simpa using hj
     obtain⟨a,b⟩:=a9z (List.ofFn fun j:Fin l.length=>(((f j,l[j]),G j):EIt)) (i / 2) hj';simp only [List.getElem_ofFn]at a b
     rcases Nat.mod_two_eq_zero_or_one i with hm|hm
     ·have h:=(hr.cel (i / 2) hj 0 (by rw [(hf _ hj).1];simp)).1;simp only [(hf _ hj).1,List.getElem_cons_zero]at h;rw [show 0+i / 2*2+0=i by omega,hc]at h;rw [show i / 2*2=i by omega]at a;rw [a,h]
     ·have h:=(hr.cel (i / 2) hj 1 (by rw [(hf _ hj).1];simp)).1;simp only [(hf _ hj).1,List.getElem_cons_zero,List.getElem_cons_succ]at h;rw [show 0+i / 2*2+1=i by omega,hc]at h;rw [show i / 2*2+1=i by omega]at b;rw [b,h];rfl
    ·rw [List.getElem?_eq_none (by rw [hw.1];omega),List.getElem?_eq_none (by rw [a8w];simp;omega)]
   ·intro t ht;obtain⟨j,rfl⟩:=List.mem_ofFn.1 ht;exact (hf j j.2).2
   ·intro t ht;obtain⟨j,rfl⟩:=List.mem_ofFn.1 ht;exact fun b hb=>hr.sub j j.2 b hb
   ·exact zq68
end Go.Proofs.YtggfdnopminemaaGreatDoor
