/- Walks: the law's. -/
import Derived.Test.YtggfdnopminemaaGreatDoorFDict2
set_option linter.all false
namespace Go.Proofs.YtggfdnopminemaaGreatDoor
open Go.Proofs.Tryz
open Go Go.RowKit
set_option maxHeartbeats 8000000
set_option maxRecDepth 100000
theorem c4z (u v:Value) (l:List Int) (t:Str) (w:World) (hu:IntR w u l) (hv:IntR w v l) :
 Cz 65 #[.agg #[u,.string (S t)],.agg #[v,.string (S t)]] w λe w'=>e=.returned (.bool true)/\Bl w w':=by
 have hb0:Bl w ((w.alloc (.cells #[u,.string (S t)] 35)).alloc (.cells #[v,.string (S t)] 35)):=
  ((Below.refl w.heap.size w).alloc lZ _).alloc sZ _
 have HU:=qh (hu.below hb0);have HV:=qh (hv.below hb0)
 have HB0:=qh hb0;clear hb0
 obtain⟨ad,cap,rfl,hla,_⟩:=hu
 obtain⟨bd,dap,rfl,_,_⟩:=hv
 go_enter func65,ntmps65
 go_wp2_with fail
 refine (vInts _ _ l l _ HU.o HV.o).mono ?_
 rintro e w1 ⟨rfl,hb⟩
 rw [show decide (l=l)=true from decide_eq_true rfl]
 have HB1:=qh (HB0.o.trans (hb.mono (by simp;omega)))
 clear hb
 go_wp2
 go_ret
 exact⟨rfl,HB1.o⟩
theorem c8o (u v us vs:Value) (l:P.Dic) (ks:List Int) (sc d p:Str) (n:Int) (w:World) (hu:EntR w u l) (hv:EntR w v l) (hus:IntR w us ks) (hvs:IntR w vs ks) :
 Cz 17 #[a1c u us sc d p n,a1c v vs sc d p n] w λe w'=>e=.returned (.bool true)/\Bl w w':=by
 have hb1:Bl w (w.alloc (a0f u us sc d p n)):=(Below.refl w.heap.size w).alloc lZ _
 have hb0:Bl w ((w.alloc (a0f u us sc d p n)).alloc (a0f v vs sc d p n)):=hb1.alloc sZ _
 have B1:=qh ((SBox.new u us sc d p n w).below (bZ.alloc lZ (a0f v vs sc d p n)))
 have B2:=qh (show SBox (w.heap.size+1) v vs sc d p n ((w.alloc (a0f u us sc d p n)).alloc (a0f v vs sc d p n)) by have:=SBox.new v vs sc d p n (w.alloc (a0f u us sc d p n));simpa using this)
 have HU:=qh (hu.below hb0);have HV:=qh (hv.below hb0);have HUS:=qh (hus.below hb0);have HVS:=qh (hvs.below hb0)
 have HB0:=qh hb0;clear hb0 hb1
 obtain⟨ad,cap,rfl,_,_⟩:=hu
 obtain⟨bd,dap,rfl,_,_⟩:=hv
 obtain⟨sd,sap,rfl,_,_⟩:=hus
 obtain⟨td,tap,rfl,_,_⟩:=hvs
 go_enter func17,ntmps17
 go_wp2_with fail
 refine (vDict _ _ l _ HU.o HV.o).mono ?_
 rintro e w1 ⟨rfl,hb⟩
 have B11:=qh (B1.o.below hb);have B21:=qh (B2.o.below hb)
 have HUS1:=qh (HUS.o.below hb);have HVS1:=qh (HVS.o.below hb)
 have HB1:=qh (HB0.o.trans (hb.mono (by simp;omega)))
 clear hb HU HV HB0 B1 B2 HUS HVS
 obtain⟨_,a1,a2,a3,a4,a5,a6⟩:=B11.o
 obtain⟨_,b1,b2,b3,b4,b5,b6⟩:=B21.o
 go_wp2_with fail
 refine (c4z _ _ ks sc _ HUS1.o HVS1.o).mono ?_
 rintro e w2 ⟨rfl,hb⟩
 have B12:=qh (B11.o.below hb);have B22:=qh (B21.o.below hb)
 have HB2:=bt HB1 hb
 clear hb HB1 B11 B21 HUS1 HVS1 a1 a2 a3 a4 a5 b1 b2 b3 b4 b5
 obtain⟨_,_,_,a3,a4,a5,_⟩:=B12.o
 obtain⟨_,_,_,b3,b4,b5,_⟩:=B22.o
 go_wp2
 go_ret
 exact⟨rfl,HB2.o⟩
theorem d0q (lo B:Nat) (l:P.Dic) (st:List Int) (sc d p:Str) (n:Int) (word more:Str) (w:World) (h:SesM lo B (l,(st,sc)) (d,p,n) w) (hm:Small l) (ht:P.trans l (st,sc)=true) (hl:more.length<=2^20) (hE:L.Env w) :
 Cz 70 #[.pointer (some ⟨B,0,none⟩),.string (S word),.string (S more)] w (a5m lo B (P.args (l,(st,sc)) word more) (d,p,n) w):=by
 have HSM:=qh h;have HE:=qh hE;have HT:=qh ht
 have HP0:Hq (P.args (l,(st,sc)) word more=if word=P.d4l then P.a5o (l,(st,sc)) more else if word=P.d1a\/word=P.b2v\/word=P.c5r then P.a5r (l,(st,sc)) word more else if word=P.c5t then P.a1h (l,(st,sc)) more else if word=P.b9x then ((l,(st,sc)),P.a4h l more) else if word=P.e3c then ((l,(st,sc)),P.a0t more) else if word=P.d5z then ((l,(st,sc)),P.b5d more) else ((l,(st,sc)),none)):=⟨rfl⟩
 have HDC:=qh (P.a9j ht)
 clear h hE ht
 by_cases h1:word=[112,114,101,115,115]
 .have HP0:=qh (HP0.o.trans (if_pos h1));have f1:=P.beqB h1;clear h1
  go_enter func70,ntmps70
  go_wp2_with fail
  refine (a7y more _ oZ).mono ?_;rintro e w1 ⟨rfl,hb⟩;have HB1:=qh hb;clear hb;have HPR:Hq (P.a5o (l,(st,sc)) more=if (P.parse more).2 then P.typed (l,(st,sc)) [((P.parse more).1:Int)] else ((l,(st,sc)),none)):=⟨rfl⟩;generalize P.parse more=q at *;obtain⟨k,q⟩:=q;simp only at HPR⊢
  cases q
  .have HP:=qh (HP0.o.trans (HPR.o.trans (if_neg dZ)));go_wp2;go_ret2;exact HSM.o.keep (x:=[]) HB1.o HP.o
  .have HP:=qh (HP0.o.trans (HPR.o.trans (if_pos rfl)));have hba:=(Below.refl w1.heap.size w1).alloc lZ (.cells #[.int .i64 (k:Int)] 3);have HB2:=bt HB1 hba;have HS2:=qh (HSM.o.below HB2.o);have HE2:=qh (HE.o.below HB2.o HE.o.size);have HO:=qh (c0q (k:Int) w1);clear hba
   go_wp2_with fail
   refine (b0t lo B _ l st [(k:Int)] sc d p n _ HS2.o hm HT.o HO.o HE2.o).mono ?_;rintro e w2 hmp;obtain⟨x,ok,rfl,hx,hs,hc⟩:=hmp.after HB2.o;have HX:=qh hx;have HS:=qh hs;have HC:=qh hc;clear hmp hx hs hc;exact zq25
 have HP1:=qh (HP0.o.trans (if_neg h1))
 have f1:=P.beqN h1
 clear HP0 h1
 by_cases ho_type:word=[116,121,112,101]
 .have HP:=qh (HP1.o.trans (if_pos (.inl ho_type)));have f_type:=P.beqB ho_type;clear ho_type;exact e3d
 by_cases ho_delete:word=[100,101,108,101,116,101]
 .have HP:=qh (HP1.o.trans (if_pos (.inr (.inl ho_delete))));have f_type:=P.beqN ho_type;have f_delete:=P.beqB ho_delete;clear ho_delete ho_type;exact e3d
 by_cases ho_lookup:word=[108,111,111,107,117,112]
 .have HP:=qh (HP1.o.trans (if_pos (.inr (.inr ho_lookup))));have f_type:=P.beqN ho_type;have f_delete:=P.beqN ho_delete;have f_lookup:=P.beqB ho_lookup;clear ho_lookup ho_type ho_delete;exact e3d
 have HP2:=qh (HP1.o.trans (if_neg (λh=>by rcases h with h|h|h;exact ho_type h;exact ho_delete h;exact ho_lookup h)))
 have f_type:=P.beqN ho_type;have f_delete:=P.beqN ho_delete;have f_lookup:=P.beqN ho_lookup
 clear HP1 ho_type ho_delete ho_lookup
 by_cases h3:word=[100,101,102,105,110,101]
 .have HP:=qh (HP2.o.trans (if_pos h3));have f3:=P.beqB h3;clear h3
  go_enter func70,ntmps70
  go_wp2_with fail
  refine (c1a lo B l st sc d p n more _ HSM.o hm HT.o hl HE.o).mono ?_;exact zq22
 have HP3:=qh (HP2.o.trans (if_neg h3))
 have f3:=P.beqN h3
 clear HP2 h3
 by_cases h4:word=[114,101,118,101,114,115,101]
 .have HP:=qh (HP3.o.trans (if_pos h4));have f4:=P.beqB h4;clear h4
  go_enter func70,ntmps70
  go_wp2_with fail
  refine (b9s lo B l st sc d p n more _ HSM.o hm HDC.o hl HE.o).mono ?_;exact zq22
 have HP4:=qh (HP3.o.trans (if_neg h4))
 have f4:=P.beqN h4
 clear HP3 h4
 by_cases h5:word=[106,111,105,110]
 .have HP:=qh (HP4.o.trans (if_pos h5));have f5:=P.beqB h5;have HJ:=qh (P.c9o more);have hcl:=P.a8i more [32];clear h5
  go_enter func70,ntmps70
  go_wp2_with fail
  refine (L.c0p more 32 _ oZ HE.o).mono ?_;rintro e w1 ⟨rfl,k1,rfl⟩;obtain⟨x,y,q,hcut⟩:∃x y b,Lib.cut more [32]=(x,y,b):=⟨_,_,_,rfl⟩;rw [hcut]at HJ hcl⊢;simp only at HJ hcl⊢;clear hcut;have HB1:Hq (Bl w (w.drewN k1)):=⟨below_drewN bZ _⟩;generalize w.drewN k1=w1 at *
  go_wp2_with fail
  refine (a8w x y _ oZ oZ).mono ?_;rintro e w2 ⟨rfl,hb⟩;have HB2:=bt HB1 hb;clear hb;go_wp2;go_ret2;exact⟨_,_,rfl,by rw [HP.o,<-HJ.o];rfl,by rw [HP.o];exact HSM.o.below HB2.o,Below.chg HB2.o _⟩
 have HP5:=qh (HP4.o.trans (if_neg h5))
 have f5:=P.beqN h5
 clear HP4 h5
 by_cases h6:word=[108,111,111,115,101]
 .have HP0:=qh (HP5.o.trans (if_pos h6));have f6:=P.beqB h6;clear h6
  go_enter func70,ntmps70
  go_wp2_with fail
  refine (a8f more _ oZ).mono ?_;rintro e w1 ⟨rfl,hb⟩;have HB1:=qh hb;clear hb;have HPL:Hq (P.b5d more=if (P.loose more).2 then some (P.fmt ((P.loose more).1:Int)) else none):=⟨rfl⟩;have HLS:=qh (P.a8u (t:=more));generalize P.loose more=q at *;obtain⟨k,q⟩:=q;simp only at HPL HLS⊢
  cases q
  .have HP:Hq (P.args (l,(st,sc)) word more=((l,(st,sc)),none)):=⟨by rw [HP0.o,HPL.o];rfl⟩;go_wp2;go_ret2;exact HSM.o.keep (x:=[]) HB1.o HP.o
  .have HST:=qh (HLS.o rfl)
   go_wp2_with fail
   refine (a3e k _ HST.o).mono ?_;rintro e w2 ⟨rfl,hb⟩;have HB2:=bt HB1 hb;clear hb;go_wp2;go_ret2;exact⟨_,_,rfl,by rw [HP0.o,HPL.o];rfl,by rw [HP0.o];exact HSM.o.below HB2.o,Below.chg HB2.o _⟩
 have HP:=qh (HP5.o.trans (if_neg h6))
 have f6:=P.beqN h6
 clear HP5 h6
 go_enter func70,ntmps70
 go_wp2
 go_ret2
 exact HSM.o.keep (x:=[]) bZ HP.o
theorem c3x (u us:Value) (l:P.Dic) (st:List Int) (sc d p:Str) (n:Int) (line:Str) (w:World) (hu:EntR w u l) (hus:IntR w us st) (hf:P.Fit (l,(st,sc)) (d,p,n)) (hl:line.length<=2^20) (hE:L.Env w) :
 Cz 19 #[a1c u us sc d p n,.string (S line)] w (d2m (P.exec (l,(st,sc)) (d,p,n) line) w):=by
 obtain⟨hf1,hf2,hf3,hf4,hf5,hf6⟩:=hf
 have hm:Small l:=⟨hf1,hf2,hf3⟩
 simp only at hf4 hf5 hf6
 clear hf1 hf2 hf3
 have hu0:=hu;have hus0:=hus
 obtain⟨ad,cap,rfl,_,_⟩:=hu0
 obtain⟨sd,sap,rfl,_,_⟩:=hus0
 obtain⟨W0,hW0⟩:∃v,(w.alloc (a0f (.slice ad l.length cap) (.slice sd st.length sap) sc d p n)).alloc (a0f (.slice none 0 0) (.slice none 0 0) [] [] [] 0)=v:=⟨_,rfl⟩
 have hb0:Bl w W0:=by rw [<-hW0];exact ((Below.refl w.heap.size w).alloc lZ _).alloc sZ _
 have hzW:W0.heap.size=w.heap.size+2:=by rw [<-hW0];simp
 have hq0:SQ w.heap.size (.slice ad l.length cap) (.slice sd st.length sap) sc d p n W0:=by
  exact zq94
 have HU:=qh hu;have HUS:=qh hus;have HE:=qh hE;have HQ:=qh hq0;have HB:=qh hb0;have hzW2:w.heap.size+2<=W0.heap.size:=by omega
 clear hq0 hb0 hu hus hE hzW;go_enter func19,ntmps19;go_upto_region 1 with fail;try rw [hW0]
 clear hW0;obtain⟨⟨o0,o1,o2,o3,o4,o5,o6⟩,_⟩:=HQ.o.1;go_wp2_with fail;refine (d0t _ _ l st sc d p n _ (HU.o.below HB.o) (HUS.o.below HB.o) hm oZ).mono ?_;rintro e w1 ⟨nu,nus,m,rfl,hD,hI,hm1,hm2,hb⟩;obtain⟨na,nc,rfl,-,-⟩:=id hD;obtain⟨ma,mc,rfl,-,-⟩:=id hI;obtain⟨w2,hw2⟩:∃v,w1.alloc (a0f (.slice na l.length nc) (.slice ma st.length mc) sc d p n)=v:=⟨_,rfl⟩;have hba:Bl w1 w2:=by rw [<-hw2];exact bZ.alloc lZ _
 have hz1:=hb.size;have hBz:w1.heap.size<w2.heap.size:=by rw [<-hw2];simp
 refine zm38 ?_;intro HB2 HQ2 HS2;clear hD hI hm1 hm2 hb hba HQ HB o0 o1 o2 o3 o4 o5 o6;go_upto_region 2 with fail;try rw [hw2]
 clear hw2;obtain⟨⟨o0,o1,o2,o3,o4,o5,o6⟩,_⟩:=HQ2.o.1;go_wp2_with fail;refine (a3k _ _ l st sc d p n _ (HU.o.below HB2.o) (HUS.o.below HB2.o) hm hf5 hf6 (HE.o.below HB2.o HE.o.size)).mono ?_;rintro e w3 ⟨rfl,hb⟩;have HB3:=bt HB2 hb;have HQ3:=qh (HQ2.o.below hb);have HS3:=qh (HS2.o.below hb);have hB3:=hb.size;clear hb HB2 HQ2 HS2 o0 o1 o2 o3 o4 o5 o6
 cases h1:P.sess l st sc d p n
 .have HP:=qh (P.b6t (s:=(l,(st,sc))) (g:=(d,p,n)) (line:=line) h1);obtain⟨_,_,bu,bus,hso,hrows⟩:=HS3.o;simp only at hso hrows;obtain⟨ba,bc,rfl,_,_⟩:=id hrows.dic;obtain⟨ia,ic,rfl,_,_⟩:=id hrows.str;obtain⟨⟨o0,o1,o2,o3,o4,o5,o6⟩,_⟩:=hso;obtain⟨⟨r0,r1,r2,r3,r4,r5,r6⟩,f0,f1,f2,f3,f4,f5⟩:=HQ3.o.2;obtain⟨V,hV⟩:∃v,wr6 w3 (w.heap.size+1) (.slice ba l.length bc) (.slice ia st.length ic) sc d p n=v:=⟨_,rfl⟩;have hset:Chg (λb=>b=w.heap.size+1) w3 V:=by rw [<-hV];exact a4q _ _ _ _ _ _ _ _
  refine zm34 ?_;intro HRV HBV HROW;unfold wr6 at hV;clear hrows;go_wp2;refine zn48 ?_;intro q0 q1 q2 q3 q4 q5 q6;clear hset hV;refine bodyPost_ret (v:=.tuple #[a1c (.slice ba l.length bc) (.slice ia st.length ic) sc d p n,.string (S [110,111])]) (by simp [results,results19,go_sem,q0,q1,q2,q3,q4,q5]) rfl ⟨_,_,w1.heap.size,by rw [HP.o]<;>rfl,by rw [HP.o];exact HROW.o,HBV.o⟩
 have HT:=qh (P.a2y (s:=(l,(st,sc))) (g:=(d,p,n)) h1)
 go_wp2_with fail
 refine (L.a3d line [] _ oZ sZ).mono ?_
 rintro e w4 ⟨rfl,hb⟩
 rw [P.a6n]
 have HB4:=bt HB3 hb;have HQ4:=qh (HQ3.o.below hb);have HS4:=qh (HS3.o.below hb)
 have hB4:=Nat.le_trans hB3 hb.size
 clear hb HB3 HQ3 HS3
 cases h2:P.good line []
 .have HP:=qh (P.b2o (s:=(l,(st,sc))) (g:=(d,p,n)) (line:=line) h1 h2);obtain⟨_,_,bu,bus,hso,hrows⟩:=HS4.o;simp only at hso hrows;obtain⟨ba,bc,rfl,_,_⟩:=id hrows.dic;obtain⟨ia,ic,rfl,_,_⟩:=id hrows.str;obtain⟨⟨o0,o1,o2,o3,o4,o5,o6⟩,_⟩:=hso;obtain⟨⟨r0,r1,r2,r3,r4,r5,r6⟩,f0,f1,f2,f3,f4,f5⟩:=HQ4.o.2;obtain⟨V,hV⟩:∃v,wr6 w4 (w.heap.size+1) (.slice ba l.length bc) (.slice ia st.length ic) sc d p n=v:=⟨_,rfl⟩;have hset:Chg (λb=>b=w.heap.size+1) w4 V:=by rw [<-hV];exact a4q _ _ _ _ _ _ _ _
  refine zm4 ?_;intro HRV HBV HROW;unfold wr6 at hV;clear hrows;go_wp2;refine zn48 ?_;intro q0 q1 q2 q3 q4 q5 q6;clear hset hV;refine bodyPost_ret (v:=.tuple #[a1c (.slice ba l.length bc) (.slice ia st.length ic) sc d p n,.string (S [98,97,100])]) (by simp [results,results19,go_sem,q0,q1,q2,q3,q4,q5]) rfl ⟨_,_,w1.heap.size,by rw [HP.o]<;>rfl,by rw [HP.o];exact HROW.o,HBV.o⟩
 by_cases h3:n=60
 .have HP:=qh (P.a8x (s:=(l,(st,sc))) (g:=(d,p,n)) (line:=line) h1 h2 h3);have f9:(n==60)=true:=by rw [h3];rfl
  clear h3;obtain⟨⟨x0,x1,x2,x3,x4,x5,x6⟩,_⟩:=HQ4.o.1;obtain⟨_,_,bu,bus,hso,hrows⟩:=HS4.o;simp only at hso hrows;obtain⟨ba,bc,rfl,_,_⟩:=id hrows.dic;obtain⟨ia,ic,rfl,_,_⟩:=id hrows.str;obtain⟨⟨o0,o1,o2,o3,o4,o5,o6⟩,_⟩:=hso;obtain⟨⟨r0,r1,r2,r3,r4,r5,r6⟩,f0,f1,f2,f3,f4,f5⟩:=HQ4.o.2;obtain⟨V,hV⟩:∃v,wr6 w4 (w.heap.size+1) (.slice ba l.length bc) (.slice ia st.length ic) sc d p n=v:=⟨_,rfl⟩;have hset:Chg (λb=>b=w.heap.size+1) w4 V:=by rw [<-hV];exact a4q _ _ _ _ _ _ _ _
  refine zm4 ?_;intro HRV HBV HROW;unfold wr6 at hV;clear hrows;go_wp2;refine zn48 ?_;intro q0 q1 q2 q3 q4 q5 q6;clear hset hV;refine bodyPost_ret (v:=.tuple #[a1c (.slice ba l.length bc) (.slice ia st.length ic) sc d p n,.string (S [102,117,108,108])]) (by simp [results,results19,go_sem,q0,q1,q2,q3,q4,q5]) rfl ⟨_,_,w1.heap.size,by rw [HP.o]<;>rfl,by rw [HP.o];exact HROW.o,HBV.o⟩
 have HP:=qh (P.b2f (s:=(l,(st,sc))) (g:=(d,p,n)) (line:=line) h1 h2 h3)
 have f9:(n==60)=false:=by rw [beq_eq_false_iff_ne];exact h3
 obtain⟨⟨x0,x1,x2,x3,x4,x5,x6⟩,_⟩:=HQ4.o.1
 have HCM:=qh (P.e1d (l,(st,sc)) line)
 have hcl:=P.a8i line [32]
 go_wp2_with fail
 refine (L.c0p line 32 _ oZ (HE.o.below HB4.o HE.o.size)).mono ?_
 rintro e w5 ⟨rfl,k1,rfl⟩
 obtain⟨x,y,q,hcut⟩:∃x y b,Lib.cut line [32]=(x,y,b):=⟨_,_,_,rfl⟩
 rw [hcut]at HCM hcl⊢
 simp only at HCM hcl⊢
 clear hcut
 have hbd:Bl w4 (w4.drewN k1):=below_drewN bZ _
 have HB5:=bt HB4 hbd;have HQ5:=qh (HQ4.o.below hbd);have HS5:=qh (HS4.o.below hbd)
 have hB5:=Nat.le_trans hB4 hbd.size
 clear hbd HB4 HQ4 HS4 x0 x1 x2 x3 x4 x5 x6
 generalize w4.drewN k1=w5 at *
 obtain⟨a,ha⟩:∃a,P.cmd (l,(st,sc)) line=a:=⟨_,rfl⟩
 rw [ha]at HP HCM
 clear ha
 go_upto_if 37 with fail
 go_cut [10,11] (λrv kv wx=>∃(r:Str) (ok:Bool),rv=.string (S r)/\kv=.bool ok/\okB r ok=a.2/\SesM (w.heap.size+2) w1.heap.size a.1 (d,p,n) wx/\Chg (λb=>b=w1.heap.size) w5 wx)
 case first=>
  cases q
  .go_wp2_with fail
   refine (c5q (w.heap.size+2) w1.heap.size l st sc d p n x _ HS5.o hm HT.o.1 (HE.o.below HB5.o HE.o.size)).mono ?_;rintro e w6 ⟨r,ok,rfl,hx,hs,hc⟩;rw [<-show a=P.alone (l,(st,sc)) x from HCM.o]at hx hs;exact zq150
  .go_wp2_with fail
   refine (d0q (w.heap.size+2) w1.heap.size l st sc d p n x y _ HS5.o hm HT.o.1 oZ (HE.o.below HB5.o HE.o.size)).mono ?_;rintro e w6 ⟨r,ok,rfl,hx,hs,hc⟩;rw [<-show a=P.args (l,(st,sc)) x y from HCM.o]at hx hs;exact zq150
 case rest=>
  obtain⟨r,ok,rfl,rfl,hx,hs,hc⟩:=hcut;generalize hww:wc=w6 at *;clear hww HCM;have HX:=qh hx;have HS6:=qh hs;have HQ6:=qh (show SQ w.heap.size (.slice ad l.length cap) (.slice sd st.length sap) sc d p n w6 from⟨HQ5.o.1.a0b hc (λh=>by have h9:w.heap.size=w1.heap.size:=h;omega),HQ5.o.2.a0b hc (λh=>by have h9:w.heap.size+1=w1.heap.size:=h;omega)⟩);have HB6:=qh (Chg.a0o HB5.o hc HB5.o.size (λb h=>by have h9:b=w1.heap.size:=h;omega));have hB6:=Nat.le_trans hB5 hc.size;clear hx hs hc HB5 HQ5 HS5;have HRP:=qh (b6u a.2)
  go_upto_if 50 with fail
  go_cut [10] (λrv wx=>rv=.string (S (txtB a.2))/\w6=wx)
  case first=>
   cases ok
   .go_wp2;go_meet;exact⟨by rw [<-HX.o];rfl,rfl⟩
   .go_wp2;go_meet;exact⟨by rw [<-HX.o];rfl,rfl⟩
  case rest=>
   obtain⟨rfl,rfl⟩:=hcut;generalize txtB a.2=t1 at *
   go_upto_if 53 with fail
   go_cut [10] (λrv wx=>rv=.string (S (P.a2p a.2))/\w6=wx)
   case first=>
    exact zq87
   case rest=>
    obtain⟨rfl,rfl⟩:=hcut;have hrl:=P.b0g a.2;generalize P.a2p a.2=rep at *;obtain⟨⟨x0,x1,x2,x3,x4,x5,x6⟩,_⟩:=HQ6.o.1;go_wp2_with fail;refine (L.c5w d p n line rep _ hf5 hf6 hl oZ (HE.o.below HB6.o HE.o.size)).mono ?_;rintro e w7 ⟨rfl,hb⟩;rw [P.app_eq];have HB7:=bt HB6 hb;have HQ7:=qh (HQ6.o.below hb);have HS7:=qh (HS6.o.below hb);have hB7:=Nat.le_trans hB6 hb.size;have HG:Hq (P.a9z (d,p,n) line rep=(d,(P.appS d p n line rep).1,(P.appS d p n line rep).2.1)):=⟨rfl⟩;rw [HG.o]at HP;generalize P.appS d p n line rep=g9 at *;obtain⟨p9,n9,c9⟩:=g9;simp only at HP⊢;clear hb HB6 HQ6 HS6 x0 x1 x2 x3 x4 x5 x6 HG;obtain⟨w8,hw8⟩:∃v,wr3 w7 w1.heap.size d p9 n9=v:=⟨_,rfl⟩;have hc8:Chg (λb=>b=w1.heap.size) w7 w8:=by rw [<-hw8];exact b3k _ _ _ _ _
    have HS8:Hq (SesM (w.heap.size+2) w1.heap.size a.1 (d,p9,n9) w8):=⟨by rw [<-hw8];exact HS7.o.log⟩;have HQ8:=qh (show SQ w.heap.size (.slice ad l.length cap) (.slice sd st.length sap) sc d p n w8 from⟨HQ7.o.1.a0b hc8 (λh=>by have h9:w.heap.size=w1.heap.size:=h;omega),HQ7.o.2.a0b hc8 (λh=>by have h9:w.heap.size+1=w1.heap.size:=h;omega)⟩);have HB8:=qh (Chg.a0o HB7.o hc8 HB7.o.size (λb h=>by have h9:b=w1.heap.size:=h;omega));have hB8:=Nat.le_trans hB7 hc8.size;obtain⟨_,_,zu,zus,hzs,_⟩:=HS7.o;obtain⟨⟨o0,o1,o2,o3,o4,o5,o6⟩,g0,g1,g2,g3,g4,g5⟩:=hzs;unfold wr3 at hw8;go_upto_region 18 with fail;try rw [hw8]
    clear hw8 hc8 HB7 HQ7 HS7 o0 o1 o2 o3 o4 o5 o6 g0 g1 g2 g3 g4 g5;obtain⟨⟨D,T2,sc2⟩,ro⟩:=a;simp only at HP HS8 hrl;obtain⟨_,_,bu,bus,hso,hrows⟩:=HS8.o;simp only at hso hrows;obtain⟨ba,bc,rfl,_,_⟩:=id hrows.dic;obtain⟨ia,ic,rfl,_,_⟩:=id hrows.str;obtain⟨⟨o0,o1,o2,o3,o4,o5,o6⟩,_⟩:=hso;obtain⟨⟨r0,r1,r2,r3,r4,r5,r6⟩,f0,f1,f2,f3,f4,f5⟩:=HQ8.o.2;obtain⟨V,hV⟩:∃v,wr6 w8 (w.heap.size+1) (.slice ba D.length bc) (.slice ia T2.length ic) sc2 d p9 n9=v:=⟨_,rfl⟩;have hset:Chg (λb=>b=w.heap.size+1) w8 V:=by rw [<-hV];exact a4q _ _ _ _ _ _ _ _
    have HRV:Hq (SOut (w.heap.size+1) (.slice ba D.length bc) (.slice ia T2.length ic) sc2 d p9 n9 V):=⟨by rw [<-hV];exact a6c HQ8.o.2 _ _ _ _ _ _⟩;have HBV:=qh (Chg.a0o HB8.o hset HB8.o.size (λb h=>by have h9:b=w.heap.size+1:=h;omega));have HROW:=qh ((hrows.a7s hset (λb h=>by have h9:b=w.heap.size+1:=h;omega)).lo (lo':=w.heap.size) oZ);unfold wr6 at hV;clear hrows;go_wp2;refine zn48 ?_;intro q0 q1 q2 q3 q4 q5 q6;clear hset hV;refine bodyPost_ret (v:=.tuple #[a1c (.slice ba D.length bc) (.slice ia T2.length ic) sc2 d p9 n9,.string (S rep)]) (by simp [results,results19,go_sem,q0,q1,q2,q3,q4,q5]) rfl ⟨_,_,w1.heap.size,by rw [HP.o]<;>rfl,by rw [HP.o];exact HROW.o,HBV.o⟩
def a6l (a b c:Nat) (u us m ms x xs:Value) (sc d p:Str) (n:Int) (sc2 d2 p2:Str) (n2:Int) (v:World):Prop:=SBox a u us sc d p n v/\SBox b m ms sc2 d2 p2 n2 v/\SBox c x xs sc2 d2 p2 n2 v
theorem a6l.below {a b c:Nat} {u us m ms x xs:Value} {sc d p:Str} {n:Int} {sc2 d2 p2:Str} {n2:Int} {v v':World} (h:a6l a b c u us m ms x xs sc d p n sc2 d2 p2 n2 v) (hb:Bl v v'):a6l a b c u us m ms x xs sc d p n sc2 d2 p2 n2 v':=
 ⟨h.1.below hb,h.2.1.below hb,h.2.2.below hb⟩
theorem d7o {R:List (Str×Str)} {x:Str×Str} {k:Nat} (hk:R.length=k) (h:k<(R++[x]).length):(R++[x])[k]=x:=by
 subst hk;simp
theorem c4m (v:Value) (wz:World) (hc:d3s wz v) (hE:L.Env wz) :
 Cz 8 #[v] wz λe w'=>e=.returned (.bool true)/\Bl wz w':=by
 obtain⟨ad0,n0,cap0,rfl,hn,hr⟩:=hc
 have HEZ:=qh hE
 clear hE
 go_enter func8,ntmps8
 go_wp2_with fail
 refine (vBig _ n0 ad0 cap0 rfl hn _).mono ?_
 rintro e w' ⟨rfl,rfl⟩
 cases hbig:decide (65536<n0)
 rotate_left
 .have hn2:=of_decide_eq_true hbig;go_wp2;go_ret;exact⟨rfl,Below.refl _ _⟩
 have HCD:=qh (show c8b wz (.slice ad0 n0 cap0) from⟨ad0,n0,cap0,rfl,by have:=of_decide_eq_false hbig;omega,hr⟩);clear hbig hr;go_wp2_with fail;refine (b1m _ _ HCD.o HEZ.o).mono ?_;rintro e w ⟨⟨l,st,sc⟩,⟨d,p,n⟩,u,us,tx,rfl,htx,hd,hf,hu,hus,hb⟩;simp only at hd hf hu hus;obtain⟨ad,cap,rfl,_,_⟩:=id hu;obtain⟨sd,sap,rfl,_,_⟩:=id hus;have HFIT:=qh hf;have HSM:=qh hd.small;have hd2:d.length<=2^20:=hf.2.2.2.2.1;have hp2:p.length<=2^20:=hf.2.2.2.2.2;obtain⟨W1,hW1⟩:∃v,w.alloc (a0f (.slice ad l.length cap) (.slice sd st.length sap) sc d p n)=v:=⟨_,rfl⟩;have hba:Bl w W1:=by rw [<-hW1];exact bZ.alloc lZ _
 have HX:Hq (SBox w.heap.size (.slice ad l.length cap) (.slice sd st.length sap) sc d p n W1):=⟨by rw [<-hW1];exact SBox.new _ _ _ _ _ _ _⟩;have HU:=qh (hu.below hba);have HUS:=qh (hus.below hba);have HE:=qh ((HEZ.o.below hb HEZ.o.size).below hba (HEZ.o.below hb HEZ.o.size).size);have HB:=qh (hb.trans (hba.mono hb.size));clear hf hd hu hus hb hba HCD HEZ;go_upto_region 4 with fail;try rw [hW1]
 clear hW1;obtain⟨c0,c1,c2,c3,c4,c5,_⟩:=HX.o;go_wp2_with fail;refine (c3x _ _ l st sc d p n tx _ HU.o HUS.o HFIT.o oZ HE.o).mono ?_;rintro e w2 ⟨mu,mus,BB,rfl,hr,hb⟩;obtain⟨⟨⟨⟨l2,st2,sc2⟩,d2,p2,n2⟩,rep⟩,hq⟩:∃q,P.exec (l,(st,sc)) (d,p,n) tx=q:=⟨_,rfl⟩;have HQ:=qh hq;have HF2:=qh (show P.Fit (l2,(st2,sc2)) (d2,p2,n2) by have h:=P.d8m (line:=tx) HFIT.o;rw [hq]at h;exact h);rw [hq]at hr⊢;simp only at hr⊢;clear hq;have hm1:=hr.dic;have hm2:=hr.str;obtain⟨ma,mc,rfl,_,_⟩:=id hm1;obtain⟨na,nc,rfl,_,_⟩:=id hm2;obtain⟨W2,hW2⟩:∃v,w2.alloc (a0f (.slice ma l2.length mc) (.slice na st2.length nc) sc2 d2 p2 n2)=v:=⟨_,rfl⟩;have hba:Bl w2 W2:=by rw [<-hW2];exact bZ.alloc lZ _
 have hbb:=hb.trans (hba.mono hb.size);have HM:Hq (SBox w2.heap.size (.slice ma l2.length mc) (.slice na st2.length nc) sc2 d2 p2 n2 W2):=⟨by rw [<-hW2];exact SBox.new _ _ _ _ _ _ _⟩;have HMU:=qh (hm1.below hba);have HMS:=qh (hm2.below hba);have HX2:=qh (HX.o.below hbb);have HU2:=qh (HU.o.below hbb);have HUS2:=qh (HUS.o.below hbb);have HE2:=qh (HE.o.below hbb HE.o.size);have HB2:=bt HB hbb;clear hr hb hba hbb hm1 hm2 HX HU HUS HE HB c0 c1 c2 c3 c4 c5;go_upto_region 5 with fail;try rw [hW2]
 clear hW2;obtain⟨c0,c1,c2,c3,c4,c5,_⟩:=HX2.o;go_wp2_with fail;refine (b4b _ _ l st sc d p n tx _ HU2.o HUS2.o HFIT.o oZ HE2.o).mono ?_;rintro e w3 ⟨xu,xus,BC,rfl,hr,hb⟩;rw [HQ.o]at hr⊢;simp only at hr⊢;have hm1:=hr.dic;have hm2:=hr.str;obtain⟨xa,xc,rfl,_,_⟩:=id hm1;obtain⟨ya,yc,rfl,_,_⟩:=id hm2;obtain⟨W3,hW3⟩:∃v,w3.alloc (a0f (.slice xa l2.length xc) (.slice ya st2.length yc) sc2 d2 p2 n2)=v:=⟨_,rfl⟩;have hba:Bl w3 W3:=by rw [<-hW3];exact bZ.alloc lZ _
 have hbb:=hb.trans (hba.mono hb.size);have HW:Hq (SBox w3.heap.size (.slice xa l2.length xc) (.slice ya st2.length yc) sc2 d2 p2 n2 W3):=⟨by rw [<-hW3];exact SBox.new _ _ _ _ _ _ _⟩;have HWU:=qh (hm1.below hba);have HWS:=qh (hm2.below hba);have HX3:=qh (HX2.o.below hbb);have HU3:=qh (HU2.o.below hbb);have HUS3:=qh (HUS2.o.below hbb);have HE3:=qh (HE2.o.below hbb HE2.o.size);have HB3:=bt HB2 hbb;have HM3:=qh (HM.o.below hbb);have HMU3:=qh (HMU.o.below hbb);have HMS3:=qh (HMS.o.below hbb);clear hr hb hba hbb hm1 hm2 HX2 HU2 HUS2 HE2 HB2 HM HMU HMS c0 c1 c2 c3 c4 c5;have hdd:Bl W3 W3.drew:=bZ.drew;have HS:Hq (a6l w.heap.size w2.heap.size w3.heap.size (.slice ad l.length cap) (.slice sd st.length sap) (.slice ma l2.length mc) (.slice na st2.length nc) (.slice xa l2.length xc) (.slice ya st2.length yc) sc d p n sc2 d2 p2 n2 W3.drew):=⟨a6l.below ⟨HX3.o,HM3.o,HW.o⟩ hdd⟩;have HU4:=qh (HU3.o.below hdd);have HUS4:=qh (HUS3.o.below hdd);have HE4:=qh (HE3.o.below hdd HE3.o.size);have HB4:=bt HB3 hdd;have HMU4:=qh (HMU3.o.below hdd);have HMS4:=qh (HMS3.o.below hdd);have HWU4:=qh (HWU.o.below hdd);have HWS4:=qh (HWS.o.below hdd);clear hdd HX3 HU3 HUS3 HE3 HB3 HM3 HMU3 HMS3 HW HWU HWS;go_upto_region 6 with fail;try rw [hW3]
 clear hW3;refine wp_region_held_drew (S:=a6l w.heap.size w2.heap.size w3.heap.size (.slice ad l.length cap) (.slice sd st.length sap) (.slice ma l2.length mc) (.slice na st2.length nc) (.slice xa l2.length xc) (.slice ya st2.length yc) sc d p n sc2 d2 p2 n2) kZ HS.o (λhS0=>?_);generalize W3.drew=y0 at *;refine tk12 0 hS0 ?_;refine tk12 1 hS0 ?_;refine tk12 2 hS0 ?_;refine tk12 3 hS0 ?_;refine tk12 4 hS0 ?_;refine tk12 5 hS0 ?_;refine trd 6 λK hK=>?_;go_simp;refine (c8o _ _ _ _ l2 st2 sc2 d2 p2 n2 _ HMU4.o HWU4.o HMS4.o HWS4.o).mono ?_;rintro e y1 ⟨rfl,hb⟩;refine zm60 ?_;intro hS1;clear hK K hS0 HWU4 HWS4 HS;have HU5:=qh (HU4.o.below hb);have HUS5:=qh (HUS4.o.below hb);have HE5:=qh (HE4.o.below hb HE4.o.size);have HB5:=bt HB4 hb;have HMU5:=qh (HMU4.o.below hb);have HMS5:=qh (HMS4.o.below hb);clear hb HU4 HUS4 HE4 HB4 HMU4 HMS4;refine zm0 ?_;refine tk12 7 hS1 ?_;refine tk12 8 hS1 ?_;refine tk12 9 hS1 ?_;refine tk12 10 hS1 ?_;refine tk12 12 hS1 ?_;refine trd 11 λK hK=>?_;go_simp;refine (a3k _ _ l st sc d p n _ HU5.o HUS5.o HSM.o hd2 hp2 HE5.o).mono ?_;rintro e y2 ⟨rfl,hb⟩;refine hK.out _ _ (hS1.below hb) (λhS2=>?_);clear hK K hS1;have HU6:=qh (HU5.o.below hb);have HUS6:=qh (HUS5.o.below hb);have HE6:=qh (HE5.o.below hb HE5.o.size);have HB6:=bt HB5 hb;have HMU6:=qh (HMU5.o.below hb);have HMS6:=qh (HMS5.o.below hb);clear hb HU5 HUS5 HE5 HB5 HMU5 HMS5;refine zm0 ?_;refine trd 13 λK hK=>?_;go_simp;refine (b0h _ _ l st sc d p n _ HU6.o HUS6.o HSM.o hd2 hp2).mono ?_;rintro e y3 ⟨rfl,hb⟩;refine hK.out _ _ (hS2.below hb) (λhS3=>?_);clear hK K hS2;have HU7:=qh (HU6.o.below hb);have HUS7:=qh (HUS6.o.below hb);have HE7:=qh (HE6.o.below hb HE6.o.size);have HB7:=bt HB6 hb;have HMU7:=qh (HMU6.o.below hb);have HMS7:=qh (HMS6.o.below hb);clear hb HU6 HUS6 HE6 HB6 HMU6 HMS6;refine zm0 ?_;refine tk12 14 hS3 ?_;refine tk12 15 hS3 ?_;refine wpAnyH_done kZ ?_ _;have HS3:=qh hS3;clear hS3;obtain⟨⟨c0,c1,c2,c3,c4,c5,_⟩,⟨m0,m1,m2,m3,m4,m5,_⟩,_⟩:=HS3.o;rcases P.d3p _ _ _ HQ.o with⟨e1,e2⟩|⟨e1,e2,e3,e4,e5⟩
 .injection e1 with e3 e4;injection e3 with e5 e6;injection e6 with e7 e8;injection e4 with e9 e10;injection e10 with e11 e12;subst e5 e7 e8 e9 e11 e12
  go_wp2_with fail
  refine (c8o _ _ _ _ l2 st2 sc2 d2 p2 n2 _ HMU7.o HU7.o HMS7.o HUS7.o).mono ?_;rintro e w5 ⟨rfl,hb⟩;have HB8:=bt HB7 hb;clear hb
  rcases e2 with rfl|rfl|rfl
  .go_wp2;go_ret;exact⟨rfl,HB8.o⟩
  .go_wp2;go_ret;exact⟨rfl,HB8.o⟩
  .go_wp2;go_ret;exact⟨rfl,HB8.o⟩
 .have hdl:d2.length<=2^20:=HF2.o.2.2.2.2.1;have hpl:p2.length<=2^20:=HF2.o.2.2.2.2.2
  have hne:(d2==d&&(p2==p&&n2==n))=false:=by
   cases hh:(d2==d&&(p2==p&&n2==n)) with
   |false=>rfl
   |true=>
    simp only [Bool.and_eq_true,beq_iff_eq]at hh;exact absurd (by rw [hh.1,hh.2.1,hh.2.2]) e1
  have HOK:=qh e2;have HRI:=qh (P.d8s e2);have HR3:=qh e3;have HR4:=qh e4;have hr60:=e5;clear e1 e2 e3 e4
  go_upto_region 8 with fail
  go_cut [50] (λc wx=>c=.bool false/\y3=wx)
  case first=>
   go_wp2_with fail
   all_goals first|(go_meet;exact⟨rfl,rfl⟩)|(exfalso;simp_all)
  case rest=>
   obtain⟨rfl,rfl⟩:=hcut;clear hne
   go_wp2_with fail
   refine (L.c2v d2 p2 n2 _ hdl hpl HE7.o).mono ?_;rintro e w5 ⟨rv,rfl,how,hb⟩;have hri:=HRI.o;rw [hri.2,HR3.o]at how;rw [hri.1];obtain⟨R,hR⟩:∃R,P.recs (d,p,n)=R:=⟨_,rfl⟩;have hr4:=HR4.o;rw [hR]at how hr4 hr60;obtain⟨rg,hrow,_⟩:=L.e1m how (by simp;omega);obtain⟨ra,rc,rfl,_,hr⟩:=hrow;obtain⟨rfl,hgz,hat⟩:=hr.resolve_left sZ;have hc1:=hat R.length sZ;rw [d7o rfl]at hc1;simp only at hc1;obtain⟨q0,q1,_,_⟩:=hc1;rw [List.length_append]at *;simp only [List.length_cons,List.length_nil,Nat.zero_add];generalize R.length=k at *;have HS5:=qh (HS3.o.below hb);have HB8:=bt HB7 hb;have HE8:=qh (HE7.o.below hb HE7.o.size);have HMU8:=qh (HMU7.o.below hb);have HMS8:=qh (HMS7.o.below hb);have HRZ:=qh (show rg<w5.heap.size/\w5.cell? ⟨rg,k*2,none⟩=some (.string (S tx))/\w5.cell? ⟨rg,k*2+1,none⟩=some (.string (S rep)) from⟨hgz,q0,q1⟩);clear how hr hat hb q0 q1 hgz hri hR HR3 HR4 HRI c0 c1 c2 c3 c4 c5 m0 m1 m2 m3 m4 m5 HS3 HB7 HE7 HMU7 HMS7 HU7 HUS7;subst hr4;have hw1:IntKind.i64.wrap ((k:Int)+1)=(k:Int)+1:=IntWalk.i64_in _ oZ;have hw2:IntKind.i64.wrap (((k+1:Nat):Int)-1)=(k:Int):=by rw [show ((k+1:Nat):Int)-1=(k:Int) by omega];exact IntWalk.i64_in _ oZ
   obtain⟨⟨c0,c1,c2,c3,c4,c5,_⟩,⟨m0,m1,m2,m3,m4,m5,_⟩,_⟩:=HS5.o
   go_wp2_with fail
   refine (a3k _ _ l2 st2 sc2 d2 p2 n2 _ HMU8.o HMS8.o ⟨HF2.o.1,HF2.o.2.1,HF2.o.2.2.1⟩ hdl hpl HE8.o).mono ?_;rintro e w6 ⟨rfl,hb⟩;have hok:P.sess l2 st2 sc2 d2 p2 n2=true:=HOK.o;rw [hok];obtain⟨⟨d0,d1,d3,d4,d5,d6,_⟩,_⟩:=HS5.o.below hb;have HB9:=bt HB8 hb;obtain⟨hgz,q0,q1⟩:rg<w6.heap.size/\w6.cell? ⟨rg,k*2,none⟩=some (.string (S tx))/\w6.cell? ⟨rg,k*2+1,none⟩=some (.string (S rep)):=⟨Nat.lt_of_lt_of_le HRZ.o.1 hb.size,(hb.cell (p:=⟨rg,_,none⟩) HRZ.o.1).trans HRZ.o.2.1,(hb.cell (p:=⟨rg,_,none⟩) HRZ.o.1).trans HRZ.o.2.2⟩;clear hb c0 c1 c2 c3 c4 c5 m0 m1 m2 m3 m4 m5;go_wp2;go_ret;exact⟨rfl,HB9.o⟩
open Go.ChangeShapes Go.WideShapes Go.ChangeAt Go.Deep
theorem b4a {P:Program} {W:World} {name:String} {k:IntKind} {zs:List Int} {g:Nat} {t e:TypeId} {n:Nat}
 (hg:P.globalNamed name=some g) (hty:(P.globals[g]?).map (·.type)=some t) (ht:P.underlying t=some (.array n e)) (he:P.underlying e=some (.int k)) (hce:P.cellsOf e=1) (hct:P.cellsOf t=n) :
 ∀(laid:List (String×DataW Unit)) (ps:List MemPlace),(name,Lib.tabData k zs)∈laid->DataW.LaidVars P W laid ps->Lib.TabIs P W name k zs
 |[],_,h,_=>by cases h
 |(m,d)::r,ps,h,hl=>by
  obtain⟨g',t',cs,fuel,p,q,hg',ht',hvar,hd,hrest,_⟩:=hl
  rcases List.mem_cons.1 h with h|h
  .injection h with h1 h2;subst h1 h2;obtain rfl:=Option.some.inj (hg.symm.trans hg');obtain rfl:=Option.some.inj (hty.symm.trans ht');unfold Lib.TabIs;rw [hvar,<-Lib.cells_of_tab ht he hce hct hd]
  .exact b4a hg hty ht he hce hct r _ h hrest
theorem e2s {W:World} (hsh:W.ShapedOpen Tryz.prog) (h:laidMetH Tryz.prog [("math/bits.deBruijn32tab",Rows.laid_math_bits_deBruijn32tab),("math/bits.deBruijn64tab",Rows.laid_math_bits_deBruijn64tab),("internal/strconv.uint64pow10",Rows.laid_internal_strconv_uint64pow10),("unicode/utf8.acceptRanges",Rows.laid_unicode_utf8_acceptRanges),("unicode/utf8.first",Rows.laid_unicode_utf8_first)] W):L.Env W:=by
 have hm:laidMet Tryz.prog [("math/bits.deBruijn32tab",Rows.laid_math_bits_deBruijn32tab),("math/bits.deBruijn64tab",Rows.laid_math_bits_deBruijn64tab),("internal/strconv.uint64pow10",Rows.laid_internal_strconv_uint64pow10),("unicode/utf8.acceptRanges",Rows.laid_unicode_utf8_acceptRanges),("unicode/utf8.first",Rows.laid_unicode_utf8_first)] W:=h;obtain⟨ps,hv,_⟩:=hm
 have htab:Lib.TabIs Tryz.prog W "internal/strconv.uint64pow10" .u64 Lib.pow10Tab:=
  b4a (t:=302) (e:=89) (n:=20) L.c5u kZ underlying302 underlying89 kZ kZ _ _ (List.mem_cons_of_mem _ (List.mem_cons_of_mem _ (List.mem_cons_self ..))) hv
 obtain⟨_,m,hc⟩:=env_of hsh trivial;have h1:0<W.heap.size:=World.block_lt_of_cell? W _ hc;have h2:5<W.heap.size:=World.block_lt_of_cell? W _ (htab.cell L.c5u 0 dZ);exact⟨by unfold L.EB;omega,⟨m,hc⟩,htab⟩
def tab32Q:List Int:=[0,1,28,2,29,14,24,3,30,22,20,15,25,17,4,8,31,27,13,23,21,19,16,7,26,12,18,6,11,5,10,9]
def tab64Q:List Int:=[0,1,56,2,57,49,28,3,61,58,42,50,38,29,17,4,62,47,59,36,45,43,51,22,53,39,33,30,24,18,12,5,63,55,48,27,60,41,37,16,46,35,44,21,52,32,23,11,54,26,40,15,34,20,31,10,25,14,19,9,13,8,7,6]
noncomputable def laidWorldQ (os:Os):World:=
 { laidWorld os with heap:=c3q 5 .u64 Lib.pow10Tab (c3q 7 .u8 tab64Q (c3q 6 .u8 tab32Q (laidWorld os).heap)) }
end Go.Proofs.YtggfdnopminemaaGreatDoor
