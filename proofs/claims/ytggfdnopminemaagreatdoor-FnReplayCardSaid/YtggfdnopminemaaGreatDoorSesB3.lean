/- Walks: a command by. -/
import Derived.Test.YtggfdnopminemaaGreatDoorSesR3
set_option linter.all false
namespace Go.Proofs.YtggfdnopminemaaGreatDoor
open Go.Proofs.Tryz
open Go Go.RowKit
set_option maxHeartbeats 8000000
set_option maxRecDepth 100000
namespace P
theorem two_of {l:List Bs} (h:l.length=2):∃a b,l=[a,b]:=by
 match l,h with
 |[a,b],_=>exact⟨a,b,rfl⟩
theorem d1f {more a b:Bs} (h:split 32 more=[a,b]):a0u more=optB (a2f a b):=by unfold a0u;rw [h]
theorem d5q {more:Bs} (h:(split 32 more).length≠2):a0u more=none:=by
 unfold a0u
 split
 .rename_i hs;rw [hs]at h;exact absurd rfl h
 .rfl
end P
theorem l25Run (u us:Value) (l:P.Dic) (st:List Int) (sc d p:Str) (n:Int) (line:Str) (w:World) (hu:EntR w u l) (hus:IntR w us st) (hm:Small l) (ht:P.trans l (st,sc)=true) (hl:line.length<=2^20) :
 Cz 95 #[a1a u us sc d p n,.string (S line)] w (b3q u us (l,(st,sc)) (P.cmd (l,(st,sc)) line) (d,p,n) w):=by
 have hu0:=hu;have hus0:=hus
 obtain⟨ad,cap,rfl,_,_⟩:=hu0
 obtain⟨sd,sap,rfl,_,_⟩:=hus0
 obtain⟨W0,hW0⟩:∃v,(w.alloc (a0d (.slice ad l.length cap) (.slice sd st.length sap) sc d p n)).alloc (a0d (.slice none 0 0) (.slice none 0 0) [] [] [] 0)=v:=⟨_,rfl⟩
 have hb0:Bl w W0:=by rw [<-hW0];exact ((Below.refl w.heap.size w).alloc lZ _).alloc sZ _
 have hz0:W0.heap.size=w.heap.size+2:=by rw [<-hW0];simp
 have hsx:SOut w.heap.size (.slice ad l.length cap) (.slice sd st.length sap) sc d p n W0:=by
  exact zq25
 have hsr:SOut (w.heap.size+1) (.slice none 0 0) (.slice none 0 0) [] [] [] 0 W0:=by
  exact zq20
 refine zm73 ?_;intro HU HUS HX HR HB;have HT:=qh ht;have hs60:=(P.a1m ht).1;try simp only at hs60
 clear hsx hsr hb0 ht hu hus;have HNE:=qh (List.length_pos_iff.2 (P.a2y 32 line));have HG:=qh (P.c9t (c:=32) (s:=line));have hhl:=P.b2a 32 line;have HCM:Hq (P.cmd (l,(st,sc)) line=if (P.head 32 line).length=line.length then P.alone (l,(st,sc)) (P.head 32 line) else P.args (l,(st,sc)) (P.head 32 line) (line.drop ((P.head 32 line).length+1))):=⟨rfl⟩;go_enter func95,ntmps95;go_upto_region 1 with fail;try rw [hW0]
 clear hW0;go_wp2_with fail;refine (a4y line 32 _ oZ).mono ?_;rintro e w1 ⟨v,rfl,hst0,hb⟩;obtain⟨g,gc,rfl,hg,hst⟩:=a6r hst0 (List.length_pos_iff.1 HNE.o);have c0:=hst.2 0 HNE.o;rw [HG.o HNE.o]at c0;refine zm85 ?_;intro HX1 HR1 HB1;have hz1:w.heap.size+2<=w1.heap.size:=by have:=hb.size;omega
 have i1:(0:Int)<((P.split 32 line).length:Int):=by have:=HNE.o;omega
 clear hst0 hst hb HX HR HB HG HNE;generalize (P.split 32 line).length=sl at *;generalize P.head 32 line=word at *;by_cases hw:word.length=line.length
 .have HP:=qh (HCM.o.trans (if_pos hw));have i2:((word.length:Int)==(line.length:Int))=true:=by rw [hw];simp
  clear HCM;obtain⟨⟨o0,o1,o2,o3,o4,o5,o6⟩,_⟩:=HX1.o;go_wp2_with fail;refine (d8o _ _ l st sc d p n word _ (HU.o.below HB1.o) (HUS.o.below HB1.o) hm HT.o).mono ?_;rintro e x2 ⟨nu,nus,rfl,hfe,hfi,hb⟩;refine zm44 ?_;intro HEN HIN;obtain⟨⟨⟨l2,⟨st2,sc2⟩⟩,rep⟩,ha⟩:∃a,P.alone (l,(st,sc)) word=a:=⟨_,rfl⟩;exact zq184
 have i2:((word.length:Int)==(line.length:Int))=false:=by rw [beq_eq_false_iff_ne];omega
 obtain⟨more,hmore⟩:∃m,line.drop (word.length+1)=m:=⟨_,rfl⟩
 have hml:more.length<=2^20:=by rw [<-hmore,List.length_drop];omega
 have HP0:Hq (P.cmd (l,(st,sc)) line=if word=P.d4z then P.a5w (l,(st,sc)) more else if word=P.d1x\/word=P.b4e\/word=P.c6d then P.a6b (l,(st,sc)) word more else if word=P.c7q then P.a1h (l,(st,sc)) more else if word=P.c1g then ((l,(st,sc)),P.a4r l more) else if word=P.e3r then ((l,(st,sc)),P.a0u more) else if word=P.d7z then ((l,(st,sc)),P.b6s more) else ((l,(st,sc)),none)):=⟨by rw [HCM.o,if_neg hw,hmore];rfl⟩
 have i8:IntKind.i64.wrap ((word.length:Int)+1)=(word.length:Int)+1:=by rw [IntKind.wrap_i64];omega
 have i9:¬(line.length:Int)<(word.length:Int)+1:=by omega
 have i11:¬(word.length:Int)+1<0:=by omega
 have i10:((word.length:Int)+1).toNat=word.length+1:=by omega
 clear HCM hw
 by_cases h1:word=[112,114,101,115,115]
 .have HP0:=qh (HP0.o.trans (if_pos h1));have f1:=P.beqB h1;clear h1;go_wp2_with fail;refine (a8q more _ oZ).mono ?_;rintro e w2 ⟨rfl,hb⟩;refine zm79 ?_;intro HX2 HR2 HB2;have hz2:w.heap.size+2<=w2.heap.size:=Nat.le_trans hz1 hb.size;clear hb c0;have HPR:Hq (P.a5w (l,(st,sc)) more=if (P.parse more).2 then P.typed (l,(st,sc)) [((P.parse more).1:Int)] else ((l,(st,sc)),none)):=⟨rfl⟩;generalize P.parse more=q at *;obtain⟨k,q⟩:=q;simp only at HPR⊢
  cases q
  .have HP:=qh (HP0.o.trans (HPR.o.trans (if_neg dZ)));exact zq2
  .have HP:=qh (HP0.o.trans (HPR.o.trans (if_pos rfl)));have hba:=(Below.refl w2.heap.size w2).alloc lZ (.cells #[.int .i64 (k:Int)] 3);have HR3:=qh (HR2.o.below hba);have HB3:=bt HB2 hba;have HO:=qh (c1j (k:Int) w2);have hz3:w.heap.size+2<=(w2.alloc (.cells #[.int .i64 (k:Int)] 3)).heap.size:=Nat.le_trans hz2 hba.size;clear hba;obtain⟨⟨o0,o1,o2,o3,o4,o5,o6⟩,_⟩:=HX2.o
   go_wp2_with fail
   refine (c7n _ _ _ l st [(k:Int)] sc d p n _ (HU.o.below HB3.o) (HUS.o.below HB3.o) HO.o hm HT.o).mono ?_;rintro e x2 ⟨nu,nus,rfl,hfe,hfi,hb⟩;have HEN:=qh (hfe.read (HU.o.below HB3.o) hb);have HIN:=qh (hfi.read (HUS.o.below HB3.o) hb);obtain⟨⟨⟨l2,⟨st2,sc2⟩⟩,rep⟩,ha⟩:∃a,P.typed (l,(st,sc)) [(k:Int)]=a:=⟨_,rfl⟩;rw [ha]at HP hfe hfi HEN HIN⊢;simp only at hfe hfi HEN HIN⊢;clear ha;obtain⟨na,nc,rfl,_,_⟩:=id HEN.o;obtain⟨ma,mc,rfl,_,_⟩:=id HIN.o;have HR9:=qh (HR3.o.below hb);have HB9:=bt HB3 hb;have HFE:=qh hfe;have HFI:=qh hfi;exact zq1
 have HP1:=qh (HP0.o.trans (if_neg h1))
 have f1:=P.beqN h1
 clear HP0 h1
 by_cases ho_type:word=[116,121,112,101]
 .have HP:=qh (HP1.o.trans (if_pos (.inl ho_type)));have f_type:=P.beqB ho_type;clear ho_type;exact e3i
 by_cases ho_delete:word=[100,101,108,101,116,101]
 .have HP:=qh (HP1.o.trans (if_pos (.inr (.inl ho_delete))));have f_type:=P.beqN ho_type;have f_delete:=P.beqB ho_delete;clear ho_delete ho_type;exact e3i
 by_cases ho_lookup:word=[108,111,111,107,117,112]
 .have HP:=qh (HP1.o.trans (if_pos (.inr (.inr ho_lookup))));have f_type:=P.beqN ho_type;have f_delete:=P.beqN ho_delete;have f_lookup:=P.beqB ho_lookup;clear ho_lookup ho_type ho_delete;exact e3i
 have HP2:=qh (HP1.o.trans (if_neg (λh=>by rcases h with h|h|h;exact ho_type h;exact ho_delete h;exact ho_lookup h)))
 have f_type:=P.beqN ho_type;have f_delete:=P.beqN ho_delete;have f_lookup:=P.beqN ho_lookup
 clear HP1 ho_type ho_delete ho_lookup
 by_cases h3:word=[100,101,102,105,110,101]
 .have HP:=qh (HP2.o.trans (if_pos h3));have f3:=P.beqB h3;clear h3;obtain⟨⟨o0,o1,o2,o3,o4,o5,o6⟩,_⟩:=HX1.o;go_wp2_with fail;refine (d4l _ _ l st sc d p n more _ (HU.o.below HB1.o) (HUS.o.below HB1.o) hm HT.o hml).mono ?_;rintro e x2 ⟨nu,nus,rfl,hfe,hfi,hb⟩;refine zm44 ?_;intro HEN HIN;obtain⟨⟨⟨l2,⟨st2,sc2⟩⟩,rep⟩,ha⟩:∃a,P.a1h (l,(st,sc)) more=a:=⟨_,rfl⟩;exact zq184
 have HP3:=qh (HP2.o.trans (if_neg h3))
 have f3:=P.beqN h3
 clear HP2 h3
 by_cases h4:word=[114,101,118,101,114,115,101]
 .have HP0:=qh (HP3.o.trans (if_pos h4));have f4:=P.beqB h4;clear h4;go_wp2_with fail;refine (c5w more _ oZ).mono ?_;rintro e w2 ⟨v,rfl,-,hb⟩;refine zm79 ?_;intro HX2 HR2 HB2;clear hb c0;have HREV:Hq (P.a4r l more=if (P.a0o more).2 then some (P.revT l more) else none):=⟨rfl⟩;generalize (P.a0o more).2=q at *
  cases q
  .have HP:Hq (P.cmd (l,(st,sc)) line=((l,(st,sc)),none)):=⟨by rw [HP0.o,HREV.o];rfl⟩;exact zq2
  .have HP:Hq (P.cmd (l,(st,sc)) line=((l,(st,sc)),some (P.revT l more))):=⟨by rw [HP0.o,HREV.o];rfl⟩;refine zm83 ?_;intro HXD HRD2 HBD;go_upto_region 21 with fail;refine zm6 ?_;intro hS0;generalize w2.drew=y0 at *;refine zm37 ?_;refine trd 4 λK hK=>?_;go_simp;refine (d1n _ l more _ (HU.o.below HBD.o) hm (P.a9x HT.o)).mono ?_;rintro e y1 ⟨rfl,hb⟩;have HRx:=qh (HRD2.o.below hb);have HBx:=bt HBD hb;refine zm71 ?_;intro hS1;clear hK K hb hS0;refine zm0 ?_;have HR5:=qh HRx.o;have HB5:=qh HBx.o;obtain⟨⟨r0,r1,r2,r3,r4,r5,r6⟩,f0,f1,f2,f3,f4,f5⟩:=HR5.o;obtain⟨V,hV⟩:∃v,((((((y1.setCell ⟨w.heap.size+1,0,none⟩ ((.slice ad l.length cap))).setCell ⟨w.heap.size+1,1,none⟩ ((.slice sd st.length sap))).setCell ⟨w.heap.size+1,2,none⟩ (.string (S sc))).setCell ⟨w.heap.size+1,3,none⟩ (.string (S d))).setCell ⟨w.heap.size+1,4,none⟩ (.string (S p))).setCell ⟨w.heap.size+1,5,none⟩ (.int .i64 n))=v:=⟨_,rfl⟩;have hset:Chg (λb=>b=w.heap.size+1) y1 V:=by rw [<-hV];exact (((((((Chg.refl (λb=>b=w.heap.size+1) y1).setCell (p:=⟨w.heap.size+1,0,none⟩) rfl _).setCell (p:=⟨w.heap.size+1,1,none⟩) rfl _).setCell (p:=⟨w.heap.size+1,2,none⟩) rfl _).setCell (p:=⟨w.heap.size+1,3,none⟩) rfl _).setCell (p:=⟨w.heap.size+1,4,none⟩) rfl _).setCell (p:=⟨w.heap.size+1,5,none⟩) rfl _)
   refine zm1 ?_;intro HRV HBV;refine trd 5 λK hK=>?_;go_simp;refine zm15 ?_;intro hS2;clear hK K;try rw [hV]at hS2⊢
   clear r0 r1 r2 r3 r4 r5 r6 f0 f1 f2 f3 f4 f5;refine zm0 ?_;refine tk2 6 hS2 ?_;refine wpAnyH_done kZ ?_ _;go_wp2;refine zn50 ?_;intro q0 q1 q2 q3 q4 q5 q6;clear hset hV;refine bodyPost_ret (v:=.tuple #[a1a ((.slice ad l.length cap)) ((.slice sd st.length sap)) sc d p n,.string (S (P.revT l more))]) (by simp [results,results95,go_sem,q0,q1,q2,q3,q4,q5]) rfl ⟨(.slice ad l.length cap),(.slice sd st.length sap),by rw [HP.o]<;>rfl,by rw [HP.o];exact .inl ⟨rfl,rfl⟩,by rw [HP.o];exact .inl ⟨rfl,rfl⟩,HBV.o⟩
 have HP4:=qh (HP3.o.trans (if_neg h4))
 have f4:=P.beqN h4
 clear HP3 h4
 by_cases h5:word=[106,111,105,110]
 .have HP0:=qh (HP4.o.trans (if_pos h5));have f5:=P.beqB h5;clear h5;go_wp2_with fail;refine (a4y more 32 _ oZ).mono ?_;rintro e w2 ⟨v,rfl,hst0,hb⟩;obtain⟨g2,gc2,rfl,hg2,hst2⟩:=a6r hst0 (P.a2y 32 more);refine zm79 ?_;intro HX2 HR2 HB2;have HST2:=qh (hst2.below bZ.drew);have hg3:w.heap.size+2<=g2:=Nat.le_trans hz1 hg2;clear hb c0 hst0 hst2;by_cases h2:(P.split 32 more).length=2
  .obtain⟨a,b,hab⟩:=P.two_of h2;have hpa:=c0z (c:=32) (s:=more) (j:=0) (by rw [h2];decide);have hpb:=c0z (c:=32) (s:=more) (j:=1) (by rw [h2];decide);have HP:Hq (P.cmd (l,(st,sc)) line=((l,(st,sc)),okB (P.a2f a b).1 (P.a2f a b).2)):=⟨by rw [HP0.o,P.d1f hab];rfl⟩;simp only [hab,List.getElem_cons_zero,List.getElem_cons_succ]at hpa hpb;rw [hab]at HST2⊢;clear h2 hab;have HC0:=qh (HST2.o.2 0 sZ);have HC1:=qh (HST2.o.2 1 sZ);simp only [List.getElem_cons_zero,List.getElem_cons_succ]at HC0 HC1;refine zm83 ?_;intro HXD HRD2 HBD;go_upto_region 26 with fail;refine wp_region_held_drew (S:=λv=>SOut w.heap.size (.slice ad l.length cap) (.slice sd st.length sap) sc d p n v/\v.cell? ⟨g2,0,none⟩=some (.string (S a))/\v.cell? ⟨g2,1,none⟩=some (.string (S b))/\g2<v.heap.size) kZ ⟨HXD.o,HC0.o,HC1.o,HST2.o.1.1⟩ (λhS0=>?_);generalize w2.drew=y0 at *;refine tk13 0 hS0 ?_;refine tk13 1 hS0 ?_;refine tk13 2 hS0 ?_;refine tk13 3 hS0 ?_;refine tk13 4 hS0 ?_;refine tk13 5 hS0 ?_;refine tk13 6 hS0 ?_;refine trd 7 λK hK=>?_;go_simp;refine (a9o a b _ oZ oZ).mono ?_;rintro e y1 ⟨rfl,rfl⟩;refine hK.out _ _ hS0 (λhS3=>?_);clear hK K hS0;refine zm0 ?_;refine tk13 8 hS3 ?_;refine tk13 9 hS3 ?_;refine trd 10 λK hK=>?_;go_simp;refine (d7m (P.a2f a b).1 (P.a2f a b).2 _).mono ?_;rintro e y1 ⟨rfl,rfl⟩;refine hK.out _ _ hS3 (λhS1=>?_);clear hK K hS3;refine zm0 ?_;have HR5:=qh HRD2.o;have HB5:=qh HBD.o;obtain⟨⟨r0,r1,r2,r3,r4,r5,r6⟩,f0,f1,f2,f3,f4,f5⟩:=HR5.o;obtain⟨V,hV⟩:∃v,((((((y0.setCell ⟨w.heap.size+1,0,none⟩ ((.slice ad l.length cap))).setCell ⟨w.heap.size+1,1,none⟩ ((.slice sd st.length sap))).setCell ⟨w.heap.size+1,2,none⟩ (.string (S sc))).setCell ⟨w.heap.size+1,3,none⟩ (.string (S d))).setCell ⟨w.heap.size+1,4,none⟩ (.string (S p))).setCell ⟨w.heap.size+1,5,none⟩ (.int .i64 n))=v:=⟨_,rfl⟩;have hset:Chg (λb=>b=w.heap.size+1) y0 V:=by rw [<-hV];exact (((((((Chg.refl (λb=>b=w.heap.size+1) y0).setCell (p:=⟨w.heap.size+1,0,none⟩) rfl _).setCell (p:=⟨w.heap.size+1,1,none⟩) rfl _).setCell (p:=⟨w.heap.size+1,2,none⟩) rfl _).setCell (p:=⟨w.heap.size+1,3,none⟩) rfl _).setCell (p:=⟨w.heap.size+1,4,none⟩) rfl _).setCell (p:=⟨w.heap.size+1,5,none⟩) rfl _)
   refine zm1 ?_;intro HRV HBV;refine trd 11 λK hK=>?_;go_simp;refine hK.out _ _ (by (try rw [hV]);exact⟨hS1.1.a0b hset (λh=>by have h9:w.heap.size=w.heap.size+1:=h;omega),(hset.cell (p:=⟨g2,0,none⟩) hS1.2.2.2 (λh=>by have h9:g2=w.heap.size+1:=h;omega)).trans hS1.2.1,(hset.cell (p:=⟨g2,1,none⟩) hS1.2.2.2 (λh=>by have h9:g2=w.heap.size+1:=h;omega)).trans hS1.2.2.1,Nat.lt_of_lt_of_le hS1.2.2.2 hset.size⟩) (λhS2=>?_);clear hK K;try rw [hV]at hS2⊢
   clear r0 r1 r2 r3 r4 r5 r6 f0 f1 f2 f3 f4 f5;refine zm0 ?_;refine tk13 12 hS2 ?_;refine wpAnyH_done kZ ?_ _;go_wp2;refine zn50 ?_;intro q0 q1 q2 q3 q4 q5 q6;clear hset hV;refine bodyPost_ret (v:=.tuple #[a1a ((.slice ad l.length cap)) ((.slice sd st.length sap)) sc d p n,.string (S (txtB (okB (P.a2f a b).1 (P.a2f a b).2)))]) (by simp [results,results95,go_sem,q0,q1,q2,q3,q4,q5]) rfl ⟨(.slice ad l.length cap),(.slice sd st.length sap),by rw [HP.o]<;>rfl,by rw [HP.o];exact .inl ⟨rfl,rfl⟩,by rw [HP.o];exact .inl ⟨rfl,rfl⟩,HBV.o⟩
  .have HP:Hq (P.cmd (l,(st,sc)) line=((l,(st,sc)),none)):=⟨by rw [HP0.o,P.d5q h2]⟩;have f9:(((P.split 32 more).length:Int) != 2)=true:=by show (!_)=true;rw [beq_eq_false_iff_ne.2 oZ];rfl
   exact zq2
 have HP5:=qh (HP4.o.trans (if_neg h5))
 have f5:=P.beqN h5
 clear HP4 h5
 by_cases h6:word=[108,111,111,115,101]
 .have HP0:=qh (HP5.o.trans (if_pos h6));have f6:=P.beqB h6;clear h6;go_wp2_with fail;refine (b6k more _ oZ).mono ?_;rintro e w2 ⟨rfl,hb⟩;refine zm79 ?_;intro HX2 HR2 HB2;clear hb c0;have HPL:Hq (P.b6s more=if (P.loose more).2 then some (P.fmt ((P.loose more).1:Int)) else none):=⟨rfl⟩;have HLT:=qh (P.b5u more);generalize P.loose more=q at *;obtain⟨k,q⟩:=q;simp only at HPL HLT⊢
  cases q
  .have HP:Hq (P.cmd (l,(st,sc)) line=((l,(st,sc)),none)):=⟨by rw [HP0.o,HPL.o];rfl⟩;exact zq2
  .have HP:Hq (P.cmd (l,(st,sc)) line=((l,(st,sc)),some (P.fmt (k:Int)))):=⟨by rw [HP0.o,HPL.o];rfl⟩;refine zm83 ?_;intro HXD HRD2 HBD;go_upto_region 31 with fail;refine zm6 ?_;intro hS0;generalize w2.drew=y0 at *;refine tk2 0 hS0 ?_;refine tk2 1 hS0 ?_;refine trd 2 λK hK=>?_;go_simp;refine (b0g k _ HLT.o).mono ?_;rintro e y1 ⟨rfl,hb⟩;have HRx:=qh (HRD2.o.below hb);have HBx:=bt HBD hb;refine zm71 ?_;intro hS1;clear hK K hb hS0;refine zm0 ?_;have HR5:=qh HRx.o;have HB5:=qh HBx.o;obtain⟨⟨r0,r1,r2,r3,r4,r5,r6⟩,f0,f1,f2,f3,f4,f5⟩:=HR5.o;obtain⟨V,hV⟩:∃v,((((((y1.setCell ⟨w.heap.size+1,0,none⟩ ((.slice ad l.length cap))).setCell ⟨w.heap.size+1,1,none⟩ ((.slice sd st.length sap))).setCell ⟨w.heap.size+1,2,none⟩ (.string (S sc))).setCell ⟨w.heap.size+1,3,none⟩ (.string (S d))).setCell ⟨w.heap.size+1,4,none⟩ (.string (S p))).setCell ⟨w.heap.size+1,5,none⟩ (.int .i64 n))=v:=⟨_,rfl⟩;have hset:Chg (λb=>b=w.heap.size+1) y1 V:=by rw [<-hV];exact (((((((Chg.refl (λb=>b=w.heap.size+1) y1).setCell (p:=⟨w.heap.size+1,0,none⟩) rfl _).setCell (p:=⟨w.heap.size+1,1,none⟩) rfl _).setCell (p:=⟨w.heap.size+1,2,none⟩) rfl _).setCell (p:=⟨w.heap.size+1,3,none⟩) rfl _).setCell (p:=⟨w.heap.size+1,4,none⟩) rfl _).setCell (p:=⟨w.heap.size+1,5,none⟩) rfl _)
   refine zm1 ?_;intro HRV HBV;refine trd 3 λK hK=>?_;go_simp;refine zm15 ?_;intro hS2;clear hK K;try rw [hV]at hS2⊢
   clear r0 r1 r2 r3 r4 r5 r6 f0 f1 f2 f3 f4 f5;refine zm0 ?_;refine tk2 4 hS2 ?_;refine wpAnyH_done kZ ?_ _;go_wp2;refine zn50 ?_;intro q0 q1 q2 q3 q4 q5 q6;clear hset hV;refine bodyPost_ret (v:=.tuple #[a1a ((.slice ad l.length cap)) ((.slice sd st.length sap)) sc d p n,.string (S (P.fmt (k:Int)))]) (by simp [results,results95,go_sem,q0,q1,q2,q3,q4,q5]) rfl ⟨(.slice ad l.length cap),(.slice sd st.length sap),by rw [HP.o]<;>rfl,by rw [HP.o];exact .inl ⟨rfl,rfl⟩,by rw [HP.o];exact .inl ⟨rfl,rfl⟩,HBV.o⟩
 have HP:=qh (HP5.o.trans (if_neg h6));have f6:=P.beqN h6;clear HP5 h6;obtain⟨⟨o0,o1,o2,o3,o4,o5,o6⟩,_⟩:=HX1.o;obtain⟨⟨r0,r1,r2,r3,r4,r5,r6⟩,f0,f1,f2,f3,f4,f5⟩:=HR1.o;obtain⟨V,hV⟩:∃v,((((((w1.setCell ⟨w.heap.size+1,0,none⟩ ((.slice ad l.length cap))).setCell ⟨w.heap.size+1,1,none⟩ ((.slice sd st.length sap))).setCell ⟨w.heap.size+1,2,none⟩ (.string (S sc))).setCell ⟨w.heap.size+1,3,none⟩ (.string (S d))).setCell ⟨w.heap.size+1,4,none⟩ (.string (S p))).setCell ⟨w.heap.size+1,5,none⟩ (.int .i64 n))=v:=⟨_,rfl⟩;have hset:Chg (λb=>b=w.heap.size+1) w1 V:=by rw [<-hV];exact (((((((Chg.refl (λb=>b=w.heap.size+1) w1).setCell (p:=⟨w.heap.size+1,0,none⟩) rfl _).setCell (p:=⟨w.heap.size+1,1,none⟩) rfl _).setCell (p:=⟨w.heap.size+1,2,none⟩) rfl _).setCell (p:=⟨w.heap.size+1,3,none⟩) rfl _).setCell (p:=⟨w.heap.size+1,4,none⟩) rfl _).setCell (p:=⟨w.heap.size+1,5,none⟩) rfl _)
 refine zm30 ?_;intro HRV HBV;go_wp2;refine zn50 ?_;intro q0 q1 q2 q3 q4 q5 q6;clear hset hV;refine bodyPost_ret (v:=.tuple #[a1a ((.slice ad l.length cap)) ((.slice sd st.length sap)) sc d p n,.string (S [63])]) (by simp [results,results95,go_sem,q0,q1,q2,q3,q4,q5]) rfl ⟨(.slice ad l.length cap),(.slice sd st.length sap),by rw [HP.o]<;>rfl,by rw [HP.o];exact .inl ⟨rfl,rfl⟩,by rw [HP.o];exact .inl ⟨rfl,rfl⟩,HBV.o⟩
end Go.Proofs.YtggfdnopminemaaGreatDoor
