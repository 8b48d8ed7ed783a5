/- Walks: an entry deleted in a session (reference and program). -/
import Derived.Test.YtggfdnopminemaaGreatDoorZt
import Derived.Test.YtggfdnopminemaaGreatDoorSesPI
namespace Go.Proofs.YtggfdnopminemaaGreatDoor
namespace P
theorem b6k {s:Ses} {o:List Int} (h:a3r o s.1=false∨(b1a s o).2=false):a2y s o=(s,none):=by
 unfold a2y;rw [if_neg];rintro hc;simp only [Bool.and_eq_true]at hc
 rcases h with h|h
 ·rw [h]at hc;cases hc.1
 ·rw [h]at hc;cases hc.2
theorem b5g {s:Ses} {o:List Int} (h1:a3r o s.1=true) (h2:(b1a s o).2=true):a2y s o=((kept (a3r o s.1) (del o s.1),(s.2.1,(b1a s o).1)),some (fmtE (least s.2.2 (b1a s o).1))):=by
 unfold a2y;rw [if_pos (by rw [h1,h2];rfl)]
end P
open Go Go.RowKit
set_option maxHeartbeats 8000000
set_option maxRecDepth 100000
theorem b4n {ok:Bool} {l:P.Dic} (h:Small l):Small (P.kept ok l):=by
 cases ok
 ·exact⟨by simp [P.kept],by simp [P.kept],by simp [P.kept]⟩
 ·exact h
theorem d4i (u us ou:Value) (l:P.Dic) (st o:List Int) (sc d p:Str) (n:Int) (w:World) (hu:EntR w u l) (hus:IntR w us st) (ho:IntR w ou o) (hm:Small l) (ht:P.trans l (st,sc)=true) :
 Calls Tryz.prog 237 #[a1d u us sc d p n,ou] w (b1r u us (l,(st,sc)) (P.a2y (l,(st,sc)) o) (d,p,n) w):=by
 have hu0:=hu;have hus0:=hus
 obtain⟨ad,cap,rfl,_,_⟩:=hu0
 obtain⟨sd,sap,rfl,_,_⟩:=hus0
 obtain⟨W0,hW0⟩:∃v,(w.alloc (a0d (.slice ad l.length cap) (.slice sd st.length sap) sc d p n)).alloc (a0d (.slice none 0 0) (.slice none 0 0) [] [] [] 0)=v:=⟨_,rfl⟩
 have hb0:Below w.heap.size w W0:=by rw [←hW0];exact ((Below.refl w.heap.size w).alloc lZ _).alloc sZ _
 have hz0:W0.heap.size=w.heap.size+2:=by rw [←hW0];simp
 have hsx:SOut w.heap.size (.slice ad l.length cap) (.slice sd st.length sap) sc d p n W0:=by
  exact zq25
 have hsr:SOut (w.heap.size+1) (.slice none 0 0) (.slice none 0 0) [] [] [] 0 W0:=by
  exact zq21
 have HU:=qh hu;have HUS:=qh hus;have HO:=qh ho
 have HX:=qh hsx;have HR:=qh hsr;have HB:=qh hb0
 have HT0S:=qh ht;have HSP:=qh (P.a1h ht)
 have HSD:=qh (b4n (ok:=P.a3r o l) (b0k hm o))
 have HNO:=qh (P.b6k (s:=(l,(st,sc))) (o:=o));have HYES:=qh (P.b5g (s:=(l,(st,sc))) (o:=o))
 have HDS:=qh (show P.b1a (l,(st,sc)) o=P.scr (P.kept (P.a3r o l) (P.del o l)) st from rfl)
 clear hsx hsr hb0 ht hu hus ho
 simp only at HNO HYES
 go_enter Tryz.func237,Tryz.ntmps237
 go_upto_region 1 with fail
 try rw [hW0]
 clear hW0
 obtain⟨⟨o0,o1,o2,o3,o4,o5,o6⟩,_⟩:=HX.o
 go_wp2_with fail
 refine (c4l _ _ l o _ (HU.o.below HB.o) (HO.o.below HB.o) hm).mono ?_
 rintro e w1 ⟨x,rfl,hx,hb⟩
 rw [hz0]at hx
 generalize P.kept (P.a3r o l) (P.del o l)=D at *
 generalize P.a3r o l=q1 at *
 have HX1:=qh (HX.o.below hb);have HR1:=qh (HR.o.below hb);have HB1:=bt HB hb
 have hz1:w.heap.size+2≤w1.heap.size:=by have:=hb.size;omega
 obtain⟨xa,xc,rfl,_,_⟩:=id hx
 have hba:=(Below.refl w1.heap.size w1).alloc lZ (.cells #[.slice xa D.length xc] 26)
 have HX2:=qh (HX1.o.below hba);have HR2:=qh (HR1.o.below hba);have HB2:=bt HB1 hba;have HD2:=qh (hx.below a0e hba)
 have HDB:=qh (Box1.new (.slice xa D.length xc) 26 w1)
 have hz2:w1.heap.size≤(w1.alloc (.cells #[.slice xa D.length xc] 26)).heap.size:=hba.size
 clear o0 o1 o2 o3 o4 o5 o6 hb hba hx HX HR HB HX1 HR1 HB1
 go_upto_region 2 with fail
 generalize w1.alloc (.cells #[.slice xa D.length xc] 26)=w2 at *
 obtain⟨⟨o0,o1,o2,o3,o4,o5,o6⟩,_⟩:=HX2.o
 obtain⟨d0,dz⟩:=HDB.o
 go_wp2_with fail
 refine (a4l _ _ D st _ (Ents.read HD2.o) (HUS.o.below HB2.o) HSD.o).mono ?_
 rintro e w3 ⟨rfl,hb⟩
 have HSCR:=qh (P.a6c D st)
 obtain⟨ns,fn,hns⟩:∃ns fn,P.scr D st=(ns,fn):=⟨_,_,rfl⟩
 rw [hns]at HDS HSCR⊢
 simp only [HDS.o]at HNO HYES
 simp only at HSCR⊢
 have HX3:=qh (HX2.o.below hb);have HR3:=qh (HR2.o.below hb);have HB3:=bt HB2 hb;have HD3:=qh (HD2.o.below a0e hb);have HDB3:=qh (HDB.o.below hb)
 have hz3:w1.heap.size≤w3.heap.size:=Nat.le_trans hz2 hb.size
 clear hb o0 o1 o2 o3 o4 o5 o6 d0 dz HX2 HR2 HB2 HD2 HDB
 cases q1
 ·have HP:=qh (HNO.o (.inl rfl));exact zq16
 ·cases fn
  ·have HP:=qh (HNO.o (.inr rfl));exact zq16
  ·have HP:=qh (HYES.o rfl rfl);obtain⟨hl1,hl2⟩:=HSP.o;have hnl:=P.a3t HSCR.o
   try simp only at hl1 hl2
   obtain⟨⟨o0,o1,o2,o3,o4,o5,o6⟩,g0,g1,g2,g3,g4,g5⟩:=HX3.o;have HED:=qh (show P.a3s (P.least sc ns)=true from P.a9t (P.a2c HT0S.o) HSCR.o)
   go_wp2_with fail
   refine (b3l sc ns _ oZ oZ).mono ?_;rintro e w4 ⟨rfl,hb⟩;obtain⟨x,et,hE⟩:∃x et,P.least sc ns=(x,et):=⟨_,_,rfl⟩;rw [hE]at HP HED⊢;clear hE;have hba:=(Below.refl w4.heap.size w4).alloc lZ (.cells #[.int .i64 x,.string (S et)] 55);have HX5:=qh ((HX3.o.below hb).below hba);have HR5:=qh ((HR3.o.below hb).below hba);have HD5:=qh ((HD3.o.below a0e hb).below a0e hba);have HDB5:=qh ((HDB3.o.below hb).below hba);have HB4:=bt HB3 hb;have HB5:=bt HB4 hba;have HE5:=qh (a0m.new (.int .i64 x) et 55 w4);have hz4:w1.heap.size≤w4.heap.size:=Nat.le_trans hz3 hb.size;clear o0 o1 o2 o3 o4 o5 o6 g0 g1 g2 g3 g4 g5 hb hba HX3 HR3 HD3 HDB3 HB3 HB4
   go_upto_region 6 with fail
   generalize w4.alloc (.cells #[.int .i64 x,.string (S et)] 55)=w5 at *;obtain⟨⟨o0,o1,o2,o3,o4,o5,o6⟩,g0,g1,g2,g3,g4,g5⟩:=HX5.o;obtain⟨d0,dz⟩:=HDB5.o;obtain⟨w6,hw6⟩:∃v,((w5.setCell ⟨w.heap.size,0,none⟩ (.slice xa D.length xc)).setCell ⟨w.heap.size,1,none⟩ (.slice sd st.length sap)).setCell ⟨w.heap.size,2,none⟩ (.string (S ns))=v:=⟨_,rfl⟩;have hset:Chg (fun b=>b=w.heap.size) w5 w6:=by rw [←hw6];exact (((Chg.refl (fun b=>b=w.heap.size) w5).setCell (p:=⟨w.heap.size,0,none⟩) rfl _).setCell (p:=⟨w.heap.size,1,none⟩) rfl _).setCell (p:=⟨w.heap.size,2,none⟩) rfl _
   have HX6:=qh (show SOut w.heap.size (.slice xa D.length xc) (.slice sd st.length sap) ns d p n w6 from by rw [←hw6];exact (HX5.o.set0 (x:=.slice xa D.length xc)).set1 (x:=(.slice sd st.length sap)) (r:=ns));have HR6:=qh (HR5.o.a0c hset oZ);have HE6:=qh (HE5.o.a0c hset oZ);have HB6:=qh (Chg.a0j HB5.o hset HB5.o.size (fun b h=>by have h9:b=w.heap.size:=h;omega));have HD6:=qh (HD5.o.a0c a0e hset (fun b hb h=>by have h9:b=w.heap.size:=h;have h8:=hb.1;omega))
   go_upto_region 8 with fail
   try rw [hw6]
   clear o0 o1 o2 o3 o4 o5 o6 g0 g1 g2 g3 g4 g5 d0 dz hset hw6 HX5 HR5 HE5 HB5 HD5 HDB5;have HXD:=qh (HX6.o.below bZ.drew);have HRD2:=qh (HR6.o.below bZ.drew);have HEB:=qh (HE6.o.below bZ.drew);have HBD:=qh (HB6.o.trans (bZ.drew.mono HB6.o.size))
   go_upto_region 8 with fail
   refine wp_region_held_drew (S:=fun v=>SOut (w.heap.size) (.slice xa D.length xc) ((.slice sd st.length sap)) ns d p n v∧a0m (w4.heap.size) (.int .i64 x) et v) kZ ⟨HXD.o,HEB.o⟩ (fun hS0=>?_);have HCD:=qh (show Chg (fun b=>b=w.heap.size+1) w6 w6.drew from (Chg.refl _ _).drew);generalize w6.drew=y0 at *;refine tk13 0 hS0 ?_;refine tk13 1 hS0 ?_;refine trd 2 fun K hK=>?_;go_simp;refine (c3t x et _ HED.o).mono ?_;rintro e y1 ⟨rfl,hb⟩;have HR5:=qh (HRD2.o.below hb);have HB5:=bt HBD hb;have HC5:=qh (HCD.o.trans (Below.chg hb _));refine hK.out _ _ ⟨hS0.1.below hb,hS0.2.below hb⟩ (fun hS1=>?_);clear hK K hb
   try simp only [qA,qB,qC,Act.put,qD,qE,qF]
   obtain⟨⟨r0,r1,r2,r3,r4,r5,r6⟩,f0,f1,f2,f3,f4,f5⟩:=HR5.o;obtain⟨V,hV⟩:∃v,((((((y1.setCell ⟨w.heap.size+1,0,none⟩ (.slice xa D.length xc)).setCell ⟨w.heap.size+1,1,none⟩ ((.slice sd st.length sap))).setCell ⟨w.heap.size+1,2,none⟩ (.string (S ns))).setCell ⟨w.heap.size+1,3,none⟩ (.string (S d))).setCell ⟨w.heap.size+1,4,none⟩ (.string (S p))).setCell ⟨w.heap.size+1,5,none⟩ (.int .i64 n))=v:=⟨_,rfl⟩;have hset:Chg (fun b=>b=w.heap.size+1) y1 V:=by rw [←hV];exact (((((((Chg.refl (fun b=>b=w.heap.size+1) y1).setCell (p:=⟨w.heap.size+1,0,none⟩) rfl _).setCell (p:=⟨w.heap.size+1,1,none⟩) rfl _).setCell (p:=⟨w.heap.size+1,2,none⟩) rfl _).setCell (p:=⟨w.heap.size+1,3,none⟩) rfl _).setCell (p:=⟨w.heap.size+1,4,none⟩) rfl _).setCell (p:=⟨w.heap.size+1,5,none⟩) rfl _)
   have HRV:=qh (show SOut (w.heap.size+1) (.slice xa D.length xc) ((.slice sd st.length sap)) ns d p n V from by rw [←hV];exact ((HR5.o.set0 (x:=.slice xa D.length xc)).set1 (x:=(.slice sd st.length sap)) (r:=ns)).set3 (d':=d) (p':=p) (n':=n));have HBV:=qh (Chg.a0j HB5.o hset HB5.o.size (fun b h=>by have h9:b=w.heap.size+1:=h;omega));have HCV:=qh (HC5.o.trans hset);refine trd 3 fun K hK=>?_;go_simp;refine hK.out _ _ (by (try rw [hV]);exact⟨hS1.1.a0c hset (fun h=>by have h9:w.heap.size=w.heap.size+1:=h;omega),hS1.2.a0c hset (fun h=>by have h9:w4.heap.size=w.heap.size+1:=h;omega)⟩) (fun hS2=>?_);clear hK K
   try rw [hV]at hS2⊢
   clear r0 r1 r2 r3 r4 r5 r6 f0 f1 f2 f3 f4 f5
   try simp only [qA,qB,qC,Act.put,qD,qE,qF]
   refine tk13 4 hS2 ?_;refine wpAnyH_done kZ ?_ _;go_wp2
   try rw [hV]
   clear hset hV;obtain⟨q0,q1,q2,q3,q4,q5,q6⟩:=HRV.o.1;refine bodyPost_ret (v:=.tuple #[a1d (.slice xa D.length xc) ((.slice sd st.length sap)) ns d p n,.string (S (P.fmtE (x,et)))]) (by simp [results,Tryz.results237,go_sem,q0,q1,q2,q3,q4,q5]) rfl ⟨.slice xa D.length xc,(.slice sd st.length sap),by rw [HP.o];rfl,by rw [HP.o];exact .inr ⟨_,HD6.o.a0c a0e HCV.o (fun b hb h=>by have h9:b=w.heap.size+1:=h;have h8:=hb.1;omega),fun b hb=>by have h8:=hb.1;omega⟩,by rw [HP.o];exact .inl ⟨rfl,rfl⟩,HBV.o⟩
theorem SOut.setScr {b:Nat} {u us:Value} {sc r d p:Str} {n:Int} {v:World} (h:SOut b u us sc d p n v):SOut b u us r d p n (v.setCell ⟨b,2,none⟩ (.string (S r))):=by
 exact zq28
theorem c0j (lo B:Nat) (ou:Value) (l:P.Dic) (st o:List Int) (sc d p:Str) (n:Int) (w:World) (h:SesM lo B (l,(st,sc)) (d,p,n) w) (hm:Small l) (ht:P.trans l (st,sc)=true) (ho:IntR w ou o) (hE:L.Env w) :
 Calls Tryz.prog 210 #[.pointer (some ⟨B,0,none⟩),ou] w (a5b lo B (P.a2y (l,(st,sc)) o) (d,p,n) w):=by
 have HSM:=qh h
 obtain⟨hEB,hlo,u,us,hS,hR⟩:=h
 have hBz:B<w.heap.size:=hS.1.2.2.2.2.2.2
 have hu:=hR.dic;have hus:=hR.str
 simp only at hS hR hu hus
 obtain⟨ad,cap,rfl,_,_⟩:=id hu
 obtain⟨sd,sap,rfl,_,_⟩:=id hus
 have HU:=qh hu;have HUS:=qh hus;have HO:=qh ho;have HE:=qh hE
 have HX:=qh hS;have HSR:=qh hR
 have HT0S:=qh ht;have HSP:=qh (P.a1h ht)
 have HSD:=qh (b4n (ok:=P.a3r o l) (b0k hm o))
 have HNO:=qh (P.b6k (s:=(l,(st,sc))) (o:=o));have HYES:=qh (P.b5g (s:=(l,(st,sc))) (o:=o))
 have HDS:=qh (show P.b1a (l,(st,sc)) o=P.scr (P.kept (P.a3r o l) (P.del o l)) st from rfl)
 obtain⟨⟨o0,o1,o2,o3,o4,o5,o6⟩,_⟩:=hS
 clear ht hu hus ho hE hR
 simp only at HNO HYES
 go_enter Tryz.func210,Tryz.ntmps210
 go_wp2_with fail
 refine (c5d _ _ l o _ HU.o HO.o hm HE.o.dic).mono ?_
 rintro e w1 ⟨x,rfl,hx,hb⟩
 generalize P.kept (P.a3r o l) (P.del o l)=D at *
 generalize P.a3r o l=q1 at *
 have HB1:=qh hb
 have hz1:=hb.size
 obtain⟨xa,xc,rfl,_,_⟩:=id hx
 have hba:=(Below.refl w1.heap.size w1).alloc lZ (.cells #[.slice xa D.length xc] 26)
 have HX2:=qh ((HX.o.below hb).below hba);have HB2:=bt HB1 hba;have HD2:=qh (hx.below a0e hba)
 have HDB:=qh (Box1.new (.slice xa D.length xc) 26 w1)
 have hz2:w1.heap.size≤(w1.alloc (.cells #[.slice xa D.length xc] 26)).heap.size:=hba.size
 clear o0 o1 o2 o3 o4 o5 o6 hb hba hx HX HB1
 go_upto_region 2 with fail
 generalize w1.alloc (.cells #[.slice xa D.length xc] 26)=w2 at *
 have HXD:=qh (show w2.drew.cell? ⟨w1.heap.size,0,none⟩=some (.slice xa D.length xc)∧w2.drew.cell? ⟨B,1,none⟩=some (.slice sd st.length sap)∧w1.heap.size<w2.drew.heap.size∧B<w2.drew.heap.size from⟨HDB.o.1,HX2.o.1.2.1,HDB.o.2,HX2.o.1.2.2.2.2.2.2⟩)
 have HBD:=qh (show Below w2.heap.size w2 w2.drew from bZ.drew)
 have HSCR:=qh (P.a6c D st)
 obtain⟨ns,fn,hns⟩:∃ns fn,P.scr D st=(ns,fn):=⟨_,_,rfl⟩
 have HNS:=qh hns
 rw [hns]at HDS HSCR
 simp only [HDS.o]at HNO HYES
 simp only at HSCR
 clear hns
 go_cut [8,9] (fun tx ov wx=>tx=.string (S ns)∧ov=.bool fn∧Below w2.heap.size w2 wx)
 case first=>
  refine wp_region_held_drew (S:=fun v=>v.cell? ⟨w1.heap.size,0,none⟩=some (.slice xa D.length xc)∧v.cell? ⟨B,1,none⟩=some (.slice sd st.length sap)∧w1.heap.size<v.heap.size∧B<v.heap.size) kZ HXD.o (fun hS0=>?_);generalize w2.drew=v0 at *;refine tk1 0 hS0 ?_;refine tk1 1 hS0 ?_;refine tk1 2 hS0 ?_;refine tk1 3 hS0 ?_;refine tk1 4 hS0 ?_;refine tk1 5 hS0 ?_;refine trd 6 fun K hK=>?_;go_simp;refine (a4p _ _ D st _ (Ents.read (HD2.o.below a0e HBD.o)) (HUS.o.below (HB2.o.trans (HBD.o.mono HB2.o.size))) HSD.o ((HE.o.below (HB2.o.trans (HBD.o.mono HB2.o.size)) HE.o.size).dic)).mono ?_;rintro e v1 ⟨rfl,hb⟩;rw [HNS.o];simp only;refine hK.out _ _ ⟨(hb.cell (p:=⟨w1.heap.size,0,none⟩) hS0.2.2.1).trans hS0.1,(hb.cell (p:=⟨B,1,none⟩) hS0.2.2.2).trans hS0.2.1,Nat.lt_of_lt_of_le hS0.2.2.1 hb.size,Nat.lt_of_lt_of_le hS0.2.2.2 hb.size⟩ (fun hS1=>?_);clear hK K;have HB4:=bt HBD hb;clear hb
  try simp only [qA,qB,qC,Act.put,qD,qE,qF]
  refine tk1 7 hS1 ?_;refine tk1 8 hS1 ?_;refine tk1 9 hS1 ?_;refine tk1 10 hS1 ?_;refine tk1 11 hS1 ?_;refine wpAnyH_done kZ ?_ _
  go_wp2_with fail
  go_meet;exact⟨rfl,rfl,HB4.o⟩
 case rest=>
  obtain⟨rfl,rfl,hb⟩:=hcut;generalize hww:wc=w3 at *;have HX3:=qh (HX2.o.below hb);have HB3:=bt HB2 hb;have HD3:=qh (HD2.o.below a0e hb);have HDB3:=qh (HDB.o.below hb);have hz3:w1.heap.size≤w3.heap.size:=Nat.le_trans hz2 hb.size;clear hww hb HX2 HB2 HD2 HDB HXD HBD
  cases q1
  ·have HP:=qh (HNO.o (.inl rfl));go_wp2;go_ret2;exact HSM.o.keep (x:=[]) HB3.o HP.o
  ·cases fn
   ·have HP:=qh (HNO.o (.inr rfl));go_wp2;go_ret2;exact HSM.o.keep (x:=[]) HB3.o HP.o
   ·have HP:=qh (HYES.o rfl rfl);obtain⟨hl1,hl2⟩:=HSP.o;have hnl:=P.a3t HSCR.o
    try simp only at hl1 hl2
    obtain⟨⟨o0,o1,o2,o3,o4,o5,o6⟩,g0,g1,g2,g3,g4,g5⟩:=HX3.o;have HED:=qh (show P.a3s (P.least sc ns)=true from P.a9t (P.a2c HT0S.o) HSCR.o)
    go_wp2_with fail
    refine (a8d sc ns _ oZ oZ).mono ?_;rintro e w4 ⟨rfl,hb⟩;obtain⟨x,et,hE⟩:∃x et,P.least sc ns=(x,et):=⟨_,_,rfl⟩;rw [hE]at HP HED⊢;clear hE;have hba:=(Below.refl w4.heap.size w4).alloc lZ (.cells #[.int .i64 x,.string (S et)] 55);have HX5:=qh ((HX3.o.below hb).below hba);have HD5:=qh ((HD3.o.below a0e hb).below a0e hba);have HDB5:=qh ((HDB3.o.below hb).below hba);have HB4:=bt HB3 hb;have HB5:=bt HB4 hba;have HE5:=qh (a0m.new (.int .i64 x) et 55 w4);have hz4:w1.heap.size≤w4.heap.size:=Nat.le_trans hz3 hb.size;have hz5:w1.heap.size≤(w4.alloc (.cells #[.int .i64 x,.string (S et)] 55)).heap.size:=Nat.le_trans hz4 hba.size;clear o0 o1 o2 o3 o4 o5 o6 g0 g1 g2 g3 g4 g5 hb hba HX3 HD3 HDB3 HB3 HB4
    go_upto_region 6 with fail
    generalize w4.alloc (.cells #[.int .i64 x,.string (S et)] 55)=w5 at *;obtain⟨⟨o0,o1,o2,o3,o4,o5,o6⟩,g0,g1,g2,g3,g4,g5⟩:=HX5.o;obtain⟨d0,dz⟩:=HDB5.o;obtain⟨w6,hw6⟩:∃v,(w5.setCell ⟨B,0,none⟩ (.slice xa D.length xc)).setCell ⟨B,2,none⟩ (.string (S ns))=v:=⟨_,rfl⟩;have hset:Chg (fun b=>b=B) w5 w6:=by rw [←hw6];exact ((Chg.refl (fun b=>b=B) w5).setCell (p:=⟨B,0,none⟩) rfl _).setCell (p:=⟨B,2,none⟩) rfl _
    have HX6:=qh (show SOut B (.slice xa D.length xc) (.slice sd st.length sap) ns d p n w6 from by rw [←hw6];exact (HX5.o.set0 (x:=.slice xa D.length xc)).setScr (r:=ns));have HROW:=qh (show a2k lo B w5 (.slice xa D.length xc) (.slice sd st.length sap) D st from HSR.o.other HB5.o lZ hz5 hlo hBz HD5.o);have HSM6:=qh (show SesM lo B (D,(st,ns)) (d,p,n) w6 from⟨hEB,Nat.le_trans hlo (Nat.le_trans HB5.o.size hset.size),_,_,HX6.o,HROW.o.a0c hset (fun b h=>.inl h)⟩);have HE6:=qh (HE5.o.a0c hset oZ);have HC6:=qh (show Chg (fun b=>b=B) w w6 from (Below.chg HB5.o _).trans hset);have HEN:=qh (L.Env.chgB HE.o hEB HC6.o)
    go_upto_region 7 with fail
    try rw [hw6]
    clear o0 o1 o2 o3 o4 o5 o6 g0 g1 g2 g3 g4 g5 d0 dz hset hw6 HX5 HE5 HB5 HD5 HDB5;obtain⟨e0,e1,_⟩:=HE6.o
    go_wp2_with fail
    refine (a4v x et _ HED.o HEN.o).mono ?_;rintro e w7 ⟨rfl,hb⟩;have HC7:=qh (HC6.o.trans (Below.chg hb _));have HS7:=qh (HSM6.o.below hb);clear hb e0 e1;go_wp2;go_ret2;exact⟨P.fmtE (x,et),true,rfl,by rw [HP.o];rfl,by rw [HP.o];exact HS7.o,HC7.o⟩
theorem a1t (dv sv x:Value) (l:P.Dic) (st:List Int) (t:Str) (o:List Int) (et:Str) (w:World) (hu:EntR w dv l) (hs:IntR w sv st) (ho:IntR w x o) (hm:Small l) (h1:o.length≤2^20) (h2:et.length≤2^30) :
 Calls Tryz.prog 239 #[.agg #[dv],a0r sv t,.agg #[x,.string (S et)]] w (c2o (P.a3b l (st,t) (o,et)) w):=by
 have HU:=qh hu;have HST:=qh hs;have HO:=qh ho
 have HDUM:=qh h1
 have H1:=qh h1;have H2:=qh h2
 clear h1 h2
 obtain⟨ad,cap,rfl,_,_⟩:=hu
 obtain⟨sd,sc,rfl,hsl,_⟩:=hs
 obtain⟨oa,oc,rfl,_,_⟩:=ho
 have HB0:=qh (show Below w.heap.size w ((((((w.alloc (.cells #[.slice ad l.length cap] 26)).alloc (.cells #[.slice sd st.length sc,.string (S t)] 35)).alloc (.cells #[.slice oa o.length oc,.string (S et)] 119)).alloc (.cells #[.slice none 0 0] 26)).alloc (.cells #[.slice none 0 0,.string (S [])] 35)).alloc (.cells #[.int .i64 0,.string (S [])] 55)) from ((((((Below.refl w.heap.size w).alloc lZ _).alloc sZ _).alloc (by simp;omega) _).alloc (by simp;omega) _).alloc (by simp;omega) _).alloc (by simp;omega) _)
 have HX0:=qh (show RxBx w.heap.size (.slice ad l.length cap) (.slice sd st.length sc) (.slice oa o.length oc) t et ((((((w.alloc (.cells #[.slice ad l.length cap] 26)).alloc (.cells #[.slice sd st.length sc,.string (S t)] 35)).alloc (.cells #[.slice oa o.length oc,.string (S et)] 119)).alloc (.cells #[.slice none 0 0] 26)).alloc (.cells #[.slice none 0 0,.string (S [])] 35)).alloc (.cells #[.int .i64 0,.string (S [])] 55)) from⟨by go_simp,⟨by simp<;>omega,by go_simp,by go_simp,by go_simp,by go_simp⟩,⟨by go_simp,by go_simp,by simp<;>omega⟩,⟨by go_simp,by go_simp,by simp<;>omega⟩,⟨by simp<;>omega,by go_simp,by go_simp,by go_simp,by go_simp⟩,⟨by simp,by go_simp,by go_simp,by go_simp,by go_simp⟩⟩)
 have HZ0:=qh (show ((((((w.alloc (.cells #[.slice ad l.length cap] 26)).alloc (.cells #[.slice sd st.length sc,.string (S t)] 35)).alloc (.cells #[.slice oa o.length oc,.string (S et)] 119)).alloc (.cells #[.slice none 0 0] 26)).alloc (.cells #[.slice none 0 0,.string (S [])] 35)).alloc (.cells #[.int .i64 0,.string (S [])] 55)).heap.size=w.heap.size+6 by simp)
 unfold a0r
 go_enter Tryz.func239,Tryz.ntmps239
 go_upto_region 1 with (fail)
 generalize ((((((w.alloc (.cells #[.slice ad l.length cap] 26)).alloc (.cells #[.slice sd st.length sc,.string (S t)] 35)).alloc (.cells #[.slice oa o.length oc,.string (S et)] 119)).alloc (.cells #[.slice none 0 0] 26)).alloc (.cells #[.slice none 0 0,.string (S [])] 35)).alloc (.cells #[.int .i64 0,.string (S [])] 55))=W0 at *
 obtain⟨k0,⟨_,k1,k2,_⟩,_⟩:=HX0.o
 go_wp2_with fail
 refine (c3z _ _ l st t _ (HU.o.below HB0.o) (HST.o.below HB0.o) hm).mono ?_
 rintro e w1 ⟨rfl,hb⟩
 have HB1:=bt HB0 hb;have HX1:=qh (HX0.o.below hb)
 have hz1:w.heap.size+6≤w1.heap.size:=by have h1:=hb.size;have h2:=HZ0.o;omega
 clear hb k0 k1 k2 HB0 HX0 HZ0
 cases hd:P.trans l (st,t)
 ·have HP:=qh (P.b0u (d:=l) (t:=(st,t)) (e:=(o,et)) (by rw [hd];rfl));clear hd;obtain⟨_,_,_,⟨k3,k4,_⟩,⟨_,k5,k6,k7,k8⟩,⟨_,k9,k10,k11,k12⟩⟩:=HX1.o;go_wp2;refine bodyPost_ret (v:=.tuple #[.agg #[.slice none 0 0],a0r (.slice none 0 0) [],a1c (0,[]),.bool false]) (by simp [a0r,a1c,k3,k5,k6,k9,k10,results,Tryz.results239,go_sem]) rfl ⟨.slice none 0 0,.slice none 0 0,w.heap.size,by rw [HP.o];rfl,by rw [HP.o];exact RowO.nil _ _,by rw [HP.o];exact World.ownsRow_nil _ _ _ _,Nat.le_refl _,?_,?_⟩
  ·have h9:=HB1.o.size;simp only [World.setCell,Array.size_modify];omega
  ·exact zq138
 ·have HD:=qh hd;obtain⟨hl60,hl2⟩:=P.a1h hd;simp only at hl60 hl2;clear hd;obtain⟨k0,_,⟨k1,k2,_⟩,_⟩:=HX1.o
  go_wp2_with fail
  refine (c3o _ _ l o et _ (HU.o.below HB1.o) (HO.o.below HB1.o) hm H1.o H2.o).mono ?_;rintro e w2 ⟨u,rfl,hI,hb⟩;have HB2:=bt HB1 hb;have HX2:=qh (HX1.o.below hb);have hz2:w1.heap.size≤w2.heap.size:=hb.size;have HI:=qh hI;obtain⟨ua,uc,rfl,_,_⟩:=hI;have HNO:=qh (P.b0u (d:=l) (t:=(st,t)) (e:=(o,et)));have HYES:=qh (P.c7l (d:=l) (t:=(st,t)) (e:=(o,et)) HD.o);have HID:=qh (fun h:P.a3q (o,et) l=true=>a7t (P.c6j h));clear hb k0 k1 k2 HB1 HX1;obtain⟨ok,hok⟩:∃ok,P.a3q (o,et) l=ok:=⟨_,rfl⟩;rw [hok]at HI HNO HYES HID⊢;clear hok
  cases ok
  ·have HP:=qh (HNO.o (by rw [HD.o];rfl));have hbx:Below w2.heap.size w2 (w2.alloc (.cells #[.slice ua (P.kept false (P.putF (o,et) false l)).length uc] 26)):=(Below.refl w2.heap.size w2).alloc lZ _;have HX3:=qh (HX2.o.below hbx);have HB3:=bt HB2 hbx;clear hbx
   go_upto_region 4 with fail
   generalize w2.alloc (.cells #[.slice ua (P.kept false (P.putF (o,et) false l)).length uc] 26)=w3 at *;obtain⟨_,_,_,⟨k3,k4,_⟩,⟨_,k5,k6,k7,k8⟩,⟨_,k9,k10,k11,k12⟩⟩:=HX3.o;go_wp2;refine bodyPost_ret (v:=.tuple #[.agg #[.slice none 0 0],a0r (.slice none 0 0) [],a1c (0,[]),.bool false]) (by simp [a0r,a1c,k3,k5,k6,k9,k10,results,Tryz.results239,go_sem]) rfl ⟨.slice none 0 0,.slice none 0 0,w.heap.size,by rw [HP.o];rfl,by rw [HP.o];exact RowO.nil _ _,by rw [HP.o];exact World.ownsRow_nil _ _ _ _,Nat.le_refl _,?_,?_⟩
   ·have h9:=HB3.o.size;simp only [World.setCell,Array.size_modify];omega
   ·exact (((((HB3.o.setCell (by simp<;>omega) _).setCell (by simp<;>omega) _).setCell (by simp<;>omega) _).setCell (by simp<;>omega) _).setCell (by simp<;>omega) _)
  ·have HBS:=qh (HID.o rfl);have HI:=qh (show Ents w2 (Bet w1.heap.size w2.heap.size) (.slice ua (P.putF (o,et) false l).length uc) (P.putF (o,et) false l) from HI.o);have hkk:P.kept true (P.putF (o,et) false l)=P.putF (o,et) false l:=rfl;rw [hkk];clear hkk;generalize P.putF (o,et) false l=bk at *;have HDB:=qh (show (w2.alloc (.cells #[.slice ua bk.length uc] 26)).cell? ⟨w2.heap.size,0,none⟩=some (.slice ua bk.length uc)∧w2.heap.size<(w2.alloc (.cells #[.slice ua bk.length uc] 26)).heap.size from⟨by go_simp,by simp⟩);have hba:=(Below.refl w2.heap.size w2).alloc lZ (.cells #[.slice ua bk.length uc] 26);have HB3:=bt HB2 hba;have HX3:=qh (HX2.o.below hba);have HI3:=qh (HI.o.below a0e hba);have hz3:w2.heap.size<(w2.alloc (.cells #[.slice ua bk.length uc] 26)).heap.size:=by simp
   clear hba HB2 HX2 HI
   go_upto_region 6 with fail
   generalize w2.alloc (.cells #[.slice ua bk.length uc] 26)=w3 at *;obtain⟨_,⟨_,k1,k2,_⟩,_⟩:=HX3.o;have k0:=HDB.o.1
   go_wp2_with fail
   refine (a4l _ _ bk st _ (Ents.read HI3.o) (HST.o.below HB3.o) HBS.o).mono ?_;rintro e w4 ⟨rfl,hb⟩;have HB4:=bt HB3 hb;have HX4:=qh (HX3.o.below hb);have HI4:=qh (HI3.o.below a0e hb);have hz4:w3.heap.size≤w4.heap.size:=hb.size;have HDB:=qh (show w4.cell? ⟨w2.heap.size,0,none⟩=some (.slice ua bk.length uc)∧w2.heap.size<w4.heap.size from⟨(hb.cell (p:=⟨w2.heap.size,0,none⟩) hz3).trans HDB.o.1,by omega⟩);clear hb k0 k1 k2 HB3 HX3 HI3;have hsl3:=P.b8h bk st;obtain⟨sx,hsx⟩:∃sx,P.scr bk st=sx:=⟨_,rfl⟩;have HSX:=qh hsx;rw [hsx]at hsl3⊢;clear hsx;obtain⟨s1,fi⟩:=sx;simp only at hsl3
   cases fi
   ·have HP:=qh (HNO.o (by rw [HD.o,HSX.o];rfl));obtain⟨_,_,_,⟨k3,k4,_⟩,⟨_,k5,k6,k7,k8⟩,⟨_,k9,k10,k11,k12⟩⟩:=HX4.o;go_wp2;refine bodyPost_ret (v:=.tuple #[.agg #[.slice none 0 0],a0r (.slice none 0 0) [],a1c (0,[]),.bool false]) (by simp [a0r,a1c,k3,k5,k6,k9,k10,results,Tryz.results239,go_sem]) rfl ⟨.slice none 0 0,.slice none 0 0,w.heap.size,by rw [HP.o];rfl,by rw [HP.o];exact RowO.nil _ _,by rw [HP.o];exact World.ownsRow_nil _ _ _ _,Nat.le_refl _,?_,?_⟩
    ·have h9:=HB4.o.size;simp only [World.setCell,Array.size_modify];omega
    ·exact zq189
   ·have HFI:=qh (show (P.scr bk st).2=true by rw [HSX.o]);have HSC:=qh HSX.o;obtain⟨en,ee,hle⟩:∃en ee,P.least t s1=(en,ee):=⟨_,_,rfl⟩;have HLE:=qh hle;have HP:=qh (show P.a3b l (st,t) (o,et)=(((bk,(st,s1)),(en,ee)),true) by rw [HYES.o (by first|rfl|trivial) HFI.o];rw [HSC.o,hle]);clear hle;obtain⟨k0,⟨_,k1,k2,_⟩,_⟩:=HX4.o;have HRD:=qh (show RdR w.heap.size w2.heap.size (.slice ua bk.length uc) (.slice sd st.length sc) t w4.drew from RdR.below ⟨HDB.o.1,k1,k2,HDB.o.2,by omega⟩ bZ.drew);have HXD:=qh (HX4.o.below bZ.drew);have HBD:=qh (HB4.o.trans (bZ.drew.mono HB4.o.size));have HID4:=qh (HI4.o.below a0e bZ.drew);have hzd:w4.heap.size≤w4.drew.heap.size:=Nat.le_refl _;clear k0 k1 k2 HX4 HB4 HI4 HDB
    go_upto_region 9 with fail
    refine wp_region_held_drew (S:=RdR w.heap.size w2.heap.size (.slice ua bk.length uc) (.slice sd st.length sc) t) kZ HRD.o (fun hS0=>?_);generalize w4.drew=v0 at *;refine tk1 0 hS0 ?_;refine tk1 1 hS0 ?_;refine tk1 2 hS0 ?_;refine tk1 4 hS0 ?_;refine tk1 6 hS0 ?_;refine tk1 7 hS0 ?_;refine tk1 8 hS0 ?_;refine trd 3 fun K hK=>?_;go_simp;refine (c5r _ st _ (HST.o.below HBD.o) oZ).mono ?_;rintro e v1 ⟨nv,rfl,ho,hb⟩;obtain⟨va,vc,rfl⟩:=a0i ho;have HX5:=qh (HXD.o.below hb);have HB5:=bt HBD hb;have HI5:=qh (HID4.o.below a0e hb);have HOW:=qh ho;have hz5:v0.heap.size≤v1.heap.size:=hb.size;refine hK.out _ _ (hS0.below hb) (fun hS1=>?_);clear hK K hS0 ho hb HXD HBD HID4
    try simp only [qA,qB,qC,Act.put,qD,qE,qF]
    refine tk1 5 hS1 ?_;refine trd 9 fun K hK=>?_;go_simp;refine (b3l t s1 _ oZ oZ).mono ?_;rintro e v2 ⟨rfl,hb⟩;have HX6:=qh (HX5.o.below hb);have HB6:=bt HB5 hb;have HI6:=qh (HI5.o.below a0e hb);have HOW6:=qh (a0g HOW.o hb lZ);have hz6:v1.heap.size≤v2.heap.size:=hb.size;rw [HLE.o];refine hK.out _ _ (hS1.below hb) (fun hS2=>?_);clear hK K hS1 hb HX5 HB5 HI5 HOW
    try simp only []
    obtain⟨_,_,_,⟨k3,k4,_⟩,⟨_,k5,k6,k7,k8⟩,⟨_,k9,k10,k11,k12⟩⟩:=HX6.o;refine trd 10 fun K hK=>?_;go_simp;have hcy0:Chg (fun k=>w.heap.size+3≤k∧k<w.heap.size+6) v2 (v2.setCell ⟨w.heap.size+1+1+1,0,none⟩ (.slice ua bk.length uc)):=((Chg.refl (fun k=>w.heap.size+3≤k∧k<w.heap.size+6) v2).setCell (p:=⟨w.heap.size+1+1+1,0,none⟩) (by show w.heap.size+3≤w.heap.size+1+1+1∧w.heap.size+1+1+1<w.heap.size+6;omega) (.slice ua bk.length uc));have d00:(v2.setCell ⟨w.heap.size+1+1+1,0,none⟩ (.slice ua bk.length uc)).cell? ⟨w.heap.size+1+1+1,0,none⟩=some (.slice ua bk.length uc):=by go_simp
    have k5':(v2.setCell ⟨w.heap.size+1+1+1,0,none⟩ (.slice ua bk.length uc)).cell? ⟨w.heap.size+1+1+1+1,0,none⟩=some (.slice none 0 0):=by go_simp
    have k6':(v2.setCell ⟨w.heap.size+1+1+1,0,none⟩ (.slice ua bk.length uc)).cell? ⟨w.heap.size+1+1+1+1,1,none⟩=some (.string (S [])):=by go_simp
    have k9':(v2.setCell ⟨w.heap.size+1+1+1,0,none⟩ (.slice ua bk.length uc)).cell? ⟨w.heap.size+1+1+1+1+1,0,none⟩=some (.int .i64 0):=by go_simp
    have k10':(v2.setCell ⟨w.heap.size+1+1+1,0,none⟩ (.slice ua bk.length uc)).cell? ⟨w.heap.size+1+1+1+1+1,1,none⟩=some (.string (S [])):=by go_simp
    have k7':(v2.setCell ⟨w.heap.size+1+1+1,0,none⟩ (.slice ua bk.length uc)).frozen? ⟨w.heap.size+1+1+1+1,0,none⟩=false:=by go_simp
    have k8':(v2.setCell ⟨w.heap.size+1+1+1,0,none⟩ (.slice ua bk.length uc)).frozen? ⟨w.heap.size+1+1+1+1,1,none⟩=false:=by go_simp
    have k11':(v2.setCell ⟨w.heap.size+1+1+1,0,none⟩ (.slice ua bk.length uc)).frozen? ⟨w.heap.size+1+1+1+1+1,0,none⟩=false:=by go_simp
    have k12':(v2.setCell ⟨w.heap.size+1+1+1,0,none⟩ (.slice ua bk.length uc)).frozen? ⟨w.heap.size+1+1+1+1+1,1,none⟩=false:=by go_simp
    obtain⟨y0,hy0⟩:∃y,(v2.setCell ⟨w.heap.size+1+1+1,0,none⟩ (.slice ua bk.length uc))=y:=⟨_,rfl⟩;rw [hy0]at hcy0 d00 k5' k6' k9' k10' k7' k8' k11' k12';have hRy0:=hS2.a0c hcy0 oZ oZ;have hall0:Chg (fun k=>w.heap.size+3≤k∧k<w.heap.size+6) v2 y0:=hcy0;refine hK.out _ _ (by rw [hy0];exact hRy0) (fun hS3=>?_);clear hK K;rw [hy0]at hS3⊢
    try simp only [qA,qB,qC,Act.put,qD,qE,qF]
    clear k3 k4 k5 k6 k7 k8 k9 k10 k11 k12 hy0 hS2 hRy0;have k5:=k5';clear k5';have k6:=k6';clear k6';have k9:=k9';clear k9';have k10:=k10';clear k10';have k7:=k7';clear k7';have k8:=k8';clear k8';have k11:=k11';clear k11';have k12:=k12';clear k12';refine trd 11 fun K hK=>?_;go_simp;have hcy1:Chg (fun k=>w.heap.size+3≤k∧k<w.heap.size+6) y0 ((y0.setCell ⟨w.heap.size+1+1+1+1,0,none⟩ (.slice va st.length vc)).setCell ⟨w.heap.size+1+1+1+1,1,none⟩ (.string (S s1))):=(((Chg.refl (fun k=>w.heap.size+3≤k∧k<w.heap.size+6) y0).setCell (p:=⟨w.heap.size+1+1+1+1,0,none⟩) (by show w.heap.size+3≤w.heap.size+1+1+1+1∧w.heap.size+1+1+1+1<w.heap.size+6;omega) (.slice va st.length vc)).setCell (p:=⟨w.heap.size+1+1+1+1,1,none⟩) (by show w.heap.size+3≤w.heap.size+1+1+1+1∧w.heap.size+1+1+1+1<w.heap.size+6;omega) (.string (S s1)));have d10:((y0.setCell ⟨w.heap.size+1+1+1+1,0,none⟩ (.slice va st.length vc)).setCell ⟨w.heap.size+1+1+1+1,1,none⟩ (.string (S s1))).cell? ⟨w.heap.size+1+1+1,0,none⟩=some (.slice ua bk.length uc):=by go_simp
    have d11:((y0.setCell ⟨w.heap.size+1+1+1+1,0,none⟩ (.slice va st.length vc)).setCell ⟨w.heap.size+1+1+1+1,1,none⟩ (.string (S s1))).cell? ⟨w.heap.size+1+1+1+1,0,none⟩=some (.slice va st.length vc):=by go_simp
    have d12:((y0.setCell ⟨w.heap.size+1+1+1+1,0,none⟩ (.slice va st.length vc)).setCell ⟨w.heap.size+1+1+1+1,1,none⟩ (.string (S s1))).cell? ⟨w.heap.size+1+1+1+1,1,none⟩=some (.string (S s1)):=by go_simp
    have k9':((y0.setCell ⟨w.heap.size+1+1+1+1,0,none⟩ (.slice va st.length vc)).setCell ⟨w.heap.size+1+1+1+1,1,none⟩ (.string (S s1))).cell? ⟨w.heap.size+1+1+1+1+1,0,none⟩=some (.int .i64 0):=by go_simp
    have k10':((y0.setCell ⟨w.heap.size+1+1+1+1,0,none⟩ (.slice va st.length vc)).setCell ⟨w.heap.size+1+1+1+1,1,none⟩ (.string (S s1))).cell? ⟨w.heap.size+1+1+1+1+1,1,none⟩=some (.string (S [])):=by go_simp
    have k11':((y0.setCell ⟨w.heap.size+1+1+1+1,0,none⟩ (.slice va st.length vc)).setCell ⟨w.heap.size+1+1+1+1,1,none⟩ (.string (S s1))).frozen? ⟨w.heap.size+1+1+1+1+1,0,none⟩=false:=by go_simp
    have k12':((y0.setCell ⟨w.heap.size+1+1+1+1,0,none⟩ (.slice va st.length vc)).setCell ⟨w.heap.size+1+1+1+1,1,none⟩ (.string (S s1))).frozen? ⟨w.heap.size+1+1+1+1+1,1,none⟩=false:=by go_simp
    obtain⟨y1,hy1⟩:∃y,((y0.setCell ⟨w.heap.size+1+1+1+1,0,none⟩ (.slice va st.length vc)).setCell ⟨w.heap.size+1+1+1+1,1,none⟩ (.string (S s1)))=y:=⟨_,rfl⟩;rw [hy1]at hcy1 d10 d11 d12 k9' k10' k11' k12';have hRy1:=hS3.a0c hcy1 oZ oZ;have hall1:Chg (fun k=>w.heap.size+3≤k∧k<w.heap.size+6) v2 y1:=hall0.trans hcy1;refine hK.out _ _ (by rw [hy1];exact hRy1) (fun hS4=>?_);clear hK K;rw [hy1]at hS4⊢
    try simp only [qA,qB,qC,Act.put,qD,qE,qF]
    clear k5 k6 k7 k8 k9 k10 k11 k12 d00 hy1 hS3 hRy1;have k9:=k9';clear k9';have k10:=k10';clear k10';have k11:=k11';clear k11';have k12:=k12';clear k12';refine trd 12 fun K hK=>?_;go_simp;have hcy2:Chg (fun k=>w.heap.size+3≤k∧k<w.heap.size+6) y1 ((y1.setCell ⟨w.heap.size+1+1+1+1+1,0,none⟩ (.int .i64 en)).setCell ⟨w.heap.size+1+1+1+1+1,1,none⟩ (.string (S ee))):=(((Chg.refl (fun k=>w.heap.size+3≤k∧k<w.heap.size+6) y1).setCell (p:=⟨w.heap.size+1+1+1+1+1,0,none⟩) (by show w.heap.size+3≤w.heap.size+1+1+1+1+1∧w.heap.size+1+1+1+1+1<w.heap.size+6;omega) (.int .i64 en)).setCell (p:=⟨w.heap.size+1+1+1+1+1,1,none⟩) (by show w.heap.size+3≤w.heap.size+1+1+1+1+1∧w.heap.size+1+1+1+1+1<w.heap.size+6;omega) (.string (S ee)));have d20:((y1.setCell ⟨w.heap.size+1+1+1+1+1,0,none⟩ (.int .i64 en)).setCell ⟨w.heap.size+1+1+1+1+1,1,none⟩ (.string (S ee))).cell? ⟨w.heap.size+1+1+1,0,none⟩=some (.slice ua bk.length uc):=by go_simp
    have d21:((y1.setCell ⟨w.heap.size+1+1+1+1+1,0,none⟩ (.int .i64 en)).setCell ⟨w.heap.size+1+1+1+1+1,1,none⟩ (.string (S ee))).cell? ⟨w.heap.size+1+1+1+1,0,none⟩=some (.slice va st.length vc):=by go_simp
    have d22:((y1.setCell ⟨w.heap.size+1+1+1+1+1,0,none⟩ (.int .i64 en)).setCell ⟨w.heap.size+1+1+1+1+1,1,none⟩ (.string (S ee))).cell? ⟨w.heap.size+1+1+1+1,1,none⟩=some (.string (S s1)):=by go_simp
    have d23:((y1.setCell ⟨w.heap.size+1+1+1+1+1,0,none⟩ (.int .i64 en)).setCell ⟨w.heap.size+1+1+1+1+1,1,none⟩ (.string (S ee))).cell? ⟨w.heap.size+1+1+1+1+1,0,none⟩=some (.int .i64 en):=by go_simp
    have d24:((y1.setCell ⟨w.heap.size+1+1+1+1+1,0,none⟩ (.int .i64 en)).setCell ⟨w.heap.size+1+1+1+1+1,1,none⟩ (.string (S ee))).cell? ⟨w.heap.size+1+1+1+1+1,1,none⟩=some (.string (S ee)):=by go_simp
    obtain⟨y2,hy2⟩:∃y,((y1.setCell ⟨w.heap.size+1+1+1+1+1,0,none⟩ (.int .i64 en)).setCell ⟨w.heap.size+1+1+1+1+1,1,none⟩ (.string (S ee)))=y:=⟨_,rfl⟩;rw [hy2]at hcy2 d20 d21 d22 d23 d24;have hRy2:=hS4.a0c hcy2 oZ oZ;have hall2:Chg (fun k=>w.heap.size+3≤k∧k<w.heap.size+6) v2 y2:=hall1.trans hcy2;refine hK.out _ _ (by rw [hy2];exact hRy2) (fun hS5=>?_);clear hK K;rw [hy2]at hS5⊢
    try simp only [qA,qB,qC,Act.put,qD,qE,qF]
    clear k9 k10 k11 k12 d10 d11 d12 hy2 hS4 hRy2;refine tk1 13 hS5 ?_;refine wpAnyH_done kZ ?_ _;have HEN:=qh (show Ents y2 (Bet w.heap.size w4.heap.size) (.slice ua bk.length uc) bk from (HI6.o.a0c a0e hall2 (fun b h1 h2=>by simp only [Bet]at h1;omega)).wide (fun b h1=>by simp only [Bet]at h1⊢;omega) (fun b h1=>by have h3:=hall2.size;simp only [Bet]at h1;omega));have HOR:=qh (show OwnK w4.heap.size y2 (.slice va st.length vc) st from a0x (a0h HOW6.o hall2 (fun k hk h1=>by have h2:=(World.ownsRow.lt HOW6.o k hk).1;omega)) oZ);have HBL:=qh (Chg.a0j HB6.o hall2 HB6.o.size (fun b h1=>by omega));have hz7:v2.heap.size≤y2.heap.size:=hall2.size;clear hS5 hall0 hall1 hall2 hcy0 hcy1 hcy2;go_wp2;refine bodyPost_ret (v:=.tuple #[.agg #[.slice ua bk.length uc],a0r (.slice va st.length vc) s1,a1c (en,ee),.bool true]) (by simp [a0r,a1c,d20,d21,d22,d23,d24,results,Tryz.results239,go_sem]) rfl ⟨.slice ua bk.length uc,.slice va st.length vc,w4.heap.size,by rw [HP.o],by rw [HP.o];exact HEN.o,by rw [HP.o];exact HOR.o,by omega,by omega,HBL.o⟩
end Go.Proofs.YtggfdnopminemaaGreatDoor
