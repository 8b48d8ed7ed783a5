/- Walks: an entry deleted in a session (reference and program). -/
import Derived.Test.YtggfdnopminemaaGreatDoorZt
import Derived.Test.YtggfdnopminemaaGreatDoorSesPI
namespace Go.Proofs.YtggfdnopminemaaGreatDoor
namespace P
theorem b7f {s:Ses} {o:List Int} (h:a3m o s.1=false∨(a9x s o).2=false):a2x s o=(s,none):=by
 unfold a2x;rw [if_neg];rintro hc;simp only [Bool.and_eq_true]at hc
 rcases h with h|h
 ·rw [h]at hc;cases hc.1
 ·rw [h]at hc;cases hc.2
theorem b3n {s:Ses} {o:List Int} (h1:a3m o s.1=true) (h2:(a9x s o).2=true):a2x s o=((kept (a3m o s.1) (del o s.1),(s.2.1,(a9x s o).1)),some (fmtE (least s.2.2 (a9x s o).1))):=by
 unfold a2x;rw [if_pos (by rw [h1,h2];rfl)]
end P
open Go Go.RowKit
set_option maxHeartbeats 4000000
set_option maxRecDepth 100000
theorem b4h {ok:Bool} {l:P.Dic} (h:Small l):Small (P.kept ok l):=by
 cases ok
 ·exact⟨by simp [P.kept],by simp [P.kept],by simp [P.kept]⟩
 ·exact h
theorem d3r (u us ou:Value) (l:P.Dic) (st o:List Int) (sc d p:Str) (n:Int) (w:World) (hu:EntR w u l) (hus:IntR w us st) (ho:IntR w ou o) (hm:Small l) (ht:P.trans l (st,sc)=true) :
 Calls Tryz.prog 237 #[a1e u us sc d p n,ou] w (b1u u us (l,(st,sc)) (P.a2x (l,(st,sc)) o) (d,p,n) w):=by
 have hu0:=hu;have hus0:=hus
 obtain⟨ad,cap,rfl,_,_⟩:=hu0
 obtain⟨sd,sap,rfl,_,_⟩:=hus0
 obtain⟨W0,hW0⟩:∃v,(w.alloc (a0d (.slice ad l.length cap) (.slice sd st.length sap) sc d p n)).alloc (a0d (.slice none 0 0) (.slice none 0 0) [] [] [] 0)=v:=⟨_,rfl⟩
 have hb0:Below w.heap.size w W0:=by rw [←hW0];exact ((Below.refl w.heap.size w).alloc lZ _).alloc sZ _
 have hz0:W0.heap.size=w.heap.size+2:=by rw [←hW0];simp
 have hsx:SOut w.heap.size (.slice ad l.length cap) (.slice sd st.length sap) sc d p n W0:=by
  exact zq24
 have hsr:SOut (w.heap.size+1) (.slice none 0 0) (.slice none 0 0) [] [] [] 0 W0:=by
  exact zq21
 have HU:=qh hu;have HUS:=qh hus;have HO:=qh ho
 have HX:=qh hsx;have HR:=qh hsr;have HB:=qh hb0
 have HT0S:=qh ht;have HSP:=qh (P.a1h ht)
 have HSD:=qh (b4h (ok:=P.a3m o l) (b0n hm o))
 have HNO:=qh (P.b7f (s:=(l,(st,sc))) (o:=o));have HYES:=qh (P.b3n (s:=(l,(st,sc))) (o:=o))
 have HDS:=qh (show P.a9x (l,(st,sc)) o=P.scr (P.kept (P.a3m o l) (P.del o l)) st from rfl)
 clear hsx hsr hb0 ht hu hus ho
 simp only at HNO HYES
 go_enter Tryz.func237,Tryz.ntmps237
 go_upto_region 1 with fail
 try rw [hW0]
 clear hW0
 obtain⟨⟨o0,o1,o2,o3,o4,o5,o6⟩,_⟩:=HX.o
 go_wp2_with fail
 refine (c4y _ _ l o _ (HU.o.below HB.o) (HO.o.below HB.o) hm).mono ?_
 rintro e w1 ⟨x,rfl,hx,hb⟩
 rw [hz0]at hx
 generalize P.kept (P.a3m o l) (P.del o l)=D at *
 generalize P.a3m o l=q1 at *
 have HX1:=qh (HX.o.below hb);have HR1:=qh (HR.o.below hb);have HB1:=bt HB hb
 have hz1:w.heap.size+2≤w1.heap.size:=by have:=hb.size;omega
 obtain⟨xa,xc,rfl,_,_⟩:=id hx
 have hba:=(Below.refl w1.heap.size w1).alloc lZ (.cells #[.slice xa D.length xc] 26)
 have HX2:=qh (HX1.o.below hba);have HR2:=qh (HR1.o.below hba);have HB2:=bt HB1 hba;have HD2:=qh (hx.below a0b hba)
 have HDB:=qh (Box1.new (.slice xa D.length xc) 26 w1)
 have hz2:w1.heap.size≤(w1.alloc (.cells #[.slice xa D.length xc] 26)).heap.size:=hba.size
 clear o0 o1 o2 o3 o4 o5 o6 hb hba hx HX HR HB HX1 HR1 HB1
 go_upto_region 2 with fail
 generalize w1.alloc (.cells #[.slice xa D.length xc] 26)=w2 at *
 obtain⟨⟨o0,o1,o2,o3,o4,o5,o6⟩,_⟩:=HX2.o
 obtain⟨d0,dz⟩:=HDB.o
 go_wp2_with fail
 refine (a4l _ _ D st _ (Ents.read HD2.o) (HUS.o.below HB2.o) HSD.o).mono ?_
 rintro e w3 ⟨rfl,hb⟩
 have HSCR:=qh (P.a5y D st)
 obtain⟨ns,fn,hns⟩:∃ns fn,P.scr D st=(ns,fn):=⟨_,_,rfl⟩
 rw [hns]at HDS HSCR⊢
 simp only [HDS.o]at HNO HYES
 simp only at HSCR⊢
 have HX3:=qh (HX2.o.below hb);have HR3:=qh (HR2.o.below hb);have HB3:=bt HB2 hb;have HD3:=qh (HD2.o.below a0b hb);have HDB3:=qh (HDB.o.below hb)
 have hz3:w1.heap.size≤w3.heap.size:=Nat.le_trans hz2 hb.size
 clear hb o0 o1 o2 o3 o4 o5 o6 d0 dz HX2 HR2 HB2 HD2 HDB
 cases q1
 ·have HP:=qh (HNO.o (.inl rfl));exact zq16
 ·cases fn
  ·have HP:=qh (HNO.o (.inr rfl));exact zq16
  ·have HP:=qh (HYES.o rfl rfl);obtain⟨hl1,hl2⟩:=HSP.o;have hnl:=P.a3s HSCR.o
   try simp only at hl1 hl2
   obtain⟨⟨o0,o1,o2,o3,o4,o5,o6⟩,g0,g1,g2,g3,g4,g5⟩:=HX3.o;have HED:=qh (show P.a3o (P.least sc ns)=true from P.b0s (P.a2b HT0S.o) HSCR.o)
   go_wp2_with fail
   refine (b2x sc ns _ oZ oZ).mono ?_;rintro e w4 ⟨rfl,hb⟩;obtain⟨x,et,hE⟩:∃x et,P.least sc ns=(x,et):=⟨_,_,rfl⟩;rw [hE]at HP HED⊢;clear hE;have hba:=(Below.refl w4.heap.size w4).alloc lZ (.cells #[.int .i64 x,.string (S et)] 55);have HX5:=qh ((HX3.o.below hb).below hba);have HR5:=qh ((HR3.o.below hb).below hba);have HD5:=qh ((HD3.o.below a0b hb).below a0b hba);have HDB5:=qh ((HDB3.o.below hb).below hba);have HB4:=bt HB3 hb;have HB5:=bt HB4 hba;have HE5:=qh (a0n.new (.int .i64 x) et 55 w4);have hz4:w1.heap.size≤w4.heap.size:=Nat.le_trans hz3 hb.size;clear o0 o1 o2 o3 o4 o5 o6 g0 g1 g2 g3 g4 g5 hb hba HX3 HR3 HD3 HDB3 HB3 HB4
   go_upto_region 6 with fail
   generalize w4.alloc (.cells #[.int .i64 x,.string (S et)] 55)=w5 at *;obtain⟨⟨o0,o1,o2,o3,o4,o5,o6⟩,g0,g1,g2,g3,g4,g5⟩:=HX5.o;obtain⟨d0,dz⟩:=HDB5.o;obtain⟨w6,hw6⟩:∃v,((w5.setCell ⟨w.heap.size,0,none⟩ (.slice xa D.length xc)).setCell ⟨w.heap.size,1,none⟩ (.slice sd st.length sap)).setCell ⟨w.heap.size,2,none⟩ (.string (S ns))=v:=⟨_,rfl⟩;have hset:Chg (fun b=>b=w.heap.size) w5 w6:=by rw [←hw6];exact (((Chg.refl (fun b=>b=w.heap.size) w5).setCell (p:=⟨w.heap.size,0,none⟩) rfl _).setCell (p:=⟨w.heap.size,1,none⟩) rfl _).setCell (p:=⟨w.heap.size,2,none⟩) rfl _
   have HX6:=qh (show SOut w.heap.size (.slice xa D.length xc) (.slice sd st.length sap) ns d p n w6 from by rw [←hw6];exact (HX5.o.set0 (x:=.slice xa D.length xc)).set1 (x:=(.slice sd st.length sap)) (r:=ns));have HR6:=qh (HR5.o.a0e hset oZ);have HE6:=qh (HE5.o.a0e hset oZ);have HB6:=qh (Chg.a0k HB5.o hset HB5.o.size (fun b h=>by have h9:b=w.heap.size:=h;omega));have HD6:=qh (HD5.o.a0e a0b hset (fun b hb h=>by have h9:b=w.heap.size:=h;have h8:=hb.1;omega))
   go_upto_region 8 with fail
   try rw [hw6]
   clear o0 o1 o2 o3 o4 o5 o6 g0 g1 g2 g3 g4 g5 d0 dz hset hw6 HX5 HR5 HE5 HB5 HD5 HDB5;have HXD:=qh (HX6.o.below bZ.drew);have HRD2:=qh (HR6.o.below bZ.drew);have HEB:=qh (HE6.o.below bZ.drew);have HBD:=qh (HB6.o.trans (bZ.drew.mono HB6.o.size))
   go_upto_region 8 with fail
   refine wp_region_held_drew (S:=fun v=>SOut (w.heap.size) (.slice xa D.length xc) ((.slice sd st.length sap)) ns d p n v∧a0n (w4.heap.size) (.int .i64 x) et v) kZ ⟨HXD.o,HEB.o⟩ (fun hS0=>?_);have HCD:=qh (show Chg (fun b=>b=w.heap.size+1) w6 w6.drew from (Chg.refl _ _).drew);generalize w6.drew=y0 at *;refine tk13 0 hS0 ?_;refine tk13 1 hS0 ?_;refine trd 2 fun K hK=>?_;go_simp;refine (c4p x et _ HED.o).mono ?_;rintro e y1 ⟨rfl,hb⟩;have HR5:=qh (HRD2.o.below hb);have HB5:=bt HBD hb;have HC5:=qh (HCD.o.trans (Below.chg hb _));refine hK.out _ _ ⟨hS0.1.below hb,hS0.2.below hb⟩ (fun hS1=>?_);clear hK K hb
   try simp only [qA,qB,qC,Act.put,qD,qE,qF]
   obtain⟨⟨r0,r1,r2,r3,r4,r5,r6⟩,f0,f1,f2,f3,f4,f5⟩:=HR5.o;obtain⟨V,hV⟩:∃v,((((((y1.setCell ⟨w.heap.size+1,0,none⟩ (.slice xa D.length xc)).setCell ⟨w.heap.size+1,1,none⟩ ((.slice sd st.length sap))).setCell ⟨w.heap.size+1,2,none⟩ (.string (S ns))).setCell ⟨w.heap.size+1,3,none⟩ (.string (S d))).setCell ⟨w.heap.size+1,4,none⟩ (.string (S p))).setCell ⟨w.heap.size+1,5,none⟩ (.int .i64 n))=v:=⟨_,rfl⟩;have hset:Chg (fun b=>b=w.heap.size+1) y1 V:=by rw [←hV];exact (((((((Chg.refl (fun b=>b=w.heap.size+1) y1).setCell (p:=⟨w.heap.size+1,0,none⟩) rfl _).setCell (p:=⟨w.heap.size+1,1,none⟩) rfl _).setCell (p:=⟨w.heap.size+1,2,none⟩) rfl _).setCell (p:=⟨w.heap.size+1,3,none⟩) rfl _).setCell (p:=⟨w.heap.size+1,4,none⟩) rfl _).setCell (p:=⟨w.heap.size+1,5,none⟩) rfl _)
   have HRV:=qh (show SOut (w.heap.size+1) (.slice xa D.length xc) ((.slice sd st.length sap)) ns d p n V from by rw [←hV];exact ((HR5.o.set0 (x:=.slice xa D.length xc)).set1 (x:=(.slice sd st.length sap)) (r:=ns)).set3 (d':=d) (p':=p) (n':=n));have HBV:=qh (Chg.a0k HB5.o hset HB5.o.size (fun b h=>by have h9:b=w.heap.size+1:=h;omega));have HCV:=qh (HC5.o.trans hset);refine trd 3 fun K hK=>?_;go_simp;refine hK.out _ _ (by (try rw [hV]);exact⟨hS1.1.a0e hset (fun h=>by have h9:w.heap.size=w.heap.size+1:=h;omega),hS1.2.a0e hset (fun h=>by have h9:w4.heap.size=w.heap.size+1:=h;omega)⟩) (fun hS2=>?_);clear hK K
   try rw [hV]at hS2⊢
   clear r0 r1 r2 r3 r4 r5 r6 f0 f1 f2 f3 f4 f5
   try simp only [qA,qB,qC,Act.put,qD,qE,qF]
   refine tk13 4 hS2 ?_;refine wpAnyH_done kZ ?_ _;go_wp2
   try rw [hV]
   clear hset hV;obtain⟨q0,q1,q2,q3,q4,q5,q6⟩:=HRV.o.1;refine bodyPost_ret (v:=.tuple #[a1e (.slice xa D.length xc) ((.slice sd st.length sap)) ns d p n,.string (S (P.fmtE (x,et)))]) (by simp [results,Tryz.results237,go_sem,q0,q1,q2,q3,q4,q5]) rfl ⟨.slice xa D.length xc,(.slice sd st.length sap),by rw [HP.o];rfl,by rw [HP.o];exact .inr ⟨_,HD6.o.a0e a0b HCV.o (fun b hb h=>by have h9:b=w.heap.size+1:=h;have h8:=hb.1;omega),fun b hb=>by have h8:=hb.1;omega⟩,by rw [HP.o];exact .inl ⟨rfl,rfl⟩,HBV.o⟩
theorem SOut.setScr {b:Nat} {u us:Value} {sc r d p:Str} {n:Int} {v:World} (h:SOut b u us sc d p n v):SOut b u us r d p n (v.setCell ⟨b,2,none⟩ (.string (S r))):=by
 exact zq27
theorem c0g (lo B:Nat) (ou:Value) (l:P.Dic) (st o:List Int) (sc d p:Str) (n:Int) (w:World) (h:SesM lo B (l,(st,sc)) (d,p,n) w) (hm:Small l) (ht:P.trans l (st,sc)=true) (ho:IntR w ou o) (hE:L.Env w) :
 Calls Tryz.prog 210 #[.pointer (some ⟨B,0,none⟩),ou] w (a4o lo B (P.a2x (l,(st,sc)) o) (d,p,n) w):=by
 have HSM:=qh h
 obtain⟨hEB,hlo,u,us,hS,hR⟩:=h
 have hBz:B<w.heap.size:=hS.1.2.2.2.2.2.2
 have hu:=hR.dic;have hus:=hR.str
 simp only at hS hR hu hus
 obtain⟨ad,cap,rfl,_,_⟩:=id hu
 obtain⟨sd,sap,rfl,_,_⟩:=id hus
 have HU:=qh hu;have HUS:=qh hus;have HO:=qh ho;have HE:=qh hE
 have HX:=qh hS;have HSR:=qh hR
 have HT0S:=qh ht;have HSP:=qh (P.a1h ht)
 have HSD:=qh (b4h (ok:=P.a3m o l) (b0n hm o))
 have HNO:=qh (P.b7f (s:=(l,(st,sc))) (o:=o));have HYES:=qh (P.b3n (s:=(l,(st,sc))) (o:=o))
 have HDS:=qh (show P.a9x (l,(st,sc)) o=P.scr (P.kept (P.a3m o l) (P.del o l)) st from rfl)
 obtain⟨⟨o0,o1,o2,o3,o4,o5,o6⟩,_⟩:=hS
 clear ht hu hus ho hE hR
 simp only at HNO HYES
 go_enter Tryz.func210,Tryz.ntmps210
 go_wp2_with fail
 refine (c4o _ _ l o _ HU.o HO.o hm HE.o.dic).mono ?_
 rintro e w1 ⟨x,rfl,hx,hb⟩
 generalize P.kept (P.a3m o l) (P.del o l)=D at *
 generalize P.a3m o l=q1 at *
 have HB1:=qh hb
 have hz1:=hb.size
 obtain⟨xa,xc,rfl,_,_⟩:=id hx
 have hba:=(Below.refl w1.heap.size w1).alloc lZ (.cells #[.slice xa D.length xc] 26)
 have HX2:=qh ((HX.o.below hb).below hba);have HB2:=bt HB1 hba;have HD2:=qh (hx.below a0b hba)
 have HDB:=qh (Box1.new (.slice xa D.length xc) 26 w1)
 have hz2:w1.heap.size≤(w1.alloc (.cells #[.slice xa D.length xc] 26)).heap.size:=hba.size
 clear o0 o1 o2 o3 o4 o5 o6 hb hba hx HX HB1
 go_upto_region 2 with fail
 generalize w1.alloc (.cells #[.slice xa D.length xc] 26)=w2 at *
 have HXD:=qh (show w2.drew.cell? ⟨w1.heap.size,0,none⟩=some (.slice xa D.length xc)∧w2.drew.cell? ⟨B,1,none⟩=some (.slice sd st.length sap)∧w1.heap.size<w2.drew.heap.size∧B<w2.drew.heap.size from⟨HDB.o.1,HX2.o.1.2.1,HDB.o.2,HX2.o.1.2.2.2.2.2.2⟩)
 have HBD:=qh (show Below w2.heap.size w2 w2.drew from bZ.drew)
 have HSCR:=qh (P.a5y D st)
 obtain⟨ns,fn,hns⟩:∃ns fn,P.scr D st=(ns,fn):=⟨_,_,rfl⟩
 have HNS:=qh hns
 rw [hns]at HDS HSCR
 simp only [HDS.o]at HNO HYES
 simp only at HSCR
 clear hns
 go_cut [8,9] (fun tx ov wx=>tx=.string (S ns)∧ov=.bool fn∧Below w2.heap.size w2 wx)
 case first=>
  refine wp_region_held_drew (S:=fun v=>v.cell? ⟨w1.heap.size,0,none⟩=some (.slice xa D.length xc)∧v.cell? ⟨B,1,none⟩=some (.slice sd st.length sap)∧w1.heap.size<v.heap.size∧B<v.heap.size) kZ HXD.o (fun hS0=>?_);generalize w2.drew=v0 at *;refine tk1 0 hS0 ?_;refine tk1 1 hS0 ?_;refine tk1 2 hS0 ?_;refine tk1 3 hS0 ?_;refine tk1 4 hS0 ?_;refine tk1 5 hS0 ?_;refine trd 6 fun K hK=>?_;go_simp;refine (a4h _ _ D st _ (Ents.read (HD2.o.below a0b HBD.o)) (HUS.o.below (HB2.o.trans (HBD.o.mono HB2.o.size))) HSD.o ((HE.o.below (HB2.o.trans (HBD.o.mono HB2.o.size)) HE.o.size).dic)).mono ?_;rintro e v1 ⟨rfl,hb⟩;rw [HNS.o];simp only;refine hK.out _ _ ⟨(hb.cell (p:=⟨w1.heap.size,0,none⟩) hS0.2.2.1).trans hS0.1,(hb.cell (p:=⟨B,1,none⟩) hS0.2.2.2).trans hS0.2.1,Nat.lt_of_lt_of_le hS0.2.2.1 hb.size,Nat.lt_of_lt_of_le hS0.2.2.2 hb.size⟩ (fun hS1=>?_);clear hK K;have HB4:=bt HBD hb;clear hb
  try simp only [qA,qB,qC,Act.put,qD,qE,qF]
  refine tk1 7 hS1 ?_;refine tk1 8 hS1 ?_;refine tk1 9 hS1 ?_;refine tk1 10 hS1 ?_;refine tk1 11 hS1 ?_;refine wpAnyH_done kZ ?_ _
  go_wp2_with fail
  go_meet;exact⟨rfl,rfl,HB4.o⟩
 case rest=>
  obtain⟨rfl,rfl,hb⟩:=hcut;generalize hww:wc=w3 at *;have HX3:=qh (HX2.o.below hb);have HB3:=bt HB2 hb;have HD3:=qh (HD2.o.below a0b hb);have HDB3:=qh (HDB.o.below hb);have hz3:w1.heap.size≤w3.heap.size:=Nat.le_trans hz2 hb.size;clear hww hb HX2 HB2 HD2 HDB HXD HBD
  cases q1
  ·have HP:=qh (HNO.o (.inl rfl));go_wp2;go_ret2;exact HSM.o.keep (x:=[]) HB3.o HP.o
  ·cases fn
   ·have HP:=qh (HNO.o (.inr rfl));go_wp2;go_ret2;exact HSM.o.keep (x:=[]) HB3.o HP.o
   ·have HP:=qh (HYES.o rfl rfl);obtain⟨hl1,hl2⟩:=HSP.o;have hnl:=P.a3s HSCR.o
    try simp only at hl1 hl2
    obtain⟨⟨o0,o1,o2,o3,o4,o5,o6⟩,g0,g1,g2,g3,g4,g5⟩:=HX3.o;have HED:=qh (show P.a3o (P.least sc ns)=true from P.b0s (P.a2b HT0S.o) HSCR.o)
    go_wp2_with fail
    refine (a7w sc ns _ oZ oZ).mono ?_;rintro e w4 ⟨rfl,hb⟩;obtain⟨x,et,hE⟩:∃x et,P.least sc ns=(x,et):=⟨_,_,rfl⟩;rw [hE]at HP HED⊢;clear hE;have hba:=(Below.refl w4.heap.size w4).alloc lZ (.cells #[.int .i64 x,.string (S et)] 55);have HX5:=qh ((HX3.o.below hb).below hba);have HD5:=qh ((HD3.o.below a0b hb).below a0b hba);have HDB5:=qh ((HDB3.o.below hb).below hba);have HB4:=bt HB3 hb;have HB5:=bt HB4 hba;have HE5:=qh (a0n.new (.int .i64 x) et 55 w4);have hz4:w1.heap.size≤w4.heap.size:=Nat.le_trans hz3 hb.size;have hz5:w1.heap.size≤(w4.alloc (.cells #[.int .i64 x,.string (S et)] 55)).heap.size:=Nat.le_trans hz4 hba.size;clear o0 o1 o2 o3 o4 o5 o6 g0 g1 g2 g3 g4 g5 hb hba HX3 HD3 HDB3 HB3 HB4
    go_upto_region 6 with fail
    generalize w4.alloc (.cells #[.int .i64 x,.string (S et)] 55)=w5 at *;obtain⟨⟨o0,o1,o2,o3,o4,o5,o6⟩,g0,g1,g2,g3,g4,g5⟩:=HX5.o;obtain⟨d0,dz⟩:=HDB5.o;obtain⟨w6,hw6⟩:∃v,(w5.setCell ⟨B,0,none⟩ (.slice xa D.length xc)).setCell ⟨B,2,none⟩ (.string (S ns))=v:=⟨_,rfl⟩;have hset:Chg (fun b=>b=B) w5 w6:=by rw [←hw6];exact ((Chg.refl (fun b=>b=B) w5).setCell (p:=⟨B,0,none⟩) rfl _).setCell (p:=⟨B,2,none⟩) rfl _
    have HX6:=qh (show SOut B (.slice xa D.length xc) (.slice sd st.length sap) ns d p n w6 from by rw [←hw6];exact (HX5.o.set0 (x:=.slice xa D.length xc)).setScr (r:=ns));have HROW:=qh (show a2q lo B w5 (.slice xa D.length xc) (.slice sd st.length sap) D st from HSR.o.other HB5.o lZ hz5 hlo hBz HD5.o);have HSM6:=qh (show SesM lo B (D,(st,ns)) (d,p,n) w6 from⟨hEB,Nat.le_trans hlo (Nat.le_trans HB5.o.size hset.size),_,_,HX6.o,HROW.o.a0e hset (fun b h=>.inl h)⟩);have HE6:=qh (HE5.o.a0e hset oZ);have HC6:=qh (show Chg (fun b=>b=B) w w6 from (Below.chg HB5.o _).trans hset);have HEN:=qh (L.Env.chgB HE.o hEB HC6.o)
    go_upto_region 7 with fail
    try rw [hw6]
    clear o0 o1 o2 o3 o4 o5 o6 g0 g1 g2 g3 g4 g5 d0 dz hset hw6 HX5 HE5 HB5 HD5 HDB5;obtain⟨e0,e1,_⟩:=HE6.o
    go_wp2_with fail
    refine (a4y x et _ HED.o HEN.o).mono ?_;rintro e w7 ⟨rfl,hb⟩;have HC7:=qh (HC6.o.trans (Below.chg hb _));have HS7:=qh (HSM6.o.below hb);clear hb e0 e1;go_wp2;go_ret2;exact⟨P.fmtE (x,et),true,rfl,by rw [HP.o];rfl,by rw [HP.o];exact HS7.o,HC7.o⟩
end Go.Proofs.YtggfdnopminemaaGreatDoor
