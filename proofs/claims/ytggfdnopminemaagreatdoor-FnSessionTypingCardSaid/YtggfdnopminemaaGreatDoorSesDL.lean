/- Walks: an entry deleted in a session (reference and program). -/
import Derived.Test.YtggfdnopminemaaGreatDoorZt
import Derived.Test.YtggfdnopminemaaGreatDoorSesPI
set_option linter.all false
namespace Go.Proofs.YtggfdnopminemaaGreatDoor
namespace P
theorem c5b {s:Ses} {o:List Int} (h:a6j o s.1=false∨(b0o s o).2=false):a6g s o=(s,none):=by
 unfold a6g;rw [if_neg];rintro hc;simp only [Bool.and_eq_true]at hc
 rcases h with h|h
 ·rw [h]at hc;cases hc.1
 ·rw [h]at hc;cases hc.2
theorem b9x {s:Ses} {o:List Int} (h1:a6j o s.1=true) (h2:(b0o s o).2=true):a6g s o=((kept (a6j o s.1) (del o s.1),(s.2.1,(b0o s o).1)),some (fmtE (least s.2.2 (b0o s o).1))):=by
 unfold a6g;rw [if_pos (by rw [h1,h2];rfl)]
end P
open Go Go.RowKit
set_option maxHeartbeats 8000000
set_option maxRecDepth 100000
theorem b9u {ok:Bool} {l:P.Dic} (h:Small l):Small (P.kept ok l):=by
 cases ok
 ·exact⟨by simp [P.kept],by simp [P.kept],by simp [P.kept]⟩
 ·exact h
theorem SOut.setScr {b:Nat} {u us:Value} {sc r d p:Str} {n:Int} {v:World} (h:SOut b u us sc d p n v):SOut b u us r d p n (v.setCell ⟨b,2,none⟩ (.string (S r))):=by
 exact zq14
theorem b6m (lo B:Nat) (ou:Value) (l:P.Dic) (st o:List Int) (sc d p:Str) (n:Int) (w:World) (h:SesM lo B (l,(st,sc)) (d,p,n) w) (hm:Small l) (ht:P.trans l (st,sc)=true) (ho:IntR w ou o) (hE:L.Env w) :
 Calls Tryz.prog 210 #[.pointer (some ⟨B,0,none⟩),ou] w (a4l lo B (P.a6g (l,(st,sc)) o) (d,p,n) w):=by
 have HSM:=qh h
 obtain⟨hEB,hlo,u,us,hS,hR⟩:=h
 have hBz:B<w.heap.size:=hS.1.2.2.2.2.2.2
 have hu:=hR.dic;have hus:=hR.str
 simp only at hS hR hu hus
 obtain⟨ad,cap,rfl,_,_⟩:=id hu
 obtain⟨sd,sap,rfl,_,_⟩:=id hus
 have HU:=qh hu;have HUS:=qh hus;have HO:=qh ho;have HE:=qh hE
 have HX:=qh hS;have HSR:=qh hR
 have HT0S:=qh ht;have HSP:=qh (P.a4h ht)
 have HSD:=qh (b9u (ok:=P.a6j o l) (b1r hm o))
 have HNO:=qh (P.c5b (s:=(l,(st,sc))) (o:=o));have HYES:=qh (P.b9x (s:=(l,(st,sc))) (o:=o))
 have HDS:=qh (show P.b0o (l,(st,sc)) o=P.scr (P.kept (P.a6j o l) (P.del o l)) st from rfl)
 obtain⟨⟨o0,o1,o2,o3,o4,o5,o6⟩,_⟩:=hS
 clear ht hu hus ho hE hR
 simp only at HNO HYES
 go_enter Tryz.func210,Tryz.ntmps210
 go_wp2_with fail
 refine (c0x _ _ l o _ HU.o HO.o hm HE.o.dic).mono ?_
 rintro e w1 ⟨x,rfl,hx,hb⟩
 generalize P.kept (P.a6j o l) (P.del o l)=D at *
 generalize P.a6j o l=q1 at *
 have HB1:=qh hb
 have hz1:=hb.size
 obtain⟨xa,xc,rfl,_,_⟩:=id hx
 have hba:=(Below.refl w1.heap.size w1).alloc lZ (.cells #[.slice xa D.length xc] 26)
 have HX2:=qh ((HX.o.below hb).below hba);have HB2:=bt HB1 hba;have HD2:=qh (hx.below a0e hba)
 have HDB:=qh (Box1.new (.slice xa D.length xc) 26 w1)
 have hz2:w1.heap.size≤(w1.alloc (.cells #[.slice xa D.length xc] 26)).heap.size:=hba.size
 clear o0 o1 o2 o3 o4 o5 o6 hb hba hx HX HB1
 go_upto_region 2 with fail
 generalize w1.alloc (.cells #[.slice xa D.length xc] 26)=w2 at *
 have HXD:=qh (show w2.drew.cell? ⟨w1.heap.size,0,none⟩=some (.slice xa D.length xc)∧w2.drew.cell? ⟨B,1,none⟩=some (.slice sd st.length sap)∧w1.heap.size<w2.drew.heap.size∧B<w2.drew.heap.size from⟨HDB.o.1,HX2.o.1.2.1,HDB.o.2,HX2.o.1.2.2.2.2.2.2⟩)
 have HBD:=qh (show Below w2.heap.size w2 w2.drew from bZ.drew)
 have HSCR:=qh (P.a5o D st)
 obtain⟨ns,fn,hns⟩:∃ns fn,P.scr D st=(ns,fn):=⟨_,_,rfl⟩
 have HNS:=qh hns
 rw [hns]at HDS HSCR
 simp only [HDS.o]at HNO HYES
 simp only at HSCR
 clear hns
 go_cut [8,9] (fun tx ov wx=>tx=.string (S ns)∧ov=.bool fn∧Below w2.heap.size w2 wx)
 case first=>
  refine wp_region_held_drew (S:=fun v=>v.cell? ⟨w1.heap.size,0,none⟩=some (.slice xa D.length xc)∧v.cell? ⟨B,1,none⟩=some (.slice sd st.length sap)∧w1.heap.size<v.heap.size∧B<v.heap.size) kZ HXD.o (fun hS0=>?_);generalize w2.drew=v0 at *;refine tk1 0 hS0 ?_;refine tk1 1 hS0 ?_;refine tk1 2 hS0 ?_;refine tk1 3 hS0 ?_;refine tk1 4 hS0 ?_;refine tk1 5 hS0 ?_;refine trd 6 fun K hK=>?_;go_simp;refine (a3c _ _ D st _ (Ents.read (HD2.o.below a0e HBD.o)) (HUS.o.below (HB2.o.trans (HBD.o.mono HB2.o.size))) HSD.o ((HE.o.below (HB2.o.trans (HBD.o.mono HB2.o.size)) HE.o.size).dic)).mono ?_;rintro e v1 ⟨rfl,hb⟩;rw [HNS.o];simp only;refine hK.out _ _ ⟨(hb.cell (p:=⟨w1.heap.size,0,none⟩) hS0.2.2.1).trans hS0.1,(hb.cell (p:=⟨B,1,none⟩) hS0.2.2.2).trans hS0.2.1,Nat.lt_of_lt_of_le hS0.2.2.1 hb.size,Nat.lt_of_lt_of_le hS0.2.2.2 hb.size⟩ (fun hS1=>?_);clear hK K;have HB4:=bt HBD hb;clear hb
  try simp only [qA,qB,qC,Act.put,qD,qE,qF]
  refine tk1 7 hS1 ?_;refine tk1 8 hS1 ?_;refine tk1 9 hS1 ?_;refine tk1 10 hS1 ?_;refine tk1 11 hS1 ?_;refine wpAnyH_done kZ ?_ _
  go_wp2_with fail
  go_meet;exact⟨rfl,rfl,HB4.o⟩
 case rest=>
  obtain⟨rfl,rfl,hb⟩:=hcut;generalize hww:wc=w3 at *;have HX3:=qh (HX2.o.below hb);have HB3:=bt HB2 hb;have HD3:=qh (HD2.o.below a0e hb);have HDB3:=qh (HDB.o.below hb);have hz3:w1.heap.size≤w3.heap.size:=Nat.le_trans hz2 hb.size;clear hww hb HX2 HB2 HD2 HDB HXD HBD
  cases q1
  ·have HP:=qh (HNO.o (.inl rfl));go_wp2;go_ret2;exact HSM.o.keep (x:=[]) HB3.o HP.o
  ·cases fn
   ·have HP:=qh (HNO.o (.inr rfl));go_wp2;go_ret2;exact HSM.o.keep (x:=[]) HB3.o HP.o
   ·have HP:=qh (HYES.o rfl rfl);obtain⟨hl1,hl2⟩:=HSP.o;have hnl:=P.a2m HSCR.o
    try simp only at hl1 hl2
    obtain⟨⟨o0,o1,o2,o3,o4,o5,o6⟩,g0,g1,g2,g3,g4,g5⟩:=HX3.o;have HED:=qh (show P.a3d (P.least sc ns)=true from P.a9g (P.a2c HT0S.o) HSCR.o)
    go_wp2_with fail
    refine (a6x sc ns _ oZ oZ).mono ?_;rintro e w4 ⟨rfl,hb⟩;obtain⟨x,et,hE⟩:∃x et,P.least sc ns=(x,et):=⟨_,_,rfl⟩;rw [hE]at HP HED⊢;clear hE;have hba:=(Below.refl w4.heap.size w4).alloc lZ (.cells #[.int .i64 x,.string (S et)] 55);have HX5:=qh ((HX3.o.below hb).below hba);have HD5:=qh ((HD3.o.below a0e hb).below a0e hba);have HDB5:=qh ((HDB3.o.below hb).below hba);have HB4:=bt HB3 hb;have HB5:=bt HB4 hba;have HE5:=qh (a0w.new (.int .i64 x) et 55 w4);have hz4:w1.heap.size≤w4.heap.size:=Nat.le_trans hz3 hb.size;have hz5:w1.heap.size≤(w4.alloc (.cells #[.int .i64 x,.string (S et)] 55)).heap.size:=Nat.le_trans hz4 hba.size;clear o0 o1 o2 o3 o4 o5 o6 g0 g1 g2 g3 g4 g5 hb hba HX3 HD3 HDB3 HB3 HB4
    go_upto_region 6 with fail
    generalize w4.alloc (.cells #[.int .i64 x,.string (S et)] 55)=w5 at *;obtain⟨⟨o0,o1,o2,o3,o4,o5,o6⟩,g0,g1,g2,g3,g4,g5⟩:=HX5.o;obtain⟨d0,dz⟩:=HDB5.o;obtain⟨w6,hw6⟩:∃v,(w5.setCell ⟨B,0,none⟩ (.slice xa D.length xc)).setCell ⟨B,2,none⟩ (.string (S ns))=v:=⟨_,rfl⟩;have hset:Chg (fun b=>b=B) w5 w6:=by rw [←hw6];exact ((Chg.refl (fun b=>b=B) w5).setCell (p:=⟨B,0,none⟩) rfl _).setCell (p:=⟨B,2,none⟩) rfl _
    have HX6:=qh (show SOut B (.slice xa D.length xc) (.slice sd st.length sap) ns d p n w6 from by rw [←hw6];exact (HX5.o.set0 (x:=.slice xa D.length xc)).setScr (r:=ns));have HROW:=qh (show a2s lo B w5 (.slice xa D.length xc) (.slice sd st.length sap) D st from HSR.o.other HB5.o lZ hz5 hlo hBz HD5.o);have HSM6:=qh (show SesM lo B (D,(st,ns)) (d,p,n) w6 from⟨hEB,Nat.le_trans hlo (Nat.le_trans HB5.o.size hset.size),_,_,HX6.o,HROW.o.a0c hset (fun b h=>.inl h)⟩);have HE6:=qh (HE5.o.a0c hset oZ);have HC6:=qh (show Chg (fun b=>b=B) w w6 from (Below.chg HB5.o _).trans hset);have HEN:=qh (L.Env.chgB HE.o hEB HC6.o)
    go_upto_region 7 with fail
    try rw [hw6]
    clear o0 o1 o2 o3 o4 o5 o6 g0 g1 g2 g3 g4 g5 d0 dz hset hw6 HX5 HE5 HB5 HD5 HDB5;obtain⟨e0,e1,_⟩:=HE6.o
    go_wp2_with fail
    refine (a2f x et _ HED.o HEN.o).mono ?_;rintro e w7 ⟨rfl,hb⟩;have HC7:=qh (HC6.o.trans (Below.chg hb _));have HS7:=qh (HSM6.o.below hb);clear hb e0 e1;go_wp2;go_ret2;exact⟨P.fmtE (x,et),true,rfl,by rw [HP.o];rfl,by rw [HP.o];exact HS7.o,HC7.o⟩
theorem Box1.set1 {b:Nat} {x y:Value} {v:World} (h0:v.cell? ⟨b,0,none⟩=some x) (hz:b<v.heap.size):Box1 b y (v.setCell ⟨b,0,none⟩ y):=⟨by go_simp,by simpa [World.setCell] using hz⟩
def DfS (B:Nat) (u us:Value) (sc:Str) (v:World):Prop:=v.cell? ⟨B,0,none⟩=some u∧v.cell? ⟨B,1,none⟩=some us∧v.cell? ⟨B,2,none⟩=some (.string (S sc))∧B<v.heap.size
theorem DfS.a0c {B:Nat} {u us:Value} {sc:Str} {v v':World} {X:Blk} (h:DfS B u us sc v) (hc:Chg X v v') (hX:¬X B):DfS B u us sc v':=
 ⟨(hc.cell (p:=⟨B,0,none⟩) h.2.2.2 hX).trans h.1,(hc.cell (p:=⟨B,1,none⟩) h.2.2.2 hX).trans h.2.1,(hc.cell (p:=⟨B,2,none⟩) h.2.2.2 hX).trans h.2.2.1,Nat.lt_of_lt_of_le h.2.2.2 hc.size⟩
structure DfSt (wr:World) (B:Nat) (u us:Value) (sc:Str) (o1 o2 o3:Option Nat) (v:World):Prop where
 s:DfS B u us sc v
 hB:B<wr.heap.size
 bw:Below wr.heap.size wr v
 d:∀b,o1=some b→(wr.heap.size≤b∧b<v.heap.size)∧v.cell? ⟨b,0,none⟩=some (.slice none 0 0)∧v.frozen? ⟨b,0,none⟩=false
 t:∀b,o2=some b→wr.heap.size≤b∧TBx b (.slice none 0 0) [] v
 e:∀b,o3=some b→wr.heap.size≤b∧EBx b v
 n12:∀a b,o1=some a→o2=some b→a≠b
 n13:∀a b,o1=some a→o3=some b→a≠b
 n23:∀a b,o2=some a→o3=some b→a≠b
theorem DfSt.below {wr:World} {B:Nat} {u us:Value} {sc:Str} {o1 o2 o3:Option Nat} {v v':World} (h:DfSt wr B u us sc o1 o2 o3 v) (hb:Below v.heap.size v v'):DfSt wr B u us sc o1 o2 o3 v':=
 ⟨h.s.a0c (Below.chg hb fun _=>False) (fun h=>h),h.hB,h.bw.trans (hb.mono h.bw.size),
  fun b e=>by obtain⟨h1,h2,h3⟩:=h.d b e;exact⟨⟨h1.1,Nat.lt_of_lt_of_le h1.2 hb.size⟩,(hb.cell (p:=⟨b,0,none⟩) h1.2).trans h2,((Below.chg hb fun _=>False).frozen (p:=⟨b,0,none⟩) h1.2 (fun h=>h)).trans h3⟩,
  fun b e=>⟨(h.t b e).1,(h.t b e).2.below hb⟩,fun b e=>⟨(h.e b e).1,(h.e b e).2.below hb⟩,h.n12,h.n13,h.n23⟩
theorem DfSt.b0n {wr:World} {B:Nat} {u us:Value} {sc:Str} {o2 o3:Option Nat} {v:World} (h:DfSt wr B u us sc none o2 o3 v):DfSt wr B u us sc (some v.heap.size) o2 o3 (v.alloc (.cells #[.slice none 0 0] 26)):=by
 have hb:=(Below.refl v.heap.size v).alloc lZ (.cells #[.slice none 0 0] 26);have g:=h.below hb;refine⟨g.s,g.hB,g.bw,fun b e=>?_,g.t,g.e,fun a b e1 e2=>?_,fun a b e1 e2=>?_,g.n23⟩
 ·injection e with e;subst e;exact⟨⟨h.bw.size,by simp⟩,by go_simp,by go_simp⟩
 ·injection e1 with e1;have:=(h.t b e2).2.1;omega
 ·injection e1 with e1;have:=(h.e b e2).2.1;omega
theorem DfSt.b0p {wr:World} {B:Nat} {u us:Value} {sc:Str} {o1 o3:Option Nat} {v:World} (h:DfSt wr B u us sc o1 none o3 v):DfSt wr B u us sc o1 (some v.heap.size) o3 (v.alloc (.cells #[.slice none 0 0,.string (S [])] 35)):=by
 have hb:=(Below.refl v.heap.size v).alloc lZ (.cells #[.slice none 0 0,.string (S [])] 35);have g:=h.below hb;refine⟨g.s,g.hB,g.bw,g.d,fun b e=>?_,g.e,fun a b e1 e2=>?_,g.n13,fun a b e1 e2=>?_⟩
 ·injection e with e;subst e;exact⟨h.bw.size,TBx.new _ _ _⟩
 ·injection e2 with e2;have:=(h.d a e1).1.2;omega
 ·injection e1 with e1;have:=(h.e b e2).2.1;omega
theorem DfSt.b0s {wr:World} {B:Nat} {u us:Value} {sc:Str} {o1 o2:Option Nat} {v:World} (h:DfSt wr B u us sc o1 o2 none v):DfSt wr B u us sc o1 o2 (some v.heap.size) (v.alloc (.cells #[.int .i64 0,.string (S [])] 55)):=by
 have hb:=(Below.refl v.heap.size v).alloc lZ (.cells #[.int .i64 0,.string (S [])] 55);have g:=h.below hb;refine⟨g.s,g.hB,g.bw,g.d,g.t,fun b e=>?_,g.n12,fun a b e1 e2=>?_,fun a b e1 e2=>?_⟩
 ·injection e with e;subst e;exact⟨h.bw.size,EBx.new _⟩
 ·injection e2 with e2;have:=(h.d a e1).1.2;omega
 ·injection e2 with e2;have:=(h.t a e1).2.1;omega
def DfR (wr:World) (o1 o2 o3:Option Nat) (nu nus:Value) (D:P.Dic) (ns:List Int) (v:World):Prop:=
 ∃F G:Blk,Ents v F nu D∧Ints v G nus ns∧(∀b,F b→(wr.heap.size≤b∧b<v.heap.size)∧o1≠some b∧o2≠some b∧o3≠some b)∧(∀b,G b→(wr.heap.size≤b∧b<v.heap.size)∧o1≠some b∧o2≠some b∧o3≠some b)∧∀b,F b→¬G b
theorem DfR.a0c {wr:World} {o1 o2 o3:Option Nat} {nu nus:Value} {D:P.Dic} {ns:List Int} {v v':World} {X:Blk} (h:DfR wr o1 o2 o3 nu nus D ns v) (hc:Chg X v v') (hX:∀b,X b→b<v.heap.size→o1=some b∨o2=some b∨o3=some b):DfR wr o1 o2 o3 nu nus D ns v':=by
 obtain⟨F,G,h1,h2,h3,h4,h5⟩:=h;have hz:=hc.size;refine⟨F,G,h1.a0c a0e hc (fun b hb hx=>?_),h2.a0c a1a hc (fun b hb hx=>?_),fun b hb=>⟨⟨(h3 b hb).1.1,Nat.lt_of_lt_of_le (h3 b hb).1.2 hz⟩,(h3 b hb).2⟩,fun b hb=>⟨⟨(h4 b hb).1.1,Nat.lt_of_lt_of_le (h4 b hb).1.2 hz⟩,(h4 b hb).2⟩,h5⟩
 ·obtain⟨g1,g2,g3,g4⟩:=h3 b hb
  rcases hX b hx g1.2 with e|e|e
  ·exact g2 e
  ·exact g3 e
  ·exact g4 e
 ·obtain⟨g1,g2,g3,g4⟩:=h4 b hb
  rcases hX b hx g1.2 with e|e|e
  ·exact g2 e
  ·exact g3 e
  ·exact g4 e
theorem DfR.alloc {wr:World} {o1 o2 o3 p1 p2 p3:Option Nat} {nu nus:Value} {D:P.Dic} {ns:List Int} {v:World} (h:DfR wr o1 o2 o3 nu nus D ns v) (o:Obj) (h1:p1=o1∨p1=some v.heap.size) (h2:p2=o2∨p2=some v.heap.size) (h3:p3=o3∨p3=some v.heap.size):DfR wr p1 p2 p3 nu nus D ns (v.alloc o):=by
 obtain⟨F,G,k1,k2,k3,k4,k5⟩:=h.a0c (X:=fun _=>False) ((Chg.refl _ _).alloc o) (fun _ h=>h.elim);obtain⟨F0,G0,g1,g2,g3,g4,g5⟩:=h;have hb:=(Below.refl v.heap.size v).alloc lZ o
 have key:∀b,b<v.heap.size→o1≠some b→o2≠some b→o3≠some b→p1≠some b∧p2≠some b∧p3≠some b:=by
  intro b hb e1 e2 e3;refine⟨?_,?_,?_⟩
  ·rcases h1 with rfl|rfl
   ·exact e1
   ·intro e;injection e with e;omega
  ·rcases h2 with rfl|rfl
   ·exact e2
   ·intro e;injection e with e;omega
  ·rcases h3 with rfl|rfl
   ·exact e3
   ·intro e;injection e with e;omega
 exact⟨F0,G0,g1.below a0e hb,g2.below a1a hb,fun b q=>⟨⟨(g3 b q).1.1,Nat.lt_of_lt_of_le (g3 b q).1.2 hb.size⟩,key b (g3 b q).1.2 (g3 b q).2.1 (g3 b q).2.2.1 (g3 b q).2.2.2⟩,fun b q=>⟨⟨(g4 b q).1.1,Nat.lt_of_lt_of_le (g4 b q).1.2 hb.size⟩,key b (g4 b q).1.2 (g4 b q).2.1 (g4 b q).2.2.1 (g4 b q).2.2.2⟩,g5⟩
theorem DfR.called {wr:World} {B:Nat} {u us:Value} {sc:Str} {o1 o2 o3:Option Nat} {nu nus:Value} {D:P.Dic} {ns:List Int} {v v':World} {m:Nat} (h:DfSt wr B u us sc o1 o2 o3 v) (h1:Ents v' (Bet v.heap.size m) nu D) (h2:OwnK m v' nus ns) (h3:v.heap.size≤m) (h4:m≤v'.heap.size) (hl:ns.length≤2^30):DfR wr o1 o2 o3 nu nus D ns v':=by
 have key:∀b,v.heap.size≤b→o1≠some b∧o2≠some b∧o3≠some b:=fun b _=>
  ⟨fun e=>by have:=(h.d b e).1.2;omega,fun e=>by have:=(h.t b e).2.1;omega,fun e=>by have:=(h.e b e).2.1;omega⟩
 have hw:=h.bw.size;refine⟨Bet v.heap.size m,BetO m v'.heap.size nus,h1,a7e h2 hl,fun b q=>?_,fun b q=>?_,fun b q g=>?_⟩
 ·have e1:=q.1;have e2:=q.2;exact⟨⟨by omega,by omega⟩,key b e1⟩
 ·have e1:=q.1;exact⟨⟨by omega,e1.2⟩,key b oZ⟩
 ·have e1:=q.2;have e2:=g.1.1;omega
theorem DfR.low {wr:World} {o1 o2 o3:Option Nat} {nu nus:Value} {D:P.Dic} {ns:List Int} {v v':World} {X:Blk} (h:DfR wr o1 o2 o3 nu nus D ns v) (hc:Chg X v v') (hX:∀b,X b→b<wr.heap.size):DfR wr o1 o2 o3 nu nus D ns v':=by
 obtain⟨F,G,h1,h2,h3,h4,h5⟩:=h;have hz:=hc.size;refine⟨F,G,h1.a0c a0e hc (fun b hb hx=>?_),h2.a0c a1a hc (fun b hb hx=>?_),fun b hb=>⟨⟨(h3 b hb).1.1,Nat.lt_of_lt_of_le (h3 b hb).1.2 hz⟩,(h3 b hb).2⟩,fun b hb=>⟨⟨(h4 b hb).1.1,Nat.lt_of_lt_of_le (h4 b hb).1.2 hz⟩,(h4 b hb).2⟩,h5⟩
 ·have g1:=(h3 b hb).1.1;have g2:=hX b hx;omega
 ·have g1:=(h4 b hb).1.1;have g2:=hX b hx;omega
theorem DfR.below {wr:World} {o1 o2 o3:Option Nat} {nu nus:Value} {D:P.Dic} {ns:List Int} {v v':World} (h:DfR wr o1 o2 o3 nu nus D ns v) (hb:Below v.heap.size v v'):DfR wr o1 o2 o3 nu nus D ns v':=h.low (Below.chg hb fun _=>False) fun _ h=>h.elim
theorem DfR.dic {wr:World} {o1 o2 o3:Option Nat} {nu nus:Value} {D:P.Dic} {ns:List Int} {v:World} (h:DfR wr o1 o2 o3 nu nus D ns v):EntR v nu D:=by obtain⟨_,_,h1,_⟩:=h;exact Ents.read h1
theorem DfR.str {wr:World} {o1 o2 o3:Option Nat} {nu nus:Value} {D:P.Dic} {ns:List Int} {v:World} (h:DfR wr o1 o2 o3 nu nus D ns v):IntR v nus ns:=by obtain⟨_,_,_,h2,_⟩:=h;exact Ints.read h2
theorem DfR.rows {lo B:Nat} {wr:World} {o1 o2 o3:Option Nat} {nu nus:Value} {D:P.Dic} {ns:List Int} {v:World} (h:DfR wr o1 o2 o3 nu nus D ns v) (hlo:lo≤wr.heap.size) (hB:B<wr.heap.size):a2s lo B v nu nus D ns:=by
 obtain⟨F,G,h1,h2,h3,h4,h5⟩:=h;exact⟨F,G,h1,h2,fun b hb=>by have:=(h3 b hb).1;exact⟨by omega,this.2,by omega⟩,fun b hb=>by have:=(h4 b hb).1;exact⟨by omega,this.2,by omega⟩,h5⟩
namespace P
theorem b6u {d:Dic} {t:Tr} {e:Ent} (h:(a3y d t e).2=true):a3d (a3y d t e).1.2=true:=by
 unfold a3y at h⊢
 split
 ·rename_i hc
  simp only [Bool.and_eq_true]at hc;exact a9g (a2c hc.1) (a5o _ _)
 ·rename_i hc;rw [if_neg hc]at h;cases h
theorem b5z (d:Dic) (t:Tr) (e:Ent):(a3y d t e).1.1.2.1.length≤t.1.length:=by
 unfold a3y
 split
 ·exact Nat.le_refl _
 ·exact Nat.zero_le _
end P
end Go.Proofs.YtggfdnopminemaaGreatDoor
