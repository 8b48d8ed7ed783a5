/- What a command leaves: stores of a whole session, the answer. -/
import Derived.Test.YtggfdnopminemaaGreatDoorZt
import Derived.Test.YtggfdnopminemaaGreatDoorSesO2
namespace Go.Proofs.YtggfdnopminemaaGreatDoor
open Go Go.RowKit
set_option maxHeartbeats 8000000
set_option maxRecDepth 100000
def wr6 (v:World) (b:Nat) (u us:Value) (sc d p:Str) (n:Int):World:=
 (((((v.setCell ⟨b,0,none⟩ u).setCell ⟨b,1,none⟩ us).setCell ⟨b,2,none⟩ (.string (S sc))).setCell ⟨b,3,none⟩ (.string (S d))).setCell ⟨b,4,none⟩ (.string (S p))).setCell ⟨b,5,none⟩ (.int .i64 n)
theorem a4f (v:World) (b:Nat) (u us:Value) (sc d p:Str) (n:Int):Chg (fun k=>k=b) v (wr6 v b u us sc d p n):=by
 have h:=Chg.refl (fun k=>k=b) v;exact (((((h.setCell (p:=⟨b,0,none⟩) rfl _).setCell (p:=⟨b,1,none⟩) rfl _).setCell (p:=⟨b,2,none⟩) rfl _).setCell (p:=⟨b,3,none⟩) rfl _).setCell (p:=⟨b,4,none⟩) rfl _).setCell (p:=⟨b,5,none⟩) rfl _
theorem a5m {v:World} {b:Nat} {u0 us0:Value} {sc0 d0 p0:Str} {n0:Int} (h:SOut b u0 us0 sc0 d0 p0 n0 v) (u us:Value) (sc d p:Str) (n:Int):SOut b u us sc d p n (wr6 v b u us sc d p n):=
 ((h.set0 (x:=u)).set1 (x:=us) (r:=sc)).set3
def wr3 (v:World) (b:Nat) (d p:Str) (n:Int):World:=((v.setCell ⟨b,3,none⟩ (.string (S d))).setCell ⟨b,4,none⟩ (.string (S p))).setCell ⟨b,5,none⟩ (.int .i64 n)
theorem b8b (v:World) (b:Nat) (d p:Str) (n:Int):Chg (fun k=>k=b) v (wr3 v b d p n):=
 (((Chg.refl (fun k=>k=b) v).setCell (p:=⟨b,3,none⟩) rfl _).setCell (p:=⟨b,4,none⟩) rfl _).setCell (p:=⟨b,5,none⟩) rfl _
theorem a2k.lo {lo lo' B:Nat} {v:World} {u us:Value} {l:P.Dic} {st:List Int} (h:a2k lo B v u us l st) (hl:lo'≤lo):a2k lo' B v u us l st:=by
 obtain⟨F,G,h1,h2,h3,h4,h5⟩:=h;exact⟨F,G,h1,h2,fun b hb=>⟨Nat.le_trans hl (h3 b hb).1,(h3 b hb).2⟩,fun b hb=>⟨Nat.le_trans hl (h4 b hb).1,(h4 b hb).2⟩,h5⟩
theorem a2k.a5r {lo B:Nat} {v v':World} {u us:Value} {l:P.Dic} {st:List Int} {X:Blk} (h:a2k lo B v u us l st) (hc:Chg X v v') (hX:∀b,X b→b<lo):a2k lo B v' u us l st:=by
 obtain⟨F,G,h1,h2,h3,h4,h5⟩:=h;have hz:=hc.size;exact⟨F,G,h1.a0c a0e hc (fun b hb hx=>by have:=h3 b hb;have:=hX b hx;omega),h2.a0c a0t hc (fun b hb hx=>by have:=h4 b hb;have:=hX b hx;omega),fun b hb=>⟨(h3 b hb).1,Nat.lt_of_lt_of_le (h3 b hb).2.1 hz,(h3 b hb).2.2⟩,fun b hb=>⟨(h4 b hb).1,Nat.lt_of_lt_of_le (h4 b hb).2.1 hz,(h4 b hb).2.2⟩,h5⟩
theorem a2k.of {lo B m:Nat} {w v:World} {u us:Value} {l:P.Dic} {st:List Int} (h1:Ents v (Bet w.heap.size m) u l) (h2:Ints v (Bet m v.heap.size) us st) (hlo:lo≤w.heap.size) (hm:m≤v.heap.size) (hwm:w.heap.size≤m) (hB:v.heap.size≤B∨B<w.heap.size):a2k lo B v u us l st:=
 ⟨_,_,h1,h2,fun b hb=>⟨Nat.le_trans hlo hb.1,Nat.lt_of_lt_of_le hb.2 hm,fun e=>by have h3:=hb.1;have h4:=hb.2;omega⟩,fun b hb=>⟨Nat.le_trans (Nat.le_trans hlo hwm) hb.1,hb.2,fun e=>by have h3:=hb.1;have h4:=hb.2;omega⟩,fun b hb hg=>by have h3:=hb.2;have h4:=hg.1;omega⟩
theorem SesM.log {lo B:Nat} {s:P.Ses} {g:P.LogT} {v:World} {d p:Str} {n:Int} (h:SesM lo B s g v):SesM lo B s (d,p,n) (wr3 v B d p n):=by
 obtain⟨h0,h1,u,us,h2,h3⟩:=h;exact⟨h0,Nat.le_trans h1 (b8b v B d p n).size,u,us,h2.set3,h3.a0c (b8b v B d p n) (fun b h=>.inl h)⟩
theorem SesM.chg {lo B:Nat} {s:P.Ses} {g:P.LogT} {v v':World} {X:Blk} (h:SesM lo B s g v) (hc:Chg X v v') (hX:∀b,X b→b<lo) (hB:¬X B):SesM lo B s g v':=by
 obtain⟨h0,h1,u,us,h2,h3⟩:=h;exact⟨h0,Nat.le_trans h1 hc.size,u,us,h2.a0c hc hB,h3.a5r hc hX⟩
def d7l (a:(P.Ses×P.LogT)×Str) (w:World) (e:Ending) (w':World):Prop:=
 ∃u us B,e=.returned (.tuple #[a1d u us a.1.1.2.2 a.1.2.1 a.1.2.2.1 a.1.2.2.2,.string (S a.2)])∧a2k w.heap.size B w' u us a.1.1.1 a.1.1.2.1∧Below w.heap.size w w'
theorem b5q (o:Option Str):P.a4y o=if 200<(txtB o).length then P.wLong else txtB o:=by
 cases o with
 |none=>rfl
 |some r=>rfl
theorem c8n (lo B:Nat) (l:P.Dic) (st:List Int) (sc d p:Str) (n:Int) (word more:Str) (w:World) (h:SesM lo B (l,(st,sc)) (d,p,n) w) (hm:Small l) (ht:P.trans l (st,sc)=true) (hl:more.length≤2^20) (hE:L.Env w) :
 Calls Tryz.prog 70 #[.pointer (some ⟨B,0,none⟩),.string (S word),.string (S more)] w (a5b lo B (P.args (l,(st,sc)) word more) (d,p,n) w):=by
 have HSM:=qh h;have HE:=qh hE;have HT:=qh ht
 have HP0:=qh (show P.args (l,(st,sc)) word more=if word=P.d2c then P.a5j (l,(st,sc)) more else if word=P.c9g∨word=P.b1h∨word=P.c3y then P.a5n (l,(st,sc)) word more else if word=P.c3v then P.a1j (l,(st,sc)) more else if word=P.b8t then ((l,(st,sc)),P.a5g l more) else if word=P.d9y then ((l,(st,sc)),P.a0w more) else if word=P.d2q then ((l,(st,sc)),P.c1h more) else ((l,(st,sc)),none) from rfl)
 have HDC:=qh (P.a8p ht)
 clear h hE ht
 by_cases h1:word=[112,114,101,115,115]
 ·have HP0:=qh (HP0.o.trans (if_pos h1));have f1:=P.beqB h1;clear h1
  go_enter Tryz.func70,Tryz.ntmps70
  go_wp2_with fail
  refine (a7i more _ oZ).mono ?_;rintro e w1 ⟨rfl,hb⟩;have HB1:=qh hb;clear hb;have HPR:=qh (show P.a5j (l,(st,sc)) more=if (P.parse more).2 then P.typed (l,(st,sc)) [((P.parse more).1:Int)] else ((l,(st,sc)),none) from rfl);generalize P.parse more=q at *;obtain⟨k,q⟩:=q;simp only at HPR⊢
  cases q
  ·have HP:=qh (HP0.o.trans (HPR.o.trans (if_neg dZ)));go_wp2;go_ret2;exact HSM.o.keep (x:=[]) HB1.o HP.o
  ·have HP:=qh (HP0.o.trans (HPR.o.trans (if_pos rfl)));have hba:=(Below.refl w1.heap.size w1).alloc lZ (.cells #[.int .i64 (k:Int)] 3);have HB2:=bt HB1 hba;have HS2:=qh (HSM.o.below HB2.o);have HE2:=qh (HE.o.below HB2.o HE.o.size);have HO:=qh (b8d (k:Int) w1);clear hba
   go_wp2_with fail
   refine (a9h lo B _ l st [(k:Int)] sc d p n _ HS2.o hm HT.o HO.o HE2.o).mono ?_;rintro e w2 hmp;obtain⟨x,ok,rfl,hx,hs,hc⟩:=hmp.after HB2.o;have HX:=qh hx;have HS:=qh hs;have HC:=qh hc;clear hmp hx hs hc;exact zq26
 have HP1:=qh (HP0.o.trans (if_neg h1))
 have f1:=P.beqN h1
 clear HP0 h1
 by_cases ho_type:word=[116,121,112,101]
 ·have HP:=qh (HP1.o.trans (if_pos (.inl ho_type)));have f_type:=P.beqB ho_type;clear ho_type;exact d9z
 by_cases ho_delete:word=[100,101,108,101,116,101]
 ·have HP:=qh (HP1.o.trans (if_pos (.inr (.inl ho_delete))));have f_type:=P.beqN ho_type;have f_delete:=P.beqB ho_delete;clear ho_delete ho_type;exact d9z
 by_cases ho_lookup:word=[108,111,111,107,117,112]
 ·have HP:=qh (HP1.o.trans (if_pos (.inr (.inr ho_lookup))));have f_type:=P.beqN ho_type;have f_delete:=P.beqN ho_delete;have f_lookup:=P.beqB ho_lookup;clear ho_lookup ho_type ho_delete;exact d9z
 have HP2:=qh (HP1.o.trans (if_neg (fun h=>by rcases h with h|h|h;exact ho_type h;exact ho_delete h;exact ho_lookup h)))
 have f_type:=P.beqN ho_type;have f_delete:=P.beqN ho_delete;have f_lookup:=P.beqN ho_lookup
 clear HP1 ho_type ho_delete ho_lookup
 by_cases h3:word=[100,101,102,105,110,101]
 ·have HP:=qh (HP2.o.trans (if_pos h3));have f3:=P.beqB h3;clear h3
  go_enter Tryz.func70,Tryz.ntmps70
  go_wp2_with fail
  refine (b9v lo B l st sc d p n more _ HSM.o hm HT.o hl HE.o).mono ?_;exact zq24
 have HP3:=qh (HP2.o.trans (if_neg h3))
 have f3:=P.beqN h3
 clear HP2 h3
 by_cases h4:word=[114,101,118,101,114,115,101]
 ·have HP:=qh (HP3.o.trans (if_pos h4));have f4:=P.beqB h4;clear h4
  go_enter Tryz.func70,Tryz.ntmps70
  go_wp2_with fail
  refine (b9f lo B l st sc d p n more _ HSM.o hm HDC.o hl HE.o).mono ?_;exact zq24
 have HP4:=qh (HP3.o.trans (if_neg h4))
 have f4:=P.beqN h4
 clear HP3 h4
 by_cases h5:word=[106,111,105,110]
 ·have HP:=qh (HP4.o.trans (if_pos h5));have f5:=P.beqB h5;have HJ:=qh (P.c8v more);have hcl:=P.a8e more [32];clear h5
  go_enter Tryz.func70,Tryz.ntmps70
  go_wp2_with fail
  refine (L.b8g more 32 _ oZ HE.o).mono ?_;rintro e w1 ⟨rfl,k1,rfl⟩;obtain⟨x,y,q,hcut⟩:∃x y b,Lib.cut more [32]=(x,y,b):=⟨_,_,_,rfl⟩;rw [hcut]at HJ hcl⊢;simp only at HJ hcl⊢;clear hcut;have HB1:=qh (show Below w.heap.size w (w.drewN k1) from below_drewN bZ _);generalize w.drewN k1=w1 at *
  go_wp2_with fail
  refine (a7z x y _ oZ oZ).mono ?_;rintro e w2 ⟨rfl,hb⟩;have HB2:=bt HB1 hb;clear hb;go_wp2;go_ret2;exact⟨_,_,rfl,by rw [HP.o,←HJ.o];rfl,by rw [HP.o];exact HSM.o.below HB2.o,Below.chg HB2.o _⟩
 have HP5:=qh (HP4.o.trans (if_neg h5))
 have f5:=P.beqN h5
 clear HP4 h5
 by_cases h6:word=[108,111,111,115,101]
 ·have HP0:=qh (HP5.o.trans (if_pos h6));have f6:=P.beqB h6;clear h6
  go_enter Tryz.func70,Tryz.ntmps70
  go_wp2_with fail
  refine (a7p more _ oZ).mono ?_;rintro e w1 ⟨rfl,hb⟩;have HB1:=qh hb;clear hb;have HPL:=qh (show P.c1h more=if (P.loose more).2 then some (P.fmt ((P.loose more).1:Int)) else none from rfl);have HLS:=qh (P.a7s (t:=more));generalize P.loose more=q at *;obtain⟨k,q⟩:=q;simp only at HPL HLS⊢
  cases q
  ·have HP:=qh (show P.args (l,(st,sc)) word more=((l,(st,sc)),none) from by rw [HP0.o,HPL.o];rfl);go_wp2;go_ret2;exact HSM.o.keep (x:=[]) HB1.o HP.o
  ·have HST:=qh (HLS.o rfl)
   go_wp2_with fail
   refine (a2v k _ HST.o).mono ?_;rintro e w2 ⟨rfl,hb⟩;have HB2:=bt HB1 hb;clear hb;go_wp2;go_ret2;exact⟨_,_,rfl,by rw [HP0.o,HPL.o];rfl,by rw [HP0.o];exact HSM.o.below HB2.o,Below.chg HB2.o _⟩
 have HP:=qh (HP5.o.trans (if_neg h6))
 have f6:=P.beqN h6
 clear HP5 h6
 go_enter Tryz.func70,Tryz.ntmps70
 go_wp2
 go_ret2
 exact HSM.o.keep (x:=[]) bZ HP.o
theorem c0n (u us:Value) (l:P.Dic) (st:List Int) (sc d p:Str) (n:Int) (line:Str) (w:World) (hu:EntR w u l) (hus:IntR w us st) (hf:P.Fit (l,(st,sc)) (d,p,n)) (hl:line.length≤2^20) (hE:L.Env w) :
 Calls Tryz.prog 19 #[a1d u us sc d p n,.string (S line)] w (d7l (P.exec (l,(st,sc)) (d,p,n) line) w):=by
 obtain⟨hf1,hf2,hf3,hf4,hf5,hf6⟩:=hf
 have hm:Small l:=⟨hf1,hf2,hf3⟩
 simp only at hf4 hf5 hf6
 clear hf1 hf2 hf3
 have hu0:=hu;have hus0:=hus
 obtain⟨ad,cap,rfl,_,_⟩:=hu0
 obtain⟨sd,sap,rfl,_,_⟩:=hus0
 obtain⟨W0,hW0⟩:∃v,(w.alloc (a0d (.slice ad l.length cap) (.slice sd st.length sap) sc d p n)).alloc (a0d (.slice none 0 0) (.slice none 0 0) [] [] [] 0)=v:=⟨_,rfl⟩
 have hb0:Below w.heap.size w W0:=by rw [←hW0];exact ((Below.refl w.heap.size w).alloc lZ _).alloc sZ _
 have hzW:W0.heap.size=w.heap.size+2:=by rw [←hW0];simp
 have hq0:SQ w.heap.size (.slice ad l.length cap) (.slice sd st.length sap) sc d p n W0:=by
  exact zq91
 have HU:=qh hu;have HUS:=qh hus;have HE:=qh hE
 have HQ:=qh hq0;have HB:=qh hb0
 have hzW2:w.heap.size+2≤W0.heap.size:=by omega
 clear hq0 hb0 hu hus hE hzW
 go_enter Tryz.func19,Tryz.ntmps19
 go_upto_region 1 with fail
 try rw [hW0]
 clear hW0
 obtain⟨⟨o0,o1,o2,o3,o4,o5,o6⟩,_⟩:=HQ.o.1
 go_wp2_with fail
 refine (c8x _ _ l st sc d p n _ (HU.o.below HB.o) (HUS.o.below HB.o) hm oZ).mono ?_
 rintro e w1 ⟨nu,nus,m,rfl,hD,hI,hm1,hm2,hb⟩
 obtain⟨na,nc,rfl,-,-⟩:=id hD
 obtain⟨ma,mc,rfl,-,-⟩:=id hI
 obtain⟨w2,hw2⟩:∃v,w1.alloc (a0d (.slice na l.length nc) (.slice ma st.length mc) sc d p n)=v:=⟨_,rfl⟩
 have hba:Below w1.heap.size w1 w2:=by rw [←hw2];exact bZ.alloc lZ _
 have hz1:=hb.size
 have hBz:w1.heap.size<w2.heap.size:=by rw [←hw2];simp
 have HB2:=qh ((HB.o.trans (hb.mono HB.o.size)).trans (hba.mono oZ))
 have HQ2:=qh ((HQ.o.below hb).below hba)
 have HS2:=qh (show SesM (w.heap.size+2) w1.heap.size (l,(st,sc)) (d,p,n) w2 from⟨by have:=HE.o.size;omega,by omega,_,_,by rw [←hw2];exact SOut.new _ _ _ _ _ _ _,(a2k.of hD hI hzW2 hm2 hm1 (.inl lZ)).below hba⟩)
 clear hD hI hm1 hm2 hb hba HQ HB o0 o1 o2 o3 o4 o5 o6
 go_upto_region 2 with fail
 try rw [hw2]
 clear hw2
 obtain⟨⟨o0,o1,o2,o3,o4,o5,o6⟩,_⟩:=HQ2.o.1
 go_wp2_with fail
 refine (a4r _ _ l st sc d p n _ (HU.o.below HB2.o) (HUS.o.below HB2.o) hm hf5 hf6 (HE.o.below HB2.o HE.o.size)).mono ?_
 rintro e w3 ⟨rfl,hb⟩
 have HB3:=bt HB2 hb;have HQ3:=qh (HQ2.o.below hb);have HS3:=qh (HS2.o.below hb)
 have hB3:=hb.size
 clear hb HB2 HQ2 HS2 o0 o1 o2 o3 o4 o5 o6
 cases h1:P.sess l st sc d p n
 ·have HP:=qh (P.c4s (s:=(l,(st,sc))) (g:=(d,p,n)) (line:=line) h1);obtain⟨_,_,bu,bus,hso,hrows⟩:=HS3.o;simp only at hso hrows;obtain⟨ba,bc,rfl,_,_⟩:=id hrows.dic;obtain⟨ia,ic,rfl,_,_⟩:=id hrows.str;obtain⟨⟨o0,o1,o2,o3,o4,o5,o6⟩,_⟩:=hso;obtain⟨⟨r0,r1,r2,r3,r4,r5,r6⟩,f0,f1,f2,f3,f4,f5⟩:=HQ3.o.2;obtain⟨V,hV⟩:∃v,wr6 w3 (w.heap.size+1) (.slice ba l.length bc) (.slice ia st.length ic) sc d p n=v:=⟨_,rfl⟩;have hset:Chg (fun b=>b=w.heap.size+1) w3 V:=by rw [←hV];exact a4f _ _ _ _ _ _ _ _
  have HRV:=qh (show SOut (w.heap.size+1) (.slice ba l.length bc) (.slice ia st.length ic) sc d p n V from by rw [←hV];exact a5m HQ3.o.2 _ _ _ _ _ _);have HBV:=qh (Chg.a0j HB3.o hset HB3.o.size (fun b h=>by have h9:b=w.heap.size+1:=h;omega));have HROW:=qh ((hrows.a5r hset (fun b h=>by have h9:b=w.heap.size+1:=h;omega)).lo (lo':=w.heap.size) oZ);unfold wr6 at hV;clear hrows;go_wp2
  try rw [hV]
  clear hset hV;obtain⟨q0,q1,q2,q3,q4,q5,q6⟩:=HRV.o.1;refine bodyPost_ret (v:=.tuple #[a1d (.slice ba l.length bc) (.slice ia st.length ic) sc d p n,.string (S [110,111])]) (by simp [results,Tryz.results19,go_sem,q0,q1,q2,q3,q4,q5]) rfl ⟨_,_,w1.heap.size,by rw [HP.o]<;>rfl,by rw [HP.o];exact HROW.o,HBV.o⟩
 have HT:=qh (P.a9o (s:=(l,(st,sc))) (g:=(d,p,n)) h1)
 go_wp2_with fail
 refine (L.a2s line [] _ oZ sZ).mono ?_
 rintro e w4 ⟨rfl,hb⟩
 rw [P.a6e]
 have HB4:=bt HB3 hb;have HQ4:=qh (HQ3.o.below hb);have HS4:=qh (HS3.o.below hb)
 have hB4:=Nat.le_trans hB3 hb.size
 clear hb HB3 HQ3 HS3
 cases h2:P.good line []
 ·have HP:=qh (P.b7w (s:=(l,(st,sc))) (g:=(d,p,n)) (line:=line) h1 h2);obtain⟨_,_,bu,bus,hso,hrows⟩:=HS4.o;simp only at hso hrows;obtain⟨ba,bc,rfl,_,_⟩:=id hrows.dic;obtain⟨ia,ic,rfl,_,_⟩:=id hrows.str;obtain⟨⟨o0,o1,o2,o3,o4,o5,o6⟩,_⟩:=hso;obtain⟨⟨r0,r1,r2,r3,r4,r5,r6⟩,f0,f1,f2,f3,f4,f5⟩:=HQ4.o.2;obtain⟨V,hV⟩:∃v,wr6 w4 (w.heap.size+1) (.slice ba l.length bc) (.slice ia st.length ic) sc d p n=v:=⟨_,rfl⟩;have hset:Chg (fun b=>b=w.heap.size+1) w4 V:=by rw [←hV];exact a4f _ _ _ _ _ _ _ _
  have HRV:=qh (show SOut (w.heap.size+1) (.slice ba l.length bc) (.slice ia st.length ic) sc d p n V from by rw [←hV];exact a5m HQ4.o.2 _ _ _ _ _ _);have HBV:=qh (Chg.a0j HB4.o hset HB4.o.size (fun b h=>by have h9:b=w.heap.size+1:=h;omega));have HROW:=qh ((hrows.a5r hset (fun b h=>by have h9:b=w.heap.size+1:=h;omega)).lo (lo':=w.heap.size) oZ);unfold wr6 at hV;clear hrows;go_wp2
  try rw [hV]
  clear hset hV;obtain⟨q0,q1,q2,q3,q4,q5,q6⟩:=HRV.o.1;refine bodyPost_ret (v:=.tuple #[a1d (.slice ba l.length bc) (.slice ia st.length ic) sc d p n,.string (S [98,97,100])]) (by simp [results,Tryz.results19,go_sem,q0,q1,q2,q3,q4,q5]) rfl ⟨_,_,w1.heap.size,by rw [HP.o]<;>rfl,by rw [HP.o];exact HROW.o,HBV.o⟩
 by_cases h3:n=60
 ·have HP:=qh (P.b4w (s:=(l,(st,sc))) (g:=(d,p,n)) (line:=line) h1 h2 h3);have f9:(n==60)=true:=by rw [h3];rfl
  clear h3;obtain⟨⟨x0,x1,x2,x3,x4,x5,x6⟩,_⟩:=HQ4.o.1;obtain⟨_,_,bu,bus,hso,hrows⟩:=HS4.o;simp only at hso hrows;obtain⟨ba,bc,rfl,_,_⟩:=id hrows.dic;obtain⟨ia,ic,rfl,_,_⟩:=id hrows.str;obtain⟨⟨o0,o1,o2,o3,o4,o5,o6⟩,_⟩:=hso;obtain⟨⟨r0,r1,r2,r3,r4,r5,r6⟩,f0,f1,f2,f3,f4,f5⟩:=HQ4.o.2;obtain⟨V,hV⟩:∃v,wr6 w4 (w.heap.size+1) (.slice ba l.length bc) (.slice ia st.length ic) sc d p n=v:=⟨_,rfl⟩;have hset:Chg (fun b=>b=w.heap.size+1) w4 V:=by rw [←hV];exact a4f _ _ _ _ _ _ _ _
  have HRV:=qh (show SOut (w.heap.size+1) (.slice ba l.length bc) (.slice ia st.length ic) sc d p n V from by rw [←hV];exact a5m HQ4.o.2 _ _ _ _ _ _);have HBV:=qh (Chg.a0j HB4.o hset HB4.o.size (fun b h=>by have h9:b=w.heap.size+1:=h;omega));have HROW:=qh ((hrows.a5r hset (fun b h=>by have h9:b=w.heap.size+1:=h;omega)).lo (lo':=w.heap.size) oZ);unfold wr6 at hV;clear hrows;go_wp2
  try rw [hV]
  clear hset hV;obtain⟨q0,q1,q2,q3,q4,q5,q6⟩:=HRV.o.1;refine bodyPost_ret (v:=.tuple #[a1d (.slice ba l.length bc) (.slice ia st.length ic) sc d p n,.string (S [102,117,108,108])]) (by simp [results,Tryz.results19,go_sem,q0,q1,q2,q3,q4,q5]) rfl ⟨_,_,w1.heap.size,by rw [HP.o]<;>rfl,by rw [HP.o];exact HROW.o,HBV.o⟩
 have HP:=qh (P.b8e (s:=(l,(st,sc))) (g:=(d,p,n)) (line:=line) h1 h2 h3)
 have f9:(n==60)=false:=by rw [beq_eq_false_iff_ne];exact h3
 obtain⟨⟨x0,x1,x2,x3,x4,x5,x6⟩,_⟩:=HQ4.o.1
 have HCM:=qh (P.d9i (l,(st,sc)) line)
 have hcl:=P.a8e line [32]
 go_wp2_with fail
 refine (L.b8g line 32 _ oZ (HE.o.below HB4.o HE.o.size)).mono ?_
 rintro e w5 ⟨rfl,k1,rfl⟩
 obtain⟨x,y,q,hcut⟩:∃x y b,Lib.cut line [32]=(x,y,b):=⟨_,_,_,rfl⟩
 rw [hcut]at HCM hcl⊢
 simp only at HCM hcl⊢
 clear hcut
 have hbd:Below w4.heap.size w4 (w4.drewN k1):=below_drewN bZ _
 have HB5:=bt HB4 hbd;have HQ5:=qh (HQ4.o.below hbd);have HS5:=qh (HS4.o.below hbd)
 have hB5:=Nat.le_trans hB4 hbd.size
 clear hbd HB4 HQ4 HS4 x0 x1 x2 x3 x4 x5 x6
 generalize w4.drewN k1=w5 at *
 obtain⟨a,ha⟩:∃a,P.cmd (l,(st,sc)) line=a:=⟨_,rfl⟩
 rw [ha]at HP HCM
 clear ha
 go_upto_if 37 with fail
 go_cut [10,11] (fun rv kv wx=>∃(r:Str) (ok:Bool),rv=.string (S r)∧kv=.bool ok∧okB r ok=a.2∧SesM (w.heap.size+2) w1.heap.size a.1 (d,p,n) wx∧Chg (fun b=>b=w1.heap.size) w5 wx)
 case first=>
  cases q
  ·go_wp2_with fail
   refine (c3g (w.heap.size+2) w1.heap.size l st sc d p n x _ HS5.o hm HT.o.1 (HE.o.below HB5.o HE.o.size)).mono ?_;rintro e w6 ⟨r,ok,rfl,hx,hs,hc⟩;rw [←show a=P.alone (l,(st,sc)) x from HCM.o]at hx hs;exact zq149
  ·go_wp2_with fail
   refine (c8n (w.heap.size+2) w1.heap.size l st sc d p n x y _ HS5.o hm HT.o.1 oZ (HE.o.below HB5.o HE.o.size)).mono ?_;rintro e w6 ⟨r,ok,rfl,hx,hs,hc⟩;rw [←show a=P.args (l,(st,sc)) x y from HCM.o]at hx hs;exact zq149
 case rest=>
  obtain⟨r,ok,rfl,rfl,hx,hs,hc⟩:=hcut;generalize hww:wc=w6 at *;clear hww HCM;have HX:=qh hx;have HS6:=qh hs;have HQ6:=qh (show SQ w.heap.size (.slice ad l.length cap) (.slice sd st.length sap) sc d p n w6 from⟨HQ5.o.1.a0c hc (fun h=>by have h9:w.heap.size=w1.heap.size:=h;omega),HQ5.o.2.a0c hc (fun h=>by have h9:w.heap.size+1=w1.heap.size:=h;omega)⟩);have HB6:=qh (Chg.a0j HB5.o hc HB5.o.size (fun b h=>by have h9:b=w1.heap.size:=h;omega));have hB6:=Nat.le_trans hB5 hc.size;clear hx hs hc HB5 HQ5 HS5;have HRP:=qh (b5q a.2)
  go_upto_if 50 with fail
  go_cut [10] (fun rv wx=>rv=.string (S (txtB a.2))∧w6=wx)
  case first=>
   cases ok
   ·go_wp2;go_meet;exact⟨by rw [←HX.o];rfl,rfl⟩
   ·go_wp2;go_meet;exact⟨by rw [←HX.o];rfl,rfl⟩
  case rest=>
   obtain⟨rfl,rfl⟩:=hcut;generalize txtB a.2=t1 at *
   go_upto_if 53 with fail
   go_cut [10] (fun rv wx=>rv=.string (S (P.a4y a.2))∧w6=wx)
   case first=>
    exact zq83
   case rest=>
    obtain⟨rfl,rfl⟩:=hcut;have hrl:=P.b5x a.2;generalize P.a4y a.2=rep at *;obtain⟨⟨x0,x1,x2,x3,x4,x5,x6⟩,_⟩:=HQ6.o.1
    go_wp2_with fail
    refine (L.c5h d p n line rep _ hf5 hf6 hl oZ (HE.o.below HB6.o HE.o.size)).mono ?_;rintro e w7 ⟨rfl,hb⟩;rw [P.app_eq];have HB7:=bt HB6 hb;have HQ7:=qh (HQ6.o.below hb);have HS7:=qh (HS6.o.below hb);have hB7:=Nat.le_trans hB6 hb.size;have HG:=qh (show P.c7b (d,p,n) line rep=(d,(P.appS d p n line rep).1,(P.appS d p n line rep).2.1) from rfl);rw [HG.o]at HP;generalize P.appS d p n line rep=g9 at *;obtain⟨p9,n9,c9⟩:=g9;simp only at HP⊢;clear hb HB6 HQ6 HS6 x0 x1 x2 x3 x4 x5 x6 HG;obtain⟨w8,hw8⟩:∃v,wr3 w7 w1.heap.size d p9 n9=v:=⟨_,rfl⟩;have hc8:Chg (fun b=>b=w1.heap.size) w7 w8:=by rw [←hw8];exact b8b _ _ _ _ _
    have HS8:=qh (show SesM (w.heap.size+2) w1.heap.size a.1 (d,p9,n9) w8 from by rw [←hw8];exact HS7.o.log);have HQ8:=qh (show SQ w.heap.size (.slice ad l.length cap) (.slice sd st.length sap) sc d p n w8 from⟨HQ7.o.1.a0c hc8 (fun h=>by have h9:w.heap.size=w1.heap.size:=h;omega),HQ7.o.2.a0c hc8 (fun h=>by have h9:w.heap.size+1=w1.heap.size:=h;omega)⟩);have HB8:=qh (Chg.a0j HB7.o hc8 HB7.o.size (fun b h=>by have h9:b=w1.heap.size:=h;omega));have hB8:=Nat.le_trans hB7 hc8.size;obtain⟨_,_,zu,zus,hzs,_⟩:=HS7.o;obtain⟨⟨o0,o1,o2,o3,o4,o5,o6⟩,g0,g1,g2,g3,g4,g5⟩:=hzs;unfold wr3 at hw8
    go_upto_region 18 with fail
    try rw [hw8]
    clear hw8 hc8 HB7 HQ7 HS7 o0 o1 o2 o3 o4 o5 o6 g0 g1 g2 g3 g4 g5;obtain⟨⟨D,T2,sc2⟩,ro⟩:=a;simp only at HP HS8 hrl;obtain⟨_,_,bu,bus,hso,hrows⟩:=HS8.o;simp only at hso hrows;obtain⟨ba,bc,rfl,_,_⟩:=id hrows.dic;obtain⟨ia,ic,rfl,_,_⟩:=id hrows.str;obtain⟨⟨o0,o1,o2,o3,o4,o5,o6⟩,_⟩:=hso;obtain⟨⟨r0,r1,r2,r3,r4,r5,r6⟩,f0,f1,f2,f3,f4,f5⟩:=HQ8.o.2;obtain⟨V,hV⟩:∃v,wr6 w8 (w.heap.size+1) (.slice ba D.length bc) (.slice ia T2.length ic) sc2 d p9 n9=v:=⟨_,rfl⟩;have hset:Chg (fun b=>b=w.heap.size+1) w8 V:=by rw [←hV];exact a4f _ _ _ _ _ _ _ _
    have HRV:=qh (show SOut (w.heap.size+1) (.slice ba D.length bc) (.slice ia T2.length ic) sc2 d p9 n9 V from by rw [←hV];exact a5m HQ8.o.2 _ _ _ _ _ _);have HBV:=qh (Chg.a0j HB8.o hset HB8.o.size (fun b h=>by have h9:b=w.heap.size+1:=h;omega));have HROW:=qh ((hrows.a5r hset (fun b h=>by have h9:b=w.heap.size+1:=h;omega)).lo (lo':=w.heap.size) oZ);unfold wr6 at hV;clear hrows;go_wp2
    try rw [hV]
    clear hset hV;obtain⟨q0,q1,q2,q3,q4,q5,q6⟩:=HRV.o.1;refine bodyPost_ret (v:=.tuple #[a1d (.slice ba D.length bc) (.slice ia T2.length ic) sc2 d p9 n9,.string (S rep)]) (by simp [results,Tryz.results19,go_sem,q0,q1,q2,q3,q4,q5]) rfl ⟨_,_,w1.heap.size,by rw [HP.o]<;>rfl,by rw [HP.o];exact HROW.o,HBV.o⟩
end Go.Proofs.YtggfdnopminemaaGreatDoor
namespace Go.Proofs.YtggfdnopminemaaGreatDoor.P
def runX (a:Ses×LogT) (ls:List Bs):(Ses×LogT)×List Bs:=ls.foldl (fun q x=>((exec q.1.1 q.1.2 x).1,q.2++[(exec q.1.1 q.1.2 x).2])) (a,[])
theorem c1p (a:Ses×LogT) (ls:List Bs) (x:Bs):runX a (ls++[x])=((exec (runX a ls).1.1 (runX a ls).1.2 x).1,(runX a ls).2++[(exec (runX a ls).1.1 (runX a ls).1.2 x).2]):=by
 unfold runX;rw [List.foldl_append];rfl
theorem c2n {a:Ses×LogT} {ls:List Bs} {j:Nat} (h:j<ls.length) {s:Ses} {g:LogT} {ws:List Bs} (hr:runX a (ls.take j)=((s,g),ws)):runX a (ls.take (j+1))=((exec s g ls[j]).1,ws++[(exec s g ls[j]).2]):=by
 rw [List.take_succ_eq_append_getElem h,c1p,hr]
theorem d6q (a:Ses×LogT):∀ls:List Bs,(runX a ls).2.length=ls.length:=by
 intro ls;obtain⟨n,hn⟩:∃n,ls.length=n:=⟨_,rfl⟩
 induction n generalizing ls with
 |zero=>rw [List.eq_nil_of_length_eq_zero hn];rfl
 |succ n ih=>
  obtain⟨xs,x,rfl⟩:∃xs x,ls=xs++[x]:=⟨ls.dropLast,ls.getLast (by intro e;rw [e]at hn;simp at hn),(List.dropLast_concat_getLast _).symm⟩;rw [c1p];have:=ih xs (by simpa using hn);simp only [List.length_append,List.length_cons,List.length_nil];omega
def b3k (s:Ses) (g:LogT) (text:Bs):Bool:=b4s s g&&(decide ((split 10 text).length≤30)&&decide (text.length≤4000))
def script (s:Ses) (g:LogT) (text:Bs):List Bs×Bool:=if b3k s g text then ((runX (s,g) (split 10 text)).2,true) else ([],false)
theorem b9w {s:Ses} {g:LogT} {text:Bs} (h:b4s s g=false∨30<(split 10 text).length∨4000<text.length):script s g text=([],false):=by
 unfold script;rw [if_neg];unfold b3k;simp only [Bool.and_eq_true,decide_eq_true_eq];rintro⟨h1,h2,h3⟩
 rcases h with h|h|h
 ·rw [h]at h1;cases h1
 ·omega
 ·omega
theorem b6r {s:Ses} {g:LogT} {text:Bs} (h:b4s s g=true) (h2:(split 10 text).length≤30) (h3:text.length≤4000):script s g text=((runX (s,g) (split 10 text)).2,true):=by
 unfold script;rw [if_pos];unfold b3k;simp only [Bool.and_eq_true,decide_eq_true_eq];exact⟨h,h2,h3⟩
theorem c9c (s:Ses) (g:LogT) (text:Bs):(script s g text).1.length≤30:=by
 unfold script
 split
 ·rename_i h
  unfold b3k at h;simp only [Bool.and_eq_true,decide_eq_true_eq]at h;simp only;rw [d6q];exact h.2.1
 ·exact Nat.zero_le _
end Go.Proofs.YtggfdnopminemaaGreatDoor.P
namespace Go.Proofs.YtggfdnopminemaaGreatDoor
open Go Go.RowKit
set_option maxHeartbeats 8000000
set_option maxRecDepth 100000
def RunW (B lo:Nat) (v:World) (u0 us0:Value) (s0:P.Ses) (u us:Value) (s:P.Ses):Prop:=(u=u0∧us=us0∧s.1=s0.1∧s.2.1=s0.2.1)∨a2k lo B v u us s.1 s.2.1
theorem RunW.read {B lo:Nat} {w v:World} {u0 us0 u us:Value} {s0 s:P.Ses} (h:RunW B lo v u0 us0 s0 u us s) (h0:EntR w u0 s0.1) (h1:IntR w us0 s0.2.1) (hb:Below w.heap.size w v):EntR v u s.1∧IntR v us s.2.1:=by
 rcases h with⟨rfl,rfl,h2,h3⟩|h
 ·rw [h2,h3];exact⟨h0.below hb,h1.below hb⟩
 ·exact⟨h.dic,h.str⟩
theorem a4i.a0c {g:Nat} {l:List Str} {v v':World} {X:Blk} (h:a4i g l v) (hc:Chg X v v') (hX:¬X g):a4i g l v':=
 ⟨⟨Nat.lt_of_lt_of_le h.1.1 hc.size,by obtain⟨c,f,k⟩:=h.1.2;exact⟨c,f,(hc.block g h.1.1 hX).trans k⟩⟩,fun j hj=>(hc.cell (p:=⟨g,j,none⟩) h.1.1 hX).trans (h.2 j hj)⟩
structure RunB (w:World) (N B cap:Nat) (u0 us0:Value) (s0:P.Ses) (ws:List Str) (u us:Value) (s:P.Ses) (g:P.LogT) (v:World):Prop where
 own:a0n N v (.slice (some ⟨B,0,none⟩) ws.length cap) ws
 box:SOut w.heap.size u us s.2.2 g.1 g.2.1 g.2.2 v
 rows:RunW B (w.heap.size+1) v u0 us0 s0 u us s
 bel:Below w.heap.size w v
 lo:w.heap.size<N∧N≤B∧B<v.heap.size
theorem RunB.below {w:World} {N B cap:Nat} {u0 us0:Value} {s0:P.Ses} {ws:List Str} {u us:Value} {s:P.Ses} {g:P.LogT} {v v':World} (h:RunB w N B cap u0 us0 s0 ws u us s g v) (hb:Below v.heap.size v v'):RunB w N B cap u0 us0 s0 ws u us s g v':=
 ⟨a0g h.own hb lZ,h.box.below hb,h.rows.imp id (·.below hb),h.bel.trans (hb.mono h.bel.size),h.lo.1,h.lo.2.1,Nat.lt_of_lt_of_le h.lo.2.2 hb.size⟩
theorem RunB.store {w:World} {N B cap:Nat} {u0 us0:Value} {s0:P.Ses} {ws:List Str} {u us:Value} {s:P.Ses} {g:P.LogT} {v:World} {lo B2:Nat} {u2 us2:Value} {s2:P.Ses} {g2:P.LogT} (h:RunB w N B cap u0 us0 s0 ws u us s g v) (hr:a2k lo B2 v u2 us2 s2.1 s2.2.1) (hlo:B<lo):RunB w N B cap u0 us0 s0 ws u2 us2 s2 g2 (wr6 v w.heap.size u2 us2 s2.2.2 g2.1 g2.2.1 g2.2.2):=by
 have hc:=a4f v w.heap.size u2 us2 s2.2.2 g2.1 g2.2.1 g2.2.2;have hl:=h.lo;obtain⟨F,G,h1,h2,h3,h4,h5⟩:=hr;have hr':a2k (w.heap.size+1) B v u2 us2 s2.1 s2.2.1:=⟨F,G,h1,h2,fun b hb=>by have:=h3 b hb;omega,fun b hb=>by have:=h4 b hb;omega,h5⟩;exact⟨a0h h.own hc (fun k hk e=>by have:=(World.ownsRow.lt h.own k hk).1;omega),a5m h.box _ _ _ _ _ _,.inr (hr'.a5r hc (fun b e=>by omega)),Chg.a0j h.bel hc h.bel.size (fun b e=>by omega),hl.1,hl.2.1,Nat.lt_of_lt_of_le hl.2.2 hc.size⟩
theorem RunB.snoc {w:World} {N B cap:Nat} {u0 us0:Value} {s0:P.Ses} {ws:List Str} {u us:Value} {s:P.Ses} {g:P.LogT} {v v':World} {x:Str} {o:Obj} {B' cap':Nat} (h:RunB w N B cap u0 us0 s0 ws u us s g v)
 (hown:v'.ownsRow N 9 1 (.slice (some ⟨B',0,none⟩) (ws.length+1) cap') (ws.length+1) (a1o ws++[.string (S x)])) (hg:(v.alloc o).grownBy v' (some B)) (hat:some B=some B'∨B'=(v.alloc o).heap.size) (hlt:B'<v'.heap.size):RunB w N B' cap' u0 us0 s0 (ws++[x]) u us s g v':=by
 have h1:=h.below ((Below.refl v.heap.size v).alloc lZ o)
 have hc:=a3o hg
 have hl:=h1.lo
 have hb:B'=B∨(v.alloc o).heap.size≤B':=by
  rcases hat with e|e
  ·injection e with e;exact .inl e.symm
  ·exact .inr oZ
 refine⟨by rw [List.length_append];exact L.a0n.snoc hown,h1.box.a0c hc (fun e=>by injection e with e;omega),?_,Chg.a0j h1.bel hc h1.bel.size (fun b e=>by injection e with e;omega),hl.1,by omega,hlt⟩
 rcases h1.rows with h2|h2
 ·exact .inl h2
 ·have h3:=h2.a0c hc (fun b e=>.inl (by injection e with e;exact e.symm));refine .inr ?_
  rcases hb with rfl|hb
  ·exact h3
  ·obtain⟨F,G,k1,k2,k3,k4,k5⟩:=h2;exact⟨F,G,k1.a0c a0e hc (fun b hb e=>by injection e with e;exact (k3 b hb).2.2 e.symm),k2.a0c a0t hc (fun b hb e=>by injection e with e;exact (k4 b hb).2.2 e.symm),fun b hb=>⟨(k3 b hb).1,Nat.lt_of_lt_of_le (k3 b hb).2.1 hc.size,fun e=>by have:=(k3 b hb).2.1;omega⟩,fun b hb=>⟨(k4 b hb).1,Nat.lt_of_lt_of_le (k4 b hb).2.1 hc.size,fun e=>by have:=(k4 b hb).2.1;omega⟩,k5⟩
def a6h (r:List Str×Bool) (w:World) (e:Ending) (w':World):Prop:=∃v,e=.returned (.tuple #[v,.bool r.2])∧a0n w.heap.size w' v r.1∧Below w.heap.size w w'
theorem a9b (u us:Value) (l:P.Dic) (st:List Int) (sc d p:Str) (n:Int) (text:Str) (w:World) (hu:EntR w u l) (hus:IntR w us st) (hf:P.Fit (l,(st,sc)) (d,p,n)) (hl:text.length≤2^20) (hE:L.Env w) :
 Calls Tryz.prog 40 #[a1d u us sc d p n,.string (S text)] w (a6h (P.script (l,(st,sc)) (d,p,n) text) w):=by
 obtain⟨i0,hi,hj0,hj1,hj2⟩:=info_parts L.a6q
 have HF:=qh hf
 obtain⟨hf1,hf2,hf3,hf4,hf5,hf6⟩:=hf
 have hm:Small l:=⟨hf1,hf2,hf3⟩
 simp only at hf4 hf5 hf6
 clear hf1 hf2 hf3
 have hu0:=hu;have hus0:=hus
 obtain⟨ad,cap,rfl,_,_⟩:=hu0
 obtain⟨sd,sap,rfl,_,_⟩:=hus0
 obtain⟨W0,hW0⟩:∃v,w.alloc (a0d (.slice ad l.length cap) (.slice sd st.length sap) sc d p n)=v:=⟨_,rfl⟩
 have hb0:Below w.heap.size w W0:=by rw [←hW0];exact (Below.refl w.heap.size w).alloc lZ _
 have hx0:SOut w.heap.size (.slice ad l.length cap) (.slice sd st.length sap) sc d p n W0:=by rw [←hW0];exact SOut.new _ _ _ _ _ _ _
 have HU:=qh hu;have HUS:=qh hus;have HE:=qh hE
 have HX:=qh hx0;have HB:=qh hb0
 have HPL:=qh (fun j hj=>b1q (c:=10) (s:=text) (j:=j) hj)
 have HNO:=qh (P.b9w (s:=(l,(st,sc))) (g:=(d,p,n)) (text:=text));have HYES:=qh (P.b6r (s:=(l,(st,sc))) (g:=(d,p,n)) (text:=text))
 have hzW:w.heap.size<W0.heap.size:=hx0.1.2.2.2.2.2.2
 clear hx0 hb0 hu hus hE
 go_enter Tryz.func40,Tryz.ntmps40
 go_upto_region 1 with fail
 try rw [hW0]
 clear hW0
 go_wp2_with fail
 refine (d1u text 10 _ oZ (HE.o.below HB.o HE.o.size).dic).mono ?_
 rintro e w1 ⟨rfl,hst,hb⟩
 have HX1:=qh (HX.o.below hb);have HB1:=bt HB hb;have HST:=qh hst
 have hz1:w.heap.size<w1.heap.size:=Nat.lt_of_lt_of_le hzW hb.size
 have hz1b:W0.heap.size<w1.heap.size:=hst.1.1
 clear hst hb HX HB
 have HYES2:=qh (fun a b c=>(HYES.o a b c).trans rfl)
 generalize hls:P.split 10 text=ls at *
 clear hls
 obtain⟨⟨o0,o1,o2,o3,o4,o5,o6⟩,_⟩:=HX1.o
 go_wp2_with fail
 refine (a4r _ _ l st sc d p n _ (HU.o.below HB1.o) (HUS.o.below HB1.o) hm hf5 hf6 (HE.o.below HB1.o HE.o.size)).mono ?_
 rintro e w2 ⟨rfl,hb⟩
 have HX2:=qh (HX1.o.below hb);have HB2:=bt HB1 hb;have HST2:=qh (HST.o.below hb)
 have hz2:w.heap.size<w2.heap.size:=Nat.lt_of_lt_of_le hz1 hb.size
 have hz2b:=hb.size
 clear hb HX1 HB1 HST o0 o1 o2 o3 o4 o5 o6 HYES2
 have bad:∀v:World,Below w.heap.size w v→(P.sess l st sc d p n=false∨30<ls.length∨4000<text.length)→a6h (P.script (l,(st,sc)) (d,p,n) text) w (.returned (.tuple #[.slice none 0 0,.bool false])) v:=fun v hb h=>by rw [HNO.o h];exact⟨_,rfl,World.ownsRow_nil _ _ _ _,hb⟩
 have HBAD:=qh bad
 clear bad
 cases h1:P.sess l st sc d p n
 ·go_wp2;go_ret2;exact HBAD.o _ HB2.o (.inl h1)
 by_cases h2:30<ls.length
 ·have i2:(30:Int)<(ls.length:Int):=by omega
  go_wp2;go_ret2;exact HBAD.o _ HB2.o (.inr (.inl h2))
 by_cases h3:4000<text.length
 ·have i2:¬(30:Int)<(ls.length:Int):=by omega
  have i3:(4000:Int)<(text.length:Int):=by omega
  go_wp2;go_ret2;exact HBAD.o _ HB2.o (.inr (.inr h3))
 have i2:¬(30:Int)<(ls.length:Int):=by omega
 have i3:¬(4000:Int)<(text.length:Int):=by omega
 have HP:=qh (HYES.o h1 oZ oZ)
 have HR0:=qh (show RunB w w2.heap.size w2.heap.size 0 (.slice ad l.length cap) (.slice sd st.length sap) (l,(st,sc)) [] (.slice ad l.length cap) (.slice sd st.length sap) (l,(st,sc)) (d,p,n) (w2.alloc (.cells #[] 9)) from
  ⟨by have h:=World.ownsRow_lit (base:=w2.heap.size) (e:=9) (size:=1) w2 #[] 0 lZ (Nat.zero_le _) sZ;simpa [a0n,a1o] using h,HX2.o.below (bZ.alloc lZ _),.inl ⟨rfl,rfl,rfl,rfl⟩,HB2.o.alloc HB2.o.size _,by omega,Nat.le_refl _,by simp⟩)
 have HST3:=qh (HST2.o.below ((Below.refl w2.heap.size w2).alloc lZ (.cells #[] 9)))
 clear HX2 HB2 HST2 HNO HYES HBAD h1
 go_wp2
 go_loopw [7,29] (fun v i wr=>∃(j:Nat) (s1:P.Ses) (g1:P.LogT) (ws:List Str) (B cp:Nat) (u1 us1:Value),j≤ls.length∧i=.int .i64 j∧v=.slice (some ⟨B,0,none⟩) ws.length cp∧P.runX ((l,(st,sc)),(d,p,n)) (ls.take j)=((s1,g1),ws)∧ws.length=j∧P.Fit s1 g1∧RunB w w2.heap.size B cp (.slice ad l.length cap) (.slice sd st.length sap) (l,(st,sc)) ws u1 us1 s1 g1 wr∧a4i W0.heap.size ls wr) (fun _ i _=>ls.length-(intOf i).toNat)
 case atStart=>exact⟨0,_,_,[],_,0,_,_,Nat.zero_le _,rfl,rfl,rfl,rfl,HF.o,HR0.o,HST3.o⟩
 case round=>
  obtain⟨j,s1,g1,ws,B,cp,u1,us1,hj,rfl,rfl,hrun,hwl,hfit,hI,hst⟩:=hrel;have HRUN:=qh hrun;have HFIT:=qh hfit;have HI:=qh hI;have HST:=qh hst;have hBz:=hI.lo;clear hrun hfit HR0 HST3 hI;have HWL:=qh hwl;have hwle:ws.length≤30:=by omega
  clear hwl
  by_cases hlt:j<ls.length
  ·have c0:=hst.2 j hlt;have i1:(j:Int)<(ls.length:Int):=by omega
   have hxl:=HPL.o j hlt;have HNX:=qh (P.c2n hlt HRUN.o);have HFX:=qh (P.c7n (line:=ls[j]) HFIT.o);obtain⟨hlt0,hlt1⟩:=hst.1;generalize ls[j]=x at *;obtain⟨l1,st1,sc1⟩:=s1;obtain⟨d1,p1,n1⟩:=g1;obtain⟨hre,hri⟩:=HI.o.rows.read HU.o HUS.o HI.o.bel;have HRE:=qh hre;have HRI:=qh hri;obtain⟨ua,uc,rfl,_,_⟩:=id hre;obtain⟨ia,ic,rfl,_,_⟩:=id hri;obtain⟨⟨o0,o1,o2,o3,o4,o5,o6⟩,_⟩:=HI.o.box;simp only at o0 o1 o2 o3 o4 o5;clear hre hri hst hlt1
   go_wp2_with fail
   refine (c0n _ _ l1 st1 sc1 d1 p1 n1 x _ HRE.o HRI.o HFIT.o oZ (HE.o.below HI.o.bel HE.o.size)).mono ?_;rintro e w4 ⟨nu,nus,B2,rfl,hrows,hb⟩;generalize P.exec (l1,(st1,sc1)) (d1,p1,n1) x=q at *;obtain⟨⟨⟨l2,st2,sc2⟩,d2,p2,n2⟩,rep⟩:=q;simp only at hrows HNX HFX⊢;have HI4:=qh (HI.o.below hb);have HST4:=qh (HST.o.below hb);have hz4:=hb.size;have HI5:=qh (HI4.o.store (g2:=(d2,p2,n2)) (s2:=(l2,(st2,sc2))) hrows hBz.2.2);obtain⟨na,nc,rfl,_,_⟩:=id hrows.dic;obtain⟨ma,mc,rfl,_,_⟩:=id hrows.str;obtain⟨w5,hw5⟩:∃v,wr6 w4 w.heap.size (.slice na l2.length nc) (.slice ma st2.length mc) sc2 d2 p2 n2=v:=⟨_,rfl⟩;have hc5:Chg (fun b=>b=w.heap.size) w4 w5:=by rw [←hw5];exact a4f _ _ _ _ _ _ _ _
   have hz5:=hc5.size;have HST5:=qh (show a4i W0.heap.size ls w5 from HST4.o.a0c hc5 oZ);simp only at HI5;rw [hw5]at HI5;obtain⟨⟨r0,r1,r2,r3,r4,r5,r6⟩,f0,f1,f2,f3,f4,f5⟩:=HI4.o.box;clear o0 o1 o2 o3 o4 o5 o6 hb hrows HI HST hc5 HST4 c0;unfold wr6 at hw5
   go_upto_region 10 with fail
   try rw [hw5]
   clear hw5 r0 r1 r2 r3 r4 r5 r6 f0 f1 f2 f3 f4 f5 HI4;have HOA:=qh (show (w5.alloc (.cells #[.string (S rep)] 9)).ownsRow w2.heap.size 9 1 (.slice (some ⟨B,0,none⟩) ws.length cp) ws.length (a1o ws) from World.ownsRow.alloc HI5.o.own _)
   go_wp2_with (at_builtin;refine wpList_append_lies _ rfl _ _ 43 rfl w2.heap.size 9 i0 (.string ⟨#[]⟩) 1 16 Tryz.underlying43 hi hj0 hj1 hj2 rfl dZ (.slice (some ⟨B,0,none⟩) ws.length cp) ws.length (a1o ws) rfl HOA.o ⟨w5.heap.size,0,none⟩ 1 1 [.string (S rep)] rfl rfl ?c1 ?c2 (Nat.zero_lt_one) ?c3 ?c4 ?c5 _ rfl ?_)
   case c1=>intro j u hj;match j,hj with|0,hj=>(simp at hj;subst hj;simp [Addr.add])
   case c2=>intro u hu;simp at hu;subst hu;rfl
   case c3=>unfold maxLen;omega
   case c4=>omega
   case c5=>simp;omega
   intro B' cap' w6 hown hgr hat hlt6;have HI6:=qh (HI5.o.snoc (x:=rep) hown hgr (by rcases hat with e|e;exact .inl e;exact .inr (by simpa using e)) hlt6);have HST6:=qh (show a4i W0.heap.size ls w6 from (HST5.o.below ((Below.refl w5.heap.size w5).alloc lZ (.cells #[.string (S rep)] 9))).a0c (a3o hgr) (fun e=>by have h9:some B=some W0.heap.size:=e;injection h9 with h9;omega));clear hown hgr hat HOA HI5 HST5;go_wp2
   go_roundw
   case rel=>exact⟨j+1,_,_,ws++[rep],B',cap',_,_,by omega,by go_num,by rw [List.length_append];rfl,HNX.o,by rw [List.length_append,HWL.o];rfl,HFX.o,HI6.o,HST6.o⟩
   case measure=>simp [intOf];omega
  ·exact zq59
end Go.Proofs.YtggfdnopminemaaGreatDoor
