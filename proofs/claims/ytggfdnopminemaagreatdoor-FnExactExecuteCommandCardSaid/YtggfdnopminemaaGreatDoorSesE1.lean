/- What a command leaves: stores of a whole session, the answer. -/
import Derived.Test.YtggfdnopminemaaGreatDoorZt
import Derived.Test.YtggfdnopminemaaGreatDoorSesO2
namespace Go.Proofs.YtggfdnopminemaaGreatDoor
open Go Go.RowKit
set_option maxHeartbeats 8000000
set_option maxRecDepth 100000
def wr6 (v:World) (b:Nat) (u us:Value) (sc d p:Str) (n:Int):World:=
 (((((v.setCell ⟨b,0,none⟩ u).setCell ⟨b,1,none⟩ us).setCell ⟨b,2,none⟩ (.string (S sc))).setCell ⟨b,3,none⟩ (.string (S d))).setCell ⟨b,4,none⟩ (.string (S p))).setCell ⟨b,5,none⟩ (.int .i64 n)
theorem a6d (v:World) (b:Nat) (u us:Value) (sc d p:Str) (n:Int):Chg (fun k=>k=b) v (wr6 v b u us sc d p n):=by
 have h:=Chg.refl (fun k=>k=b) v;exact (((((h.setCell (p:=⟨b,0,none⟩) rfl _).setCell (p:=⟨b,1,none⟩) rfl _).setCell (p:=⟨b,2,none⟩) rfl _).setCell (p:=⟨b,3,none⟩) rfl _).setCell (p:=⟨b,4,none⟩) rfl _).setCell (p:=⟨b,5,none⟩) rfl _
theorem a7a {v:World} {b:Nat} {u0 us0:Value} {sc0 d0 p0:Str} {n0:Int} (h:SOut b u0 us0 sc0 d0 p0 n0 v) (u us:Value) (sc d p:Str) (n:Int):SOut b u us sc d p n (wr6 v b u us sc d p n):=
 ((h.set0 (x:=u)).set1 (x:=us) (r:=sc)).set3
def wr3 (v:World) (b:Nat) (d p:Str) (n:Int):World:=((v.setCell ⟨b,3,none⟩ (.string (S d))).setCell ⟨b,4,none⟩ (.string (S p))).setCell ⟨b,5,none⟩ (.int .i64 n)
theorem b8b (v:World) (b:Nat) (d p:Str) (n:Int):Chg (fun k=>k=b) v (wr3 v b d p n):=
 (((Chg.refl (fun k=>k=b) v).setCell (p:=⟨b,3,none⟩) rfl _).setCell (p:=⟨b,4,none⟩) rfl _).setCell (p:=⟨b,5,none⟩) rfl _
theorem a2q.lo {lo lo' B:Nat} {v:World} {u us:Value} {l:P.Dic} {st:List Int} (h:a2q lo B v u us l st) (hl:lo'≤lo):a2q lo' B v u us l st:=by
 obtain⟨F,G,h1,h2,h3,h4,h5⟩:=h;exact⟨F,G,h1,h2,fun b hb=>⟨Nat.le_trans hl (h3 b hb).1,(h3 b hb).2⟩,fun b hb=>⟨Nat.le_trans hl (h4 b hb).1,(h4 b hb).2⟩,h5⟩
theorem a2q.a6k {lo B:Nat} {v v':World} {u us:Value} {l:P.Dic} {st:List Int} {X:Blk} (h:a2q lo B v u us l st) (hc:Chg X v v') (hX:∀b,X b→b<lo):a2q lo B v' u us l st:=by
 obtain⟨F,G,h1,h2,h3,h4,h5⟩:=h;have hz:=hc.size;exact⟨F,G,h1.a0e a0b hc (fun b hb hx=>by have:=h3 b hb;have:=hX b hx;omega),h2.a0e a0g hc (fun b hb hx=>by have:=h4 b hb;have:=hX b hx;omega),fun b hb=>⟨(h3 b hb).1,Nat.lt_of_lt_of_le (h3 b hb).2.1 hz,(h3 b hb).2.2⟩,fun b hb=>⟨(h4 b hb).1,Nat.lt_of_lt_of_le (h4 b hb).2.1 hz,(h4 b hb).2.2⟩,h5⟩
theorem a2q.of {lo B m:Nat} {w v:World} {u us:Value} {l:P.Dic} {st:List Int} (h1:Ents v (Bet w.heap.size m) u l) (h2:Ints v (Bet m v.heap.size) us st) (hlo:lo≤w.heap.size) (hm:m≤v.heap.size) (hwm:w.heap.size≤m) (hB:v.heap.size≤B∨B<w.heap.size):a2q lo B v u us l st:=
 ⟨_,_,h1,h2,fun b hb=>⟨Nat.le_trans hlo hb.1,Nat.lt_of_lt_of_le hb.2 hm,fun e=>by have h3:=hb.1;have h4:=hb.2;omega⟩,fun b hb=>⟨Nat.le_trans (Nat.le_trans hlo hwm) hb.1,hb.2,fun e=>by have h3:=hb.1;have h4:=hb.2;omega⟩,fun b hb hg=>by have h3:=hb.2;have h4:=hg.1;omega⟩
theorem SesM.log {lo B:Nat} {s:P.Ses} {g:P.LogT} {v:World} {d p:Str} {n:Int} (h:SesM lo B s g v):SesM lo B s (d,p,n) (wr3 v B d p n):=by
 obtain⟨h0,h1,u,us,h2,h3⟩:=h;exact⟨h0,Nat.le_trans h1 (b8b v B d p n).size,u,us,h2.set3,h3.a0e (b8b v B d p n) (fun b h=>.inl h)⟩
theorem SesM.chg {lo B:Nat} {s:P.Ses} {g:P.LogT} {v v':World} {X:Blk} (h:SesM lo B s g v) (hc:Chg X v v') (hX:∀b,X b→b<lo) (hB:¬X B):SesM lo B s g v':=by
 obtain⟨h0,h1,u,us,h2,h3⟩:=h;exact⟨h0,Nat.le_trans h1 hc.size,u,us,h2.a0e hc hB,h3.a6k hc hX⟩
def d7g (a:(P.Ses×P.LogT)×Str) (w:World) (e:Ending) (w':World):Prop:=
 ∃u us B,e=.returned (.tuple #[a1e u us a.1.1.2.2 a.1.2.1 a.1.2.2.1 a.1.2.2.2,.string (S a.2)])∧a2q w.heap.size B w' u us a.1.1.1 a.1.1.2.1∧Below w.heap.size w w'
theorem b5o (o:Option Str):P.a4s o=if 200<(txtB o).length then P.wLong else txtB o:=by
 cases o with
 |none=>rfl
 |some r=>rfl
theorem c7x (lo B:Nat) (l:P.Dic) (st:List Int) (sc d p:Str) (n:Int) (word more:Str) (w:World) (h:SesM lo B (l,(st,sc)) (d,p,n) w) (hm:Small l) (ht:P.trans l (st,sc)=true) (hl:more.length≤2^20) (hE:L.Env w) :
 Calls Tryz.prog 70 #[.pointer (some ⟨B,0,none⟩),.string (S word),.string (S more)] w (a4o lo B (P.args (l,(st,sc)) word more) (d,p,n) w):=by
 have HSM:=qh h;have HE:=qh hE;have HT:=qh ht
 have HP0:=qh (show P.args (l,(st,sc)) word more=if word=P.d2x then P.a4v (l,(st,sc)) more else if word=P.c8k∨word=P.b1y∨word=P.c3t then P.a5k (l,(st,sc)) word more else if word=P.c3v then P.a1i (l,(st,sc)) more else if word=P.b8x then ((l,(st,sc)),P.a5d l more) else if word=P.d7x then ((l,(st,sc)),P.a0w more) else if word=P.d1t then ((l,(st,sc)),P.b9s more) else ((l,(st,sc)),none) from rfl)
 have HDC:=qh (P.a8p ht)
 clear h hE ht
 by_cases h1:word=[112,114,101,115,115]
 ·have HP0:=qh (HP0.o.trans (if_pos h1));have f1:=P.beqB h1;clear h1
  go_enter Tryz.func70,Tryz.ntmps70
  go_wp2_with fail
  refine (a7g more _ oZ).mono ?_;rintro e w1 ⟨rfl,hb⟩;have HB1:=qh hb;clear hb;have HPR:=qh (show P.a4v (l,(st,sc)) more=if (P.parse more).2 then P.typed (l,(st,sc)) [((P.parse more).1:Int)] else ((l,(st,sc)),none) from rfl);generalize P.parse more=q at *;obtain⟨k,q⟩:=q;simp only at HPR⊢
  cases q
  ·have HP:=qh (HP0.o.trans (HPR.o.trans (if_neg dZ)));go_wp2;go_ret2;exact HSM.o.keep (x:=[]) HB1.o HP.o
  ·have HP:=qh (HP0.o.trans (HPR.o.trans (if_pos rfl)));have hba:=(Below.refl w1.heap.size w1).alloc lZ (.cells #[.int .i64 (k:Int)] 3);have HB2:=bt HB1 hba;have HS2:=qh (HSM.o.below HB2.o);have HE2:=qh (HE.o.below HB2.o HE.o.size);have HO:=qh (b8i (k:Int) w1);clear hba
   go_wp2_with fail
   refine (a9i lo B _ l st [(k:Int)] sc d p n _ HS2.o hm HT.o HO.o HE2.o).mono ?_;rintro e w2 hmp;obtain⟨x,ok,rfl,hx,hs,hc⟩:=hmp.after HB2.o;have HX:=qh hx;have HS:=qh hs;have HC:=qh hc;clear hmp hx hs hc;exact zq25
 have HP1:=qh (HP0.o.trans (if_neg h1))
 have f1:=P.beqN h1
 clear HP0 h1
 by_cases ho_type:word=[116,121,112,101]
 ·have HP:=qh (HP1.o.trans (if_pos (.inl ho_type)));have f_type:=P.beqB ho_type;clear ho_type;exact d9i
 by_cases ho_delete:word=[100,101,108,101,116,101]
 ·have HP:=qh (HP1.o.trans (if_pos (.inr (.inl ho_delete))));have f_type:=P.beqN ho_type;have f_delete:=P.beqB ho_delete;clear ho_delete ho_type;exact d9i
 by_cases ho_lookup:word=[108,111,111,107,117,112]
 ·have HP:=qh (HP1.o.trans (if_pos (.inr (.inr ho_lookup))));have f_type:=P.beqN ho_type;have f_delete:=P.beqN ho_delete;have f_lookup:=P.beqB ho_lookup;clear ho_lookup ho_type ho_delete;exact d9i
 have HP2:=qh (HP1.o.trans (if_neg (fun h=>by rcases h with h|h|h;exact ho_type h;exact ho_delete h;exact ho_lookup h)))
 have f_type:=P.beqN ho_type;have f_delete:=P.beqN ho_delete;have f_lookup:=P.beqN ho_lookup
 clear HP1 ho_type ho_delete ho_lookup
 by_cases h3:word=[100,101,102,105,110,101]
 ·have HP:=qh (HP2.o.trans (if_pos h3));have f3:=P.beqB h3;clear h3
  go_enter Tryz.func70,Tryz.ntmps70
  go_wp2_with fail
  refine (c1m lo B l st sc d p n more _ HSM.o hm HT.o hl HE.o).mono ?_;exact zq23
 have HP3:=qh (HP2.o.trans (if_neg h3))
 have f3:=P.beqN h3
 clear HP2 h3
 by_cases h4:word=[114,101,118,101,114,115,101]
 ·have HP:=qh (HP3.o.trans (if_pos h4));have f4:=P.beqB h4;clear h4
  go_enter Tryz.func70,Tryz.ntmps70
  go_wp2_with fail
  refine (b9c lo B l st sc d p n more _ HSM.o hm HDC.o hl HE.o).mono ?_;exact zq23
 have HP4:=qh (HP3.o.trans (if_neg h4))
 have f4:=P.beqN h4
 clear HP3 h4
 by_cases h5:word=[106,111,105,110]
 ·have HP:=qh (HP4.o.trans (if_pos h5));have f5:=P.beqB h5;have HJ:=qh (P.c7n more);have hcl:=P.a7r more [32];clear h5
  go_enter Tryz.func70,Tryz.ntmps70
  go_wp2_with fail
  refine (L.b9f more 32 _ oZ HE.o).mono ?_;rintro e w1 ⟨rfl,k1,rfl⟩;obtain⟨x,y,q,hcut⟩:∃x y b,Lib.cut more [32]=(x,y,b):=⟨_,_,_,rfl⟩;rw [hcut]at HJ hcl⊢;simp only at HJ hcl⊢;clear hcut;have HB1:=qh (show Below w.heap.size w (w.drewN k1) from below_drewN bZ _);generalize w.drewN k1=w1 at *
  go_wp2_with fail
  refine (a7s x y _ oZ oZ).mono ?_;rintro e w2 ⟨rfl,hb⟩;have HB2:=bt HB1 hb;clear hb;go_wp2;go_ret2;exact⟨_,_,rfl,by rw [HP.o,←HJ.o];rfl,by rw [HP.o];exact HSM.o.below HB2.o,Below.chg HB2.o _⟩
 have HP5:=qh (HP4.o.trans (if_neg h5))
 have f5:=P.beqN h5
 clear HP4 h5
 by_cases h6:word=[108,111,111,115,101]
 ·have HP0:=qh (HP5.o.trans (if_pos h6));have f6:=P.beqB h6;clear h6
  go_enter Tryz.func70,Tryz.ntmps70
  go_wp2_with fail
  refine (a7z more _ oZ).mono ?_;rintro e w1 ⟨rfl,hb⟩;have HB1:=qh hb;clear hb;have HPL:=qh (show P.b9s more=if (P.loose more).2 then some (P.fmt ((P.loose more).1:Int)) else none from rfl);have HLS:=qh (P.a7t (t:=more));generalize P.loose more=q at *;obtain⟨k,q⟩:=q;simp only at HPL HLS⊢
  cases q
  ·have HP:=qh (show P.args (l,(st,sc)) word more=((l,(st,sc)),none) from by rw [HP0.o,HPL.o];rfl);go_wp2;go_ret2;exact HSM.o.keep (x:=[]) HB1.o HP.o
  ·have HST:=qh (HLS.o rfl)
   go_wp2_with fail
   refine (a2t k _ HST.o).mono ?_;rintro e w2 ⟨rfl,hb⟩;have HB2:=bt HB1 hb;clear hb;go_wp2;go_ret2;exact⟨_,_,rfl,by rw [HP0.o,HPL.o];rfl,by rw [HP0.o];exact HSM.o.below HB2.o,Below.chg HB2.o _⟩
 have HP:=qh (HP5.o.trans (if_neg h6))
 have f6:=P.beqN h6
 clear HP5 h6
 go_enter Tryz.func70,Tryz.ntmps70
 go_wp2
 go_ret2
 exact HSM.o.keep (x:=[]) bZ HP.o
theorem b2r (u us:Value) (l:P.Dic) (st:List Int) (sc d p:Str) (n:Int) (line:Str) (w:World) (hu:EntR w u l) (hus:IntR w us st) (hf:P.Fit (l,(st,sc)) (d,p,n)) (hl:line.length≤2^20) (hE:L.Env w) :
 Calls Tryz.prog 19 #[a1e u us sc d p n,.string (S line)] w (d7g (P.exec (l,(st,sc)) (d,p,n) line) w):=by
 obtain⟨hf1,hf2,hf3,hf4,hf5,hf6⟩:=hf
 have hm:Small l:=⟨hf1,hf2,hf3⟩
 simp only at hf4 hf5 hf6
 clear hf1 hf2 hf3
 have hu0:=hu;have hus0:=hus
 obtain⟨ad,cap,rfl,_,_⟩:=hu0
 obtain⟨sd,sap,rfl,_,_⟩:=hus0
 obtain⟨W0,hW0⟩:∃v,(w.alloc (a0d (.slice ad l.length cap) (.slice sd st.length sap) sc d p n)).alloc (a0d (.slice none 0 0) (.slice none 0 0) [] [] [] 0)=v:=⟨_,rfl⟩
 have hb0:Below w.heap.size w W0:=by rw [←hW0];exact ((Below.refl w.heap.size w).alloc lZ _).alloc sZ _
 have hzW:W0.heap.size=w.heap.size+2:=by rw [←hW0];simp
 have hq0:SQ w.heap.size (.slice ad l.length cap) (.slice sd st.length sap) sc d p n W0:=by
  exact zq89
 have HU:=qh hu;have HUS:=qh hus;have HE:=qh hE
 have HQ:=qh hq0;have HB:=qh hb0
 have hzW2:w.heap.size+2≤W0.heap.size:=by omega
 clear hq0 hb0 hu hus hE hzW
 go_enter Tryz.func19,Tryz.ntmps19
 go_upto_region 1 with fail
 try rw [hW0]
 clear hW0
 obtain⟨⟨o0,o1,o2,o3,o4,o5,o6⟩,_⟩:=HQ.o.1
 go_wp2_with fail
 refine (c7y _ _ l st sc d p n _ (HU.o.below HB.o) (HUS.o.below HB.o) hm oZ).mono ?_
 rintro e w1 ⟨nu,nus,m,rfl,hD,hI,hm1,hm2,hb⟩
 obtain⟨na,nc,rfl,-,-⟩:=id hD
 obtain⟨ma,mc,rfl,-,-⟩:=id hI
 obtain⟨w2,hw2⟩:∃v,w1.alloc (a0d (.slice na l.length nc) (.slice ma st.length mc) sc d p n)=v:=⟨_,rfl⟩
 have hba:Below w1.heap.size w1 w2:=by rw [←hw2];exact bZ.alloc lZ _
 have hz1:=hb.size
 have hBz:w1.heap.size<w2.heap.size:=by rw [←hw2];simp
 have HB2:=qh ((HB.o.trans (hb.mono HB.o.size)).trans (hba.mono oZ))
 have HQ2:=qh ((HQ.o.below hb).below hba)
 have HS2:=qh (show SesM (w.heap.size+2) w1.heap.size (l,(st,sc)) (d,p,n) w2 from⟨by have:=HE.o.size;omega,by omega,_,_,by rw [←hw2];exact SOut.new _ _ _ _ _ _ _,(a2q.of hD hI hzW2 hm2 hm1 (.inl lZ)).below hba⟩)
 clear hD hI hm1 hm2 hb hba HQ HB o0 o1 o2 o3 o4 o5 o6
 go_upto_region 2 with fail
 try rw [hw2]
 clear hw2
 obtain⟨⟨o0,o1,o2,o3,o4,o5,o6⟩,_⟩:=HQ2.o.1
 go_wp2_with fail
 refine (a9j _ _ l st sc d p n _ (HU.o.below HB2.o) (HUS.o.below HB2.o) hm hf5 hf6 (HE.o.below HB2.o HE.o.size)).mono ?_
 rintro e w3 ⟨rfl,hb⟩
 have HB3:=bt HB2 hb;have HQ3:=qh (HQ2.o.below hb);have HS3:=qh (HS2.o.below hb)
 have hB3:=hb.size
 clear hb HB2 HQ2 HS2 o0 o1 o2 o3 o4 o5 o6
 cases h1:P.sess l st sc d p n
 ·have HP:=qh (P.b7w (s:=(l,(st,sc))) (g:=(d,p,n)) (line:=line) h1);obtain⟨_,_,bu,bus,hso,hrows⟩:=HS3.o;simp only at hso hrows;obtain⟨ba,bc,rfl,_,_⟩:=id hrows.dic;obtain⟨ia,ic,rfl,_,_⟩:=id hrows.str;obtain⟨⟨o0,o1,o2,o3,o4,o5,o6⟩,_⟩:=hso;obtain⟨⟨r0,r1,r2,r3,r4,r5,r6⟩,f0,f1,f2,f3,f4,f5⟩:=HQ3.o.2;obtain⟨V,hV⟩:∃v,wr6 w3 (w.heap.size+1) (.slice ba l.length bc) (.slice ia st.length ic) sc d p n=v:=⟨_,rfl⟩;have hset:Chg (fun b=>b=w.heap.size+1) w3 V:=by rw [←hV];exact a6d _ _ _ _ _ _ _ _
  have HRV:=qh (show SOut (w.heap.size+1) (.slice ba l.length bc) (.slice ia st.length ic) sc d p n V from by rw [←hV];exact a7a HQ3.o.2 _ _ _ _ _ _);have HBV:=qh (Chg.a0k HB3.o hset HB3.o.size (fun b h=>by have h9:b=w.heap.size+1:=h;omega));have HROW:=qh ((hrows.a6k hset (fun b h=>by have h9:b=w.heap.size+1:=h;omega)).lo (lo':=w.heap.size) oZ);unfold wr6 at hV;clear hrows;go_wp2
  try rw [hV]
  clear hset hV;obtain⟨q0,q1,q2,q3,q4,q5,q6⟩:=HRV.o.1;refine bodyPost_ret (v:=.tuple #[a1e (.slice ba l.length bc) (.slice ia st.length ic) sc d p n,.string (S [110,111])]) (by simp [results,Tryz.results19,go_sem,q0,q1,q2,q3,q4,q5]) rfl ⟨_,_,w1.heap.size,by rw [HP.o]<;>rfl,by rw [HP.o];exact HROW.o,HBV.o⟩
 have HT:=qh (P.a7d (s:=(l,(st,sc))) (g:=(d,p,n)) h1)
 go_wp2_with fail
 refine (L.a2r line [] _ oZ sZ).mono ?_
 rintro e w4 ⟨rfl,hb⟩
 rw [P.a6b]
 have HB4:=bt HB3 hb;have HQ4:=qh (HQ3.o.below hb);have HS4:=qh (HS3.o.below hb)
 have hB4:=Nat.le_trans hB3 hb.size
 clear hb HB3 HQ3 HS3
 cases h2:P.good line []
 ·have HP:=qh (P.b3i (s:=(l,(st,sc))) (g:=(d,p,n)) (line:=line) h1 h2);obtain⟨_,_,bu,bus,hso,hrows⟩:=HS4.o;simp only at hso hrows;obtain⟨ba,bc,rfl,_,_⟩:=id hrows.dic;obtain⟨ia,ic,rfl,_,_⟩:=id hrows.str;obtain⟨⟨o0,o1,o2,o3,o4,o5,o6⟩,_⟩:=hso;obtain⟨⟨r0,r1,r2,r3,r4,r5,r6⟩,f0,f1,f2,f3,f4,f5⟩:=HQ4.o.2;obtain⟨V,hV⟩:∃v,wr6 w4 (w.heap.size+1) (.slice ba l.length bc) (.slice ia st.length ic) sc d p n=v:=⟨_,rfl⟩;have hset:Chg (fun b=>b=w.heap.size+1) w4 V:=by rw [←hV];exact a6d _ _ _ _ _ _ _ _
  have HRV:=qh (show SOut (w.heap.size+1) (.slice ba l.length bc) (.slice ia st.length ic) sc d p n V from by rw [←hV];exact a7a HQ4.o.2 _ _ _ _ _ _);have HBV:=qh (Chg.a0k HB4.o hset HB4.o.size (fun b h=>by have h9:b=w.heap.size+1:=h;omega));have HROW:=qh ((hrows.a6k hset (fun b h=>by have h9:b=w.heap.size+1:=h;omega)).lo (lo':=w.heap.size) oZ);unfold wr6 at hV;clear hrows;go_wp2
  try rw [hV]
  clear hset hV;obtain⟨q0,q1,q2,q3,q4,q5,q6⟩:=HRV.o.1;refine bodyPost_ret (v:=.tuple #[a1e (.slice ba l.length bc) (.slice ia st.length ic) sc d p n,.string (S [98,97,100])]) (by simp [results,Tryz.results19,go_sem,q0,q1,q2,q3,q4,q5]) rfl ⟨_,_,w1.heap.size,by rw [HP.o]<;>rfl,by rw [HP.o];exact HROW.o,HBV.o⟩
 by_cases h3:n=60
 ·have HP:=qh (P.a9t (s:=(l,(st,sc))) (g:=(d,p,n)) (line:=line) h1 h2 h3);have f9:(n==60)=true:=by rw [h3];rfl
  clear h3;obtain⟨⟨x0,x1,x2,x3,x4,x5,x6⟩,_⟩:=HQ4.o.1;obtain⟨_,_,bu,bus,hso,hrows⟩:=HS4.o;simp only at hso hrows;obtain⟨ba,bc,rfl,_,_⟩:=id hrows.dic;obtain⟨ia,ic,rfl,_,_⟩:=id hrows.str;obtain⟨⟨o0,o1,o2,o3,o4,o5,o6⟩,_⟩:=hso;obtain⟨⟨r0,r1,r2,r3,r4,r5,r6⟩,f0,f1,f2,f3,f4,f5⟩:=HQ4.o.2;obtain⟨V,hV⟩:∃v,wr6 w4 (w.heap.size+1) (.slice ba l.length bc) (.slice ia st.length ic) sc d p n=v:=⟨_,rfl⟩;have hset:Chg (fun b=>b=w.heap.size+1) w4 V:=by rw [←hV];exact a6d _ _ _ _ _ _ _ _
  have HRV:=qh (show SOut (w.heap.size+1) (.slice ba l.length bc) (.slice ia st.length ic) sc d p n V from by rw [←hV];exact a7a HQ4.o.2 _ _ _ _ _ _);have HBV:=qh (Chg.a0k HB4.o hset HB4.o.size (fun b h=>by have h9:b=w.heap.size+1:=h;omega));have HROW:=qh ((hrows.a6k hset (fun b h=>by have h9:b=w.heap.size+1:=h;omega)).lo (lo':=w.heap.size) oZ);unfold wr6 at hV;clear hrows;go_wp2
  try rw [hV]
  clear hset hV;obtain⟨q0,q1,q2,q3,q4,q5,q6⟩:=HRV.o.1;refine bodyPost_ret (v:=.tuple #[a1e (.slice ba l.length bc) (.slice ia st.length ic) sc d p n,.string (S [102,117,108,108])]) (by simp [results,Tryz.results19,go_sem,q0,q1,q2,q3,q4,q5]) rfl ⟨_,_,w1.heap.size,by rw [HP.o]<;>rfl,by rw [HP.o];exact HROW.o,HBV.o⟩
 have HP:=qh (P.b3a (s:=(l,(st,sc))) (g:=(d,p,n)) (line:=line) h1 h2 h3)
 have f9:(n==60)=false:=by rw [beq_eq_false_iff_ne];exact h3
 obtain⟨⟨x0,x1,x2,x3,x4,x5,x6⟩,_⟩:=HQ4.o.1
 have HCM:=qh (P.d8v (l,(st,sc)) line)
 have hcl:=P.a7r line [32]
 go_wp2_with fail
 refine (L.b9f line 32 _ oZ (HE.o.below HB4.o HE.o.size)).mono ?_
 rintro e w5 ⟨rfl,k1,rfl⟩
 obtain⟨x,y,q,hcut⟩:∃x y b,Lib.cut line [32]=(x,y,b):=⟨_,_,_,rfl⟩
 rw [hcut]at HCM hcl⊢
 simp only at HCM hcl⊢
 clear hcut
 have hbd:Below w4.heap.size w4 (w4.drewN k1):=below_drewN bZ _
 have HB5:=bt HB4 hbd;have HQ5:=qh (HQ4.o.below hbd);have HS5:=qh (HS4.o.below hbd)
 have hB5:=Nat.le_trans hB4 hbd.size
 clear hbd HB4 HQ4 HS4 x0 x1 x2 x3 x4 x5 x6
 generalize w4.drewN k1=w5 at *
 obtain⟨a,ha⟩:∃a,P.cmd (l,(st,sc)) line=a:=⟨_,rfl⟩
 rw [ha]at HP HCM
 clear ha
 go_upto_if 37 with fail
 go_cut [10,11] (fun rv kv wx=>∃(r:Str) (ok:Bool),rv=.string (S r)∧kv=.bool ok∧okB r ok=a.2∧SesM (w.heap.size+2) w1.heap.size a.1 (d,p,n) wx∧Chg (fun b=>b=w1.heap.size) w5 wx)
 case first=>
  cases q
  ·go_wp2_with fail
   refine (c4m (w.heap.size+2) w1.heap.size l st sc d p n x _ HS5.o hm HT.o.1 (HE.o.below HB5.o HE.o.size)).mono ?_;rintro e w6 ⟨r,ok,rfl,hx,hs,hc⟩;rw [←show a=P.alone (l,(st,sc)) x from HCM.o]at hx hs;exact zq147
  ·go_wp2_with fail
   refine (c7x (w.heap.size+2) w1.heap.size l st sc d p n x y _ HS5.o hm HT.o.1 oZ (HE.o.below HB5.o HE.o.size)).mono ?_;rintro e w6 ⟨r,ok,rfl,hx,hs,hc⟩;rw [←show a=P.args (l,(st,sc)) x y from HCM.o]at hx hs;exact zq147
 case rest=>
  obtain⟨r,ok,rfl,rfl,hx,hs,hc⟩:=hcut;generalize hww:wc=w6 at *;clear hww HCM;have HX:=qh hx;have HS6:=qh hs;have HQ6:=qh (show SQ w.heap.size (.slice ad l.length cap) (.slice sd st.length sap) sc d p n w6 from⟨HQ5.o.1.a0e hc (fun h=>by have h9:w.heap.size=w1.heap.size:=h;omega),HQ5.o.2.a0e hc (fun h=>by have h9:w.heap.size+1=w1.heap.size:=h;omega)⟩);have HB6:=qh (Chg.a0k HB5.o hc HB5.o.size (fun b h=>by have h9:b=w1.heap.size:=h;omega));have hB6:=Nat.le_trans hB5 hc.size;clear hx hs hc HB5 HQ5 HS5;have HRP:=qh (b5o a.2)
  go_upto_if 50 with fail
  go_cut [10] (fun rv wx=>rv=.string (S (txtB a.2))∧w6=wx)
  case first=>
   cases ok
   ·go_wp2;go_meet;exact⟨by rw [←HX.o];rfl,rfl⟩
   ·go_wp2;go_meet;exact⟨by rw [←HX.o];rfl,rfl⟩
  case rest=>
   obtain⟨rfl,rfl⟩:=hcut;generalize txtB a.2=t1 at *
   go_upto_if 53 with fail
   go_cut [10] (fun rv wx=>rv=.string (S (P.a4s a.2))∧w6=wx)
   case first=>
    exact zq81
   case rest=>
    obtain⟨rfl,rfl⟩:=hcut;have hrl:=P.b4f a.2;generalize P.a4s a.2=rep at *;obtain⟨⟨x0,x1,x2,x3,x4,x5,x6⟩,_⟩:=HQ6.o.1
    go_wp2_with fail
    refine (L.c3z d p n line rep _ hf5 hf6 hl oZ (HE.o.below HB6.o HE.o.size)).mono ?_;rintro e w7 ⟨rfl,hb⟩;rw [P.app_eq];have HB7:=bt HB6 hb;have HQ7:=qh (HQ6.o.below hb);have HS7:=qh (HS6.o.below hb);have hB7:=Nat.le_trans hB6 hb.size;have HG:=qh (show P.c6h (d,p,n) line rep=(d,(P.appS d p n line rep).1,(P.appS d p n line rep).2.1) from rfl);rw [HG.o]at HP;generalize P.appS d p n line rep=g9 at *;obtain⟨p9,n9,c9⟩:=g9;simp only at HP⊢;clear hb HB6 HQ6 HS6 x0 x1 x2 x3 x4 x5 x6 HG;obtain⟨w8,hw8⟩:∃v,wr3 w7 w1.heap.size d p9 n9=v:=⟨_,rfl⟩;have hc8:Chg (fun b=>b=w1.heap.size) w7 w8:=by rw [←hw8];exact b8b _ _ _ _ _
    have HS8:=qh (show SesM (w.heap.size+2) w1.heap.size a.1 (d,p9,n9) w8 from by rw [←hw8];exact HS7.o.log);have HQ8:=qh (show SQ w.heap.size (.slice ad l.length cap) (.slice sd st.length sap) sc d p n w8 from⟨HQ7.o.1.a0e hc8 (fun h=>by have h9:w.heap.size=w1.heap.size:=h;omega),HQ7.o.2.a0e hc8 (fun h=>by have h9:w.heap.size+1=w1.heap.size:=h;omega)⟩);have HB8:=qh (Chg.a0k HB7.o hc8 HB7.o.size (fun b h=>by have h9:b=w1.heap.size:=h;omega));have hB8:=Nat.le_trans hB7 hc8.size;obtain⟨_,_,zu,zus,hzs,_⟩:=HS7.o;obtain⟨⟨o0,o1,o2,o3,o4,o5,o6⟩,g0,g1,g2,g3,g4,g5⟩:=hzs;unfold wr3 at hw8
    go_upto_region 18 with fail
    try rw [hw8]
    clear hw8 hc8 HB7 HQ7 HS7 o0 o1 o2 o3 o4 o5 o6 g0 g1 g2 g3 g4 g5;obtain⟨⟨D,T2,sc2⟩,ro⟩:=a;simp only at HP HS8 hrl;obtain⟨_,_,bu,bus,hso,hrows⟩:=HS8.o;simp only at hso hrows;obtain⟨ba,bc,rfl,_,_⟩:=id hrows.dic;obtain⟨ia,ic,rfl,_,_⟩:=id hrows.str;obtain⟨⟨o0,o1,o2,o3,o4,o5,o6⟩,_⟩:=hso;obtain⟨⟨r0,r1,r2,r3,r4,r5,r6⟩,f0,f1,f2,f3,f4,f5⟩:=HQ8.o.2;obtain⟨V,hV⟩:∃v,wr6 w8 (w.heap.size+1) (.slice ba D.length bc) (.slice ia T2.length ic) sc2 d p9 n9=v:=⟨_,rfl⟩;have hset:Chg (fun b=>b=w.heap.size+1) w8 V:=by rw [←hV];exact a6d _ _ _ _ _ _ _ _
    have HRV:=qh (show SOut (w.heap.size+1) (.slice ba D.length bc) (.slice ia T2.length ic) sc2 d p9 n9 V from by rw [←hV];exact a7a HQ8.o.2 _ _ _ _ _ _);have HBV:=qh (Chg.a0k HB8.o hset HB8.o.size (fun b h=>by have h9:b=w.heap.size+1:=h;omega));have HROW:=qh ((hrows.a6k hset (fun b h=>by have h9:b=w.heap.size+1:=h;omega)).lo (lo':=w.heap.size) oZ);unfold wr6 at hV;clear hrows;go_wp2
    try rw [hV]
    clear hset hV;obtain⟨q0,q1,q2,q3,q4,q5,q6⟩:=HRV.o.1;refine bodyPost_ret (v:=.tuple #[a1e (.slice ba D.length bc) (.slice ia T2.length ic) sc2 d p9 n9,.string (S rep)]) (by simp [results,Tryz.results19,go_sem,q0,q1,q2,q3,q4,q5]) rfl ⟨_,_,w1.heap.size,by rw [HP.o]<;>rfl,by rw [HP.o];exact HROW.o,HBV.o⟩
end Go.Proofs.YtggfdnopminemaaGreatDoor
