/- Walks: is a session valid? (program and reference); the law's own functions on sessions. -/
import Derived.Test.YtggfdnopminemaaGreatDoorZt
import Derived.Test.YtggfdnopminemaaGreatDoorLLog10
import Derived.Test.YtggfdnopminemaaGreatDoorScrI9
namespace Go.Proofs.YtggfdnopminemaaGreatDoor
namespace P
theorem a8p {d:Dic} {t:Tr} (h:trans d t=true):dic d=true:=by
 exact zq129
def sess (l:Dic) (st:List Int) (sc d p:Bs) (n:Int):Bool:=trans l (st,sc)&&a1t d p n
theorem d6a (l:Dic) (st:List Int) (sc d p:Bs) (n:Int):(dic l&&(trans l (st,sc)&&a1t d p n))=sess l st sc d p n:=by
 unfold sess
 cases h:trans l (st,sc) with
 |false=>simp
 |true=>rw [a8p h];simp
end P
open Go Go.RowKit
set_option maxHeartbeats 8000000
set_option maxRecDepth 100000
theorem a9j (u us:Value) (l:P.Dic) (st:List Int) (sc d p:Str) (n:Int) (w:World) (hu:EntR w u l) (hus:IntR w us st) (hm:Small l) (hd:d.length≤2^20) (hp:p.length≤2^20) (hE:L.Env w) :
 Calls Tryz.prog 45 #[a1e u us sc d p n] w fun e w'=>e=.returned (.bool (P.sess l st sc d p n))∧Below w.heap.size w w':=by
 have hb0:=(Below.refl w.heap.size w).alloc lZ (a0d u us sc d p n)
 have HU:=qh (hu.below hb0);have HUS:=qh (hus.below hb0);have HX:=qh (SBox.new u us sc d p n w);have HE:=qh (hE.below hb0 hE.size);have HB:=qh hb0
 clear hb0 hE
 obtain⟨ad,cap,rfl,_,_⟩:=hu
 obtain⟨sd,sap,rfl,_,_⟩:=hus
 go_enter Tryz.func45,Tryz.ntmps45
 go_upto_region 1 with fail
 generalize w.alloc (a0d (.slice ad l.length cap) (.slice sd st.length sap) sc d p n)=v0 at *
 obtain⟨c0,c1,c2,c3,c4,c5,_⟩:=HX.o
 go_wp2_with fail
 refine (a2j _ _ l st sc _ HU.o HUS.o hm HE.o.dic).mono ?_
 rintro e w1 ⟨rfl,hb⟩
 have HX1:=qh (HX.o.below hb);have HE1:=qh (HE.o.below hb HE.o.size);have HB1:=bt HB hb
 have HP:=qh (show P.sess l st sc d p n=(P.trans l (st,sc)&&P.a1t d p n) from rfl)
 clear hb c0 c1 c2 c3 c4 c5 HX HE HB HU HUS
 generalize P.trans l (st,sc)=q at *
 obtain⟨c0,c1,c2,c3,c4,c5,_⟩:=HX1.o
 cases q
 ·go_wp2;go_ret;exact⟨by rw [HP.o];rfl,HB1.o⟩
 ·go_wp2_with fail
  refine (L.a5m d p n _ hd hp HE1.o).mono ?_;rintro e w2 ⟨rfl,hb⟩;rw [P.a6h];have HB2:=bt HB1 hb;clear hb;go_wp2;go_ret;exact⟨by rw [HP.o];rfl,HB2.o⟩
theorem d9d (u us:Value) (l:P.Dic) (st:List Int) (sc d p:Str) (n:Int) (w:World) (hu:EntR w u l) (hus:IntR w us st) (hm:Small l) (hd:d.length≤2^20) (hp:p.length≤2^20) :
 Calls Tryz.prog 93 #[a1e u us sc d p n] w fun e w'=>e=.returned (.bool (P.sess l st sc d p n))∧Below w.heap.size w w':=by
 have hb0:=(Below.refl w.heap.size w).alloc lZ (a0d u us sc d p n)
 have HU:=qh (hu.below hb0);have HUS:=qh (hus.below hb0);have HX:=qh (SBox.new u us sc d p n w);have HB:=qh hb0
 clear hb0
 have HP:=qh (P.d6a l st sc d p n)
 obtain⟨ad,cap,rfl,_,_⟩:=hu
 obtain⟨sd,sap,rfl,_,_⟩:=hus
 go_enter Tryz.func93,Tryz.ntmps93
 go_upto_region 1 with fail
 generalize w.alloc (a0d (.slice ad l.length cap) (.slice sd st.length sap) sc d p n)=v0 at *
 obtain⟨c0,c1,c2,c3,c4,c5,_⟩:=HX.o
 go_wp2_with fail
 refine (c1d _ l _ HU.o hm.texts).mono ?_
 rintro e w1 ⟨rfl,hb⟩
 have HX1:=qh (HX.o.below hb);have HB1:=bt HB hb;have HU1:=qh (HU.o.below hb);have HUS1:=qh (HUS.o.below hb)
 clear hb c0 c1 c2 c3 c4 c5 HX HB HU HUS
 generalize P.dic l=q at *
 obtain⟨c0,c1,c2,c3,c4,c5,_⟩:=HX1.o
 cases q
 ·go_wp2;go_ret;exact⟨by rw [←HP.o];rfl,HB1.o⟩
 ·go_wp2_with fail
  refine (c4h _ _ l st sc _ HU1.o HUS1.o hm).mono ?_;rintro e w2 ⟨rfl,hb⟩;have HX2:=qh (HX1.o.below hb);have HB2:=bt HB1 hb;clear hb c0 c1 c2 c3 c4 c5 HX1 HB1 HU1 HUS1;generalize P.trans l (st,sc)=q at *;obtain⟨c0,c1,c2,c3,c4,c5,_⟩:=HX2.o
  cases q
  ·go_wp2;go_ret;exact⟨by rw [←HP.o];rfl,HB2.o⟩
  ·go_wp2_with fail
   refine (L.c1l d p n _ hd hp).mono ?_;rintro e w3 ⟨rfl,hb⟩;have HB3:=bt HB2 hb;clear hb;go_wp2;go_ret;exact⟨by rw [←HP.o];rfl,HB3.o⟩
abbrev a1z (u us:Value) (sc d p:Str) (n:Int):Obj:=.cells #[u,us,.string (S sc),.string (S d),.string (S p),.int .i64 n] 73
theorem SBox.newL (u us:Value) (sc d p:Str) (n:Int) (v:World):SBox v.heap.size u us sc d p n (v.alloc (a1z u us sc d p n)):=by
 refine⟨?_,?_,?_,?_,?_,?_,by simp⟩<;>go_simp
def P.c5d (l:P.Dic) (st:List Int) (sc d p:Str):Int:=((l.length:Int)+P.a4t l)+((st.length:Int)+sc.length)+((d.length:Int)+p.length)
theorem d1c (u us:Value) (l:P.Dic) (st:List Int) (sc d p:Str) (n left:Int) (w:World) (hu:EntA w u l) (ht:∀e∈l,e.2.length≤9223372036854775807) (hus:IntA w us st) (hsc:sc.length≤9223372036854775807) (hd:d.length≤maxLen) (hp:p.length≤maxLen) (h0:0≤left) (h1:left≤2^20) :
 Calls Tryz.prog 33 #[a1e u us sc d p n,.int .i64 left] w (b7j left (P.c5d l st sc d p) w):=by
 have hb0:=(Below.refl w.heap.size w).alloc lZ (a1z u us sc d p n)
 have HU:=qh (hu.below hb0);have HUS:=qh (hus.below hb0);have HX:=qh (SBox.newL u us sc d p n w);have HB:=qh hb0
 have HZE:=qh (P.a3e l)
 clear hb0
 obtain⟨ad,cap,rfl,_,_⟩:=hu
 obtain⟨sd,sap,rfl,_,_⟩:=hus
 go_enter Tryz.func33,Tryz.ntmps33
 go_upto_region 1 with fail
 generalize w.alloc (a1z (.slice ad l.length cap) (.slice sd st.length sap) sc d p n)=v0 at *
 obtain⟨c0,c1,c2,c3,c4,c5,_⟩:=HX.o
 go_wp2_with fail
 refine (c2q _ l left _ HU.o ht h0 h1).mono ?_
 rintro e w1 ⟨⟨r,rfl,hr0,hr⟩,hb⟩
 have HX1:=qh (HX.o.below hb);have HB1:=bt HB hb;have HUS1:=qh (HUS.o.below hb)
 have HR:=qh hr
 clear hb c0 c1 c2 c3 c4 c5 HX HB HU HUS hr
 obtain⟨c0,c1,c2,c3,c4,c5,_⟩:=HX1.o
 by_cases hn1:r<0
 ·exact zq86
 have hr1:r=left-((l.length:Int)+P.a4t l):=HR.o oZ
 have hr2:0≤r:=by omega
 have hr3:r≤2^20:=by have:=HZE.o;omega
 have HR1:=qh hr1
 clear HR hr1
 go_wp2_with fail
 refine (c2n _ st sc r _ HUS1.o hsc hr2 hr3).mono ?_
 rintro e w2 ⟨⟨s,rfl,hs0,hs⟩,hb⟩
 have HX2:=qh (HX1.o.below hb);have HB2:=bt HB1 hb
 have HS:=qh hs
 clear hb c0 c1 c2 c3 c4 c5 HX1 HB1 HUS1 hs
 obtain⟨c0,c1,c2,c3,c4,c5,_⟩:=HX2.o
 by_cases hn2:s<0
 ·go_wp2;go_ret;exact⟨⟨-1,rfl,by omega,by omega⟩,HB2.o⟩
 have hs1:s=r-((st.length:Int)+sc.length):=HS.o oZ
 have hs2:0≤s:=by omega
 have hs3:s≤1048576:=by omega
 have HS1:=qh hs1
 clear HS hs1
 go_wp2_with fail
 refine (L.szLog d p n s _ hd hp hs2 hs3).mono ?_
 rintro e w3 ⟨rfl,hb⟩
 have HB3:=bt HB2 hb
 clear hb c0 c1 c2 c3 c4 c5 HX2 HB2
 obtain⟨q,hq⟩:∃q,P.sz2 d.length p.length s=q:=⟨_,rfl⟩
 rw [hq]
 have hq2 : -1≤q∧(0≤q→q=s-d.length-p.length):=by
  rw [←hq];unfold P.sz2
  split
  ·exact⟨by omega,by omega⟩
  ·split
   ·exact⟨by omega,by omega⟩
   ·exact⟨by omega,fun _=>rfl⟩
 have HQ:=qh hq2
 clear hq hq2
 by_cases hn3:q<0
 ·go_wp2;go_ret;exact⟨⟨-1,rfl,by omega,by omega⟩,HB3.o⟩
 ·go_wp2;go_ret;exact⟨⟨q,rfl,by omega,fun _=>by have h1:=HQ.o.2 oZ;have h2:=HS1.o;have h3:=HR1.o;unfold P.c5d;omega⟩,HB3.o⟩
def SOut (b:Nat) (u us:Value) (sc d p:Str) (n:Int) (v:World):Prop:=
 SBox b u us sc d p n v∧v.frozen? ⟨b,0,none⟩=false∧v.frozen? ⟨b,1,none⟩=false∧v.frozen? ⟨b,2,none⟩=false∧v.frozen? ⟨b,3,none⟩=false∧v.frozen? ⟨b,4,none⟩=false∧v.frozen? ⟨b,5,none⟩=false
theorem SOut.a0e {b:Nat} {u us:Value} {sc d p:Str} {n:Int} {v v':World} {X:Blk} (h:SOut b u us sc d p n v) (hc:Chg X v v') (hX:¬X b):SOut b u us sc d p n v':=by
 obtain⟨h0,f0,f1,f2,f3,f4,f5⟩:=h;have hb:=h0.2.2.2.2.2.2;exact⟨h0.a0e hc hX,(hc.frozen (p:=⟨b,0,none⟩) hb hX).trans f0,(hc.frozen (p:=⟨b,1,none⟩) hb hX).trans f1,(hc.frozen (p:=⟨b,2,none⟩) hb hX).trans f2,(hc.frozen (p:=⟨b,3,none⟩) hb hX).trans f3,(hc.frozen (p:=⟨b,4,none⟩) hb hX).trans f4,(hc.frozen (p:=⟨b,5,none⟩) hb hX).trans f5⟩
theorem SOut.below {b:Nat} {u us:Value} {sc d p:Str} {n:Int} {v v':World} (h:SOut b u us sc d p n v) (hb:Below v.heap.size v v'):SOut b u us sc d p n v':=h.a0e (Below.chg hb fun _=>False) fun h=>h
theorem SOut.new (u us:Value) (sc d p:Str) (n:Int) (v:World):SOut v.heap.size u us sc d p n (v.alloc (a0d u us sc d p n)):=by
 refine⟨SBox.new _ _ _ _ _ _ _,?_,?_,?_,?_,?_,?_⟩<;>go_simp
theorem SOut.set0 {b:Nat} {u us x:Value} {sc d p:Str} {n:Int} {v:World} (h:SOut b u us sc d p n v):SOut b x us sc d p n (v.setCell ⟨b,0,none⟩ x):=by
 exact zq27
theorem SOut.set1 {b:Nat} {u us x:Value} {sc r d p:Str} {n:Int} {v:World} (h:SOut b u us sc d p n v):SOut b u x r d p n ((v.setCell ⟨b,1,none⟩ x).setCell ⟨b,2,none⟩ (.string (S r))):=by
 exact zq27
theorem SOut.set3 {b:Nat} {u us:Value} {sc d p d' p':Str} {n n':Int} {v:World} (h:SOut b u us sc d p n v):SOut b u us sc d' p' n' (((v.setCell ⟨b,3,none⟩ (.string (S d'))).setCell ⟨b,4,none⟩ (.string (S p'))).setCell ⟨b,5,none⟩ (.int .i64 n')):=by
 exact zq27
def c4t (l:P.Dic) (st:List Int) (sc d p:Str) (n:Int) (w:World) (e:Ending) (w':World):Prop:=
 ∃u us m,e=.returned (a1e u us sc d p n)∧Ents w' (Bet w.heap.size m) u l∧Ints w' (Bet m w'.heap.size) us st∧w.heap.size≤m∧m≤w'.heap.size∧Below w.heap.size w w'
theorem b0b (u us:Value) (l:P.Dic) (st:List Int) (sc d p:Str) (n:Int) (w:World) (hu:EntR w u l) (hus:IntR w us st) (hm:Small l) (hst:st.length≤2^20) :
 Calls Tryz.prog 35 #[a1e u us sc d p n] w (c4t l st sc d p n w):=by
 have hb0:Below w.heap.size w (((w.alloc (a1z u us sc d p n)).alloc (a0d (.slice none 0 0) (.slice none 0 0) [] [] [] 0)).alloc (a0d (.slice none 0 0) (.slice none 0 0) [] [] [] 0)):=(((Below.refl w.heap.size w).alloc lZ _).alloc sZ _).alloc (by simp;omega) _
 have HU:=qh hu;have HUS:=qh hus;have HB:=qh hb0
 have HX:=qh (((SBox.newL u us sc d p n w).below (bZ.alloc lZ (a0d (.slice none 0 0) (.slice none 0 0) [] [] [] 0))).below (bZ.alloc lZ (a0d (.slice none 0 0) (.slice none 0 0) [] [] [] 0)))
 have HR:=qh (show SOut (w.heap.size+1) (.slice none 0 0) (.slice none 0 0) [] [] [] 0 (((w.alloc (a1z u us sc d p n)).alloc (a0d (.slice none 0 0) (.slice none 0 0) [] [] [] 0)).alloc (a0d (.slice none 0 0) (.slice none 0 0) [] [] [] 0)) from by have h:=(SOut.new (.slice none 0 0) (.slice none 0 0) [] [] [] 0 (w.alloc (a1z u us sc d p n))).below (bZ.alloc lZ (a0d (.slice none 0 0) (.slice none 0 0) [] [] [] 0));simpa using h)
 have HO:=qh (show SOut (w.heap.size+2) (.slice none 0 0) (.slice none 0 0) [] [] [] 0 (((w.alloc (a1z u us sc d p n)).alloc (a0d (.slice none 0 0) (.slice none 0 0) [] [] [] 0)).alloc (a0d (.slice none 0 0) (.slice none 0 0) [] [] [] 0)) from by have h:=SOut.new (.slice none 0 0) (.slice none 0 0) [] [] [] 0 ((w.alloc (a1z u us sc d p n)).alloc (a0d (.slice none 0 0) (.slice none 0 0) [] [] [] 0));simpa using h)
 have hz0:w.heap.size+2<(((w.alloc (a1z u us sc d p n)).alloc (a0d (.slice none 0 0) (.slice none 0 0) [] [] [] 0)).alloc (a0d (.slice none 0 0) (.slice none 0 0) [] [] [] 0)).heap.size:=by simp
 clear hb0
 obtain⟨ad,cap,rfl,_,_⟩:=hu
 obtain⟨sd,sap,rfl,_,_⟩:=hus
 go_enter Tryz.func35,Tryz.ntmps35
 go_upto_region 2 with fail
 generalize ((w.alloc (a1z (.slice ad l.length cap) (.slice sd st.length sap) sc d p n)).alloc (a0d (.slice none 0 0) (.slice none 0 0) [] [] [] 0)).alloc (a0d (.slice none 0 0) (.slice none 0 0) [] [] [] 0)=v0 at *
 obtain⟨c0,c1,c2,c3,c4,c5,_⟩:=HX.o
 go_wp2_with fail
 refine (c2e _ l _ (HU.o.below HB.o) hm.len hm.outs).mono ?_
 rintro e w1 ⟨x,rfl,hX,hb⟩
 have HX1:=qh (HX.o.below hb);have HR1:=qh (HR.o.below hb);have HO1:=qh (HO.o.below hb);have HB1:=bt HB hb
 have HD1:=qh hX
 have hz1:v0.heap.size≤w1.heap.size:=hb.size
 obtain⟨xa,xc,rfl,_,_⟩:=id hX
 clear hb c0 c1 c2 c3 c4 c5 HX HR HO HB HU hX
 have hset:Chg (fun k=>k=w.heap.size+2) w1 (w1.setCell ⟨w.heap.size+2,0,none⟩ (.slice xa l.length xc)):=(Chg.refl (fun k=>k=w.heap.size+2) w1).setCell (p:=⟨w.heap.size+2,0,none⟩) rfl _
 have HX2:=qh (HX1.o.a0e hset oZ);have HR2:=qh (HR1.o.a0e hset oZ);have HO2:=qh (HO1.o.set0 (x:=.slice xa l.length xc));have HB2:=qh (Chg.a0k HB1.o hset HB1.o.size (fun b e=>by omega))
 have HD2:=qh (HD1.o.a0e a0b hset (fun b hb (e:b=w.heap.size+2)=>by have h1:=hb.1;omega))
 have hz2:w1.heap.size≤(w1.setCell ⟨w.heap.size+2,0,none⟩ (.slice xa l.length xc)).heap.size:=hset.size
 have hz2':(w1.setCell ⟨w.heap.size+2,0,none⟩ (.slice xa l.length xc)).heap.size≤w1.heap.size:=by simp [World.setCell]
 obtain⟨⟨o0,o1,o2,o3,o4,o5,o6⟩,f0,f1,f2,f3,f4,f5⟩:=HO1.o
 clear hset HX1 HR1 HB1 HD1 HO1
 go_upto_region 3 with fail
 clear o0 o1 o2 o3 o4 o5 o6 f0 f1 f2 f3 f4 f5
 generalize w1.setCell ⟨w.heap.size+2,0,none⟩ (.slice xa l.length xc)=v2 at *
 obtain⟨c0,c1,c2,c3,c4,c5,_⟩:=HX2.o
 go_wp2_with fail
 refine (b9n _ st sc _ (HUS.o.below HB2.o) hst).mono ?_
 rintro e w3 ⟨y,rfl,hY,hb⟩
 have HX3:=qh (HX2.o.below hb);have HR3:=qh (HR2.o.below hb);have HO3:=qh (HO2.o.below hb);have HB3:=bt HB2 hb
 have HD3:=qh (HD2.o.below a0b hb);have HY3:=qh hY
 have hz3:v2.heap.size≤w3.heap.size:=hb.size
 obtain⟨ya,yc,rfl,_,_⟩:=id hY
 clear hb c0 c1 c2 c3 c4 c5 HX2 HR2 HO2 HB2 HUS HD2 hY
 have hset:Chg (fun k=>k=w.heap.size+2) w3 ((w3.setCell ⟨w.heap.size+2,1,none⟩ (.slice ya st.length yc)).setCell ⟨w.heap.size+2,2,none⟩ (.string (S sc))):=((Chg.refl (fun k=>k=w.heap.size+2) w3).setCell (p:=⟨w.heap.size+2,1,none⟩) rfl _).setCell (p:=⟨w.heap.size+2,2,none⟩) rfl _
 have HX4:=qh (HX3.o.a0e hset oZ);have HR4:=qh (HR3.o.a0e hset oZ);have HO4:=qh (HO3.o.set1 (x:=.slice ya st.length yc) (r:=sc));have HB4:=qh (Chg.a0k HB3.o hset HB3.o.size (fun b e=>by omega))
 have HD4:=qh (HD3.o.a0e a0b hset (fun b hb (e:b=w.heap.size+2)=>by have h1:=hb.1;omega))
 have HY4:=qh (HY3.o.a0e a0g hset (fun b hb (e:b=w.heap.size+2)=>by have h1:=hb.1;omega))
 have hz4:w3.heap.size≤((w3.setCell ⟨w.heap.size+2,1,none⟩ (.slice ya st.length yc)).setCell ⟨w.heap.size+2,2,none⟩ (.string (S sc))).heap.size:=hset.size
 obtain⟨⟨o0,o1,o2,o3,o4,o5,o6⟩,f0,f1,f2,f3,f4,f5⟩:=HO3.o
 clear hset HX3 HR3 HB3 HD3 HO3 HY3
 go_upto_region 4 with fail
 clear o0 o1 o2 o3 o4 o5 o6 f0 f1 f2 f3 f4 f5
 generalize (w3.setCell ⟨w.heap.size+2,1,none⟩ (.slice ya st.length yc)).setCell ⟨w.heap.size+2,2,none⟩ (.string (S sc))=v4 at *
 obtain⟨c0,c1,c2,c3,c4,c5,_⟩:=HX4.o
 go_wp2_with fail
 refine (L.toLog d p n _).mono ?_
 rintro e w5 ⟨rfl,hb⟩
 have HR5:=qh (HR4.o.below hb);have HO5:=qh (HO4.o.below hb);have HB5:=bt HB4 hb
 have HD5:=qh (HD4.o.below a0b hb);have HY5:=qh (HY4.o.below a0g hb)
 have hz5:v4.heap.size≤w5.heap.size:=hb.size
 clear hb c0 c1 c2 c3 c4 c5 HX4 HR4 HO4 HB4 HD4 HY4
 obtain⟨V6,hV6⟩:∃v,((w5.setCell ⟨w.heap.size+2,3,none⟩ (.string (S d))).setCell ⟨w.heap.size+2,4,none⟩ (.string (S p))).setCell ⟨w.heap.size+2,5,none⟩ (.int .i64 n)=v:=⟨_,rfl⟩
 have hset:Chg (fun k=>k=w.heap.size+2) w5 V6:=by rw [←hV6];exact (((Chg.refl (fun k=>k=w.heap.size+2) w5).setCell (p:=⟨w.heap.size+2,3,none⟩) rfl _).setCell (p:=⟨w.heap.size+2,4,none⟩) rfl _).setCell (p:=⟨w.heap.size+2,5,none⟩) rfl _
 have HR6:=qh (HR5.o.a0e hset oZ);have HO6:=qh (show SOut (w.heap.size+2) (.slice xa l.length xc) (.slice ya st.length yc) sc d p n V6 from by rw [←hV6];exact HO5.o.set3);have HB6:=qh (Chg.a0k HB5.o hset HB5.o.size (fun b e=>by omega))
 have HD6:=qh (HD5.o.a0e a0b hset (fun b hb (e:b=w.heap.size+2)=>by have h1:=hb.1;omega))
 have HY6:=qh (HY5.o.a0e a0g hset (fun b hb (e:b=w.heap.size+2)=>by have h1:=hb.1;omega))
 have hz6:w5.heap.size≤V6.heap.size:=hset.size
 obtain⟨⟨o0,o1,o2,o3,o4,o5,o6⟩,f0,f1,f2,f3,f4,f5⟩:=HO5.o
 clear hset HR5 HB5 HD5 HO5 HY5
 go_upto_region 5 with fail
 try rw [hV6]
 clear o0 o1 o2 o3 o4 o5 o6 f0 f1 f2 f3 f4 f5 hV6
 obtain⟨o0,o1,o2,o3,o4,o5,_⟩:=HO6.o.1
 obtain⟨⟨r0,r1,r2,r3,r4,r5,r6⟩,f0,f1,f2,f3,f4,f5⟩:=HR6.o
 obtain⟨V7,hV7⟩:∃v,(((((V6.setCell ⟨w.heap.size+1,0,none⟩ (.slice xa l.length xc)).setCell ⟨w.heap.size+1,1,none⟩ (.slice ya st.length yc)).setCell ⟨w.heap.size+1,2,none⟩ (.string (S sc))).setCell ⟨w.heap.size+1,3,none⟩ (.string (S d))).setCell ⟨w.heap.size+1,4,none⟩ (.string (S p))).setCell ⟨w.heap.size+1,5,none⟩ (.int .i64 n)=v:=⟨_,rfl⟩
 have hset:Chg (fun k=>k=w.heap.size+1) V6 V7:=by rw [←hV7];exact ((((((Chg.refl (fun k=>k=w.heap.size+1) V6).setCell (p:=⟨w.heap.size+1,0,none⟩) rfl _).setCell (p:=⟨w.heap.size+1,1,none⟩) rfl _).setCell (p:=⟨w.heap.size+1,2,none⟩) rfl _).setCell (p:=⟨w.heap.size+1,3,none⟩) rfl _).setCell (p:=⟨w.heap.size+1,4,none⟩) rfl _).setCell (p:=⟨w.heap.size+1,5,none⟩) rfl _
 have HR7:=qh (show SOut (w.heap.size+1) (.slice xa l.length xc) (.slice ya st.length yc) sc d p n V7 from by rw [←hV7];exact ((HR6.o.set0 (x:=.slice xa l.length xc)).set1 (x:=.slice ya st.length yc) (r:=sc)).set3 (d':=d) (p':=p) (n':=n))
 have HD7:=qh (HD6.o.a0e a0b hset (fun b hb (e:b=w.heap.size+1)=>by have h1:=hb.1;omega))
 have HY7:=qh (HY6.o.a0e a0g hset (fun b hb (e:b=w.heap.size+1)=>by have h1:=hb.1;omega))
 have HB7:=qh (Chg.a0k HB6.o hset HB6.o.size (fun b e=>by omega))
 have hz7:V6.heap.size≤V7.heap.size:=hset.size
 go_wp2
 try rw [hV7]
 clear r0 r1 r2 r3 r4 r5 r6 f0 f1 f2 f3 f4 f5 o0 o1 o2 o3 o4 o5 hset hV7
 obtain⟨r0,r1,r2,r3,r4,r5,r6⟩:=HR7.o.1
 refine bodyPost_ret (v:=a1e (.slice xa l.length xc) (.slice ya st.length yc) sc d p n) (by simp [results,Tryz.results35,go_sem,r0,r1,r2,r3,r4,r5]) rfl ⟨_,_,v2.heap.size,rfl,HD7.o.wide (fun b hb=>⟨by have h1:=hb.1;omega,by have h1:=hb.2;omega⟩) (fun b hb=>by have h1:=hb.2;omega),HY7.o.wide (fun b hb=>⟨hb.1,by have h1:=hb.2;omega⟩) (fun b hb=>hb.2),by omega,by omega,HB7.o⟩
end Go.Proofs.YtggfdnopminemaaGreatDoor
namespace Go.Proofs.YtggfdnopminemaaGreatDoor.L
end Go.Proofs.YtggfdnopminemaaGreatDoor.L
namespace Go.Proofs.YtggfdnopminemaaGreatDoor.P
def appS (d p:Bs) (n:Int) (c r:Bs):Bs×Int×Int:=
 if !a1t d p n||!good c r then (p,n,1) else if n==60 then (p,n,2) else (p++line n.toNat c r,n+1,0)
def appI (d p:Bs) (n:Int) (c r:Bs):Bs×Int×Int:=
 if !a2g d p n||!vrec c r then (p,n,1) else if n==60 then (p,n,2) else (p++(encode n c r).1,n+1,0)
theorem b9e {d p:Bs} {n:Int} (h:a1t d p n=true):0≤n∧n≤60∧d.length+p.length≤30000:=by
 unfold a1t at h;simp only [Bool.and_eq_true,decide_eq_true_eq,beq_iff_eq]at h;have:=(b4x (d++p)).1;rw [b1k]at h;simp only at h;omega
theorem app_eq (d p:Bs) (n:Int) (c r:Bs):appI d p n c r=appS d p n c r:=by
 unfold appI appS;rw [a6h,a6b]
 cases h1:a1t d p n<;>cases h2:good c r<;>try rfl
 cases h3:(n==60)
 ·obtain⟨h4,h5,_⟩:=b9e h1;obtain⟨m,rfl⟩:=Int.eq_ofNat_of_zero_le h4;have h6:((m:Nat):Int)≠60:=by simpa using h3
  have:=a6s (k:=m) oZ h2;simp only [Bool.not_true,Bool.or_self,Bool.false_eq_true,if_false,Int.toNat_natCast];rw [this]
 ·rfl
end Go.Proofs.YtggfdnopminemaaGreatDoor.P
namespace Go.Proofs.YtggfdnopminemaaGreatDoor.L
open Go Go.RowKit
set_option maxHeartbeats 8000000
set_option maxRecDepth 100000
def AB (w:World) (d p:Str) (n:Int) (c r:Str) (v:World):Prop:=
 (v.cell? ⟨w.heap.size,0,none⟩=some (.string (S d))∧v.cell? ⟨w.heap.size,1,none⟩=some (.string (S p))∧v.cell? ⟨w.heap.size,2,none⟩=some (.int .i64 n)) ∧
 (v.cell? ⟨w.heap.size+1,0,none⟩=some (.string (S c))∧v.cell? ⟨w.heap.size+1,1,none⟩=some (.string (S r))) ∧
 (v.cell? ⟨w.heap.size+1+1,0,none⟩=some (.string (S []))∧v.cell? ⟨w.heap.size+1+1,1,none⟩=some (.string (S []))∧v.cell? ⟨w.heap.size+1+1,2,none⟩=some (.int .i64 0)) ∧
 (v.frozen? ⟨w.heap.size,0,none⟩=false∧v.frozen? ⟨w.heap.size,1,none⟩=false∧v.frozen? ⟨w.heap.size,2,none⟩=false) ∧
 (v.frozen? ⟨w.heap.size+1+1,0,none⟩=false∧v.frozen? ⟨w.heap.size+1+1,1,none⟩=false∧v.frozen? ⟨w.heap.size+1+1,2,none⟩=false) ∧
 w.heap.size+1+1<v.heap.size∧Env v∧Below w.heap.size w v
theorem AB.start {w:World} {d p:Str} {n:Int} {c r:Str} {t u:TypeId} (hE:Env w) :
 AB w d p n c r (((w.alloc (.cells #[.string (S d),.string (S p),.int .i64 n] t)).alloc (.cells #[.string (S c),.string (S r)] u)).alloc (.cells #[.string (S []),.string (S []),.int .i64 0] t)):=by
 refine⟨⟨?_,?_,?_⟩,⟨?_,?_⟩,⟨?_,?_,?_⟩,⟨?_,?_,?_⟩,⟨?_,?_,?_⟩,by simp,((hE.alloc _).alloc _).alloc _,((bZ.alloc lZ _).alloc sZ _).alloc (by simp;omega) _⟩<;>go_simp
theorem AB.carry {w v v':World} {d p:Str} {n:Int} {c r:Str} (h:AB w d p n c r v) (hb:Below v.heap.size v v'):AB w d p n c r v':=by
 obtain⟨⟨a1,a2,a3⟩,⟨b1,b2⟩,⟨c1,c2,c3⟩,⟨d1,d2,d3⟩,⟨e1,e2,e3⟩,f,g,i⟩:=h;have hz0:w.heap.size<v.heap.size:=by omega
 have hz1:w.heap.size+1<v.heap.size:=by omega
 refine⟨⟨?_,?_,?_⟩,⟨?_,?_⟩,⟨?_,?_,?_⟩,⟨?_,?_,?_⟩,⟨?_,?_,?_⟩,Nat.lt_of_lt_of_le f hb.size,g.below hb g.size,i.trans (hb.mono oZ)⟩
 ·exact (hb.cell (p:=⟨_,0,none⟩) hz0).trans a1
 ·exact (hb.cell (p:=⟨_,1,none⟩) hz0).trans a2
 ·exact (hb.cell (p:=⟨_,2,none⟩) hz0).trans a3
 ·exact (hb.cell (p:=⟨_,0,none⟩) hz1).trans b1
 ·exact (hb.cell (p:=⟨_,1,none⟩) hz1).trans b2
 ·exact (hb.cell (p:=⟨_,0,none⟩) f).trans c1
 ·exact (hb.cell (p:=⟨_,1,none⟩) f).trans c2
 ·exact (hb.cell (p:=⟨_,2,none⟩) f).trans c3
 ·exact (hb.frozen (p:=⟨_,0,none⟩) hz0).trans d1
 ·exact (hb.frozen (p:=⟨_,1,none⟩) hz0).trans d2
 ·exact (hb.frozen (p:=⟨_,2,none⟩) hz0).trans d3
 ·exact (hb.frozen (p:=⟨_,0,none⟩) f).trans e1
 ·exact (hb.frozen (p:=⟨_,1,none⟩) f).trans e2
 ·exact (hb.frozen (p:=⟨_,2,none⟩) f).trans e3
theorem AB.env {w v:World} {d p:Str} {n:Int} {c r:Str} (h:AB w d p n c r v):Env v:=h.2.2.2.2.2.2.1
theorem AB.below {w v:World} {d p:Str} {n:Int} {c r:Str} (h:AB w d p n c r v):Below w.heap.size w v:=h.2.2.2.2.2.2.2
theorem c3z (d p:Str) (n:Int) (c r:Str) (w:World) (hd:d.length≤2^20) (hp:p.length≤2^20) (hc:c.length≤2^20) (hr:r.length≤2^20) (hE:Env w) :
 Calls Tryz.prog 72 #[logV d p n,.agg #[.string (S c),.string (S r)]] w fun e w'=>e=.returned (.tuple #[logV d (P.appI d p n c r).1 (P.appI d p n c r).2.1,.int .i64 (P.appI d p n c r).2.2])∧Below w.heap.size w w':=by
 have A1:=qh (AB.start (w:=w) (d:=d) (p:=p) (n:=n) (c:=c) (r:=r) (t:=28) (u:=86) hE)
 clear hE
 cases h1:P.a2g d p n
 ·have HF:=qh (show P.appI d p n c r=(p,n,1) by unfold P.appI;rw [h1];rfl)
  go_enter Tryz.func72,Tryz.ntmps72
  go_wp2_with fail
  refine (a5m _ _ _ _ hd hp A1.o.env).mono ?_;rintro e w1 ⟨rfl,hb⟩;have A2:=qh (A1.o.carry hb);clear hb A1;obtain⟨⟨a1,a2,a3⟩,⟨b1,b2⟩,⟨c1,c2,c3⟩,⟨d1,d2,d3⟩,⟨e1,e2,e3⟩,hz,_⟩:=A2.o;rw [h1];go_wp2;refine bodyPost_ret (v:=.tuple #[logV d p n,.int .i64 1]) (by simp [results,Tryz.results72,go_sem,c1,c2,c3]) rfl ⟨by rw [HF.o],?_⟩;exact ((A2.o.below.setCell (by simp;omega) _).setCell (by simp;omega) _).setCell (by simp;omega) _
 ·cases h2:P.vrec c r
  ·have HF:=qh (show P.appI d p n c r=(p,n,1) by unfold P.appI;rw [h1,h2];rfl)
   go_enter Tryz.func72,Tryz.ntmps72
   go_wp2_with fail
   refine (a5m _ _ _ _ hd hp A1.o.env).mono ?_;rintro e w1 ⟨rfl,hb⟩;have A2:=qh (A1.o.carry hb);clear hb A1;obtain⟨⟨a1,a2,a3⟩,⟨b1,b2⟩,⟨c1,c2,c3⟩,⟨d1,d2,d3⟩,⟨e1,e2,e3⟩,hz,_⟩:=A2.o;rw [h1]
   go_wp2_with fail
   refine (a2r _ _ _ oZ oZ).mono ?_;rintro e w2 ⟨rfl,hb⟩;have A3:=qh (A2.o.carry hb);clear hb A2;clear a1 a2 a3 b1 b2 c1 c2 c3 d1 d2 d3 e1 e2 e3 hz;obtain⟨⟨a1,a2,a3⟩,⟨b1,b2⟩,⟨c1,c2,c3⟩,⟨d1,d2,d3⟩,⟨e1,e2,e3⟩,hz,_⟩:=A3.o;rw [h2];go_wp2;refine bodyPost_ret (v:=.tuple #[logV d p n,.int .i64 1]) (by simp [results,Tryz.results72,go_sem,c1,c2,c3]) rfl ⟨by rw [HF.o],?_⟩;exact zq90
  ·cases h3:(n==60)
   ·have HF:=qh (show P.appI d p n c r=(p++(P.encode n c r).1,n+1,0) by unfold P.appI;rw [h1,h2,h3];rfl);have hn:=P.b9e (P.a6h d p n ▸ h1);obtain⟨hn0,hn1,_⟩:=hn;obtain⟨x,hx⟩:∃x,(P.encode n c r).1=x:=⟨_,rfl⟩;have HX:=qh hx
    have hxl:x.length≤10000:=by
     rw [←hx];obtain⟨m,rfl⟩:=Int.eq_ofNat_of_zero_le hn0;have h6:((m:Nat):Int)≠60:=by simpa using h3
     rw [P.a6s (k:=m) oZ (P.a6b c r ▸ h2)];have:=(P.a7b (k:=m) oZ (P.a6b c r ▸ h2)).1
     show (P.line m c r).length≤10000
     omega
    clear hx
    go_enter Tryz.func72,Tryz.ntmps72
    go_wp2_with fail
    refine (a5m _ _ _ _ hd hp A1.o.env).mono ?_;rintro e w1 ⟨rfl,hb⟩;have A2:=qh (A1.o.carry hb);clear hb A1;obtain⟨⟨a1,a2,a3⟩,⟨b1,b2⟩,⟨c1,c2,c3⟩,⟨d1,d2,d3⟩,⟨e1,e2,e3⟩,hz,_⟩:=A2.o;rw [h1]
    go_wp2_with fail
    refine (a2r _ _ _ oZ oZ).mono ?_;rintro e w2 ⟨rfl,hb⟩;have A3:=qh (A2.o.carry hb);clear hb A2;clear a1 a2 a3 b1 b2 c1 c2 c3 d1 d2 d3 e1 e2 e3 hz;obtain⟨⟨a1,a2,a3⟩,⟨b1,b2⟩,⟨c1,c2,c3⟩,⟨d1,d2,d3⟩,⟨e1,e2,e3⟩,hz,_⟩:=A3.o;rw [h2]
    go_wp2_with fail
    refine (b2k _ _ _ _ oZ oZ A3.o.env).mono ?_;rintro e w3 ⟨rfl,hb⟩;rw [HX.o];have A4:=qh (A3.o.carry hb);clear hb A3;clear a1 a2 a3 b1 b2 c1 c2 c3 d1 d2 d3 e1 e2 e3 hz;obtain⟨⟨a1,a2,a3⟩,⟨b1,b2⟩,⟨c1,c2,c3⟩,⟨d1,d2,d3⟩,⟨e1,e2,e3⟩,hz,_⟩:=A4.o;have f1:¬9223372036854775807<p.length+x.length:=by omega
    go_wp2;refine bodyPost_ret (v:=.tuple #[logV d (p++x) (n+1),.int .i64 0]) (by simp [results,Tryz.results72,go_sem,c1,c2,c3]) rfl ⟨by rw [HF.o,HX.o],?_⟩;exact ((A4.o.below.setCell (by simp;omega) _).setCell (by simp;omega) _).setCell (by simp;omega) _
   ·have HF:=qh (show P.appI d p n c r=(p,n,2) by unfold P.appI;rw [h1,h2,h3];rfl)
    go_enter Tryz.func72,Tryz.ntmps72
    go_wp2_with fail
    refine (a5m _ _ _ _ hd hp A1.o.env).mono ?_;rintro e w1 ⟨rfl,hb⟩;have A2:=qh (A1.o.carry hb);clear hb A1;obtain⟨⟨a1,a2,a3⟩,⟨b1,b2⟩,⟨c1,c2,c3⟩,⟨d1,d2,d3⟩,⟨e1,e2,e3⟩,hz,_⟩:=A2.o;rw [h1]
    go_wp2_with fail
    refine (a2r _ _ _ oZ oZ).mono ?_;rintro e w2 ⟨rfl,hb⟩;have A3:=qh (A2.o.carry hb);clear hb A2;clear a1 a2 a3 b1 b2 c1 c2 c3 d1 d2 d3 e1 e2 e3 hz;obtain⟨⟨a1,a2,a3⟩,⟨b1,b2⟩,⟨c1,c2,c3⟩,⟨d1,d2,d3⟩,⟨e1,e2,e3⟩,hz,_⟩:=A3.o;rw [h2];go_wp2;refine bodyPost_ret (v:=.tuple #[logV d p n,.int .i64 2]) (by simp [results,Tryz.results72,go_sem,c1,c2,c3]) rfl ⟨by rw [HF.o],?_⟩;exact zq90
end Go.Proofs.YtggfdnopminemaaGreatDoor.L
namespace Go.Proofs.YtggfdnopminemaaGreatDoor.P
def fmtE (e:Edit):Bs:=45::(num e.1.toNat++43::e.2)
abbrev Ses:=Dic×Tr
abbrev Ans:=Ses×Option Bs
def optB (r:Bs×Bool):Option Bs:=if r.2 then some r.1 else none
def b0q (d:Dic):Tr→List Int→Option Tr
 |t,[]=>some t
 |t,k::r=>if (a5v d t k).2 then b0q d (a5v d t k).1.1 r else none
def typed (s:Ses) (l:List Int):Ans:=match b0q s.1 s.2 l with
 |none=>(s,none)
 |some t=>((s.1,t),some (fmtE (least s.2.2 t.2)))
def a9x (s:Ses) (o:List Int):Bs×Bool:=scr (kept (a3m o s.1) (del o s.1)) s.2.1
def a2x (s:Ses) (o:List Int):Ans:=if a3m o s.1&&(a9x s o).2 then ((kept (a3m o s.1) (del o s.1),(s.2.1,(a9x s o).1)),some (fmtE (least s.2.2 (a9x s o).1))) else (s,none)
def d2x:Bs:=[112,114,101,115,115]
def c8k:Bs:=[116,121,112,101]
def b1y:Bs:=[100,101,108,101,116,101]
def c3t:Bs:=[108,111,111,107,117,112]
def c3v:Bs:=[100,101,102,105,110,101]
def b8x:Bs:=[114,101,118,101,114,115,101]
def d7x:Bs:=[106,111,105,110]
def d1t:Bs:=[108,111,111,115,101]
def d8x:Bs:=[117,110,100,111]
def c4b:Bs:=[115,99,114,101,101,110]
def d0m:Bs:=[99,111,117,110,116]
def c3s:Bs:=[112,105,101,99,101,115]
def wNone:Bs:=[110,111,110,101]
def wLong:Bs:=[108,111,110,103]
def wNo:Bs:=[110,111]
def wBad:Bs:=[98,97,100]
def wFull:Bs:=[102,117,108,108]
def outl (s:Ses) (word:Bs) (o:List Int):Ans:=if word=c8k then typed s o else if word=b1y then a2x s o else (s,optB (b5f o s.1))
def a5k (s:Ses) (word more:Bs):Ans:=match a1l more with
 |none=>(s,none)
 |some o=>outl s word o
def a1w (t:Bs) (l:Dic):List (List Int):=(l.filter fun e=>e.2==t).map (·.1)
def revT (d:Dic) (t:Bs):Bs:=if a1w t d=[] then wNone else Go.Lib.join ((a1w t d).map fun o=>(fmtS 47 o).map hash) [32]
def a5d (d:Dic) (more:Bs):Option Bs:=if (a0o more).2 then some (revT d more) else none
def a1i (s:Ses) (more:Bs):Ans:=match a1l (head 32 more) with
 |none=>(s,none)
 |some o=>if (head 32 more).length=more.length then (s,none) else
  if (a2w s.1 s.2 (o,more.drop ((head 32 more).length+1))).2 then
   ((a2w s.1 s.2 (o,more.drop ((head 32 more).length+1))).1.1,some (fmtE (a2w s.1 s.2 (o,more.drop ((head 32 more).length+1))).1.2)) else (s,none)
def a0w (more:Bs):Option Bs:=match split 32 more with
 |[a,b]=>optB (a1x a b)
 |_=>none
def b9s (more:Bs):Option Bs:=if (loose more).2 then some (fmt ((loose more).1:Int)) else none
def blank (l:List Pc):Nat:=(l.filter fun p=>p.2==[]).length
def alone (s:Ses) (word:Bs):Ans:=
 if word=d8x then typed s [1024] else if word=c4b then (s,some s.2.2) else if word=d0m then (s,some (num s.2.1.length))
 else if word=c3s then (s,some ((num (segA s.1 s.2.1).length++[32])++num (blank (segA s.1 s.2.1)))) else (s,none)
def a4v (s:Ses) (more:Bs):Ans:=if (parse more).2 then typed s [((parse more).1:Int)] else (s,none)
def args (s:Ses) (word more:Bs):Ans:=
 if word=d2x then a4v s more else if word=c8k∨word=b1y∨word=c3t then a5k s word more
 else if word=c3v then a1i s more else if word=b8x then (s,a5d s.1 more)
 else if word=d7x then (s,a0w more) else if word=d1t then (s,b9s more) else (s,none)
def cmd (s:Ses) (line:Bs):Ans:=if (head 32 line).length=line.length then alone s (head 32 line) else args s (head 32 line) (line.drop ((head 32 line).length+1))
def a4s (o:Option Bs):Bs:=match o with
 |none=>[63]
 |some r=>if 200<r.length then wLong else r
abbrev LogT:=Bs×Bs×Int
def c6h (g:LogT) (c r:Bs):LogT:=(g.1,(appS g.1 g.2.1 g.2.2 c r).1,(appS g.1 g.2.1 g.2.2 c r).2.1)
def b8k (s:Ses) (g:LogT):Bool:=sess s.1 s.2.1 s.2.2 g.1 g.2.1 g.2.2
def exec (s:Ses) (g:LogT) (line:Bs):(Ses×LogT)×Bs:=
 if !b8k s g then ((s,g),wNo) else if !good line [] then ((s,g),wBad) else if g.2.2=60 then ((s,g),wFull)
 else (((cmd s line).1,c6h g line (a4s (cmd s line).2)),a4s (cmd s line).2)
/-! ### cut and split -/
theorem d5g (c:UInt8) (l:Bs) (h:c∉l):Go.Lib.cut l [c]=(l,[],false):=by
 unfold Go.Lib.cut;rw [b0f c l h];rfl
theorem b3s (c:UInt8) (l:Bs):(c∉l∧Go.Lib.cut l [c]=(l,[],false)∧head c l=l) ∨
 ∃x y,l=x++c::y∧(∀b∈x,b≠c)∧Go.Lib.cut l [c]=(x,y,true)∧head c l=x∧l.drop ((head c l).length+1)=y∧(head c l).length<l.length:=by
 by_cases hm:c∈l
 ·obtain⟨x,y,e,hx⟩:=a2c c l hm;refine .inr ⟨x,y,e,hx,by rw [e];exact b1n c x y hx,by rw [e];exact a6v c x y hx,?_,?_⟩
  ·rw [e,a6v c x y hx,show x++c::y=(x++[c])++y by simp,show x.length+1=(x++[c]).length by simp,List.drop_left]
  ·rw [e,a6v c x y hx];simp
 ·exact .inl ⟨hm,d5g c l hm,by unfold head;rw [a4m c l hm];rfl⟩
theorem d8v (s:Ses) (line:Bs):cmd s line=if (Go.Lib.cut line [32]).2.2 then args s (Go.Lib.cut line [32]).1 (Go.Lib.cut line [32]).2.1 else alone s (Go.Lib.cut line [32]).1:=by
 unfold cmd
 rcases b3s 32 line with⟨_,h1,h2⟩|⟨x,y,_,_,h1,h2,h3,h4⟩
 ·rw [h1,h2,if_pos rfl];rfl
 ·rw [h1,if_neg oZ,h3,h2];rfl
theorem c8x {y:Bs} (h:(32:UInt8)∈y):isWord y=false:=by
 unfold isWord
 have:y.all lower=false:=by
  rw [List.all_eq_false];exact⟨32,h,by decide⟩
 rw [this];rfl
theorem c5m {x y:Bs} (h:isWord y=false):a1x x y=([],false):=by
 unfold a1x;rw [h,Bool.and_false];rfl
theorem c7n (more:Bs):optB (a1x (Go.Lib.cut more [32]).1 (Go.Lib.cut more [32]).2.1)=a0w more:=by
 unfold a0w
 rcases b3s 32 more with⟨h0,h1,h2⟩|⟨x,y,h0,hx,h1,_⟩
 ·rw [h1,a4m 32 more h0]
  show optB (a1x more [])=none
  rw [c5m dZ];rfl
 ·rw [h1,h0,a5t 32 y x hx]
  by_cases hy:(32:UInt8)∈y
  ·obtain⟨a,b,e,ha⟩:=a2c 32 y hy
   show optB (a1x x y)=_
   rw [c5m (c8x hy),e,a5t 32 b a ha]
   cases hb:split 32 b with
   |nil=>exact absurd hb (a2p 32 b)
   |cons _ _=>rfl
  ·rw [a4m 32 y hy]
theorem c3l (d:Dic) (t:Tr) (o:List Int):(a2w d t (o,[])).2=false:=by
 have:a3n (o,[]) d=false:=by
  unfold a3n entry;rw [show (a0o ([]:Bs)).2=false from by decide];simp
 rw [b0y (by rw [this];simp)]
theorem a9k (s:Ses) (more:Bs):a1i s more=match a1l (Go.Lib.cut more [32]).1 with
 |none=>(s,none)
 |some o=>if (a2w s.1 s.2 (o,(Go.Lib.cut more [32]).2.1)).2 then ((a2w s.1 s.2 (o,(Go.Lib.cut more [32]).2.1)).1.1,some (fmtE (a2w s.1 s.2 (o,(Go.Lib.cut more [32]).2.1)).1.2)) else (s,none):=by
 unfold a1i
 rcases b3s 32 more with⟨h0,h1,h2⟩|⟨x,y,h0,hx,h1,h2,h3,h4⟩
 ·rw [h1,h2]
  cases a1l more with
  |none=>rfl
  |some o=>simp only [c3l];simp
 ·rw [h1,h3]
  show _=match a1l x with
   |none=>(s,none)
   |some o=>if (a2w s.1 s.2 (o,y)).2 then ((a2w s.1 s.2 (o,y)).1.1,some (fmtE (a2w s.1 s.2 (o,y)).1.2)) else (s,none)
  rw [h2]at h4⊢
  cases a1l x with
  |none=>rfl
  |some o=>
   show (if x.length=more.length then _ else _)=_
   rw [if_neg oZ]
/-! ### what a command keeps -/
theorem c1a {d:Dic} {l:List Int} (h:(scr d l).2=true) (h2:l.contains 1024=false):trans d (l,(scr d l).1)=true:=by
 unfold trans;rw [h,h2];simp
theorem b4t {d:Dic}:∀{l:List Int} {t t':Tr},trans d t=true→b0q d t l=some t'→trans d t'=true
 |[],t,t',h,e=>by injection e with e;subst e;exact h
 |k::l,t,t',h,e=>by
  unfold b0q at e
  split at e
  ·rename_i hp;exact b4t (a9c hp) e
  ·cases e
theorem a9e {s:Ses} {l:List Int} (h:trans s.1 s.2=true):trans (typed s l).1.1 (typed s l).1.2=true:=by
 unfold typed
 cases hq:b0q s.1 s.2 l with
 |none=>exact h
 |some t=>exact b4t h hq
end Go.Proofs.YtggfdnopminemaaGreatDoor.P
namespace Go.Proofs.YtggfdnopminemaaGreatDoor
open Go Go.RowKit
set_option maxHeartbeats 8000000
set_option maxRecDepth 100000
def a2q (lo B:Nat) (v:World) (u us:Value) (l:P.Dic) (st:List Int):Prop:=
 ∃F G:Blk,Ents v F u l∧Ints v G us st∧(∀b,F b→lo≤b∧b<v.heap.size∧b≠B)∧(∀b,G b→lo≤b∧b<v.heap.size∧b≠B)∧∀b,F b→¬G b
theorem a2q.a0e {lo B:Nat} {v v':World} {u us:Value} {l:P.Dic} {st:List Int} {X:Blk} (h:a2q lo B v u us l st) (hc:Chg X v v') (hX:∀b,X b→b=B∨v.heap.size≤b):a2q lo B v' u us l st:=by
 obtain⟨F,G,h1,h2,h3,h4,h5⟩:=h;have hz:=hc.size;refine⟨F,G,h1.a0e a0b hc (fun b hb hx=>?_),h2.a0e a0g hc (fun b hb hx=>?_),fun b hb=>⟨(h3 b hb).1,Nat.lt_of_lt_of_le (h3 b hb).2.1 hz,(h3 b hb).2.2⟩,fun b hb=>⟨(h4 b hb).1,Nat.lt_of_lt_of_le (h4 b hb).2.1 hz,(h4 b hb).2.2⟩,h5⟩
 ·have:=h3 b hb;rcases hX b hx with e|e
  ·exact this.2.2 e
  ·omega
 ·have:=h4 b hb;rcases hX b hx with e|e
  ·exact this.2.2 e
  ·omega
theorem a2q.below {lo B:Nat} {v v':World} {u us:Value} {l:P.Dic} {st:List Int} (h:a2q lo B v u us l st) (hb:Below v.heap.size v v'):a2q lo B v' u us l st:=h.a0e (Below.chg hb fun _=>False) fun _ h=>h.elim
theorem a2q.dic {lo B:Nat} {v:World} {u us:Value} {l:P.Dic} {st:List Int} (h:a2q lo B v u us l st):EntR v u l:=by obtain⟨F,G,h1,_⟩:=h;exact h1.read
theorem a2q.str {lo B:Nat} {v:World} {u us:Value} {l:P.Dic} {st:List Int} (h:a2q lo B v u us l st):IntR v us st:=by obtain⟨F,G,_,h2,_⟩:=h;exact Ints.read h2
theorem a2q.b5b {lo B m:Nat} {v v':World} {u us us':Value} {l:P.Dic} {st st':List Int} (h:a2q lo B v u us l st) (hb:Below v.heap.size v v') (hm:v.heap.size≤m) (hlo:lo≤v.heap.size) (hB:B<v.heap.size) (hk:OwnK m v' us' st') (hl:st'.length≤2^30):a2q lo B v' u us' l st':=by
 obtain⟨F,G,h1,h2,h3,h4,h5⟩:=h;have hz:=hb.size;refine⟨F,BetO m v'.heap.size us',h1.below a0b hb,a8b hk hl,fun b hb=>⟨(h3 b hb).1,Nat.lt_of_lt_of_le (h3 b hb).2.1 hz,(h3 b hb).2.2⟩,fun b hb=>?_,fun b hb hg=>?_⟩
 ·have:=hb.1;exact⟨by omega,this.2,by omega⟩
 ·have h6:=(h3 b hb).2.1;have h7:=hg.1.1;omega
theorem a2q.other {lo B m n:Nat} {v v':World} {u us u':Value} {l l':P.Dic} {st:List Int} (h:a2q lo B v u us l st) (hb:Below v.heap.size v v') (hm:v.heap.size≤m) (hn:n≤v'.heap.size) (hlo:lo≤v.heap.size) (hB:B<v.heap.size) (hk:Ents v' (Bet m n) u' l'):a2q lo B v' u' us l' st:=by
 obtain⟨F,G,h1,h2,h3,h4,h5⟩:=h;have hz:=hb.size;refine⟨Bet m n,G,hk,h2.below a0g hb,fun b hb=>?_,fun b hb=>⟨(h4 b hb).1,Nat.lt_of_lt_of_le (h4 b hb).2.1 hz,(h4 b hb).2.2⟩,fun b hf hg=>?_⟩
 ·have h6:=hb.1;have h7:=hb.2;exact⟨by omega,by omega,by omega⟩
 ·have h6:=(h4 b hg).2.1;have h7:=hf.1;omega
theorem a2q.both {lo B m n:Nat} {v v':World} {u us:Value} {l:P.Dic} {st:List Int} (_hz:v.heap.size≤v'.heap.size) (hm:v.heap.size≤m) (hn:n≤v'.heap.size) (hmn:m≤n) (hlo:lo≤v.heap.size) (hB:B<v.heap.size) (h1:Ents v' (Bet m n) u l) (h2:OwnK n v' us st) (hl:st.length≤2^30):a2q lo B v' u us l st:=by
 refine⟨Bet m n,BetO n v'.heap.size us,h1,a8b h2 hl,fun b hb=>?_,fun b hb=>?_,fun b hf hg=>?_⟩
 ·have h6:=hb.1;have h7:=hb.2;exact⟨by omega,by omega,by omega⟩
 ·have h6:=hb.1;exact⟨by omega,h6.2,by omega⟩
 ·have h6:=hf.2;have h7:=hg.1.1;omega
def SesM (lo B:Nat) (s:P.Ses) (g:P.LogT) (v:World):Prop:=
 L.EB≤B∧lo≤v.heap.size∧∃u us,SOut B u us s.2.2 g.1 g.2.1 g.2.2 v∧a2q lo B v u us s.1 s.2.1
theorem SesM.below {lo B:Nat} {s:P.Ses} {g:P.LogT} {v v':World} (h:SesM lo B s g v) (hb:Below v.heap.size v v'):SesM lo B s g v':=by
 obtain⟨h0,h1,u,us,h2,h3⟩:=h;exact⟨h0,Nat.le_trans h1 hb.size,u,us,h2.below hb,h3.below hb⟩
def okB (x:Str) (ok:Bool):Option Str:=if ok then some x else none
def a4o (lo B:Nat) (a:P.Ans) (g:P.LogT) (w:World) (e:Ending) (w':World):Prop:=
 ∃x ok,e=.returned (.tuple #[.string (S x),.bool ok])∧okB x ok=a.2∧SesM lo B a.1 g w'∧Chg (fun b=>b=B) w w'
def txtB (o:Option Str):Str:=o.getD [63]
def b6s (w v:World) (u0:Value) (l0:P.Dic) (u:Value) (l:P.Dic):Prop:=(u=u0∧l=l0)∨∃F:Blk,Ents v F u l∧∀b,F b→w.heap.size≤b
def b3y (w v:World) (u0:Value) (l0:List Int) (u:Value) (l:List Int):Prop:=(u=u0∧l=l0)∨∃F:Blk,Ints v F u l∧∀b,F b→w.heap.size≤b
theorem b6s.read {w v:World} {u0 u:Value} {l0 l:P.Dic} (h:b6s w v u0 l0 u l) (h0:EntR w u0 l0) (hb:Below w.heap.size w v):EntR v u l:=by
 rcases h with⟨rfl,rfl⟩|⟨F,h1,_⟩
 ·exact h0.below hb
 ·exact Ents.read h1
theorem b3y.read {w v:World} {u0 u:Value} {l0 l:List Int} (h:b3y w v u0 l0 u l) (h0:IntR w u0 l0) (hb:Below w.heap.size w v):IntR v u l:=by
 rcases h with⟨rfl,rfl⟩|⟨F,h1,_⟩
 ·exact h0.below hb
 ·exact Ints.read h1
theorem b6s.after {w w1 v v':World} {u0 u:Value} {l0 l:P.Dic} {X:Blk} (h:b6s w1 v u0 l0 u l) (hw:w.heap.size≤w1.heap.size) (hc:Chg X v v') (hX:∀b,X b→b<w1.heap.size):b6s w v' u0 l0 u l:=
 h.imp id fun⟨F,h1,h2⟩=>⟨F,h1.a0e a0b hc (fun b hb hx=>by have g1:=h2 b hb;have g2:=hX b hx;omega),fun b hb=>Nat.le_trans hw (h2 b hb)⟩
theorem b3y.after {w w1 v v':World} {u0 u:Value} {l0 l:List Int} {X:Blk} (h:b3y w1 v u0 l0 u l) (hw:w.heap.size≤w1.heap.size) (hc:Chg X v v') (hX:∀b,X b→b<w1.heap.size):b3y w v' u0 l0 u l:=
 h.imp id fun⟨F,h1,h2⟩=>⟨F,h1.a0e a0g hc (fun b hb hx=>by have g1:=h2 b hb;have g2:=hX b hx;omega),fun b hb=>Nat.le_trans hw (h2 b hb)⟩
def b1u (u0 us0:Value) (s0:P.Ses) (a:P.Ans) (g:P.LogT) (w:World) (e:Ending) (w':World):Prop:=
 ∃u us,e=.returned (.tuple #[a1e u us a.1.2.2 g.1 g.2.1 g.2.2,.string (S (txtB a.2))])∧b6s w w' u0 s0.1 u a.1.1∧b3y w w' us0 s0.2.1 us a.1.2.1∧Below w.heap.size w w'
end Go.Proofs.YtggfdnopminemaaGreatDoor
