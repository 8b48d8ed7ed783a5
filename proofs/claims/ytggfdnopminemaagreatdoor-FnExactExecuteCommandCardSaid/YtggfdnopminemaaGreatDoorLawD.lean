/- Walks: the program's copy of an entry, and of a dictionary that is in order. -/
import Derived.Test.YtggfdnopminemaaGreatDoorZt
import Derived.Test.YtggfdnopminemaaGreatDoorMemE
import Derived.Test.YtggfdnopminemaaGreatDoorSortD
namespace Go.Proofs.YtggfdnopminemaaGreatDoor
section
open Go Go.RowKit
set_option maxHeartbeats 2000000
set_option maxRecDepth 100000
def KP (W:Nat) (x:Value) (t:Str) (v:World):Prop:=
 v.cell? ⟨W,0,none⟩=some x∧v.cell? ⟨W,1,none⟩=some (.string (S t))∧v.cell? ⟨W+1,0,none⟩=some (.slice none 0 0)∧v.cell? ⟨W+1,1,none⟩=some (.string (S []))∧v.frozen? ⟨W+1,0,none⟩=false∧v.frozen? ⟨W+1,1,none⟩=false
theorem KP.step {W:Nat} {x:Value} {t:Str} {v v':World} (h:KP W x t v) (hb:Below (W+2) v v'):KP W x t v':=by
 obtain⟨h1,h2,h3,h4,h5,h6⟩:=h
 exact⟨(hb.cell (p:=⟨W,0,none⟩) (by show W<W+2;omega)).trans h1,(hb.cell (p:=⟨W,1,none⟩) (by show W<W+2;omega)).trans h2,(hb.cell (p:=⟨W+1,0,none⟩) (by show W+1<W+2;omega)).trans h3,(hb.cell (p:=⟨W+1,1,none⟩) (by show W+1<W+2;omega)).trans h4,
  (hb.frozen (p:=⟨W+1,0,none⟩) (by show W+1<W+2;omega)).trans h5,(hb.frozen (p:=⟨W+1,1,none⟩) (by show W+1<W+2;omega)).trans h6⟩
theorem copied (u:Value) (l:List Int) (t:Str) (w:World) (hu:IntR w u l) (hl:l.length≤2^30) :
 Calls Tryz.prog 130 #[.agg #[u,.string (S t)]] w (c4q l t w):=by
 have hb0:Below w.heap.size w ((w.alloc (.cells #[u,.string (S t)] 119)).alloc (.cells #[.slice none 0 0,.string (S [])] 119)):=
  ((Below.refl w.heap.size w).alloc lZ _).alloc sZ _
 have HU:=qh ((hu.below hb0).below bZ.drew)
 have HB0:=qh hb0;clear hb0
 obtain⟨ad,cap,rfl,_,_⟩:=hu
 have HS:=qh (show KP w.heap.size (.slice ad l.length cap) t (((w.alloc (.cells #[.slice ad l.length cap,.string (S t)] 119)).alloc (.cells #[.slice none 0 0,.string (S [])] 119)).drew) from
  KP.step (show KP w.heap.size (.slice ad l.length cap) t ((w.alloc (.cells #[.slice ad l.length cap,.string (S t)] 119)).alloc (.cells #[.slice none 0 0,.string (S [])] 119)) by refine⟨?_,?_,?_,?_,?_,?_⟩<;>go_simp) bZ.drew)
 go_enter Tryz.func130,Tryz.ntmps130
 go_upto_region 1 with fail
 refine Left.region [6] (S:=KP w.heap.size (.slice ad l.length cap) t) kZ HS.o (fun hS0=>?_)
 refine lk3 0 hS0 ?_
 refine lk3 1 hS0 ?_
 refine lk3 3 hS0 ?_
 refine lk3 4 hS0 ?_
 refine lrd 2 fun K hK=>?_
 go_simp
 refine (copyOf _ l _ HU.o hl).mono ?_
 rintro e v1 ⟨x1,rfl,hI,hb1⟩
 have HI:=qh hI
 have HZ1:=qh (show w.heap.size+2≤v1.heap.size by have:=hb1.size;simp at this;omega)
 have HB1:=qh (show Below w.heap.size w v1 from HB0.o.trans (bZ.drew.trans (hb1.mono (by simp;omega))))
 obtain⟨xd,xc,rfl,_,_⟩:=hI
 refine a3q hK dZ (hS0.step (hb1.mono sZ)) (fun hS1=>?_)
 clear hK K hb1
 try simp only [qA,qB,qC,Act.put,qD,qE,qF]
 refine lk3 5 hS1 ?_
 refine lrd 6 fun K hK=>?_
 obtain⟨k1,k2,k3,k4,k5,k6⟩:=hS1
 go_simp
 refine a6t hK dZ ?_
 clear hK K
 try simp only [qA,qB,qC,Act.put,qD,qE,qF]
 refine Left.done kZ ?_ _
 clear hS0 HS HU
 go_wp2
 refine bodyPost_ret (v:=.agg #[.slice xd l.length xc,.string (S t)]) (by simp [results,Tryz.results130,go_sem,k3,k4]) rfl ⟨_,rfl,?_,?_⟩
 ·refine (HI.o.a0e (X:=fun b=>b<w.heap.size+2) a0g (((Chg.refl _ v1).setCell ?_ _).setCell ?_ _) ?_).wide ?_ ?_
  ·simp
  ·simp
  ·intro b hb;simp [Bet]at hb⊢;omega
  ·intro b hb;simp [Bet,World.setCell]at hb⊢;omega
  ·intro b hb;exact hb.2
 ·exact (HB1.o.setCell sZ _).setCell sZ _
theorem b5m (u:Value) (l:P.Dic) (w:World) (hu:EntR w u l) (hs:P.Up l) (hl:l.length≤2^20) (hle:∀e∈l,e.1.length≤2^20) :
 Calls Tryz.prog 63 #[u] w (b1e l w):=by
 obtain⟨i0,hi,hz0,hz1,hz2⟩:=info_parts a3u
 have HU:=qh hu
 have HUP:=qh hs;clear hs
 have HLE:=qh hle;clear hle
 have hB0:Below w.heap.size w ((w.alloc (.cells #[.slice none 0 0] 26)).alloc (.cells #[] 119)):=((Below.refl w.heap.size w).alloc lZ _).alloc sZ _
 have HB0:=qh hB0;clear hB0
 have HA0:=qh (show Acc 119 2 entE (w.heap.size+1) ((w.alloc (.cells #[.slice none 0 0] 26)).alloc (.cells #[] 119)) (.slice (some ⟨w.heap.size+1,0,none⟩) 0 0) [] [] from
  Acc.nil (by have h:=World.ownsRow_lit (base:=w.heap.size+1) (e:=119) (size:=2) (w.alloc (.cells #[.slice none 0 0] 26)) #[] 0 sZ (Nat.zero_le _) sZ;simpa using h) sZ)
 have r0:((w.alloc (.cells #[.slice none 0 0] 26)).alloc (.cells #[] 119)).cell? ⟨w.heap.size,0,none⟩=some (.slice none 0 0):=by go_simp
 have s0:((w.alloc (.cells #[.slice none 0 0] 26)).alloc (.cells #[] 119)).frozen? ⟨w.heap.size,0,none⟩=false:=by go_simp
 have R0:=qh r0;have S0:=qh s0
 clear r0 s0
 obtain⟨ad,cap,rfl,_,_⟩:=hu
 go_enter Tryz.func63,Tryz.ntmps63
 go_wp2_with fail
 go_loopw [3,9] (fun s i wr=>∃(j:Nat) (xs:List Value),j≤l.length∧i=.int .i64 j∧wr.cell? ⟨w.heap.size,0,none⟩=some (.slice none 0 0)∧wr.frozen? ⟨w.heap.size,0,none⟩=false∧Acc 119 2 entE (w.heap.size+1) wr s (l.take j) xs∧Below w.heap.size w wr) (fun _ i _=>l.length-(intOf i).toNat)
 case atStart=>exact⟨0,[],Nat.zero_le _,rfl,R0.o,S0.o,HA0.o,HB0.o⟩
 case round=>
  obtain⟨j,xs,hj,rfl,r0,s0,hacc,hb⟩:=hrel;clear HA0 R0 S0 HB0;have HBZ:=qh (show w.heap.size+1≤wr.heap.size by obtain⟨_,_,_,_,h,_⟩:=hacc;exact h);have hlt0:(l.take j).length=j:=by rw [List.length_take];omega
  have HA:=qh hacc;have HB:=qh hb;have HL0:=qh hlt0;obtain⟨uad,ucap,hu'⟩:=hacc.form;rw [hlt0]at hu';subst hu';clear hlt0 hacc
  by_cases hlt:j<l.length
  ·exact zq4
  ·have hjl:l.length=j:=by omega
   have HT:=qh (show l.take j=l from List.take_of_length_le oZ);have HROW:=qh (show Ents wr (Bet (w.heap.size+1) wr.heap.size) (.slice uad j ucap) l from by have h:=HA.o;rw [HT.o]at h;exact h.row oZ);clear hb
   go_wp2_with fail
   refine (a9q _ l _ HROW.o.read HUP.o).mono ?_;rintro e v1 ⟨rfl,hb1⟩;have r1:=(hb1.cell (p:=⟨w.heap.size,0,none⟩) (by have:=HBZ.o;show w.heap.size<_;omega)).trans r0;have s1:=(hb1.frozen (p:=⟨w.heap.size,0,none⟩) (by have:=HBZ.o;show w.heap.size<_;omega)).trans s0;have HR:=qh (HROW.o.below a0b hb1);have HBW:=bt HB hb1;have HZ:=qh hb1.size;clear hb1 r0 s0;go_wp2;refine bodyPost_ret (v:=.agg #[.slice uad j ucap]) (by simp [results,Tryz.results63,go_sem,r1]) rfl ⟨_,rfl,?_,HBW.o.setCell lZ _⟩;exact zq82
end
open Go Go.RowKit
def P.kept (ok:Bool) (l:P.Dic):P.Dic:=if ok then l else []
structure Small (l:P.Dic):Prop where
 len:l.length≤2^20
 outs:∀e∈l,e.1.length≤2^20
 texts:∀e∈l,e.2.length≤2^30
def NBx (b:Nat) (v:World):Prop:=v.cell? ⟨b,0,none⟩=some (.slice none 0 0)∧v.frozen? ⟨b,0,none⟩=false∧b<v.heap.size
theorem NBx.a0e {b:Nat} {v v':World} {X:Blk} (h:NBx b v) (hc:Chg X v v') (hX:¬X b):NBx b v':=
 ⟨(hc.cell (p:=⟨b,0,none⟩) h.2.2 hX).trans h.1,(hc.frozen (p:=⟨b,0,none⟩) h.2.2 hX).trans h.2.1,Nat.lt_of_lt_of_le h.2.2 hc.size⟩
theorem NBx.below {b:Nat} {v v':World} (h:NBx b v) (hb:Below v.heap.size v v'):NBx b v':=h.a0e (Below.chg hb fun _=>False) fun h=>h
theorem NBx.new (v:World) (t:TypeId):NBx v.heap.size (v.alloc (.cells #[.slice none 0 0] t)):=by
 refine⟨?_,?_,?_⟩<;>go_simp
section
set_option maxHeartbeats 1000000
set_option maxRecDepth 100000
def IntA (v:World) (u:Value) (l:List Int):Prop:=
 ∃(ad:Option Addr) (cap:Nat),u=.slice ad l.length cap∧(l.length≤9223372036854775807∧l.length≤cap)∧(ad=none→cap=0)∧(l=[]∨∃g o,ad=some ⟨g,o,none⟩∧g<v.heap.size∧∀(j:Nat) (h:j<l.length),v.cell? ⟨g,o+j,none⟩=some (.int .i64 (l[j]'h)))
def EntA (v:World) (u:Value) (l:P.Dic):Prop:=
 ∃(ad:Option Addr) (cap:Nat),u=.slice ad l.length cap∧(l.length≤9223372036854775807∧l.length≤cap)∧(ad=none→cap=0)∧(l=[]∨∃g o,ad=some ⟨g,o,none⟩∧g<v.heap.size∧∀(j:Nat) (h:j<l.length),∃x,v.cell? ⟨g,o+j*2,none⟩=some x∧v.cell? ⟨g,o+j*2+1,none⟩=some (.string (S (l[j]'h).2))∧IntA v x (l[j]'h).1)
theorem IntA.read {v:World} {u:Value} {l:List Int} (h:IntA v u l) (hl:l.length≤2^20):IntR v u l:=by
 obtain⟨ad,cap,h1,h0,h2,h3⟩:=h;exact⟨ad,cap,h1,by omega,h2,h3⟩
theorem EntA.read {v:World} {u:Value} {l:P.Dic} (h:EntA v u l) (hl:l.length≤2^20) (ho:∀e∈l,e.1.length≤2^20):EntR v u l:=by
 obtain⟨ad,cap,h1,h0,h2,h3⟩:=h;refine⟨ad,cap,h1,by omega,h2,h3.imp id ?_⟩;rintro⟨g,o,h4,h5,h6⟩;refine⟨g,o,h4,h5,fun j hj=>?_⟩;obtain⟨x,a,b,c⟩:=h6 j hj;exact⟨x,a,b,c.read (ho _ (List.getElem_mem hj))⟩
theorem IntA.below {v v':World} {u:Value} {l:List Int} (h:IntA v u l) (hb:Below v.heap.size v v'):IntA v' u l:=by
 exact zq109
theorem EntA.below {v v':World} {u:Value} {l:P.Dic} (h:EntA v u l) (hb:Below v.heap.size v v'):EntA v' u l:=by
 exact zq40
theorem EntA.at {v:World} {ad:Option Addr} {n cap:Nat} {l:P.Dic} (h:EntA v (.slice ad n cap) l) (j:Nat) (hj:j<l.length):∃g o,ad=some ⟨g,o,none⟩∧g<v.heap.size∧∃x,v.cell? ⟨g,o+j*2,none⟩=some x∧v.cell? ⟨g,o+j*2+1,none⟩=some (.string (S (l[j]'hj).2))∧IntA v x (l[j]'hj).1:=by
 obtain⟨ad',cap',he,_,_,h3⟩:=h;exact zq39
def b7j (left size:Int) (w:World) (e:Ending) (w':World):Prop:=(∃r:Int,e=.returned (.int .i64 r) ∧ -1≤r∧(0≤r→r=left-size))∧Below w.heap.size w w'
theorem d7k (u:Value) (l:List Int) (left:Int) (w:World) (hu:IntA w u l) (h0:0≤left) (h1:left≤2^20) :
 Calls Tryz.prog 162 #[u,.int .i64 left] w (b7j left l.length w):=by
 obtain⟨ad,cap,rfl,hl,_⟩:=hu
 by_cases hlt:left-(l.length:Int)<0
 ·go_enter Tryz.func162,Tryz.ntmps162
  go_wp2;go_ret;exact⟨⟨-1,rfl,by omega,by omega⟩,Below.refl _ _⟩
 ·go_enter Tryz.func162,Tryz.ntmps162
  go_wp2;go_ret;exact⟨⟨_,rfl,by omega,by omega⟩,Below.refl _ _⟩
theorem d9t (u:Value) (l:List Int) (t:Str) (left:Int) (w:World) (hu:IntA w u l) (ht:t.length≤9223372036854775807) (h0:0≤left) (h1:left≤2^20) :
 Calls Tryz.prog 159 #[.agg #[u,.string (S t)],.int .i64 left] w (b7j left (l.length+t.length) w):=by
 have hb0:=(Below.refl w.heap.size w).alloc lZ (.cells #[u,.string (S t)] 181)
 have HU:=qh (hu.below hb0);have HB0:=qh hb0;clear hb0
 obtain⟨ad,cap,rfl,hl,_⟩:=hu
 go_enter Tryz.func159,Tryz.ntmps159
 go_wp2_with fail
 refine (d7k _ l left _ HU.o h0 h1).mono ?_
 rintro e w1 ⟨⟨r,rfl,hr1,hr2⟩,hb⟩
 have hz:=c2x hb
 obtain⟨hcc,_⟩:=a4k hb
 have c1:w1.cell? ⟨w.heap.size,1,none⟩=some (.string (S t)):=by rw [hcc _ _ sZ];go_simp
 have HB1:=qh (HB0.o.trans (hb.mono sZ))
 clear hb hcc
 have HR:=qh hr2;clear hr2
 by_cases hlt:r<0
 ·exact zq86
 ·exact zq179
theorem d6e (u:Value) (l:P.Dic) (left:Int) (w:World) (hu:EntA w u l) (ht:∀e∈l,e.2.length≤9223372036854775807) (h0:0≤left) (h1:left≤2^20) :
 Calls Tryz.prog 88 #[u,.int .i64 left] w (b7j left (l.length+P.a4t l) w):=by
 have HU:=qh hu
 have HT:=qh ht;clear ht
 obtain⟨ad,cap,rfl,hl,_⟩:=hu
 by_cases hlt:left-(l.length:Int)<0
 ·go_enter Tryz.func88,Tryz.ntmps88
  go_wp2;go_ret;exact⟨⟨-1,rfl,by omega,by omega⟩,Below.refl _ _⟩
 ·go_enter Tryz.func88,Tryz.ntmps88
  go_wp2
  go_loopw [1,5] (fun kk i wr=>∃(j:Nat) (r:Int),j≤l.length∧i=.int .i64 j∧kk=.int .i64 r∧0≤r∧r=left-l.length-P.a4t (l.take j)∧Below w.heap.size w wr) (fun _ i _=>l.length-(intOf i).toNat)
  case atStart=>exact⟨0,_,Nat.zero_le _,rfl,rfl,by omega,by simp [P.a4t],Below.refl _ _⟩
  case round=>
   obtain⟨j,r,hj,rfl,rfl,hr0,hr,hb⟩:=hrel;have HR:=qh hr;have HB:=qh hb;have hsn:=P.a3e (l.take j);have hr1:r≤2^20:=by omega
   clear hr hsn
   by_cases hlj:j<l.length
   ·obtain⟨g,o,rfl,hgs,x,c0,c1,hx⟩:=(HU.o.below hb).at j hlj;have htl:=HT.o _ (List.getElem_mem hlj);have HSN:=qh (show P.a4t (l.take (j+1))=P.a4t (l.take j)+l[j].1.length+l[j].2.length by rw [a0f l j hlj,P.b7h]);have HX:=qh hx;obtain⟨xd,xc,rfl,hxl,_⟩:=hx;have hbz:=hb.size;generalize l[j]=en at *;obtain⟨eo,et⟩:=en;simp only at hxl HX HSN c1 htl;have i1:(j:Int)<(l.length:Int):=by omega
    clear hb
    go_wp2_with fail
    refine (d9t _ eo et r _ HX.o htl hr0 hr1).mono ?_;rintro e w1 ⟨⟨r',rfl,hr2,hr3⟩,hb⟩;have HR3:=qh hr3;have HB2:=qh (HB.o.trans (hb.mono hbz));clear hr3 hb
    by_cases hneg:r'<0
    ·go_wp2;go_ret;exact⟨⟨-1,rfl,by omega,by omega⟩,HB2.o⟩
    ·go_wp2
     go_roundw
     case rel=>exact⟨j+1,r',by omega,by go_num,rfl,by omega,by have:=HR3.o oZ;have:=HR.o;have:=HSN.o;omega,HB2.o⟩
     case measure=>simp [intOf];omega
   ·have HE:=qh (show r=left-(l.length+P.a4t l) by have:=HR.o;rw [List.take_of_length_le oZ]at this;omega);clear hb;go_wp2;go_ret;exact⟨⟨r,rfl,by omega,fun _=>HE.o⟩,HB.o⟩
theorem c2q (u:Value) (l:P.Dic) (left:Int) (w:World) (hu:EntA w u l) (ht:∀e∈l,e.2.length≤9223372036854775807) (h0:0≤left) (h1:left≤2^20) :
 Calls Tryz.prog 28 #[.agg #[u],.int .i64 left] w (b7j left (l.length+P.a4t l) w):=by
 have hb0:=(Below.refl w.heap.size w).alloc lZ (.cells #[u] 63)
 have HU:=qh (hu.below hb0);have HB0:=qh hb0;clear hb0
 have HT:=qh ht;clear ht
 obtain⟨ad,cap,rfl,hl,_⟩:=hu
 go_enter Tryz.func28,Tryz.ntmps28
 go_wp2_with fail
 refine (d6e _ l left _ HU.o HT.o h0 h1).mono ?_
 rintro e w1 ⟨⟨r,rfl,hr1,hr2⟩,hb⟩
 have HB1:=qh (HB0.o.trans (hb.mono sZ))
 have HR:=qh hr2;clear hr2 hb
 by_cases hlt:r<0
 ·exact zq86
 ·go_wp2;go_ret;exact⟨⟨r,rfl,by omega,HR.o⟩,HB1.o⟩
end
section
def Box1 (b:Nat) (x:Value) (v:World):Prop:=v.cell? ⟨b,0,none⟩=some x∧b<v.heap.size
theorem Box1.a0e {b:Nat} {x:Value} {v v':World} {X:Blk} (h:Box1 b x v) (hc:Chg X v v') (hX:¬X b):Box1 b x v':=
 ⟨(hc.cell (p:=⟨b,0,none⟩) h.2 hX).trans h.1,Nat.lt_of_lt_of_le h.2 hc.size⟩
theorem Box1.below {b:Nat} {x:Value} {v v':World} (h:Box1 b x v) (hb:Below v.heap.size v v'):Box1 b x v':=h.a0e (Below.chg hb fun _=>False) fun h=>h
theorem Box1.new (x:Value) (t:TypeId) (v:World):Box1 v.heap.size x (v.alloc (.cells #[x] t)):=⟨by go_simp,by simp⟩
theorem d4i {l:P.Dic} (h:(l.length:Int)+P.a4t l≤1048576):Small l:=by
 have h0:=P.a3e l;refine⟨by omega,fun e he=>?_,fun e he=>?_⟩
 ·have:=P.b5t he;omega
 ·have:=P.b5t he;omega
theorem Chg.a0k {X:Blk} {B:Nat} {a v v':World} (h:Below B a v) (hc:Chg X v v') (hB:B≤v.heap.size) (hX:∀b,X b→B≤b):Below B a v':=h.trans (hc.below hB hX)
end
end Go.Proofs.YtggfdnopminemaaGreatDoor
