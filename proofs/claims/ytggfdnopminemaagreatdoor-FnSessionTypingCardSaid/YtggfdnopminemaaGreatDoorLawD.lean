/- Walks: the program's copy of an entry, and of a dictionary that is in order. -/
import Derived.Test.YtggfdnopminemaaGreatDoorZt
import Derived.Test.YtggfdnopminemaaGreatDoorMemE
import Derived.Test.YtggfdnopminemaaGreatDoorSortD
set_option linter.all false
namespace Go.Proofs.YtggfdnopminemaaGreatDoor
section
open Go Go.RowKit
set_option maxHeartbeats 8000000
set_option maxRecDepth 100000
def KP (W:Nat) (x:Value) (t:Str) (v:World):Prop:=
 v.cell? ⟨W,0,none⟩=some x∧v.cell? ⟨W,1,none⟩=some (.string (S t))∧v.cell? ⟨W+1,0,none⟩=some (.slice none 0 0)∧v.cell? ⟨W+1,1,none⟩=some (.string (S []))∧v.frozen? ⟨W+1,0,none⟩=false∧v.frozen? ⟨W+1,1,none⟩=false
theorem KP.step {W:Nat} {x:Value} {t:Str} {v v':World} (h:KP W x t v) (hb:Below (W+2) v v'):KP W x t v':=by
 obtain⟨h1,h2,h3,h4,h5,h6⟩:=h
 exact⟨(hb.cell (p:=⟨W,0,none⟩) (by show W<W+2;omega)).trans h1,(hb.cell (p:=⟨W,1,none⟩) (by show W<W+2;omega)).trans h2,(hb.cell (p:=⟨W+1,0,none⟩) (by show W+1<W+2;omega)).trans h3,(hb.cell (p:=⟨W+1,1,none⟩) (by show W+1<W+2;omega)).trans h4,
  (hb.frozen (p:=⟨W+1,0,none⟩) (by show W+1<W+2;omega)).trans h5,(hb.frozen (p:=⟨W+1,1,none⟩) (by show W+1<W+2;omega)).trans h6⟩
theorem copied (u:Value) (l:List Int) (t:Str) (w:World) (hu:IntR w u l) (hl:l.length≤2^30) :
 Calls Tryz.prog 130 #[.agg #[u,.string (S t)]] w (d5c l t w):=by
 have hb0:Below w.heap.size w ((w.alloc (.cells #[u,.string (S t)] 119)).alloc (.cells #[.slice none 0 0,.string (S [])] 119)):=
  ((Below.refl w.heap.size w).alloc lZ _).alloc sZ _
 have HU:=qh ((hu.below hb0).below bZ.drew)
 have HB0:=qh hb0;clear hb0
 obtain⟨ad,cap,rfl,_,_⟩:=hu
 have HS:=qh (show KP w.heap.size (.slice ad l.length cap) t (((w.alloc (.cells #[.slice ad l.length cap,.string (S t)] 119)).alloc (.cells #[.slice none 0 0,.string (S [])] 119)).drew) from
  KP.step (show KP w.heap.size (.slice ad l.length cap) t ((w.alloc (.cells #[.slice ad l.length cap,.string (S t)] 119)).alloc (.cells #[.slice none 0 0,.string (S [])] 119)) by refine⟨?_,?_,?_,?_,?_,?_⟩<;>go_simp) bZ.drew)
 go_enter Tryz.func130,Tryz.ntmps130
 go_upto_region 1 with fail
 refine Left.region [6] (S:=KP w.heap.size (.slice ad l.length cap) t) kZ HS.o (fun hS0=>?_)
 refine lk5 0 hS0 ?_
 refine lk5 1 hS0 ?_
 refine lk5 3 hS0 ?_
 refine lk5 4 hS0 ?_
 refine lrd 2 fun K hK=>?_
 go_simp
 refine (copyOf _ l _ HU.o hl).mono ?_
 rintro e v1 ⟨x1,rfl,hI,hb1⟩
 have HI:=qh hI
 have HZ1:=qh (show w.heap.size+2≤v1.heap.size by have:=hb1.size;simp at this;omega)
 have HB1:=qh (show Below w.heap.size w v1 from HB0.o.trans (bZ.drew.trans (hb1.mono (by simp;omega))))
 obtain⟨xd,xc,rfl,_,_⟩:=hI
 refine a3i hK dZ (hS0.step (hb1.mono sZ)) (fun hS1=>?_)
 clear hK K hb1
 try simp only [qA,qB,qC,Act.put,qD,qE,qF]
 refine lk5 5 hS1 ?_
 refine lrd 6 fun K hK=>?_
 obtain⟨k1,k2,k3,k4,k5,k6⟩:=hS1
 go_simp
 refine a8g hK dZ ?_
 clear hK K
 try simp only [qA,qB,qC,Act.put,qD,qE,qF]
 refine Left.done kZ ?_ _
 clear hS0 HS HU
 go_wp2
 refine bodyPost_ret (v:=.agg #[.slice xd l.length xc,.string (S t)]) (by simp [results,Tryz.results130,go_sem,k3,k4]) rfl ⟨_,rfl,?_,?_⟩
 ·refine (HI.o.a0c (X:=fun b=>b<w.heap.size+2) a1a (((Chg.refl _ v1).setCell ?_ _).setCell ?_ _) ?_).wide ?_ ?_
  ·simp
  ·simp
  ·intro b hb;simp [Bet]at hb⊢;omega
  ·intro b hb;simp [Bet,World.setCell]at hb⊢;omega
  ·intro b hb;exact hb.2
 ·exact (HB1.o.setCell sZ _).setCell sZ _
theorem a6w (u:Value) (l:P.Dic) (w:World) (hu:EntR w u l) (hs:P.Up l) (hl:l.length≤2^20) (hle:∀e∈l,e.1.length≤2^20) :
 Calls Tryz.prog 63 #[u] w (b5e l w):=by
 obtain⟨i0,hi,hz0,hz1,hz2⟩:=info_parts a4n
 have HU:=qh hu
 have HUP:=qh hs;clear hs
 have HLE:=qh hle;clear hle
 have hB0:Below w.heap.size w ((w.alloc (.cells #[.slice none 0 0] 26)).alloc (.cells #[] 119)):=((Below.refl w.heap.size w).alloc lZ _).alloc sZ _
 have HB0:=qh hB0;clear hB0
 have HA0:=qh (show Acc 119 2 entE (w.heap.size+1) ((w.alloc (.cells #[.slice none 0 0] 26)).alloc (.cells #[] 119)) (.slice (some ⟨w.heap.size+1,0,none⟩) 0 0) [] [] from
  Acc.nil (by have h:=World.ownsRow_lit (base:=w.heap.size+1) (e:=119) (size:=2) (w.alloc (.cells #[.slice none 0 0] 26)) #[] 0 sZ (Nat.zero_le _) sZ;simpa using h) sZ)
 have r0:((w.alloc (.cells #[.slice none 0 0] 26)).alloc (.cells #[] 119)).cell? ⟨w.heap.size,0,none⟩=some (.slice none 0 0):=by go_simp
 have s0:((w.alloc (.cells #[.slice none 0 0] 26)).alloc (.cells #[] 119)).frozen? ⟨w.heap.size,0,none⟩=false:=by go_simp
 have R0:=qh r0;have S0:=qh s0
 clear r0 s0
 obtain⟨ad,cap,rfl,_,_⟩:=hu
 go_enter Tryz.func63,Tryz.ntmps63
 go_wp2_with fail
 go_loopw [3,9] (fun s i wr=>∃(j:Nat) (xs:List Value),j≤l.length∧i=.int .i64 j∧wr.cell? ⟨w.heap.size,0,none⟩=some (.slice none 0 0)∧wr.frozen? ⟨w.heap.size,0,none⟩=false∧Acc 119 2 entE (w.heap.size+1) wr s (l.take j) xs∧Below w.heap.size w wr) (fun _ i _=>l.length-(intOf i).toNat)
 case atStart=>exact⟨0,[],Nat.zero_le _,rfl,R0.o,S0.o,HA0.o,HB0.o⟩
 case round=>
  obtain⟨j,xs,hj,rfl,r0,s0,hacc,hb⟩:=hrel;clear HA0 R0 S0 HB0;have HBZ:=qh (show w.heap.size+1≤wr.heap.size by obtain⟨_,_,_,_,h,_⟩:=hacc;exact h);have hlt0:(l.take j).length=j:=by rw [List.length_take];omega
  have HA:=qh hacc;have HB:=qh hb;have HL0:=qh hlt0;obtain⟨uad,ucap,hu'⟩:=hacc.form;rw [hlt0]at hu';subst hu';clear hlt0 hacc
  by_cases hlt:j<l.length
  ·exact zq1
  ·have hjl:l.length=j:=by omega
   have HT:=qh (show l.take j=l from List.take_of_length_le oZ);have HROW:=qh (show Ents wr (Bet (w.heap.size+1) wr.heap.size) (.slice uad j ucap) l from by have h:=HA.o;rw [HT.o]at h;exact h.row oZ);clear hb
   go_wp2_with fail
   refine (a9l _ l _ HROW.o.read HUP.o).mono ?_;rintro e v1 ⟨rfl,hb1⟩;have r1:=(hb1.cell (p:=⟨w.heap.size,0,none⟩) (by have:=HBZ.o;show w.heap.size<_;omega)).trans r0;have s1:=(hb1.frozen (p:=⟨w.heap.size,0,none⟩) (by have:=HBZ.o;show w.heap.size<_;omega)).trans s0;have HR:=qh (HROW.o.below a0e hb1);have HBW:=bt HB hb1;have HZ:=qh hb1.size;clear hb1 r0 s0;go_wp2;refine bodyPost_ret (v:=.agg #[.slice uad j ucap]) (by simp [results,Tryz.results63,go_sem,r1]) rfl ⟨_,rfl,?_,HBW.o.setCell lZ _⟩;exact zq27
end
open Go Go.RowKit
def P.kept (ok:Bool) (l:P.Dic):P.Dic:=if ok then l else []
structure Small (l:P.Dic):Prop where
 len:l.length≤2^20
 outs:∀e∈l,e.1.length≤2^20
 texts:∀e∈l,e.2.length≤2^30
theorem P.c9h {l:P.Dic} (h:P.dic l=true):P.Up l:=by
 unfold P.dic at h;simp only [Bool.and_eq_true]at h;exact P.b0t h.2.2
def NBx (b:Nat) (v:World):Prop:=v.cell? ⟨b,0,none⟩=some (.slice none 0 0)∧v.frozen? ⟨b,0,none⟩=false∧b<v.heap.size
theorem NBx.a0c {b:Nat} {v v':World} {X:Blk} (h:NBx b v) (hc:Chg X v v') (hX:¬X b):NBx b v':=
 ⟨(hc.cell (p:=⟨b,0,none⟩) h.2.2 hX).trans h.1,(hc.frozen (p:=⟨b,0,none⟩) h.2.2 hX).trans h.2.1,Nat.lt_of_lt_of_le h.2.2 hc.size⟩
theorem NBx.below {b:Nat} {v v':World} (h:NBx b v) (hb:Below v.heap.size v v'):NBx b v':=h.a0c (Below.chg hb fun _=>False) fun h=>h
theorem NBx.new (v:World) (t:TypeId):NBx v.heap.size (v.alloc (.cells #[.slice none 0 0] t)):=by
 refine⟨?_,?_,?_⟩<;>go_simp
section
set_option maxHeartbeats 8000000
set_option maxRecDepth 100000
end
section
def Box1 (b:Nat) (x:Value) (v:World):Prop:=v.cell? ⟨b,0,none⟩=some x∧b<v.heap.size
theorem Box1.a0c {b:Nat} {x:Value} {v v':World} {X:Blk} (h:Box1 b x v) (hc:Chg X v v') (hX:¬X b):Box1 b x v':=
 ⟨(hc.cell (p:=⟨b,0,none⟩) h.2 hX).trans h.1,Nat.lt_of_lt_of_le h.2 hc.size⟩
theorem Box1.below {b:Nat} {x:Value} {v v':World} (h:Box1 b x v) (hb:Below v.heap.size v v'):Box1 b x v':=h.a0c (Below.chg hb fun _=>False) fun h=>h
theorem Box1.new (x:Value) (t:TypeId) (v:World):Box1 v.heap.size x (v.alloc (.cells #[x] t)):=⟨by go_simp,by simp⟩
theorem Chg.a0x {X:Blk} {B:Nat} {a v v':World} (h:Below B a v) (hc:Chg X v v') (hB:B≤v.heap.size) (hX:∀b,X b→B≤b):Below B a v':=h.trans (hc.below hB hX)
end
end Go.Proofs.YtggfdnopminemaaGreatDoor
