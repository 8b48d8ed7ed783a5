/- Walks: strokes and outlines read (program and reference). -/
import Derived.Test.YtggfdnopminemaaGreatDoorZt
import Derived.Test.YtggfdnopminemaaGreatDoorScrI8
set_option linter.all false
namespace Go.Proofs.YtggfdnopminemaaGreatDoor
open Go Go.RowKit
set_option maxHeartbeats 8000000
set_option maxRecDepth 100000
theorem d3p {a b:UInt8} (h:a≠b):(((a.toNat:Nat):Int)==((b.toNat:Nat):Int))=false:=by
 rw [beq_eq_false_iff_ne];intro e;exact h (UInt8.toNat_inj.1 oZ)
theorem c6t {j:Nat} (hj:j<23):([35,83,84,75,80,87,72,82,65,79,42,69,85,70,82,80,66,76,71,84,83,68,90]:List UInt8)[j]'(by simpa using hj)=P.lab j:=by
 unfold P.lab P.labels;rw [List.getD_eq_getElem?_getD,List.getElem?_eq_getElem (by simpa using hj)];rfl
theorem lab_ne {j:Nat} {b:UInt8} (hj:j<23) (h:P.lab j=b):((((([35,83,84,75,80,87,72,82,65,79,42,69,85,70,82,80,66,76,71,84,83,68,90]:List UInt8)[j]'(by simpa using hj)).toNat:Nat):Int) != ((b.toNat:Nat):Int))=false:=by
 rw [c6t hj,h];simp
theorem d5e {j:Nat} {b:UInt8} (hj:j<23) (h:P.lab j≠b):((((([35,83,84,75,80,87,72,82,65,79,42,69,85,70,82,80,66,76,71,84,83,68,90]:List UInt8)[j]'(by simpa using hj)).toNat:Nat):Int) != ((b.toNat:Nat):Int))=true:=by
 rw [c6t hj]
 show (!_)=true
 rw [d3p h];rfl
theorem or_new {m k:Nat} (hm:m<2^k) (hk:k≤22):bits .or .i64 (m:Int) ((2^k:Nat):Int)=((m+2^k:Nat):Int):=by
 have h23:m<2^23:=Nat.lt_of_lt_of_le hm (Nat.pow_le_pow_right dZ oZ);rw [d1v h23 hk (Nat.testBit_lt_two_pow hm)];simp
theorem a6y (t:Str) (w:World) (ht:t.length≤2^40) :
 Calls Tryz.prog 144 #[.string (S t)] w fun e w'=>e=.returned (.tuple #[.int .i64 ((P.loose t).1:Int),.bool (P.loose t).2])∧Below w.heap.size w w':=by
 go_enter Tryz.func144,Tryz.ntmps144
 go_wp2
 go_loopw [4,5,6,10] (fun s nx dh i wr=>∃(k:Nat) (q:P.LSt),k≤t.length∧i=.int .i64 k∧s=.int .i64 (q.1:Int)∧nx=.int .i64 (q.2.1:Int)∧dh=.bool q.2.2∧P.LInv q∧P.a1h t (0,0,false)=P.a1h (t.drop k) q∧Below w.heap.size w wr) (fun _ _ _ i _=>t.length-(intOf i).toNat)
 case atStart=>exact⟨0,(0,0,false),Nat.zero_le _,rfl,rfl,rfl,rfl,⟨by decide,by decide⟩,by rw [List.drop_zero],Below.refl _ _⟩
 case round=>
  obtain⟨k,⟨sn,nx,dh⟩,hk,rfl,rfl,rfl,rfl,hinv,hrun,hbel⟩:=hrel;have HI:=qh hinv;have HR:=qh hrun;have HB:=qh hbel;have hnx:nx≤23:=hinv.2;clear hinv hrun hbel
  by_cases hlt:k<t.length
  ·have i1:(k:Int)<(t.length:Int):=by omega
   by_cases hd:t[k]=45
   ·have f1:(((t[k].toNat:Nat):Int)==45)=true:=by rw [hd];rfl
    cases dh
    ·by_cases h13:13<nx
     ·have i2:13<(nx:Int):=by omega
      have HN:=qh (P.a5c (HR.o.trans (P.b0m (q:=(sn,nx,false)) hlt hd (.inr h13))));go_wp2;go_ret2;exact⟨by rw [HN.o];rfl,HB.o⟩
     ·have i2:¬13<(nx:Int):=by omega
      have HN:=qh (HR.o.trans (P.c4q (q:=(sn,nx,false)) hlt hd rfl (by show nx≤13;omega)));have HI2:=qh (P.a6b (b:=45) (q':=(sn,13,true)) HI.o (by unfold P.a1u;rw [if_pos rfl,if_neg (by simp;omega)]));go_wp2
      go_roundw
      case rel=>
       exact⟨k+1,(sn,13,true),by omega,by go_num,rfl,rfl,rfl,HI2.o,HN.o,HB.o⟩
      case measure=>simp [intOf];omega
    ·have HN:=qh (P.a5c (HR.o.trans (P.b0m (q:=(sn,nx,true)) hlt hd (.inl rfl))));go_wp2;go_ret2;exact⟨by rw [HN.o];rfl,HB.o⟩
   ·have f1:(((t[k].toNat:Nat):Int)==45)=false:=d3p (b:=45) hd;have HD:=qh hd;clear hd;go_wp2
    go_loopw [5] (fun x wr=>∃j:Nat,x=.int .i64 (j:Int)∧nx≤j∧j≤23∧P.keyOf t[k] j=P.keyOf t[k] nx∧Below w.heap.size w wr) (fun x _=>23-(intOf x).toNat)
    case atStart=>exact⟨nx,rfl,Nat.le_refl _,hnx,rfl,HB.o⟩
    case round=>
     obtain⟨j,rfl,hj0,hj,hkey,hbel⟩:=hrel;have HK:=qh hkey;have HB1:=qh hbel;clear hkey hbel
     by_cases hj23:j<23
     ·have i2:(j:Int)<23:=by omega
      by_cases hl:P.lab j=t[k]
      ·have f2:=lab_ne hj23 hl;have e1:wrap64 (2^j)=((2^j:Nat):Int):=shl_k oZ;have HKJ:=qh (show P.keyOf t[k] nx=j from HK.o.symm.trans (P.c7e hj23 hl));have e2:bits .or .i64 (sn:Int) ((2^j:Nat):Int)=((sn+2^j:Nat):Int):=or_new (Nat.lt_of_lt_of_le HI.o.1 (Nat.pow_le_pow_right dZ hj0)) oZ;have i3:¬23≤(j:Int):=by omega
       have HN:=qh (HR.o.trans (P.c9b (q:=(sn,nx,dh)) hlt HD.o (by show P.keyOf t[k] nx<23;rw [HKJ.o];exact hj23)));have HI2:=qh (P.a6b (b:=t[k]) (q':=(sn+2^P.keyOf t[k] nx,P.keyOf t[k] nx+1,dh)) HI.o (by unfold P.a1u;rw [if_neg HD.o,if_pos (by show P.keyOf t[k] nx<23;rw [HKJ.o];exact hj23)]));simp only [HKJ.o]at HN HI2;have e3:bits .or .i64 (sn:Int) (wrap64 (2^j))=((sn+2^j:Nat):Int):=by rw [e1];exact e2
       clear e1 e2
       go_wp2_with fail
       go_quiet (fail)
       go_wp2
       go_roundw
       case rel=>exact⟨k+1,(sn+2^j,j+1,dh),by omega,by go_num,by simp,by go_num,rfl,HI2.o,HN.o,below_drewN HB1.o _⟩
       case measure=>simp [intOf];omega
      ·have f2:=d5e hj23 hl;have HK2:=qh ((P.c3k hj23 hl).symm.trans HK.o)
       go_wp2_with fail
       go_quiet (fail)
       go_wp2
       go_roundw
       case rel=>exact⟨j+1,by go_num,by omega,by omega,HK2.o,below_drewN HB1.o _⟩
       case measure=>simp [intOf];omega
     ·have i2:¬(j:Int)<23:=by omega
      have hj2:j=23:=by omega
      subst hj2;have i3:(23:Int)≤((23:Nat):Int):=by omega
      have HN:=qh (P.a5c (HR.o.trans (P.b9t (q:=(sn,nx,dh)) hlt HD.o (by show 23≤P.keyOf t[k] nx;rw [←HK.o,P.c6x lZ];exact Nat.le_refl _))))
      go_wp2_with fail
      go_quiet (fail)
      go_wp2;go_ret2;exact⟨by rw [HN.o];rfl,below_drewN HB1.o _⟩
  ·have hkl:k=t.length:=by omega
   subst hkl;have HN:=qh (P.a7g (HR.o.trans (by rw [List.drop_length];rfl)));simp only at HN
   by_cases h0:sn=0
   ·have f0:((sn:Int) != 0)=false:=by subst h0;rfl
    go_wp2;go_ret2;exact⟨by rw [HN.o];simp [h0],HB.o⟩
   ·have f0:((sn:Int) != 0)=true:=by
     show (!_)=true
     rw [beq_eq_false_iff_ne.2 oZ];rfl
    go_wp2;go_ret2;exact⟨by rw [HN.o];simp [h0],HB.o⟩
theorem a8m (w:World) :
 Calls Tryz.prog 23 #[.int .i64 0] w fun e w'=>e=.returned (.tuple #[.string (S []),.bool false])∧w=w':=by
 go_enter Tryz.func23,Tryz.ntmps23
 go_wp2_with fail
 refine (a3z _ _).mono ?_
 rintro e w0 ⟨rfl,rfl⟩
 rw [show P.a0m 0=false from by decide]
 go_wp2
 go_ret2
 exact⟨rfl,rfl⟩
def d3v (r:Nat×Bool) (w:World) (e:Ending) (w':World):Prop:=e=.returned (.tuple #[.int .i64 (r.1:Int),.bool r.2])∧Below w.heap.size w w'
theorem a6i (t:Str) (w:World) (ht:t.length≤2^40) :
 Calls Tryz.prog 138 #[.string (S t)] w (d3v (P.parse t) w):=by
 have HL:=qh (P.a7f (t:=t));have HNO:=qh (P.c8h (t:=t))
 have HN1:=qh (P.c8s (t:=t));have HN2:=qh (P.c6m (t:=t));have HY:=qh (P.b7i (t:=t))
 go_enter Tryz.func138,Tryz.ntmps138
 go_wp2_with fail
 refine (a6y t _ ht).mono ?_
 rintro e w1 ⟨rfl,hb⟩
 have HB1:=qh hb
 clear hb
 cases hok:(P.loose t).2
 ·have HP:=qh (HN1.o hok);rw [HNO.o hok];clear hok
  go_wp2_with fail
  refine (a8m _).mono ?_;rintro e w2 ⟨rfl,rfl⟩;go_wp2;go_ret2;exact⟨by rw [HP.o];rfl,HB1.o⟩
 ·have HST:=qh (HL.o hok)
  go_wp2_with fail
  refine (a1j (P.loose t).1 _ HST.o).mono ?_;rintro e w2 ⟨rfl,hb⟩;have HB2:=bt HB1 hb;clear hb
  by_cases he:P.fmt ((P.loose t).1:Int)=t
  ·have HP:=qh (HY.o hok he);rw [he];clear hok he;go_wp2;go_ret2;exact⟨by rw [HP.o];rfl,HB2.o⟩
  ·have HP:=qh (HN2.o he);have f1:(P.fmt ((P.loose t).1:Int)==t)=false:=by simpa using he
   clear hok;go_wp2;go_ret2;exact⟨by rw [HP.o];rfl,HB2.o⟩
theorem c6y (s:Str) (c:UInt8):Lib.splitB (S [c]) 0 (Lib.countB (S s) (S [c])) (S s)=(P.split c s).map S:=by
 have h1:=Lib.splitB_data (S [c]) 0 (Lib.countB (S s) (S [c])) (S s);have h2:Lib.splitK [c] 0 (Lib.countB (S s) (S [c])) s=P.split c s:=P.b1i c s.length s lZ;rw [S_dataList,S_dataList,h2]at h1;rw [←h1,List.map_map]
 conv=>lhs;rw [←List.map_id (Lib.splitB (S [c]) 0 (Lib.countB (S s) (S [c])) (S s))]
 rfl
theorem d4t (s:Str) (c:UInt8) (w:World) (hs:s.length≤2^31) (hE:Env w) :
 Calls Tryz.prog 103 #[.string (S s),.string (S [c])] w fun e w'=>e=.returned (.slice (some ⟨w.heap.size,0,none⟩) (P.split c s).length (P.split c s).length)∧a8o w.heap.size (P.split c s) w'∧Below w.heap.size w w':=by
 obtain⟨m,hm⟩:=hE.2
 have h:=Tryz.strings_Split (S s) (S [c]) m w (by rw [S_size];omega) hm (by simp [S_size])
 have hl:Lib.countB (S s) (S [c])+1=(P.split c s).length:=by
  have:=Lib.splitB_all (S [c]) (by simp [S_size]) 0 _ (S s) rfl;rw [c6y,List.length_map]at this;omega
 rw [hl,c6y]at h
 refine h.mono ?_
 rintro e w' ⟨rfl,rfl⟩
 refine⟨rfl,⟨⟨by simp,⟨_,_,heap_alloc_new w _⟩⟩,fun j hj=>?_⟩,bZ.alloc lZ _⟩
 rw [World.cell?_alloc_new]
 simp [hj]
theorem c4i {B g:Nat} {w:World} {v:Value} {n:Nat} {xs:List Value} {l:List Str} (h:w.ownsRow B 3 1 v n xs) (hs:a8o g l w):some g≠v.ownBlock:=by
 rcases h.2 with⟨rfl,_⟩|⟨g',cap,cur,rfl,_,hh,_⟩
 ·simp [Value.ownBlock]
 ·intro e;simp [Value.ownBlock]at e;subst e;obtain⟨c,f,hc⟩:=hs.1.2;rw [hh]at hc;injection hc with hc;injection hc with _ h2 _;revert h2
  decide
theorem d5n {c:UInt8} {s:Str} {j:Nat} (hj:j<(P.split c s).length):((P.split c s)[j]'hj).length≤s.length:=by
 have h:=P.a2z c s
 have h2:∀(l:List Str) (j:Nat) (hj:j<l.length),(l[j]'hj).length≤(l.map List.length).sum:=by
  intro l
  induction l with
  |nil=>intro j hj;simp at hj
  |cons x l ih=>
   intro j hj
   cases j with
   |zero=>simp
   |succ j=>have:=ih j (by simpa using hj);simp;omega
 have h3:=h2 _ j hj;omega
theorem c2q (c:UInt8) (s:Str):(P.split c s).length≤s.length+1:=by
 have h:=P.a2z c s;omega
def c2k (r:Option (List Int)) (w:World) (e:Ending) (w':World):Prop:=∃u,e=.returned (.tuple #[u,.bool r.isSome])∧OwnK w.heap.size w' u (r.getD [])∧Below w.heap.size w w'
theorem a9d (B:Nat) (v:World):OwnK B v (.slice none 0 0) []:=World.ownsRow_nil _ _ _ _
theorem a9s (s:Str) (w:World) (hs:s.length≤4000) (hE:Env w) :
 Calls Tryz.prog 269 #[.string (S s)] w (c2k (P.a2p (P.split 47 s)) w):=by
 obtain⟨i0,hi,hz0,hz1,hz2⟩:=info_parts a1z
 have hb0:=(Below.refl w.heap.size w).alloc lZ (.cells #[] 3)
 have HO0:=qh (b9o w)
 have HE0:=qh (hE.below hb0 hE.size);have HB0:=qh hb0
 have HPL:=qh (fun j hj=>d5n (c:=47) (s:=s) (j:=j) hj);have hpl:=c2q 47 s
 clear hb0 hE
 go_enter Tryz.func269,Tryz.ntmps269
 go_wp2_with fail
 refine (d4t s 47 _ oZ HE0.o).mono ?_
 rintro e w1 ⟨rfl,hst,hb⟩
 have HST0:=qh hst;have HB1:=bt HB0 hb;have HO1:=qh (a0k HO0.o hb lZ)
 generalize P.split 47 s=L at *
 generalize (w.alloc (.cells #[] 3)).heap.size=g at *
 clear hst hb HE0 HB0 HO0
 go_wp2
 go_loopw [4,13] (fun v i wr=>∃(k:Nat) (acc:List Int),k≤L.length∧i=.int .i64 k∧acc.length=k∧P.a2p L=(P.a2p (L.drop k)).map (acc++·)∧OwnK w.heap.size wr v acc∧a8o g L wr∧Below w.heap.size w wr) (fun _ i _=>L.length-(intOf i).toNat)
 case atStart=>exact⟨0,[],Nat.zero_le _,rfl,rfl,by rw [List.drop_zero];simp,HO1.o,HST0.o,HB1.o⟩
 case round=>
  obtain⟨k,acc,hk,rfl,hacc,hrun,hown,hst,hbel⟩:=hrel;have HRUN:=qh hrun;have HOWN:=qh hown;have HST1:=qh hst;have HBEL:=qh hbel;obtain⟨ua,uc,rfl⟩:=a0j hown;have HACC:=qh hacc;have hal:acc.length≤4001:=by omega
  clear hacc hrun hown hbel HO1 HST0 HB1
  by_cases hlt:k<L.length
  ·have c0:=hst.2 k hlt;have i1:(k:Int)<(L.length:Int):=by omega
   have hll:=HPL.o k hlt;clear hst
   go_wp2_with fail
   refine (a6i L[k] _ oZ).mono ?_;rintro e w2 ⟨rfl,hb⟩;have HB2:=bt HBEL hb;have HOK:=qh (a0k HOWN.o hb lZ);have HST:=qh (HST1.o.below hb);clear hb c0 HBEL HOWN HST1
   cases hp:(P.parse L[k]).2
   ·have HP:=qh (show P.a2p L=none by rw [HRUN.o,P.c8w hlt (P.c7g hp)];rfl);clear hp;go_wp2;go_ret2;exact⟨.slice none 0 0,by rw [HP.o];rfl,by rw [HP.o];exact a9d _ _,HB2.o⟩
   ·skip;have HOA:=qh (HOK.o.alloc (.cells #[.int .i64 ((P.parse L[k]).1:Int)] 3));have HSZ:=qh HB2.o.size;have HX1:=qh (P.c5d hp);have HNX:=qh (P.b9l hlt HX1.o HRUN.o);have HST2:=qh (HST.o.below (bZ.alloc lZ (.cells #[.int .i64 ((P.parse L[k]).1:Int)] 3)));clear hp
    go_wp2_with (at_builtin;refine wpList_append_own _ rfl _ _ 33 rfl w.heap.size 3 i0 (.int .i64 0) 1 8 Tryz.underlying33 hi hz0 hz1 hz2 rfl dZ (.slice ua acc.length uc) acc.length (ints acc) rfl HOA.o ⟨w2.heap.size,0,none⟩ 1 1 [.int .i64 ((P.parse L[k]).1:Int)] rfl rfl ?_ ?_ ?_ ?_ ?_ ?_)
    all_goals first|exact⟨rfl,rfl⟩|(intro z hz;simp only [List.mem_cons,List.not_mem_nil,or_false]at hz;subst hz;rfl)|(unfold maxLen;omega)|omega|(have h1:=HSZ.o;simp;omega)|(intro i z hz;rcases i with _|i;(injection hz with hz;subst hz;rw [add0];go_simp);cases hz)|skip
    intro u4 w4 hown hgr _;have H6:=qh (c0h HOK.o HB2.o 3 hown hgr);have H7:=qh (HST2.o.grown hgr (c4i HOA.o HST2.o));clear hown hgr HOA;go_wp2
    go_roundw
    case rel=>exact⟨k+1,acc++[((P.parse L[k]).1:Int)],by omega,by go_num,by rw [List.length_append,HACC.o];rfl,HNX.o,H6.o.1,H7.o,H6.o.2⟩
    case measure=>simp [intOf];omega
  ·have hkl:k=L.length:=by omega
   subst hkl;have HP:=qh (P.c3m HRUN.o);clear hst;go_wp2;go_ret2;exact⟨_,by rw [HP.o];rfl,by rw [HP.o];exact HOWN.o,HBEL.o⟩
theorem b1a {r:Option (List Int)} {o:List Int} (h:r=some o):r.filter P.a0l=if P.a0l o then some o else none:=by
 rw [h];simp [Option.filter]
theorem a5j (s:Str) (w:World) (hs:s.length≤2^40) (hE:Env w) :
 Calls Tryz.prog 209 #[.string (S s)] w (c2k (P.a2q s) w):=by
 have HLO:=qh (P.b2d (s:=s))
 have HE:=qh hE
 clear hE
 go_enter Tryz.func209,Tryz.ntmps209
 by_cases hl:4000<s.length
 ·have i1:(4000:Int)<(s.length:Int):=by omega
  have HP:=qh (HLO.o hl);go_wp2;go_ret2;exact⟨.slice none 0 0,by rw [HP.o];rfl,by rw [HP.o];exact a9d _ _,Below.refl _ _⟩
 ·have i1:¬(4000:Int)<(s.length:Int):=by omega
  have HPO:=qh (show P.a2q s=(P.a2p (P.split 47 s)).filter P.a0l from rfl)
  go_wp2_with fail
  refine (a9s s _ oZ HE.o).mono ?_;rintro e w1 ⟨u,rfl,ho,hb⟩;have HO:=qh ho;have HB1:=qh hb;have HE1:=qh (HE.o.below hb HE.o.size);clear ho hb HLO;have HLL:=qh (fun r=>P.a9r (L:=P.split 47 s) (r:=r));have hpl:=c2q 47 s;generalize P.a2p (P.split 47 s)=r at *
  cases r with
  |none=>
   go_wp2;go_ret2;exact⟨.slice none 0 0,by rw [HPO.o];rfl,by rw [HPO.o];exact a9d _ _,HB1.o⟩
  |some o=>
   have hol:o.length≤2^45:=by have:=(HLL.o o rfl).1;omega
   have HQ:=qh (b1a (r:=some o) rfl);obtain⟨ua,uc,rfl⟩:=a0j HO.o;simp only [Option.getD_some,Option.isSome_some]at HO⊢
   go_wp2_with fail
   refine (a7s _ o _ (a1i HO.o hol)).mono ?_;rintro e w2 ⟨rfl,hb⟩;have HB2:=bt HB1 hb;have HO2:=qh (a0k HO.o hb lZ);clear hb
   cases hq:P.a0l o
   ·have HP:=qh (show P.a2q s=none by rw [HPO.o,HQ.o,hq];rfl);clear hq;go_wp2;go_ret2;exact⟨.slice none 0 0,by rw [HP.o];rfl,by rw [HP.o];exact a9d _ _,HB2.o⟩
   ·have HP:=qh (show P.a2q s=some o by rw [HPO.o,HQ.o,hq];rfl);clear hq;go_wp2;go_ret2;exact⟨_,by rw [HP.o];rfl,by rw [HP.o];exact HO2.o,HB2.o⟩
end Go.Proofs.YtggfdnopminemaaGreatDoor
