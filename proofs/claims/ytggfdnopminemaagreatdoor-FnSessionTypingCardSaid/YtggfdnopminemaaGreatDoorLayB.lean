/- Walks: an outline looked for in a dictionary (reference, program). Walks: an entry taken out of a dictionary (reference). Walks: an entry taken out of a dictionary (reference). Walks: an entry taken out of a dictionary (program). -/
import Derived.Test.YtggfdnopminemaaGreatDoorZt
import Derived.Test.YtggfdnopminemaaGreatDoorLawD
set_option linter.all false
namespace Go.Proofs.YtggfdnopminemaaGreatDoor
section
namespace P
def place (o:List Int):Dic→Int
 |[] => -1
 |e::l=>if e.1=o then 0 else if place o l<0 then -1 else place o l+1
theorem a7l (o:List Int):∀l:Dic,-1≤place o l
 |[]=>Int.le_refl _
 |e::l=>by
  have:=a7l o l;unfold place
  split
  ·decide
  ·split<;>omega
theorem b0a {o:List Int}:∀{l:Dic},(∀(k:Nat) (h:k<l.length),(l[k]'h).1≠o)→place o l = -1
 |[],_=>rfl
 |e::l,h=>by
  unfold place;rw [if_neg (show ¬e.1=o from h 0 (Nat.succ_pos _)),if_pos];rw [b0a fun k hk=>by have:=h (k+1) (by simpa using hk);simpa using this]
  decide
theorem a8s {o:List Int}:∀{l:Dic} (j:Nat) (hj:j<l.length),(l[j]'hj).1=o→(∀(k:Nat) (h:k<j),(l[k]'(by omega)).1≠o)→place o l=j
 |e::l,0,_,h,_=>by
  unfold place;rw [if_pos (by simpa using h)];rfl
 |e::l,j+1,hj,h,hn=>by
  unfold place;have h0:=hn 0 oZ;rw [if_neg (by simpa using h0),a8s j (by simpa using hj) (by simpa using h) (fun k hk=>by have:=hn (k+1) oZ;simpa using this),if_neg oZ];omega
theorem c9e {o:List Int} {l:Dic} {i:Nat} (h:place o l=i):∃hi:i<l.length,(l[i]'hi).1=o:=by
 by_cases hx:∃k,∃hk:k<l.length,(l[k]'hk).1=o
 ·obtain⟨k,hk,hko⟩:=hx
  have key:∀n,∀k,k≤n→∀hk:k<l.length,(l[k]'hk).1=o→∃j,∃hj:j<l.length,(l[j]'hj).1=o∧place o l=j:=by
   intro n
   induction n with
   |zero=>
    intro k hkn hk hko;refine⟨k,hk,hko,a8s k hk hko fun m hm=>by omega⟩
   |succ n ih=>
    intro k hkn hk hko
    by_cases hlt:∃m,∃hm:m<k,(l[m]'(by omega)).1=o
    ·obtain⟨m,hm,hmo⟩:=hlt;exact ih m oZ oZ hmo
    ·exact⟨k,hk,hko,a8s k hk hko fun m hm hmo=>hlt ⟨m,hm,hmo⟩⟩
  obtain⟨j,hj,hjo,hp⟩:=key k k lZ hk hko;have:i=j:=by omega
  subst this;exact⟨hj,hjo⟩
 ·have:=b0a (o:=o) (l:=l) fun k hk hko=>hx ⟨k,hk,hko⟩;omega
theorem b5j {o:List Int} {l:Dic}:place o l<l.length:=by
 by_cases h:place o l<0
 ·omega
 ·obtain⟨i,hi⟩:=Int.eq_ofNat_of_zero_le (show 0≤place o l by omega);obtain⟨hl,_⟩:=c9e hi;omega
end P
open Go Go.RowKit
set_option maxHeartbeats 8000000
set_option maxRecDepth 100000
theorem b8f {a b:List Int} {j:Nat} (ha:j<a.length) (hb:j<b.length) (h:a.take j=b.take j) (he:a[j]=b[j]):a.take (j+1)=b.take (j+1):=by
 rw [a0h a j ha,a0h b j hb,h,he]
theorem l1Same (u v:Value) (a b:List Int) (w:World) (hu:IntR w u a) (hv:IntR w v b) :
 Calls Tryz.prog 342 #[u,v] w fun e w'=>e=.returned (.bool (decide (a=b)))∧Below w.heap.size w w':=by
 have HU:=qh hu;have HV:=qh hv
 obtain⟨ad,cap,rfl,hla,_⟩:=hu
 obtain⟨bd,dap,rfl,hlb,_⟩:=hv
 by_cases hlen:a.length=b.length
 ·have hl1:((a.length:Int) != (b.length:Int))=false:=by simp;omega
  have hl2:((a.length:Int)==(b.length:Int))=true:=by simp;omega
  have HLE:=qh hlen;clear hlen
  go_enter Tryz.func342,Tryz.ntmps342
  go_wp2
  go_loopw [5] (fun i wr=>∃j:Nat,j≤a.length∧i=.int .i64 j∧a.take j=b.take j∧Below w.heap.size w wr) (fun i _=>a.length-(intOf i).toNat)
  case atStart=>exact⟨0,Nat.zero_le _,rfl,by simp,Below.refl _ _⟩
  case round=>
   obtain⟨j,hj,rfl,ht,hb⟩:=hrel;have HB:=qh hb;have HT:=qh ht;clear ht
   by_cases hlt:j<a.length
   ·have hlb2:j<b.length:=by have:=HLE.o;omega
    obtain⟨g,o,hga,hgl,c0⟩:=(HU.o.below hb).at j hlt;obtain⟨g',o',hgb,hgl',d0⟩:=(HV.o.below hb).at j hlb2;have HST:=qh (fun h=>b8f hlt hlb2 HT.o h);have HNE:=qh (show a[j]≠b[j]→decide (a=b)=false from fun h=>decide_eq_false fun e=>h (by subst e;rfl));subst hga hgb;generalize a[j]=x at *;generalize b[j]=y at *;clear hb;have i1:(j:Int)<(a.length:Int):=by omega
    by_cases hxy:x=y
    ·subst hxy;have HS2:=qh (HST.o rfl);clear HST HNE
     go_wp2_with fail
     go_quiet (fail)
     go_wp2
     go_roundw
     case rel=>exact⟨j+1,by omega,by go_num,HS2.o,below_drewN HB.o _⟩
     case measure=>simp [intOf];omega
    ·have HF:=qh (HNE.o hxy);have e1:(x==y)=false:=beq_eq_false_iff_ne.2 hxy;have e2:(x != y)=true:=by simp [bne,e1]
     clear hxy HST HNE
     go_wp2_with fail
     go_quiet (fail)
     go_wp2;go_ret;exact⟨a0b HF.o.symm,below_drewN HB.o _⟩
   ·have HF:=qh (show decide (a=b)=true from decide_eq_true (by
     have h:=HT.o
     have h2:=HLE.o
     rwa [List.take_of_length_le oZ,List.take_of_length_le oZ]at h))
    clear hb;go_wp2;go_ret;exact⟨a0b HF.o.symm,HB.o⟩
 ·have hl1:((a.length:Int) != (b.length:Int))=true:=by simp;omega
  have hl2:((a.length:Int)==(b.length:Int))=false:=by simp;omega
  have HF:=qh (show decide (a=b)=false from decide_eq_false fun e=>hlen (by rw [e]));clear hlen
  go_enter Tryz.func342,Tryz.ntmps342
  go_wp2;go_ret;exact⟨a0b HF.o.symm,Below.refl _ _⟩
theorem c5v {l:List Int} {j:Nat} (h:j<l.length):l.getD j 0=l[j]:=by
 rw [List.getD_eq_getElem?_getD,List.getElem?_eq_getElem h];rfl
theorem b2w (u v:Value) (a b:List Int) (w:World) (hu:IntR w u a) (hv:IntR w v b) :
 Calls Tryz.prog 313 #[u,v] w fun e w'=>e=.returned (.bool (decide (a=b)))∧Below w.heap.size w w':=by
 obtain⟨ad,cap,rfl,hla,_,hra⟩:=hu
 obtain⟨bd,dap,rfl,hlb,_,hrb⟩:=hv
 by_cases hlen:a.length=b.length
 ·rcases hra with rfl|⟨g,o,rfl,_,hca⟩
  ·have hb:b=[]:=List.eq_nil_of_length_eq_zero (by simpa using hlen.symm);subst hb;exact zq80
  ·rcases hrb with rfl|⟨g',o',rfl,_,hcb⟩
   ·have ha:a=[]:=List.eq_nil_of_length_eq_zero (by simpa using hlen);subst ha;exact zq80
   ·refine (Tryz.slices_Equal_int g o a.length cap g' o' b.length dap a b w lZ lZ oZ oZ (fun j hj=>by rw [c5v hj];exact hca j hj) (fun j hj=>by rw [c5v hj];exact hcb j hj)).mono ?_;rintro e w' ⟨rfl,q,rfl⟩;refine⟨a0b ?_,below_drewN bZ q⟩;rw [List.take_length,List.take_length]
    by_cases h:a=b
    ·subst h;simp
    ·rw [decide_eq_false h,beq_eq_false_iff_ne.2 h]
 ·refine (Tryz.slices_Equal_int_lens _ _ _ _ _ _ w hlen).mono ?_;rintro e w' ⟨rfl,rfl⟩;exact⟨a0b (decide_eq_false fun e=>hlen (by rw [e])).symm,Below.refl _ _⟩
theorem l6At (dv ov:Value) (l:P.Dic) (o:List Int) (w:World) (hu:EntR w dv l) (ho:IntR w ov o) :
 Calls Tryz.prog 294 #[.agg #[dv],ov] w fun e w'=>e=.returned (.int .i64 (P.place o l))∧Below w.heap.size w w':=by
 have HU:=qh hu;have HO:=qh ho
 have hb0:=(Below.refl w.heap.size w).alloc lZ (.cells #[dv] 26)
 have HB0:=qh hb0;clear hb0
 have HC0:=qh (show (w.alloc (.cells #[dv] 26)).cell? ⟨w.heap.size,0,none⟩=some dv by go_simp)
 obtain⟨ad,cap,rfl,hl,_⟩:=hu
 obtain⟨od,oc,rfl,hol,_⟩:=ho
 go_enter Tryz.func294,Tryz.ntmps294
 go_wp2_with fail
 go_loopw [5] (fun i wr=>∃j:Nat,j≤l.length∧i=.int .i64 j∧(∀(k:Nat) (h:k<j) (h':k<l.length),(l[k]'h').1≠o)∧wr.cell? ⟨w.heap.size,0,none⟩=some (.slice ad l.length cap)∧w.heap.size<wr.heap.size∧Below w.heap.size w wr) (fun i _=>l.length-(intOf i).toNat)
 case atStart=>exact⟨0,Nat.zero_le _,rfl,(fun k h=>absurd h (Nat.not_lt_zero _)),HC0.o,by simp,HB0.o⟩
 case round=>
  obtain⟨j,hj,rfl,hn,b0,hz,hb⟩:=hrel;have HN:=qh hn;have HB:=qh hb;clear hn HC0 HB0
  by_cases hlt:j<l.length
  ·obtain⟨g,p,hga,hgl,x,c0,_,hx⟩:=(HU.o.below hb).at j hlt;have HX:=qh hx;have HO2:=qh (HO.o.below hb);have HP:=qh (show l[j].1=o→P.place o l=j from fun h=>P.a8s j hlt h fun k hk=>HN.o k hk oZ)
   have HQ:=qh (show l[j].1≠o→∀(k:Nat) (h:k<j+1) (h':k<l.length),(l[k]'h').1≠o from fun h k hk hk'=>by
    by_cases e:k=j
    ·subst e;exact h
    ·exact HN.o k oZ hk')
   obtain⟨xd,xc,rfl,_,_⟩:=hx;subst hga;generalize l[j].1=eo at *;clear hb;have i1:(j:Int)<(l.length:Int):=by omega
   go_wp2_with fail
   refine (l1Same _ _ eo o _ HX.o HO2.o).mono ?_;rintro e w1 ⟨rfl,hb⟩;have b1:=(hb.cell (p:=⟨w.heap.size,0,none⟩) hz).trans b0;have hz1:=Nat.lt_of_lt_of_le hz hb.size;have HB1:=qh (HB.o.trans (hb.mono (Nat.le_of_lt hz)));clear hb b0
   by_cases heo:eo=o
   ·exact zq82
   ·have HQQ:=qh (HQ.o heo);rw [decide_eq_false heo];clear heo;go_wp2
    go_roundw
    case rel=>exact⟨j+1,by omega,by go_num,HQQ.o,b1,hz1,HB1.o⟩
    case measure=>simp [intOf];omega
  ·exact zq62
theorem c5h (x:Value) (eo o:List Int) (t:Str) (C:Nat) (ov:Value) (w:World) (hx:IntR w x eo) (hc:w.cell? ⟨C,0,none⟩=some ov) (ho:IntR w ov o) :
 Calls Tryz.prog 336 #[.agg #[x,.string (S t)],.pointer (some ⟨C,0,none⟩)] w fun e w'=>e=.returned (.bool (decide (eo=o)))∧Below w.heap.size w w':=by
 have hb0:=(Below.refl w.heap.size w).alloc lZ (.cells #[x,.string (S t)] 119)
 have HX:=qh (hx.below hb0);have HO:=qh (ho.below hb0)
 have hc':=(hb0.cell (p:=⟨C,0,none⟩) (World.block_lt_of_cell? w _ hc)).trans hc
 have HB0:=qh hb0
 obtain⟨xd,xc,rfl,_,_⟩:=hx
 obtain⟨od,oc,rfl,_,_⟩:=ho
 clear hb0 hc
 go_enter Tryz.func336,Tryz.ntmps336
 go_wp2_with fail
 refine (b2w _ _ eo o _ HX.o HO.o).mono ?_
 rintro e w1 ⟨rfl,hb⟩
 have HB1:=qh (HB0.o.trans (hb.mono sZ))
 clear hb
 go_wp2
 go_ret
 exact⟨rfl,HB1.o⟩
theorem d0y (dv ov:Value) (l:P.Dic) (o:List Int) (C:Nat) (w:World) (hu:EntR w dv l) (hc:w.cell? ⟨C,0,none⟩=some ov) (ho:IntR w ov o) :
 Calls Tryz.prog 335 #[dv,.func (Fn.func 336) #[] #[.pointer (some ⟨C,0,none⟩)]] w fun e w'=>e=.returned (.int .i64 (P.place o l))∧Below w.heap.size w w':=by
 have HU:=qh hu;have HO:=qh ho
 have HC:=qh hc
 have HCL:=qh (World.block_lt_of_cell? w _ hc)
 obtain⟨ad,cap,rfl,hl,_⟩:=hu
 clear ho hc
 go_enter Tryz.func335,Tryz.ntmps335
 go_wp2
 go_loopw [5,8] (fun _ i wr=>∃j:Nat,j≤l.length∧i=.int .i64 j∧(∀(k:Nat) (h:k<j) (h':k<l.length),(l[k]'h').1≠o)∧Below w.heap.size w wr) (fun _ i _=>l.length-(intOf i).toNat)
 case atStart=>exact⟨0,Nat.zero_le _,rfl,(fun k h=>absurd h (Nat.not_lt_zero _)),Below.refl _ _⟩
 case round=>
  obtain⟨j,hj,rfl,hn,hb⟩:=hrel;have HN:=qh hn;have HB:=qh hb;clear hn
  by_cases hlt:j<l.length
  ·obtain⟨g,p,hga,hgl,x,c0,c1,hx⟩:=(HU.o.below hb).at j hlt;have HX:=qh hx;have HO2:=qh (HO.o.below hb);have HC2:=qh ((hb.cell (p:=⟨C,0,none⟩) HCL.o).trans HC.o);have HP:=qh (show l[j].1=o→P.place o l=j from fun h=>P.a8s j hlt h fun k hk=>HN.o k hk oZ)
   have HQ:=qh (show l[j].1≠o→∀(k:Nat) (h:k<j+1) (h':k<l.length),(l[k]'h').1≠o from fun h k hk hk'=>by
    by_cases e:k=j
    ·subst e;exact h
    ·exact HN.o k oZ hk')
   have hbz:=hb.size;obtain⟨xd,xc,rfl,_,_⟩:=hx;subst hga;generalize l[j]=en at *;obtain⟨eo,et⟩:=en;simp only at HX HP HQ c1;clear hb;have i1:(j:Int)<(l.length:Int):=by omega
   go_wp2_with fail
   refine (c5h _ eo o et C ov _ HX.o HC2.o HO2.o).mono ?_;rintro e w1 ⟨rfl,hb⟩;have HB1:=qh (HB.o.trans (hb.mono hbz));clear hb
   by_cases heo:eo=o
   ·exact zq82
   ·have HQQ:=qh (HQ.o heo);rw [decide_eq_false heo];clear heo;go_wp2
    go_roundw
    case rel=>exact⟨j+1,by omega,by go_num,HQQ.o,HB1.o⟩
    case measure=>simp [intOf];omega
  ·exact zq62
theorem c7v (dv ov:Value) (l:P.Dic) (o:List Int) (w:World) (hu:EntR w dv l) (ho:IntR w ov o) :
 Calls Tryz.prog 289 #[.agg #[dv],ov] w fun e w'=>e=.returned (.int .i64 (P.place o l))∧Below w.heap.size w w':=by
 have hb0:=((Below.refl w.heap.size w).alloc lZ (.cells #[dv] 26)).alloc sZ (.cells #[ov] 33)
 have HU:=qh (hu.below hb0);have HO:=qh (ho.below hb0)
 have HB0:=qh hb0;clear hb0
 obtain⟨ad,cap,rfl,hl,_⟩:=hu
 obtain⟨od,oc,rfl,hol,_⟩:=ho
 go_enter Tryz.func289,Tryz.ntmps289
 go_wp2_with fail
 refine (d0y _ (.slice od o.length oc) l o _ _ HU.o (by go_simp) HO.o).mono ?_
 rintro e w1 ⟨rfl,hb⟩
 have HB1:=qh (HB0.o.trans (hb.mono (by simp;omega)))
 clear hb
 go_wp2
 go_ret
 exact⟨rfl,HB1.o⟩
end
section
namespace P
theorem del_up {o:List Int} {l:Dic} (h:dic l=true):Up (del o l):=by
 unfold dic at h;simp only [Bool.and_eq_true]at h;exact b0t (c3l h.2.2)
theorem b2r {l:Dic} (h:dic l=true):l.Pairwise lt:=by
 unfold dic at h;simp only [Bool.and_eq_true]at h;exact (a1o l).1 h.2.2
def a6j (o:List Int) (l:Dic):Bool:=dic l&&decide (0≤place o l)
theorem b2o (o:List Int) (l:Dic):(del o l).length≤l.length:=List.length_filter_le _ _
theorem a9w {o:List Int} {l:Dic} {e:Ent} (h:e∈del o l):e∈l:=(a8i.1 h).1
end P
open Go Go.RowKit
set_option maxHeartbeats 8000000
set_option maxRecDepth 100000
theorem setCells_size (b:Nat):∀(vs:List Value) (o:Nat) (w:World),(w.setCells b o vs).heap.size=w.heap.size
 |[],_,_=>rfl
 |v::vs,o,w=>by
  show ((w.setCell ⟨b,o,none⟩ v).setCells b (o+1) vs).heap.size=_
  rw [setCells_size b vs (o+1) _];simp [World.setCell]
theorem a7u (b:Nat) {k:Nat} (hk:k≠b):∀(vs:List Value) (o:Nat) (w:World),(w.setCells b o vs).heap[k]?=w.heap[k]?
 |[],_,_=>rfl
 |v::vs,o,w=>by
  show ((w.setCell ⟨b,o,none⟩ v).setCells b (o+1) vs).heap[k]?=_
  rw [a7u b hk vs (o+1) _,Below.heap_setCell _ _ _ _ hk]
theorem b1r {l:P.Dic} (h:Small l) (o:List Int):Small (P.del o l):=
 ⟨Nat.le_trans (P.b2o o l) h.len,fun e he=>h.outs e (P.a9w he),fun e he=>h.texts e (P.a9w he)⟩
section
variable {α:Type} {E:ElT α} {wd:Nat}
theorem getElem_erase (l:List α) (i j:Nat) (hj:j<(l.eraseIdx i).length) (hi:i<l.length):(l.eraseIdx i)[j]=if h:j<i then l[j]'(by omega) else l[j+1]'(by rw [List.length_eraseIdx,if_pos hi]at hj;omega):=by
 rw [List.getElem_eraseIdx]
theorem RowC.del (hE:ElOk E) {v:World} {F:Blk} {g o:Nat} {G:Nat→Blk} {C:Nat→List Value} {l:List α} (h:RowC wd E v F g o G C l) (i:Nat) (hi:i<l.length) :
 RowC wd E (v.setCells g (o+i*wd) (flat (fun k=>C (i+1+k)) (l.length-(i+1)))) F g o (fun j=>if j<i then G j else G (j+1)) (fun j=>if j<i then C j else C (j+1)) (l.eraseIdx i):=by
 have hlen:(l.eraseIdx i).length=l.length-1:=by rw [List.length_eraseIdx,if_pos hi]
 have hw:∀k,k<l.length-(i+1)→(C (i+1+k)).length=wd:=fun k hk=>h.wid _ oZ
 have hfl:(flat (fun k=>C (i+1+k)) (l.length-(i+1))).length=(l.length-(i+1))*wd:=b6i hw
 have hsz:(v.setCells g (o+i*wd) (flat (fun k=>C (i+1+k)) (l.length-(i+1)))).heap.size=v.heap.size:=setCells_size g _ _ _
 have hin:∀q,q<(flat (fun k=>C (i+1+k)) (l.length-(i+1))).length→(v.cell? ⟨g,o+i*wd+q,none⟩).isSome=true:=by
  intro q hq;rw [hfl]at hq
  have hwd:0<wd:=by
   rcases Nat.eq_zero_or_pos wd with h0|h0
   ·rw [h0]at hq;omega
   ·exact h0
  have h1:q / wd<l.length-(i+1):=(Nat.div_lt_iff_lt_mul hwd).2 hq;have hc:=h.cel (i+q / wd) oZ (q % wd) (by rw [h.wid _ oZ];exact Nat.mod_lt _ hwd)
  have e:o+(i+q / wd)*wd+q % wd=o+i*wd+q:=by
   have:=Nat.div_add_mod q wd;rw [Nat.add_mul,Nat.mul_comm (q / wd) wd];omega
  rw [e]at hc;rw [hc.1];rfl
 have hblk:∀b,b<v.heap.size→b≠g→(v.setCells g (o+i*wd) (flat (fun k=>C (i+1+k)) (l.length-(i+1)))).heap[b]?=v.heap[b]?:=fun b _ hne=>a7u g hne _ _ _
 refine⟨h.own,fun b hb=>by rw [hsz];exact h.lt b hb,fun j hj=>?_,fun j hj=>?_,fun j hj=>?_,fun j hj=>?_,fun j k hjk hk=>?_⟩
 ·rw [hlen]at hj
  by_cases hji:j<i
  ·simp only [hji,if_true];intro k hk;have hwj:=h.wid j oZ;have hlt:=Nat.mul_le_mul_right wd (show j+1≤i by omega);rw [Nat.add_mul]at hlt;refine⟨?_,by rw [World.frozen?_setCells];exact (h.cel j oZ k hk).2⟩;rw [World.cell?_setCells_out g _ _ _ _ (fun _ _=>.inl (by show o+j*wd+k<o+i*wd;omega))];exact (h.cel j oZ k hk).1
  ·simp only [hji,if_false];intro k hk;have hwj:=h.wid (j+1) oZ
   have e:o+j*wd+k=o+i*wd+((j-i)*wd+k):=by
    have:j*wd=i*wd+(j-i)*wd:=by rw [←Nat.add_mul];congr 1;omega
    omega
   have hget:=b5q (wd:=wd) (C:=fun k=>C (i+1+k)) (n:=l.length-(i+1)) hw (j-i) k oZ (by show k<(C (i+1+(j-i))).length;rw [show i+1+(j-i)=j+1 by omega];exact hk);obtain⟨hq,hv⟩:=List.getElem?_eq_some_iff.1 hget;rw [e];refine⟨?_,?_⟩
   ·rw [World.cell?_setCells_in g _ _ _ hin _ hq,hv];simp only [show i+1+(j-i)=j+1 by omega]
   ·rw [World.frozen?_setCells,←e];have:=h.cel j oZ k (by rw [h.wid j oZ,←hwj];exact hk);exact this.2
 ·rw [hlen]at hj
  show (if j<i then C j else C (j+1)).length=wd
  split
  ·exact h.wid j oZ
  ·exact h.wid (j+1) oZ
 ·have hj':=hj;rw [hlen]at hj;rw [getElem_erase l i j hj' hi]
  show E _ (if j<i then G j else G (j+1)) (if j<i then C j else C (j+1)) _
  by_cases hji:j<i
  ·simp only [hji,if_true,dif_pos];exact hE.keep (h.el j oZ) ⟨by rw [hsz];exact Nat.le_refl _,fun b hb=>hblk b (h.lt _ (h.sub j oZ b hb).1) (h.sub j oZ b hb).2⟩
  ·simp only [hji,if_false,dif_neg,not_false_eq_true];exact hE.keep (h.el (j+1) oZ) ⟨by rw [hsz];exact Nat.le_refl _,fun b hb=>hblk b (h.lt _ (h.sub (j+1) oZ b hb).1) (h.sub (j+1) oZ b hb).2⟩
 ·rw [hlen]at hj
  show ∀b,(if j<i then G j else G (j+1)) b→_
  split
  ·exact h.sub j oZ
  ·exact h.sub (j+1) oZ
 ·rw [hlen]at hk
  show ∀b,(if j<i then G j else G (j+1)) b→(if k<i then G k else G (k+1)) b→False
  by_cases h1:j<i
  ·rw [if_pos h1]
   by_cases h2:k<i
   ·rw [if_pos h2];exact h.apart j k hjk oZ
   ·rw [if_neg h2];exact h.apart j (k+1) oZ oZ
  ·rw [if_neg h1,if_neg oZ];exact h.apart (j+1) (k+1) oZ oZ
end
end
section
open Go Go.RowKit
set_option maxHeartbeats 8000000
set_option maxRecDepth 100000
def d4h (l:P.Dic) (o:List Int) (w:World) (e:Ending) (w':World):Prop:=
 ∃u,e=.returned (.tuple #[.agg #[u],.bool (P.a6j o l)])∧Ents w' (Bet w.heap.size w'.heap.size) u (P.kept (P.a6j o l) (P.del o l))∧Below w.heap.size w w'
end
section
open Go Go.RowKit
set_option maxHeartbeats 8000000
set_option maxRecDepth 100000
theorem d2b (x:Value) (eo o:List Int) (t:Str) (C:Nat) (ov:Value) (w:World) (hx:IntR w x eo) (hc:w.cell? ⟨C,0,none⟩=some ov) (ho:IntR w ov o) :
 Calls Tryz.prog 312 #[.agg #[x,.string (S t)],.pointer (some ⟨C,0,none⟩)] w fun e w'=>e=.returned (.bool (!decide (eo=o)))∧Below w.heap.size w w':=by
 have hb0:=(Below.refl w.heap.size w).alloc lZ (.cells #[x,.string (S t)] 119)
 have HX:=qh (hx.below hb0);have HO:=qh (ho.below hb0)
 have hc':=(hb0.cell (p:=⟨C,0,none⟩) (World.block_lt_of_cell? w _ hc)).trans hc
 have HB0:=qh hb0
 obtain⟨xd,xc,rfl,_,_⟩:=hx
 obtain⟨od,oc,rfl,_,_⟩:=ho
 clear hb0 hc
 go_enter Tryz.func312,Tryz.ntmps312
 go_wp2_with fail
 refine (b2w _ _ eo o _ HX.o HO.o).mono ?_
 rintro e w1 ⟨rfl,hb⟩
 have HB1:=qh (HB0.o.trans (hb.mono sZ))
 clear hb
 cases hok:decide (eo=o)
 ·exact zq33
 ·exact zq33
def refE (w:World):ElT P.Ent:=fun _ _ cs e=>∃x,cs=[x,.string (S e.2)]∧IntR w x e.1
theorem b0f (w:World):ElOk (refE w):=⟨fun h _=>h,fun h _ _=>h⟩
theorem c1x {w v:World} {F:Blk} {u:Value} {l:P.Dic} (h:RowO 2 (refE w) v F u l) (hb:Below w.heap.size w v):EntR v u l:=by
 obtain⟨ad,cap,h1,h2,hn,h3⟩:=h;refine⟨ad,cap,h1,by omega,hn.1,h3.imp id ?_⟩;rintro⟨g,o,G,C,h4,h5⟩;refine⟨g,o,h4,h5.lt _ h5.own,fun j hj=>?_⟩;obtain⟨x,he,hx⟩:=h5.el j hj;have hc:=(h5.cel j hj 0 (by rw [he];simp)).1;have hd:=(h5.cel j hj 1 (by rw [he];simp)).1;simp only [he,List.getElem_cons_zero,List.getElem_cons_succ,Nat.add_zero]at hc hd;exact⟨x,hc,hd,hx.below hb⟩
theorem P.c2r (o:List Int) (l:P.Dic) (e:P.Ent):P.del o (l++[e])=if e.1=o then P.del o l else P.del o l++[e]:=by
 unfold P.del;rw [List.filter_append]
 by_cases h:e.1=o
 ·rw [if_pos h,List.filter_cons_of_neg (by simp [h])];simp
 ·rw [if_neg h,List.filter_cons_of_pos (by simp [h])];simp
theorem c6k (u ov:Value) (l:P.Dic) (o:List Int) (C:Nat) (w:World) (hu:EntR w u l) (hl:l.length≤2^20) (hc:w.cell? ⟨C,0,none⟩=some ov) (ho:IntR w ov o) :
 Calls Tryz.prog 311 #[u,.func (Fn.func 312) #[] #[.pointer (some ⟨C,0,none⟩)]] w
  fun e w'=>(∃u',e=.returned u'∧EntR w' u' (P.del o l))∧Below w.heap.size w w':=by
 obtain⟨i0,hi,hz0,hz1,hz2⟩:=info_parts a4n
 have HU:=qh hu;have HO:=qh ho
 have HC:=qh hc
 have HCL:=qh (World.block_lt_of_cell? w _ hc)
 have hB0:Below w.heap.size w (w.alloc (.cells #[] 119)):=(Below.refl w.heap.size w).alloc lZ _
 have HB0:=qh hB0;clear hB0
 have HA0:=qh (show Acc 119 2 (refE w) w.heap.size (w.alloc (.cells #[] 119)) (.slice (some ⟨w.heap.size,0,none⟩) 0 0) [] [] from
  Acc.nil (by have h:=World.ownsRow_lit (base:=w.heap.size) (e:=119) (size:=2) w #[] 0 lZ (Nat.zero_le _) sZ;simpa using h) sZ)
 obtain⟨ad,cap,rfl,_,_⟩:=hu
 clear hc ho
 go_enter Tryz.func311,Tryz.ntmps311
 go_wp2_with fail
 go_loopw [5,11] (fun s i wr=>∃(j:Nat) (xs:List Value),j≤l.length∧i=.int .i64 j∧Acc 119 2 (refE w) w.heap.size wr s (P.del o (l.take j)) xs∧Below w.heap.size w wr) (fun _ i _=>l.length-(intOf i).toNat)
 case atStart=>exact⟨0,[],Nat.zero_le _,rfl,HA0.o,HB0.o⟩
 case round=>
  obtain⟨j,xs,hj,rfl,hacc,hb⟩:=hrel;clear HA0 HB0;have HBZ:=qh hb.size;have HA:=qh hacc;have HB:=qh hb;have hdl:(P.del o (l.take j)).length≤j:=Nat.le_trans (P.b2o _ _) (by rw [List.length_take];omega);obtain⟨uad,ucap,rfl⟩:=hacc.form;clear hacc
  by_cases hlt:j<l.length
  ·obtain⟨g,p,hga,hgs,x,c0,c1,hx⟩:=HU.o.at j hlt;have HXW:=qh hx;have c0':=(hb.cell (p:=⟨g,_,none⟩) hgs).trans c0;have c1':=(hb.cell (p:=⟨g,_,none⟩) hgs).trans c1;have HEN:=qh (show P.del o (l.take (j+1))=if l[j].1=o then P.del o (l.take j) else P.del o (l.take j)++[l[j]] by rw [a0h l j hlt,P.c2r]);have hba:=(Below.refl wr.heap.size wr).alloc lZ (.cells #[x,.string (S l[j].2)] 119);have HBA:=qh hba;have HX:=qh ((hx.below hb).below hba);have HO2:=qh ((HO.o.below hb).below hba);have HC2:=qh ((hba.cell (p:=⟨C,0,none⟩) (Nat.lt_of_lt_of_le HCL.o hb.size)).trans ((hb.cell (p:=⟨C,0,none⟩) HCL.o).trans HC.o));obtain⟨xd,xc,rfl,_,_⟩:=hx;subst hga;generalize l[j]=en at *;obtain⟨eo,et⟩:=en;simp only at HX HXW HBA HEN c1' c1 hba HC2 HO2;generalize P.del o (l.take j)=dl at *;have i1:(j:Int)<(l.length:Int):=by omega
   clear hb hba c0 c1
   go_wp2_with fail
   refine (d2b _ eo o et C ov _ HX.o HC2.o HO2.o).mono ?_;exact zq3
  ·have HT:=qh (show l.take j=l from List.take_of_length_le oZ);clear hb;go_wp2;go_ret;refine⟨⟨.slice uad (P.del o (l.take j)).length ucap,rfl,?_⟩,HB.o⟩;have h:=HA.o;rw [HT.o]at h⊢;exact c1x (h.row (by have:=P.b2o o l;omega)) HB.o
def EBox (W:Nat) (dv ov:Value) (v:World):Prop:=
 v.cell? ⟨W,0,none⟩=some dv∧v.cell? ⟨W+1,0,none⟩=some ov∧v.cell? ⟨W+2,0,none⟩=some (.slice none 0 0)∧v.frozen? ⟨W+2,0,none⟩=false∧W+2<v.heap.size
theorem EBox.below {W:Nat} {dv ov:Value} {v v':World} (h:EBox W dv ov v) (hb:Below v.heap.size v v'):EBox W dv ov v':=by
 obtain⟨a,b,c,d,e⟩:=h;exact⟨(hb.cell (p:=⟨W,0,none⟩) (by show W<_;omega)).trans a,(hb.cell (p:=⟨W+1,0,none⟩) (by show W+1<_;omega)).trans b,(hb.cell (p:=⟨W+2,0,none⟩) e).trans c,(hb.frozen (p:=⟨W+2,0,none⟩) e).trans d,Nat.lt_of_lt_of_le e hb.size⟩
theorem c0x (dv ov:Value) (l:P.Dic) (o:List Int) (w:World) (hu:EntR w dv l) (ho:IntR w ov o) (hs:Small l) (hE:Env w) :
 Calls Tryz.prog 270 #[.agg #[dv],ov] w (d4h l o w):=by
 have hb0:Below w.heap.size w (((w.alloc (.cells #[dv] 26)).alloc (.cells #[ov] 33)).alloc (.cells #[.slice none 0 0] 26)):=(((Below.refl w.heap.size w).alloc lZ _).alloc sZ _).alloc (by simp;omega) _
 have HU:=qh (hu.below hb0);have HO:=qh (ho.below hb0);have HE:=qh (hE.below hb0 hE.size)
 have HB0:=qh hb0;clear hb0 hE
 have HN:=qh (show EBox w.heap.size dv ov (((w.alloc (.cells #[dv] 26)).alloc (.cells #[ov] 33)).alloc (.cells #[.slice none 0 0] 26)) by refine⟨?_,?_,?_,?_,?_⟩<;>go_simp)
 have HSM:=qh hs;clear hs
 obtain⟨ad,cap,rfl,_,_⟩:=hu
 obtain⟨od,oc,rfl,_,_⟩:=ho
 go_enter Tryz.func270,Tryz.ntmps270
 go_wp2_with fail
 refine (a0v _ l _ HU.o HSM.o.texts HE.o).mono ?_
 rintro e w1 ⟨rfl,hb⟩
 have HU1:=qh (HU.o.below hb);have HO1:=qh (HO.o.below hb)
 have HN1:=qh (HN.o.below hb)
 have HB1:=qh (HB0.o.trans (hb.mono (by simp;omega)))
 clear hb HU HB0 HN HO HE
 cases hd:P.dic l
 ·have HD:=qh (show P.a6j o l=false by unfold P.a6j;rw [hd];rfl);clear hd;obtain⟨_,_,b0,f0,_⟩:=HN1.o;go_wp2;refine bodyPost_ret (v:=.tuple #[.agg #[.slice none 0 0],.bool false]) (by simp [results,Tryz.results270,go_sem,b0]) rfl ⟨_,by rw [HD.o],?_,?_⟩
  ·rw [HD.o];exact RowO.nil _ _
  ·exact HB1.o.setCell (by simp;omega) _
 ·have HDC:=qh hd;obtain⟨a0,a1,_⟩:=HN1.o
  go_wp2_with fail
  refine (c7v _ _ l o _ HU1.o HO1.o).mono ?_;rintro e w2 ⟨rfl,hb⟩;have HU2:=qh (HU1.o.below hb);have HO2:=qh (HO1.o.below hb);have HN2:=qh (HN1.o.below hb);have HB2:=bt HB1 hb;clear hb HU1 HB1 HN1 HO1 a0 a1;have hplo:=P.a7l o l;have hplt:=P.b5j (o:=o) (l:=l);have hl20:=HSM.o.len
  by_cases hneg:P.place o l<0
  ·have HD:=qh (show P.a6j o l=false by unfold P.a6j;rw [decide_eq_false oZ,Bool.and_false]);clear hd;obtain⟨_,_,b0,f0,_⟩:=HN2.o;go_wp2;refine bodyPost_ret (v:=.tuple #[.agg #[.slice none 0 0],.bool false]) (by simp [results,Tryz.results270,go_sem,b0]) rfl ⟨_,by rw [HD.o],?_,?_⟩
   ·rw [HD.o];exact RowO.nil _ _
   ·exact HB2.o.setCell (by simp;omega) _
  ·have HD:=qh (show P.a6j o l=true by unfold P.a6j;rw [hd,decide_eq_true oZ];rfl);clear hd;obtain⟨a0,a1,_⟩:=HN2.o;have HA1:=qh a1
   go_wp2_with fail
   refine (c6k _ (.slice od o.length oc) l o _ _ HU2.o hl20 HA1.o HO2.o).mono ?_;rintro e w3 ⟨⟨u3,rfl,hu3⟩,hb⟩;have HN3:=qh (HN2.o.below hb);have HB3:=bt HB2 hb;have HU3:=qh hu3;obtain⟨u3d,u3c,rfl,_,_⟩:=hu3;clear hb HN2 HU2 HB2 a0 a1 HA1 HO2 hplo hplt hneg
   go_wp2_with fail
   refine (a6w _ (P.del o l) _ HU3.o (P.del_up HDC.o) (b1r HSM.o o).len (b1r HSM.o o).outs).mono ?_;rintro e w4 ⟨u4,rfl,hI,hb⟩;have HN4:=qh (HN3.o.below hb);have hN3:w.heap.size+2<w3.heap.size:=HN3.o.2.2.2.2;have HB4:=bt HB3 hb;have HI:=qh hI;obtain⟨u4d,u4c,rfl,_,_⟩:=hI;clear hb HN3 HB3;obtain⟨_,_,b0,f0,_⟩:=HN4.o;go_wp2;refine bodyPost_ret (v:=.tuple #[.agg #[.slice u4d (P.del o l).length u4c],.bool true]) (by simp [results,Tryz.results270,go_sem,b0]) rfl ⟨_,by rw [HD.o],?_,?_⟩
   ·rw [HD.o]
    show Ents _ _ _ (P.del o l)
    refine (HI.o.a0c (X:=fun b=>b=w.heap.size+2) a0e ((Chg.refl (fun b=>b=w.heap.size+2) w4).setCell (p:=⟨w.heap.size+2,0,none⟩) rfl _) ?_).wide ?_ ?_
    ·intro b hb e;have:=hb.1;omega
    ·intro b hb;have h1:=hb.1;have h2:=hb.2;exact⟨by omega,by simp [World.setCell];omega⟩
    ·intro b hb;exact hb.2
   ·exact HB4.o.setCell (by simp;omega) _
end
section
abbrev P.Lay:=P.Dic×Bool
abbrev P.Lays:=List P.Lay
open Go Go.RowKit
set_option maxHeartbeats 8000000
set_option maxRecDepth 100000
def LayR (v:World) (u:Value) (l:P.Lays):Prop:=
 ∃(ad:Option Addr) (cap:Nat),u=.slice ad l.length cap∧(l.length≤2^45∧l.length≤cap)∧(ad=none→cap=0)∧(l=[]∨∃g o,ad=some ⟨g,o,none⟩∧g<v.heap.size∧∀(j:Nat) (h:j<l.length),∃x,v.cell? ⟨g,o+j*2,none⟩=some x∧v.cell? ⟨g,o+j*2+1,none⟩=some (.bool (l[j]'h).2)∧EntR v x (l[j]'h).1)
theorem LayR.below {v v':World} {u:Value} {l:P.Lays} (h:LayR v u l) (hb:Below v.heap.size v v'):LayR v' u l:=by
 exact zq30
theorem LayR.at {v:World} {ad:Option Addr} {n cap:Nat} {l:P.Lays} (h:LayR v (.slice ad n cap) l) (j:Nat) (hj:j<l.length):∃g o,ad=some ⟨g,o,none⟩∧g<v.heap.size∧∃x,v.cell? ⟨g,o+j*2,none⟩=some x∧v.cell? ⟨g,o+j*2+1,none⟩=some (.bool (l[j]'hj).2)∧EntR v x (l[j]'hj).1:=by
 obtain⟨ad',cap',he,_,_,h3⟩:=h;exact zq20
def layE:ElT P.Lay:=fun v F cs e=>∃x,cs=[x,.bool e.2]∧RowO 2 entE v F x e.1
abbrev Lays:=RowO 2 layE
theorem Lays.read {v:World} {F:Blk} {u:Value} {l:P.Lays} (h:Lays v F u l):LayR v u l:=by
 obtain⟨ad,cap,h1,h2,hn,h3⟩:=h;refine⟨ad,cap,h1,by omega,hn.1,h3.imp id ?_⟩;rintro⟨g,o,G,C,h4,h5⟩;refine⟨g,o,h4,h5.lt _ h5.own,fun j hj=>?_⟩;obtain⟨x,he,hx⟩:=h5.el j hj;have hc:=(h5.cel j hj 0 (by rw [he];simp)).1;have hd:=(h5.cel j hj 1 (by rw [he];simp)).1;simp only [he,List.getElem_cons_zero,List.getElem_cons_succ,Nat.add_zero]at hc hd;exact⟨x,hc,hd,Ents.read hx⟩
end
section
namespace P
end P
open Go Go.RowKit
set_option maxHeartbeats 8000000
set_option maxRecDepth 100000
end
section
open Go Go.RowKit
set_option maxHeartbeats 8000000
set_option maxRecDepth 100000
end
section
def P.d3d (l:P.Lays):Bool:=l.all fun e=>P.dic e.1
def P.stack (l:P.Lays):Bool:=decide ((l.length:Int)≤4)&&P.d3d l
open Go Go.RowKit
set_option maxHeartbeats 8000000
set_option maxRecDepth 100000
end
namespace P
end P
end Go.Proofs.YtggfdnopminemaaGreatDoor
