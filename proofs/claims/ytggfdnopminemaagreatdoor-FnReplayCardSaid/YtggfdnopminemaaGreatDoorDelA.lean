/- Walks: an outline. -/
import Derived.Test.YtggfdnopminemaaGreatDoorSortH
import Derived.Test.YtggfdnopminemaaGreatDoorLawD
set_option linter.all false
namespace Go.Proofs.YtggfdnopminemaaGreatDoor
open Go.Proofs.Tryz
variable {F:Blk} {W j:Nat} {l:P.Dic} {dv:Go.Value} {v v':Go.World}
section
namespace P
def place (o:List Int):Dic->Int
 |[] => -1
 |e::l=>if e.1=o then 0 else if place o l<0 then -1 else place o l+1
theorem a8a (o:List Int):∀l:Dic,-1<=place o l
 |[]=>Int.le_refl _
 |e::l=>by
  have:=a8a o l;unfold place
  split
  .decide
  .split<;>omega
theorem b4h {o:List Int}:∀{l:Dic},(∀(k:Nat) (h:k<l.length),(l[k]'h).1≠o)->place o l = -1
 |[],_=>rfl
 |e::l,h=>by
  unfold place;rw [if_neg (show ¬e.1=o from h 0 (Nat.succ_pos _)),if_pos];rw [b4h λk hk=>by have:=h (k+1) (by simpa using hk);simpa using this]
  decide
theorem b2w {o:List Int}:∀{l:Dic} (j:Nat) (hj:j<l.length),(l[j]'hj).1=o->(∀(k:Nat) (h:k<j),(l[k]'(by omega)).1≠o)->place o l=j
 |e::l,0,_,h,_=>by
  unfold place;rw [if_pos (by simpa using h)];rfl
 |e::l,j+1,hj,h,hn=>by
  unfold place;have h0:=hn 0 oZ;rw [if_neg (by simpa using h0),b2w j (by simpa using hj) (by simpa using h) (λk hk=>by have:=hn (k+1) oZ;simpa using this),if_neg oZ];omega
theorem d7o {o:List Int} {l:Dic} {i:Nat} (h:place o l=i):∃hi:i<l.length,(l[i]'hi).1=o:=by
 by_cases hx:∃k,∃hk:k<l.length,(l[k]'hk).1=o
 .obtain⟨k,hk,hko⟩:=hx
  have key:∀n,∀k,k<=n->∀hk:k<l.length,(l[k]'hk).1=o->∃j,∃hj:j<l.length,(l[j]'hj).1=o/\place o l=j:=by
   intro n
   induction n with
   |zero=>
    intro k hkn hk hko;refine⟨k,hk,hko,b2w k hk hko λm hm=>by omega⟩
   |succ n ih=>
    intro k hkn hk hko
    by_cases hlt:∃m,∃hm:m<k,(l[m]'(by omega)).1=o
    .obtain⟨m,hm,hmo⟩:=hlt;exact ih m oZ oZ hmo
    .exact⟨k,hk,hko,b2w k hk hko λm hm hmo=>hlt ⟨m,hm,hmo⟩⟩
  obtain⟨j,hj,hjo,hp⟩:=key k k lZ hk hko;have:i=j:=by omega
  subst this;exact⟨hj,hjo⟩
 .have:=b4h (o:=o) (l:=l) λk hk hko=>hx ⟨k,hk,hko⟩;omega
theorem b5v {o:List Int} {l:Dic}:place o l<l.length:=by
 by_cases h:place o l<0
 .omega
 .obtain⟨i,hi⟩:=Int.eq_ofNat_of_zero_le (show 0<=place o l by omega);obtain⟨hl,_⟩:=d7o hi;omega
end P
open Go Go.RowKit
set_option maxHeartbeats 8000000
set_option maxRecDepth 100000
theorem c4p {a b:List Int} (ha:j<a.length) (hb:j<b.length) (h:a.take j=b.take j) (he:a[j]=b[j]):a.take (j+1)=b.take (j+1):=by
 rw [a0g a j ha,a0g b j hb,h,he]
theorem l1Same (u v:Value) (a b:List Int) (w:World) (hu:IntR w u a) (hv:IntR w v b) :
 Cz 342 #[u,v] w λe w'=>e=.returned (.bool (decide (a=b)))/\Bl w w':=by
 have HU:=qh hu;have HV:=qh hv
 obtain⟨ad,cap,rfl,hla,_⟩:=hu
 obtain⟨bd,dap,rfl,hlb,_⟩:=hv
 by_cases hlen:a.length=b.length
 .have hl1:((a.length:Int) != (b.length:Int))=false:=by simp;omega
  have hl2:((a.length:Int)==(b.length:Int))=true:=by simp;omega
  have HLE:=qh hlen;clear hlen
  go_enter func342,ntmps342
  go_wp2
  go_loopw [5] (λi wr=>∃j:Nat,j<=a.length/\i=.int .i64 j/\a.take j=b.take j/\Bl w wr) (λi _=>a.length-(intOf i).toNat)
  case atStart=>exact⟨0,Nat.zero_le _,rfl,by simp,Below.refl _ _⟩
  case round=>
   obtain⟨j,hj,rfl,ht,hb⟩:=hrel;have HB:=qh hb;have HT:=qh ht;clear ht
   by_cases hlt:j<a.length
   .have hlb2:j<b.length:=by have:=HLE.o;omega
    obtain⟨g,o,hga,hgl,c0⟩:=(HU.o.below hb).at j hlt;obtain⟨g',o',hgb,hgl',d0⟩:=(HV.o.below hb).at j hlb2;have HST:=qh (λh=>c4p hlt hlb2 HT.o h);have HNE:Hq (a[j]≠b[j]->decide (a=b)=false):=⟨λh=>decide_eq_false λe=>h (by subst e;rfl)⟩;subst hga hgb;generalize a[j]=x at *;generalize b[j]=y at *;clear hb;have i1:(j:Int)<(a.length:Int):=by omega
    by_cases hxy:x=y
    .subst hxy;have HS2:=qh (HST.o rfl);clear HST HNE
     go_wp2_with fail
     go_quiet (fail)
     go_wp2
     go_roundw
     case rel=>exact⟨j+1,by omega,by go_num,HS2.o,below_drewN HB.o _⟩
     case measure=>exact zq
    .have HF:=qh (HNE.o hxy);have e1:(x==y)=false:=beq_eq_false_iff_ne.2 hxy;have e2:(x != y)=true:=by simp [bne,e1]
     clear hxy HST HNE
     go_wp2_with fail
     go_quiet (fail)
     go_wp2;go_ret;exact⟨a0a HF.o.symm,below_drewN HB.o _⟩
   .have HF:=qh (show decide (a=b)=true from decide_eq_true (by
     have h:=HT.o
     have h2:=HLE.o
     rwa [List.take_of_length_le oZ,List.take_of_length_le oZ]at h))
    clear hb;go_wp2;go_ret;exact⟨a0a HF.o.symm,HB.o⟩
 .have hl1:((a.length:Int) != (b.length:Int))=true:=by simp;omega
  have hl2:((a.length:Int)==(b.length:Int))=false:=by simp;omega
  have HF:Hq (decide (a=b)=false):=⟨decide_eq_false λe=>hlen (by rw [e])⟩;clear hlen
  go_enter func342,ntmps342
  go_wp2;go_ret;exact⟨a0a HF.o.symm,Below.refl _ _⟩
theorem d6z {l:List Int} (h:j<l.length):l.getD j 0=l[j]:=by
 rw [List.getD_eq_getElem?_getD,List.getElem?_eq_getElem h];rfl
theorem b6d (u v:Value) (a b:List Int) (w:World) (hu:IntR w u a) (hv:IntR w v b) :
 Cz 313 #[u,v] w λe w'=>e=.returned (.bool (decide (a=b)))/\Bl w w':=by
 obtain⟨ad,cap,rfl,hla,_,hra⟩:=hu
 obtain⟨bd,dap,rfl,hlb,_,hrb⟩:=hv
 by_cases hlen:a.length=b.length
 .rcases hra with rfl|⟨g,o,rfl,_,hca⟩
  .have hb:b=[]:=List.eq_nil_of_length_eq_zero (by simpa using hlen.symm);subst hb;exact zq175
  .rcases hrb with rfl|⟨g',o',rfl,_,hcb⟩
   .have ha:a=[]:=List.eq_nil_of_length_eq_zero (by simpa using hlen);subst ha;exact zq175
   .refine (Tryz.slices_Equal_int g o a.length cap g' o' b.length dap a b w lZ lZ oZ oZ (λj hj=>by rw [d6z hj];exact hca j hj) (λj hj=>by rw [d6z hj];exact hcb j hj)).mono ?_;rintro e w' ⟨rfl,q,rfl⟩;refine⟨a0a ?_,below_drewN bZ q⟩;rw [List.take_length,List.take_length]
    by_cases h:a=b
    .subst h;simp
    .rw [decide_eq_false h,beq_eq_false_iff_ne.2 h]
 .refine (Tryz.slices_Equal_int_lens _ _ _ _ _ _ w hlen).mono ?_;rintro e w' ⟨rfl,rfl⟩;exact⟨a0a (decide_eq_false λe=>hlen (by rw [e])).symm,Below.refl _ _⟩
theorem l6At (dv ov:Value) (l:P.Dic) (o:List Int) (w:World) (hu:EntR w dv l) (ho:IntR w ov o) :
 Cz 294 #[.agg #[dv],ov] w λe w'=>e=.returned (.int .i64 (P.place o l))/\Bl w w':=by
 have HU:=qh hu;have HO:=qh ho;refine zm53 ?_;intro hb0;have HB0:=qh hb0;clear hb0;have HC0:=qh (show (w.alloc (.cells #[dv] 26)).cell? ⟨w.heap.size,0,none⟩=some dv by go_simp);obtain⟨ad,cap,rfl,hl,_⟩:=hu;obtain⟨od,oc,rfl,hol,_⟩:=ho;go_enter func294,ntmps294;go_wp2_with fail;go_loopw [5] (λi wr=>∃j:Nat,j<=l.length/\i=.int .i64 j/\(∀(k:Nat) (h:k<j) (h':k<l.length),(l[k]'h').1≠o)/\wr.cell? ⟨w.heap.size,0,none⟩=some (.slice ad l.length cap)/\w.heap.size<wr.heap.size/\Bl w wr) (λi _=>l.length-(intOf i).toNat)
 case atStart=>exact⟨0,Nat.zero_le _,rfl,(λk h=>absurd h (Nat.not_lt_zero _)),HC0.o,by simp,HB0.o⟩
 case round=>
  obtain⟨j,hj,rfl,hn,b0,hz,hb⟩:=hrel;have HN:=qh hn;have HB:=qh hb;clear hn HC0 HB0
  by_cases hlt:j<l.length
  .obtain⟨g,p,hga,hgl,x,c0,_,hx⟩:=(HU.o.below hb).at j hlt;have HX:=qh hx;have HO2:=qh (HO.o.below hb);have HP:Hq (l[j].1=o->P.place o l=j):=⟨λh=>P.b2w j hlt h λk hk=>HN.o k hk oZ⟩
   have HQ:=qh (show l[j].1≠o->∀(k:Nat) (h:k<j+1) (h':k<l.length),(l[k]'h').1≠o from λh k hk hk'=>by
    by_cases e:k=j
    .subst e;exact h
    .exact HN.o k oZ hk')
   obtain⟨xd,xc,rfl,_,_⟩:=hx;subst hga;generalize l[j].1=eo at *;clear hb;have i1:(j:Int)<(l.length:Int):=by omega
   go_wp2_with fail
   refine (l1Same _ _ eo o _ HX.o HO2.o).mono ?_;rintro e w1 ⟨rfl,hb⟩;have b1:=(hb.cell (p:=⟨w.heap.size,0,none⟩) hz).trans b0;have hz1:=Nat.lt_of_lt_of_le hz hb.size;have HB1:=qh (HB.o.trans (hb.mono (Nat.le_of_lt hz)));clear hb b0
   by_cases heo:eo=o
   .exact zq178
   .have HQQ:=qh (HQ.o heo);rw [decide_eq_false heo];clear heo;go_wp2
    go_roundw
    case rel=>exact⟨j+1,by omega,by go_num,HQQ.o,b1,hz1,HB1.o⟩
    case measure=>exact zq
  .exact zq150
theorem d6d (x:Value) (eo o:List Int) (t:Str) (C:Nat) (ov:Value) (w:World) (hx:IntR w x eo) (hc:w.cell? ⟨C,0,none⟩=some ov) (ho:IntR w ov o) :
 Cz 336 #[.agg #[x,.string (S t)],.pointer (some ⟨C,0,none⟩)] w λe w'=>e=.returned (.bool (decide (eo=o)))/\Bl w w':=by
 refine zm24 ?_;intro hb0 HX HO hc' HB0;obtain⟨xd,xc,rfl,_,_⟩:=hx;obtain⟨od,oc,rfl,_,_⟩:=ho;clear hb0 hc;go_enter func336,ntmps336;go_wp2_with fail;refine (b6d _ _ eo o _ HX.o HO.o).mono ?_;rintro e w1 ⟨rfl,hb⟩;have HB1:=qh (HB0.o.trans (hb.mono sZ));clear hb;go_wp2;go_ret;exact⟨rfl,HB1.o⟩
theorem d8m (dv ov:Value) (l:P.Dic) (o:List Int) (C:Nat) (w:World) (hu:EntR w dv l) (hc:w.cell? ⟨C,0,none⟩=some ov) (ho:IntR w ov o) :
 Cz 335 #[dv,.func (Fn.func 336) #[] #[.pointer (some ⟨C,0,none⟩)]] w λe w'=>e=.returned (.int .i64 (P.place o l))/\Bl w w':=by
 have HU:=qh hu;have HO:=qh ho
 have HC:=qh hc
 have HCL:=qh (World.block_lt_of_cell? w _ hc)
 obtain⟨ad,cap,rfl,hl,_⟩:=hu
 clear ho hc
 go_enter func335,ntmps335
 go_wp2
 go_loopw [5,8] (λ_ i wr=>∃j:Nat,j<=l.length/\i=.int .i64 j/\(∀(k:Nat) (h:k<j) (h':k<l.length),(l[k]'h').1≠o)/\Bl w wr) (λ_ i _=>l.length-(intOf i).toNat)
 case atStart=>exact⟨0,Nat.zero_le _,rfl,(λk h=>absurd h (Nat.not_lt_zero _)),Below.refl _ _⟩
 case round=>
  obtain⟨j,hj,rfl,hn,hb⟩:=hrel;have HN:=qh hn;have HB:=qh hb;clear hn
  by_cases hlt:j<l.length
  .obtain⟨g,p,hga,hgl,x,c0,c1,hx⟩:=(HU.o.below hb).at j hlt;have HX:=qh hx;have HO2:=qh (HO.o.below hb);have HC2:=qh ((hb.cell (p:=⟨C,0,none⟩) HCL.o).trans HC.o);have HP:Hq (l[j].1=o->P.place o l=j):=⟨λh=>P.b2w j hlt h λk hk=>HN.o k hk oZ⟩
   have HQ:=qh (show l[j].1≠o->∀(k:Nat) (h:k<j+1) (h':k<l.length),(l[k]'h').1≠o from λh k hk hk'=>by
    by_cases e:k=j
    .subst e;exact h
    .exact HN.o k oZ hk')
   have hbz:=hb.size;obtain⟨xd,xc,rfl,_,_⟩:=hx;subst hga;generalize l[j]=en at *;obtain⟨eo,et⟩:=en;simp only at HX HP HQ c1;clear hb;have i1:(j:Int)<(l.length:Int):=by omega
   go_wp2_with fail
   refine (d6d _ eo o et C ov _ HX.o HC2.o HO2.o).mono ?_;rintro e w1 ⟨rfl,hb⟩;have HB1:=qh (HB.o.trans (hb.mono hbz));clear hb
   by_cases heo:eo=o
   .exact zq178
   .have HQQ:=qh (HQ.o heo);rw [decide_eq_false heo];clear heo;go_wp2
    go_roundw
    case rel=>exact⟨j+1,by omega,by go_num,HQQ.o,HB1.o⟩
    case measure=>exact zq
  .exact zq150
theorem d7i (dv ov:Value) (l:P.Dic) (o:List Int) (w:World) (hu:EntR w dv l) (ho:IntR w ov o) :
 Cz 289 #[.agg #[dv],ov] w λe w'=>e=.returned (.int .i64 (P.place o l))/\Bl w w':=by
 have hb0:=((Below.refl w.heap.size w).alloc lZ (.cells #[dv] 26)).alloc sZ (.cells #[ov] 33);refine zm93 ?_;intro HU HO HB0;clear hb0;obtain⟨ad,cap,rfl,hl,_⟩:=hu;obtain⟨od,oc,rfl,hol,_⟩:=ho;go_enter func289,ntmps289;go_wp2_with fail;refine (d8m _ (.slice od o.length oc) l o _ _ HU.o (by go_simp) HO.o).mono ?_;rintro e w1 ⟨rfl,hb⟩;refine zm59 ?_;intro HB1;clear hb;go_wp2;go_ret;exact⟨rfl,HB1.o⟩
end
section
namespace P
theorem c2x {o:List Int}:∀{l:Dic},l.Pairwise lt->∀i:Nat,place o l=i->l.eraseIdx i=del o l
 |[],_,i,h=>by simp [place]at h
 |e::l,hp,i,h=>by
  rw [List.pairwise_cons]at hp;unfold place at h
  by_cases he:e.1=o
  .rw [if_pos he]at h;have hi:i=0:=by omega
   subst hi;unfold del;rw [List.filter_cons_of_neg (by simp [he]),List.filter_eq_self.2]
   .rfl
   .intro x hx;have:=hp.1 x hx
    have hne:x.1≠o:=λhxo=>by
     unfold lt at this;rw [he,hxo,a3x]at this;exact absurd this dZ
    simp [hne]
  .rw [if_neg he]at h
   split at h
   .omega
   .obtain⟨k,rfl⟩:∃k:Nat,i=k+1:=⟨i-1,by omega⟩;unfold del;rw [List.filter_cons_of_pos (by simp [he]),List.eraseIdx_cons_succ,c2x (o:=o) hp.2 k oZ];rfl
theorem del_up {o:List Int} {l:Dic} (h:dic l=true):Up (del o l):=by
 unfold dic at h;simp only [Bool.and_eq_true]at h;exact b4w (d1v h.2.2)
theorem b1p {l:Dic} (h:dic l=true):l.Pairwise lt:=by
 unfold dic at h;simp only [Bool.and_eq_true]at h;exact (a2q l).1 h.2.2
def a4f (o:List Int) (l:Dic):Bool:=dic l&&decide (0<=place o l)
theorem b6m (o:List Int) (l:Dic):(del o l).length<=l.length:=List.length_filter_le _ _
theorem b3v {o:List Int} {l:Dic} {e:Ent} (h:e∈del o l):e∈l:=(b0z.1 h).1
end P
open Go Go.RowKit
set_option maxHeartbeats 8000000
set_option maxRecDepth 100000
theorem setCells_size (b:Nat):∀(vs:List Value) (o:Nat) (w:World),(w.setCells b o vs).heap.size=w.heap.size
 |[],_,_=>rfl
 |v::vs,o,w=>by
  show ((w.setCell ⟨b,o,none⟩ v).setCells b (o+1) vs).heap.size=_
  rw [setCells_size b vs (o+1) _];simp [World.setCell]
theorem b0m (b:Nat) {k:Nat} (hk:k≠b):∀(vs:List Value) (o:Nat) (w:World),(w.setCells b o vs).heap[k]?=w.heap[k]?
 |[],_,_=>rfl
 |v::vs,o,w=>by
  show ((w.setCell ⟨b,o,none⟩ v).setCells b (o+1) vs).heap[k]?=_
  rw [b0m b hk vs (o+1) _,Below.heap_setCell _ _ _ _ hk]
theorem b4v (b:Nat):∀(vs:List Value) (o:Nat) (w:World),Chg (λk=>k=b) w (w.setCells b o vs)
 |[],_,_=>Chg.refl _ _
 |v::vs,o,w=>((Chg.refl (λk=>k=b) w).setCell (p:=⟨b,o,none⟩) rfl v).trans (b4v b vs (o+1) _)
theorem b2b (h:Small l) (o:List Int):Small (P.del o l):=
 ⟨Nat.le_trans (P.b6m o l) h.len,λe he=>h.outs e (P.b3v he),λe he=>h.texts e (P.b3v he)⟩
section
variable {α:Type} {E:ElT α} {wd:Nat}
theorem getElem_erase (l:List α) (i j:Nat) (hj:j<(l.eraseIdx i).length) (hi:i<l.length):(l.eraseIdx i)[j]=if h:j<i then l[j]'(by omega) else l[j+1]'(by rw [List.length_eraseIdx,if_pos hi]at hj;omega):=by
 rw [List.getElem_eraseIdx]
theorem RowC.del (hE:ElOk E) {g o:Nat} {G:Nat->Blk} {C:Nat->List Value} {l:List α} (h:RowC wd E v F g o G C l) (i:Nat) (hi:i<l.length) :
 RowC wd E (v.setCells g (o+i*wd) (flat (λk=>C (i+1+k)) (l.length-(i+1)))) F g o (λj=>if j<i then G j else G (j+1)) (λj=>if j<i then C j else C (j+1)) (l.eraseIdx i):=by
 have hlen:(l.eraseIdx i).length=l.length-1:=by rw [List.length_eraseIdx,if_pos hi]
 have hw:∀k,k<l.length-(i+1)->(C (i+1+k)).length=wd:=λk hk=>h.wid _ oZ
 have hfl:(flat (λk=>C (i+1+k)) (l.length-(i+1))).length=(l.length-(i+1))*wd:=b5p hw
 have hsz:(v.setCells g (o+i*wd) (flat (λk=>C (i+1+k)) (l.length-(i+1)))).heap.size=v.heap.size:=setCells_size g _ _ _
 have hin:∀q,q<(flat (λk=>C (i+1+k)) (l.length-(i+1))).length->(v.cell? ⟨g,o+i*wd+q,none⟩).isSome=true:=by
  intro q hq;rw [hfl]at hq
  have hwd:0<wd:=by
   rcases Nat.eq_zero_or_pos wd with h0|h0
   .rw [h0]at hq;omega
   .exact h0
  have h1:q / wd<l.length-(i+1):=(Nat.div_lt_iff_lt_mul hwd).2 hq;have hc:=h.cel (i+q / wd) oZ (q % wd) (by rw [h.wid _ oZ];exact Nat.mod_lt _ hwd)
  have e:o+(i+q / wd)*wd+q % wd=o+i*wd+q:=by
   have:=Nat.div_add_mod q wd;rw [Nat.add_mul,Nat.mul_comm (q / wd) wd];omega
  rw [e]at hc;rw [hc.1];rfl
 have hblk:∀b,b<v.heap.size->b≠g->(v.setCells g (o+i*wd) (flat (λk=>C (i+1+k)) (l.length-(i+1)))).heap[b]?=v.heap[b]?:=λb _ hne=>b0m g hne _ _ _
 refine⟨h.own,λb hb=>by rw [hsz];exact h.lt b hb,λj hj=>?_,λj hj=>?_,λj hj=>?_,λj hj=>?_,λj k hjk hk=>?_⟩
 .rw [hlen]at hj
  by_cases hji:j<i
  .simp only [hji,if_true];intro k hk;have hwj:=h.wid j oZ;have hlt:=Nat.mul_le_mul_right wd (show j+1<=i by omega);rw [Nat.add_mul]at hlt;refine⟨?_,by rw [World.frozen?_setCells];exact (h.cel j oZ k hk).2⟩;rw [World.cell?_setCells_out g _ _ _ _ (λ_ _=>.inl (by show o+j*wd+k<o+i*wd;omega))];exact (h.cel j oZ k hk).1
  .simp only [hji,if_false];intro k hk;have hwj:=h.wid (j+1) oZ
   have e:o+j*wd+k=o+i*wd+((j-i)*wd+k):=by
    have:j*wd=i*wd+(j-i)*wd:=by rw [<-Nat.add_mul];congr 1;omega
    omega
   have hget:=b5m (wd:=wd) (C:=λk=>C (i+1+k)) (n:=l.length-(i+1)) hw (j-i) k oZ (by show k<(C (i+1+(j-i))).length;rw [show i+1+(j-i)=j+1 by omega];exact hk);obtain⟨hq,hv⟩:=List.getElem?_eq_some_iff.1 hget;rw [e];refine⟨?_,?_⟩
   .rw [World.cell?_setCells_in g _ _ _ hin _ hq,hv];simp only [show i+1+(j-i)=j+1 by omega]
   .rw [World.frozen?_setCells,<-e];have:=h.cel j oZ k (by rw [h.wid j oZ,<-hwj];exact hk);exact this.2
 .rw [hlen]at hj
  show (if j<i then C j else C (j+1)).length=wd
  split
  .exact h.wid j oZ
  .exact h.wid (j+1) oZ
 .have hj':=hj;rw [hlen]at hj;rw [getElem_erase l i j hj' hi]
  show E _ (if j<i then G j else G (j+1)) (if j<i then C j else C (j+1)) _
  by_cases hji:j<i
  .simp only [hji,if_true,dif_pos];exact hE.keep (h.el j oZ) ⟨by rw [hsz];exact Nat.le_refl _,λb hb=>hblk b (h.lt _ (h.sub j oZ b hb).1) (h.sub j oZ b hb).2⟩
  .simp only [hji,if_false,dif_neg,not_false_eq_true];exact hE.keep (h.el (j+1) oZ) ⟨by rw [hsz];exact Nat.le_refl _,λb hb=>hblk b (h.lt _ (h.sub (j+1) oZ b hb).1) (h.sub (j+1) oZ b hb).2⟩
 .rw [hlen]at hj
  show ∀b,(if j<i then G j else G (j+1)) b->_
  split
  .exact h.sub j oZ
  .exact h.sub (j+1) oZ
 .rw [hlen]at hk
  show ∀b,(if j<i then G j else G (j+1)) b->(if k<i then G k else G (k+1)) b->False
  by_cases h1:j<i
  .rw [if_pos h1]
   by_cases h2:k<i
   .rw [if_pos h2];exact h.apart j k hjk oZ
   .rw [if_neg h2];exact h.apart j (k+1) oZ oZ
  .rw [if_neg h1,if_neg oZ];exact h.apart (j+1) (k+1) oZ oZ
end
end
section
open Go Go.RowKit
set_option maxHeartbeats 8000000
set_option maxRecDepth 100000
def d6t (l:P.Dic) (o:List Int) (w:World) (e:Ending) (w':World):Prop:=
 ∃u,e=.returned (.tuple #[.agg #[u],.bool (P.a4f o l)])/\Ents w' (Bet w.heap.size w'.heap.size) u (P.kept (P.a4f o l) (P.del o l))/\Bl w w'
def DBox (W:Nat) (dv:Value) (v:World):Prop:=
 v.cell? ⟨W,0,none⟩=some dv/\v.cell? ⟨W+1,0,none⟩=some (.slice none 0 0)/\v.frozen? ⟨W+1,0,none⟩=false/\W+1<v.heap.size
theorem DBox.a0b {X:Blk} (h:DBox W dv v) (hc:Chg X v v') (h0:¬X W) (h1:¬X (W+1)):DBox W dv v':=by
 obtain⟨a,b,c,d⟩:=h;exact⟨(hc.cell (p:=⟨W,0,none⟩) (by show W<_;omega) h0).trans a,(hc.cell (p:=⟨W+1,0,none⟩) d h1).trans b,(hc.frozen (p:=⟨W+1,0,none⟩) d h1).trans c,Nat.lt_of_lt_of_le d hc.size⟩
theorem DBox.below (h:DBox W dv v) (hb:Bl v v'):DBox W dv v':=h.a0b (Below.chg hb λ_=>False) (λh=>h) (λh=>h)
theorem DBox.new (dv:Value) (v:World) (t:TypeId):DBox v.heap.size dv ((v.alloc (.cells #[dv] t)).alloc (.cells #[.slice none 0 0] 26)):=by
 refine⟨?_,?_,?_,?_⟩<;>go_simp
theorem c9k {C:Nat->List Value} {y:Value}:∀(n:Nat),y∈flat C n->∃j,j<n/\y∈C j
 |0,h=>by cases h
 |n+1,h=>by
  rcases List.mem_append.1 h with h|h
  .obtain⟨j,hj,hy⟩:=c9k n h;exact⟨j,by omega,hy⟩
  .exact⟨n,by omega,h⟩
theorem add_at (g o j:Nat):(⟨g,o,none⟩:Addr).add j=⟨g,o+j,none⟩:=by unfold Addr.add;split<;>simp_all
theorem c7d (dv ov:Value) (l:P.Dic) (o:List Int) (w:World) (hu:EntR w dv l) (ho:IntR w ov o) (hs:Small l) :
 Cz 293 #[.agg #[dv],ov] w (d6t l o w):=by
 obtain⟨i0,hi,hz0,hz1,hz2⟩:=info_parts a5i;have hb0:Bl w ((w.alloc (.cells #[dv] 26)).alloc (.cells #[.slice none 0 0] 26)):=((Below.refl w.heap.size w).alloc lZ _).alloc sZ _;refine zm93 ?_;intro HU HO HB0;clear hb0;have HN:=qh (DBox.new dv w 26);have HSM:=qh hs;clear hs;obtain⟨ad,cap,rfl,_,_⟩:=hu;obtain⟨od,oc,rfl,_,_⟩:=ho;go_enter func293,ntmps293;go_wp2_with fail;refine (b7x _ l _ HU.o HSM.o.texts).mono ?_;rintro e w1 ⟨rfl,hb⟩;have HU1:=qh (HU.o.below hb);have HO1:=qh (HO.o.below hb);have HN1:=qh (HN.o.below hb);refine zm59 ?_;intro HB1;clear hb HU HB0 HN HO
 cases hd:P.dic l
 .have HD:=qh (show P.a4f o l=false by unfold P.a4f;rw [hd];rfl);clear hd;obtain⟨_,b0,f0,_⟩:=HN1.o;go_wp2;refine bodyPost_ret (v:=.tuple #[.agg #[.slice none 0 0],.bool false]) (by simp [results,results293,go_sem,b0]) rfl ⟨_,by rw [HD.o],?_,?_⟩
  .rw [HD.o];exact RowO.nil _ _
  .exact HB1.o.setCell sZ _
 .have HDC:=qh hd;obtain⟨a0,_⟩:=HN1.o
  go_wp2_with fail
  refine (l6At _ _ l o _ HU1.o HO1.o).mono ?_;rintro e w2 ⟨rfl,hb⟩;have HU2:=qh (HU1.o.below hb);have HN2:=qh (HN1.o.below hb);have HB2:=bt HB1 hb;clear hb HU1 HB1 HN1 HO1 a0;have hplo:=P.a8a o l;have hplt:=P.b5v (o:=o) (l:=l);have hl20:=HSM.o.len
  by_cases hneg:P.place o l<0
  .have HD:=qh (show P.a4f o l=false by unfold P.a4f;rw [decide_eq_false oZ,Bool.and_false]);clear hd;obtain⟨_,b0,f0,_⟩:=HN2.o;go_wp2;refine bodyPost_ret (v:=.tuple #[.agg #[.slice none 0 0],.bool false]) (by simp [results,results293,go_sem,b0]) rfl ⟨_,by rw [HD.o],?_,?_⟩
   .rw [HD.o];exact RowO.nil _ _
   .exact HB2.o.setCell sZ _
  .obtain⟨i,hpi⟩:=Int.eq_ofNat_of_zero_le (show 0<=P.place o l by omega);have HD:=qh (show P.a4f o l=true by unfold P.a4f;rw [hd,decide_eq_true oZ];rfl);clear hd;have HER:=qh (P.c2x (P.b1p HDC.o) i hpi);have hil:i<l.length:=by omega
   rw [hpi];have hneg':¬((i:Int)<0):=by omega
   clear hpi hplo hplt hneg;have hW0:w.heap.size+1<w2.heap.size:=HN2.o.2.2.2;obtain⟨a0,_⟩:=HN2.o;go_wp2_with fail;refine (d8h _ l _ HU2.o HSM.o.len HSM.o.outs).mono ?_;rintro e w3 ⟨u,rfl,hI,hb⟩;have HN3:=qh (HN2.o.below hb);have HB3:=bt HB2 hb;have z3:w2.heap.size<=w3.heap.size:=hb.size;clear hb HN2 HU2 HB2 a0;obtain⟨ud,uc,rfl,_,⟨_,hcap⟩,hrow⟩:=hI;obtain⟨g,q,G,C,rfl,hr⟩:=hrow.resolve_left (by intro e;rw [e]at hil;exact absurd hil (Nat.not_lt_zero _));have hgw:g<w3.heap.size:=hr.lt _ hr.own;have hg2:w2.heap.size<=g:=hr.own.1;have hN2w:w.heap.size+1<w3.heap.size:=HN3.o.2.2.2;have hWW:w.heap.size+1<w2.heap.size:=hW0;have hba:=(Below.refl w3.heap.size w3).alloc lZ (.cells #[.slice (some ⟨g,q,none⟩) l.length uc] 26);have HR:=qh (hr.keep a0f (v':=(w3.alloc (.cells #[.slice (some ⟨g,q,none⟩) l.length uc] 26)).drew) ⟨by simp,λb hb=>(hba.drew).block b (hr.lt b hb)⟩);have HN4:=qh (HN3.o.below hba);have HB4:=bt HB3 hba;have HS:=qh (show (w3.alloc (.cells #[.slice (some ⟨g,q,none⟩) l.length uc] 26)).drew.cell? ⟨w3.heap.size,0,none⟩=some (.slice (some ⟨g,q,none⟩) l.length uc)/\(w3.alloc (.cells #[.slice (some ⟨g,q,none⟩) l.length uc] 26)).drew.frozen? ⟨w3.heap.size,0,none⟩=false by constructor<;>go_simp);clear hr hrow hba HN3 HB3;have hw1:IntKind.i64.wrap ((i:Int)+1)=(i:Int)+1:=IntWalk.i64_in _ oZ;have hc1:¬(l.length:Int)<(i:Int)+1:=by omega
   have hc2:¬(uc:Int)<(l.length:Int):=by omega
   have hc3:¬(uc:Int)<(i:Int):=by omega
   have hc4:¬l.length<i+1:=by omega
   have hc5:¬uc<i:=by omega
   have hc6:¬(i:Int)+1<0:=by omega
   go_upto_region 7 with fail;refine Left.region [11] (S:=λv=>v.cell? ⟨w3.heap.size,0,none⟩=some (.slice (some ⟨g,q,none⟩) l.length uc)/\v.frozen? ⟨w3.heap.size,0,none⟩=false) kZ HS.o (λhS0=>?_);refine zm84 ?_;refine lk7 3 hS0 ?_;refine lk7 4 hS0 ?_;refine lk7 5 hS0 ?_;refine lk7 6 hS0 ?_;refine lk7 7 hS0 ?_;refine lk7 8 hS0 ?_;refine lrd 9 λK hK=>?_;have hA:(if uc=i+1 then some (⟨g,q,none⟩:Addr) else some ⟨g,q+(i+1)*2,none⟩)=some (if uc=i+1 then⟨g,q,none⟩ else⟨g,q+(i+1)*2,none⟩):=by split<;>rfl
   have HA:=qh hA;clear hA;have HFL:=qh (b5p (wd:=2) (C:=λk=>C (i+1+k)) (n:=l.length-(i+1)) (λk hk=>HR.o.wid _ oZ));refine step_append_room rfl _ _ 24 rfl 119 i0 2 underlying24 hi hz1 g q i uc rfl (if uc=i+1 then⟨g,q,none⟩ else⟨g,q+(i+1)*2,none⟩) (l.length-(i+1)) (uc-(i+1)) (flat (λk=>C (i+1+k)) (l.length-(i+1))) (congrArg (λa=>Value.slice a (l.length-(i+1)) (uc-(i+1))) HA.o) HFL.o ?_ ?_ oZ ?_ ?_
   .intro j y hj;have hjl:j<(l.length-(i+1))*2:=by rw [<-HFL.o];exact (List.getElem?_eq_some_iff.1 hj).1
    have hne:¬uc=i+1:=by omega
    rw [if_neg hne,add_at];have hk:j / 2<l.length-(i+1):=by omega
    have hw:=HR.o.wid (i+1+j / 2) oZ;have h1:=b5m (wd:=2) (C:=λk=>C (i+1+k)) (n:=l.length-(i+1)) (λk hk=>HR.o.wid _ oZ) (j / 2) (j % 2) hk (by show j % 2<(C (i+1+j / 2)).length;omega);rw [show j / 2*2+j % 2=j by omega,hj]at h1;injection h1 with h1;subst h1;have h2:=HR.o.cel (i+1+j / 2) oZ (j % 2) oZ;rw [show q+(i+1+j / 2)*2+j % 2=q+(i+1)*2+j by omega]at h2;exact h2.1
   .intro y hy;obtain⟨j,hj,hy⟩:=c9k _ hy;obtain⟨x,hC,hx⟩:=HR.o.el (i+1+j) oZ;rw [hC]at hy;obtain⟨xd,xc,rfl,_⟩:=hx;exact zq38
   .intro j hj;rw [HFL.o]at hj;have hw:=HR.o.wid (i+j / 2) oZ;have h2:=HR.o.cel (i+j / 2) oZ (j % 2) oZ;rw [show q+(i+j / 2)*2+j % 2=q+i*2+j by omega]at h2;exact⟨by rw [h2.1];rfl,h2.2⟩
   have HCH:=qh (b4v g (flat (λk=>C (i+1+k)) (l.length-(i+1))) (q+i*2) (w3.alloc (.cells #[.slice (some ⟨g,q,none⟩) l.length uc] 26)).drew);have HR5:=qh (HR.o.del a0f i hil);have HZ5:=qh (setCells_size g (flat (λk=>C (i+1+k)) (l.length-(i+1))) (q+i*2) (w3.alloc (.cells #[.slice (some ⟨g,q,none⟩) l.length uc] 26)).drew);have hW2:w.heap.size+1<w2.heap.size:=hWW;have HN5:=qh ((HN4.o.below bZ.drew).a0b HCH.o oZ oZ);have HB5:=qh (Chg.a0n HB4.o.drew HCH.o HB4.o.size (λb h=>by subst h;omega));have hS5a:=(HCH.o.cell (p:=⟨w3.heap.size,0,none⟩) sZ (by show ¬w3.heap.size=g;omega)).trans hS0.1;have hS5b:=(HCH.o.frozen (p:=⟨w3.heap.size,0,none⟩) sZ (by show ¬w3.heap.size=g;omega)).trans hS0.2;clear HCH HR HFL HA HN4 HB4 HS;generalize (if uc=i+1 then some (⟨g,q,none⟩:Addr) else some ⟨g,q+(i+1)*2,none⟩)=ax at *;refine a1r hK dZ ⟨hS5a,hS5b⟩ (λhS1=>?_);clear hK K hS0 hS5a hS5b;generalize ((w3.alloc (.cells #[.slice (some ⟨g,q,none⟩) l.length uc] 26)).drew.setCells g (q+i*2) (flat (λk=>C (i+1+k)) (l.length-(i+1))))=v5 at *;have hz5:v5.heap.size=w3.heap.size+1:=by have:=HZ5.o;simpa using this
   have HZ:=qh hz5;clear hz5 HZ5;refine zm0 ?_;refine lk7 10 hS1 ?_;refine lrd 11 λK hK=>?_;obtain⟨k1,k2⟩:=hS1;go_simp;refine a2p hK dZ ?_;clear hK K;refine zm0 ?_;refine Left.done kZ ?_ _;obtain⟨_,b0,f0,_⟩:=HN5.o;have hne1:w.heap.size+1≠w3.heap.size:=by omega
   have r0:(v5.setCell ⟨w3.heap.size,0,none⟩ (.slice (some ⟨g,q,none⟩) (i+(l.length-(i+1))) uc)).cell? ⟨w.heap.size+1,0,none⟩=some (.slice none 0 0):=by
    refine zm32 ?_;exact b0
   have r1:(v5.setCell ⟨w3.heap.size,0,none⟩ (.slice (some ⟨g,q,none⟩) (i+(l.length-(i+1))) uc)).frozen? ⟨w.heap.size+1,0,none⟩=false:=by simpa using f0
   have r2:(v5.setCell ⟨w3.heap.size,0,none⟩ (.slice (some ⟨g,q,none⟩) (i+(l.length-(i+1))) uc)).cell? ⟨w3.heap.size,0,none⟩=some (.slice (some ⟨g,q,none⟩) (i+(l.length-(i+1))) uc):=World.cell?_setCell_same _ _ _ k1;have HC6:=qh ((Chg.refl (λb=>b=w3.heap.size) v5).setCell (p:=⟨w3.heap.size,0,none⟩) rfl (.slice (some ⟨g,q,none⟩) (i+(l.length-(i+1))) uc));clear k1 k2 b0 f0;generalize v5.setCell ⟨w3.heap.size,0,none⟩ (.slice (some ⟨g,q,none⟩) (i+(l.length-(i+1))) uc)=v6 at *;go_wp2;have hlen:(P.del o l).length=i+(l.length-(i+1)):=by rw [<-HER.o,List.length_eraseIdx,if_pos hil];omega
   have h5:Ents v5 (Bet w2.heap.size w3.heap.size) (.slice (some ⟨g,q,none⟩) (i+(l.length-(i+1))) uc) (P.del o l):=
    ⟨_,uc,by rw [hlen],by rw [hlen];omega,⟨(λh=>by cases h),by rw [hlen];omega⟩,.inr ⟨g,q,_,_,rfl,HER.o ▸ HR5.o⟩⟩
   have h6:=h5.a0b a0f HC6.o (λb hb e=>by have:=hb.2;omega);have hz6:w3.heap.size+1<=v6.heap.size:=by have:=HC6.o.size;have:=HZ.o;omega
   have HB6:=Chg.a0n HB5.o HC6.o HB5.o.size (λb h=>by subst h;omega);refine bodyPost_ret (v:=.tuple #[.agg #[.slice (some ⟨g,q,none⟩) (i+(l.length-(i+1))) uc],.bool true]) (by simp [results,results293,go_sem,r0]) rfl ⟨_,by rw [HD.o],?_,?_⟩
   .rw [HD.o]
    show Ents _ _ _ (P.del o l)
    refine (h6.a0b (X:=λb=>b=w.heap.size+1) a0f ((Chg.refl (λb=>b=w.heap.size+1) v6).setCell (p:=⟨w.heap.size+1,0,none⟩) rfl _) ?_).wide ?_ ?_
    .intro b hb e;have:=hb.1;omega
    .intro b hb;have h1:=hb.1;have h2:=hb.2;exact⟨by omega,by simp [World.setCell];omega⟩
    .intro b hb;exact hb.2
   .exact HB6.setCell sZ _
theorem d8e (x:Value) (eo o:List Int) (t:Str) (C:Nat) (ov:Value) (w:World) (hx:IntR w x eo) (hc:w.cell? ⟨C,0,none⟩=some ov) (ho:IntR w ov o) :
 Cz 312 #[.agg #[x,.string (S t)],.pointer (some ⟨C,0,none⟩)] w λe w'=>e=.returned (.bool (!decide (eo=o)))/\Bl w w':=by
 refine zm24 ?_;intro hb0 HX HO hc' HB0;obtain⟨xd,xc,rfl,_,_⟩:=hx;obtain⟨od,oc,rfl,_,_⟩:=ho;clear hb0 hc;go_enter func312,ntmps312;go_wp2_with fail;refine (b6d _ _ eo o _ HX.o HO.o).mono ?_;rintro e w1 ⟨rfl,hb⟩;have HB1:=qh (HB0.o.trans (hb.mono sZ));clear hb
 cases hok:decide (eo=o)
 .exact d9y
 .exact d9y
def refE (w:World):ElT P.Ent:=λ_ _ cs e=>∃x,cs=[x,.string (S e.2)]/\IntR w x e.1
theorem b4g (w:World):ElOk (refE w):=⟨λh _=>h,λh _ _=>h⟩
theorem c9c {w:World} {u:Value} (h:RowO 2 (refE w) v F u l) (hb:Bl w v):EntR v u l:=by
 obtain⟨ad,cap,h1,h2,hn,h3⟩:=h;refine⟨ad,cap,h1,by omega,hn.1,h3.imp id ?_⟩;rintro⟨g,o,G,C,h4,h5⟩;refine zm56 ?_;intro j hj x he hx hc hd;simp only [he,List.getElem_cons_zero,List.getElem_cons_succ,Nat.add_zero]at hc hd;exact⟨x,hc,hd,hx.below hb⟩
theorem P.c9i (o:List Int) (l:P.Dic) (e:P.Ent):P.del o (l++[e])=if e.1=o then P.del o l else P.del o l++[e]:=by
 unfold P.del;rw [List.filter_append]
 by_cases h:e.1=o
 .rw [if_pos h,List.filter_cons_of_neg (by simp [h])];simp
 .rw [if_neg h,List.filter_cons_of_pos (by simp [h])];simp
theorem d4q (u ov:Value) (l:P.Dic) (o:List Int) (C:Nat) (w:World) (hu:EntR w u l) (hl:l.length<=2^20) (hc:w.cell? ⟨C,0,none⟩=some ov) (ho:IntR w ov o) :
 Cz 311 #[u,.func (Fn.func 312) #[] #[.pointer (some ⟨C,0,none⟩)]] w
  λe w'=>(∃u',e=.returned u'/\EntR w' u' (P.del o l))/\Bl w w':=by
 obtain⟨i0,hi,hz0,hz1,hz2⟩:=info_parts a5i;refine zm91 ?_;intro HU HO HC HCL HB0
 have HA0:=qh (show Acc 119 2 (refE w) w.heap.size (w.alloc (.cells #[] 119)) (.slice (some ⟨w.heap.size,0,none⟩) 0 0) [] [] from
  Acc.nil (by have h:=World.ownsRow_lit (base:=w.heap.size) (e:=119) (size:=2) w #[] 0 lZ (Nat.zero_le _) sZ;simpa using h) sZ)
 obtain⟨ad,cap,rfl,_,_⟩:=hu
 clear hc ho
 go_enter func311,ntmps311
 go_wp2_with fail
 go_loopw [5,11] (λs i wr=>∃(j:Nat) (xs:List Value),j<=l.length/\i=.int .i64 j/\Acc 119 2 (refE w) w.heap.size wr s (P.del o (l.take j)) xs/\Bl w wr) (λ_ i _=>l.length-(intOf i).toNat)
 case atStart=>exact⟨0,[],Nat.zero_le _,rfl,HA0.o,HB0.o⟩
 case round=>
  obtain⟨j,xs,hj,rfl,hacc,hb⟩:=hrel;clear HA0 HB0;have HBZ:=qh hb.size;have HA:=qh hacc;have HB:=qh hb;have hdl:(P.del o (l.take j)).length<=j:=Nat.le_trans (P.b6m _ _) (by rw [List.length_take];omega);obtain⟨uad,ucap,rfl⟩:=hacc.form;clear hacc
  by_cases hlt:j<l.length
  .obtain⟨g,p,hga,hgs,x,c0,c1,hx⟩:=HU.o.at j hlt;refine zm16 ?_;intro HXW c0' c1' HEN hba HBA HX HO2 HC2;obtain⟨xd,xc,rfl,_,_⟩:=hx;subst hga;generalize l[j]=en at *;obtain⟨eo,et⟩:=en;simp only at HX HXW HBA HEN c1' c1 hba HC2 HO2;generalize P.del o (l.take j)=dl at *;have i1:(j:Int)<(l.length:Int):=by omega
   clear hb hba c0 c1;go_wp2_with fail;refine (d8e _ eo o et C ov _ HX.o HC2.o HO2.o).mono ?_;exact zq6
  .refine zm90 ?_;intro HT;clear hb;go_wp2;go_ret;refine⟨⟨.slice uad (P.del o (l.take j)).length ucap,rfl,?_⟩,HB.o⟩;have h:=HA.o;rw [HT.o]at h⊢;exact c9c (h.row (by have:=P.b6m o l;omega)) HB.o
def EBox (W:Nat) (dv ov:Value) (v:World):Prop:=
 v.cell? ⟨W,0,none⟩=some dv/\v.cell? ⟨W+1,0,none⟩=some ov/\v.cell? ⟨W+2,0,none⟩=some (.slice none 0 0)/\v.frozen? ⟨W+2,0,none⟩=false/\W+2<v.heap.size
theorem EBox.below {ov:Value} (h:EBox W dv ov v) (hb:Bl v v'):EBox W dv ov v':=by
 obtain⟨a,b,c,d,e⟩:=h;exact⟨(hb.cell (p:=⟨W,0,none⟩) (by show W<_;omega)).trans a,(hb.cell (p:=⟨W+1,0,none⟩) (by show W+1<_;omega)).trans b,(hb.cell (p:=⟨W+2,0,none⟩) e).trans c,(hb.frozen (p:=⟨W+2,0,none⟩) e).trans d,Nat.lt_of_lt_of_le e hb.size⟩
theorem c7r (dv ov:Value) (l:P.Dic) (o:List Int) (w:World) (hu:EntR w dv l) (ho:IntR w ov o) (hs:Small l) (hE:Env w) :
 Cz 270 #[.agg #[dv],ov] w (d6t l o w):=by
 have hb0:Bl w (((w.alloc (.cells #[dv] 26)).alloc (.cells #[ov] 33)).alloc (.cells #[.slice none 0 0] 26)):=(((Below.refl w.heap.size w).alloc lZ _).alloc sZ _).alloc (by simp;omega) _;have HU:=qh (hu.below hb0);have HO:=qh (ho.below hb0);have HE:=qh (hE.below hb0 hE.size);have HB0:=qh hb0;clear hb0 hE;have HN:=qh (show EBox w.heap.size dv ov (((w.alloc (.cells #[dv] 26)).alloc (.cells #[ov] 33)).alloc (.cells #[.slice none 0 0] 26)) by refine⟨?_,?_,?_,?_,?_⟩<;>go_simp);have HSM:=qh hs;clear hs;obtain⟨ad,cap,rfl,_,_⟩:=hu;obtain⟨od,oc,rfl,_,_⟩:=ho;go_enter func270,ntmps270;go_wp2_with fail;refine (a1e _ l _ HU.o HSM.o.texts HE.o).mono ?_;rintro e w1 ⟨rfl,hb⟩;have HU1:=qh (HU.o.below hb);have HO1:=qh (HO.o.below hb);have HN1:=qh (HN.o.below hb);refine zm59 ?_;intro HB1;clear hb HU HB0 HN HO HE
 cases hd:P.dic l
 .have HD:=qh (show P.a4f o l=false by unfold P.a4f;rw [hd];rfl);clear hd;obtain⟨_,_,b0,f0,_⟩:=HN1.o;go_wp2;refine bodyPost_ret (v:=.tuple #[.agg #[.slice none 0 0],.bool false]) (by simp [results,results270,go_sem,b0]) rfl ⟨_,by rw [HD.o],?_,?_⟩
  .rw [HD.o];exact RowO.nil _ _
  .exact HB1.o.setCell (by simp;omega) _
 .have HDC:=qh hd;obtain⟨a0,a1,_⟩:=HN1.o
  go_wp2_with fail
  refine (d7i _ _ l o _ HU1.o HO1.o).mono ?_;rintro e w2 ⟨rfl,hb⟩;have HU2:=qh (HU1.o.below hb);have HO2:=qh (HO1.o.below hb);have HN2:=qh (HN1.o.below hb);have HB2:=bt HB1 hb;clear hb HU1 HB1 HN1 HO1 a0 a1;have hplo:=P.a8a o l;have hplt:=P.b5v (o:=o) (l:=l);have hl20:=HSM.o.len
  by_cases hneg:P.place o l<0
  .have HD:=qh (show P.a4f o l=false by unfold P.a4f;rw [decide_eq_false oZ,Bool.and_false]);clear hd;obtain⟨_,_,b0,f0,_⟩:=HN2.o;go_wp2;refine bodyPost_ret (v:=.tuple #[.agg #[.slice none 0 0],.bool false]) (by simp [results,results270,go_sem,b0]) rfl ⟨_,by rw [HD.o],?_,?_⟩
   .rw [HD.o];exact RowO.nil _ _
   .exact HB2.o.setCell (by simp;omega) _
  .have HD:=qh (show P.a4f o l=true by unfold P.a4f;rw [hd,decide_eq_true oZ];rfl);clear hd;obtain⟨a0,a1,_⟩:=HN2.o;have HA1:=qh a1
   go_wp2_with fail
   refine (d4q _ (.slice od o.length oc) l o _ _ HU2.o hl20 HA1.o HO2.o).mono ?_;rintro e w3 ⟨⟨u3,rfl,hu3⟩,hb⟩;have HN3:=qh (HN2.o.below hb);have HB3:=bt HB2 hb;have HU3:=qh hu3;obtain⟨u3d,u3c,rfl,_,_⟩:=hu3;clear hb HN2 HU2 HB2 a0 a1 HA1 HO2 hplo hplt hneg
   go_wp2_with fail
   refine (a9e _ (P.del o l) _ HU3.o (P.del_up HDC.o) (b2b HSM.o o).len (b2b HSM.o o).outs).mono ?_;rintro e w4 ⟨u4,rfl,hI,hb⟩;have HN4:=qh (HN3.o.below hb);have hN3:w.heap.size+2<w3.heap.size:=HN3.o.2.2.2.2;have HB4:=bt HB3 hb;have HI:=qh hI;obtain⟨u4d,u4c,rfl,_,_⟩:=hI;clear hb HN3 HB3;obtain⟨_,_,b0,f0,_⟩:=HN4.o;go_wp2;refine bodyPost_ret (v:=.tuple #[.agg #[.slice u4d (P.del o l).length u4c],.bool true]) (by simp [results,results270,go_sem,b0]) rfl ⟨_,by rw [HD.o],?_,?_⟩
   .rw [HD.o]
    show Ents _ _ _ (P.del o l)
    refine (HI.o.a0b (X:=λb=>b=w.heap.size+2) a0f ((Chg.refl (λb=>b=w.heap.size+2) w4).setCell (p:=⟨w.heap.size+2,0,none⟩) rfl _) ?_).wide ?_ ?_
    .intro b hb e;have:=hb.1;omega
    .intro b hb;have h1:=hb.1;have h2:=hb.2;exact⟨by omega,by simp [World.setCell];omega⟩
    .intro b hb;exact hb.2
   .exact HB4.o.setCell (by simp;omega) _
end
end Go.Proofs.YtggfdnopminemaaGreatDoor
