/- A row that grows, of which one element was made ahead: its memory. Plain: the reference's insertion as its loop goes. -/
import Derived.Test.YtggfdnopminemaaGreatDoorZt
import Derived.Test.YtggfdnopminemaaGreatDoorLayB
import Derived.Test.YtggfdnopminemaaGreatDoorSortH
set_option linter.all false
namespace Go.Proofs.YtggfdnopminemaaGreatDoor
namespace P
def a1c (e:Ent) (s:Dic×Bool) (x:Ent):Dic×Bool:=
 ((if decide (0≤cmp x.1 e.1)&&!s.2 then s.1++[e] else s.1)++(if decide (cmp x.1 e.1=0) then [] else [x]),s.2||decide (0≤cmp x.1 e.1))
def a0y (e:Ent) (l:Dic):Dic×Bool:=l.foldl (a1c e) ([],false)
theorem b7n (e x:Ent) (l:Dic):a0y e (l++[x])=a1c e (a0y e l) x:=by
 unfold a0y;rw [List.foldl_append];rfl
theorem b8o (e:Ent):∀(l acc:Dic) (p:Bool),(if (l.foldl (a1c e) (acc,p)).2 then (l.foldl (a1c e) (acc,p)).1 else (l.foldl (a1c e) (acc,p)).1++[e])=acc++putF e p l
 |[],acc,p=>by cases p<;>simp [putF]
 |x::l,acc,p=>by
  rw [List.foldl_cons];rw [show a1c e (acc,p) x=((if decide (0≤cmp x.1 e.1)&&!p then acc++[e] else acc)++(if decide (cmp x.1 e.1=0) then [] else [x]),p||decide (0≤cmp x.1 e.1)) from rfl,b8o e l,putF]
  by_cases h1:(decide (0≤cmp x.1 e.1)&&!p)=true
  ·rw [if_pos h1,if_pos h1];simp
  ·rw [if_neg h1,if_neg h1];simp
theorem b4u (e:Ent) (l:Dic):(if (a0y e l).2 then (a0y e l).1 else (a0y e l).1++[e])=putF e false l:=by
 have:=b8o e l [] false;rw [List.nil_append]at this;exact this
theorem b2i (e:Ent) (l:Dic):(a0y e l).1.length≤l.length+(a0y e l).2.toNat:=by
 have key:∀(l acc:Dic) (p:Bool),(l.foldl (a1c e) (acc,p)).1.length+p.toNat≤acc.length+l.length+(l.foldl (a1c e) (acc,p)).2.toNat:=by
  intro l
  induction l with
  |nil=>intro acc p;simp
  |cons x l ih=>
   intro acc p;rw [List.foldl_cons]
   have h2:(a1c e (acc,p) x).1.length+p.toNat≤acc.length+1+(a1c e (acc,p) x).2.toNat:=by
    unfold a1c
    by_cases h0:0≤cmp x.1 e.1
    ·have h3:cmp x.1 e.1=0∨¬cmp x.1 e.1=0:=Decidable.em _
     cases p<;>rcases h3 with h3|h3<;>simp [h0,h3]
    ·have h3:¬cmp x.1 e.1=0:=by omega
     cases p<;>simp [h0,h3]
   generalize a1c e (acc,p) x=s at *;obtain⟨a',p'⟩:=s;have h:=ih a' p';simp only [List.length_cons]at h2⊢;omega
 have:=key l [] false
 simpa [a0y] using this
end P
open Go Go.RowKit
set_option maxHeartbeats 8000000
set_option maxRecDepth 100000
variable {α:Type} {E:ElT α} {wd:Nat}
def AccR (e:TypeId) (wd:Nat) (E:ElT α) (B:Nat) (R:Blk) (v:World) (u:Value) (l:List α) (xs:List Value):Prop:=
 ∃(G:Nat→Blk) (C:Nat→List Value),xs=flat C l.length∧v.ownsRow B e wd u l.length xs∧B≤v.heap.size ∧
  (∀j (h:j<l.length),(C j).length=wd∧E v (G j) (C j) (l[j]'h))∧(∀j,j<l.length→∀b,G j b→(B≤b∨R b)∧b<v.heap.size∧u.ownBlock≠some b)∧(∀i j,i<j→j<l.length→∀b,G i b→G j b→False)∧(∀b,R b→b<B)
theorem AccR.owns {e:TypeId} {B:Nat} {R:Blk} {v:World} {u:Value} {l:List α} {xs:List Value} (h:AccR e wd E B R v u l xs):v.ownsRow B e wd u l.length xs:=by
 obtain⟨G,C,_,h1,_⟩:=h;exact h1
theorem AccR.nil {e:TypeId} {B:Nat} {R:Blk} {v:World} {u:Value} (h:v.ownsRow B e wd u 0 []) (hB:B≤v.heap.size) (hR:∀b,R b→b<B):AccR e wd E B R v u ([]:List α) []:=
 ⟨fun _ _=>False,fun _=>[],rfl,h,hB,fun _ hj=>absurd hj (Nat.not_lt_zero _),fun _ hj=>absurd hj (Nat.not_lt_zero _),fun _ _ _ hj=>absurd hj (Nat.not_lt_zero _),hR⟩
theorem AccR.size {e:TypeId} {B:Nat} {R:Blk} {v:World} {u:Value} {l:List α} {xs:List Value} (h:AccR e wd E B R v u l xs):B≤v.heap.size:=by
 obtain⟨_,_,_,_,h,_⟩:=h;exact h
theorem AccR.keep (hE:ElOk E) {e:TypeId} {B:Nat} {R:Blk} {v v':World} {u:Value} {l:List α} {xs:List Value} (h:AccR e wd E B R v u l xs) (hb:Below v.heap.size v v'):AccR e wd E B R v' u l xs:=by
 obtain⟨G,C,h0,h1,hB,h2,h3,h4,h5⟩:=h;exact⟨G,C,h0,a0k h1 hb lZ,Nat.le_trans hB hb.size,fun j hj=>⟨(h2 j hj).1,hE.keep (h2 j hj).2 ⟨hb.size,fun b hb'=>hb.block b (h3 j hj b hb').2.1⟩⟩,fun j hj b hb'=>⟨(h3 j hj b hb').1,Nat.lt_of_lt_of_le (h3 j hj b hb').2.1 hb.size,(h3 j hj b hb').2.2⟩,h4,h5⟩
theorem AccR.a0c (hE:ElOk E) {e:TypeId} {B:Nat} {R:Blk} {v v':World} {u:Value} {l:List α} {xs:List Value} {X:Blk} (h:AccR e wd E B R v u l xs) (hb:Chg X v v') (hX:∀b,X b→b<B∧¬R b):AccR e wd E B R v' u l xs:=by
 obtain⟨G,C,h0,h1,hB,h2,h3,h4,hR⟩:=h
 have hk:∀b,(B≤b∨R b)→b<v.heap.size→v'.heap[b]?=v.heap[b]?:=fun b h1 h2=>hb.block b h2 fun hx=>by
  have:=hX b hx
  rcases h1 with h1|h1
  ·omega
  ·exact this.2 h1
 refine⟨G,C,h0,?_,Nat.le_trans hB hb.size,fun j hj=>⟨(h2 j hj).1,hE.keep (h2 j hj).2 ⟨hb.size,fun b hb'=>hk b (h3 j hj b hb').1 (h3 j hj b hb').2.1⟩⟩,fun j hj b hb'=>⟨(h3 j hj b hb').1,Nat.lt_of_lt_of_le (h3 j hj b hb').2.1 hb.size,(h3 j hj b hb').2.2⟩,h4,hR⟩;refine⟨h1.1,?_⟩
 rcases h1.2 with h5|⟨g,cap,cur,hv,hg,hh,r⟩
 ·exact .inl h5
 ·have hlt:=(World.ownsRow.lt h1 g (by rw [hv];rfl)).2;exact .inr ⟨g,cap,cur,hv,hg,by rw [hk g (.inl hg) hlt];exact hh,r⟩
theorem AccR.form {e:TypeId} {B:Nat} {R:Blk} {v:World} {u:Value} {l:List α} {xs:List Value} (h:AccR e wd E B R v u l xs):∃ad cap,u=.slice ad l.length cap:=by
 exact zq79
theorem AccR.snoc (hE:ElOk E) {e:TypeId} {B:Nat} {R R':Blk} {v v1 v2 v3:World} {u:Value} {l:List α} {xs:List Value} (h:AccR e wd E B R v u l xs) {cs:List Value} {a:α} {g cap:Nat} {F:Blk}
 (hb1:Below v.heap.size v v1) (hF:∀b,F b→(v.heap.size≤b∨(R' b∧¬R b))∧b<v1.heap.size) (hRR:∀b,R b→R' b) (hR':∀b,R' b→b<B) (ha:E v1 F cs a) (hw:cs.length=wd) (hb2:Below v1.heap.size v1 v2)
 (hown:v3.ownsRow B e wd (.slice (some ⟨g,0,none⟩) (l.length+1) cap) (l.length+1) (xs++cs)) (hgr:v2.grownBy v3 u.ownBlock) (hat:u.ownBlock=some g∨g=v2.heap.size) :
 AccR e wd E B R' v3 (.slice (some ⟨g,0,none⟩) (l.length+1) cap) (l++[a]) (xs++cs):=by
 obtain⟨G,C,h0,h1,hB,h2,h3,h4,hR⟩:=h
 have hub:∀b,u.ownBlock=some b→B≤b∧b<v.heap.size:=fun b hb=>World.ownsRow.lt h1 b hb
 have hz12:v.heap.size≤v1.heap.size:=hb1.size
 have hz2:v1.heap.size≤v2.heap.size:=hb2.size
 have hz3:v2.heap.size≤v3.heap.size:=hgr.size
 have hgB:∀b,b<v2.heap.size→u.ownBlock≠some b→v3.heap[b]?=v2.heap[b]?:=fun b hb hne=>hgr.block b hb (fun e=>hne e.symm)
 have hFo:∀b,F b→u.ownBlock≠some b:=fun b hb h'=>by
  have h5:=hub b h'
  rcases (hF b hb).1 with h6|h6
  ·omega
  ·have:=hR' b h6.1;omega
 refine⟨fun j=>if j=l.length then F else G j,fun j=>if j=l.length then cs else C j,?_,by rw [List.length_append];exact hown,by omega,fun j hj=>?_,fun j hj=>?_,fun i j hij hj=>?_,hR'⟩
 ·exact zq52
 ·show (if j=l.length then cs else C j).length=wd∧E v3 (if j=l.length then F else G j) (if j=l.length then cs else C j) _
  rw [List.length_append]at hj
  by_cases e:j=l.length
  ·subst e;simp only [if_true];refine⟨hw,?_⟩;rw [List.getElem_append_right lZ];simp only [Nat.sub_self,List.getElem_cons_zero];refine hE.keep ha ⟨by omega,fun b hb=>?_⟩;have:=(hF b hb).2;rw [hgB b oZ (hFo b hb),hb2.block b oZ]
  ·exact zq35
 ·show ∀b,(if j=l.length then F else G j) b→_
  rw [List.length_append]at hj;intro b hb
  by_cases e:j=l.length
  ·rw [if_pos e]at hb;have h5:=hF b hb;refine⟨h5.1.imp (fun h=>by omega) (fun h=>h.1),by omega,fun h'=>?_⟩;simp only [Value.ownBlock,Option.some.injEq]at h'
   rcases hat with h''|h''
   ·exact hFo b hb (by rw [h'',h'])
   ·omega
  ·rw [if_neg e]at hb;have hj':j<l.length:=by simp at hj;omega
   have h5:=h3 j hj' b hb;refine⟨h5.1.imp id (hRR b),by omega,fun h'=>?_⟩;exact zq84
 ·show ∀b,(if i=l.length then F else G i) b→(if j=l.length then F else G j) b→False
  rw [List.length_append]at hj;simp at hj;intro b h5 h6;rw [if_neg oZ]at h5;have h7:=h3 i oZ b h5
  by_cases e:j=l.length
  ·rw [if_pos e]at h6
   rcases (hF b h6).1 with h8|h8
   ·omega
   ·rcases h7.1 with h9|h9
    ·have:=hR' b h8.1;omega
    ·exact h8.2 h9
  ·rw [if_neg e]at h6;exact h4 i j hij oZ b h5 h6
theorem AccR.row {e:TypeId} {B:Nat} {R:Blk} {v:World} {u:Value} {l:List α} {xs:List Value} (h:AccR e wd E B R v u l xs) (hl:l.length≤2^30):RowO wd E v (fun b=>(B≤b∨R b)∧b<v.heap.size) u l:=by
 obtain⟨G,C,h0,h1,hB,h2,h3,h4,hR⟩:=h
 rcases id h1.2 with⟨rfl,hn⟩|⟨g,cap,cur,hv,hg,_,hnc,_⟩
 ·rw [List.eq_nil_of_length_eq_zero hn];exact RowO.nil _ _
 ·have hlt:=(World.ownsRow.lt h1 g (by rw [hv];rfl)).2;refine⟨some ⟨g,0,none⟩,cap,hv,hl,⟨(fun h=>by cases h),hnc⟩,.inr ⟨g,0,G,C,rfl,⟨⟨.inl hg,hlt⟩,fun b hb=>hb.2,fun j hj i hi=>?_,fun j hj=>(h2 j hj).1,fun j hj=>(h2 j hj).2,fun j hj b hb=>?_,h4⟩⟩⟩
  ·exact zq28
  ·have h5:=h3 j hj b hb;exact⟨⟨h5.1,h5.2.1⟩,fun h'=>h5.2.2 (by rw [hv,h'];rfl)⟩
namespace P
def a6l (e:Ent) (l:Dic):Bool:=dic l&&(entry e&&decide ((putF e false l).length≤40))
theorem b9y {l:Dic} (h:dic l=true):l.length≤40:=by
 unfold dic at h;simp only [Bool.and_eq_true,decide_eq_true_eq]at h;exact h.1
theorem c7r {e:Ent} {l:Dic} (hl:dic l=true) (he:entry e=true):dic (putF e false l)=decide ((putF e false l).length≤40):=by
 unfold dic at hl;simp only [Bool.and_eq_true]at hl;have h1:=(a1o _).2 (a5u e l ((a1o l).1 hl.2.2));unfold dic;rw [c4d he hl.2.1,h1];simp
theorem put_ne {e:Ent} {l:Dic} (hl:dic l=true):(del e.1 l++[e]).Pairwise fun a b=>a.1≠b.1:=by
 rw [List.pairwise_append];refine⟨List.Pairwise.filter _ ((b2r hl).imp fun {a b} hab he=>?_),by simp,fun a ha b hb=>?_⟩
 ·unfold lt at hab;rw [he,a3w]at hab;exact absurd hab dZ
 ·rw [List.mem_singleton]at hb;subst hb;exact (a8i.1 ha).2
theorem c7q (e:Ent) (l:Dic):(putF e false l).length≤l.length+1:=by
 have h1:=b4u e l;have h2:=b2i e l;rw [←h1]
 cases h:(a0y e l).2 with
 |true=>rw [h]at h2;simpa using h2
 |false=>rw [h]at h2;simpa using h2
end P
theorem c8t {e:P.Ent} {l:P.Dic} (h:Small l) (h0:l.length<2^20) (h1:e.1.length≤2^20) (h2:e.2.length≤2^30):Small (P.putF e false l):=by
 refine⟨by have:=P.c7q e l;omega,fun x hx=>?_,fun x hx=>?_⟩
 ·rcases (P.a4r e l x).1 hx with rfl|hx
  ·exact h1
  ·exact h.outs x (P.a9w hx)
 ·rcases (P.a4r e l x).1 hx with rfl|hx
  ·exact h2
  ·exact h.texts x (P.a9w hx)
def DkPost (ok:Bool) (l:P.Dic) (w:World) (e:Ending) (w':World):Prop:=
 ∃u,e=.returned (.tuple #[.agg #[u],.bool ok])∧Ents w' (Bet w.heap.size w'.heap.size) u (P.kept ok l)∧Below w.heap.size w w'
abbrev d4j (e:P.Ent) (l:P.Dic):=DkPost (P.a6l e l) (P.putF e false l)
def IBox (W:Nat) (dv x:Value) (t:Str) (v:World):Prop:=
 v.cell? ⟨W,0,none⟩=some dv∧v.cell? ⟨W+1,0,none⟩=some x∧v.cell? ⟨W+1,1,none⟩=some (.string (S t))∧v.cell? ⟨W+2,0,none⟩=some (.slice none 0 0)∧v.frozen? ⟨W+2,0,none⟩=false∧W+2<v.heap.size
theorem IBox.below {W:Nat} {dv x:Value} {t:Str} {v v':World} (h:IBox W dv x t v) (hb:Below v.heap.size v v'):IBox W dv x t v':=by
 obtain⟨a,b,b1,c,d,e⟩:=h;exact⟨(hb.cell (p:=⟨W,0,none⟩) (by show W<_;omega)).trans a,(hb.cell (p:=⟨W+1,0,none⟩) (by show W+1<_;omega)).trans b,(hb.cell (p:=⟨W+1,1,none⟩) (by show W+1<_;omega)).trans b1,(hb.cell (p:=⟨W+2,0,none⟩) e).trans c,(hb.frozen (p:=⟨W+2,0,none⟩) e).trans d,Nat.lt_of_lt_of_le e hb.size⟩
theorem IBox.new (dv x:Value) (t:Str) (w:World):IBox w.heap.size dv x t (((w.alloc (.cells #[dv] 26)).alloc (.cells #[x,.string (S t)] 119)).alloc (.cells #[.slice none 0 0] 26)):=by
 refine⟨?_,?_,?_,?_,?_,?_⟩<;>go_simp
theorem b2n {W:Nat} {v:World} {F:Blk} {u x:Value} {l:P.Dic} (k:Nat) (h:Ents v F u l) (hF:∀b,F b→W≤b∧b<v.heap.size∧b≠k):Ents (v.setCell ⟨k,0,none⟩ x) (Bet W (v.setCell ⟨k,0,none⟩ x).heap.size) u l:=by
 refine (h.a0c (X:=fun b=>b=k) a0e ((Chg.refl (fun b=>b=k) v).setCell (p:=⟨k,0,none⟩) rfl _) ?_).wide ?_ ?_
 ·intro b hb e;exact (hF b hb).2.2 e
 ·intro b hb;have:=hF b hb;exact⟨this.1,by simp [World.setCell];omega⟩
 ·intro b hb;exact hb.2
theorem d2g (x:Value) (eo o:List Int) (t:Str) (C:Nat) (ov:Value) (w:World) (hx:IntR w x eo) (hc:w.cell? ⟨C,0,none⟩=some ov) (ho:IntR w ov o) :
 Calls Tryz.prog 314 #[.agg #[x,.string (S t)],.pointer (some ⟨C,0,none⟩)] w fun e w'=>e=.returned (.bool (!decide (eo=o)))∧Below w.heap.size w w':=by
 have hb0:=(Below.refl w.heap.size w).alloc lZ (.cells #[x,.string (S t)] 119)
 have HX:=qh (hx.below hb0);have HO:=qh (ho.below hb0)
 have hc':=(hb0.cell (p:=⟨C,0,none⟩) (World.block_lt_of_cell? w _ hc)).trans hc
 have HB0:=qh hb0
 obtain⟨xd,xc,rfl,_,_⟩:=hx
 obtain⟨od,oc,rfl,_,_⟩:=ho
 clear hb0 hc
 go_enter Tryz.func314,Tryz.ntmps314
 go_wp2_with fail
 refine (b2w _ _ eo o _ HX.o HO.o).mono ?_
 rintro e w1 ⟨rfl,hb⟩
 have HB1:=qh (HB0.o.trans (hb.mono sZ))
 clear hb
 cases hok:decide (eo=o)
 ·exact zq33
 ·exact zq33
theorem c9i (u ov:Value) (l:P.Dic) (o:List Int) (C:Nat) (w:World) (hu:EntR w u l) (hl:l.length≤2^20) (hc:w.cell? ⟨C,0,none⟩=some ov) (ho:IntR w ov o) :
 Calls Tryz.prog 311 #[u,.func (Fn.func 314) #[] #[.pointer (some ⟨C,0,none⟩)]] w
  fun e w'=>(∃u' xs,e=.returned u'∧Acc 119 2 (refE w) w.heap.size w' u' (P.del o l) xs)∧Below w.heap.size w w':=by
 obtain⟨i0,hi,hz0,hz1,hz2⟩:=info_parts a4n
 have HU:=qh hu;have HO:=qh ho
 have HC:=qh hc
 have HCL:=qh (World.block_lt_of_cell? w _ hc)
 have hB0:Below w.heap.size w (w.alloc (.cells #[] 119)):=(Below.refl w.heap.size w).alloc lZ _
 have HB0:=qh hB0;clear hB0
 have HA0:=qh (show Acc 119 2 (refE w) w.heap.size (w.alloc (.cells #[] 119)) (.slice (some ⟨w.heap.size,0,none⟩) 0 0) [] [] from
  Acc.nil (by have h:=World.ownsRow_lit (base:=w.heap.size) (e:=119) (size:=2) w #[] 0 lZ (Nat.zero_le _) sZ;simpa using h) sZ)
 obtain⟨ad,cap,rfl,_,_⟩:=hu
 clear hc ho
 go_enter Tryz.func311,Tryz.ntmps311
 go_wp2_with fail
 go_loopw [5,11] (fun s i wr=>∃(j:Nat) (xs:List Value),j≤l.length∧i=.int .i64 j∧Acc 119 2 (refE w) w.heap.size wr s (P.del o (l.take j)) xs∧Below w.heap.size w wr) (fun _ i _=>l.length-(intOf i).toNat)
 case atStart=>exact⟨0,[],Nat.zero_le _,rfl,HA0.o,HB0.o⟩
 case round=>
  obtain⟨j,xs,hj,rfl,hacc,hb⟩:=hrel;clear HA0 HB0;have HBZ:=qh hb.size;have HA:=qh hacc;have HB:=qh hb;have hdl:(P.del o (l.take j)).length≤j:=Nat.le_trans (P.b2o _ _) (by rw [List.length_take];omega);obtain⟨uad,ucap,rfl⟩:=hacc.form;clear hacc
  by_cases hlt:j<l.length
  ·obtain⟨g,p,hga,hgs,x,c0,c1,hx⟩:=HU.o.at j hlt;have HXW:=qh hx;have c0':=(hb.cell (p:=⟨g,_,none⟩) hgs).trans c0;have c1':=(hb.cell (p:=⟨g,_,none⟩) hgs).trans c1;have HEN:=qh (show P.del o (l.take (j+1))=if l[j].1=o then P.del o (l.take j) else P.del o (l.take j)++[l[j]] by rw [a0h l j hlt,P.c2r]);have hba:=(Below.refl wr.heap.size wr).alloc lZ (.cells #[x,.string (S l[j].2)] 119);have HBA:=qh hba;have HX:=qh ((hx.below hb).below hba);have HO2:=qh ((HO.o.below hb).below hba);have HC2:=qh ((hba.cell (p:=⟨C,0,none⟩) (Nat.lt_of_lt_of_le HCL.o hb.size)).trans ((hb.cell (p:=⟨C,0,none⟩) HCL.o).trans HC.o));obtain⟨xd,xc,rfl,_,_⟩:=hx;subst hga;generalize l[j]=en at *;obtain⟨eo,et⟩:=en;simp only at HX HXW HBA HEN c1' c1 hba HC2 HO2;generalize P.del o (l.take j)=dl at *;have i1:(j:Int)<(l.length:Int):=by omega
   clear hb hba c0 c1
   go_wp2_with fail
   refine (d2g _ eo o et C ov _ HX.o HC2.o HO2.o).mono ?_;exact zq3
  ·have HT:=qh (show l.take j=l from List.take_of_length_le oZ);clear hb;go_wp2;go_ret;refine⟨⟨.slice uad (P.del o (l.take j)).length ucap,xs,rfl,?_⟩,HB.o⟩;have h:=HA.o;rw [HT.o]at h⊢;exact h
theorem c0z (dv x:Value) (l:P.Dic) (o:List Int) (t:Str) (w:World) (hu:EntR w dv l) (ho:IntR w x o) (hs:Small l) (h1:o.length≤2^20) (h2:t.length≤2^30) (hE:Env w) :
 Calls Tryz.prog 271 #[.agg #[dv],.agg #[x,.string (S t)]] w (d4j (o,t) l w):=by
 obtain⟨i0,hi,hz0,hz1,hz2⟩:=info_parts a4n
 have hb0:Below w.heap.size w (((w.alloc (.cells #[dv] 26)).alloc (.cells #[x,.string (S t)] 119)).alloc (.cells #[.slice none 0 0] 26)):=(((Below.refl w.heap.size w).alloc lZ _).alloc sZ _).alloc (by simp;omega) _
 have HU:=qh (hu.below hb0);have HO:=qh (ho.below hb0);have HE:=qh (hE.below hb0 hE.size)
 have HB0:=qh hb0;clear hb0 hE
 have HN:=qh (IBox.new dv x t w)
 have HSM:=qh hs;clear hs
 have HL1:=qh h1;have HL2:=qh h2;clear h1 h2
 obtain⟨ad,cap,rfl,_,_⟩:=hu
 obtain⟨od,oc,rfl,_,_⟩:=ho
 go_enter Tryz.func271,Tryz.ntmps271
 go_wp2_with fail
 refine (a0v _ l _ HU.o HSM.o.texts HE.o).mono ?_
 rintro e w1 ⟨rfl,hb⟩
 have HU1:=qh (HU.o.below hb);have HO1:=qh (HO.o.below hb);have HE1:=qh (HE.o.below hb HE.o.size)
 have HN1:=qh (HN.o.below hb)
 have HB1:=qh (HB0.o.trans (hb.mono (by simp;omega)))
 clear hb HU HB0 HN HO HE
 cases hd:P.dic l
 ·have HD:=qh (show P.a6l (o,t) l=false by unfold P.a6l;rw [hd];rfl);clear hd;obtain⟨_,_,_,b0,f0,_⟩:=HN1.o;go_wp2;refine bodyPost_ret (v:=.tuple #[.agg #[.slice none 0 0],.bool false]) (by simp [results,Tryz.results271,go_sem,b0]) rfl ⟨_,by rw [HD.o],?_,?_⟩
  ·rw [HD.o];exact RowO.nil _ _
  ·exact HB1.o.setCell (by simp;omega) _
 ·have HDC:=qh hd;clear hd;have HL0:=qh (show l.length<2^20 by have:=P.b9y HDC.o;omega);have HSP:=qh (c8t (e:=(o,t)) HSM.o HL0.o HL1.o HL2.o);obtain⟨a0,a1,a2,_⟩:=HN1.o
  go_wp2_with fail
  refine (a3m _ o t _ HO1.o HL2.o HE1.o).mono ?_;rintro e w2 ⟨rfl,hb⟩;have HU2:=qh (HU1.o.below hb);have HO2:=qh (HO1.o.below hb);have HE2:=qh (HE1.o.below hb HE1.o.size);have HN2:=qh (HN1.o.below hb);have HB2:=bt HB1 hb;clear hb HU1 HB1 HN1 HO1 HE1 a0 a1 a2
  cases he:P.entry (o,t)
  ·have HD:=qh (show P.a6l (o,t) l=false by unfold P.a6l;rw [he,Bool.false_and,Bool.and_false]);clear he;obtain⟨_,_,_,b0,f0,_⟩:=HN2.o;go_wp2;refine bodyPost_ret (v:=.tuple #[.agg #[.slice none 0 0],.bool false]) (by simp [results,Tryz.results271,go_sem,b0]) rfl ⟨_,by rw [HD.o],?_,?_⟩
   ·rw [HD.o];exact RowO.nil _ _
   ·exact HB2.o.setCell (by simp;omega) _
  ·have HEN:=qh he;clear he;obtain⟨a0,a1,a2,_⟩:=HN2.o;have HA1:=qh a1;have HA2:=qh a2;clear a1 a2
   go_wp2_with fail
   refine (c9i _ (.slice od o.length oc) l o _ _ HU2.o HSM.o.len HA1.o HO2.o).mono ?_;rintro e w3 ⟨⟨u3,xs,rfl,hacc⟩,hb⟩;have HZ2:=qh HN2.o.2.2.2.2.2;have HN3:=qh (HN2.o.below hb);have HB3:=bt HB2 hb;have HB23:=qh hb;have HE3:=qh (HE2.o.below hb HE2.o.size);have HEB:=qh HE2.o.size;have hdl:=P.b2o o l;have HDL:=qh hdl;obtain⟨ud,uc,rfl⟩:=hacc.form;have HA:=qh hacc;clear hb HN2 HU2 HB2 a0 HA1 HA2 HE2 hacc hdl;obtain⟨a0,a1,a2,_⟩:=HN3.o;have ha2:=(HA.o.keep (b0f w2) ((Below.refl w3.heap.size w3).alloc lZ (.cells #[.slice od o.length oc,.string (S t)] 119)));have HOW:=qh ha2.owns;have HAK:=qh ha2;clear ha2;have HL0':=HL0.o;have HDL':=HDL.o
   go_wp2_with (at_builtin;refine wpList_append_lies _ rfl _ _ 24 rfl w2.heap.size 119 i0 (.agg #[.slice none 0 0,.string ⟨#[]⟩]) 2 40 Tryz.underlying24 hi hz0 hz1 hz2 rfl dZ (.slice ud (P.del o l).length uc) (P.del o l).length xs rfl HOW.o ⟨w3.heap.size,0,none⟩ 1 1 [.slice od o.length oc,.string (S t)] rfl rfl ?_ ?_ (Nat.zero_lt_one) ?_ ?_ ?_ _ rfl ?_)
   ·exact zq12
   ·exact zq16
   ·unfold maxLen;omega
   ·omega
   ·have h1:=HB23.o.size;simp;omega
   intro g1 cap1 v3 hown hgr hat hlt3
   have HB4:=qh (show Below w2.heap.size (w3.alloc (.cells #[.slice od o.length oc,.string (S t)] 119)) v3 from
    bZ.grown hgr (by have h1:=HB23.o.size;simp;omega) (fun k hk=>(World.ownsRow.lt HAK.o.owns k hk).1))
   have hac:=HA.o.snoc (a:=(o,t)) (cs:=[.slice od o.length oc,.string (S t)]) (v1:=w3) (v2:=w3.alloc (.cells #[.slice od o.length oc,.string (S t)] 119)) (v3:=v3) (g:=g1) (cap:=cap1) (F:=fun _=>False) (b0f w2) bZ (fun b hb=>hb.elim) ⟨_,rfl,HO2.o⟩ rfl (bZ.alloc lZ _) hown hgr (by simpa using hat);have hbv:=((HB23.o.trans ((Below.refl w2.heap.size w3).alloc HB23.o.size _)).trans HB4.o);have hrd:=c1x (hac.row (by rw [List.length_append];simp;omega)) hbv;have hlen:(P.del o l++[(o,t)]).length=(P.del o l).length+1:=by simp
   have HRD:=qh hrd
   have HN4:=qh (show IBox w.heap.size (.slice ad l.length cap) (.slice od o.length oc) t v3 from by
    have h:=HN3.o;have hb:=((Below.refl w3.heap.size w3).alloc lZ (.cells #[.slice od o.length oc,.string (S t)] 119));have h2:=h.below hb;obtain⟨q0,q1,q2,q3,q4,q5⟩:=h2;have hz:=HZ2.o;exact⟨(HB4.o.cell (p:=⟨w.heap.size,0,none⟩) (by show w.heap.size<w2.heap.size;omega)).trans q0,(HB4.o.cell (p:=⟨w.heap.size+1,0,none⟩) (by show w.heap.size+1<w2.heap.size;omega)).trans q1,(HB4.o.cell (p:=⟨w.heap.size+1,1,none⟩) (by show w.heap.size+1<w2.heap.size;omega)).trans q2,(HB4.o.cell (p:=⟨w.heap.size+2,0,none⟩) hz).trans q3,(HB4.o.frozen (p:=⟨w.heap.size+2,0,none⟩) hz).trans q4,Nat.lt_of_lt_of_le q5 HB4.o.size⟩)
   have HBV:=qh hbv;have HB5:=qh (HB3.o.trans (((Below.refl w.heap.size w3).alloc HB3.o.size (.cells #[.slice od o.length oc,.string (S t)] 119)).trans (HB4.o.mono (by have:=HZ2.o;omega))));have HE4:=qh (HE3.o.below (((Below.refl w2.heap.size w3).alloc HB23.o.size (.cells #[.slice od o.length oc,.string (S t)] 119)).trans HB4.o) HEB.o);clear hown hgr hat hlt3 hac hbv hrd hlen HN3 HA HOW HAK HB4 HB3 a0 a1 a2 HE3 HO2
   go_wp2_with fail
   refine (b1l _ (P.del o l++[(o,t)]) (P.putF (o,t) false l) _ (by have:=HRD.o;simpa using this) (by rw [List.length_append];simp;omega) ?_ ?_ ?_ (P.put_ne (e:=(o,t)) HDC.o)).mono ?_
   ·intro e he
    rcases List.mem_append.1 he with he|he
    ·exact HSM.o.outs e (P.a9w he)
    ·rw [List.mem_singleton]at he;subst he;exact HL1.o
   ·exact P.a5u _ _ (P.b2r HDC.o)
   ·intro z;rw [P.a4r,List.mem_append,List.mem_singleton];exact Or.comm
   rintro e w4 ⟨u4,rfl,hI,hb⟩;have HN5:=qh (HN4.o.below hb);have hN4:w.heap.size+2<v3.heap.size:=HN4.o.2.2.2.2.2;have HB6:=bt HB5 hb;have HE5:=qh (HE4.o.below hb HE4.o.size);have hba:=(Below.refl w4.heap.size w4).alloc lZ (.cells #[u4] 26);have HI:=qh hI;obtain⟨u4d,u4c,rfl,_,_⟩:=hI;have HZ4:=qh (show v3.heap.size≤w4.heap.size from hb.size);clear hb HN4 HB5 HE4;have HI2:=qh (show Ents _ _ _ (P.putF (o,t) false l) from HI.o.below a0e hba);have HN6:=qh (HN5.o.below hba);have HB7:=bt HB6 hba;have HE6:=qh (HE5.o.below hba HE5.o.size);have HC4:=qh (show (w4.alloc (.cells #[.slice u4d (P.putF (o,t) false l).length u4c] 26)).cell? ⟨w4.heap.size,0,none⟩=some (.slice u4d (P.putF (o,t) false l).length u4c) by go_simp);clear hba HN5 HB6 HE5
   go_wp2_with fail
   refine (a0v _ (P.putF (o,t) false l) _ (Ents.read HI2.o) HSP.o.texts HE6.o).mono ?_;rintro e w5 ⟨rfl,hb⟩;have HN7:=qh (HN6.o.below hb);have HB8:=bt HB7 hb;have HI3:=qh (HI2.o.below a0e hb);have c4:=(hb.cell (p:=⟨w4.heap.size,0,none⟩) sZ).trans HC4.o;have HZ5:=qh (show w4.heap.size<w5.heap.size by have:=hb.size;simp at this;omega);clear hb HN6 HB7 HI2 HE6 HC4;rw [P.c7r HDC.o HEN.o];obtain⟨_,_,_,b0,f0,_⟩:=HN7.o
   cases hlen:decide ((P.putF (o,t) false l).length≤40)
   ·have HD:=qh (show P.a6l (o,t) l=false by unfold P.a6l;rw [HDC.o,HEN.o,hlen];rfl);clear hlen;go_wp2;refine bodyPost_ret (v:=.tuple #[.agg #[.slice none 0 0],.bool false]) (by simp [results,Tryz.results271,go_sem,b0]) rfl ⟨_,by rw [HD.o],?_,?_⟩
    ·rw [HD.o];exact RowO.nil _ _
    ·exact HB8.o.setCell (by simp;omega) _
   ·have HD:=qh (show P.a6l (o,t) l=true by unfold P.a6l;rw [HDC.o,HEN.o,hlen];rfl);clear hlen;go_wp2;refine bodyPost_ret (v:=.tuple #[.agg #[.slice u4d (P.putF (o,t) false l).length u4c],.bool true]) (by simp [results,Tryz.results271,go_sem,b0]) rfl ⟨_,by rw [HD.o],?_,?_⟩
    ·rw [HD.o]
     show Ents _ _ _ (P.putF (o,t) false l)
     refine b2n (w.heap.size+2) HI3.o fun b hb=>?_;have h1:=hb.1;have h2:=hb.2;have h3:=HZ5.o;omega
    ·exact HB8.o.setCell (by simp;omega) _
end Go.Proofs.YtggfdnopminemaaGreatDoor
