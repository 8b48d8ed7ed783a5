/- A row of entries as a. -/
import Derived.Test.YtggfdnopminemaaGreatDoorSortD
set_option linter.all false
namespace Go.Proofs.YtggfdnopminemaaGreatDoor
open Go.Proofs.Tryz
variable {F:Blk} {a b c g h i j k m o r r0 s s0:Nat} {v v':Go.World}
section
open Go Go.RowKit
set_option maxHeartbeats 8000000
set_option maxRecDepth 100000
structure It where
 x:Value
 G:Blk
 e:P.Ent
def It.cs (t:It):List Value:=[t.x,.string (S t.e.2)]
structure RowI (v:World) (F:Blk) (g o:Nat) (its:List It):Prop where
 own:F g
 lt:∀b,F b->b<v.heap.size
 cel:∀j (h:j<its.length),Cel v g (o+j*2) (its[j]'h).cs
 el:∀t∈its,Ints v t.G t.x t.e.1
 sub:∀t∈its,∀b,t.G b->F b/\b≠g
 apart:its.Pairwise λs t=>∀b,s.G b->t.G b->False
theorem RowI.of {G:Nat->Blk} {C:Nat->List Value} {l:P.Dic} (h:RowC 2 entE v F g o G C l):∃its:List It,its.map (·.e)=l/\RowI v F g o its:=by
 have key:∀j,∃x,∀hj:j<l.length,C j=[x,.string (S (l[j]'hj).2)]/\Ints v (G j) x (l[j]'hj).1:=by
  intro j
  by_cases hj:j<l.length
  .obtain⟨x,h1,h2⟩:=h.el j hj;exact⟨x,λ_=>⟨h1,h2⟩⟩
  .exact⟨.int .i64 0,λh=>absurd h hj⟩
 obtain⟨f,hf⟩:=Classical.axiomOfChoice key;refine⟨List.ofFn λj:Fin l.length=>⟨f j,G j,l[j]⟩,?_,h.own,h.lt,λj hj=>?_,λt ht=>?_,λt ht b hb=>?_,?_⟩
 .refine List.ext_getElem sZ λi h1 h2=>by simp
 .have hj':j<l.length:=by simpa using hj
  have hc:=h.cel j hj';rw [(hf j hj').1]at hc
  simpa [It.cs] using hc
 .obtain⟨j,rfl⟩:=List.mem_ofFn.1 ht;exact (hf j j.2).2
 .obtain⟨j,rfl⟩:=List.mem_ofFn.1 ht;exact h.sub j j.2 b hb
 .rw [List.pairwise_iff_getElem];intro i j hi hj hij;simp only [List.getElem_ofFn];exact h.apart i j hij (by simpa using hj)
theorem RowI.to {its:List It} (h:RowI v F g o its):∃G C,RowC 2 entE v F g o G C (its.map (·.e)):=by
 refine⟨λj=>if hj:j<its.length then (its[j]'hj).G else λ_=>False,λj=>if hj:j<its.length then (its[j]'hj).cs else [],h.own,h.lt,λj hj=>?_,λj hj=>?_,λj hj=>?_,λj hj=>?_,λi j hij hj=>?_⟩
 all_goals have hj':j<its.length:=by simpa using hj
 .simp only [dif_pos hj'];exact h.cel j hj'
 .simp only [dif_pos hj'];rfl
 .simp only [dif_pos hj',List.getElem_map];exact⟨_,rfl,h.el _ (List.getElem_mem hj')⟩
 .simp only [dif_pos hj'];exact h.sub _ (List.getElem_mem hj')
 .simp only [dif_pos hj',dif_pos (show i<its.length by omega)];exact (List.pairwise_iff_getElem.1 h.apart) i j oZ hj' hij
theorem RowI.turn {its its':List It} (h:RowI v F g o its) (hc:Chg (λb=>b=g) v v') (hp:its'.Perm its) (hcel:∀j (h:j<its'.length),Cel v' g (o+j*2) (its'[j]'h).cs):RowI v' F g o its':=by
 refine⟨h.own,λb hb=>Nat.lt_of_lt_of_le (h.lt b hb) hc.size,hcel,λt ht=>?_,λt ht=>h.sub t (hp.mem_iff.1 ht),?_⟩
 .have ht':=hp.mem_iff.1 ht;exact (h.el t ht').a0b a1l hc (λb hb=>(h.sub t ht' b hb).2)
 .exact (hp.pairwise_iff (λh b h1 h2=>h b h2 h1)).2 h.apart
theorem RowI.below {its:List It} (h:RowI v F g o its) (hb:Bl v v'):RowI v' F g o its:=
 ⟨h.own,λb hb'=>Nat.lt_of_lt_of_le (h.lt b hb') hb.size,λj hj=>(h.cel j hj).keep (hb.block _ (h.lt _ h.own)),λt ht=>(h.el t ht).below a1l hb,h.sub,h.apart⟩
def a9q (its:List It) (i j:Nat) (hi:i<its.length) (hj:j<its.length):List It:=(its.set i its[j]).set j its[i]
def a8l (v:World) (g o i j:Nat) (s t:It):World:=
 (((v.setCell ⟨g,o+i*2,none⟩ t.x).setCell ⟨g,o+i*2+1,none⟩ (.string (S t.e.2))).setCell ⟨g,o+j*2,none⟩ s.x).setCell ⟨g,o+j*2+1,none⟩ (.string (S s.e.2))
theorem Cel.two {s t:It} (h:Cel v g (o+i*2) s.cs):Cel ((v.setCell ⟨g,o+i*2,none⟩ t.x).setCell ⟨g,o+i*2+1,none⟩ (.string (S t.e.2))) g (o+i*2) t.cs:=by
 have e:=(h.c9g 0 (by simp [It.cs]) t.x).c9g 1 (by simp [It.cs]) (.string (S t.e.2))
 simpa [It.cs] using e
theorem Cel.b2e {s t:It} (h:Cel v g (o+k*2) s.cs) (hik:k≠i):Cel ((v.setCell ⟨g,o+i*2,none⟩ t.x).setCell ⟨g,o+i*2+1,none⟩ (.string (S t.e.2))) g (o+k*2) s.cs:=by
 have o0:=c5v (wd:=2) (o:=o) hik 0 oZ;have o1:=c5v (wd:=2) (o:=o) hik 1 oZ;have hl:s.cs.length=2:=rfl;rw [Nat.add_zero]at o0;exact (h.b1z (by rw [hl];exact o0) _).b1z (by rw [hl];exact o1) _
theorem RowI.swap {its:List It} (h:RowI v F g o its) (i j:Nat) (hi:i<its.length) (hj:j<its.length) (hij:i≠j):RowI (a8l v g o i j its[i] its[j]) F g o (a9q its i j hi hj)/\Chg (λb=>b=g) v (a8l v g o i j its[i] its[j]):=by
 have hc:Chg (λb=>b=g) v (a8l v g o i j its[i] its[j]):=
  ((((Chg.refl (λb=>b=g) v).setCell (p:=⟨g,_,none⟩) rfl _).setCell (p:=⟨g,_,none⟩) rfl _).setCell (p:=⟨g,_,none⟩) rfl _).setCell (p:=⟨g,_,none⟩) rfl _
 refine⟨h.turn hc (List.set_set_perm hi hj) λk hk=>?_,hc⟩;have hk':k<its.length:=by simpa [a9q] using hk
 have hck:=h.cel k hk'
 by_cases h1:k=j
 .subst h1;have e:(a9q its i k hi hj)[k]'hk=its[i]:=by simp [a9q]
  rw [e];exact Cel.two (s:=its[k]) (hck.b2e (t:=its[k]) (Ne.symm hij))
 .by_cases h2:k=i
  .subst h2;have e:(a9q its k j hi hj)[k]'hk=its[j]:=by simp [a9q,List.getElem_set_ne (Ne.symm h1)]
   rw [e];exact (Cel.two (t:=its[j]) hck).b2e h1
  .have e:(a9q its i j hi hj)[k]'hk=its[k]:=by simp [a9q,List.getElem_set_ne (Ne.symm h1),List.getElem_set_ne (Ne.symm h2)]
   rw [e];exact (hck.b2e h2).b2e h1
end
def It.le (s t:It):Prop:=P.cmp s.e.1 t.e.1<=0
theorem It.le_refl (s:It):s.le s:=by unfold It.le;rw [P.a3x];decide
theorem It.b1u {s t:It} (h:¬P.cmp s.e.1 t.e.1<0):t.le s:=by unfold It.le;have:=P.b6b s.e.1 t.e.1;omega
theorem It.le_of_lt {s t:It} (h:P.cmp s.e.1 t.e.1<0):s.le t:=by unfold It.le;omega
theorem It.le_trans {s t u:It} (h:s.le t) (k:t.le u):s.le u:=by
 unfold It.le at *
 by_cases h1:P.cmp s.e.1 t.e.1=0
 .rw [P.cmp_eq _ _ h1];exact k
 .by_cases h2:P.cmp t.e.1 u.e.1=0
  .rw [<-P.cmp_eq _ _ h2];exact h
  .have:=P.a5r s.e.1 t.e.1 u.e.1 oZ oZ;omega
structure a0l (a b:Nat) (l l':List It):Prop where
 perm:l'.Perm l
 same:∀j,j<a\/b<=j->l'[j]?=l[j]?
 from_:∀j x,a<=j->j<b->l'[j]?=some x->∃i,a<=i/\i<b/\l[i]?=some x
def a0c (a b:Nat) (l:List It):Prop:=∀i j x y,a<=i->i<j->j<b->l[i]?=some x->l[j]?=some y->x.le y
theorem a0l.refl (a b:Nat) (l:List It):a0l a b l l:=⟨List.Perm.refl _,λ_ _=>rfl,λj _ h1 h2 h3=>⟨j,h1,h2,h3⟩⟩
theorem a0l.trans {l m n:List It} (h:a0l a b l m) (k:a0l a b m n):a0l a b l n:=
 ⟨k.perm.trans h.perm,λj hj=>(k.same j hj).trans (h.same j hj),λj x h1 h2 h3=>by
  obtain⟨i,i1,i2,i3⟩:=k.from_ j x h1 h2 h3;exact h.from_ i x i1 i2 i3⟩
theorem a0l.mono {a' b':Nat} {l m:List It} (h:a0l a b l m) (ha:a'<=a) (hb:b<=b'):a0l a' b' l m:=
 ⟨h.perm,λj hj=>h.same j oZ,λj x h1 h2 h3=>by
  by_cases hj:a<=j/\j<b
  .obtain⟨i,i1,i2,i3⟩:=h.from_ j x hj.1 hj.2 h3;exact⟨i,by omega,by omega,i3⟩
  .exact⟨j,h1,h2,by rw [<-h.same j oZ];exact h3⟩⟩
theorem a0l.len {l m:List It} (h:a0l a b l m):m.length=l.length:=h.perm.length_eq
theorem a0c.same {d:Nat} {l m:List It} (h:a0c a b l) (k:a0l c d l m) (ho:b<=c\/d<=a):a0c a b m:=by
 intro i j x y h1 h2 h3 h4 h5;rw [k.same i oZ]at h4;rw [k.same j oZ]at h5;exact h i j x y h1 h2 h3 h4 h5
theorem a5t (l:List It) (i j:Nat) (hi:i<l.length) (hj:j<l.length) (k:Nat):(a9q l i j hi hj)[k]?=if k=j then some l[i] else if k=i then some l[j] else l[k]?:=by
 unfold a9q;rw [List.getElem?_set]
 by_cases h1:k=j
 .subst h1;rw [if_pos rfl,if_pos (by rw [List.length_set];exact hj),if_pos rfl]
 .rw [if_neg (Ne.symm h1),if_neg h1,List.getElem?_set]
  by_cases h2:k=i
  .subst h2;rw [if_pos rfl,if_pos hi,if_pos rfl]
  .rw [if_neg (Ne.symm h2),if_neg h2]
theorem a0l.swap (l:List It) (i j:Nat) (hi:i<l.length) (hj:j<l.length) (h1:a<=i/\i<b) (h2:a<=j/\j<b):a0l a b l (a9q l i j hi hj):=by
 refine⟨List.set_set_perm hi hj,λk hk=>?_,λk x k1 k2 hx=>?_⟩
 .rw [a5t,if_neg oZ,if_neg oZ]
 .rw [a5t]at hx
  split at hx
  .exact⟨i,h1.1,h1.2,by rw [List.getElem?_eq_getElem hi];exact hx⟩
  .split at hx
   .exact⟨j,h2.1,h2.2,by rw [List.getElem?_eq_getElem hj];exact hx⟩
   .exact⟨k,k1,k2,hx⟩
def a8z (a k j:Nat) (l:List It):Prop:=
 (∀p q x y,a<=p->p<q->q<=j->p≠k->q≠k->l[p]?=some x->l[q]?=some y->x.le y)/\(∀q x y,k<q->q<=j->l[k]?=some x->l[q]?=some y->x.le y)
theorem a8z.start {l:List It} (h:a0c a j l):a8z a j j l:=
 ⟨λp q x y h1 h2 h3 _ h5 h6 h7=>h p q x y h1 h2 oZ h6 h7,λq x y h1 h2=>by omega⟩
theorem a8z.step {l:List It} (h:a8z a k j l) (hak:a<k) (hkj:k<=j) (hk:k<l.length) (hc:P.cmp l[k].e.1 (l[k-1]'(by omega)).e.1<0):a8z a (k-1) j (a9q l k (k-1) hk oZ):=by
 have ek:l[k]?=some l[k]:=List.getElem?_eq_getElem hk;have ek1:l[k-1]?=some (l[k-1]'(by omega)):=List.getElem?_eq_getElem oZ;refine⟨λp q x y h1 h2 h3 h4 h5 h6 h7=>?_,λq x y h1 h2 h3 h4=>?_⟩
 .rw [a5t,if_neg h4]at h6;rw [a5t,if_neg h5]at h7
  by_cases hp:p=k
  .rw [if_pos hp]at h6;rw [if_neg oZ]at h7;injection h6 with h6;subst h6;exact h.1 (k-1) q _ y oZ oZ h3 oZ oZ ek1 h7
  .rw [if_neg hp]at h6
   by_cases hq:q=k
   .rw [if_pos hq]at h7;injection h7 with h7;subst h7;exact h.1 p (k-1) x _ h1 oZ oZ hp oZ h6 ek1
   .rw [if_neg hq]at h7;exact h.1 p q x y h1 h2 h3 hp hq h6 h7
 .rw [a5t,if_pos rfl]at h3;injection h3 with h3;subst h3;rw [a5t,if_neg oZ]at h4
  by_cases hq:q=k
  .rw [if_pos hq]at h4;injection h4 with h4;subst h4;exact It.le_of_lt hc
  .rw [if_neg hq]at h4;exact h.2 q _ y oZ h2 ek h4
theorem a8z.done0 {l:List It} (h:a8z a a j l):a0c a (j+1) l:=by
 intro p q x y h1 h2 h3 h4 h5
 by_cases hp:p=a
 .subst hp;exact h.2 q x y h2 oZ h4 h5
 .exact h.1 p q x y h1 h2 oZ hp oZ h4 h5
theorem a8z.done1 {l:List It} (h:a8z a k j l) (hak:a<k) (hkj:k<=j) (hk:k<l.length) (hc:¬P.cmp l[k].e.1 (l[k-1]'(by omega)).e.1<0):a0c a (j+1) l:=by
 have ek:l[k]?=some l[k]:=List.getElem?_eq_getElem hk;have ek1:l[k-1]?=some (l[k-1]'(by omega)):=List.getElem?_eq_getElem oZ;have hle:(l[k-1]'(by omega)).le l[k]:=It.b1u hc;intro p q x y h1 h2 h3 h4 h5
 by_cases hp:p=k
 .subst hp;exact h.2 q x y h2 oZ h4 h5
 .by_cases hq:q=k
  .subst hq;rw [ek]at h5;injection h5 with h5;subst h5
   by_cases hpk:p=q-1
   .subst hpk;rw [ek1]at h4;injection h4 with h4;subst h4;exact hle
   .exact It.le_trans (h.1 p (q-1) x _ h1 oZ oZ hp oZ h4 ek1) hle
  .exact h.1 p q x y h1 h2 oZ hp hq h4 h5
section
open Go Go.RowKit
set_option maxHeartbeats 8000000
set_option maxRecDepth 100000
theorem RowI.two {its:List It} (h:RowI v F g o its) (i j:Nat) (hi:i<its.length) (hj:j<its.length) :
 ∃xd xc yd yc,(its[i]'hi).x=.slice xd (its[i]'hi).e.1.length xc/\(its[j]'hj).x=.slice yd (its[j]'hj).e.1.length yc/\KC v.heap.size v g (o+i*2) (its[i]'hi).x (its[i]'hi).e.1 (its[i]'hi).e.2 (o+j*2) (its[j]'hj).x (its[j]'hj).e.1 (its[j]'hj).e.2 v:=by
 have a0:=(h.cel i hi 0 (by simp [It.cs])).1
 have a1:=(h.cel i hi 1 (by simp [It.cs])).1
 have b0:=(h.cel j hj 0 (by simp [It.cs])).1
 have b1:=(h.cel j hj 1 (by simp [It.cs])).1
 have ei:=h.el _ (List.getElem_mem hi)
 have ej:=h.el _ (List.getElem_mem hj)
 have ri:=Ints.read ei
 have rj:=Ints.read ej
 obtain⟨xd,xc,hx,_⟩:=ei
 obtain⟨yd,yc,hy,_⟩:=ej
 exact⟨xd,xc,yd,yc,hx,hy,by simpa [It.cs] using a0,by simpa [It.cs] using a1,by simpa [It.cs] using b0,by simpa [It.cs] using b1,h.lt _ h.own,ri,rj,Nat.le_refl _,Below.refl _ _⟩
theorem RowI.soft {its:List It} (h:RowI v F g o its) (i:Nat) (hi:i<its.length):v.frozen? ⟨g,o+i*2,none⟩=false/\v.frozen? ⟨g,o+i*2+1,none⟩=false:=
 ⟨(h.cel i hi 0 (by simp [It.cs])).2,(h.cel i hi 1 (by simp [It.cs])).2⟩
theorem b0t (its:List It) (F:Blk) (g o cap a b:Nat) (w:World) (h:RowI w F g o its) (hl:its.length<=2^30) (hab:a<=b) (hb:b<=its.length) :
 Cz 258 #[.slice (some ⟨g,o,none⟩) its.length cap,.int .i64 a,.int .i64 b,byF] w λe w'=>e=.returned (.tuple #[])/\∃its',a0l a b its its'/\a0c a b its'/\RowI w' F g o its'/\Chg (λb=>b=g) w w':=by
 have HH:=qh h;clear h
 go_enter func258,ntmps258
 go_wp2
 go_loopw [8] (λi wr=>∃(j:Nat) (m:List It),a+1<=j/\(j<=b\/j=a+1)/\i=.int .i64 j/\a0l a b its m/\a0c a j m/\RowI wr F g o m/\Chg (λb=>b=g) w wr) (λi _=>b-(intOf i).toNat)
 case atStart=>exact⟨a+1,its,Nat.le_refl _,.inr rfl,by go_num,a0l.refl _ _ _,(λi j x y h1 h2 h3=>by omega),HH.o,Chg.refl _ _⟩
 case round=>
  obtain⟨j,m,hj1,hj2,rfl,hp,hs,hr,hc⟩:=hrel;have HP:=qh hp;have HS:=qh hs;have HR:=qh hr;have HC:=qh hc;have HLM:=qh hp.len;clear hp hs hr hc HH
  by_cases hlt:j<b
  .go_wp2_with fail
   go_loopw [9] (λi wr=>∃(k:Nat) (m:List It),a<=k/\k<=j/\i=.int .i64 k/\a0l a b its m/\a8z a k j m/\RowI wr F g o m/\Chg (λb=>b=g) w wr) (λi _=>(intOf i).toNat)
   case atStart=>exact⟨j,m,by omega,Nat.le_refl _,rfl,HP.o,a8z.start HS.o,HR.o,HC.o⟩
   case round=>
    clear HP HS HR HC HLM;obtain⟨k,m2,hk1,hk2,rfl,hp,hh,hr,hc⟩:=hrel;have HP:=qh hp;have HO:=qh hh;have HR:=qh hr;have HC:=qh hc;have hlm:m2.length=its.length:=hp.len;have hkl:k<m2.length:=by omega
    by_cases hak:a<k
    .obtain⟨xd,xc,yd,yc,hx,hy,hkc⟩:=hr.two k (k-1) hkl oZ;have HSTEP:=qh (λh=>hh.step hak hk2 hkl h);have HDONE:=qh (λh=>hh.done1 hak hk2 hkl h);have HSW:=qh (λ(v:World) (h:RowI v F g o m2)=>h.swap k (k-1) hkl oZ oZ);have HPS:=qh (a0l.swap m2 k (k-1) hkl oZ (a:=a) (b:=b) oZ oZ);clear hp hh hr hc;generalize m2[k]=en at *;generalize (m2[k-1]'(by omega))=fn at *;obtain⟨x,Gx,eo,et⟩:=en;obtain⟨y,Gy,fo,ft⟩:=fn;simp only at hx hy hkc HSTEP HDONE HSW;subst hx hy;have HKC:=qh hkc;have hsS:=hkc.step bZ.drew;clear hkc;have h1:(a:Int)<(k:Int):=by omega
     have h2:(k:Int)<(its.length:Int):=by omega
     have hk3:0<k:=by omega
     have hk4:1<=(k:Int):=by omega
     have hw1:IntKind.i64.wrap ((k:Int)-1)=(k:Int)-1:=IntWalk.i64_in _ oZ;have hn3:¬(its.length:Int)<=(k:Int)-1:=by omega
     go_upto_region 4 with fail;refine wp_region_held_drew (S:=KC wr.heap.size wr g (o+k*2) (.slice xd eo.length xc) eo et (o+(k-1)*2) (.slice yd fo.length yc) fo ft) kZ hsS (λhS0=>?_);clear hsS;refine zm65 ?_;refine tk1 3 hS0 ?_;refine tk1 4 hS0 ?_;refine tk1 5 hS0 ?_;refine tk1 6 hS0 ?_;refine tk1 7 (v:=.pointer (some ⟨g,o+k*2,none⟩)) hS0 ?_;refine tk1 8 hS0 ?_;refine tk1 9 hS0 ?_;refine tk1 10 hS0 ?_;refine tk1 11 hS0 ?_;refine tk1 12 (v:=.pointer (some ⟨g,o+(k-1)*2,none⟩)) hS0 ?_;refine tk1 13 hS0 ?_;refine trd 14 λK hK=>?_;have HX:=qh hS0.2.2.2.2.2.1;have HY:=qh hS0.2.2.2.2.2.2.1;have HS1:=qh hS0;go_simp;refine (b2z _ _ eo fo et ft _ HX.o HY.o).mono ?_;rintro e v ⟨rfl,hb⟩;refine zm55 ?_;intro hS1;clear hK K hb;refine zm0 ?_;have HBV:=qh hS1.2.2.2.2.2.2.2.2;have HRV:=qh (HR.o.below HBV.o);have HCV:=qh (HC.o.trans (Below.chg HBV.o _));by_cases hcmp:P.cmp eo fo<0
     .have HCM:=qh hcmp;refine tk1 15 hS1 ?_;refine tk1 16 hS1 ?_;refine wpAnyH_done kZ ?_ _;obtain⟨c1,c2,c3,c4,c5,_⟩:=hS1;obtain⟨f1,f2⟩:=HRV.o.soft k hkl;obtain⟨f3,f4⟩:=HRV.o.soft (k-1) oZ;clear hS0 HS1 HBV HDONE hcmp HX HY HKC HR HC;generalize HVV:v=vv at *;go_upto_region 6 with fail;go_region;obtain⟨hr3,hc3⟩:=HSW.o vv HRV.o;refine zm54 ?_;intro hd HR3;have HC3:=qh ((HCV.o.trans hc3).trans (Below.chg hd _));have HS3:=qh (HSTEP.o HCM.o);have HP3:=qh (HP.o.trans HPS.o);clear hr3 hc3 hd HSTEP HSW HPS HP HRV HCV c1 c2 c3 c4 c5 f1 f2 f3 f4;change Exit.inBlock _ _ _ _ (a8l vv g o k (k-1) ⟨.slice xd eo.length xc,Gx,(eo,et)⟩ ⟨.slice yd fo.length yc,Gy,(fo,ft)⟩).drew;generalize (a8l vv g o k (k-1) ⟨.slice xd eo.length xc,Gx,(eo,et)⟩ ⟨.slice yd fo.length yc,Gy,(fo,ft)⟩).drew=v3 at *;generalize a9q m2 k (k-1) hkl _=m3 at *;go_wp2;go_roundw
      case rel=>exact⟨k-1,m3,by omega,by omega,by go_num,HP3.o,HS3.o,HR3.o,HC3.o⟩
      case measure=>exact zq
     .skip;refine tk1 15 hS1 ?_;refine tk1 16 hS1 ?_;refine wpAnyH_done kZ ?_ _;have HSO:=qh (HDONE.o hcmp);clear hS0 HS1 hS1 HSTEP hcmp HX HY HKC HR HC HBV;exact zq149
    .have hka:k=a:=by omega
     subst hka;have HSO:=qh hh.done0;have h1:¬(k:Int)<(k:Int):=by omega
     clear hp hh hr hc
     go_upto_region 4 with fail
     refine wp_region_held_drew (S:=λ_=>True) kZ trivial (λhS0=>?_);refine tk18 0 hS0 ?_;refine tk18 1 hS0 ?_;refine tk18 2 hS0 ?_;refine tk18 3 hS0 ?_;refine tks 4 hS0 ?_;refine tks 5 hS0 ?_;refine tks 6 hS0 ?_;refine tks 7 hS0 ?_;refine tks 8 hS0 ?_;refine tks 9 hS0 ?_;refine tks 10 hS0 ?_;refine tks 11 hS0 ?_;refine tks 12 hS0 ?_;refine tks 13 hS0 ?_;refine tks 14 hS0 ?_;refine tks 15 hS0 ?_;refine tk18 16 hS0 ?_;refine wpAnyH_done kZ ?_ _;have hd:=(Below.refl wr.heap.size wr).drew;have HRV:=qh (HR.o.below hd);have HCV:=qh (HC.o.trans (Below.chg hd _));clear hd;exact zq149
  .go_wp2
   go_end0
   exact⟨rfl,m,HP.o,(λp q x y h1 h2 h3=>HS.o p q x y h1 h2 oZ),HR.o,HC.o⟩
end
section
structure a2d (l l':List It) (f:Nat->Nat):Prop where
 perm:l'.Perm l
 get:∀k,l'[k]?=l[f k]?
theorem a2d.refl (l:List It):a2d l l id:=⟨List.Perm.refl _,λ_=>rfl⟩
theorem a2d.len {l l':List It} {f:Nat->Nat} (h:a2d l l' f):l'.length=l.length:=h.perm.length_eq
theorem a2d.trans {l m n:List It} {f h:Nat->Nat} (a:a2d l m f) (b:a2d m n h):a2d l n (λk=>f (h k)):=
 ⟨b.perm.trans a.perm,λk=>by rw [b.get,a.get]⟩
theorem a2d.congr {l m:List It} {f h:Nat->Nat} (a:a2d l m f) (e:∀k,f k=h k):a2d l m h:=⟨a.perm,λk=>by rw [<-e k];exact a.get k⟩
def trIx (i j k:Nat):Nat:=if k=j then i else if k=i then j else k
def swIx (a b n k:Nat):Nat:=if a<=k/\k<a+n then k+(b-a) else if b<=k/\k<b+n then k-(b-a) else k
def roIx (a m b k:Nat):Nat:=if k<a\/b<=k then k else if k<a+(b-m) then k+(m-a) else k-(b-m)
theorem a2d.swap (l:List It) (i j:Nat) (hi:i<l.length) (hj:j<l.length):a2d l (a9q l i j hi hj) (trIx i j):=by
 refine⟨List.set_set_perm hi hj,λk=>?_⟩;rw [a5t];unfold trIx
 split
 .exact (List.getElem?_eq_getElem hi).symm
 .split
  .exact (List.getElem?_eq_getElem hj).symm
  .rfl
theorem d2x {n:Nat} (h:a+n<b) (k:Nat):swIx a b n (trIx (a+n) (b+n) k)=swIx a b (n+1) k:=by
 unfold swIx trIx
 repeat' split
 all_goals omega
theorem d6k (a b k:Nat):swIx a b 0 k=k:=by
 unfold swIx
 repeat' split
 all_goals omega
theorem d4u (h1:a<=m) (h2:m-a=b-m) (h3:m<=b) (k:Nat):swIx a m (m-a) k=roIx a m b k:=by
 unfold swIx roIx
 repeat' split
 all_goals omega
theorem d6b (h:j<i) (hi:i<=m) (k:Nat):swIx (m-i) m j (roIx (m-(i-j)) m (m+j) k)=roIx (m-i) m (m+j) k:=by
 unfold swIx roIx
 repeat' split
 all_goals omega
theorem d2r (h:i<j) (hi:i<=m) (k:Nat):swIx (m-i) (m+j-i) i (roIx (m-i) m (m+(j-i)) k)=roIx (m-i) m (m+j) k:=by
 unfold swIx roIx
 repeat' split
 all_goals omega
open Go Go.RowKit
set_option maxHeartbeats 8000000
set_option maxRecDepth 100000
theorem a6m (its:List It) (F:Blk) (g o cap a b n:Nat) (w:World) (h:RowI w F g o its) (hl:its.length<=2^30) (hab:a+n<=b) (hb:b+n<=its.length) :
 Cz 349 #[.slice (some ⟨g,o,none⟩) its.length cap,.int .i64 a,.int .i64 b,.int .i64 n,byF] w λe w'=>e=.returned (.tuple #[])/\∃its',a2d its its' (swIx a b n)/\RowI w' F g o its'/\Chg (λb=>b=g) w w':=by
 have HH:=qh h;clear h
 go_enter func349,ntmps349
 go_wp2
 go_loopw [10] (λi wr=>∃(t:Nat) (m:List It),t<=n/\i=.int .i64 t/\a2d its m (swIx a b t)/\RowI wr F g o m/\Chg (λb=>b=g) w wr) (λi _=>n-(intOf i).toNat)
 case atStart=>exact⟨0,its,Nat.zero_le _,rfl,(a2d.refl its).congr λk=>(d6k a b k).symm,HH.o,Chg.refl _ _⟩
 case round=>
  obtain⟨t,m,ht,rfl,hm,hr,hc⟩:=hrel;have HM:=qh hm;have HR:=qh hr;have HC:=qh hc;have hlm:m.length=its.length:=hm.len
  by_cases hlt:t<n
  .have h1:(t:Int)<(n:Int):=by omega
   have hi1:a+t<m.length:=by omega
   have hi2:b+t<m.length:=by omega
   obtain⟨f1,f2⟩:=hr.soft (a+t) hi1;obtain⟨f3,f4⟩:=hr.soft (b+t) hi2;obtain⟨xd,xc,yd,yc,hx,hy,hkc⟩:=hr.two (a+t) (b+t) hi1 hi2;have HSW:=qh (hr.swap (a+t) (b+t) hi1 hi2 oZ);have HMS:=qh ((hm.trans (a2d.swap m (a+t) (b+t) hi1 hi2)).congr (d2x oZ));clear hm hr hc;generalize m[a+t]=en at *;generalize m[b+t]=fn at *;obtain⟨x,Gx,eo,et⟩:=en;obtain⟨y,Gy,fo,ft⟩:=fn;simp only at hx hy hkc HSW;subst hx hy;obtain⟨c1,c2,c3,c4,c5,_⟩:=hkc;have hw1:IntKind.i64.wrap ((a:Int)+(t:Int))=((a+t:Nat):Int):=by rw [IntWalk.i64_in _ oZ];omega
   have hw2:IntKind.i64.wrap ((b:Int)+(t:Int))=((b+t:Nat):Int):=by rw [IntWalk.i64_in _ oZ];omega
   have hn1:((a+t:Nat):Int)<(its.length:Int):=by omega
   have hn2:((b+t:Nat):Int)<(its.length:Int):=by omega
   clear HR;generalize HVV:wr=vv at *
   go_upto_region 3 with fail
   go_region
   obtain⟨hr3,hc3⟩:=HSW.o;have hd:=(Below.refl (a8l vv g o (a+t) (b+t) ⟨.slice xd eo.length xc,Gx,(eo,et)⟩ ⟨.slice yd fo.length yc,Gy,(fo,ft)⟩).heap.size (a8l vv g o (a+t) (b+t) ⟨.slice xd eo.length xc,Gx,(eo,et)⟩ ⟨.slice yd fo.length yc,Gy,(fo,ft)⟩)).drew;have HR3:=qh (hr3.below hd);have HC3:=qh ((HC.o.trans hc3).trans (Below.chg hd _));clear hr3 hc3 hd HSW HM HC c1 c2 c3 c4 c5 f1 f2 f3 f4
   change Exit.inBlock _ _ _ _ (a8l vv g o (a+t) (b+t) ⟨.slice xd eo.length xc,Gx,(eo,et)⟩ ⟨.slice yd fo.length yc,Gy,(fo,ft)⟩).drew
   generalize (a8l vv g o (a+t) (b+t) ⟨.slice xd eo.length xc,Gx,(eo,et)⟩ ⟨.slice yd fo.length yc,Gy,(fo,ft)⟩).drew=v3 at *;generalize a9q m (a+t) (b+t) _ _=m3 at *;go_wp2
   go_roundw
   case rel=>exact⟨t+1,m3,by omega,by go_num,HMS.o,HR3.o,HC3.o⟩
   case measure=>exact zq
  .have htn:t=n:=by omega
   subst htn;clear hm hr hc;go_wp2
   go_end0
   exact⟨rfl,m,HM.o,HR.o,HC.o⟩
end
section
open Go Go.RowKit
set_option maxHeartbeats 8000000
set_option maxRecDepth 100000
theorem a2o (its:List It) (F:Blk) (g o cap a m b:Nat) (w:World) (h:RowI w F g o its) (hl:its.length<=2^30) (ham:a<m) (hmb:m<b) (hb:b<=its.length) :
 Cz 306 #[.slice (some ⟨g,o,none⟩) its.length cap,.int .i64 a,.int .i64 m,.int .i64 b,byF] w λe w'=>e=.returned (.tuple #[])/\∃its',a2d its its' (roIx a m b)/\RowI w' F g o its'/\Chg (λb=>b=g) w w':=by
 have HH:=qh h;clear h
 have hw1:IntKind.i64.wrap ((m:Int)-(a:Int))=((m-a:Nat):Int):=by rw [IntWalk.i64_in _ oZ];omega
 have hw2:IntKind.i64.wrap ((b:Int)-(m:Int))=((b-m:Nat):Int):=by rw [IntWalk.i64_in _ oZ];omega
 go_enter func306,ntmps306
 go_wp2_with fail
 go_loopw [10,11] (λx y wr=>∃(i j:Nat) (n:List It) (f:Nat->Nat),x=.int .i64 i/\y=.int .i64 j/\0<i/\0<j/\i<=m-a/\j<=b-m/\a2d its n f/\(∀k,f (roIx (m-i) m (m+j) k)=roIx a m b k)/\RowI wr F g o n/\Chg (λb=>b=g) w wr) (λx y _=>(intOf x).toNat+(intOf y).toNat)
 case atStart=>
  refine⟨m-a,b-m,its,id,?_,?_,by omega,by omega,Nat.le_refl _,Nat.le_refl _,a2d.refl its,λk=>?_,HH.o,Chg.refl _ _⟩
  .first|rfl|go_num
  .first|rfl|go_num
  .rw [show m-(m-a)=a by omega,show m+(b-m)=b by omega];rfl
 case round=>
  obtain⟨i,j,n,f,rfl,rfl,hi0,hj0,hia,hjb,hm,hf,hr,hc⟩:=hrel;have HM:=qh hm;have HR:=qh hr;have HC:=qh hc;have HF:=qh hf;have hln:n.length=its.length:=hm.len;clear hm hf hr hc hw1 hw2 HH;have hw3:IntKind.i64.wrap ((m:Int)-(i:Int))=((m-i:Nat):Int):=by rw [IntWalk.i64_in _ oZ];omega
  by_cases hij:i=j
  .subst hij;have hne:((i:Int) != (i:Int))=false:=by simp
   have hcall:=a6m n F g o cap (m-i) m i wr HR.o oZ oZ oZ;rw [hln]at hcall;have HCALL:=qh hcall;clear hcall
   go_wp2_with fail
   refine HCALL.o.mono ?_;rintro e v ⟨rfl,n2,hm2,hr2,hc2⟩
   have HM2:=qh ((HM.o.trans hm2).congr (h:=roIx a m b) (λk=>by
    have e:=d4u (a:=m-i) (m:=m) (b:=m+i) oZ oZ oZ k;rw [show m-(m-i)=i by omega]at e;rw [e];exact HF.o k))
   have HR2:=qh hr2;have HC2:=qh (HC.o.trans hc2);clear hm2 hr2 hc2 HCALL;go_wp2
   go_end0
   exact⟨rfl,n2,HM2.o,HR2.o,HC2.o⟩
  .have hne:((i:Int) != (j:Int))=true:=by simp;omega
   have hnb:¬(i:Int)=(j:Int):=by omega
   by_cases hgt:j<i
   .have h1:(j:Int)<(i:Int):=by omega
    have hw5:IntKind.i64.wrap ((i:Int)-(j:Int))=((i-j:Nat):Int):=by rw [IntWalk.i64_in _ oZ];omega
    have hcall:=a6m n F g o cap (m-i) m j wr HR.o oZ oZ oZ;rw [hln]at hcall;have HCALL:=qh hcall;clear hcall
    go_wp2_with fail
    refine HCALL.o.mono ?_;rintro e v ⟨rfl,n2,hm2,hr2,hc2⟩;have HM2:=qh (HM.o.trans hm2);have HR2:=qh hr2;have HC2:=qh (HC.o.trans hc2);clear hm2 hr2 hc2 HCALL;go_wp2
    go_roundw
    case rel=>exact⟨i-j,j,n2,_,by first|rfl|go_num,rfl,by omega,hj0,by omega,hjb,HM2.o,(λk=>by show f _=_;rw [d6b hgt oZ k];exact HF.o k),HR2.o,HC2.o⟩
    case measure=>exact zq
   .have h1:¬(j:Int)<(i:Int):=by omega
    have hw5:IntKind.i64.wrap ((j:Int)-(i:Int))=((j-i:Nat):Int):=by rw [IntWalk.i64_in _ oZ];omega
    have hw6:IntKind.i64.wrap ((m:Int)+(j:Int))=((m+j:Nat):Int):=by rw [IntWalk.i64_in _ oZ];omega
    have hw7:IntKind.i64.wrap (((m+j:Nat):Int)-(i:Int))=((m+j-i:Nat):Int):=by rw [IntWalk.i64_in _ oZ];omega
    have hw8:IntKind.i64.wrap ((m:Int)+(j:Int)-(i:Int))=((m+j-i:Nat):Int):=by rw [IntWalk.i64_in _ oZ];omega
    have hcall:=a6m n F g o cap (m-i) (m+j-i) i wr HR.o oZ oZ oZ;rw [hln]at hcall;have HCALL:=qh hcall;clear hcall
    go_wp2_with fail
    refine HCALL.o.mono ?_;rintro e v ⟨rfl,n2,hm2,hr2,hc2⟩;have HM2:=qh (HM.o.trans hm2);have HR2:=qh hr2;have HC2:=qh (HC.o.trans hc2);clear hm2 hr2 hc2 HCALL;go_wp2
    go_roundw
    case rel=>exact⟨i,j-i,n2,_,rfl,by first|rfl|go_num,hi0,by omega,hia,by omega,HM2.o,(λk=>by show f _=_;rw [d2r oZ oZ k];exact HF.o k),HR2.o,HC2.o⟩
    case measure=>exact zq
end
theorem a2d.d4w {l l':List It} {f:Nat->Nat} (h:a2d l l' f) (hf:∀k,a<=k->k<b->a<=f k/\f k<b) (hs:∀k,k<a\/b<=k->f k=k):a0l a b l l':=
 ⟨h.perm,λk hk=>by rw [h.get,hs k hk],λk x h1 h2 h3=>⟨f k,(hf k h1 h2).1,(hf k h1 h2).2,by rw [<-h.get];exact h3⟩⟩
def It.lt (s t:It):Prop:=P.cmp s.e.1 t.e.1<0
def upIx (a k q:Nat):Nat:=if a<=q/\q<k then q+1 else if q=k then a else q
theorem d6o (a q:Nat):upIx a a q=q:=by
 unfold upIx
 repeat' split
 all_goals omega
theorem d5k (h:a<=k) (q:Nat):upIx a k (trIx k (k+1) q)=upIx a (k+1) q:=by
 unfold upIx trIx
 repeat' split
 all_goals omega
def dnIx (m k q:Nat):Nat:=if q=k then m else if k<q/\q<=m then q-1 else q
theorem d7d (m q:Nat):dnIx m m q=q:=by
 unfold dnIx
 repeat' split
 all_goals omega
theorem d3g (h:k<=m) (hk:0<k) (q:Nat):dnIx m k (trIx k (k-1) q)=dnIx m (k-1) q:=by
 unfold dnIx trIx
 repeat' split
 all_goals omega
theorem d5b {l l':List It} (h:a2d l l' (upIx a (i-1))) (hs:a0c (a+1) b l) (hi:a+1<=i) (hib:i<=b)
 (lo:∀q x y,a+1<=q->q<i->l[q]?=some x->l[a]?=some y->x.le y) (hi':∀q x y,i<=q->q<b->l[q]?=some x->l[a]?=some y->y.le x):a0l a b l l'/\a0c a b l':=by
 refine⟨h.d4w (λk h1 h2=>?_) (λk hk=>?_),λp q x y h1 h2 h3 h4 h5=>?_⟩
 .unfold upIx;repeat' split
  all_goals omega
 .unfold upIx;repeat' split
  all_goals omega
 .rw [h.get]at h4 h5
  by_cases hp:p<i-1
  .rw [show upIx a (i-1) p=p+1 by unfold upIx;rw [if_pos ⟨h1,hp⟩]]at h4
   by_cases hq:q<i-1
   .rw [show upIx a (i-1) q=q+1 by unfold upIx;rw [if_pos ⟨by omega,hq⟩]]at h5;exact hs (p+1) (q+1) x y oZ oZ oZ h4 h5
   .by_cases hq2:q=i-1
    .rw [show upIx a (i-1) q=a by unfold upIx;rw [if_neg oZ,if_pos hq2]]at h5;exact lo (p+1) x y oZ oZ h4 h5
    .rw [show upIx a (i-1) q=q by unfold upIx;rw [if_neg oZ,if_neg hq2]]at h5;exact hs (p+1) q x y oZ oZ h3 h4 h5
  .rw [show upIx a (i-1) q=q by unfold upIx;rw [if_neg oZ,if_neg oZ]]at h5
   by_cases hp2:p=i-1
   .rw [show upIx a (i-1) p=a by unfold upIx;rw [if_neg oZ,if_pos hp2]]at h4;exact hi' q y x oZ h3 h5 h4
   .rw [show upIx a (i-1) p=p by unfold upIx;rw [if_neg oZ,if_neg hp2]]at h4;exact hs p q x y oZ h2 h3 h4 h5
theorem d7t {l l':List It} (h:a2d l l' (dnIx m i)) (hs:a0c a m l) (hi:a<=i) (him:i<=m)
 (lo:∀q x y,a<=q->q<i->l[q]?=some x->l[m]?=some y->x.le y) (hi':∀q x y,i<=q->q<m->l[q]?=some x->l[m]?=some y->y.le x):a0l a (m+1) l l'/\a0c a (m+1) l':=by
 refine⟨h.d4w (λk h1 h2=>?_) (λk hk=>?_),λp q x y h1 h2 h3 h4 h5=>?_⟩
 .unfold dnIx;repeat' split
  all_goals omega
 .unfold dnIx;repeat' split
  all_goals omega
 .rw [h.get]at h4 h5
  by_cases hp:p<i
  .rw [show dnIx m i p=p by unfold dnIx;rw [if_neg oZ,if_neg oZ]]at h4
   by_cases hq:q<i
   .rw [show dnIx m i q=q by unfold dnIx;rw [if_neg oZ,if_neg oZ]]at h5;exact hs p q x y h1 h2 oZ h4 h5
   .by_cases hq2:q=i
    .rw [show dnIx m i q=m by unfold dnIx;rw [if_pos hq2]]at h5;exact lo p x y h1 hp h4 h5
    .rw [show dnIx m i q=q-1 by unfold dnIx;rw [if_neg hq2,if_pos oZ]]at h5;exact hs p (q-1) x y h1 oZ oZ h4 h5
  .rw [show dnIx m i q=q-1 by unfold dnIx;rw [if_neg oZ,if_pos oZ]]at h5
   by_cases hp2:p=i
   .rw [show dnIx m i p=m by unfold dnIx;rw [if_pos hp2]]at h4;exact hi' (q-1) y x oZ oZ h5 h4
   .rw [show dnIx m i p=p-1 by unfold dnIx;rw [if_neg hp2,if_pos oZ]]at h4;exact hs (p-1) (q-1) x y oZ oZ oZ h4 h5
def Split (a c b:Nat) (l:List It):Prop:=∀p q x y,a<=p->p<c->c<=q->q<b->l[p]?=some x->l[q]?=some y->x.le y
theorem Split.left {l m:List It} (h:Split a c b l) (k:a0l a c l m):Split a c b m:=by
 intro p q x y h1 h2 h3 h4 h5 h6;obtain⟨i,i1,i2,i3⟩:=k.from_ p x h1 h2 h5;rw [k.same q oZ]at h6;exact h i q x y i1 i2 h3 h4 i3 h6
theorem Split.right {l m:List It} (h:Split a c b l) (k:a0l c b l m):Split a c b m:=by
 intro p q x y h1 h2 h3 h4 h5 h6;obtain⟨i,i1,i2,i3⟩:=k.from_ q y h3 h4 h6;rw [k.same p oZ]at h5;exact h p i x y h1 h2 i1 i2 h5 i3
theorem Split.sorted {l:List It} (h:Split a c b l) (h1:a0c a c l) (h2:a0c c b l):a0c a b l:=by
 intro p q x y p1 p2 p3 p4 p5
 by_cases hq:q<c
 .exact h1 p q x y p1 p2 hq p4 p5
 .by_cases hp:p<c
  .exact h p q x y p1 hp oZ p3 p4 p5
  .exact h2 p q x y oZ p2 p3 p4 p5
theorem d2p {l l':List It} (h:a2d l l' (roIx s m (c+m-s))) (h1:a0c a m l) (h2:a0c m b l) (hb:b<=l.length) (hmb:m<b) (hs1:a<=s) (hs2:s<=m) (hs3:s<=c) (hsb:c+m-s<=b)
 (lo:a<s->c+m-s<b->∀x y,l[s-1]?=some x->l[c+m-s]?=some y->x.le y) (hi:s<c->s<m->∀x y,l[s]?=some x->l[c+m-s-1]?=some y->y.le x) :
 a0l a b l l'/\Split a c b l'/\a0c a s l'/\a0c s c l'/\a0c c (c+m-s) l'/\a0c (c+m-s) b l':=by
 have e1:∀k,k<s->roIx s m (c+m-s) k=k:=λk hk=>by unfold roIx;rw [if_pos (.inl hk)]
 have e2:∀k,s<=k->k<c->roIx s m (c+m-s) k=k+(m-s):=λk h1 h2=>by unfold roIx;rw [if_neg oZ,if_pos oZ]
 have e3:∀k,c<=k->k<c+m-s->roIx s m (c+m-s) k=k-(c-s):=λk h1 h2=>by unfold roIx;rw [if_neg oZ,if_neg oZ];omega
 have e4:∀k,c+m-s<=k->roIx s m (c+m-s) k=k:=λk hk=>by unfold roIx;rw [if_pos (.inr hk)]
 refine⟨h.d4w (λk k1 k2=>?_) (λk hk=>?_),λp q x y p1 p2 p3 p4 p5 p6=>?_,λp q x y p1 p2 p3 p4 p5=>?_,λp q x y p1 p2 p3 p4 p5=>?_,λp q x y p1 p2 p3 p4 p5=>?_,λp q x y p1 p2 p3 p4 p5=>?_⟩
 .by_cases g1:k<s
  .rw [e1 k g1];omega
  .by_cases g2:k<c
   .rw [e2 k oZ g2];omega
   .by_cases g3:k<c+m-s
    .rw [e3 k oZ g3];omega
    .rw [e4 k oZ];omega
 .rcases hk with hk|hk
  .exact e1 k oZ
  .exact e4 k oZ
 .rw [h.get]at p5 p6
  have le1:∀i j x y,a<=i->i<=j->j<m->l[i]?=some x->l[j]?=some y->x.le y:=λi j x y g1 g2 g3 g4 g5=>by
   by_cases e:i=j
   .subst e;rw [g4]at g5;injection g5 with g5;subst g5;exact It.le_refl _
   .exact h1 i j x y g1 oZ g3 g4 g5
  have le2:∀i j x y,m<=i->i<=j->j<b->l[i]?=some x->l[j]?=some y->x.le y:=λi j x y g1 g2 g3 g4 g5=>by
   by_cases e:i=j
   .subst e;rw [g4]at g5;injection g5 with g5;subst g5;exact It.le_refl _
   .exact h2 i j x y g1 oZ g3 g4 g5
  by_cases gp:p<s
  .rw [e1 p gp]at p5
   by_cases gq:q<c+m-s
   .rw [e3 q p3 gq]at p6;exact h1 p _ x y p1 oZ oZ p5 p6
   .rw [e4 q oZ]at p6;have k1:l[s-1]?=some (l[s-1]'(by omega)):=List.getElem?_eq_getElem _;have k2:l[c+m-s]?=some (l[c+m-s]'(by omega)):=List.getElem?_eq_getElem _;exact It.le_trans (le1 p (s-1) x _ p1 oZ oZ p5 k1) (It.le_trans (lo oZ oZ _ _ k1 k2) (le2 (c+m-s) q _ y oZ oZ p4 k2 p6))
  .rw [e2 p oZ p2]at p5
   by_cases gq:q<c+m-s
   .rw [e3 q p3 gq]at p6;have k1:l[s]?=some (l[s]'(by omega)):=List.getElem?_eq_getElem _;have k2:l[c+m-s-1]?=some (l[c+m-s-1]'(by omega)):=List.getElem?_eq_getElem _;exact It.le_trans (le2 _ (c+m-s-1) x _ oZ oZ oZ p5 k2) (It.le_trans (hi oZ oZ _ _ k1 k2) (le1 s _ _ y oZ oZ oZ k1 p6))
   .rw [e4 q oZ]at p6;exact h2 _ q x y oZ oZ p4 p5 p6
 .rw [h.get,e1 p oZ]at p4;rw [h.get,e1 q p3]at p5;exact h1 p q x y p1 p2 oZ p4 p5
 .rw [h.get,e2 p p1 oZ]at p4;rw [h.get,e2 q oZ p3]at p5;exact h2 _ _ x y oZ oZ oZ p4 p5
 .rw [h.get,e3 p p1 oZ]at p4;rw [h.get,e3 q oZ p3]at p5;exact h1 _ _ x y oZ oZ oZ p4 p5
 .rw [h.get,e4 p p1]at p4;rw [h.get,e4 q oZ]at p5;exact h2 p q x y oZ p2 p3 p4 p5
section
theorem It.c0s {s t u:It} (h:s.le t) (k:P.cmp t.e.1 u.e.1<0):P.cmp s.e.1 u.e.1<0:=by
 unfold It.le at h
 by_cases e:P.cmp s.e.1 t.e.1=0
 .rw [P.cmp_eq _ _ e];exact k
 .exact P.a5r _ _ _ oZ k
theorem a0c.le {l:List It} (h:a0c a b l) {x y:It} (h1:a<=i) (h2:i<=j) (h3:j<b) (h4:l[i]?=some x) (h5:l[j]?=some y):x.le y:=by
 by_cases e:i=j
 .subst e;rw [h4]at h5;injection h5 with h5;subst h5;exact It.le_refl _
 .exact h i j x y h1 oZ h3 h4 h5
open Go Go.RowKit
set_option maxHeartbeats 8000000
set_option maxRecDepth 100000
def b3a (its:List It) (F:Blk) (g o a b:Nat) (w:World) (e:Ending) (w':World):Prop:=
 e=.returned (.tuple #[])/\∃its',a0l a b its its'/\a0c a b its'/\RowI w' F g o its'/\Chg (λb=>b=g) w w'
def Cut (l:List It) (m i j b:Nat) (t:It):Prop:=
 (∀q s,m<=q->q<i->l[q]?=some s->P.cmp s.e.1 t.e.1<0)/\(∀q s,j<=q->q<b->l[q]?=some s->¬P.cmp s.e.1 t.e.1<0)
theorem Cut.low {l:List It} {t:It} (c:Cut l m i j b t) (hs:a0c m b l) (_h1:m<=h) (h2:h<b) (hl:h<l.length) (hc:P.cmp l[h].e.1 t.e.1<0):Cut l m (h+1) j b t:=
 ⟨λq s q1 q2 q3=>It.c0s (hs.le q1 oZ h2 q3 (List.getElem?_eq_getElem hl)) hc,c.2⟩
theorem Cut.high {l:List It} {t:It} (c:Cut l m i j b t) (hs:a0c m b l) (h1:m<=h) (hl:h<l.length) (hc:¬P.cmp l[h].e.1 t.e.1<0):Cut l m i h b t:=
 ⟨c.1,λ_ _ q1 q2 q3 k=>hc (It.c0s (hs.le h1 q1 q2 (List.getElem?_eq_getElem hl) q3) k)⟩
theorem e0y (its:List It) (F:Blk) (g o cap a m b:Nat) (w:World) (h:RowI w F g o its) (hl:its.length<=2^30) (hm1:m=a+1) (hmb:m<b) (hb:b<=its.length) (hs:a0c m b its) :
 Cz 259 #[.slice (some ⟨g,o,none⟩) its.length cap,.int .i64 a,.int .i64 m,.int .i64 b,byF] w (b3a its F g o a b w):=by
 have HH:=qh h;have HS:=qh hs;clear h hs
 have hd1:((m:Int)-(a:Int)==1)=true:=by rw [beq_iff_eq];omega
 have HM1:=qh hm1;clear hm1
 have hal:a<its.length:=by have:=HM1.o;omega
 obtain⟨ta,hta⟩:∃t,(its[a]'hal)=t:=⟨_,rfl⟩
 have HTA:=qh hta;clear hta
 have HMA:=qh (show a<m by have:=HM1.o;omega)
 go_enter func259,ntmps259
 go_wp2_with fail
 go_loopw [10,11] (λx y wr=>∃i j:Nat,m<=i/\i<=j/\j<=b/\x=.int .i64 i/\y=.int .i64 j/\Cut its m i j b ta/\RowI wr F g o its/\Chg (λb=>b=g) w wr) (λx y _=>(intOf y).toNat-(intOf x).toNat)
 case atStart=>exact⟨m,b,Nat.le_refl _,by omega,Nat.le_refl _,rfl,rfl,⟨λq s h1 h2=>by omega,λq s h1 h2=>by omega⟩,HH.o,Chg.refl _ _⟩
 case round=>
  obtain⟨i,j,hi1,hij,hjb,rfl,rfl,hc,hr,hch⟩:=hrel;have HCU:=qh hc;have HR:=qh hr;have HC:=qh hch;clear hc hr hch HH
  by_cases hlt:i<j
  .obtain⟨h,hh⟩:∃h:Nat,(i+j) / 2=h:=⟨_,rfl⟩;have hhi:((i:Int)+(j:Int)) / 2=(h:Int):=by omega
   have hh1:i<=h:=by omega
   have hh2:h<j:=by omega
   have hhl:h<its.length:=by omega
   clear hh;have h1i:(i:Int)<(j:Int):=by omega
   go_upto_region 5 with fail;try rw [hhi]
   clear hhi;have HLOW:=qh (λhc=>HCU.o.low HS.o oZ oZ hhl hc);have HHIGH:=qh (λhc=>HCU.o.high HS.o oZ hhl hc);obtain⟨xd,xc,yd,yc,hx,hy,hkc⟩:=HR.o.two h a hhl hal;rw [HTA.o]at hy hkc;generalize (its[h]'hhl)=en at *;obtain⟨x,Gx,eo,et⟩:=en;obtain⟨y,Gy,fo,ft⟩:=ta;simp only at hx hy hkc HLOW HHIGH;subst hx hy;have HK0:=qh (hkc.step bZ.drew);clear hkc;have hnp:¬its.length<=h:=by omega
   have hnq:¬its.length<=a:=by omega
   refine wp_region_held_drew (S:=KC wr.heap.size wr g (o+h*2) (.slice xd eo.length xc) eo et (o+a*2) (.slice yd fo.length yc) fo ft) kZ HK0.o (λhS0=>?_);refine zm65 ?_;refine tk1 3 (v:=.pointer (some ⟨g,o+h*2,none⟩)) hS0 ?_;refine tk1 4 hS0 ?_;refine tk1 5 hS0 ?_;refine tk1 6 hS0 ?_;refine tk1 7 (v:=.pointer (some ⟨g,o+a*2,none⟩)) hS0 ?_;refine tk1 8 hS0 ?_;refine trd 9 λK hK=>?_;have HX:=qh hS0.2.2.2.2.2.1;have HY:=qh hS0.2.2.2.2.2.2.1;have HS1:=qh hS0;go_simp;refine (b2z _ _ eo fo et ft _ HX.o HY.o).mono ?_;rintro e v ⟨rfl,hb⟩;refine zm55 ?_;intro hS1;clear hK K hb;refine zm0 ?_;have HBV:=qh hS1.2.2.2.2.2.2.2.2;have HRV:=qh (HR.o.below HBV.o);have HCV:=qh (HC.o.trans (Below.chg HBV.o _));by_cases hcmp:P.cmp eo fo<0
   .have HQ:=qh (HLOW.o hcmp);refine tk1 10 hS1 ?_;exact zq115
   .have HQ:=qh (HHIGH.o hcmp);refine tk1 10 hS1 ?_;exact zq117
  .have hjm:j=i:=by omega
   subst hjm;have hj1:1<=j:=by have:=HMA.o;omega
   have hwi:IntKind.i64.wrap ((j:Int)-1)=((j-1:Nat):Int):=by rw [IntWalk.i64_in _ oZ];omega
   go_wp2_with fail
   go_loopw [13] (λx wr=>∃(k:Nat) (n:List It),a<=k/\k<=j-1/\x=.int .i64 k/\a2d its n (upIx a k)/\RowI wr F g o n/\Chg (λb=>b=g) w wr) (λx _=>j-(intOf x).toNat)
   case atStart=>exact⟨a,its,Nat.le_refl _,by have:=HMA.o;omega,rfl,(a2d.refl its).congr λk=>(d6o a k).symm,HR.o,HC.o⟩
   case round=>
    obtain⟨k,n,hk1,hk2,rfl,hm,hr,hc⟩:=hrel;have hln:n.length=its.length:=hm.len
    by_cases hlt2:k<j-1
    .have h1:(k:Int)<((j-1:Nat):Int):=by omega
     have hi1':k<n.length:=by omega
     have hi2':k+1<n.length:=by omega
     obtain⟨f1,f2⟩:=hr.soft k hi1';obtain⟨f3,f4⟩:=hr.soft (k+1) hi2';obtain⟨xd,xc,yd,yc,hx,hy,hkc⟩:=hr.two k (k+1) hi1' hi2';have HSW:=qh (hr.swap k (k+1) hi1' hi2' oZ);have HMS:=qh ((hm.trans (a2d.swap n k (k+1) hi1' hi2')).congr (d5k hk1));have HC2:=qh hc;clear hm hr hc;generalize n[k]=en at *;generalize n[k+1]=fn at *;obtain⟨x,Gx,eo,et⟩:=en;obtain⟨y,Gy,fo,ft⟩:=fn;simp only at hx hy hkc HSW;subst hx hy;obtain⟨c1,c2,c3,c4,c5,_⟩:=hkc;have hw1:IntKind.i64.wrap ((k:Int)+1)=((k+1:Nat):Int):=by rw [IntWalk.i64_in _ oZ];omega
     have hn1:((k+1:Nat):Int)<(its.length:Int):=by omega
     have hn2:(k:Int)<(its.length:Int):=by omega
     clear HR HC;generalize HVV:wr=vv at *
     go_upto_region 11 with fail
     go_region
     obtain⟨hr3,hc3⟩:=HSW.o;have hd:=(Below.refl (a8l vv g o k (k+1) ⟨.slice xd eo.length xc,Gx,(eo,et)⟩ ⟨.slice yd fo.length yc,Gy,(fo,ft)⟩).heap.size (a8l vv g o k (k+1) ⟨.slice xd eo.length xc,Gx,(eo,et)⟩ ⟨.slice yd fo.length yc,Gy,(fo,ft)⟩)).drew;have HR3:=qh (hr3.below hd);have HC3:=qh ((HC2.o.trans hc3).trans (Below.chg hd _));clear hr3 hc3 hd HSW HC2 c1 c2 c3 c4 c5 f1 f2 f3 f4
     change Exit.inBlock _ _ _ _ (a8l vv g o k (k+1) ⟨.slice xd eo.length xc,Gx,(eo,et)⟩ ⟨.slice yd fo.length yc,Gy,(fo,ft)⟩).drew
     generalize (a8l vv g o k (k+1) ⟨.slice xd eo.length xc,Gx,(eo,et)⟩ ⟨.slice yd fo.length yc,Gy,(fo,ft)⟩).drew=v3 at *;generalize a9q n k (k+1) _ _=n3 at *;go_wp2
     go_roundw
     case rel=>exact⟨k+1,n3,by omega,by omega,by go_num,HMS.o,HR3.o,HC3.o⟩
     case measure=>exact zq
    .have hk:k=j-1:=by omega
     subst hk
     have HSO:=qh (d5b hm (HM1.o ▸ HS.o) (by have:=HM1.o;omega) hjb (λq x y q1 q2 q3 q4=>It.le_of_lt (by
      rw [List.getElem?_eq_getElem hal,HTA.o]at q4;injection q4 with q4;subst q4
      exact HCU.o.1 q x (by have:=HM1.o;omega) q2 q3)) (λq x y q1 q2 q3 q4=>It.b1u (by
      rw [List.getElem?_eq_getElem hal,HTA.o]at q4;injection q4 with q4;subst q4
      exact HCU.o.2 q x q1 q2 q3)))
     have HR2:=qh hr;have HC2:=qh hc;clear hm hr hc;exact zq168
end
section
theorem It.lt_of_lt_of_le {s t u:It} (k:P.cmp s.e.1 t.e.1<0) (h:t.le u):P.cmp s.e.1 u.e.1<0:=by
 unfold It.le at h
 by_cases e:P.cmp t.e.1 u.e.1=0
 .rw [<-P.cmp_eq _ _ e];exact k
 .exact P.a5r _ _ _ k oZ
def CutD (l:List It) (a i j m:Nat) (t:It):Prop:=
 (∀q s,a<=q->q<i->l[q]?=some s->¬P.cmp t.e.1 s.e.1<0)/\(∀q s,j<=q->q<m->l[q]?=some s->P.cmp t.e.1 s.e.1<0)
theorem CutD.low {l:List It} {t:It} (c:CutD l a i j m t) (hs:a0c a m l) (h2:h<m) (hl:h<l.length) (hc:¬P.cmp t.e.1 l[h].e.1<0):CutD l a (h+1) j m t:=
 ⟨λ_ _ q1 q2 q3 k=>hc (It.lt_of_lt_of_le k (hs.le q1 oZ h2 q3 (List.getElem?_eq_getElem hl))),c.2⟩
theorem CutD.high {l:List It} {t:It} (c:CutD l a i j m t) (hs:a0c a m l) (h1:a<=h) (hl:h<l.length) (hc:P.cmp t.e.1 l[h].e.1<0):CutD l a i h m t:=
 ⟨c.1,λ_ _ q1 q2 q3=>It.lt_of_lt_of_le hc (hs.le h1 q1 q2 (List.getElem?_eq_getElem hl) q3)⟩
open Go Go.RowKit
set_option maxHeartbeats 8000000
set_option maxRecDepth 100000
theorem d8d (its:List It) (F:Blk) (g o cap a m b:Nat) (w:World) (h:RowI w F g o its) (hl:its.length<=2^30) (ham:a+1<m) (hm1:b=m+1) (hb:b<=its.length) (hs:a0c a m its) :
 Cz 259 #[.slice (some ⟨g,o,none⟩) its.length cap,.int .i64 a,.int .i64 m,.int .i64 b,byF] w (b3a its F g o a b w):=by
 have HH:=qh h;have HS:=qh hs;clear h hs
 have hd1:((m:Int)-(a:Int)==1)=false:=by rw [beq_eq_false_iff_ne];omega
 have hd2:((b:Int)-(m:Int)==1)=true:=by rw [beq_iff_eq];omega
 have HM1:=qh hm1;clear hm1
 have hal:m<its.length:=by have:=HM1.o;omega
 obtain⟨ta,hta⟩:∃t,(its[m]'hal)=t:=⟨_,rfl⟩
 have HTA:=qh hta;clear hta
 go_enter func259,ntmps259
 go_wp2_with fail
 go_loopw [14,15] (λx y wr=>∃i j:Nat,a<=i/\i<=j/\j<=m/\x=.int .i64 i/\y=.int .i64 j/\CutD its a i j m ta/\RowI wr F g o its/\Chg (λb=>b=g) w wr) (λx y _=>(intOf y).toNat-(intOf x).toNat)
 case atStart=>exact⟨a,m,Nat.le_refl _,by omega,Nat.le_refl _,rfl,rfl,⟨λq s h1 h2=>by omega,λq s h1 h2=>by omega⟩,HH.o,Chg.refl _ _⟩
 case round=>
  obtain⟨i,j,hi1,hij,hjb,rfl,rfl,hc,hr,hch⟩:=hrel;have HCU:=qh hc;have HR:=qh hr;have HC:=qh hch;clear hc hr hch HH
  by_cases hlt:i<j
  .obtain⟨h,hh⟩:∃h:Nat,(i+j) / 2=h:=⟨_,rfl⟩;have hhi:((i:Int)+(j:Int)) / 2=(h:Int):=by omega
   have hh1:i<=h:=by omega
   have hh2:h<j:=by omega
   have hhl:h<its.length:=by omega
   clear hh;have h1i:(i:Int)<(j:Int):=by omega
   go_upto_region 17 with fail;try rw [hhi]
   clear hhi;have HLOW:=qh (λhc=>HCU.o.low HS.o oZ hhl hc);have HHIGH:=qh (λhc=>HCU.o.high HS.o oZ hhl hc);obtain⟨xd,xc,yd,yc,hx,hy,hkc⟩:=HR.o.two m h hal hhl;rw [HTA.o]at hx hkc;generalize (its[h]'hhl)=en at *;obtain⟨y,Gy,fo,ft⟩:=en;obtain⟨x,Gx,eo,et⟩:=ta;simp only at hx hy hkc HLOW HHIGH;subst hx hy;have HK0:=qh (hkc.step bZ.drew);clear hkc;have hnp:¬its.length<=h:=by omega
   have hnq:¬its.length<=m:=by omega
   refine wp_region_held_drew (S:=KC wr.heap.size wr g (o+m*2) (.slice xd eo.length xc) eo et (o+h*2) (.slice yd fo.length yc) fo ft) kZ HK0.o (λhS0=>?_);refine zm65 ?_;refine tk1 3 (v:=.pointer (some ⟨g,o+m*2,none⟩)) hS0 ?_;refine tk1 4 hS0 ?_;refine tk1 5 hS0 ?_;refine tk1 6 hS0 ?_;refine tk1 7 (v:=.pointer (some ⟨g,o+h*2,none⟩)) hS0 ?_;refine tk1 8 hS0 ?_;refine trd 9 λK hK=>?_;have HX:=qh hS0.2.2.2.2.2.1;have HY:=qh hS0.2.2.2.2.2.2.1;have HS1:=qh hS0;go_simp;refine (b2z _ _ eo fo et ft _ HX.o HY.o).mono ?_;rintro e v ⟨rfl,hb⟩;refine zm55 ?_;intro hS1;clear hK K hb;refine zm0 ?_;have HBV:=qh hS1.2.2.2.2.2.2.2.2;have HRV:=qh (HR.o.below HBV.o);have HCV:=qh (HC.o.trans (Below.chg HBV.o _));by_cases hcmp:P.cmp eo fo<0
   .have HQ:=qh (HHIGH.o hcmp);refine tk1 10 hS1 ?_;refine tk1 11 hS1 ?_;exact zq117
   .have HQ:=qh (HLOW.o hcmp);refine tk1 10 hS1 ?_;refine tk1 11 hS1 ?_;exact zq115
  .have hjm:j=i:=by omega
   subst hjm
   go_wp2_with fail
   go_loopw [17] (λx wr=>∃(k:Nat) (n:List It),j<=k/\k<=m/\x=.int .i64 k/\a2d its n (dnIx m k)/\RowI wr F g o n/\Chg (λb=>b=g) w wr) (λx _=>(intOf x).toNat)
   case atStart=>exact⟨m,its,hjb,Nat.le_refl _,rfl,(a2d.refl its).congr λk=>(d7d m k).symm,HR.o,HC.o⟩
   case round=>
    obtain⟨k,n,hk1,hk2,rfl,hm,hr,hc⟩:=hrel;have hln:n.length=its.length:=hm.len
    by_cases hlt2:j<k
    .have h1:(j:Int)<(k:Int):=by omega
     have hi1':k<n.length:=by omega
     have hi2':k-1<n.length:=by omega
     obtain⟨f1,f2⟩:=hr.soft k hi1';obtain⟨f3,f4⟩:=hr.soft (k-1) hi2';obtain⟨xd,xc,yd,yc,hx,hy,hkc⟩:=hr.two k (k-1) hi1' hi2';have HSW:=qh (hr.swap k (k-1) hi1' hi2' oZ);have HMS:=qh ((hm.trans (a2d.swap n k (k-1) hi1' hi2')).congr (d3g hk2 oZ));have HC2:=qh hc;clear hm hr hc;generalize (n[k]'hi1')=en at *;generalize (n[k-1]'hi2')=fn at *;obtain⟨x,Gx,eo,et⟩:=en;obtain⟨y,Gy,fo,ft⟩:=fn;simp only at hx hy hkc HSW;subst hx hy;obtain⟨c1,c2,c3,c4,c5,_⟩:=hkc;have hw1:IntKind.i64.wrap ((k:Int)-1)=(k:Int)-1:=IntWalk.i64_in _ oZ;have hn3:¬(its.length:Int)<=(k:Int)-1:=by omega
     have hn2:(k:Int)<(its.length:Int):=by omega
     have hk3:0<k:=by omega
     have hk4:1<=(k:Int):=by omega
     clear HR HC;generalize HVV:wr=vv at *;go_upto_region 23 with fail;go_region;obtain⟨hr3,hc3⟩:=HSW.o;refine zm54 ?_;intro hd HR3;have HC3:=qh ((HC2.o.trans hc3).trans (Below.chg hd _));clear hr3 hc3 hd HSW HC2 c1 c2 c3 c4 c5 f1 f2 f3 f4;change Exit.inBlock _ _ _ _ (a8l vv g o k (k-1) ⟨.slice xd eo.length xc,Gx,(eo,et)⟩ ⟨.slice yd fo.length yc,Gy,(fo,ft)⟩).drew;generalize (a8l vv g o k (k-1) ⟨.slice xd eo.length xc,Gx,(eo,et)⟩ ⟨.slice yd fo.length yc,Gy,(fo,ft)⟩).drew=v3 at *;generalize a9q n k (k-1) _ _=n3 at *;go_wp2;go_roundw
     case rel=>exact⟨k-1,n3,by omega,by omega,by go_num,HMS.o,HR3.o,HC3.o⟩
     case measure=>exact zq
    .have hk:k=j:=by omega
     subst hk
     have hso:=d7t hm HS.o hi1 hjb (λq x y q1 q2 q3 q4=>It.b1u (by
      rw [List.getElem?_eq_getElem hal,HTA.o]at q4;injection q4 with q4;subst q4
      exact HCU.o.1 q x q1 q2 q3)) (λq x y q1 q2 q3 q4=>It.le_of_lt (by
      rw [List.getElem?_eq_getElem hal,HTA.o]at q4;injection q4 with q4;subst q4
      exact HCU.o.2 q x q1 q2 q3))
     rw [<-HM1.o]at hso;have HSO:=qh hso;have HR2:=qh hr;have HC2:=qh hc;clear hm hr hc hso;exact zq168
end
def Bin (l:List It) (c m s0 r0 j r:Nat):Prop:=
 (∀q s t,s0<=q->q<j->l[q]?=some s->l[c+m-1-q]?=some t->s.le t)/\(∀q s t,r<=q->q<r0->l[q]?=some s->l[c+m-1-q]?=some t->P.cmp t.e.1 s.e.1<0)
theorem Bin.start (l:List It) (c m s0 r0:Nat):Bin l c m s0 r0 s0 r0:=
 ⟨λ_ _ _ h1 h2=>by omega,λ_ _ _ h1 h2=>by omega⟩
theorem Bin.low {l:List It} (k:Bin l c m s0 r0 j r) (h1:a0c a m l) (h2:a0c m b l) (hs:a<=s0) (hsb:c+m-1-s0<b) (hh:s0<=h) (_hr:h<r0) (hrm:r0<=m) (hrc:r0<=c)
 (hl:h<l.length) (hq:c+m-1-h<l.length) (hc:¬P.cmp (l[c+m-1-h]'hq).e.1 (l[h]'hl).e.1<0):Bin l c m s0 r0 (h+1) r:=by
 refine⟨λq s t q1 q2 q3 q4=>?_,k.2⟩
 have k1:l[h]?=some (l[h]'hl):=List.getElem?_eq_getElem hl
 have k2:l[c+m-1-h]?=some (l[c+m-1-h]'hq):=List.getElem?_eq_getElem hq
 exact It.le_trans (h1.le oZ oZ oZ q3 k1) (It.le_trans (It.b1u hc) (h2.le oZ oZ oZ k2 q4))
theorem Bin.high {l:List It} (k:Bin l c m s0 r0 j r) (h1:a0c a m l) (h2:a0c m b l) (hs:a<=s0) (hsb:c+m-1-s0<b) (hh:s0<=h) (_hr:h<r0) (hrm:r0<=m) (hrc:r0<=c)
 (hl:h<l.length) (hq:c+m-1-h<l.length) (hc:P.cmp (l[c+m-1-h]'hq).e.1 (l[h]'hl).e.1<0):Bin l c m s0 r0 j h:=by
 refine⟨k.1,λq s t q1 q2 q3 q4=>?_⟩
 have k1:l[h]?=some (l[h]'hl):=List.getElem?_eq_getElem hl
 have k2:l[c+m-1-h]?=some (l[c+m-1-h]'hq):=List.getElem?_eq_getElem hq
 exact It.c0s (h2.le oZ oZ oZ q4 k2) (It.lt_of_lt_of_le hc (h1.le oZ q1 oZ k1 q3))
theorem Bin.done {l l':List It} (k:Bin l c m s0 r0 s s) (h1:a0c a m l) (h2:a0c m b l) (hb:b<=l.length) (hmb:m<b) (hc:(m>c/\s0=c+m-b/\r0=c)\/(m<=c/\s0=a/\r0=m)) (_hca:a<=c) (hcb:c<b) (hab:a+b<=2*c+1) (hab2:2*c<=a+b)
 (hs1:s0<=s) (hs2:s<=r0) (hm:a2d l l' (roIx s m (c+m-s))):a0l a b l l'/\Split a c b l'/\a0c a s l'/\a0c s c l'/\a0c c (c+m-s) l'/\a0c (c+m-s) b l':=by
 refine d2p hm h1 h2 hb hmb oZ oZ oZ oZ (λg1 g2 x y g3 g4=>?_) (λg1 g2 x y g3 g4=>?_)
 .exact k.1 (s-1) x y oZ oZ g3 (by rw [show c+m-1-(s-1)=c+m-s by omega];exact g4)
 .exact It.le_of_lt (k.2 s x y lZ oZ g3 (by rw [show c+m-1-s=c+m-s-1 by omega];exact g4))
end Go.Proofs.YtggfdnopminemaaGreatDoor
