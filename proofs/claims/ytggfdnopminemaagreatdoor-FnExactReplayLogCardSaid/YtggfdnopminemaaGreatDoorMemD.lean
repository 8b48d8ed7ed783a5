/- Memory of a call's own: rows of records, as they are read and written. Walks: the law's own functions on rows of ints: a copy, a mark, what is held. Walks: the law's own functions on entries: a copy. Walks: the law's own functions on entries: they are equal. Walks: the law's own functions on entries: a mark, what is held. Walks: the law's own functions on a dictionary: a mark, what is held. -/
import Derived.Test.YtggfdnopminemaaGreatDoorZt
import Derived.Test.YtggfdnopminemaaGreatDoorD12
namespace Go.Proofs.YtggfdnopminemaaGreatDoor
section
open Go Go.RowKit
set_option maxHeartbeats 400000
abbrev Blk:=Nat→Prop
def Bet (lo hi b:Nat):Prop:=lo≤b∧b<hi
structure Chg (F:Blk) (w w':World):Prop where
 os:w'.os=w.os
 tape:w'.tape=w.tape
 output:w'.output=w.output
 size:w.heap.size≤w'.heap.size
 block:∀b,b<w.heap.size→¬F b→w'.heap[b]?=w.heap[b]?
theorem Chg.refl (F:Blk) (w:World):Chg F w w:=⟨rfl,rfl,rfl,Nat.le_refl _,fun _ _ _=>rfl⟩
theorem Chg.trans {F:Blk} {a b c:World} (h:Chg F a b) (k:Chg F b c):Chg F a c:=
 ⟨k.os.trans h.os,k.tape.trans h.tape,k.output.trans h.output,Nat.le_trans h.size k.size,fun i hi hf=>(k.block i (Nat.lt_of_lt_of_le hi h.size) hf).trans (h.block i hi hf)⟩
theorem Chg.mono {F F':Blk} {w w':World} (h:Chg F w w') (hF:∀b,b<w.heap.size→F b→F' b):Chg F' w w':=
 ⟨h.os,h.tape,h.output,h.size,fun b hb hf=>h.block b hb fun h'=>hf (hF b hb h')⟩
theorem Below.chg {w w':World} (h:Below w.heap.size w w') (F:Blk):Chg F w w':=⟨h.os,h.tape,h.output,h.size,fun b hb _=>h.block b hb⟩
theorem Chg.below {F:Blk} {B:Nat} {w w':World} (h:Chg F w w') (hB:B≤w.heap.size) (hF:∀b,F b→B≤b):Below B w w':=
 ⟨h.os,h.tape,h.output,h.size,fun b hb=>h.block b (Nat.lt_of_lt_of_le hb hB) fun h'=>absurd (hF b h') (Nat.not_le.2 hb)⟩
theorem Chg.drew {F:Blk} {a w:World} (h:Chg F a w):Chg F a w.drew:=⟨h.os,h.tape,h.output,h.size,h.block⟩
theorem Chg.alloc {F:Blk} {a w:World} (h:Chg F a w) (o:Obj):Chg F a (w.alloc o):=
 h.trans (Below.chg (bZ.alloc lZ o) F)
theorem Chg.setCell {F:Blk} {a w:World} (h:Chg F a w) {p:Addr} (hp:F p.block) (u:Value):Chg F a (w.setCell p u):=
 h.trans ⟨rfl,rfl,rfl,by simp [World.setCell],fun b _ hf=>Below.heap_setCell _ _ _ _ (by rintro rfl;exact hf hp)⟩
theorem Chg.cell {F:Blk} {w w':World} (h:Chg F w w') {p:Addr} (hp:p.block<w.heap.size) (hf:¬F p.block):w'.cell? p=w.cell? p:=World.cell?_of_block (w:=w) (h.block _ hp hf)
theorem Chg.frozen {F:Blk} {w w':World} (h:Chg F w w') {p:Addr} (hp:p.block<w.heap.size) (hf:¬F p.block):w'.frozen? p=w.frozen? p:=World.frozen?_of_block (w:=w) (h.block _ hp hf)
def Kept (F:Blk) (v v':World):Prop:=v.heap.size≤v'.heap.size∧∀b,F b→v'.heap[b]?=v.heap[b]?
theorem Kept.of_chg {F X:Blk} {v v':World} (h:Chg X v v') (hl:∀b,F b→b<v.heap.size) (hx:∀b,F b→¬X b):Kept F v v':=⟨h.size,fun b hb=>h.block b (hl b hb) (hx b hb)⟩
theorem Kept.mono {F F':Blk} {v v':World} (h:Kept F v v') (hF:∀b,F' b→F b):Kept F' v v':=⟨h.1,fun b hb=>h.2 b (hF b hb)⟩
def Cel (v:World) (g o:Nat) (cs:List Value):Prop:=∀(i:Nat) (h:i<cs.length),v.cell? ⟨g,o+i,none⟩=some (cs[i]'h)∧v.frozen? ⟨g,o+i,none⟩=false
theorem Cel.keep {v v':World} {g o:Nat} {cs:List Value} (h:Cel v g o cs) (hb:v'.heap[g]?=v.heap[g]?):Cel v' g o cs:=
 fun i hi=>⟨(World.cell?_of_block (w:=v) (a:=⟨g,o+i,none⟩) hb).trans (h i hi).1,(World.frozen?_of_block (w:=v) (a:=⟨g,o+i,none⟩) hb).trans (h i hi).2⟩
abbrev ElT (α:Type):=World→Blk→List Value→α→Prop
structure ElOk {α:Type} (E:ElT α):Prop where
 keep:∀{v v' F cs a},E v F cs a→Kept F v v'→E v' F cs a
 wide:∀{v F F' cs a},E v F cs a→(∀b,F b→F' b)→(∀b,F' b→b<v.heap.size)→E v F' cs a
variable {α:Type} {E:ElT α} {wd:Nat}
structure RowC (wd:Nat) (E:ElT α) (v:World) (F:Blk) (g o:Nat) (G:Nat→Blk) (C:Nat→List Value) (l:List α):Prop where
 own:F g
 lt:∀b,F b→b<v.heap.size
 cel:∀j,j<l.length→Cel v g (o+j*wd) (C j)
 wid:∀j,j<l.length→(C j).length=wd
 el:∀j (h:j<l.length),E v (G j) (C j) (l[j]'h)
 sub:∀j,j<l.length→∀b,G j b→F b∧b≠g
 apart:∀i j,i<j→j<l.length→∀b,G i b→G j b→False
def RowO (wd:Nat) (E:ElT α) (v:World) (F:Blk) (u:Value) (l:List α):Prop:=
 ∃(ad:Option Addr) (cap:Nat),u=.slice ad l.length cap∧l.length≤2^30∧((ad=none→cap=0)∧l.length≤cap)∧(l=[]∨∃g o G C,ad=some ⟨g,o,none⟩∧RowC wd E v F g o G C l)
theorem RowC.keep (hE:ElOk E) {v v':World} {F:Blk} {g o:Nat} {G:Nat→Blk} {C:Nat→List Value} {l:List α} (h:RowC wd E v F g o G C l) (hk:Kept F v v'):RowC wd E v' F g o G C l:=
 ⟨h.own,fun b hb=>Nat.lt_of_lt_of_le (h.lt b hb) hk.1,fun j hj=>(h.cel j hj).keep (hk.2 _ h.own),h.wid,fun j hj=>hE.keep (h.el j hj) (hk.mono fun b hb=>(h.sub j hj b hb).1),h.sub,h.apart⟩
theorem RowC.wide {v:World} {F F':Blk} {g o:Nat} {G:Nat→Blk} {C:Nat→List Value} {l:List α} (h:RowC wd E v F g o G C l) (hF:∀b,F b→F' b) (hl:∀b,F' b→b<v.heap.size):RowC wd E v F' g o G C l:=
 ⟨hF _ h.own,hl,h.cel,h.wid,h.el,fun j hj b hb=>⟨hF _ (h.sub j hj b hb).1,(h.sub j hj b hb).2⟩,h.apart⟩
theorem RowO.keep (hE:ElOk E) {v v':World} {F:Blk} {u:Value} {l:List α} (h:RowO wd E v F u l) (hk:Kept F v v'):RowO wd E v' F u l:=by
 obtain⟨ad,cap,h1,h2,hn,h3⟩:=h;refine⟨ad,cap,h1,h2,hn,h3.imp id ?_⟩;rintro⟨g,o,G,C,h4,h5⟩;exact⟨g,o,G,C,h4,h5.keep hE hk⟩
theorem RowO.wide {v:World} {F F':Blk} {u:Value} {l:List α} (h:RowO wd E v F u l) (hF:∀b,F b→F' b) (hl:∀b,F' b→b<v.heap.size):RowO wd E v F' u l:=by
 obtain⟨ad,cap,h1,h2,hn,h3⟩:=h;refine⟨ad,cap,h1,h2,hn,h3.imp id ?_⟩;rintro⟨g,o,G,C,h4,h5⟩;exact⟨g,o,G,C,h4,h5.wide hF hl⟩
theorem RowO.stand (hE:ElOk E) {v v':World} {F X:Blk} {u:Value} {l:List α} (h:RowO wd E v F u l) (hc:Chg X v v') (hx:∀b,F b→¬X b):RowO wd E v' F u l:=by
 obtain⟨ad,cap,h1,h2,hn,h3⟩:=h;refine⟨ad,cap,h1,h2,hn,h3.imp id ?_⟩;rintro⟨g,o,G,C,h4,h5⟩;exact⟨g,o,G,C,h4,h5.keep hE (Kept.of_chg hc h5.lt hx)⟩
theorem RowO.below (hE:ElOk E) {v v':World} {F:Blk} {u:Value} {l:List α} (h:RowO wd E v F u l) (hb:Below v.heap.size v v'):RowO wd E v' F u l:=
 h.stand hE (Below.chg hb fun _=>False) fun _ _ h=>h
theorem RowO.nil (v:World) (F:Blk):RowO wd E v F (.slice none 0 0) ([]:List α):=⟨none,0,rfl,by simp,⟨fun _=>rfl,Nat.zero_le _⟩,.inl rfl⟩
theorem RowO.empty (v:World) (F:Blk) (a:Addr) (cap:Nat):RowO wd E v F (.slice (some a) 0 cap) ([]:List α):=⟨some a,cap,rfl,by simp,⟨(fun h=>by cases h),Nat.zero_le _⟩,.inl rfl⟩
theorem RowC.put (hE:ElOk E) {v v':World} {F:Blk} {g o:Nat} {G:Nat→Blk} {C:Nat→List Value} {l:List α} (h:RowC wd E v F g o G C l) (j:Nat) (hj:j<l.length) (F' G':Blk) (cs:List Value) (a:α)
 (hF:∀b,F b→F' b) (hF':∀b,F' b→b<v'.heap.size) (hsz:v.heap.size≤v'.heap.size)
 (hcs:Cel v' g (o+j*wd) cs) (hw:cs.length=wd) (ha:E v' G' cs a) (hG:∀b,G' b→F' b∧b≠g)
 (hap:∀i,i<l.length→i≠j→∀b,G i b→G' b→False)
 (hoc:∀i,i<l.length→i≠j→Cel v' g (o+i*wd) (C i))
 (hok:∀i,i<l.length→i≠j→∀b,G i b→v'.heap[b]?=v.heap[b]?) :
 RowC wd E v' F' g o (fun i=>if i=j then G' else G i) (fun i=>if i=j then cs else C i) (l.set j a):=by
 refine⟨hF _ h.own,hF',fun i hi=>?_,fun i hi=>?_,fun i hi=>?_,fun i hi=>?_,fun i k hik hk=>?_⟩
 ·rw [List.length_set]at hi
  show Cel v' g (o+i*wd) (if i=j then cs else C i)
  split
  ·rename_i e;subst e;exact hcs
  ·rename_i e;exact hoc i hi e
 ·rw [List.length_set]at hi
  show (if i=j then cs else C i).length=wd
  split
  ·exact hw
  ·exact h.wid i hi
 ·simp only [List.getElem_set];rw [List.length_set]at hi
  by_cases e:i=j
  ·subst e;simp only [if_true];exact ha
  ·have e':¬j=i:=fun h=>e h.symm;simp only [e,e',if_false];exact hE.keep (h.el i hi) ⟨hsz,hok i hi e⟩
 ·rw [List.length_set]at hi
  show ∀b,(if i=j then G' else G i) b→_
  split
  ·exact hG
  ·exact fun b hb=>⟨hF _ (h.sub i hi b hb).1,(h.sub i hi b hb).2⟩
 ·rw [List.length_set]at hk
  show ∀b,(if i=j then G' else G i) b→(if k=j then G' else G k) b→False
  by_cases e:i=j
  ·subst e;rw [if_pos rfl,if_neg oZ];exact fun b h1 h2=>hap k hk oZ b h2 h1
  ·rw [if_neg e]
   by_cases e':k=j
   ·subst e';rw [if_pos rfl];exact hap i oZ e
   ·rw [if_neg e'];exact h.apart i k hik hk
theorem Cel.set_other {v:World} {g o p:Nat} {cs:List Value} (h:Cel v g o cs) (hp:p<o∨o+cs.length≤p) (x:Value):Cel (v.setCell ⟨g,p,none⟩ x) g o cs:=by
 intro i hi;refine⟨?_,?_⟩
 ·rw [World.cell?_setCell_other _ _ _ _ (by intro e;injection e;omega)];exact (h i hi).1
 ·simpa using (h i hi).2
theorem Cel.set_at {v:World} {g o:Nat} {cs:List Value} (h:Cel v g o cs) (i:Nat) (hi:i<cs.length) (x:Value):Cel (v.setCell ⟨g,o+i,none⟩ x) g o (cs.set i x):=by
 intro j hj;rw [List.length_set]at hj;refine⟨?_,?_⟩
 ·rw [List.getElem_set]
  split
  ·rename_i e;subst e;exact World.cell?_setCell_same _ _ _ (h i hi).1
  ·rename_i e
   rw [World.cell?_setCell_other _ _ _ _ (by intro e';injection e';omega)];exact (h j hj).1
 ·simpa using (h j hj).2
theorem cel_out {wd o i j:Nat} (hij:i≠j) (k:Nat) (hk:k<wd):o+j*wd+k<o+i*wd∨o+i*wd+wd≤o+j*wd+k:=by
 rcases Nat.lt_or_gt_of_ne hij with h|h
 ·right
  have:=Nat.mul_le_mul_right wd (show i+1≤j by omega);rw [Nat.add_mul]at this;omega
 ·left
  have:=Nat.mul_le_mul_right wd (show j+1≤i by omega);rw [Nat.add_mul]at this;omega
def intE:ElT Int:=fun _ _ cs n=>cs=[.int .i64 n]
theorem intE_ok:ElOk intE:=⟨fun h _=>h,fun h _ _=>h⟩
def entE:ElT P.Ent:=fun v F cs e=>∃x,cs=[x,.string (S e.2)]∧RowO 1 intE v F x e.1
theorem entE_ok:ElOk entE:=
 ⟨fun⟨x,h,k⟩ hk=>⟨x,h,k.keep intE_ok hk⟩,fun⟨x,h,k⟩ hF hl=>⟨x,h,k.wide hF hl⟩⟩
abbrev Ints:=RowO 1 intE
abbrev Ents:=RowO 2 entE
theorem Ints.read {v:World} {F:Blk} {u:Value} {l:List Int} (h:Ints v F u l):IntR v u l:=by
 obtain⟨ad,cap,h1,h2,hn,h3⟩:=h;refine⟨ad,cap,h1,by omega,hn.1,h3.imp id ?_⟩;rintro⟨g,o,G,C,h4,h5⟩;refine⟨g,o,h4,h5.lt _ h5.own,fun j hj=>?_⟩;have he:C j=[.int .i64 l[j]]:=h5.el j hj;have hc:=(h5.cel j hj 0 (by rw [he];simp)).1;simp only [he,List.getElem_cons_zero,Nat.mul_one,Nat.add_zero]at hc;exact hc
theorem Ents.read {v:World} {F:Blk} {u:Value} {l:P.Dic} (h:Ents v F u l):EntR v u l:=by
 obtain⟨ad,cap,h1,h2,hn,h3⟩:=h;refine⟨ad,cap,h1,by omega,hn.1,h3.imp id ?_⟩;rintro⟨g,o,G,C,h4,h5⟩;refine⟨g,o,h4,h5.lt _ h5.own,fun j hj=>?_⟩;obtain⟨x,he,hx⟩:=h5.el j hj;have hc:=(h5.cel j hj 0 (by rw [he];simp)).1;have hd:=(h5.cel j hj 1 (by rw [he];simp)).1;simp only [he,List.getElem_cons_zero,List.getElem_cons_succ,Nat.add_zero]at hc hd;exact⟨x,hc,hd,Ints.read hx⟩
end
section
namespace P
end P
open Go Go.RowKit
set_option maxHeartbeats 1000000
set_option maxRecDepth 100000
abbrev ints (l:List Int):List Value:=l.map (Value.int .i64)
theorem ints_of_cel {v:World} {F:Blk} {g o cap:Nat} {l:List Int} (h:Cel v g o (ints l)) (hF:F g) (hl:∀b,F b→b<v.heap.size) (hn:l.length≤2^30) (hcp:l.length≤cap):Ints v F (.slice (some ⟨g,o,none⟩) l.length cap) l:=by
 refine⟨_,_,rfl,hn,⟨(fun h=>by cases h),hcp⟩,.inr ⟨g,o,fun _ _=>False,fun j=>[.int .i64 (l[j]?.getD 0)],rfl,hF,hl,fun j hj i hi=>?_,fun _ _=>rfl,fun j hj=>?_,fun _ _ _ h=>h.elim,fun _ _ _ _ _ h _=>h⟩⟩
 ·have hi0:i=0:=by simpa using hi
  subst hi0;have:=h j (by simpa using hj)
  simpa [List.getElem?_eq_getElem hj] using this
 ·show [_]=[_]
  rw [List.getElem?_eq_getElem hj];rfl
theorem info_int:(Tryz.prog.info? 3).map (fun i=>(i.zero,i.size,i.bytes))=some (some (.int .i64 0),1,8):=by kernel_rfl
theorem run_mkI (k:Nat) (w:World) (hk:k≤2^20):(Instr.makeSlice 33 (.int .i64 k) (.int .i64 k)).run Tryz.prog w=.ok (.slice (some ⟨w.heap.size,0,none⟩) k k) (w.alloc (.cells (madeCells #[.int .i64 0] k) 3)):=by
 obtain⟨i,hi,he⟩:=Option.map_eq_some_iff.mp info_int;simp only [Prod.mk.injEq]at he;obtain⟨hz,hs,hb⟩:=he;have h:=run_make (P:=Tryz.prog) w 33 3 i (.int .i64 0) Tryz.underlying33 hi hz .i64 .i64 k k oZ oZ (by rw [hb];omega) oZ;rw [hs]at h
 simpa [Value.cells] using h
theorem made_at (z:Array Value) (n j:Nat) (hj:j<n) (hz:0<z.size):(madeCells z n)[j]?=some (z[j % z.size]'(Nat.mod_lt _ hz)):=by
 rw [Array.getElem?_eq_getElem (by rw [size_madeCells];exact hj)];simp [madeCells,Nat.mod_lt _ hz]
theorem made_rec (z:Array Value) (k j:Nat) (w:World) (t:TypeId) (hj:j<k):Cel (w.alloc (.cells (madeCells z (k*z.size)) t)) w.heap.size (0+j*z.size) z.toList:=by
 intro i hi;have hi':i<z.size:=by simpa using hi
 have hlt:0+j*z.size+i<k*z.size:=by
  have:=Nat.mul_le_mul_right z.size (show j+1≤k by omega);rw [Nat.add_mul]at this;omega
 refine⟨(World.cell?_alloc_new w _ t _).trans ?_,World.frozen?_alloc_new _ _ _ _⟩;rw [made_at z _ _ hlt oZ];have e:(0+j*z.size+i) % z.size=i:=by rw [Nat.zero_add,Nat.mul_comm,Nat.mul_add_mod,Nat.mod_eq_of_lt hi']
 simp only [e,Array.getElem_toList]
theorem made_cel (z:Value) (k:Nat) (w:World) (t:TypeId):Cel (w.alloc (.cells (madeCells #[z] k) t)) w.heap.size 0 (List.replicate k z):=by
 intro j hj;have hj':j<k:=by simpa using hj
 have h:=made_rec #[z] k j w t hj' 0 sZ;simp only [List.size_toArray,List.length_cons,List.length_nil,Nat.zero_add,Nat.mul_one,Nat.add_zero,List.getElem_cons_zero]at h⊢
 simpa using h
theorem replicate_ints (k:Nat):ints (List.replicate k 0)=List.replicate k (.int .i64 0):=by simp [ints]
def IntsPost (l:List Int) (w:World) (e:Ending) (w':World):Prop:=∃u,e=.returned u∧Ints w' (Bet w.heap.size w'.heap.size) u l∧Below w.heap.size w w'
theorem take_set {α:Type} (m l:List α) (j:Nat) (hm:m.length=l.length) (hj:j<l.length) (h:m.take j=l.take j):(m.set j l[j]).take (j+1)=l.take (j+1):=by
 rw [take_snoc l j hj,take_snoc (m.set j l[j]) j (by rw [List.length_set];omega),List.take_set_of_le (Nat.le_refl j),h];simp
theorem toIntS (u:Value) (l:List Int) (w:World) (hu:IntR w u l) (hl:l.length≤2^20) :
 Calls Tryz.prog 176 #[u] w (IntsPost l w):=by
 have HU:=qh hu
 obtain⟨ad,cap,rfl,_,_⟩:=hu
 have hmk:=run_mkI l.length w hl
 have HM:=qh (made_cel (.int .i64 0) l.length w 3)
 have HB:=qh ((Below.refl w.heap.size w).alloc lZ (.cells (madeCells #[.int .i64 0] l.length) 3))
 go_enter Tryz.func176,Tryz.ntmps176
 go_wp2
 go_loopw [4] (fun i wr=>∃j:Nat,j≤l.length∧i=.int .i64 j∧(∃m:List Int,m.length=l.length∧m.take j=l.take j∧Cel wr w.heap.size 0 (ints m))∧wr.heap.size=w.heap.size+1∧Below w.heap.size w wr) (fun i _=>l.length-(intOf i).toNat)
 case atStart=>exact⟨0,Nat.zero_le _,rfl,⟨List.replicate l.length 0,by simp,by simp,by rw [replicate_ints];exact HM.o⟩,by simp,HB.o⟩
 case round=>
  obtain⟨j,hj,rfl,⟨m,hm,ht,hc⟩,hz,hb⟩:=hrel;have HT:=qh ht;have HML:=qh hm;have HZ:=qh hz;have HC:=qh hc;clear ht hz hmk
  by_cases hlt:j<l.length
  ·obtain⟨g,o,hga,hgl,c0⟩:=(HU.o.below hb).at j hlt;have hjm:j<(ints m).length:=by rw [List.length_map];omega
   have d0:=(hc j hjm).1;have f0:=(hc j hjm).2;simp only [Nat.zero_add]at d0 f0;have HBB:=qh hb;have HTS:=qh (take_set m l j hm hlt HT.o);subst hga;generalize l[j]=x at *;generalize (ints m)[j]=y at *;have i1:(j:Int)<(l.length:Int):=by omega
   clear hb hc hm;go_wp2
   go_roundw
   case rel=>exact⟨j+1,by omega,by go_num,⟨m.set j x,by rw [List.length_set];exact HML.o,HTS.o,by have:=HC.o.set_at j hjm (.int .i64 x);simpa [ints,List.map_set] using this⟩,by simpa [World.setCell] using HZ.o,HBB.o.setCell lZ _⟩
   case measure=>simp [intOf];omega
  ·have hjl:l.length=j:=by omega
   have HML':=qh (show m=l by have:=HT.o;rwa [List.take_of_length_le oZ,List.take_of_length_le oZ]at this);have HBB:=qh hb;clear hb hc hm;go_wp2;go_ret;refine⟨_,rfl,?_,HBB.o⟩;have:=HC.o;rw [HML'.o]at this;exact ints_of_cel this ⟨Nat.le_refl _,by rw [HZ.o];omega⟩ (fun b hb=>hb.2) oZ lZ
end
section
open Go Go.RowKit
set_option maxHeartbeats 1000000
set_option maxRecDepth 100000
def EntPost (l:List Int) (t:Str) (w:World) (e:Ending) (w':World):Prop:=∃u,e=.returned (.agg #[u,.string (S t)])∧Ints w' (Bet w.heap.size w'.heap.size) u l∧Below w.heap.size w w'
theorem toEntry (u:Value) (l:List Int) (t:Str) (w:World) (hu:IntR w u l) (hl:l.length≤2^20) :
 Calls Tryz.prog 160 #[.agg #[u,.string (S t)]] w (EntPost l t w):=by
 have hb0:Below w.heap.size w (((w.alloc (.cells #[u,.string (S t)] 181)).alloc (.cells #[.slice none 0 0,.string (S [])] 119)).alloc (.cells #[.slice none 0 0,.string (S [])] 119)):=
  (((Below.refl w.heap.size w).alloc lZ _).alloc sZ _).alloc (by simp;omega) _
 have HU:=qh (hu.below hb0)
 have HB0:=qh hb0;clear hb0
 obtain⟨ad,cap,rfl,_,_⟩:=hu
 go_enter Tryz.func160,Tryz.ntmps160
 go_wp2_with fail
 refine (toIntS _ l _ HU.o hl).mono ?_
 rintro e w1 ⟨u',rfl,hI,hb⟩
 have hz:w.heap.size+2<w1.heap.size:=by have:=hb.size;simp at this;omega
 obtain⟨hcc,hff⟩:=bcell hb
 have c1:w1.cell? ⟨w.heap.size,1,none⟩=some (.string (S t)):=by rw [hcc _ _ (by simp;omega)];go_simp
 have r0:w1.cell? ⟨w.heap.size+1,0,none⟩=some (.slice none 0 0):=by rw [hcc _ _ sZ];go_simp
 have r1:w1.cell? ⟨w.heap.size+1,1,none⟩=some (.string (S [])):=by rw [hcc _ _ sZ];go_simp
 have q0:w1.cell? ⟨w.heap.size+2,0,none⟩=some (.slice none 0 0):=by rw [hcc _ _ sZ];go_simp
 have q1:w1.cell? ⟨w.heap.size+2,1,none⟩=some (.string (S [])):=by rw [hcc _ _ sZ];go_simp
 have s0:w1.frozen? ⟨w.heap.size+1,0,none⟩=false:=by rw [hff _ _ sZ];go_simp
 have s1:w1.frozen? ⟨w.heap.size+1,1,none⟩=false:=by rw [hff _ _ sZ];go_simp
 have p0:w1.frozen? ⟨w.heap.size+2,0,none⟩=false:=by rw [hff _ _ sZ];go_simp
 have p1:w1.frozen? ⟨w.heap.size+2,1,none⟩=false:=by rw [hff _ _ sZ];go_simp
 have HI:=qh hI
 have HB1:=qh (HB0.o.trans (hb.mono (by simp;omega)))
 obtain⟨ad',cap',rfl,_,_⟩:=hI
 clear hb hcc hff HU HB0
 go_wp2
 refine bodyPost_ret (v:=.agg #[.slice ad' l.length cap',.string (S t)]) (by simp [results,Tryz.results160,go_sem,r0,r1]) rfl ⟨_,rfl,?_,?_⟩
 ·refine (HI.o.stand (X:=fun b=>b<w.heap.size+3) intE_ok (((((Chg.refl _ w1).setCell ?_ _).setCell ?_ _).setCell ?_ _).setCell ?_ _) ?_).wide ?_ ?_
  ·simp
  ·simp
  ·simp
  ·simp
  ·intro b hb;simp [Bet]at hb⊢;omega
  ·intro b hb;simp [Bet,World.setCell]at hb⊢;omega
  ·intro b hb;exact hb.2
 ·exact (((HB1.o.setCell (by simp;omega) _).setCell (by simp;omega) _).setCell sZ _).setCell sZ _
theorem info_ent:(Tryz.prog.info? 119).map (fun i=>(i.zero,i.size,i.bytes))=some (some (.agg #[.slice none 0 0,.string ⟨#[]⟩]),2,40):=by kernel_rfl
theorem run_mkE (k:Nat) (w:World) (hk:k≤2^20):(Instr.makeSlice 24 (.int .i64 k) (.int .i64 k)).run Tryz.prog w=.ok (.slice (some ⟨w.heap.size,0,none⟩) k k) (w.alloc (.cells (madeCells #[.slice none 0 0,.string (S [])] (k*2)) 119)):=by
 rw [show S []=⟨#[]⟩ from rfl];obtain⟨i,hi,he⟩:=Option.map_eq_some_iff.mp info_ent;simp only [Prod.mk.injEq]at he;obtain⟨hz,hs,hb⟩:=he;have h:=run_make (P:=Tryz.prog) w 24 119 i (.agg #[.slice none 0 0,.string ⟨#[]⟩]) Tryz.underlying24 hi hz .i64 .i64 k k oZ oZ (by rw [hb];omega) oZ;rw [hs,Int.toNat_natCast]at h
 simpa [Value.cells] using h
def noEnt:P.Ent:=([],[])
theorem made_ents (k:Nat) (w:World) (t:TypeId):RowC 2 entE (w.alloc (.cells (madeCells #[.slice none 0 0,.string (S [])] (k*2)) t)) (Bet w.heap.size (w.heap.size+1)) w.heap.size 0 (fun _ _=>False) (fun _=>[.slice none 0 0,.string (S [])]) (List.replicate k noEnt):=by
 refine⟨⟨Nat.le_refl _,by omega⟩,fun b hb=>by simpa using hb.2,fun j hj=>?_,fun _ _=>rfl,fun j hj=>?_,fun _ _ _ h=>h.elim,fun _ _ _ _ _ h _=>h⟩
 ·exact made_rec #[.slice none 0 0,.string (S [])] k j w t (by simpa using hj)
 ·rw [List.getElem_replicate];exact⟨_,rfl,RowO.nil _ _⟩
def CopyE (B j:Nat) (l:P.Dic) (v:World):Prop:=∃(m:P.Dic) (G:Nat→Blk) (C:Nat→List Value),m.length=l.length∧m.take j=l.take j∧RowC 2 entE v (Bet B v.heap.size) B 0 G C m
theorem CopyE.cells {B j:Nat} {l:P.Dic} {v:World} (h:CopyE B j l v) (hj:j<l.length):∃x y,v.cell? ⟨B,j*2,none⟩=some x∧v.cell? ⟨B,j*2+1,none⟩=some y∧v.frozen? ⟨B,j*2,none⟩=false∧v.frozen? ⟨B,j*2+1,none⟩=false:=by
 obtain⟨m,G,C,hm,_,h⟩:=h;have hw:=h.wid j oZ;have a:=h.cel j oZ 0 oZ;have b:=h.cel j oZ 1 oZ;rw [Nat.zero_add]at a b;exact⟨_,_,a.1,b.1,a.2,b.2⟩
theorem CopyE.put {B j:Nat} {l:P.Dic} {v v1:World} (h:CopyE B j l v) (hj:j<l.length) (hB:B<v.heap.size) {u:Value} (hb:Below v.heap.size v v1) (hI:Ints v1 (Bet v.heap.size v1.heap.size) u l[j].1) :
 CopyE B (j+1) l ((v1.setCell ⟨B,j*2,none⟩ u).setCell ⟨B,j*2+1,none⟩ (.string (S l[j].2))):=by
 obtain⟨m,G,C,hm,ht,h⟩:=h
 have hs:((v1.setCell ⟨B,j*2,none⟩ u).setCell ⟨B,j*2+1,none⟩ (.string (S l[j].2))).heap.size=v1.heap.size:=by simp [World.setCell]
 have hblk:∀b,b≠B→((v1.setCell ⟨B,j*2,none⟩ u).setCell ⟨B,j*2+1,none⟩ (.string (S l[j].2))).heap[b]?=v1.heap[b]?:=by
  intro b hb;rw [Below.heap_setCell _ _ _ _ hb,Below.heap_setCell _ _ _ _ hb]
 have h1:RowC 2 entE v1 (Bet B v.heap.size) B 0 G C m:=h.keep entE_ok ⟨hb.size,fun b hb'=>hb.block b hb'.2⟩
 refine⟨m.set j l[j],_,_,by rw [List.length_set];exact hm,?_,h1.put entE_ok j oZ (Bet B ((v1.setCell ⟨B,j*2,none⟩ u).setCell ⟨B,j*2+1,none⟩ (.string (S l[j].2))).heap.size) (Bet v.heap.size v1.heap.size) [u,.string (S l[j].2)] l[j] ?_ ?_ ?_ ?_ rfl ?_ ?_ ?_ ?_ ?_⟩
 ·rw [take_snoc l j hj,take_snoc (m.set j l[j]) j (by rw [List.length_set];omega),List.take_set_of_le (Nat.le_refl j),ht];simp
 ·intro b hb';rw [hs];exact⟨hb'.1,Nat.lt_of_lt_of_le hb'.2 hb.size⟩
 ·intro b hb';exact hb'.2
 ·rw [hs];exact Nat.le_refl _
 ·have hc:=h1.cel j oZ;have hw:=h1.wid j oZ;have e:=(hc.set_at 0 oZ u).set_at 1 (by rw [List.length_set];omega) (.string (S l[j].2));simp only [Nat.zero_add,Nat.add_zero]at e⊢
  obtain⟨x,y,hxy⟩:∃x y,C j=[x,y]:=by
   match hC:C j,hw with
   |[x,y],_=>exact⟨x,y,rfl⟩
  rw [hxy]at e;exact e
 ·refine⟨u,rfl,(hI.stand (X:=fun b=>b=B) intE_ok (((Chg.refl (fun b=>b=B) v1).setCell (p:=⟨B,j*2,none⟩) rfl _).setCell (p:=⟨B,j*2+1,none⟩) rfl _) ?_)⟩;rintro b hb' rfl;exact absurd hb'.1 oZ
 ·intro b hb';rw [hs];exact⟨⟨by have:=hb'.1;omega,hb'.2⟩,by have:=hb'.1;omega⟩
 ·intro i hi hij b h2 h3;have:=(h1.sub i hi b h2).1.2;have:=h3.1;omega
 ·intro i hi hij;have hw:=h1.wid i hi;have hc:=h1.cel i hi;have o0:=cel_out (wd:=2) (o:=0) hij 0 oZ;have o1:=cel_out (wd:=2) (o:=0) hij 1 oZ;refine (hc.set_other ?_ _).set_other ?_ _<;>rw [hw]<;>omega
 ·intro i hi hij b hb';exact hblk b (h1.sub i hi b hb').2
def EntsPost (l:P.Dic) (w:World) (e:Ending) (w':World):Prop:=∃u,e=.returned u∧Ents w' (Bet w.heap.size w'.heap.size) u l∧Below w.heap.size w w'
theorem toEntryS (u:Value) (l:P.Dic) (w:World) (hu:EntR w u l) (hl:l.length≤2^20) (hle:∀e∈l,e.1.length≤2^20) :
 Calls Tryz.prog 89 #[u] w (EntsPost l w):=by
 have HU:=qh hu
 have HLE:=qh hle;clear hle
 obtain⟨ad,cap,rfl,_,_⟩:=hu
 have hmk:=run_mkE l.length w hl
 have HC0:=qh (show CopyE w.heap.size 0 l (w.alloc (.cells (madeCells #[.slice none 0 0,.string (S [])] (l.length*2)) 119)) from
  ⟨_,_,_,by simp,by simp,(made_ents l.length w 119).wide (fun b hb=>⟨hb.1,by simpa using hb.2⟩) (fun b hb=>hb.2)⟩)
 have HB:=qh ((Below.refl w.heap.size w).alloc lZ (.cells (madeCells #[.slice none 0 0,.string (S [])] (l.length*2)) 119))
 go_enter Tryz.func89,Tryz.ntmps89
 go_wp2
 go_loopw [4] (fun i wr=>∃j:Nat,j≤l.length∧i=.int .i64 j∧CopyE w.heap.size j l wr∧w.heap.size<wr.heap.size∧Below w.heap.size w wr) (fun i _=>l.length-(intOf i).toNat)
 case atStart=>exact⟨0,Nat.zero_le _,rfl,HC0.o,by simp,HB.o⟩
 case round=>
  obtain⟨j,hj,rfl,hc,hz,hb⟩:=hrel;have HC:=qh hc;have HBB:=qh hb;clear hmk HC0 HB
  by_cases hlt:j<l.length
  ·obtain⟨g,o,hga,hgl,x,c0,c1,hx⟩:=(HU.o.below hb).at j hlt;obtain⟨y0,y1,d0,d1,f0,f1⟩:=hc.cells hlt;have HX:=qh hx;have hll:=HLE.o _ (List.getElem_mem hlt);have HPUT:=qh (fun (v1:World) (u:Value) (h1:Below wr.heap.size wr v1) (h2:Ints v1 (Bet wr.heap.size v1.heap.size) u l[j].1)=>CopyE.put HC.o hlt hz h1 h2);obtain⟨xd,xc,rfl,_,_⟩:=hx;subst hga;generalize l[j]=en at *;obtain⟨eo,et⟩:=en;simp only at c1 hll HX HPUT;have i1:(j:Int)<(l.length:Int):=by omega
   clear hb hc
   go_wp2_with fail
   refine (toEntry _ eo et _ HX.o hll).mono ?_;rintro e v1 ⟨u1,rfl,hI,hb1⟩;obtain⟨hcc,hff⟩:=bcell hb1;have d0':=(hcc w.heap.size (j*2) hz).trans d0;have d1':=(hcc w.heap.size (j*2+1) hz).trans d1;have f0':=(hff w.heap.size (j*2) hz).trans f0;have f1':=(hff w.heap.size (j*2+1) hz).trans f1;have HPP:=qh (HPUT.o v1 u1 hb1 hI);obtain⟨ad1,cap1,rfl,_,_⟩:=hI;have hz1:=Nat.lt_of_lt_of_le hz hb1.size;have HB1:=qh (HBB.o.trans (hb1.mono (Nat.le_of_lt hz)));clear hcc hff hb1 d0 d1 f0 f1;go_wp2
   go_roundw
   case rel=>exact⟨j+1,by omega,by go_num,HPP.o,by simpa [World.setCell] using hz1,(HB1.o.setCell lZ _).setCell lZ _⟩
   case measure=>simp [intOf];omega
  ·have hjl:l.length=j:=by omega
   clear hb hc;go_wp2;go_ret;refine⟨_,rfl,?_,HBB.o⟩;obtain⟨m,G,C,hm,ht,hr⟩:=HC.o;have e:m=l:=by rwa [List.take_of_length_le oZ,List.take_of_length_le oZ]at ht
   rw [e]at hr;exact⟨_,_,by first|rfl|rw [hjl],by omega,⟨(fun h=>by cases h),by first|exact Nat.le_refl _|omega⟩,.inr ⟨_,_,_,_,rfl,hr⟩⟩
def DicPost (l:P.Dic) (w:World) (e:Ending) (w':World):Prop:=∃u,e=.returned (.agg #[u])∧Ents w' (Bet w.heap.size w'.heap.size) u l∧Below w.heap.size w w'
theorem toDictionary (u:Value) (l:P.Dic) (w:World) (hu:EntR w u l) (hl:l.length≤2^20) (hle:∀e∈l,e.1.length≤2^20) :
 Calls Tryz.prog 30 #[.agg #[u]] w (DicPost l w):=by
 have hb0:Below w.heap.size w (((w.alloc (.cells #[u] 63)).alloc (.cells #[.slice none 0 0] 26)).alloc (.cells #[.slice none 0 0] 26)):=
  (((Below.refl w.heap.size w).alloc lZ _).alloc sZ _).alloc (by simp;omega) _
 have HU:=qh (hu.below hb0)
 have HB0:=qh hb0;clear hb0
 have HLE:=qh hle;clear hle
 obtain⟨ad,cap,rfl,_,_⟩:=hu
 go_enter Tryz.func30,Tryz.ntmps30
 go_wp2_with fail
 refine (toEntryS _ l _ HU.o hl HLE.o).mono ?_
 rintro e w1 ⟨u',rfl,hI,hb⟩
 have hz:w.heap.size+2<w1.heap.size:=by have:=hb.size;simp at this;omega
 obtain⟨hcc,hff⟩:=bcell hb
 have r0:w1.cell? ⟨w.heap.size+1,0,none⟩=some (.slice none 0 0):=by rw [hcc _ _ sZ];go_simp
 have q0:w1.cell? ⟨w.heap.size+2,0,none⟩=some (.slice none 0 0):=by rw [hcc _ _ sZ];go_simp
 have s0:w1.frozen? ⟨w.heap.size+1,0,none⟩=false:=by rw [hff _ _ sZ];go_simp
 have p0:w1.frozen? ⟨w.heap.size+2,0,none⟩=false:=by rw [hff _ _ sZ];go_simp
 have HI:=qh hI
 have HB1:=qh (HB0.o.trans (hb.mono (by simp;omega)))
 obtain⟨ad',cap',rfl,_,_⟩:=hI
 clear hb hcc hff HU HB0
 go_wp2
 refine bodyPost_ret (v:=.agg #[.slice ad' l.length cap']) (by simp [results,Tryz.results30,go_sem,r0]) rfl ⟨_,rfl,?_,?_⟩
 ·refine (HI.o.stand (X:=fun b=>b<w.heap.size+3) entE_ok (((Chg.refl _ w1).setCell ?_ _).setCell ?_ _) ?_).wide ?_ ?_
  ·simp
  ·simp
  ·intro b hb;simp [Bet]at hb⊢;omega
  ·intro b hb;simp [Bet,World.setCell]at hb⊢;omega
  ·intro b hb;exact hb.2
 ·exact (HB1.o.setCell (by simp;omega) _).setCell sZ _
end
section
open Go Go.RowKit
set_option maxHeartbeats 1000000
set_option maxRecDepth 100000
theorem eqIntS (u v:Value) (l:List Int) (w:World) (hu:IntR w u l) (hv:IntR w v l) :
 Calls Tryz.prog 177 #[u,v] w fun e w'=>e=.returned (.bool true)∧Below w.heap.size w w':=by
 have HU:=qh hu;have HV:=qh hv
 obtain⟨ad,cap,rfl,hla,_⟩:=hu
 obtain⟨bd,dap,rfl,_,_⟩:=hv
 go_enter Tryz.func177,Tryz.ntmps177
 go_wp2
 go_loopw [5] (fun i wr=>∃j:Nat,j≤l.length∧i=.int .i64 j∧Below w.heap.size w wr) (fun i _=>l.length-(intOf i).toNat)
 case atStart=>exact⟨0,Nat.zero_le _,rfl,Below.refl _ _⟩
 case round=>
  obtain⟨j,hj,rfl,hb⟩:=hrel;have HB:=qh hb
  by_cases hlt:j<l.length
  ·obtain⟨g,o,hga,hgl,c0⟩:=(HU.o.below hb).at j hlt;obtain⟨g',o',hgb,hgl',d0⟩:=(HV.o.below hb).at j hlt;subst hga hgb;generalize l[j]=x at *;clear hb;have i1:(j:Int)<(l.length:Int):=by omega
   go_wp2_with fail
   go_quiet (fail)
   go_wp2
   go_roundw
   case rel=>exact⟨j+1,by omega,by go_num,below_drewN HB.o _⟩
   case measure=>simp [intOf];omega
  ·clear hb;go_wp2;go_ret;exact⟨rfl,HB.o⟩
theorem eqEntry (u v:Value) (l:List Int) (t:Str) (w:World) (hu:IntR w u l) (hv:IntR w v l) :
 Calls Tryz.prog 161 #[.agg #[u,.string (S t)],.agg #[v,.string (S t)]] w fun e w'=>e=.returned (.bool true)∧Below w.heap.size w w':=by
 have hb0:Below w.heap.size w ((w.alloc (.cells #[u,.string (S t)] 119)).alloc (.cells #[v,.string (S t)] 119)):=
  ((Below.refl w.heap.size w).alloc lZ _).alloc sZ _
 have HU:=qh (hu.below hb0);have HV:=qh (hv.below hb0)
 have HB0:=qh hb0;clear hb0
 obtain⟨ad,cap,rfl,hla,_⟩:=hu
 obtain⟨bd,dap,rfl,_,_⟩:=hv
 go_enter Tryz.func161,Tryz.ntmps161
 go_wp2_with fail
 refine (eqIntS _ _ l _ HU.o HV.o).mono ?_
 rintro e w1 ⟨rfl,hb⟩
 have hz:w.heap.size+1<w1.heap.size:=by have:=hb.size;simp at this;omega
 obtain⟨hcc,hff⟩:=bcell hb
 have r1:w1.cell? ⟨w.heap.size,1,none⟩=some (.string (S t)):=by rw [hcc _ _ (by simp;omega)];go_simp
 have q1:w1.cell? ⟨w.heap.size+1,1,none⟩=some (.string (S t)):=by rw [hcc _ _ sZ];go_simp
 have HB1:=qh (HB0.o.trans (hb.mono (by simp;omega)))
 clear hb hcc hff HU HV HB0
 go_wp2
 first|go_quiet (fail)|skip
 go_wp2
 go_ret
 exact⟨rfl,by first|exact HB1.o|exact below_drewN HB1.o _⟩
def KE (w:World) (c p:Nat) (x:Value) (g q:Nat) (y:Value) (eo:List Int) (et:Str) (v:World):Prop:=
 v.cell? ⟨c,p,none⟩=some x∧v.cell? ⟨c,p+1,none⟩=some (.string (S et))∧v.cell? ⟨g,q,none⟩=some y∧v.cell? ⟨g,q+1,none⟩=some (.string (S et))∧c<v.heap.size∧g<v.heap.size∧IntR v x eo∧IntR v y eo∧w.heap.size≤v.heap.size∧Below w.heap.size w v
theorem KE.step {w v v':World} {c p g q:Nat} {x y:Value} {eo:List Int} {et:Str} (h:KE w c p x g q y eo et v) (hb:Below v.heap.size v v'):KE w c p x g q y eo et v':=by
 obtain⟨h1,h2,h3,h4,h5,h6,h7,h8,h9,h10⟩:=h
 exact⟨(hb.cell (p:=⟨c,p,none⟩) h5).trans h1,(hb.cell (p:=⟨c,p+1,none⟩) h5).trans h2,(hb.cell (p:=⟨g,q,none⟩) h6).trans h3,(hb.cell (p:=⟨g,q+1,none⟩) h6).trans h4,
  Nat.lt_of_lt_of_le h5 hb.size,Nat.lt_of_lt_of_le h6 hb.size,h7.below hb,h8.below hb,Nat.le_trans h9 hb.size,h10.trans (hb.mono h9)⟩
theorem eqEntryS (u v:Value) (l:P.Dic) (w:World) (hu:EntR w u l) (hv:EntR w v l) :
 Calls Tryz.prog 90 #[u,v] w fun e w'=>e=.returned (.bool true)∧Below w.heap.size w w':=by
 have HU:=qh hu;have HV:=qh hv
 obtain⟨ad,cap,rfl,hla,_⟩:=hu
 obtain⟨bd,dap,rfl,_,_⟩:=hv
 go_enter Tryz.func90,Tryz.ntmps90
 go_wp2
 go_loopw [5] (fun i wr=>∃j:Nat,j≤l.length∧i=.int .i64 j∧Below w.heap.size w wr) (fun i _=>l.length-(intOf i).toNat)
 case atStart=>exact⟨0,Nat.zero_le _,rfl,Below.refl _ _⟩
 case round=>
  obtain⟨j,hj,rfl,hb⟩:=hrel;have HB:=qh hb
  by_cases hlt:j<l.length
  ·obtain⟨c,p,hga,hgl,x,c0,c1,hx⟩:=(HU.o.below hb).at j hlt;obtain⟨g,q,hgb,hgl',y,d0,d1,hy⟩:=(HV.o.below hb).at j hlt;subst hga hgb;have HS:=qh (show KE w c (p+j*2) x g (q+j*2) y l[j].1 l[j].2 wr.drew from KE.step ⟨c0,c1,d0,d1,hgl,hgl',hx,hy,hb.size,hb⟩ bZ.drew);obtain⟨xd,xc,rfl,_,_⟩:=hx;obtain⟨yd,yc,rfl,_,_⟩:=hy;generalize l[j]=en at *;obtain⟨eo,et⟩:=en;simp only at c0 c1 d0 d1 HS;clear hb;have i1:(j:Int)<(l.length:Int):=by omega
   go_upto_region 6 with fail
   refine wp_region_held_drew (S:=KE w c (p+j*2) (.slice xd eo.length xc) g (q+j*2) (.slice yd eo.length yc) eo et) kZ HS.o (fun hS0=>?_);refine tk0 0 hS0 ?_;refine tk0 1 hS0 ?_;refine tk0 2 (v:=.pointer (some ⟨c,p+j*2,none⟩)) hS0 ?_;refine tk0 3 hS0 ?_;refine tk0 4 hS0 ?_;refine tk0 5 hS0 ?_;refine tk0 6 (v:=.pointer (some ⟨g,q+j*2,none⟩)) hS0 ?_;refine tk0 7 hS0 ?_;refine trd 8 fun K hK=>?_;have HS1:=qh hS0;have HX:=qh hS0.2.2.2.2.2.2.1;have HY:=qh hS0.2.2.2.2.2.2.2.1;go_simp;refine (eqEntry _ _ eo et _ HX.o HY.o).mono ?_;rintro e v ⟨rfl,hb⟩;refine hK.out _ _ (HS1.o.step hb) (fun hS1=>?_);clear hK K hb
   try simp only [qA,qB,qC,Act.put,qD,qE,qF]
   refine tk0 9 hS1 ?_;refine wpAnyH_done kZ ?_ _;have HB2:=qh (hS1.2.2.2.2.2.2.2.2.2);clear hS0 hS1 HS1;go_wp2
   go_roundw
   case rel=>exact⟨j+1,by omega,by go_num,HB2.o⟩
   case measure=>simp [intOf];omega
  ·clear hb;go_wp2;go_ret;exact⟨rfl,HB.o⟩
theorem eqDictionary (u v:Value) (l:P.Dic) (w:World) (hu:EntR w u l) (hv:EntR w v l) :
 Calls Tryz.prog 32 #[.agg #[u],.agg #[v]] w fun e w'=>e=.returned (.bool true)∧Below w.heap.size w w':=by
 have hb0:Below w.heap.size w ((w.alloc (.cells #[u] 26)).alloc (.cells #[v] 26)):=
  ((Below.refl w.heap.size w).alloc lZ _).alloc sZ _
 have HU:=qh (hu.below hb0);have HV:=qh (hv.below hb0)
 have HB0:=qh hb0;clear hb0
 obtain⟨ad,cap,rfl,hla,_⟩:=hu
 obtain⟨bd,dap,rfl,_,_⟩:=hv
 go_enter Tryz.func32,Tryz.ntmps32
 go_wp2_with fail
 refine (eqEntryS _ _ l _ HU.o HV.o).mono ?_
 rintro e w1 ⟨rfl,hb⟩
 have HB1:=qh (HB0.o.trans (hb.mono (by simp;omega)))
 clear hb HU HV HB0
 go_wp2
 go_ret
 exact⟨rfl,HB1.o⟩
end
section
namespace P
end P
open Go Go.RowKit
set_option maxHeartbeats 1000000
set_option maxRecDepth 100000
end
section
namespace P
def sizeE:Dic→Int
 |[]=>0
 |e::l=>e.1.length+e.2.length+sizeE l
theorem sizeE_snoc (e:Ent):∀l:Dic,sizeE (l++[e])=sizeE l+e.1.length+e.2.length
 |[]=>by simp [sizeE]
 |x::l=>by simp only [List.cons_append,sizeE];rw [sizeE_snoc e l];omega
theorem sizeE_nonneg:∀l:Dic,0≤sizeE l
 |[]=>Int.le_refl 0
 |e::l=>by have:=sizeE_nonneg l;simp only [sizeE];omega
theorem sizeE_mem {e:Ent}:∀{l:Dic},e∈l→(e.1.length:Int)≤sizeE l∧(e.2.length:Int)≤sizeE l
 |[],h=>by cases h
 |x::l,h=>by
  have:=sizeE_nonneg l;simp only [sizeE]
  rcases List.mem_cons.1 h with rfl|h
  ·omega
  ·have:=sizeE_mem h;omega
end P
open Go Go.RowKit
set_option maxHeartbeats 1000000
set_option maxRecDepth 100000
end
end Go.Proofs.YtggfdnopminemaaGreatDoor
