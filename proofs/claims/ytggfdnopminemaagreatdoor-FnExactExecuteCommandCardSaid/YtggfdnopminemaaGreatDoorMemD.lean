/- Memory of a call's own: rows of records, as they are read and written. Walks: the law's own functions on rows of ints: a copy, a mark, what is held. Walks: the law's own functions on entries: a copy. Walks: the law's own functions on entries: they are equal. Walks: the law's own functions on entries: a mark, what is held. Walks: the law's own functions on a dictionary: a mark, what is held. -/
import Derived.Test.YtggfdnopminemaaGreatDoorZt
import Derived.Test.YtggfdnopminemaaGreatDoorD12
namespace Go.Proofs.YtggfdnopminemaaGreatDoor
section
open Go Go.RowKit
set_option maxHeartbeats 400000
abbrev Blk:=Nat→Prop
def Bet (lo hi b:Nat):Prop:=lo≤b∧b<hi
structure Chg (F:Blk) (w w':World):Prop where
 os:w'.os=w.os
 tape:w'.tape=w.tape
 output:w'.output=w.output
 size:w.heap.size≤w'.heap.size
 block:∀b,b<w.heap.size→¬F b→w'.heap[b]?=w.heap[b]?
theorem Chg.refl (F:Blk) (w:World):Chg F w w:=⟨rfl,rfl,rfl,Nat.le_refl _,fun _ _ _=>rfl⟩
theorem Chg.trans {F:Blk} {a b c:World} (h:Chg F a b) (k:Chg F b c):Chg F a c:=
 ⟨k.os.trans h.os,k.tape.trans h.tape,k.output.trans h.output,Nat.le_trans h.size k.size,fun i hi hf=>(k.block i (Nat.lt_of_lt_of_le hi h.size) hf).trans (h.block i hi hf)⟩
theorem Chg.mono {F F':Blk} {w w':World} (h:Chg F w w') (hF:∀b,b<w.heap.size→F b→F' b):Chg F' w w':=
 ⟨h.os,h.tape,h.output,h.size,fun b hb hf=>h.block b hb fun h'=>hf (hF b hb h')⟩
theorem Below.chg {w w':World} (h:Below w.heap.size w w') (F:Blk):Chg F w w':=⟨h.os,h.tape,h.output,h.size,fun b hb _=>h.block b hb⟩
theorem Chg.below {F:Blk} {B:Nat} {w w':World} (h:Chg F w w') (hB:B≤w.heap.size) (hF:∀b,F b→B≤b):Below B w w':=
 ⟨h.os,h.tape,h.output,h.size,fun b hb=>h.block b (Nat.lt_of_lt_of_le hb hB) fun h'=>absurd (hF b h') (Nat.not_le.2 hb)⟩
theorem Chg.drew {F:Blk} {a w:World} (h:Chg F a w):Chg F a w.drew:=⟨h.os,h.tape,h.output,h.size,h.block⟩
theorem Chg.alloc {F:Blk} {a w:World} (h:Chg F a w) (o:Obj):Chg F a (w.alloc o):=
 h.trans (Below.chg (bZ.alloc lZ o) F)
theorem Chg.setCell {F:Blk} {a w:World} (h:Chg F a w) {p:Addr} (hp:F p.block) (u:Value):Chg F a (w.setCell p u):=
 h.trans ⟨rfl,rfl,rfl,by simp [World.setCell],fun b _ hf=>Below.heap_setCell _ _ _ _ (by rintro rfl;exact hf hp)⟩
theorem Chg.cell {F:Blk} {w w':World} (h:Chg F w w') {p:Addr} (hp:p.block<w.heap.size) (hf:¬F p.block):w'.cell? p=w.cell? p:=World.cell?_of_block (w:=w) (h.block _ hp hf)
theorem Chg.frozen {F:Blk} {w w':World} (h:Chg F w w') {p:Addr} (hp:p.block<w.heap.size) (hf:¬F p.block):w'.frozen? p=w.frozen? p:=World.frozen?_of_block (w:=w) (h.block _ hp hf)
def Kept (F:Blk) (v v':World):Prop:=v.heap.size≤v'.heap.size∧∀b,F b→v'.heap[b]?=v.heap[b]?
theorem Kept.of_chg {F X:Blk} {v v':World} (h:Chg X v v') (hl:∀b,F b→b<v.heap.size) (hx:∀b,F b→¬X b):Kept F v v':=⟨h.size,fun b hb=>h.block b (hl b hb) (hx b hb)⟩
theorem Kept.mono {F F':Blk} {v v':World} (h:Kept F v v') (hF:∀b,F' b→F b):Kept F' v v':=⟨h.1,fun b hb=>h.2 b (hF b hb)⟩
def Cel (v:World) (g o:Nat) (cs:List Value):Prop:=∀(i:Nat) (h:i<cs.length),v.cell? ⟨g,o+i,none⟩=some (cs[i]'h)∧v.frozen? ⟨g,o+i,none⟩=false
theorem Cel.keep {v v':World} {g o:Nat} {cs:List Value} (h:Cel v g o cs) (hb:v'.heap[g]?=v.heap[g]?):Cel v' g o cs:=
 fun i hi=>⟨(World.cell?_of_block (w:=v) (a:=⟨g,o+i,none⟩) hb).trans (h i hi).1,(World.frozen?_of_block (w:=v) (a:=⟨g,o+i,none⟩) hb).trans (h i hi).2⟩
abbrev ElT (α:Type):=World→Blk→List Value→α→Prop
structure ElOk {α:Type} (E:ElT α):Prop where
 keep:∀{v v' F cs a},E v F cs a→Kept F v v'→E v' F cs a
 wide:∀{v F F' cs a},E v F cs a→(∀b,F b→F' b)→(∀b,F' b→b<v.heap.size)→E v F' cs a
variable {α:Type} {E:ElT α} {wd:Nat}
structure RowC (wd:Nat) (E:ElT α) (v:World) (F:Blk) (g o:Nat) (G:Nat→Blk) (C:Nat→List Value) (l:List α):Prop where
 own:F g
 lt:∀b,F b→b<v.heap.size
 cel:∀j,j<l.length→Cel v g (o+j*wd) (C j)
 wid:∀j,j<l.length→(C j).length=wd
 el:∀j (h:j<l.length),E v (G j) (C j) (l[j]'h)
 sub:∀j,j<l.length→∀b,G j b→F b∧b≠g
 apart:∀i j,i<j→j<l.length→∀b,G i b→G j b→False
def RowO (wd:Nat) (E:ElT α) (v:World) (F:Blk) (u:Value) (l:List α):Prop:=
 ∃(ad:Option Addr) (cap:Nat),u=.slice ad l.length cap∧l.length≤2^30∧((ad=none→cap=0)∧l.length≤cap)∧(l=[]∨∃g o G C,ad=some ⟨g,o,none⟩∧RowC wd E v F g o G C l)
theorem RowC.keep (hE:ElOk E) {v v':World} {F:Blk} {g o:Nat} {G:Nat→Blk} {C:Nat→List Value} {l:List α} (h:RowC wd E v F g o G C l) (hk:Kept F v v'):RowC wd E v' F g o G C l:=
 ⟨h.own,fun b hb=>Nat.lt_of_lt_of_le (h.lt b hb) hk.1,fun j hj=>(h.cel j hj).keep (hk.2 _ h.own),h.wid,fun j hj=>hE.keep (h.el j hj) (hk.mono fun b hb=>(h.sub j hj b hb).1),h.sub,h.apart⟩
theorem RowC.wide {v:World} {F F':Blk} {g o:Nat} {G:Nat→Blk} {C:Nat→List Value} {l:List α} (h:RowC wd E v F g o G C l) (hF:∀b,F b→F' b) (hl:∀b,F' b→b<v.heap.size):RowC wd E v F' g o G C l:=
 ⟨hF _ h.own,hl,h.cel,h.wid,h.el,fun j hj b hb=>⟨hF _ (h.sub j hj b hb).1,(h.sub j hj b hb).2⟩,h.apart⟩
theorem RowO.keep (hE:ElOk E) {v v':World} {F:Blk} {u:Value} {l:List α} (h:RowO wd E v F u l) (hk:Kept F v v'):RowO wd E v' F u l:=by
 obtain⟨ad,cap,h1,h2,hn,h3⟩:=h;refine⟨ad,cap,h1,h2,hn,h3.imp id ?_⟩;rintro⟨g,o,G,C,h4,h5⟩;exact⟨g,o,G,C,h4,h5.keep hE hk⟩
theorem RowO.wide {v:World} {F F':Blk} {u:Value} {l:List α} (h:RowO wd E v F u l) (hF:∀b,F b→F' b) (hl:∀b,F' b→b<v.heap.size):RowO wd E v F' u l:=by
 obtain⟨ad,cap,h1,h2,hn,h3⟩:=h;refine⟨ad,cap,h1,h2,hn,h3.imp id ?_⟩;rintro⟨g,o,G,C,h4,h5⟩;exact⟨g,o,G,C,h4,h5.wide hF hl⟩
theorem RowO.a0e (hE:ElOk E) {v v':World} {F X:Blk} {u:Value} {l:List α} (h:RowO wd E v F u l) (hc:Chg X v v') (hx:∀b,F b→¬X b):RowO wd E v' F u l:=by
 obtain⟨ad,cap,h1,h2,hn,h3⟩:=h;refine⟨ad,cap,h1,h2,hn,h3.imp id ?_⟩;rintro⟨g,o,G,C,h4,h5⟩;exact⟨g,o,G,C,h4,h5.keep hE (Kept.of_chg hc h5.lt hx)⟩
theorem RowO.below (hE:ElOk E) {v v':World} {F:Blk} {u:Value} {l:List α} (h:RowO wd E v F u l) (hb:Below v.heap.size v v'):RowO wd E v' F u l:=
 h.a0e hE (Below.chg hb fun _=>False) fun _ _ h=>h
theorem RowO.nil (v:World) (F:Blk):RowO wd E v F (.slice none 0 0) ([]:List α):=⟨none,0,rfl,by simp,⟨fun _=>rfl,Nat.zero_le _⟩,.inl rfl⟩
theorem RowO.empty (v:World) (F:Blk) (a:Addr) (cap:Nat):RowO wd E v F (.slice (some a) 0 cap) ([]:List α):=⟨some a,cap,rfl,by simp,⟨(fun h=>by cases h),Nat.zero_le _⟩,.inl rfl⟩
theorem RowC.put (hE:ElOk E) {v v':World} {F:Blk} {g o:Nat} {G:Nat→Blk} {C:Nat→List Value} {l:List α} (h:RowC wd E v F g o G C l) (j:Nat) (hj:j<l.length) (F' G':Blk) (cs:List Value) (a:α)
 (hF:∀b,F b→F' b) (hF':∀b,F' b→b<v'.heap.size) (hsz:v.heap.size≤v'.heap.size)
 (hcs:Cel v' g (o+j*wd) cs) (hw:cs.length=wd) (ha:E v' G' cs a) (hG:∀b,G' b→F' b∧b≠g)
 (hap:∀i,i<l.length→i≠j→∀b,G i b→G' b→False)
 (hoc:∀i,i<l.length→i≠j→Cel v' g (o+i*wd) (C i))
 (hok:∀i,i<l.length→i≠j→∀b,G i b→v'.heap[b]?=v.heap[b]?) :
 RowC wd E v' F' g o (fun i=>if i=j then G' else G i) (fun i=>if i=j then cs else C i) (l.set j a):=by
 refine⟨hF _ h.own,hF',fun i hi=>?_,fun i hi=>?_,fun i hi=>?_,fun i hi=>?_,fun i k hik hk=>?_⟩
 ·rw [List.length_set]at hi
  show Cel v' g (o+i*wd) (if i=j then cs else C i)
  split
  ·rename_i e;subst e;exact hcs
  ·rename_i e;exact hoc i hi e
 ·rw [List.length_set]at hi
  show (if i=j then cs else C i).length=wd
  split
  ·exact hw
  ·exact h.wid i hi
 ·simp only [List.getElem_set];rw [List.length_set]at hi
  by_cases e:i=j
  ·subst e;simp only [if_true];exact ha
  ·have e':¬j=i:=fun h=>e h.symm;simp only [e,e',if_false];exact hE.keep (h.el i hi) ⟨hsz,hok i hi e⟩
 ·rw [List.length_set]at hi
  show ∀b,(if i=j then G' else G i) b→_
  split
  ·exact hG
  ·exact fun b hb=>⟨hF _ (h.sub i hi b hb).1,(h.sub i hi b hb).2⟩
 ·rw [List.length_set]at hk
  show ∀b,(if i=j then G' else G i) b→(if k=j then G' else G k) b→False
  by_cases e:i=j
  ·subst e;rw [if_pos rfl,if_neg oZ];exact fun b h1 h2=>hap k hk oZ b h2 h1
  ·rw [if_neg e]
   by_cases e':k=j
   ·subst e';rw [if_pos rfl];exact hap i oZ e
   ·rw [if_neg e'];exact h.apart i k hik hk
theorem Cel.a7k {v:World} {g o p:Nat} {cs:List Value} (h:Cel v g o cs) (hp:p<o∨o+cs.length≤p) (x:Value):Cel (v.setCell ⟨g,p,none⟩ x) g o cs:=by
 intro i hi;refine⟨?_,?_⟩
 ·rw [World.cell?_setCell_other _ _ _ _ (by intro e;injection e;omega)];exact (h i hi).1
 ·simpa using (h i hi).2
theorem Cel.b5k {v:World} {g o:Nat} {cs:List Value} (h:Cel v g o cs) (i:Nat) (hi:i<cs.length) (x:Value):Cel (v.setCell ⟨g,o+i,none⟩ x) g o (cs.set i x):=by
 intro j hj;rw [List.length_set]at hj;refine⟨?_,?_⟩
 ·rw [List.getElem_set]
  split
  ·rename_i e;subst e;exact World.cell?_setCell_same _ _ _ (h i hi).1
  ·rename_i e
   rw [World.cell?_setCell_other _ _ _ _ (by intro e';injection e';omega)];exact (h j hj).1
 ·simpa using (h j hj).2
theorem b4v {wd o i j:Nat} (hij:i≠j) (k:Nat) (hk:k<wd):o+j*wd+k<o+i*wd∨o+i*wd+wd≤o+j*wd+k:=by
 rcases Nat.lt_or_gt_of_ne hij with h|h
 ·right
  have:=Nat.mul_le_mul_right wd (show i+1≤j by omega);rw [Nat.add_mul]at this;omega
 ·left
  have:=Nat.mul_le_mul_right wd (show j+1≤i by omega);rw [Nat.add_mul]at this;omega
def intE:ElT Int:=fun _ _ cs n=>cs=[.int .i64 n]
theorem a0g:ElOk intE:=⟨fun h _=>h,fun h _ _=>h⟩
def entE:ElT P.Ent:=fun v F cs e=>∃x,cs=[x,.string (S e.2)]∧RowO 1 intE v F x e.1
theorem a0b:ElOk entE:=
 ⟨fun⟨x,h,k⟩ hk=>⟨x,h,k.keep a0g hk⟩,fun⟨x,h,k⟩ hF hl=>⟨x,h,k.wide hF hl⟩⟩
abbrev Ints:=RowO 1 intE
abbrev Ents:=RowO 2 entE
theorem Ints.read {v:World} {F:Blk} {u:Value} {l:List Int} (h:Ints v F u l):IntR v u l:=by
 obtain⟨ad,cap,h1,h2,hn,h3⟩:=h;refine⟨ad,cap,h1,by omega,hn.1,h3.imp id ?_⟩;rintro⟨g,o,G,C,h4,h5⟩;refine⟨g,o,h4,h5.lt _ h5.own,fun j hj=>?_⟩;have he:C j=[.int .i64 l[j]]:=h5.el j hj;have hc:=(h5.cel j hj 0 (by rw [he];simp)).1;simp only [he,List.getElem_cons_zero,Nat.mul_one,Nat.add_zero]at hc;exact hc
theorem Ents.read {v:World} {F:Blk} {u:Value} {l:P.Dic} (h:Ents v F u l):EntR v u l:=by
 obtain⟨ad,cap,h1,h2,hn,h3⟩:=h;refine⟨ad,cap,h1,by omega,hn.1,h3.imp id ?_⟩;rintro⟨g,o,G,C,h4,h5⟩;refine⟨g,o,h4,h5.lt _ h5.own,fun j hj=>?_⟩;obtain⟨x,he,hx⟩:=h5.el j hj;have hc:=(h5.cel j hj 0 (by rw [he];simp)).1;have hd:=(h5.cel j hj 1 (by rw [he];simp)).1;simp only [he,List.getElem_cons_zero,List.getElem_cons_succ,Nat.add_zero]at hc hd;exact⟨x,hc,hd,Ints.read hx⟩
end
section
namespace P
def marks (k:Int):Nat→List Int
 |0=>[]
 |n+1=>k::marks (k+1) n
theorem a3w (k:Int):∀n:Nat,(marks k n).length=n:=by
 intro n;induction n generalizing k with
 |zero=>rfl
 |succ n ih=>simp [marks,ih]
theorem b4j (k:Int) (n j:Nat) (h:j<(marks k n).length):(marks k n)[j]=k+j:=by
 induction n generalizing k j with
 |zero=>simp [marks]at h
 |succ n ih=>
  cases j with
  |zero=>simp [marks]
  |succ j=>simp only [marks,List.getElem_cons_succ];rw [ih];omega
end P
open Go Go.RowKit
set_option maxHeartbeats 1000000
set_option maxRecDepth 100000
abbrev ints (l:List Int):List Value:=l.map (Value.int .i64)
theorem a6m {v:World} {F:Blk} {g o cap:Nat} {l:List Int} (h:Cel v g o (ints l)) (hF:F g) (hl:∀b,F b→b<v.heap.size) (hn:l.length≤2^30) (hcp:l.length≤cap):Ints v F (.slice (some ⟨g,o,none⟩) l.length cap) l:=by
 refine⟨_,_,rfl,hn,⟨(fun h=>by cases h),hcp⟩,.inr ⟨g,o,fun _ _=>False,fun j=>[.int .i64 (l[j]?.getD 0)],rfl,hF,hl,fun j hj i hi=>?_,fun _ _=>rfl,fun j hj=>?_,fun _ _ _ h=>h.elim,fun _ _ _ _ _ h _=>h⟩⟩
 ·have hi0:i=0:=by simpa using hi
  subst hi0;have:=h j (by simpa using hj)
  simpa [List.getElem?_eq_getElem hj] using this
 ·show [_]=[_]
  rw [List.getElem?_eq_getElem hj];rfl
theorem c4f {v:World} {F:Blk} {u:Value} {l:List Int} (h:Ints v F u l):∃ad cap,u=.slice ad l.length cap∧l.length≤2^30∧((ad=none→cap=0)∧l.length≤cap)∧(l=[]∨∃g o,ad=some ⟨g,o,none⟩∧F g∧(∀b,F b→b<v.heap.size)∧Cel v g o (ints l)):=by
 obtain⟨ad,cap,h1,h2,hn,h3⟩:=h;refine⟨ad,cap,h1,h2,hn,h3.imp id ?_⟩;rintro⟨g,o,G,C,h4,h5⟩;refine⟨g,o,h4,h5.own,h5.lt,fun j hj=>?_⟩;have hj':j<l.length:=by simpa using hj
 have he:C j=[.int .i64 l[j]]:=h5.el j hj';have hc:=h5.cel j hj' 0 (by rw [he];simp);simp only [he,List.getElem_cons_zero,Nat.mul_one,Nat.add_zero]at hc
 simpa using hc
theorem a2k:(Tryz.prog.info? 3).map (fun i=>(i.zero,i.size,i.bytes))=some (some (.int .i64 0),1,8):=by kernel_rfl
theorem d7z (k:Nat) (w:World) (hk:k≤2^20):(Instr.makeSlice 33 (.int .i64 k) (.int .i64 k)).run Tryz.prog w=.ok (.slice (some ⟨w.heap.size,0,none⟩) k k) (w.alloc (.cells (madeCells #[.int .i64 0] k) 3)):=by
 obtain⟨i,hi,he⟩:=Option.map_eq_some_iff.mp a2k;simp only [Prod.mk.injEq]at he;obtain⟨hz,hs,hb⟩:=he;have h:=run_make (P:=Tryz.prog) w 33 3 i (.int .i64 0) Tryz.underlying33 hi hz .i64 .i64 k k oZ oZ (by rw [hb];omega) oZ;rw [hs]at h
 simpa [Value.cells] using h
theorem d9r (z:Array Value) (n j:Nat) (hj:j<n) (hz:0<z.size):(madeCells z n)[j]?=some (z[j % z.size]'(Nat.mod_lt _ hz)):=by
 rw [Array.getElem?_eq_getElem (by rw [size_madeCells];exact hj)];simp [madeCells,Nat.mod_lt _ hz]
theorem c6j (z:Array Value) (k j:Nat) (w:World) (t:TypeId) (hj:j<k):Cel (w.alloc (.cells (madeCells z (k*z.size)) t)) w.heap.size (0+j*z.size) z.toList:=by
 intro i hi;have hi':i<z.size:=by simpa using hi
 have hlt:0+j*z.size+i<k*z.size:=by
  have:=Nat.mul_le_mul_right z.size (show j+1≤k by omega);rw [Nat.add_mul]at this;omega
 refine⟨(World.cell?_alloc_new w _ t _).trans ?_,World.frozen?_alloc_new _ _ _ _⟩;rw [d9r z _ _ hlt oZ];have e:(0+j*z.size+i) % z.size=i:=by rw [Nat.zero_add,Nat.mul_comm,Nat.mul_add_mod,Nat.mod_eq_of_lt hi']
 simp only [e,Array.getElem_toList]
theorem d5u (z:Value) (k:Nat) (w:World) (t:TypeId):Cel (w.alloc (.cells (madeCells #[z] k) t)) w.heap.size 0 (List.replicate k z):=by
 intro j hj;have hj':j<k:=by simpa using hj
 have h:=c6j #[z] k j w t hj' 0 sZ;simp only [List.size_toArray,List.length_cons,List.length_nil,Nat.zero_add,Nat.mul_one,Nat.add_zero,List.getElem_cons_zero]at h⊢
 simpa using h
theorem b6f (k:Nat):ints (List.replicate k 0)=List.replicate k (.int .i64 0):=by simp [ints]
def b8s (l:List Int) (w:World) (e:Ending) (w':World):Prop:=∃u,e=.returned u∧Ints w' (Bet w.heap.size w'.heap.size) u l∧Below w.heap.size w w'
theorem take_set {α:Type} (m l:List α) (j:Nat) (hm:m.length=l.length) (hj:j<l.length) (h:m.take j=l.take j):(m.set j l[j]).take (j+1)=l.take (j+1):=by
 rw [a0f l j hj,a0f (m.set j l[j]) j (by rw [List.length_set];omega),List.take_set_of_le (Nat.le_refl j),h];simp
theorem d6u (u:Value) (l:List Int) (w:World) (hu:IntR w u l) (hl:l.length≤2^20) :
 Calls Tryz.prog 176 #[u] w (b8s l w):=by
 have HU:=qh hu
 obtain⟨ad,cap,rfl,_,_⟩:=hu
 have hmk:=d7z l.length w hl
 have HM:=qh (d5u (.int .i64 0) l.length w 3)
 have HB:=qh ((Below.refl w.heap.size w).alloc lZ (.cells (madeCells #[.int .i64 0] l.length) 3))
 go_enter Tryz.func176,Tryz.ntmps176
 go_wp2
 go_loopw [4] (fun i wr=>∃j:Nat,j≤l.length∧i=.int .i64 j∧(∃m:List Int,m.length=l.length∧m.take j=l.take j∧Cel wr w.heap.size 0 (ints m))∧wr.heap.size=w.heap.size+1∧Below w.heap.size w wr) (fun i _=>l.length-(intOf i).toNat)
 case atStart=>exact⟨0,Nat.zero_le _,rfl,⟨List.replicate l.length 0,by simp,by simp,by rw [b6f];exact HM.o⟩,by simp,HB.o⟩
 case round=>
  obtain⟨j,hj,rfl,⟨m,hm,ht,hc⟩,hz,hb⟩:=hrel;have HT:=qh ht;have HML:=qh hm;have HZ:=qh hz;have HC:=qh hc;clear ht hz hmk
  by_cases hlt:j<l.length
  ·obtain⟨g,o,hga,hgl,c0⟩:=(HU.o.below hb).at j hlt;have hjm:j<(ints m).length:=by rw [List.length_map];omega
   have d0:=(hc j hjm).1;have f0:=(hc j hjm).2;simp only [Nat.zero_add]at d0 f0;have HBB:=qh hb;have HTS:=qh (take_set m l j hm hlt HT.o);subst hga;generalize l[j]=x at *;generalize (ints m)[j]=y at *;have i1:(j:Int)<(l.length:Int):=by omega
   clear hb hc hm;go_wp2
   go_roundw
   case rel=>exact⟨j+1,by omega,by go_num,⟨m.set j x,by rw [List.length_set];exact HML.o,HTS.o,by have:=HC.o.b5k j hjm (.int .i64 x);simpa [ints,List.map_set] using this⟩,by simpa [World.setCell] using HZ.o,HBB.o.setCell lZ _⟩
   case measure=>simp [intOf];omega
  ·have hjl:l.length=j:=by omega
   have HML':=qh (show m=l by have:=HT.o;rwa [List.take_of_length_le oZ,List.take_of_length_le oZ]at this);have HBB:=qh hb;clear hb hc hm;go_wp2;go_ret;refine⟨_,rfl,?_,HBB.o⟩;have:=HC.o;rw [HML'.o]at this;exact a6m this ⟨Nat.le_refl _,by rw [HZ.o];omega⟩ (fun b hb=>hb.2) oZ lZ
theorem c5u (u:Value) (l:List Int) (k:Int) (F:Blk) (w:World) (hu:Ints w F u l) (hk0:0≤k) (hk:k≤2^40) :
 Calls Tryz.prog 179 #[u,.int .i64 k] w fun e w'=>e=.returned (.int .i64 (k+l.length))∧Ints w' F u (P.marks k l.length)∧Chg F w w'∧w'.heap.size=w.heap.size:=by
 obtain⟨ad,cap,rfl,hl,hnil,hc0⟩:=c4f hu
 clear hu
 have HNIL:=qh hnil;clear hnil
 have HC:=qh hc0;clear hc0
 go_enter Tryz.func179,Tryz.ntmps179
 go_wp2
 go_loopw [1,5] (fun kk i wr=>∃j:Nat,j≤l.length∧i=.int .i64 j∧kk=.int .i64 (k+j)∧(∀g o,ad=some ⟨g,o,none⟩→l≠[]→∃m:List Int,m.length=l.length∧m.take j=P.marks k j∧Cel wr g o (ints m))∧wr.heap.size=w.heap.size∧Chg F w wr) (fun _ i _=>l.length-(intOf i).toNat)
 case atStart=>
  refine⟨0,Nat.zero_le _,rfl,by simp,fun g o hg hne=>?_,rfl,Chg.refl _ _⟩;obtain⟨g',o',h1,h2,h3,h4⟩:=HC.o.resolve_left hne;rw [hg]at h1;injection h1 with h1;injection h1 with h1 h1' _;subst h1 h1';exact⟨l,rfl,by simp [P.marks],h4⟩
 case round=>
  obtain⟨j,hj,rfl,rfl,hm0,hz,hb⟩:=hrel;have HM0:=qh hm0;clear hm0;have HZ:=qh hz;clear hz;have HB:=qh hb;clear hb
  by_cases hlt:j<l.length
  ·obtain⟨g,o,rfl,hFg,hFl,_⟩:=HC.o.resolve_left (by intro e;rw [e]at hlt;simp at hlt);obtain⟨m,hm,ht,hc⟩:=HM0.o g o rfl (by intro e;rw [e]at hlt;simp at hlt);have hjm:j<(ints m).length:=by rw [List.length_map];omega
   have d0:=(hc j hjm).1;have f0:=(hc j hjm).2
   have HTS:=qh (show (m.set j (k+j)).take (j+1)=P.marks k (j+1) by
    rw [a0f (m.set j (k+j)) j (by rw [List.length_set];omega),List.take_set_of_le (Nat.le_refl j),ht];simp only [List.getElem_set_self];apply List.ext_getElem
    ·simp [P.a3w]
    ·intro i h1 h2;rw [P.b4j,List.getElem_append]
     split
     ·rw [P.b4j]
     ·have:i=j:=by simp [P.a3w]at h1 h2 ‹¬_›;omega
      subst this;simp)
   have HML:=qh hm;have HCC:=qh hc;have HFg:=qh hFg;have i1:(j:Int)<(l.length:Int):=by omega
   generalize (ints m)[j]=y at *;clear hc hm ht hFl hFg;go_wp2
   go_roundw
   case rel=>
    refine⟨j+1,by omega,by go_num,by go_num,fun g' o' hg' _=>?_,by simpa [World.setCell] using HZ.o,HB.o.setCell HFg.o _⟩;injection hg' with hg';injection hg' with h1 h2 _;subst h1 h2;exact⟨m.set j (k+j),by rw [List.length_set];exact HML.o,HTS.o,by have:=HCC.o.b5k j hjm (.int .i64 (k+j));simpa [ints,List.map_set] using this⟩
   case measure=>simp [intOf];omega
  ·have hjl:l.length=j:=by omega
   go_wp2;go_ret;refine⟨a1m (by rw [hjl]),?_,HB.o,HZ.o⟩
   by_cases hne:l=[]
   ·subst hne;exact⟨ad,cap,rfl,by simp [P.marks],HNIL.o,.inl rfl⟩
   ·obtain⟨g,o,rfl,hFg,hFl,_⟩:=HC.o.resolve_left hne;obtain⟨m,hm,ht,hc⟩:=HM0.o g o rfl hne;have e:m=P.marks k l.length:=by rw [hjl,←ht,List.take_of_length_le oZ]
    rw [e]at hc;have:=a6m (cap:=cap) hc hFg (fun b hb=>by rw [HZ.o];exact hFl b hb) (by rw [P.a3w];exact hl) (by rw [P.a3w];exact HNIL.o.2)
    rwa [P.a3w]at this
theorem c5e (u:Value) (n:Nat) (k:Int) (w:World) (hu:IntR w u (P.marks k n)) (hk0:0≤k) (hk:k≤2^40) (hn:n≤2^40) :
 Calls Tryz.prog 181 #[u,.int .i64 k] w fun e w'=>e=.returned (.int .i64 (k+n))∧w=w':=by
 have HU:=qh hu
 obtain⟨ad,cap,rfl,_,_⟩:=hu
 rw [P.a3w]at *
 go_enter Tryz.func181,Tryz.ntmps181
 go_wp2
 go_loop [1,5] (fun kk i=>∃j:Nat,j≤n∧i=.int .i64 j∧kk=.int .i64 (k+j)) (fun _ i=>n-(intOf i).toNat)
 case atStart=>exact⟨0,Nat.zero_le _,rfl,by simp⟩
 case round=>
  obtain⟨j,hj,rfl,rfl⟩:=hrel
  by_cases hlt:j<n
  ·obtain⟨g,o,rfl,hgl,c0⟩:=HU.o.at j (by rw [P.a3w];exact hlt);rw [P.b4j]at c0;have i1:(j:Int)<(n:Int):=by omega
   go_wp2
   go_round
   case rel=>exact⟨j+1,by omega,by go_num,by go_num⟩
   case measure=>simp [intOf];omega
  ·have hjl:n=j:=by omega
   go_wp2;go_ret;exact⟨a1m (by first|rfl|rw [hjl]),rfl⟩
end
section
open Go Go.RowKit
set_option maxHeartbeats 1000000
set_option maxRecDepth 100000
def c4q (l:List Int) (t:Str) (w:World) (e:Ending) (w':World):Prop:=∃u,e=.returned (.agg #[u,.string (S t)])∧Ints w' (Bet w.heap.size w'.heap.size) u l∧Below w.heap.size w w'
theorem toEntry (u:Value) (l:List Int) (t:Str) (w:World) (hu:IntR w u l) (hl:l.length≤2^20) :
 Calls Tryz.prog 160 #[.agg #[u,.string (S t)]] w (c4q l t w):=by
 have hb0:Below w.heap.size w (((w.alloc (.cells #[u,.string (S t)] 181)).alloc (.cells #[.slice none 0 0,.string (S [])] 119)).alloc (.cells #[.slice none 0 0,.string (S [])] 119)):=
  (((Below.refl w.heap.size w).alloc lZ _).alloc sZ _).alloc (by simp;omega) _
 have HU:=qh (hu.below hb0)
 have HB0:=qh hb0;clear hb0
 obtain⟨ad,cap,rfl,_,_⟩:=hu
 go_enter Tryz.func160,Tryz.ntmps160
 go_wp2_with fail
 refine (d6u _ l _ HU.o hl).mono ?_
 rintro e w1 ⟨u',rfl,hI,hb⟩
 have hz:w.heap.size+2<w1.heap.size:=by have:=hb.size;simp at this;omega
 obtain⟨hcc,hff⟩:=a4k hb
 have c1:w1.cell? ⟨w.heap.size,1,none⟩=some (.string (S t)):=by rw [hcc _ _ (by simp;omega)];go_simp
 have r0:w1.cell? ⟨w.heap.size+1,0,none⟩=some (.slice none 0 0):=by rw [hcc _ _ sZ];go_simp
 have r1:w1.cell? ⟨w.heap.size+1,1,none⟩=some (.string (S [])):=by rw [hcc _ _ sZ];go_simp
 have q0:w1.cell? ⟨w.heap.size+2,0,none⟩=some (.slice none 0 0):=by rw [hcc _ _ sZ];go_simp
 have q1:w1.cell? ⟨w.heap.size+2,1,none⟩=some (.string (S [])):=by rw [hcc _ _ sZ];go_simp
 have s0:w1.frozen? ⟨w.heap.size+1,0,none⟩=false:=by rw [hff _ _ sZ];go_simp
 have s1:w1.frozen? ⟨w.heap.size+1,1,none⟩=false:=by rw [hff _ _ sZ];go_simp
 have p0:w1.frozen? ⟨w.heap.size+2,0,none⟩=false:=by rw [hff _ _ sZ];go_simp
 have p1:w1.frozen? ⟨w.heap.size+2,1,none⟩=false:=by rw [hff _ _ sZ];go_simp
 have HI:=qh hI
 have HB1:=qh (HB0.o.trans (hb.mono (by simp;omega)))
 obtain⟨ad',cap',rfl,_,_⟩:=hI
 clear hb hcc hff HU HB0
 go_wp2
 refine bodyPost_ret (v:=.agg #[.slice ad' l.length cap',.string (S t)]) (by simp [results,Tryz.results160,go_sem,r0,r1]) rfl ⟨_,rfl,?_,?_⟩
 ·exact zq87
 ·exact (((HB1.o.setCell (by simp;omega) _).setCell (by simp;omega) _).setCell sZ _).setCell sZ _
theorem a3u:(Tryz.prog.info? 119).map (fun i=>(i.zero,i.size,i.bytes))=some (some (.agg #[.slice none 0 0,.string ⟨#[]⟩]),2,40):=by kernel_rfl
theorem d8a (k:Nat) (w:World) (hk:k≤2^20):(Instr.makeSlice 24 (.int .i64 k) (.int .i64 k)).run Tryz.prog w=.ok (.slice (some ⟨w.heap.size,0,none⟩) k k) (w.alloc (.cells (madeCells #[.slice none 0 0,.string (S [])] (k*2)) 119)):=by
 rw [show S []=⟨#[]⟩ from rfl];obtain⟨i,hi,he⟩:=Option.map_eq_some_iff.mp a3u;simp only [Prod.mk.injEq]at he;obtain⟨hz,hs,hb⟩:=he;have h:=run_make (P:=Tryz.prog) w 24 119 i (.agg #[.slice none 0 0,.string ⟨#[]⟩]) Tryz.underlying24 hi hz .i64 .i64 k k oZ oZ (by rw [hb];omega) oZ;rw [hs,Int.toNat_natCast]at h
 simpa [Value.cells] using h
def noEnt:P.Ent:=([],[])
theorem c9q (k:Nat) (w:World) (t:TypeId):RowC 2 entE (w.alloc (.cells (madeCells #[.slice none 0 0,.string (S [])] (k*2)) t)) (Bet w.heap.size (w.heap.size+1)) w.heap.size 0 (fun _ _=>False) (fun _=>[.slice none 0 0,.string (S [])]) (List.replicate k noEnt):=by
 refine⟨⟨Nat.le_refl _,by omega⟩,fun b hb=>by simpa using hb.2,fun j hj=>?_,fun _ _=>rfl,fun j hj=>?_,fun _ _ _ h=>h.elim,fun _ _ _ _ _ h _=>h⟩
 ·exact c6j #[.slice none 0 0,.string (S [])] k j w t (by simpa using hj)
 ·rw [List.getElem_replicate];exact⟨_,rfl,RowO.nil _ _⟩
def c2l (B j:Nat) (l:P.Dic) (v:World):Prop:=∃(m:P.Dic) (G:Nat→Blk) (C:Nat→List Value),m.length=l.length∧m.take j=l.take j∧RowC 2 entE v (Bet B v.heap.size) B 0 G C m
theorem c2l.cells {B j:Nat} {l:P.Dic} {v:World} (h:c2l B j l v) (hj:j<l.length):∃x y,v.cell? ⟨B,j*2,none⟩=some x∧v.cell? ⟨B,j*2+1,none⟩=some y∧v.frozen? ⟨B,j*2,none⟩=false∧v.frozen? ⟨B,j*2+1,none⟩=false:=by
 obtain⟨m,G,C,hm,_,h⟩:=h;have hw:=h.wid j oZ;have a:=h.cel j oZ 0 oZ;have b:=h.cel j oZ 1 oZ;rw [Nat.zero_add]at a b;exact⟨_,_,a.1,b.1,a.2,b.2⟩
theorem c2l.put {B j:Nat} {l:P.Dic} {v v1:World} (h:c2l B j l v) (hj:j<l.length) (hB:B<v.heap.size) {u:Value} (hb:Below v.heap.size v v1) (hI:Ints v1 (Bet v.heap.size v1.heap.size) u l[j].1) :
 c2l B (j+1) l ((v1.setCell ⟨B,j*2,none⟩ u).setCell ⟨B,j*2+1,none⟩ (.string (S l[j].2))):=by
 obtain⟨m,G,C,hm,ht,h⟩:=h
 have hs:((v1.setCell ⟨B,j*2,none⟩ u).setCell ⟨B,j*2+1,none⟩ (.string (S l[j].2))).heap.size=v1.heap.size:=by simp [World.setCell]
 have hblk:∀b,b≠B→((v1.setCell ⟨B,j*2,none⟩ u).setCell ⟨B,j*2+1,none⟩ (.string (S l[j].2))).heap[b]?=v1.heap[b]?:=by
  intro b hb;rw [Below.heap_setCell _ _ _ _ hb,Below.heap_setCell _ _ _ _ hb]
 have h1:RowC 2 entE v1 (Bet B v.heap.size) B 0 G C m:=h.keep a0b ⟨hb.size,fun b hb'=>hb.block b hb'.2⟩
 refine⟨m.set j l[j],_,_,by rw [List.length_set];exact hm,?_,h1.put a0b j oZ (Bet B ((v1.setCell ⟨B,j*2,none⟩ u).setCell ⟨B,j*2+1,none⟩ (.string (S l[j].2))).heap.size) (Bet v.heap.size v1.heap.size) [u,.string (S l[j].2)] l[j] ?_ ?_ ?_ ?_ rfl ?_ ?_ ?_ ?_ ?_⟩
 ·rw [a0f l j hj,a0f (m.set j l[j]) j (by rw [List.length_set];omega),List.take_set_of_le (Nat.le_refl j),ht];simp
 ·intro b hb';rw [hs];exact⟨hb'.1,Nat.lt_of_lt_of_le hb'.2 hb.size⟩
 ·intro b hb';exact hb'.2
 ·rw [hs];exact Nat.le_refl _
 ·have hc:=h1.cel j oZ;have hw:=h1.wid j oZ;have e:=(hc.b5k 0 oZ u).b5k 1 (by rw [List.length_set];omega) (.string (S l[j].2));simp only [Nat.zero_add,Nat.add_zero]at e⊢
  obtain⟨x,y,hxy⟩:∃x y,C j=[x,y]:=by
   match hC:C j,hw with
   |[x,y],_=>exact⟨x,y,rfl⟩
  rw [hxy]at e;exact e
 ·refine⟨u,rfl,(hI.a0e (X:=fun b=>b=B) a0g (((Chg.refl (fun b=>b=B) v1).setCell (p:=⟨B,j*2,none⟩) rfl _).setCell (p:=⟨B,j*2+1,none⟩) rfl _) ?_)⟩;rintro b hb' rfl;exact absurd hb'.1 oZ
 ·intro b hb';rw [hs];exact⟨⟨by have:=hb'.1;omega,hb'.2⟩,by have:=hb'.1;omega⟩
 ·intro i hi hij b h2 h3;have:=(h1.sub i hi b h2).1.2;have:=h3.1;omega
 ·intro i hi hij;have hw:=h1.wid i hi;have hc:=h1.cel i hi;have o0:=b4v (wd:=2) (o:=0) hij 0 oZ;have o1:=b4v (wd:=2) (o:=0) hij 1 oZ;refine (hc.a7k ?_ _).a7k ?_ _<;>rw [hw]<;>omega
 ·intro i hi hij b hb';exact hblk b (h1.sub i hi b hb').2
def d4v (l:P.Dic) (w:World) (e:Ending) (w':World):Prop:=∃u,e=.returned u∧Ents w' (Bet w.heap.size w'.heap.size) u l∧Below w.heap.size w w'
theorem d5i (u:Value) (l:P.Dic) (w:World) (hu:EntR w u l) (hl:l.length≤2^20) (hle:∀e∈l,e.1.length≤2^20) :
 Calls Tryz.prog 89 #[u] w (d4v l w):=by
 have HU:=qh hu
 have HLE:=qh hle;clear hle
 obtain⟨ad,cap,rfl,_,_⟩:=hu
 have hmk:=d8a l.length w hl
 have HC0:=qh (show c2l w.heap.size 0 l (w.alloc (.cells (madeCells #[.slice none 0 0,.string (S [])] (l.length*2)) 119)) from
  ⟨_,_,_,by simp,by simp,(c9q l.length w 119).wide (fun b hb=>⟨hb.1,by simpa using hb.2⟩) (fun b hb=>hb.2)⟩)
 have HB:=qh ((Below.refl w.heap.size w).alloc lZ (.cells (madeCells #[.slice none 0 0,.string (S [])] (l.length*2)) 119))
 go_enter Tryz.func89,Tryz.ntmps89
 go_wp2
 go_loopw [4] (fun i wr=>∃j:Nat,j≤l.length∧i=.int .i64 j∧c2l w.heap.size j l wr∧w.heap.size<wr.heap.size∧Below w.heap.size w wr) (fun i _=>l.length-(intOf i).toNat)
 case atStart=>exact⟨0,Nat.zero_le _,rfl,HC0.o,by simp,HB.o⟩
 case round=>
  obtain⟨j,hj,rfl,hc,hz,hb⟩:=hrel;have HC:=qh hc;have HBB:=qh hb;clear hmk HC0 HB
  by_cases hlt:j<l.length
  ·obtain⟨g,o,hga,hgl,x,c0,c1,hx⟩:=(HU.o.below hb).at j hlt;obtain⟨y0,y1,d0,d1,f0,f1⟩:=hc.cells hlt;have HX:=qh hx;have hll:=HLE.o _ (List.getElem_mem hlt);have HPUT:=qh (fun (v1:World) (u:Value) (h1:Below wr.heap.size wr v1) (h2:Ints v1 (Bet wr.heap.size v1.heap.size) u l[j].1)=>c2l.put HC.o hlt hz h1 h2);obtain⟨xd,xc,rfl,_,_⟩:=hx;subst hga;generalize l[j]=en at *;obtain⟨eo,et⟩:=en;simp only at c1 hll HX HPUT;have i1:(j:Int)<(l.length:Int):=by omega
   clear hb hc
   go_wp2_with fail
   refine (toEntry _ eo et _ HX.o hll).mono ?_;rintro e v1 ⟨u1,rfl,hI,hb1⟩;obtain⟨hcc,hff⟩:=a4k hb1;have d0':=(hcc w.heap.size (j*2) hz).trans d0;have d1':=(hcc w.heap.size (j*2+1) hz).trans d1;have f0':=(hff w.heap.size (j*2) hz).trans f0;have f1':=(hff w.heap.size (j*2+1) hz).trans f1;have HPP:=qh (HPUT.o v1 u1 hb1 hI);obtain⟨ad1,cap1,rfl,_,_⟩:=hI;have hz1:=Nat.lt_of_lt_of_le hz hb1.size;have HB1:=qh (HBB.o.trans (hb1.mono (Nat.le_of_lt hz)));clear hcc hff hb1 d0 d1 f0 f1;go_wp2
   go_roundw
   case rel=>exact⟨j+1,by omega,by go_num,HPP.o,by simpa [World.setCell] using hz1,(HB1.o.setCell lZ _).setCell lZ _⟩
   case measure=>simp [intOf];omega
  ·have hjl:l.length=j:=by omega
   clear hb hc;go_wp2;go_ret;refine⟨_,rfl,?_,HBB.o⟩;obtain⟨m,G,C,hm,ht,hr⟩:=HC.o;have e:m=l:=by rwa [List.take_of_length_le oZ,List.take_of_length_le oZ]at ht
   rw [e]at hr;exact⟨_,_,by first|rfl|rw [hjl],by omega,⟨(fun h=>by cases h),by first|exact Nat.le_refl _|omega⟩,.inr ⟨_,_,_,_,rfl,hr⟩⟩
def b1e (l:P.Dic) (w:World) (e:Ending) (w':World):Prop:=∃u,e=.returned (.agg #[u])∧Ents w' (Bet w.heap.size w'.heap.size) u l∧Below w.heap.size w w'
theorem c2e (u:Value) (l:P.Dic) (w:World) (hu:EntR w u l) (hl:l.length≤2^20) (hle:∀e∈l,e.1.length≤2^20) :
 Calls Tryz.prog 30 #[.agg #[u]] w (b1e l w):=by
 have hb0:Below w.heap.size w (((w.alloc (.cells #[u] 63)).alloc (.cells #[.slice none 0 0] 26)).alloc (.cells #[.slice none 0 0] 26)):=
  (((Below.refl w.heap.size w).alloc lZ _).alloc sZ _).alloc (by simp;omega) _
 have HU:=qh (hu.below hb0)
 have HB0:=qh hb0;clear hb0
 have HLE:=qh hle;clear hle
 obtain⟨ad,cap,rfl,_,_⟩:=hu
 go_enter Tryz.func30,Tryz.ntmps30
 go_wp2_with fail
 refine (d5i _ l _ HU.o hl HLE.o).mono ?_
 rintro e w1 ⟨u',rfl,hI,hb⟩
 have hz:w.heap.size+2<w1.heap.size:=by have:=hb.size;simp at this;omega
 obtain⟨hcc,hff⟩:=a4k hb
 have r0:w1.cell? ⟨w.heap.size+1,0,none⟩=some (.slice none 0 0):=by rw [hcc _ _ sZ];go_simp
 have q0:w1.cell? ⟨w.heap.size+2,0,none⟩=some (.slice none 0 0):=by rw [hcc _ _ sZ];go_simp
 have s0:w1.frozen? ⟨w.heap.size+1,0,none⟩=false:=by rw [hff _ _ sZ];go_simp
 have p0:w1.frozen? ⟨w.heap.size+2,0,none⟩=false:=by rw [hff _ _ sZ];go_simp
 have HI:=qh hI
 have HB1:=qh (HB0.o.trans (hb.mono (by simp;omega)))
 obtain⟨ad',cap',rfl,_,_⟩:=hI
 clear hb hcc hff HU HB0
 go_wp2
 refine bodyPost_ret (v:=.agg #[.slice ad' l.length cap']) (by simp [results,Tryz.results30,go_sem,r0]) rfl ⟨_,rfl,?_,?_⟩
 ·refine (HI.o.a0e (X:=fun b=>b<w.heap.size+3) a0b (((Chg.refl _ w1).setCell ?_ _).setCell ?_ _) ?_).wide ?_ ?_
  ·simp
  ·simp
  ·intro b hb;simp [Bet]at hb⊢;omega
  ·intro b hb;simp [Bet,World.setCell]at hb⊢;omega
  ·intro b hb;exact hb.2
 ·exact (HB1.o.setCell (by simp;omega) _).setCell sZ _
end
section
open Go Go.RowKit
set_option maxHeartbeats 1000000
set_option maxRecDepth 100000
theorem d6r (u v:Value) (l:List Int) (w:World) (hu:IntR w u l) (hv:IntR w v l) :
 Calls Tryz.prog 177 #[u,v] w fun e w'=>e=.returned (.bool true)∧Below w.heap.size w w':=by
 have HU:=qh hu;have HV:=qh hv
 obtain⟨ad,cap,rfl,hla,_⟩:=hu
 obtain⟨bd,dap,rfl,_,_⟩:=hv
 go_enter Tryz.func177,Tryz.ntmps177
 go_wp2
 go_loopw [5] (fun i wr=>∃j:Nat,j≤l.length∧i=.int .i64 j∧Below w.heap.size w wr) (fun i _=>l.length-(intOf i).toNat)
 case atStart=>exact⟨0,Nat.zero_le _,rfl,Below.refl _ _⟩
 case round=>
  obtain⟨j,hj,rfl,hb⟩:=hrel;have HB:=qh hb
  by_cases hlt:j<l.length
  ·obtain⟨g,o,hga,hgl,c0⟩:=(HU.o.below hb).at j hlt;obtain⟨g',o',hgb,hgl',d0⟩:=(HV.o.below hb).at j hlt;subst hga hgb;generalize l[j]=x at *;clear hb;have i1:(j:Int)<(l.length:Int):=by omega
   go_wp2_with fail
   go_quiet (fail)
   go_wp2
   go_roundw
   case rel=>exact⟨j+1,by omega,by go_num,below_drewN HB.o _⟩
   case measure=>simp [intOf];omega
  ·clear hb;go_wp2;go_ret;exact⟨rfl,HB.o⟩
theorem d8c (u v:Value) (l:List Int) (t:Str) (w:World) (hu:IntR w u l) (hv:IntR w v l) :
 Calls Tryz.prog 161 #[.agg #[u,.string (S t)],.agg #[v,.string (S t)]] w fun e w'=>e=.returned (.bool true)∧Below w.heap.size w w':=by
 have hb0:Below w.heap.size w ((w.alloc (.cells #[u,.string (S t)] 119)).alloc (.cells #[v,.string (S t)] 119)):=
  ((Below.refl w.heap.size w).alloc lZ _).alloc sZ _
 have HU:=qh (hu.below hb0);have HV:=qh (hv.below hb0)
 have HB0:=qh hb0;clear hb0
 obtain⟨ad,cap,rfl,hla,_⟩:=hu
 obtain⟨bd,dap,rfl,_,_⟩:=hv
 go_enter Tryz.func161,Tryz.ntmps161
 go_wp2_with fail
 refine (d6r _ _ l _ HU.o HV.o).mono ?_
 rintro e w1 ⟨rfl,hb⟩
 have hz:w.heap.size+1<w1.heap.size:=by have:=hb.size;simp at this;omega
 obtain⟨hcc,hff⟩:=a4k hb
 have r1:w1.cell? ⟨w.heap.size,1,none⟩=some (.string (S t)):=by rw [hcc _ _ (by simp;omega)];go_simp
 have q1:w1.cell? ⟨w.heap.size+1,1,none⟩=some (.string (S t)):=by rw [hcc _ _ sZ];go_simp
 have HB1:=qh (HB0.o.trans (hb.mono (by simp;omega)))
 clear hb hcc hff HU HV HB0
 go_wp2
 first|go_quiet (fail)|skip
 go_wp2
 go_ret
 exact⟨rfl,by first|exact HB1.o|exact below_drewN HB1.o _⟩
def KE (w:World) (c p:Nat) (x:Value) (g q:Nat) (y:Value) (eo:List Int) (et:Str) (v:World):Prop:=
 v.cell? ⟨c,p,none⟩=some x∧v.cell? ⟨c,p+1,none⟩=some (.string (S et))∧v.cell? ⟨g,q,none⟩=some y∧v.cell? ⟨g,q+1,none⟩=some (.string (S et))∧c<v.heap.size∧g<v.heap.size∧IntR v x eo∧IntR v y eo∧w.heap.size≤v.heap.size∧Below w.heap.size w v
theorem KE.step {w v v':World} {c p g q:Nat} {x y:Value} {eo:List Int} {et:Str} (h:KE w c p x g q y eo et v) (hb:Below v.heap.size v v'):KE w c p x g q y eo et v':=by
 obtain⟨h1,h2,h3,h4,h5,h6,h7,h8,h9,h10⟩:=h
 exact⟨(hb.cell (p:=⟨c,p,none⟩) h5).trans h1,(hb.cell (p:=⟨c,p+1,none⟩) h5).trans h2,(hb.cell (p:=⟨g,q,none⟩) h6).trans h3,(hb.cell (p:=⟨g,q+1,none⟩) h6).trans h4,
  Nat.lt_of_lt_of_le h5 hb.size,Nat.lt_of_lt_of_le h6 hb.size,h7.below hb,h8.below hb,Nat.le_trans h9 hb.size,h10.trans (hb.mono h9)⟩
theorem d5f (u v:Value) (l:P.Dic) (w:World) (hu:EntR w u l) (hv:EntR w v l) :
 Calls Tryz.prog 90 #[u,v] w fun e w'=>e=.returned (.bool true)∧Below w.heap.size w w':=by
 have HU:=qh hu;have HV:=qh hv
 obtain⟨ad,cap,rfl,hla,_⟩:=hu
 obtain⟨bd,dap,rfl,_,_⟩:=hv
 go_enter Tryz.func90,Tryz.ntmps90
 go_wp2
 go_loopw [5] (fun i wr=>∃j:Nat,j≤l.length∧i=.int .i64 j∧Below w.heap.size w wr) (fun i _=>l.length-(intOf i).toNat)
 case atStart=>exact⟨0,Nat.zero_le _,rfl,Below.refl _ _⟩
 case round=>
  obtain⟨j,hj,rfl,hb⟩:=hrel;have HB:=qh hb
  by_cases hlt:j<l.length
  ·obtain⟨c,p,hga,hgl,x,c0,c1,hx⟩:=(HU.o.below hb).at j hlt;obtain⟨g,q,hgb,hgl',y,d0,d1,hy⟩:=(HV.o.below hb).at j hlt;subst hga hgb;have HS:=qh (show KE w c (p+j*2) x g (q+j*2) y l[j].1 l[j].2 wr.drew from KE.step ⟨c0,c1,d0,d1,hgl,hgl',hx,hy,hb.size,hb⟩ bZ.drew);obtain⟨xd,xc,rfl,_,_⟩:=hx;obtain⟨yd,yc,rfl,_,_⟩:=hy;generalize l[j]=en at *;obtain⟨eo,et⟩:=en;simp only at c0 c1 d0 d1 HS;clear hb;have i1:(j:Int)<(l.length:Int):=by omega
   go_upto_region 6 with fail
   refine wp_region_held_drew (S:=KE w c (p+j*2) (.slice xd eo.length xc) g (q+j*2) (.slice yd eo.length yc) eo et) kZ HS.o (fun hS0=>?_);refine tk0 0 hS0 ?_;refine tk0 1 hS0 ?_;refine tk0 2 (v:=.pointer (some ⟨c,p+j*2,none⟩)) hS0 ?_;refine tk0 3 hS0 ?_;refine tk0 4 hS0 ?_;refine tk0 5 hS0 ?_;refine tk0 6 (v:=.pointer (some ⟨g,q+j*2,none⟩)) hS0 ?_;refine tk0 7 hS0 ?_;refine trd 8 fun K hK=>?_;have HS1:=qh hS0;have HX:=qh hS0.2.2.2.2.2.2.1;have HY:=qh hS0.2.2.2.2.2.2.2.1;go_simp;refine (d8c _ _ eo et _ HX.o HY.o).mono ?_;rintro e v ⟨rfl,hb⟩;refine hK.out _ _ (HS1.o.step hb) (fun hS1=>?_);clear hK K hb
   try simp only [qA,qB,qC,Act.put,qD,qE,qF]
   refine tk0 9 hS1 ?_;refine wpAnyH_done kZ ?_ _;have HB2:=qh (hS1.2.2.2.2.2.2.2.2.2);clear hS0 hS1 HS1;go_wp2
   go_roundw
   case rel=>exact⟨j+1,by omega,by go_num,HB2.o⟩
   case measure=>simp [intOf];omega
  ·clear hb;go_wp2;go_ret;exact⟨rfl,HB.o⟩
theorem c1q (u v:Value) (l:P.Dic) (w:World) (hu:EntR w u l) (hv:EntR w v l) :
 Calls Tryz.prog 32 #[.agg #[u],.agg #[v]] w fun e w'=>e=.returned (.bool true)∧Below w.heap.size w w':=by
 have hb0:Below w.heap.size w ((w.alloc (.cells #[u] 26)).alloc (.cells #[v] 26)):=
  ((Below.refl w.heap.size w).alloc lZ _).alloc sZ _
 have HU:=qh (hu.below hb0);have HV:=qh (hv.below hb0)
 have HB0:=qh hb0;clear hb0
 obtain⟨ad,cap,rfl,hla,_⟩:=hu
 obtain⟨bd,dap,rfl,_,_⟩:=hv
 go_enter Tryz.func32,Tryz.ntmps32
 go_wp2_with fail
 refine (d5f _ _ l _ HU.o HV.o).mono ?_
 rintro e w1 ⟨rfl,hb⟩
 have HB1:=qh (HB0.o.trans (hb.mono (by simp;omega)))
 clear hb HU HV HB0
 go_wp2
 go_ret
 exact⟨rfl,HB1.o⟩
end
section
namespace P
def digs:Nat→Nat→Bs→Bs
 |0,_,acc=>acc
 |f+1,n,acc=>if n=0 then acc else digs f (n / 10) (UInt8.ofNat (48+n % 10)::acc)
theorem d1m:∀(f:Nat) (acc:Bs),digs f 0 acc=acc
 |0,_=>rfl
 |_+1,_=>by unfold digs;rw [if_pos rfl]
def a7i (k:Int):Bs:=if k≤0 then [109,48] else 109::digs k.toNat k.toNat []
def kAt (k:Int):Dic→Int
 |[]=>k
 |e::l=>kAt (k+e.1.length+1) l
def a4i (k:Int):Dic→Dic
 |[]=>[]
 |e::l=>(marks k e.1.length,a7i (k+e.1.length))::a4i (k+e.1.length+1) l
theorem a4w (k:Int):∀l:Dic,(a4i k l).length=l.length
 |[]=>rfl
 |e::l=>by simp [a4i,a4w _ l]
theorem b7v (k:Int) (e:Ent):∀l:Dic,kAt k (l++[e])=kAt k l+e.1.length+1
 |[]=>rfl
 |x::l=>by simp only [List.cons_append,kAt];exact b7v _ e l
theorem b7i (k:Int) (e:Ent):∀l:Dic,a4i k (l++[e])=a4i k l++[(marks (kAt k l) e.1.length,a7i (kAt k l+e.1.length))]
 |[]=>rfl
 |x::l=>by simp only [List.cons_append,a4i,kAt];rw [b7i _ e l]
theorem a8x (k:Int):∀l:Dic,k+l.length≤kAt k l
 |[]=>by simp [kAt]
 |e::l=>by have:=a8x (k+e.1.length+1) l;simp only [kAt,List.length_cons];omega
theorem c9r (k:Int):∀a b:Dic,kAt k (a++b)=kAt (kAt k a) b
 |[],_=>rfl
 |_::a,b=>c9r _ a b
theorem b3k (k:Int) (l:Dic) (j:Nat):k+j≤kAt k l+(j-l.length:Nat)∧kAt k (l.take j)≤kAt k l:=by
 have h1:=a8x k l;have h2:=c9r k (l.take j) (l.drop j);rw [List.take_append_drop]at h2;have h3:=a8x (kAt k (l.take j)) (l.drop j)
 constructor<;>omega
theorem d1o (k:Int) (l:Dic) (j:Nat) (h:j<l.length) (h':j<(a4i k l).length):(a4i k l)[j]=(marks (kAt k (l.take j)) l[j].1.length,a7i (kAt k (l.take j)+l[j].1.length)):=by
 induction l generalizing k j with
 |nil=>simp at h
 |cons e l ih=>
  cases j with
  |zero=>rfl
  |succ j=>
   simp only [a4i,List.getElem_cons_succ,List.take_succ_cons,kAt];exact ih _ _ _ _
end P
open Go Go.RowKit
set_option maxHeartbeats 1000000
set_option maxRecDepth 100000
theorem d4p (n:Nat):((UInt8.ofNat (48+n % 10)).toNat:Int)=48+(n:Int) % 10:=by
 have:(UInt8.ofNat (48+n % 10)).toNat=48+n % 10:=by
  rw [UInt8.toNat_ofNat',Nat.mod_eq_of_lt oZ]
 rw [this];omega
theorem c6m (k:Int) (w:World) (h0:0≤k) (hk:k≤2^41) :
 Calls Tryz.prog 104 #[.int .i64 k] w fun e w'=>e=.returned (.string (S (P.a7i k)))∧Below w.heap.size w w':=by
 by_cases hz:k≤0
 ·have HF:=qh (show P.a7i k=[109,48] by unfold P.a7i;rw [if_pos hz])
  go_enter Tryz.func104,Tryz.ntmps104
  go_wp2;go_ret;exact⟨by rw [HF.o];rfl,Below.refl _ _⟩
 ·obtain⟨N,rfl⟩:=Int.eq_ofNat_of_zero_le h0;have HF:=qh (show P.a7i (N:Int)=109::P.digs N N [] by unfold P.a7i;rw [if_neg hz];rfl)
  go_enter Tryz.func104,Tryz.ntmps104
  go_wp2
  go_loopw [0,3] (fun kk o wr=>∃(n f:Nat) (out:Str),kk=.int .i64 n∧o=.string (S out)∧n≤f∧P.digs f n out=P.digs N N []∧out.length+n≤N∧Below w.heap.size w wr) (fun kk _ _=>(intOf kk).toNat)
  case atStart=>exact⟨N,N,[],rfl,rfl,Nat.le_refl _,rfl,by simp,Below.refl _ _⟩
  case round=>
   obtain⟨n,f,out,rfl,rfl,hf,hd,hl,hb⟩:=hrel;have HD:=qh hd;have HB:=qh hb;clear hd hb
   by_cases hn:n=0
   ·have HE:=qh (show out=P.digs N N [] by rw [←HD.o,hn,P.d1m]);have f1:¬9223372036854775807<1+out.length:=by omega
    have hn0:¬0<(n:Int):=by omega
    go_wp2;go_ret;exact⟨by rw [HF.o,←HE.o];rfl,HB.o⟩
   ·obtain⟨f',rfl⟩:∃f',f=f'+1:=⟨f-1,by omega⟩;obtain⟨d,hd⟩:∃d:UInt8,d=UInt8.ofNat (48+n % 10):=⟨_,rfl⟩;have HDD:=qh hd;clear hd
    have HS:=qh (show P.digs f' (n / 10) (d::out)=P.digs N N [] by
     rw [←HD.o,HDD.o]
     show _=if n=0 then out else _
     rw [if_neg hn])
    have hback:=run_convert_bytes_back (P:=Tryz.prog) (wr.alloc (.cells #[.int .u8 (48+(n:Int) % 10)] 5)) 22 9 5 ⟨wr.heap.size,0,none⟩ 1 [d] Tryz.underlying22 Tryz.underlying5 Tryz.underlying9 (by
     intro j hj
     have:j=0:=by simpa using hj
     subst this
     rw [add0]
     simp only [List.getElem_cons_zero,HDD.o,d4p]
     go_simp)
    simp only [List.length_cons,List.length_nil,Nat.zero_add]at hback;have f1:¬9223372036854775807<1+out.length:=by omega
    have hn0:0<(n:Int):=by omega
    have hm0:0≤(n:Int) % 10:=by omega
    have hm1:(n:Int) % 10<10:=by omega
    go_wp2
    go_roundw
    case rel=>exact⟨n / 10,f',d::out,by go_num,rfl,by omega,HS.o,by simp;omega,HB.o.alloc HB.o.size _⟩
    case measure=>simp [intOf];omega
def d3s (w:World) (g p:Nat) (x:Value) (v:World):Prop:=v.cell? ⟨g,p,none⟩=some x∧g<v.heap.size∧w.heap.size≤v.heap.size∧Below w.heap.size w v
theorem d3s.step {w v v':World} {g p:Nat} {x:Value} (h:d3s w g p x v) (hb:Below v.heap.size v v'):d3s w g p x v':=
 ⟨(hb.cell (p:=⟨g,p,none⟩) h.2.1).trans h.1,Nat.lt_of_lt_of_le h.2.1 hb.size,Nat.le_trans h.2.2.1 hb.size,h.2.2.2.trans (hb.mono h.2.2.1)⟩
theorem d8t {α:Type} (A B:List α) (j:Nat) (a:α) (hA:A.length=j) (hB:0<B.length):(A++B).set j a=A++[a]++B.drop 1:=by
 subst hA
 cases B with
 |nil=>simp at hB
 |cons b B=>simp
def b8m (w:World) (F:Blk) (ad:Option Addr) (k:Int) (j:Nat) (l:P.Dic) (v:World):Prop:=
 Chg F w v∧(l=[]∨∃g o G C,ad=some ⟨g,o,none⟩∧RowC 2 entE v F g o G C (P.a4i k (l.take j)++l.drop j))
theorem b8m.start {w:World} {F:Blk} {ad:Option Addr} {k:Int} {l:P.Dic} (h:l=[]∨∃g o G C,ad=some ⟨g,o,none⟩∧RowC 2 entE w F g o G C l):b8m w F ad k 0 l w:=
 ⟨Chg.refl _ _,h.imp id fun⟨g,o,G,C,h1,h2⟩=>⟨g,o,G,C,h1,by simpa [P.a4i] using h2⟩⟩
theorem b8m.cells {w v:World} {F:Blk} {ad:Option Addr} {k:Int} {j:Nat} {l:P.Dic} (h:b8m w F ad k j l v) (hj:j<l.length) :
 ∃g o x y Gj,ad=some ⟨g,o,none⟩∧g<v.heap.size∧v.cell? ⟨g,o+j*2,none⟩=some x∧v.cell? ⟨g,o+j*2+1,none⟩=some y∧v.frozen? ⟨g,o+j*2+1,none⟩=false∧¬Gj g∧Ints v Gj x l[j].1 ∧
  ∀v1 v2,Ints v1 Gj x (P.marks (P.kAt k (l.take j)) l[j].1.length)→Chg Gj v v1→Below v1.heap.size v1 v2→b8m w F ad k (j+1) l (v2.setCell ⟨g,o+j*2+1,none⟩ (.string (S (P.a7i (P.kAt k (l.take j)+l[j].1.length))))):=by
 obtain⟨hc,h⟩:=h
 obtain⟨g,o,G,C,hg,hr⟩:=h.resolve_left (by intro e;rw [e]at hj;simp at hj)
 have hA:(P.a4i k (l.take j)).length=j:=by rw [P.a4w,List.length_take];omega
 have hlen:(P.a4i k (l.take j)++l.drop j).length=l.length:=by rw [List.length_append,hA,List.length_drop];omega
 have hj':j<(P.a4i k (l.take j)++l.drop j).length:=by omega
 have hel:(P.a4i k (l.take j)++l.drop j)[j]=l[j]:=by
  rw [List.getElem_append_right oZ];simp [hA]
 obtain⟨x,hC,hI⟩:=hr.el j hj'
 rw [hel]at hC hI
 have c0:=hr.cel j hj' 0 (by rw [hC];simp)
 have c1:=hr.cel j hj' 1 (by rw [hC];simp)
 simp only [hC,List.getElem_cons_zero,List.getElem_cons_succ,Nat.add_zero]at c0 c1
 refine⟨g,o,x,_,G j,hg,hr.lt _ hr.own,c0.1,c1.1,c1.2,fun h=>(hr.sub j hj' _ h).2 rfl,hI,fun v1 v2 hI1 hc1 hb2=>?_⟩
 have hsz:(v2.setCell ⟨g,o+j*2+1,none⟩ (.string (S (P.a7i (P.kAt k (l.take j)+l[j].1.length))))).heap.size=v2.heap.size:=by simp [World.setCell]
 have hz1:v.heap.size≤v2.heap.size:=Nat.le_trans hc1.size hb2.size
 have hset:(P.a4i k (l.take j)++l.drop j).set j (P.marks (P.kAt k (l.take j)) l[j].1.length,P.a7i (P.kAt k (l.take j)+l[j].1.length))=P.a4i k (l.take (j+1))++l.drop (j+1):=by
  rw [d8t _ _ j _ hA (by rw [List.length_drop];omega),a0f l j hj,P.b7i,List.drop_drop]
 have hold:∀b,b<v.heap.size→¬G j b→b≠g→(v2.setCell ⟨g,o+j*2+1,none⟩ (.string (S (P.a7i (P.kAt k (l.take j)+l[j].1.length))))).heap[b]?=v.heap[b]?:=by
  intro b hb hG hne;rw [Below.heap_setCell _ _ _ _ hne,hb2.block b (Nat.lt_of_lt_of_le hb hc1.size),hc1.block b hb hG]
 have hrow:v2.heap[g]?=v.heap[g]?:=by
  rw [hb2.block g (Nat.lt_of_lt_of_le (hr.lt _ hr.own) hc1.size),hc1.block g (hr.lt _ hr.own) fun h=>(hr.sub j hj' _ h).2 rfl]
 have hch:Chg F v (v2.setCell ⟨g,o+j*2+1,none⟩ (.string (S (P.a7i (P.kAt k (l.take j)+l[j].1.length))))):=
  ((hc1.mono fun b _ hb=>(hr.sub j hj' b hb).1).trans (Below.chg hb2 F)).setCell (p:=⟨g,o+j*2+1,none⟩) hr.own _
 refine⟨hc.trans hch,.inr ⟨g,o,_,_,hg,hset ▸ hr.put a0b j hj' F (G j) [x,.string (S (P.a7i (P.kAt k (l.take j)+l[j].1.length)))] _ (fun _ h=>h) (fun b hb=>?_) ?_ ?_ rfl ?_ (hr.sub j hj') ?_ ?_ ?_⟩⟩
 ·rw [hsz];exact Nat.lt_of_lt_of_le (hr.lt b hb) hz1
 ·rw [hsz];exact hz1
 ·have e:=((hr.cel j hj').keep hrow).b5k 1 (by rw [hC];simp) (.string (S (P.a7i (P.kAt k (l.take j)+l[j].1.length))));rw [hC]at e;exact e
 ·refine⟨x,rfl,(hI1.a0e a0g (X:=fun b=>b=g) ((Below.chg hb2 (fun b=>b=g)).setCell (p:=⟨g,o+j*2+1,none⟩) rfl _) ?_)⟩;rintro b hb rfl;exact (hr.sub j hj' _ hb).2 rfl
 ·intro i hi hij b h1 h2
  rcases Nat.lt_or_gt_of_ne hij with e|e
  ·exact hr.apart i j e hj' b h1 h2
  ·exact hr.apart j i e hi b h2 h1
 ·intro i hi hij;have hw:=hr.wid i hi;have o1:=b4v (wd:=2) (o:=o) hij 1 oZ;refine ((hr.cel i hi).keep hrow).a7k ?_ _;rw [hw];exact o1
 ·intro i hi hij b hb;refine hold b (hr.lt _ (hr.sub i hi b hb).1) (fun h2=>?_) (hr.sub i hi b hb).2
  rcases Nat.lt_or_gt_of_ne hij with e|e
  ·exact hr.apart i j e hj' b hb h2
  ·exact hr.apart j i e hi b h2 hb
theorem b8m.last {w v:World} {F:Blk} {ad:Option Addr} {k:Int} {l:P.Dic} {cap:Nat} (h:b8m w F ad k l.length l v) (hl:l.length≤2^30) (hn:(ad=none→cap=0)∧l.length≤cap):Ents v F (.slice ad l.length cap) (P.a4i k l):=by
 obtain⟨_,h⟩:=h;refine⟨ad,cap,by rw [P.a4w],by rw [P.a4w];exact hl,⟨hn.1,by rw [P.a4w];exact hn.2⟩,?_⟩
 rcases h with rfl|⟨g,o,G,C,hg,hr⟩
 ·exact .inl rfl
 ·rw [List.take_length,List.drop_length,List.append_nil]at hr;exact .inr ⟨g,o,G,C,hg,hr⟩
theorem c7i (u:Value) (l:P.Dic) (k:Int) (F:Blk) (w:World) (hu:Ents w F u l) (hk0:0≤k) (hk:P.kAt k l≤2^40) :
 Calls Tryz.prog 178 #[u,.int .i64 k] w fun e w'=>e=.returned (.int .i64 (P.kAt k l))∧Ents w' F u (P.a4i k l)∧Chg F w w':=by
 obtain⟨ad,cap,rfl,hl,hnil,hc0⟩:=hu
 have HNIL:=qh hnil;clear hnil
 have HC:=qh hc0;clear hc0
 go_enter Tryz.func178,Tryz.ntmps178
 go_wp2
 go_loopw [1,5] (fun kk i wr=>∃j:Nat,j≤l.length∧i=.int .i64 j∧kk=.int .i64 (P.kAt k (l.take j))∧b8m w F ad k j l wr) (fun _ i _=>l.length-(intOf i).toNat)
 case atStart=>exact⟨0,Nat.zero_le _,rfl,by simp [P.kAt],b8m.start HC.o⟩
 case round=>
  obtain⟨j,hj,rfl,rfl,hm⟩:=hrel;have HM:=qh hm;clear hm;have hb1:=(P.b3k k l j).2;have hb0:=P.a8x k (l.take j)
  by_cases hlt:j<l.length
  ·obtain⟨g,o,x,y,Gj,rfl,hgs,c0,c1,f1,hng,hx,hput⟩:=HM.o.cells hlt;have HPUT:=qh hput;clear hput;have HKS:=qh (show P.kAt k (l.take (j+1))=P.kAt k (l.take j)+l[j].1.length+1 by rw [a0f l j hlt,P.b7v]);have hb2:P.kAt k (l.take j)+l[j].1.length+1≤2^40:=by have:=(P.b3k k l (j+1)).2;rw [HKS.o]at this;omega
   have HX:=qh hx;obtain⟨xd,xc,rfl,hxl,_⟩:=hx;generalize P.kAt k (l.take j)=kk at *;generalize l[j]=en at *;obtain⟨eo,et⟩:=en;simp only at hb2 hxl HX HPUT HKS;have i1:(j:Int)<(l.length:Int):=by omega
   have k0:0≤kk:=by omega
   clear hb0 hb1
   go_wp2_with fail
   refine (c5u _ eo kk Gj _ HX.o k0 oZ).mono ?_;rintro e v1 ⟨rfl,hI,hc1,hs1⟩;have hcell:=hc1.cell (p:=⟨g,o+j*2+1,none⟩) hgs hng;have hfrz:=hc1.frozen (p:=⟨g,o+j*2+1,none⟩) hgs hng;rw [c1]at hcell;rw [f1]at hfrz;have hgs1:g<v1.heap.size:=by omega
   have HC1:=qh hc1;have HI:=qh hI;clear hc1 hI hs1 c0 c1 f1
   go_wp2_with fail
   refine (c6m _ _ oZ oZ).mono ?_;rintro e v2 ⟨rfl,hb2'⟩;have hcell2:=(hb2'.cell (p:=⟨g,o+j*2+1,none⟩) hgs1).trans hcell;have hfrz2:=(hb2'.frozen (p:=⟨g,o+j*2+1,none⟩) hgs1).trans hfrz;have HN:=qh (HPUT.o v1 v2 HI.o HC1.o hb2');clear hb2' hcell hfrz;generalize P.a7i (kk+(eo.length:Int))=tx at *;go_wp2
   go_roundw
   case rel=>exact⟨j+1,by omega,by go_num,by rw [HKS.o],HN.o⟩
   case measure=>simp [intOf];omega
  ·have hjl:j=l.length:=by omega
   subst hjl;clear hb0 hb1;go_wp2;go_ret;exact⟨a1m (by rw [List.take_length]),HM.o.last hl HNIL.o,HM.o.1⟩
theorem c8w (u:Value) (l:P.Dic) (k:Int) (w:World) (hu:EntR w u (P.a4i k l)) (hk0:0≤k) (hk:P.kAt k l≤2^40) :
 Calls Tryz.prog 180 #[u,.int .i64 k] w fun e w'=>e=.returned (.int .i64 (P.kAt k l))∧Below w.heap.size w w':=by
 have HU:=qh hu
 obtain⟨ad,cap,rfl,hl,_⟩:=hu
 rw [P.a4w]at *
 go_enter Tryz.func180,Tryz.ntmps180
 go_wp2
 go_loopw [1,5] (fun kk i wr=>∃j:Nat,j≤l.length∧i=.int .i64 j∧kk=.int .i64 (P.kAt k (l.take j))∧Below w.heap.size w wr) (fun _ i _=>l.length-(intOf i).toNat)
 case atStart=>exact⟨0,Nat.zero_le _,rfl,by simp [P.kAt],Below.refl _ _⟩
 case round=>
  obtain⟨j,hj,rfl,rfl,hb⟩:=hrel;have HB:=qh hb;have hb1:=(P.b3k k l j).2;have hb0:=P.a8x k (l.take j)
  by_cases hlt:j<l.length
  ·obtain⟨g,o,rfl,hgs,x,c0,c1,hx⟩:=(HU.o.below hb).at j (by rw [P.a4w];exact hlt);rw [P.d1o k l j hlt]at c1 hx;have HKS:=qh (show P.kAt k (l.take (j+1))=P.kAt k (l.take j)+l[j].1.length+1 by rw [a0f l j hlt,P.b7v]);have hb2:P.kAt k (l.take j)+l[j].1.length+1≤2^40:=by have:=(P.b3k k l (j+1)).2;rw [HKS.o]at this;omega
   have HX:=qh hx;obtain⟨xd,xc,rfl,hxl,_⟩:=hx;rw [P.a3w]at *;generalize P.kAt k (l.take j)=kk at *;generalize l[j]=en at *;obtain⟨eo,et⟩:=en;simp only at hb2 hxl HX HKS c1;have i1:(j:Int)<(l.length:Int):=by omega
   have k0:0≤kk:=by omega
   have hn1:¬kk+(eo.length:Int)<0:=by omega
   have hbz:=hb.size;clear hb0 hb1 hb
   go_wp2_with fail
   refine (c5e _ eo.length kk _ HX.o k0 oZ oZ).mono ?_;rintro e v1 ⟨rfl,rfl⟩;have HS:=qh (show d3s w g (o+j*2+1) (.string (S (P.a7i (kk+eo.length)))) wr.drew from⟨c1,hgs,hbz,HB.o.drew⟩)
   go_upto_region 7 with fail
   refine wp_region_held_drew (S:=d3s w g (o+j*2+1) (.string (S (P.a7i (kk+eo.length))))) kZ HS.o (fun hS0=>?_);refine tk1 0 hS0 ?_;refine tk1 1 hS0 ?_;refine tk1 2 (v:=.pointer (some ⟨g,o+j*2,none⟩)) hS0 ?_;refine tk1 3 (v:=.pointer (some ⟨g,o+j*2+1,none⟩)) hS0 ?_;refine tk1 4 hS0 ?_;refine tk1 5 hS0 ?_;refine trd 6 fun K hK=>?_;have HS1:=qh hS0;go_simp;refine (c6m _ _ oZ oZ).mono ?_;rintro e v ⟨rfl,hb⟩;refine hK.out _ _ (HS1.o.step hb) (fun hS1=>?_);clear hK K hb
   try simp only [qA,qB,qC,Act.put,qD,qE,qF]
   refine tk1 7 hS1 ?_;refine wpAnyH_done kZ ?_ _;have HB2:=qh (hS1.2.2.2);clear hS0 hS1 HS1;go_wp2
   go_roundw
   case rel=>exact⟨j+1,by omega,by go_num,by rw [HKS.o],HB2.o⟩
   case measure=>simp [intOf];omega
  ·have hjl:j=l.length:=by omega
   subst hjl;clear hb0 hb1 hb;go_wp2;go_ret;exact⟨a1m (by rw [List.take_length]),HB.o⟩
end
section
namespace P
def a4t:Dic→Int
 |[]=>0
 |e::l=>e.1.length+e.2.length+a4t l
theorem b7h (e:Ent):∀l:Dic,a4t (l++[e])=a4t l+e.1.length+e.2.length
 |[]=>by simp [a4t]
 |x::l=>by simp only [List.cons_append,a4t];rw [b7h e l];omega
theorem a3e:∀l:Dic,0≤a4t l
 |[]=>Int.le_refl 0
 |e::l=>by have:=a3e l;simp only [a4t];omega
theorem b5t {e:Ent}:∀{l:Dic},e∈l→(e.1.length:Int)≤a4t l∧(e.2.length:Int)≤a4t l
 |[],h=>by cases h
 |x::l,h=>by
  have:=a3e l;simp only [a4t]
  rcases List.mem_cons.1 h with rfl|h
  ·omega
  ·have:=b5t h;omega
theorem d7c (k:Int):∀l:Dic,kAt k l≤k+l.length+a4t l
 |[]=>by simp [kAt,a4t]
 |e::l=>by have:=d7c (k+e.1.length+1) l;simp only [kAt,a4t,List.length_cons];omega
end P
open Go Go.RowKit
set_option maxHeartbeats 1000000
set_option maxRecDepth 100000
theorem b6j (u:Value) (l:P.Dic) (k:Int) (F:Blk) (w:World) (hu:Ents w F u l) (hk0:0≤k) (hk:P.kAt k l≤2^40) :
 Calls Tryz.prog 99 #[.agg #[u],.int .i64 k] w fun e w'=>e=.returned (.int .i64 (P.kAt k l))∧Ents w' F u (P.a4i k l)∧Chg F w w':=by
 have HU:=qh (hu.below a0b ((Below.refl w.heap.size w).alloc lZ (.cells #[u] 26)))
 have HC:=qh ((Chg.refl F w).alloc (.cells #[u] 26))
 obtain⟨ad,cap,rfl,_,_⟩:=hu
 go_enter Tryz.func99,Tryz.ntmps99
 go_wp2_with fail
 refine (c7i _ l k F _ HU.o hk0 hk).mono ?_
 rintro e w1 ⟨rfl,hI,hc⟩
 have HI:=qh hI;have HC1:=qh (HC.o.trans hc)
 clear hI hc
 go_wp2
 go_ret
 exact⟨rfl,HI.o,HC1.o⟩
theorem b6e (u:Value) (l:P.Dic) (k:Int) (w:World) (hu:EntR w u (P.a4i k l)) (hk0:0≤k) (hk:P.kAt k l≤2^40) :
 Calls Tryz.prog 101 #[.agg #[u],.int .i64 k] w fun e w'=>e=.returned (.int .i64 (P.kAt k l))∧Below w.heap.size w w':=by
 have hb0:=(Below.refl w.heap.size w).alloc lZ (.cells #[u] 26)
 have HU:=qh (hu.below hb0);have HB0:=qh hb0;clear hb0
 obtain⟨ad,cap,rfl,_,_⟩:=hu
 go_enter Tryz.func101,Tryz.ntmps101
 go_wp2_with fail
 refine (c8w _ l k _ HU.o hk0 hk).mono ?_
 rintro e w1 ⟨rfl,hb⟩
 have HB1:=qh (HB0.o.trans (hb.mono sZ))
 have hg:=P.a8x k l
 have hn:¬P.kAt k l<0:=by omega
 clear hb hg
 go_wp2
 go_ret
 exact⟨rfl,HB1.o⟩
end
end Go.Proofs.YtggfdnopminemaaGreatDoor
