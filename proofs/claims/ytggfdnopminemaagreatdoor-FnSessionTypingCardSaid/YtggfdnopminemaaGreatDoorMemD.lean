/- Walks of the dictionary seats: small functions. Rows of ints and of entries, as they are read. -/
import Derived.Test.YtggfdnopminemaaGreatDoorZt
import Derived.Test.YtggfdnopminemaaGreatDoorD0
import Derived.Test.YtggfdnopminemaaGreatDoorPlainD
set_option linter.all false
namespace Go.Proofs.YtggfdnopminemaaGreatDoor
section
open Go Go.RowKit
set_option maxHeartbeats 8000000
set_option maxRecDepth 100000
theorem a1k (n lo hi:Int) (w:World) :
 Calls Tryz.prog 74 #[.int .i64 n,.int .i64 lo,.int .i64 hi] w fun e w'=>e=.returned (.bool (decide (lo≤n∧n≤hi)))∧w=w':=by
 by_cases h1:lo≤n<;>by_cases h2:n≤hi
 all_goals
  go_enter Tryz.func74,Tryz.ntmps74
  go_wp2
  go_ret
  exact⟨a0b (by simp [h1,h2]),rfl⟩
theorem l1In (n lo hi:Int) (w:World) :
 Calls Tryz.prog 187 #[.int .i64 n,.int .i64 lo,.int .i64 hi] w fun e w'=>e=.returned (.bool (decide (lo≤n∧n≤hi)))∧w=w':=by
 by_cases h1:lo≤n<;>by_cases h2:n≤hi
 all_goals
  go_enter Tryz.func187,Tryz.ntmps187
  go_wp2
  go_ret
  exact⟨a0b (by simp [h1,h2]),rfl⟩
theorem c1k {l:Str} {p:UInt8→Bool} (k:Nat) (h:k<l.length) (hp:p l[k]=false):l.all p=false:=by
 rw [List.all_eq_false];exact⟨l[k],List.getElem_mem h,by simp [hp]⟩
theorem a8k {l:Str} {p:UInt8→Bool} (k:Nat) (h:k<l.length) (ha:(l.take k).all p=true) (hp:p l[k]=true):(l.take (k+1)).all p=true:=by
 rw [a0h l k h,List.all_append,ha];simp [hp]
@[go_sem] theorem u8_eq (a b : UInt8) : ((a.toNat : Int) == (b.toNat : Int)) = (a == b) := by
 exact zq69
end
section
open Go Go.RowKit
set_option maxHeartbeats 8000000
set_option maxRecDepth 100000
def IntR (v:World) (u:Value) (l:List Int):Prop:=
 ∃(ad:Option Addr) (cap:Nat),u=.slice ad l.length cap∧(l.length≤2^45∧l.length≤cap)∧(ad=none→cap=0)∧(l=[]∨∃g o,ad=some ⟨g,o,none⟩∧g<v.heap.size∧∀(j:Nat) (h:j<l.length),v.cell? ⟨g,o+j,none⟩=some (.int .i64 (l[j]'h)))
def EntR (v:World) (u:Value) (l:P.Dic):Prop:=
 ∃(ad:Option Addr) (cap:Nat),u=.slice ad l.length cap∧(l.length≤2^45∧l.length≤cap)∧(ad=none→cap=0)∧(l=[]∨∃g o,ad=some ⟨g,o,none⟩∧g<v.heap.size∧∀(j:Nat) (h:j<l.length),∃x,v.cell? ⟨g,o+j*2,none⟩=some x∧v.cell? ⟨g,o+j*2+1,none⟩=some (.string (S (l[j]'h).2))∧IntR v x (l[j]'h).1)
theorem IntR.below {v v':World} {u:Value} {l:List Int} (h:IntR v u l) (hb:Below v.heap.size v v'):IntR v' u l:=by
 obtain⟨ad,cap,h1,h2,hn,h3⟩:=h;refine⟨ad,cap,h1,h2,hn,h3.imp id ?_⟩;rintro⟨g,o,h4,h5,h6⟩;exact⟨g,o,h4,Nat.lt_of_lt_of_le h5 hb.size,fun j hj=>(hb.cell (p:=⟨g,_,none⟩) h5).trans (h6 j hj)⟩
theorem EntR.below {v v':World} {u:Value} {l:P.Dic} (h:EntR v u l) (hb:Below v.heap.size v v'):EntR v' u l:=by
 exact zq30
def Whole (u:Value):Prop:=u=.slice none 0 0∨∃ad n c,u=.slice (some ad) n c
theorem IntR.whole {v:World} {u:Value} {l:List Int} (h:IntR v u l):Whole u:=by
 exact zq48
theorem EntR.whole {v:World} {u:Value} {l:P.Dic} (h:EntR v u l):Whole u:=by
 exact zq48
theorem IntR.at {v:World} {ad:Option Addr} {n cap:Nat} {l:List Int} (h:IntR v (.slice ad n cap) l) (j:Nat) (hj:j<l.length):∃g o,ad=some ⟨g,o,none⟩∧g<v.heap.size∧v.cell? ⟨g,o+j,none⟩=some (.int .i64 (l[j]'hj)):=by
 obtain⟨ad',cap',he,_,_,h3⟩:=h;exact zq20
theorem EntR.at {v:World} {ad:Option Addr} {n cap:Nat} {l:P.Dic} (h:EntR v (.slice ad n cap) l) (j:Nat) (hj:j<l.length):∃g o,ad=some ⟨g,o,none⟩∧g<v.heap.size∧∃x,v.cell? ⟨g,o+j*2,none⟩=some x∧v.cell? ⟨g,o+j*2+1,none⟩=some (.string (S (l[j]'hj).2))∧IntR v x (l[j]'hj).1:=by
 obtain⟨ad',cap',he,_,_,h3⟩:=h;exact zq20
end
section
open Go Go.RowKit
set_option maxHeartbeats 8000000
abbrev Blk:=Nat→Prop
def Bet (lo hi b:Nat):Prop:=lo≤b∧b<hi
structure Chg (F:Blk) (w w':World):Prop where
 os:w'.os=w.os
 tape:w'.tape=w.tape
 output:w'.output=w.output
 size:w.heap.size≤w'.heap.size
 block:∀b,b<w.heap.size→¬F b→w'.heap[b]?=w.heap[b]?
theorem Chg.refl (F:Blk) (w:World):Chg F w w:=⟨rfl,rfl,rfl,Nat.le_refl _,fun _ _ _=>rfl⟩
theorem Chg.trans {F:Blk} {a b c:World} (h:Chg F a b) (k:Chg F b c):Chg F a c:=
 ⟨k.os.trans h.os,k.tape.trans h.tape,k.output.trans h.output,Nat.le_trans h.size k.size,fun i hi hf=>(k.block i (Nat.lt_of_lt_of_le hi h.size) hf).trans (h.block i hi hf)⟩
theorem Chg.mono {F F':Blk} {w w':World} (h:Chg F w w') (hF:∀b,b<w.heap.size→F b→F' b):Chg F' w w':=
 ⟨h.os,h.tape,h.output,h.size,fun b hb hf=>h.block b hb fun h'=>hf (hF b hb h')⟩
theorem Below.chg {w w':World} (h:Below w.heap.size w w') (F:Blk):Chg F w w':=⟨h.os,h.tape,h.output,h.size,fun b hb _=>h.block b hb⟩
theorem Chg.below {F:Blk} {B:Nat} {w w':World} (h:Chg F w w') (hB:B≤w.heap.size) (hF:∀b,F b→B≤b):Below B w w':=
 ⟨h.os,h.tape,h.output,h.size,fun b hb=>h.block b (Nat.lt_of_lt_of_le hb hB) fun h'=>absurd (hF b h') (Nat.not_le.2 hb)⟩
theorem Chg.drew {F:Blk} {a w:World} (h:Chg F a w):Chg F a w.drew:=⟨h.os,h.tape,h.output,h.size,h.block⟩
theorem Chg.alloc {F:Blk} {a w:World} (h:Chg F a w) (o:Obj):Chg F a (w.alloc o):=
 h.trans (Below.chg (bZ.alloc lZ o) F)
theorem Chg.setCell {F:Blk} {a w:World} (h:Chg F a w) {p:Addr} (hp:F p.block) (u:Value):Chg F a (w.setCell p u):=
 h.trans ⟨rfl,rfl,rfl,by simp [World.setCell],fun b _ hf=>Below.heap_setCell _ _ _ _ (by rintro rfl;exact hf hp)⟩
theorem Chg.cell {F:Blk} {w w':World} (h:Chg F w w') {p:Addr} (hp:p.block<w.heap.size) (hf:¬F p.block):w'.cell? p=w.cell? p:=World.cell?_of_block (w:=w) (h.block _ hp hf)
theorem Chg.frozen {F:Blk} {w w':World} (h:Chg F w w') {p:Addr} (hp:p.block<w.heap.size) (hf:¬F p.block):w'.frozen? p=w.frozen? p:=World.frozen?_of_block (w:=w) (h.block _ hp hf)
def Kept (F:Blk) (v v':World):Prop:=v.heap.size≤v'.heap.size∧∀b,F b→v'.heap[b]?=v.heap[b]?
theorem Kept.of_chg {F X:Blk} {v v':World} (h:Chg X v v') (hl:∀b,F b→b<v.heap.size) (hx:∀b,F b→¬X b):Kept F v v':=⟨h.size,fun b hb=>h.block b (hl b hb) (hx b hb)⟩
theorem Kept.mono {F F':Blk} {v v':World} (h:Kept F v v') (hF:∀b,F' b→F b):Kept F' v v':=⟨h.1,fun b hb=>h.2 b (hF b hb)⟩
def Cel (v:World) (g o:Nat) (cs:List Value):Prop:=∀(i:Nat) (h:i<cs.length),v.cell? ⟨g,o+i,none⟩=some (cs[i]'h)∧v.frozen? ⟨g,o+i,none⟩=false
theorem Cel.keep {v v':World} {g o:Nat} {cs:List Value} (h:Cel v g o cs) (hb:v'.heap[g]?=v.heap[g]?):Cel v' g o cs:=
 fun i hi=>⟨(World.cell?_of_block (w:=v) (a:=⟨g,o+i,none⟩) hb).trans (h i hi).1,(World.frozen?_of_block (w:=v) (a:=⟨g,o+i,none⟩) hb).trans (h i hi).2⟩
abbrev ElT (α:Type):=World→Blk→List Value→α→Prop
structure ElOk {α:Type} (E:ElT α):Prop where
 keep:∀{v v' F cs a},E v F cs a→Kept F v v'→E v' F cs a
 wide:∀{v F F' cs a},E v F cs a→(∀b,F b→F' b)→(∀b,F' b→b<v.heap.size)→E v F' cs a
variable {α:Type} {E:ElT α} {wd:Nat}
structure RowC (wd:Nat) (E:ElT α) (v:World) (F:Blk) (g o:Nat) (G:Nat→Blk) (C:Nat→List Value) (l:List α):Prop where
 own:F g
 lt:∀b,F b→b<v.heap.size
 cel:∀j,j<l.length→Cel v g (o+j*wd) (C j)
 wid:∀j,j<l.length→(C j).length=wd
 el:∀j (h:j<l.length),E v (G j) (C j) (l[j]'h)
 sub:∀j,j<l.length→∀b,G j b→F b∧b≠g
 apart:∀i j,i<j→j<l.length→∀b,G i b→G j b→False
def RowO (wd:Nat) (E:ElT α) (v:World) (F:Blk) (u:Value) (l:List α):Prop:=
 ∃(ad:Option Addr) (cap:Nat),u=.slice ad l.length cap∧l.length≤2^30∧((ad=none→cap=0)∧l.length≤cap)∧(l=[]∨∃g o G C,ad=some ⟨g,o,none⟩∧RowC wd E v F g o G C l)
theorem RowC.keep (hE:ElOk E) {v v':World} {F:Blk} {g o:Nat} {G:Nat→Blk} {C:Nat→List Value} {l:List α} (h:RowC wd E v F g o G C l) (hk:Kept F v v'):RowC wd E v' F g o G C l:=
 ⟨h.own,fun b hb=>Nat.lt_of_lt_of_le (h.lt b hb) hk.1,fun j hj=>(h.cel j hj).keep (hk.2 _ h.own),h.wid,fun j hj=>hE.keep (h.el j hj) (hk.mono fun b hb=>(h.sub j hj b hb).1),h.sub,h.apart⟩
theorem RowC.wide {v:World} {F F':Blk} {g o:Nat} {G:Nat→Blk} {C:Nat→List Value} {l:List α} (h:RowC wd E v F g o G C l) (hF:∀b,F b→F' b) (hl:∀b,F' b→b<v.heap.size):RowC wd E v F' g o G C l:=
 ⟨hF _ h.own,hl,h.cel,h.wid,h.el,fun j hj b hb=>⟨hF _ (h.sub j hj b hb).1,(h.sub j hj b hb).2⟩,h.apart⟩
theorem RowO.keep (hE:ElOk E) {v v':World} {F:Blk} {u:Value} {l:List α} (h:RowO wd E v F u l) (hk:Kept F v v'):RowO wd E v' F u l:=by
 obtain⟨ad,cap,h1,h2,hn,h3⟩:=h;refine⟨ad,cap,h1,h2,hn,h3.imp id ?_⟩;rintro⟨g,o,G,C,h4,h5⟩;exact⟨g,o,G,C,h4,h5.keep hE hk⟩
theorem RowO.wide {v:World} {F F':Blk} {u:Value} {l:List α} (h:RowO wd E v F u l) (hF:∀b,F b→F' b) (hl:∀b,F' b→b<v.heap.size):RowO wd E v F' u l:=by
 obtain⟨ad,cap,h1,h2,hn,h3⟩:=h;refine⟨ad,cap,h1,h2,hn,h3.imp id ?_⟩;rintro⟨g,o,G,C,h4,h5⟩;exact⟨g,o,G,C,h4,h5.wide hF hl⟩
theorem RowO.a0c (hE:ElOk E) {v v':World} {F X:Blk} {u:Value} {l:List α} (h:RowO wd E v F u l) (hc:Chg X v v') (hx:∀b,F b→¬X b):RowO wd E v' F u l:=by
 obtain⟨ad,cap,h1,h2,hn,h3⟩:=h;refine⟨ad,cap,h1,h2,hn,h3.imp id ?_⟩;rintro⟨g,o,G,C,h4,h5⟩;exact⟨g,o,G,C,h4,h5.keep hE (Kept.of_chg hc h5.lt hx)⟩
theorem RowO.below (hE:ElOk E) {v v':World} {F:Blk} {u:Value} {l:List α} (h:RowO wd E v F u l) (hb:Below v.heap.size v v'):RowO wd E v' F u l:=
 h.a0c hE (Below.chg hb fun _=>False) fun _ _ h=>h
theorem RowO.nil (v:World) (F:Blk):RowO wd E v F (.slice none 0 0) ([]:List α):=⟨none,0,rfl,by simp,⟨fun _=>rfl,Nat.zero_le _⟩,.inl rfl⟩
theorem RowO.empty (v:World) (F:Blk) (a:Addr) (cap:Nat):RowO wd E v F (.slice (some a) 0 cap) ([]:List α):=⟨some a,cap,rfl,by simp,⟨(fun h=>by cases h),Nat.zero_le _⟩,.inl rfl⟩
theorem RowC.mk_at {v:World} {F:Blk} {g o:Nat} {l:List α} (G:Nat→Blk) (C:Nat→List Value) (h1:F g) (h2:∀b,F b→b<v.heap.size) (h3:∀j (h:j<l.length),Cel v g (o+j*wd) (C j)∧(C j).length=wd∧E v (G j) (C j) (l[j]'h)∧∀b,G j b→F b∧b≠g)
 (h4:∀i j,i<j→j<l.length→∀b,G i b→G j b→False):RowC wd E v F g o G C l:=
 ⟨h1,h2,fun j hj=>(h3 j hj).1,fun j hj=>(h3 j hj).2.1,fun j hj=>(h3 j hj).2.2.1,fun j hj=>(h3 j hj).2.2.2,h4⟩
theorem RowC.put (hE:ElOk E) {v v':World} {F:Blk} {g o:Nat} {G:Nat→Blk} {C:Nat→List Value} {l:List α} (h:RowC wd E v F g o G C l) (j:Nat) (hj:j<l.length) (F' G':Blk) (cs:List Value) (a:α)
 (hF:∀b,F b→F' b) (hF':∀b,F' b→b<v'.heap.size) (hsz:v.heap.size≤v'.heap.size)
 (hcs:Cel v' g (o+j*wd) cs) (hw:cs.length=wd) (ha:E v' G' cs a) (hG:∀b,G' b→F' b∧b≠g)
 (hap:∀i,i<l.length→i≠j→∀b,G i b→G' b→False)
 (hoc:∀i,i<l.length→i≠j→Cel v' g (o+i*wd) (C i))
 (hok:∀i,i<l.length→i≠j→∀b,G i b→v'.heap[b]?=v.heap[b]?) :
 RowC wd E v' F' g o (fun i=>if i=j then G' else G i) (fun i=>if i=j then cs else C i) (l.set j a):=by
 refine⟨hF _ h.own,hF',fun i hi=>?_,fun i hi=>?_,fun i hi=>?_,fun i hi=>?_,fun i k hik hk=>?_⟩
 ·rw [List.length_set]at hi
  show Cel v' g (o+i*wd) (if i=j then cs else C i)
  split
  ·rename_i e;subst e;exact hcs
  ·rename_i e;exact hoc i hi e
 ·rw [List.length_set]at hi
  show (if i=j then cs else C i).length=wd
  split
  ·exact hw
  ·exact h.wid i hi
 ·simp only [List.getElem_set];rw [List.length_set]at hi
  by_cases e:i=j
  ·subst e;simp only [if_true];exact ha
  ·have e':¬j=i:=fun h=>e h.symm;simp only [e,e',if_false];exact hE.keep (h.el i hi) ⟨hsz,hok i hi e⟩
 ·rw [List.length_set]at hi
  show ∀b,(if i=j then G' else G i) b→_
  split
  ·exact hG
  ·exact fun b hb=>⟨hF _ (h.sub i hi b hb).1,(h.sub i hi b hb).2⟩
 ·rw [List.length_set]at hk
  show ∀b,(if i=j then G' else G i) b→(if k=j then G' else G k) b→False
  by_cases e:i=j
  ·subst e;rw [if_pos rfl,if_neg oZ];exact fun b h1 h2=>hap k hk oZ b h2 h1
  ·rw [if_neg e]
   by_cases e':k=j
   ·subst e';rw [if_pos rfl];exact hap i oZ e
   ·rw [if_neg e'];exact h.apart i k hik hk
theorem Cel.a8u {v:World} {g o p:Nat} {cs:List Value} (h:Cel v g o cs) (hp:p<o∨o+cs.length≤p) (x:Value):Cel (v.setCell ⟨g,p,none⟩ x) g o cs:=by
 intro i hi;refine⟨?_,?_⟩
 ·rw [World.cell?_setCell_other _ _ _ _ (by intro e;injection e;omega)];exact (h i hi).1
 ·simpa using (h i hi).2
theorem Cel.c2v {v:World} {g o:Nat} {cs:List Value} (h:Cel v g o cs) (i:Nat) (hi:i<cs.length) (x:Value):Cel (v.setCell ⟨g,o+i,none⟩ x) g o (cs.set i x):=by
 intro j hj;rw [List.length_set]at hj;refine⟨?_,?_⟩
 ·rw [List.getElem_set]
  split
  ·rename_i e;subst e;exact World.cell?_setCell_same _ _ _ (h i hi).1
  ·rename_i e
   rw [World.cell?_setCell_other _ _ _ _ (by intro e';injection e';omega)];exact (h j hj).1
 ·simpa using (h j hj).2
theorem b9e {wd o i j:Nat} (hij:i≠j) (k:Nat) (hk:k<wd):o+j*wd+k<o+i*wd∨o+i*wd+wd≤o+j*wd+k:=by
 rcases Nat.lt_or_gt_of_ne hij with h|h
 ·right
  have:=Nat.mul_le_mul_right wd (show i+1≤j by omega);rw [Nat.add_mul]at this;omega
 ·left
  have:=Nat.mul_le_mul_right wd (show j+1≤i by omega);rw [Nat.add_mul]at this;omega
theorem RowC.d2c (hE:ElOk E) {v:World} {F:Blk} {g o:Nat} {G:Nat→Blk} {C:Nat→List Value} {l:List α} (h:RowC wd E v F g o G C l) (j:Nat) (hj:j<l.length) (k:Nat) (hk:k<wd) (x:Value) (a:α)
 (ha:E (v.setCell ⟨g,o+j*wd+k,none⟩ x) (G j) ((C j).set k x) a) :
 RowC wd E (v.setCell ⟨g,o+j*wd+k,none⟩ x) F g o (fun i=>if i=j then G j else G i) (fun i=>if i=j then (C j).set k x else C i) (l.set j a):=by
 have hs:(v.setCell ⟨g,o+j*wd+k,none⟩ x).heap.size=v.heap.size:=by simp [World.setCell]
 refine h.put hE j hj F (G j) _ a (fun _ h=>h) (fun b hb=>by rw [hs];exact h.lt b hb) (Nat.le_of_eq hs.symm) ((h.cel j hj).c2v k (by rw [h.wid j hj];exact hk) x) (by rw [List.length_set];exact h.wid j hj) ha (h.sub j hj) ?_ ?_ ?_
 ·intro i hi hij b h1 h2
  rcases Nat.lt_or_gt_of_ne hij with e|e
  ·exact h.apart i j e hj b h1 h2
  ·exact h.apart j i e hi b h2 h1
 ·intro i hi hij;have hw:=h.wid i hi;refine (h.cel i hi).a8u ?_ x;rw [hw];exact b9e hij k hk
 ·intro i hi _ b hb;exact Below.heap_setCell _ _ _ _ (h.sub i hi b hb).2
def intE:ElT Int:=fun _ _ cs n=>cs=[.int .i64 n]
theorem a1a:ElOk intE:=⟨fun h _=>h,fun h _ _=>h⟩
def entE:ElT P.Ent:=fun v F cs e=>∃x,cs=[x,.string (S e.2)]∧RowO 1 intE v F x e.1
theorem a0e:ElOk entE:=
 ⟨fun⟨x,h,k⟩ hk=>⟨x,h,k.keep a1a hk⟩,fun⟨x,h,k⟩ hF hl=>⟨x,h,k.wide hF hl⟩⟩
abbrev Ints:=RowO 1 intE
abbrev Ents:=RowO 2 entE
theorem Ints.read {v:World} {F:Blk} {u:Value} {l:List Int} (h:Ints v F u l):IntR v u l:=by
 obtain⟨ad,cap,h1,h2,hn,h3⟩:=h;refine⟨ad,cap,h1,by omega,hn.1,h3.imp id ?_⟩;rintro⟨g,o,G,C,h4,h5⟩;refine⟨g,o,h4,h5.lt _ h5.own,fun j hj=>?_⟩;have he:C j=[.int .i64 l[j]]:=h5.el j hj;have hc:=(h5.cel j hj 0 (by rw [he];simp)).1;simp only [he,List.getElem_cons_zero,Nat.mul_one,Nat.add_zero]at hc;exact hc
theorem Ents.read {v:World} {F:Blk} {u:Value} {l:P.Dic} (h:Ents v F u l):EntR v u l:=by
 obtain⟨ad,cap,h1,h2,hn,h3⟩:=h;refine⟨ad,cap,h1,by omega,hn.1,h3.imp id ?_⟩;rintro⟨g,o,G,C,h4,h5⟩;refine⟨g,o,h4,h5.lt _ h5.own,fun j hj=>?_⟩;obtain⟨x,he,hx⟩:=h5.el j hj;have hc:=(h5.cel j hj 0 (by rw [he];simp)).1;have hd:=(h5.cel j hj 1 (by rw [he];simp)).1;simp only [he,List.getElem_cons_zero,List.getElem_cons_succ,Nat.add_zero]at hc hd;exact⟨x,hc,hd,Ints.read hx⟩
end
section
namespace P
end P
open Go Go.RowKit
set_option maxHeartbeats 8000000
set_option maxRecDepth 100000
abbrev ints (l:List Int):List Value:=l.map (Value.int .i64)
theorem b1u {v:World} {F:Blk} {g o cap:Nat} {l:List Int} (h:Cel v g o (ints l)) (hF:F g) (hl:∀b,F b→b<v.heap.size) (hn:l.length≤2^30) (hcp:l.length≤cap):Ints v F (.slice (some ⟨g,o,none⟩) l.length cap) l:=by
 refine⟨_,_,rfl,hn,⟨(fun h=>by cases h),hcp⟩,.inr ⟨g,o,fun _ _=>False,fun j=>[.int .i64 (l[j]?.getD 0)],rfl,hF,hl,fun j hj i hi=>?_,fun _ _=>rfl,fun j hj=>?_,fun _ _ _ h=>h.elim,fun _ _ _ _ _ h _=>h⟩⟩
 ·have hi0:i=0:=by simpa using hi
  subst hi0;have:=h j (by simpa using hj)
  simpa [List.getElem?_eq_getElem hj] using this
 ·show [_]=[_]
  rw [List.getElem?_eq_getElem hj];rfl
theorem a1z:(Tryz.prog.info? 3).map (fun i=>(i.zero,i.size,i.bytes))=some (some (.int .i64 0),1,8):=by kernel_rfl
def c1f (l:List Int) (w:World) (e:Ending) (w':World):Prop:=∃u,e=.returned u∧Ints w' (Bet w.heap.size w'.heap.size) u l∧Below w.heap.size w w'
end
section
open Go Go.RowKit
set_option maxHeartbeats 8000000
set_option maxRecDepth 100000
def d5c (l:List Int) (t:Str) (w:World) (e:Ending) (w':World):Prop:=∃u,e=.returned (.agg #[u,.string (S t)])∧Ints w' (Bet w.heap.size w'.heap.size) u l∧Below w.heap.size w w'
theorem a4n:(Tryz.prog.info? 119).map (fun i=>(i.zero,i.size,i.bytes))=some (some (.agg #[.slice none 0 0,.string ⟨#[]⟩]),2,40):=by kernel_rfl
def b5e (l:P.Dic) (w:World) (e:Ending) (w':World):Prop:=∃u,e=.returned (.agg #[u])∧Ents w' (Bet w.heap.size w'.heap.size) u l∧Below w.heap.size w w'
end
section
open Go Go.RowKit
set_option maxHeartbeats 8000000
set_option maxRecDepth 100000
end
section
namespace P
end P
open Go Go.RowKit
set_option maxHeartbeats 8000000
set_option maxRecDepth 100000
end
section
namespace P
end P
open Go Go.RowKit
set_option maxHeartbeats 8000000
set_option maxRecDepth 100000
end
end Go.Proofs.YtggfdnopminemaaGreatDoor
