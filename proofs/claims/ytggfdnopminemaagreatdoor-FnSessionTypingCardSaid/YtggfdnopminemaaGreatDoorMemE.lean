/- A region that draws its order, with a condition on the worlds between its operations: it need not hold behind the operations of a list Z, which come last. Appending from a slice that may be nil. Walks: a copy of a row of ints (reference, program). Rows that grow by append, element by element. Walks: the reference's copy of a dictionary. -/
import Derived.Test.YtggfdnopminemaaGreatDoorZt
import Derived.Test.YtggfdnopminemaaGreatDoorTransD
set_option linter.all false
namespace Go.Proofs.YtggfdnopminemaaGreatDoor
section
open Go
section
variable {P:Program} {ops:Array Oper} {Q:Exit→Act→World→Prop} {md:Region.Mode} {S:World→Prop} {Z:List Nat}
def b3r (md:Region.Mode) (ops:Array Oper) (b:Array Bool):Prop:=∀k p,ops[k]?=some p→b.getD k false=true→∀e∈p.after,Region.binds md e=true→b.getD e.on false=true
theorem b3r.start (n:Nat):b3r md ops (Array.replicate n false):=by
 intro k p _ h
 rcases Nat.lt_or_ge k n with hk|hk
 ·simp [hk]at h
 ·simp [hk]at h
theorem b3r.put {b:Array Bool} {i:Nat} (h:b3r md ops b) (hi:i∈Region.ready md ops b):b3r md ops (b.setIfInBounds i true):=by
 intro k p hp hk e he hb
 by_cases hki:i=k
 ·subst hki;obtain⟨_,o,ho,hall⟩:=mem_ready.1 hi;rw [ho]at hp;injection hp with hp;subst hp;exact getD_set_true (hall e he hb)
 ·rw [getD_set_ne false hki]at hk;exact getD_set_true (h k p hp hk e he hb)
def waits (md:Region.Mode) (ops:Array Oper) (i:Nat):Nat→Nat→Bool
 |0,_=>false
 |n+1,z=>((ops[z]?).map fun p=>p.after.toList.any fun e=>Region.binds md e&&(e.on==i||waits md ops i n e.on)).getD false
theorem b0l {i:Nat} {b:Array Bool} (h:b3r md ops b):∀(n z:Nat),waits md ops i n z=true→b.getD z false=true→b.getD i false=true
 |0,_,hw,_=>by cases hw
 |n+1,z,hw,hz=>by
  unfold waits at hw
  cases hp:ops[z]? with
  |none=>rw [hp]at hw;cases hw
  |some p=>
   rw [hp]at hw;simp only [Option.map_some,Option.getD_some,List.any_eq_true,Array.mem_toList_iff,Bool.and_eq_true,Bool.or_eq_true,beq_iff_eq]at hw;obtain⟨e,he,hb,h1⟩:=hw;have hl:=h z p hp hz e he hb
   rcases h1 with h1|h1
   ·rw [←h1];exact hl
   ·exact b0l h n e.on h1 hl
theorem c1d {i:Nat} {b:Array Bool} (h:b3r md ops b) {n z:Nat} (hw:waits md ops i n z=true) (hz:z∈Region.ready md ops b):b.getD i false=true:=by
 cases n with
 |zero=>cases hw
 |succ n=>
  obtain⟨_,p,hp,hall⟩:=mem_ready.1 hz;unfold waits at hw;rw [hp]at hw;simp only [Option.map_some,Option.getD_some,List.any_eq_true,Array.mem_toList_iff,Bool.and_eq_true,Bool.or_eq_true,beq_iff_eq]at hw;obtain⟨e,he,hb,h1⟩:=hw;have hl:=hall e he hb
  rcases h1 with h1|h1
  ·rw [←h1];exact hl
  ·exact b0l h n e.on h1 hl
def Left (P:Program) (md:Region.Mode) (ops:Array Oper) (Q:Exit→Act→World→Prop) (S:World→Prop) (Z:List Nat):Nat→Array Bool→Act→World→Prop
 |0,b,a,w=>Region.ready md ops b=[]∧Q .normal a w
 |n+1,b,a,w=>b3r md ops b→(Region.ready md ops b=[]→Q .normal a w)∧∀i,i∈Region.ready md ops b→wpOp P ops Q i (fun a' w'=>(i∈Z∨S w')∧Left P md ops Q S Z n (b.setIfInBounds i true) a' w') a w
theorem Left.any:∀(n:Nat) (b:Array Bool) (a:Act) (w:World),b3r md ops b→Left P md ops Q S Z n b a w→wpAny P md ops Q n b a w
 |0,_,_,_,_,h=>h
 |n+1,_,_,_,hs,h=>⟨(h hs).1,fun i hi=>wpOp_mono (fun a w k=>Left.any n _ a w (hs.put hi) k.2) ((h hs).2 i hi)⟩
theorem Left.first {i:Nat} {o:Oper} {v:Value} (hi:ops[i]?=some o) (hn:Region.noSelect ops=true) (hQ:∀c a w,Q (.panic c) (a.put o.dst v) w→Q (.panic c) a w) (hZ:Z.all (waits md ops i ops.size)=true) (n:Nat) :
 ∀(b:Array Bool) (a:Act) (w:World),(∀j p,ops[j]?=some p→j≠i→b.getD j true=false→(∀e∈p.after,Region.binds md e=true→e.on≠i)→o.apart ops p=true) →
  i∈Region.ready md ops b→YieldsIf P ops S o v a→S w→Left P md ops Q S Z n (b.setIfInBounds i true) (a.put o.dst v) w→Left P md ops Q S Z (n+1) b a w:=by
 have hsel:=Region.noSelect_spec hn
 induction n with
 |zero=>
  intro b a w _ hr hy hS H hs;refine⟨fun h=>(by rw [h]at hr;cases hr),fun j hj=>?_⟩
  rcases Nat.decEq j i with hne|rfl
  ·have h2:=ready_mono hj hne;rw [H.1]at h2
   cases h2
  ·exact hy.wpOp hi hS ⟨.inr hS,H⟩
 |succ n ih=>
  intro b a w hf hr hy hS H hs;refine⟨fun h=>(by rw [h]at hr;cases hr),fun j hj=>?_⟩
  rcases Nat.decEq j i with hne|rfl
  ·obtain⟨hju,p,hp,hall⟩:=mem_ready.1 hj
   have hil:b.getD i false=false:=by
    have h0:=(mem_ready.1 hr).1
    rcases Nat.lt_or_ge i b.size with hl|hl
    ·simp only [Array.getD_eq_getD_getElem?,Array.getElem?_eq_getElem hl,Option.getD_some]at h0⊢;exact h0
    ·simp only [Array.getD_eq_getD_getElem?,Array.getElem?_eq_none hl,Option.getD_none]
   have hno:∀e∈p.after,Region.binds md e=true→e.on≠i:=by
    intro e he hb hei;have h1:=hall e he hb;rw [hei,hil]at h1
    cases h1
   have hjZ:j∉Z:=by
    intro hjZ;have:=c1d hs (List.all_eq_true.1 hZ j hjZ) hj;rw [hil]at this
    cases this
   refine wpOp_mono (fun a' w' k=>⟨k.2.1,?_⟩) (wpOp_putIf hp (hf j p hp hne hju hno) (fun cs d=>hsel i o cs d hi) (fun cs d=>hsel j p cs d hp) hQ hy ((H (hs.put hr)).2 j (ready_mono hj hne)));have hri:i∈Region.ready md ops (b.setIfInBounds j true):=ready_mono hr (Ne.symm hne);have hnext:=k.2.2;rw [Array.setIfInBounds_comm _ _ (Ne.symm hne)]at hnext;refine ih (b.setIfInBounds j true) a' w' ?_ hri k.1 (k.2.1.resolve_left hjZ) hnext;intro q pq hq hqi hun hno';refine hf q pq hq hqi ?_ hno'
   by_cases hjq:j=q
   ·subst hjq;exact hju
   ·rw [getD_set_ne true hjq]at hun;exact hun
  ·exact hy.wpOp hi hS ⟨.inr hS,H⟩
theorem Left.take {i:Nat} {o:Oper} {v:Value} {n:Nat} {b:Array Bool} {a:Act} {w:World} (hi:ops[i]?=some o) (hn:Region.noSelect ops=true) (hf:Region.free md ops b i=true)
 (hr:(Region.ready md ops b).contains i=true) (hZ:Z.all (waits md ops i ops.size)=true) (hQ:∀c a w,Q (.panic c) (a.put o.dst v) w→Q (.panic c) a w) (hy:YieldsIf P ops S o v a) (hS:S w)
 (h:Left P md ops Q S Z n (b.setIfInBounds i true) (a.put o.dst v) w):Left P md ops Q S Z (n+1) b a w:=
 Left.first hi hn hQ hZ n b a w (Region.free_spec hi hf) (by simpa using hr) hy hS h
def b7q (P:Program) (md:Region.Mode) (ops:Array Oper) (Q:Exit→Act→World→Prop) (S:World→Prop) (Z:List Nat) (n:Nat) (b:Array Bool) (a:Act) (w:World) (rs:List Nat):Prop:=
 ∀i∈rs,wpOp P ops Q i (fun a' w'=>(i∈Z∨S w')∧Left P md ops Q S Z n (b.setIfInBounds i true) a' w') a w
theorem b7q.nil {n:Nat} {b:Array Bool} {a:Act} {w:World}:b7q P md ops Q S Z n b a w []:=fun _ h=>by cases h
theorem b7q.cons {n:Nat} {b:Array Bool} {a:Act} {w:World} {i:Nat} {o:Oper} {rs:List Nat} (ho:ops[i]?=some o)
 (h:∀K:Act→World→Prop,Shut (∀a w,(i∈Z∨S w)→(S w→Left P md ops Q S Z n (b.setIfInBounds i true) a w)→(i∈Z→Left P md ops Q S Z n (b.setIfInBounds i true) a w)→K a w)→if Region.wanted o (yielded ops a.tmps)=true then Oper.wp P o a w K Q else K (a.put o.dst undef) w)
 (hs:b7q P md ops Q S Z n b a w rs):b7q P md ops Q S Z n b a w (i::rs):=fun j hj=>by
 rcases List.mem_cons.1 hj with rfl|hj
 ·exact wpOp_step ho (fun K hK=>h K (fun a w h1 h2 h3=>hK a w ⟨h1,h1.elim h3 h2⟩))
 ·exact hs j hj
theorem Left.ready {rs:List Nat} {n:Nat} {b:Array Bool} {a:Act} {w:World} (hr:Region.ready md ops b=rs) (hne:rs≠[]) (h:b7q P md ops Q S Z n b a w rs):Left P md ops Q S Z (n+1) b a w:=
 fun _=>⟨fun h0=>absurd (hr ▸ h0) hne,hr ▸ h⟩
theorem lk4 (i:Nat) {v:Value} {o:Oper} {f:Nat} {b b':Array Bool} {a a':Act} {w:World} (hS:S w) (h:Left P md ops Q S Z f b' a' w) (hi:ops[i]?=some o:=by rfl) (hs:Region.noSelect ops=true:=by kernel_rfl) (hf:Region.free md ops b i=true:=by kernel_rfl) (hr:(Region.ready md ops b).contains i=true:=by kernel_rfl) (hz:Z.all (waits md ops i ops.size)=true:=by kernel_rfl) (hg:Region.wanted o (yielded ops a.tmps)=true:=by rfl) (hy:∀z,S z→(execOp a.eval o).run P z=.ok (.value v) z:=by (intro z hz;obtain⟨⟨⟨z0,z1,z2,z3,z4⟩,⟨y0,y1,y2,y3,y4⟩,yl⟩,⟨x0,x1,xl⟩,_,_⟩:=hz;first|(go_simp;rfl)|(go_simp;repeat rw [if_pos (by first|omega|assumption)];rfl)|(go_simp;done))) (hQ:∀c a w,Q (.panic c) (a.put o.dst v) w→Q (.panic c) a w:=by exact fun _ _ _ h=>h) (eb:b.setIfInBounds i true=b':=by first|(simp only [qA,qB,qC,Act.put,qD,qE,qF];rfl)|rfl) (ea:a.put o.dst v=a':=by first|(simp only [qA,qB,qC,Act.put,qD,qE,qF];rfl)|rfl):Left P md ops Q S Z (f+1) b a w:=by subst eb ea;exact Left.take hi hs hf hr hz hQ (Or.inl ⟨hg,hy⟩) hS h
theorem lk5 (i:Nat) {v:Value} {o:Oper} {f:Nat} {b b':Array Bool} {a a':Act} {w:World} (hS:S w) (h:Left P md ops Q S Z f b' a' w) (hi:ops[i]?=some o:=by rfl) (hs:Region.noSelect ops=true:=by kernel_rfl) (hf:Region.free md ops b i=true:=by kernel_rfl) (hr:(Region.ready md ops b).contains i=true:=by kernel_rfl) (hz:Z.all (waits md ops i ops.size)=true:=by kernel_rfl) (hg:Region.wanted o (yielded ops a.tmps)=true:=by rfl) (hy:∀z,S z→(execOp a.eval o).run P z=.ok (.value v) z:=by (intro z hz;obtain⟨z1,z2,z3,z4,z5,z6⟩:=hz;first|(go_simp;rfl)|(go_simp;repeat rw [if_pos (by first|omega|assumption)];rfl)|(go_simp;done))) (hQ:∀c a w,Q (.panic c) (a.put o.dst v) w→Q (.panic c) a w:=by exact fun _ _ _ h=>h) (eb:b.setIfInBounds i true=b':=by first|(simp only [qA,qB,qC,Act.put,qD,qE,qF];rfl)|rfl) (ea:a.put o.dst v=a':=by first|(simp only [qA,qB,qC,Act.put,qD,qE,qF];rfl)|rfl):Left P md ops Q S Z (f+1) b a w:=by subst eb ea;exact Left.take hi hs hf hr hz hQ (Or.inl ⟨hg,hy⟩) hS h
theorem lk6 (i:Nat) {v:Value} {o:Oper} {f:Nat} {b b':Array Bool} {a a':Act} {w:World} (hS:S w) (h:Left P md ops Q S Z f b' a' w) (hi:ops[i]?=some o:=by rfl) (hs:Region.noSelect ops=true:=by kernel_rfl) (hf:Region.free md ops b i=true:=by kernel_rfl) (hr:(Region.ready md ops b).contains i=true:=by kernel_rfl) (hz:Z.all (waits md ops i ops.size)=true:=by kernel_rfl) (hg:Region.wanted o (yielded ops a.tmps)=true:=by rfl) (hy:∀z,S z→(execOp a.eval o).run P z=.ok (.value v) z:=by (intro z hz;obtain⟨z1,z2⟩:=hz;first|(go_simp;rfl)|(go_simp;repeat rw [if_pos (by first|omega|assumption)];rfl)|(go_simp;done))) (hQ:∀c a w,Q (.panic c) (a.put o.dst v) w→Q (.panic c) a w:=by exact fun _ _ _ h=>h) (eb:b.setIfInBounds i true=b':=by first|(simp only [qA,qB,qC,Act.put,qD,qE,qF];rfl)|rfl) (ea:a.put o.dst v=a':=by first|(simp only [qA,qB,qC,Act.put,qD,qE,qF];rfl)|rfl):Left P md ops Q S Z (f+1) b a w:=by subst eb ea;exact Left.take hi hs hf hr hz hQ (Or.inl ⟨hg,hy⟩) hS h
theorem lks (i:Nat) {o:Oper} {f:Nat} {b b':Array Bool} {a a':Act} {w:World} (hS:S w) (h:Left P md ops Q S Z f b' a' w) (hi:ops[i]?=some o:=by rfl) (hs:Region.noSelect ops=true:=by kernel_rfl) (hf:Region.free md ops b i=true:=by kernel_rfl) (hr:(Region.ready md ops b).contains i=true:=by kernel_rfl) (hz:Z.all (waits md ops i ops.size)=true:=by kernel_rfl) (hQ:∀c a w,Q (.panic c) (a.put o.dst undef) w→Q (.panic c) a w:=by exact fun _ _ _ h=>h) (hg:Region.wanted o (yielded ops a.tmps)=false:=by rfl) (eb:b.setIfInBounds i true=b':=by first|(simp only [qA,qB,qC,Act.put,qD,qE,qF];rfl)|rfl) (ea:a.put o.dst undef=a':=by first|(simp only [qA,qB,qC,Act.put,qD,qE,qF];rfl)|rfl):Left P md ops Q S Z (f+1) b a w:=by subst eb ea;exact Left.take hi hs hf hr hz hQ (Or.inr ⟨hg,rfl⟩) hS h
theorem lrd (i:Nat) {o:Oper} {f:Nat} {b:Array Bool} {a:Act} {w:World} (h:∀K:Act→World→Prop,Shut (∀a w,(i∈Z∨S w)→(S w→Left P md ops Q S Z f (b.setIfInBounds i true) a w)→(i∈Z→Left P md ops Q S Z f (b.setIfInBounds i true) a w)→K a w)→if Region.wanted o (yielded ops a.tmps)=true then Oper.wp P o a w K Q else K (a.put o.dst undef) w) (ho:ops[i]?=some o:=by rfl) (hr:Region.ready md ops b=[i]:=by kernel_rfl):Left P md ops Q S Z (f+1) b a w:=Left.ready hr sZ (b7q.cons ho h b7q.nil)
theorem lk (i:Nat) (v:Value) {o:Oper} {f:Nat} {b b':Array Bool} {a a':Act} {w:World} (hy:∀z,S z→∀o,ops[i]?=some o→(execOp a.eval o).run P z=.ok (.value v) z) (hS:S w) (h:Left P md ops Q S Z f b' a' w) (hi:ops[i]?=some o:=by rfl) (hs:Region.noSelect ops=true:=by kernel_rfl) (hf:Region.free md ops b i=true:=by kernel_rfl) (hr:(Region.ready md ops b).contains i=true:=by kernel_rfl) (hz:Z.all (waits md ops i ops.size)=true:=by kernel_rfl) (hg:Region.wanted o (yielded ops a.tmps)=true:=by rfl) (hQ:∀c a w,Q (.panic c) (a.put o.dst v) w→Q (.panic c) a w:=by exact fun _ _ _ h=>h) (eb:b.setIfInBounds i true=b':=by first|(simp only [qA,qB,qC,Act.put,qD,qE,qF];rfl)|rfl) (ea:a.put o.dst v=a':=by first|(simp only [qA,qB,qC,Act.put,qD,qE,qF];rfl)|rfl):Left P md ops Q S Z (f+1) b a w:=by subst eb ea;exact Left.take hi hs hf hr hz hQ (Or.inl ⟨hg,fun z hz=>hy z hz o hi⟩) hS h
theorem Left.done {b:Array Bool} {a:Act} {w:World} (hr:Region.ready md ops b=[]) (h:Q .normal a w):∀n,Left P md ops Q S Z n b a w
 |0=>⟨hr,h⟩
 |_+1=>fun _=>⟨fun _=>h,by rw [hr];simp⟩
theorem Left.region (Z:List Nat) {id:Nat} {a:Act} {w:World} (hm:P.follows .mixedOrders=true) (hS:S w.drew) (h:S w.drew→Left P .any ops Q S Z ops.size (Array.replicate ops.size false) a w.drew):(Code.region id ops true).wp P Q a w:=
 wp_region_any hm (Left.any _ _ _ _ (b3r.start _) (h hS))
theorem a3i {K:Act→World→Prop} {i n:Nat} {b:Array Bool} {a:Act} {w:World} (hK:Shut (∀a w,(i∈Z∨S w)→(S w→Left P md ops Q S Z n b a w)→(i∈Z→Left P md ops Q S Z n b a w)→K a w)) (hZ:i∉Z) (hS:S w) (h:S w→Left P md ops Q S Z n b a w):K a w:=
 hK.out a w (.inr hS) h fun hi=>absurd hi hZ
theorem a8g {K:Act→World→Prop} {i n:Nat} {b:Array Bool} {a:Act} {w:World} (hK:Shut (∀a w,(i∈Z∨S w)→(S w→Left P md ops Q S Z n b a w)→(i∈Z→Left P md ops Q S Z n b a w)→K a w)) (hZ:i∈Z) (h:Left P md ops Q S Z n b a w):K a w:=
 hK.out a w (.inl hZ) (fun _=>h) fun _=>h
end
end
section
open Go Go.RowKit
section
variable {P:Program} (w:World)
def b5r (w:World) (size:Nat) (u:Value) (m:Nat) (news:List Value):Prop:=
 news.length=m*size∧(∀x∈news,x.oneCell'=true)∧((u=.slice none 0 0∧m=0)∨∃ad c,u=.slice (some ad) m c∧∀j x,news[j]?=some x→w.cell? (ad.add j)=some x)
theorem a4u (base:Nat) (t ty e:TypeId) (i:TypeInfo) (z:Value) (size bytes:Nat) (ht:P.underlying t=some (.slice e)) (hi:P.info? e=some i) (hz:i.zero=some z)
 (hsize:i.size=size) (hby:i.bytes=bytes) (hzs:z.cells.size=size) (hsz:0<size)
 (v:Value) (n:Nat) (xs:List Value) (hown:w.ownsRow base e size v n xs)
 (u:Value) (m:Nat) (news:List Value) (hsrc:b5r w size u m news)
 (h63:n+m≤maxLen) (hbytes:(n+m)*bytes≤140737488355328) (hbase:base≤w.heap.size) :
 ∃v' w',(Builtin.append_ #[t,t] ty #[v,u]).run P w=.ok v' w'∧w'.ownsRow base e size v' (n+m) (xs++news)∧w.grownBy w' v.ownBlock ∧
  (v'=.slice none 0 0↔v=.slice none 0 0∧m=0):=by
 obtain⟨hl,h1,⟨rfl,rfl⟩|⟨ad,c,rfl,hnews⟩⟩:=hsrc
 ·exact zq19
 ·exact zq72
theorem a0z {w:World} {ops:Array Oper} {rest:List Oper} {o:Oper} {a:Act} {Q:Exit→Act→World→Prop} (hgd:o.guard=none) (s x:Operand) (t:TypeId)
 (ho:o.op=.call { callee:=.builtin .append,args:=#[s,x],argTypes:=#[t,t] })
 (base:Nat) (e:TypeId) (i:TypeInfo) (z:Value) (size bytes:Nat) (ht:P.underlying t=some (.slice e)) (hi:P.info? e=some i) (hz:i.zero=some z)
 (hsize:i.size=size) (hby:i.bytes=bytes) (hzs:z.cells.size=size) (hsz:0<size)
 (v:Value) (n:Nat) (xs:List Value) (hs:a.eval s=v) (hown:w.ownsRow base e size v n xs)
 (u:Value) (m:Nat) (news:List Value) (hx:a.eval x=u) (hsrc:b5r w size u m news)
 (h63:n+m≤maxLen) (hbytes:(n+m)*bytes≤140737488355328) (hbase:base≤w.heap.size)
 (h:∀v' w',w'.ownsRow base e size v' (n+m) (xs++news)→w.grownBy w' v.ownBlock→(v'=.slice none 0 0↔v=.slice none 0 0∧m=0)→wpList P ops Q rest (a.put o.dst v') w'):wpList P ops Q (o::rest) a w:=
 wpList_plain hgd fun _ hK=>by
  exact zq26
end
end
section
open Go Go.RowKit
set_option maxHeartbeats 8000000
set_option maxRecDepth 100000
theorem a3k {B:Nat} {v:World} {u:Value} {l:List Int} (h:v.ownsRow B 3 1 u l.length (ints l)) (hl:l.length≤2^30):Ints v (Bet B v.heap.size) u l:=by
 rcases id h.2 with⟨rfl,h0⟩|⟨g,cap,cur,hv,hg,hh,hnc,_⟩
 ·rw [List.eq_nil_of_length_eq_zero h0];exact RowO.nil _ _
 ·have hlt:=(World.ownsRow.lt h g (by rw [hv];rfl)).2;subst hv;refine b1u (fun j hj=>?_) ⟨hg,hlt⟩ (fun b hb=>hb.2) hl hnc;exact zq50
theorem a5z {v:World} {u:Value} {l:List Int} (h:IntR v u l):b5r v 1 u l.length (ints l):=by
 have hn:=h.whole;obtain⟨ad,cap,rfl,_,_,hr⟩:=h;refine⟨by simp,by intro x hx;obtain⟨n,_,rfl⟩:=List.mem_map.1 hx;rfl,?_⟩
 rcases hn with hn|⟨ad',n,c,hn⟩
 ·injection hn with h1 h2 h3;subst h1 h3;exact .inl ⟨by rw [h2],h2⟩
 ·injection hn with h1 h2 h3;subst h1;refine .inr ⟨ad',cap,rfl,fun j x hx=>?_⟩
  rcases hr with rfl|⟨g,o,hg,_,hc⟩
  ·simp at hx
  ·injection hg with hg;subst hg
   have hj:j<l.length:=by
    rcases Nat.lt_or_ge j l.length with h|h
    ·exact h
    ·rw [List.getElem?_eq_none (by simpa using h)]at hx;cases hx
   rw [List.getElem?_map,List.getElem?_eq_getElem hj]at hx;simp only [Option.map_some,Option.some.injEq]at hx;subst hx;have e:(⟨g,o,none⟩:Addr).add j=⟨g,o+j,none⟩:=by unfold Addr.add;split<;>simp_all
   rw [e];exact hc j hj
theorem d3w (u:Value) (l:List Int) (w:World) (hu:IntR w u l) (hl:l.length≤2^30) :
 Calls Tryz.prog 126 #[u] w (c1f l w):=by
 obtain⟨i0,hi,hz0,hz1,hz2⟩:=info_parts a1z
 have hb0:=(Below.refl w.heap.size w).alloc lZ (.cells #[] 3)
 have HSRC:=qh (a5z (hu.below hb0))
 have HB:=qh hb0;clear hb0
 have HOWN:=qh (World.ownsRow_lit (base:=w.heap.size) (e:=3) (size:=1) w #[] 0 lZ (Nat.zero_le _) sZ)
 obtain⟨ad,cap,rfl,_,_⟩:=hu
 go_enter Tryz.func126,Tryz.ntmps126
 go_wp2_with (at_builtin;refine a0z rfl _ _ 33 rfl w.heap.size 3 i0 (.int .i64 0) 1 8 Tryz.underlying33 hi hz0 hz1 hz2 rfl dZ _ 0 [] rfl HOWN.o _ l.length (ints l) rfl HSRC.o ?_ ?_ sZ ?_)
 ·unfold maxLen;omega
 ·omega
 intro v' w' hown hgr _
 have HOW:=qh hown
 have HBB:=qh (HB.o.grown hgr sZ (fun k hk=>by simp [Value.ownBlock]at hk;omega))
 clear hown hgr
 go_wp2
 go_ret
 refine⟨_,rfl,?_,HBB.o⟩
 exact a3k HOW.o hl
theorem copyOf (u:Value) (l:List Int) (w:World) (hu:IntR w u l) (hl:l.length≤2^30) :
 Calls Tryz.prog 133 #[u] w (c1f l w):=by
 obtain⟨i0,hi,hz0,hz1,hz2⟩:=info_parts a1z
 have hb0:=(Below.refl w.heap.size w).alloc lZ (.cells #[] 3)
 have HSRC:=qh (a5z (hu.below hb0))
 have HB:=qh hb0;clear hb0
 have HOWN:=qh (World.ownsRow_lit (base:=w.heap.size) (e:=3) (size:=1) w #[] 0 lZ (Nat.zero_le _) sZ)
 obtain⟨ad,cap,rfl,_,_⟩:=hu
 go_enter Tryz.func133,Tryz.ntmps133
 go_wp2_with (at_builtin;refine a0z rfl _ _ 33 rfl w.heap.size 3 i0 (.int .i64 0) 1 8 Tryz.underlying33 hi hz0 hz1 hz2 rfl dZ _ 0 [] rfl HOWN.o _ l.length (ints l) rfl HSRC.o ?_ ?_ sZ ?_)
 ·unfold maxLen;omega
 ·omega
 intro v' w' hown hgr _
 have HOW:=qh hown
 have HBB:=qh (HB.o.grown hgr sZ (fun k hk=>by simp [Value.ownBlock]at hk;omega))
 clear hown hgr
 go_wp2
 go_ret
 refine⟨_,rfl,?_,HBB.o⟩
 exact a3k HOW.o hl
end
section
open Go Go.RowKit
set_option maxHeartbeats 8000000
set_option maxRecDepth 100000
variable {α:Type} {E:ElT α} {wd:Nat}
def flat (C:Nat→List Value):Nat→List Value
 |0=>[]
 |n+1=>flat C n++C n
theorem b6i {C:Nat→List Value}:∀{n:Nat},(∀j,j<n→(C j).length=wd)→(flat C n).length=n*wd
 |0,_=>by simp [flat]
 |n+1,h=>by rw [flat,List.length_append,b6i fun j hj=>h j oZ,h n oZ,Nat.add_mul];omega
theorem b5q {C:Nat→List Value}:∀{n:Nat} (_:∀j,j<n→(C j).length=wd) (j i:Nat),j<n→(hi:i<(C j).length)→(flat C n)[j*wd+i]?=some ((C j)[i]'hi)
 |0,_,j,_,hj,_=>by omega
 |n+1,h,j,i,hj,hi=>by
  have hl:=b6i (wd:=wd) (C:=C) (n:=n) fun j hj=>h j oZ;have hw:=h j hj;rw [flat]
  rcases Nat.lt_or_ge j n with h1|h1
  ·have h2:j*wd+i<(flat C n).length:=by
    rw [hl];have:=Nat.mul_le_mul_right wd (show j+1≤n by omega);rw [Nat.add_mul]at this;omega
   rw [List.getElem?_append_left h2];exact b5q (fun j hj=>h j oZ) j i h1 hi
  ·have h2:j=n:=by omega
   subst h2;rw [List.getElem?_append_right (by rw [hl];omega),hl,Nat.add_sub_cancel_left,List.getElem?_eq_getElem hi]
theorem b4l {C D:Nat→List Value}:∀{n:Nat},(∀j,j<n→C j=D j)→flat C n=flat D n
 |0,_=>rfl
 |n+1,h=>by rw [flat,flat,b4l fun j hj=>h j oZ,h n oZ]
def Acc (e:TypeId) (wd:Nat) (E:ElT α) (B:Nat) (v:World) (u:Value) (l:List α) (xs:List Value):Prop:=
 ∃(G:Nat→Blk) (C:Nat→List Value),xs=flat C l.length∧v.ownsRow B e wd u l.length xs∧B≤v.heap.size ∧
  (∀j (h:j<l.length),(C j).length=wd∧E v (G j) (C j) (l[j]'h))∧(∀j,j<l.length→∀b,G j b→B≤b∧b<v.heap.size∧u.ownBlock≠some b)∧(∀i j,i<j→j<l.length→∀b,G i b→G j b→False)
theorem Acc.owns {e:TypeId} {B:Nat} {v:World} {u:Value} {l:List α} {xs:List Value} (h:Acc e wd E B v u l xs):v.ownsRow B e wd u l.length xs:=by
 obtain⟨G,C,_,h1,_⟩:=h;exact h1
theorem Acc.nil {e:TypeId} {B:Nat} {v:World} {u:Value} (h:v.ownsRow B e wd u 0 []) (hB:B≤v.heap.size):Acc e wd E B v u ([]:List α) []:=
 ⟨fun _ _=>False,fun _=>[],rfl,h,hB,fun _ hj=>absurd hj (Nat.not_lt_zero _),fun _ hj=>absurd hj (Nat.not_lt_zero _),fun _ _ _ hj=>absurd hj (Nat.not_lt_zero _)⟩
theorem Acc.keep (hE:ElOk E) {e:TypeId} {B:Nat} {v v':World} {u:Value} {l:List α} {xs:List Value} (h:Acc e wd E B v u l xs) (hb:Below v.heap.size v v'):Acc e wd E B v' u l xs:=by
 obtain⟨G,C,h0,h1,hB,h2,h3,h4⟩:=h;exact⟨G,C,h0,a0k h1 hb lZ,Nat.le_trans hB hb.size,fun j hj=>⟨(h2 j hj).1,hE.keep (h2 j hj).2 ⟨hb.size,fun b hb'=>hb.block b (h3 j hj b hb').2.1⟩⟩,fun j hj b hb'=>⟨(h3 j hj b hb').1,Nat.lt_of_lt_of_le (h3 j hj b hb').2.1 hb.size,(h3 j hj b hb').2.2⟩,h4⟩
theorem Acc.a0c (hE:ElOk E) {e:TypeId} {B:Nat} {v v':World} {u:Value} {l:List α} {xs:List Value} {X:Blk} (h:Acc e wd E B v u l xs) (hb:Chg X v v') (hX:∀b,X b→b<B):Acc e wd E B v' u l xs:=by
 obtain⟨G,C,h0,h1,hB,h2,h3,h4⟩:=h;have hk:∀b,B≤b→b<v.heap.size→v'.heap[b]?=v.heap[b]?:=fun b h1 h2=>hb.block b h2 fun hx=>absurd (hX b hx) (Nat.not_lt.2 h1);refine⟨G,C,h0,?_,Nat.le_trans hB hb.size,fun j hj=>⟨(h2 j hj).1,hE.keep (h2 j hj).2 ⟨hb.size,fun b hb'=>hk b (h3 j hj b hb').1 (h3 j hj b hb').2.1⟩⟩,fun j hj b hb'=>⟨(h3 j hj b hb').1,Nat.lt_of_lt_of_le (h3 j hj b hb').2.1 hb.size,(h3 j hj b hb').2.2⟩,h4⟩;refine⟨h1.1,?_⟩
 rcases h1.2 with h5|⟨g,cap,cur,hv,hg,hh,r⟩
 ·exact .inl h5
 ·have hlt:=(World.ownsRow.lt h1 g (by rw [hv];rfl)).2;exact .inr ⟨g,cap,cur,hv,hg,by rw [hk g hg hlt];exact hh,r⟩
theorem Acc.form {e:TypeId} {B:Nat} {v:World} {u:Value} {l:List α} {xs:List Value} (h:Acc e wd E B v u l xs):∃ad cap,u=.slice ad l.length cap:=by
 exact zq79
theorem Acc.snoc (hE:ElOk E) {e:TypeId} {B:Nat} {v v1 v2 v3:World} {u:Value} {l:List α} {xs:List Value} (h:Acc e wd E B v u l xs) {cs:List Value} {a:α} {g cap:Nat} {F:Blk}
 (hb1:Below v.heap.size v v1) (hF:∀b,F b→v.heap.size≤b∧b<v1.heap.size) (ha:E v1 F cs a) (hw:cs.length=wd) (hb2:Below v1.heap.size v1 v2)
 (hown:v3.ownsRow B e wd (.slice (some ⟨g,0,none⟩) (l.length+1) cap) (l.length+1) (xs++cs)) (hgr:v2.grownBy v3 u.ownBlock) (hat:u.ownBlock=some g∨g=v2.heap.size) :
 Acc e wd E B v3 (.slice (some ⟨g,0,none⟩) (l.length+1) cap) (l++[a]) (xs++cs):=by
 obtain⟨G,C,h0,h1,hB,h2,h3,h4⟩:=h
 have hub:∀b,u.ownBlock=some b→b<v.heap.size:=fun b hb=>(World.ownsRow.lt h1 b hb).2
 have hz12:v.heap.size≤v1.heap.size:=hb1.size
 have hz2:v1.heap.size≤v2.heap.size:=hb2.size
 have hz3:v2.heap.size≤v3.heap.size:=hgr.size
 have hgB:∀b,b<v2.heap.size→u.ownBlock≠some b→v3.heap[b]?=v2.heap[b]?:=fun b hb hne=>hgr.block b hb (fun e=>hne e.symm)
 refine⟨fun j=>if j=l.length then F else G j,fun j=>if j=l.length then cs else C j,?_,by rw [List.length_append];exact hown,by omega,fun j hj=>?_,fun j hj=>?_,fun i j hij hj=>?_⟩
 ·exact zq52
 ·show (if j=l.length then cs else C j).length=wd∧E v3 (if j=l.length then F else G j) (if j=l.length then cs else C j) _
  rw [List.length_append]at hj
  by_cases e:j=l.length
  ·subst e;simp only [if_true];refine⟨hw,?_⟩;rw [List.getElem_append_right lZ];simp only [Nat.sub_self,List.getElem_cons_zero];refine hE.keep ha ⟨by omega,fun b hb=>?_⟩;have:=hF b hb;rw [hgB b oZ (fun h'=>by have:=hub b h';omega),hb2.block b oZ]
  ·exact zq35
 ·show ∀b,(if j=l.length then F else G j) b→_
  rw [List.length_append]at hj;intro b hb
  by_cases e:j=l.length
  ·rw [if_pos e]at hb;have:=hF b hb;refine⟨by omega,by omega,fun h'=>?_⟩;simp only [Value.ownBlock,Option.some.injEq]at h'
   rcases hat with h''|h''
   ·have:=hub g h'';omega
   ·omega
  ·rw [if_neg e]at hb;have hj':j<l.length:=by simp at hj;omega
   have h5:=h3 j hj' b hb;refine⟨h5.1,by omega,fun h'=>?_⟩;exact zq84
 ·show ∀b,(if i=l.length then F else G i) b→(if j=l.length then F else G j) b→False
  rw [List.length_append]at hj;simp at hj;intro b h5 h6;rw [if_neg oZ]at h5;have h7:=h3 i oZ b h5
  by_cases e:j=l.length
  ·rw [if_pos e]at h6;have:=hF b h6;omega
  ·rw [if_neg e]at h6;exact h4 i j hij oZ b h5 h6
theorem Acc.row {e:TypeId} {B:Nat} {v:World} {u:Value} {l:List α} {xs:List Value} (h:Acc e wd E B v u l xs) (hl:l.length≤2^30):RowO wd E v (Bet B v.heap.size) u l:=by
 obtain⟨G,C,h0,h1,hB,h2,h3,h4⟩:=h
 rcases id h1.2 with⟨rfl,hn⟩|⟨g,cap,cur,hv,hg,_,hnc,_⟩
 ·rw [List.eq_nil_of_length_eq_zero hn];exact RowO.nil _ _
 ·have hlt:=(World.ownsRow.lt h1 g (by rw [hv];rfl)).2;refine⟨some ⟨g,0,none⟩,cap,hv,hl,⟨(fun h=>by cases h),hnc⟩,.inr ⟨g,0,G,C,rfl,⟨⟨hg,hlt⟩,fun b hb=>hb.2,fun j hj i hi=>?_,fun j hj=>(h2 j hj).1,fun j hj=>(h2 j hj).2,fun j hj b hb=>?_,h4⟩⟩⟩
  ·exact zq28
  ·have h5:=h3 j hj b hb;exact⟨⟨h5.1,h5.2.1⟩,fun h'=>h5.2.2 (by rw [hv,h'];rfl)⟩
end
section
open Go Go.RowKit
set_option maxHeartbeats 8000000
set_option maxRecDepth 100000
theorem a9t {v:World} {F:Blk} {x:Value} {o:List Int} {t:Str} (h:Ints v F x o):entE v F [x,.string (S t)] (o,t):=⟨x,rfl,h⟩
end
end Go.Proofs.YtggfdnopminemaaGreatDoor
