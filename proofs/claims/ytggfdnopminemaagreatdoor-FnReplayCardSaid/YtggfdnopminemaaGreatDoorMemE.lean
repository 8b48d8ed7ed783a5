/- A region that draws its. -/
import Derived.Test.YtggfdnopminemaaGreatDoorTransD
set_option linter.all false
namespace Go.Proofs.YtggfdnopminemaaGreatDoor
open Go.Proofs.Tryz
variable {a a':Go.Act} {F:Blk} {l:List Int} {rs:List Nat} {B W f g i n:Nat} {e:Go.TypeId} {dv u x:Go.Value} {v v':Go.World}
section
open Go
section
variable {P:Program} {ops:Array Oper} {Q:Exit->Act->World->Prop} {md:Region.Mode} {S:World->Prop} {Z:List Nat}
def b8m (md:Region.Mode) (ops:Array Oper) (b:Array Bool):Prop:=∀k p,ops[k]?=some p->b.getD k false=true->∀e∈p.after,Region.binds md e=true->b.getD e.on false=true
theorem b8m.start (n:Nat):b8m md ops (Array.replicate n false):=by
 intro k p _ h
 rcases Nat.lt_or_ge k n with hk|hk
 .simp [hk]at h
 .simp [hk]at h
theorem b8m.put {b:Array Bool} (h:b8m md ops b) (hi:i∈Region.ready md ops b):b8m md ops (b.setIfInBounds i true):=by
 intro k p hp hk e he hb
 by_cases hki:i=k
 .subst hki;obtain⟨_,o,ho,hall⟩:=mem_ready.1 hi;rw [ho]at hp;injection hp with hp;subst hp;exact getD_set_true (hall e he hb)
 .rw [getD_set_ne false hki]at hk;exact getD_set_true (h k p hp hk e he hb)
def waits (md:Region.Mode) (ops:Array Oper) (i:Nat):Nat->Nat->Bool
 |0,_=>false
 |n+1,z=>((ops[z]?).map λp=>p.after.toList.any λe=>Region.binds md e&&(e.on==i||waits md ops i n e.on)).getD false
theorem b5e {b:Array Bool} (h:b8m md ops b):∀(n z:Nat),waits md ops i n z=true->b.getD z false=true->b.getD i false=true
 |0,_,hw,_=>by cases hw
 |n+1,z,hw,hz=>by
  unfold waits at hw
  cases hp:ops[z]? with
  |none=>rw [hp]at hw;cases hw
  |some p=>
   rw [hp]at hw;simp only [Option.map_some,Option.getD_some,List.any_eq_true,Array.mem_toList_iff,Bool.and_eq_true,Bool.or_eq_true,beq_iff_eq]at hw;obtain⟨e,he,hb,h1⟩:=hw;have hl:=h z p hp hz e he hb
   rcases h1 with h1|h1
   .rw [<-h1];exact hl
   .exact b5e h n e.on h1 hl
theorem c6t {b:Array Bool} (h:b8m md ops b) {z:Nat} (hw:waits md ops i n z=true) (hz:z∈Region.ready md ops b):b.getD i false=true:=by
 cases n with
 |zero=>cases hw
 |succ n=>
  obtain⟨_,p,hp,hall⟩:=mem_ready.1 hz;unfold waits at hw;rw [hp]at hw;simp only [Option.map_some,Option.getD_some,List.any_eq_true,Array.mem_toList_iff,Bool.and_eq_true,Bool.or_eq_true,beq_iff_eq]at hw;obtain⟨e,he,hb,h1⟩:=hw;have hl:=hall e he hb
  rcases h1 with h1|h1
  .rw [<-h1];exact hl
  .exact b5e h n e.on h1 hl
def Left (P:Program) (md:Region.Mode) (ops:Array Oper) (Q:Exit->Act->World->Prop) (S:World->Prop) (Z:List Nat):Nat->Array Bool->Act->World->Prop
 |0,b,a,w=>Region.ready md ops b=[]/\Q .normal a w
 |n+1,b,a,w=>b8m md ops b->(Region.ready md ops b=[]->Q .normal a w)/\∀i,i∈Region.ready md ops b->wpOp P ops Q i (λa' w'=>(i∈Z\/S w')/\Left P md ops Q S Z n (b.setIfInBounds i true) a' w') a w
theorem Left.any:∀(n:Nat) (b:Array Bool) (a:Act) (w:World),b8m md ops b->Left P md ops Q S Z n b a w->wpAny P md ops Q n b a w
 |0,_,_,_,_,h=>h
 |n+1,_,_,_,hs,h=>⟨(h hs).1,λi hi=>wpOp_mono (λa w k=>Left.any n _ a w (hs.put hi) k.2) ((h hs).2 i hi)⟩
theorem Left.first {o:Oper} {v:Value} (hi:ops[i]?=some o) (hn:Region.noSelect ops=true) (hQ:∀c a w,Q (.panic c) (a.put o.dst v) w->Q (.panic c) a w) (hZ:Z.all (waits md ops i ops.size)=true) (n:Nat) :
 ∀(b:Array Bool) (a:Act) (w:World),(∀j p,ops[j]?=some p->j≠i->b.getD j true=false->(∀e∈p.after,Region.binds md e=true->e.on≠i)->o.apart ops p=true) ->
  i∈Region.ready md ops b->YieldsIf P ops S o v a->S w->Left P md ops Q S Z n (b.setIfInBounds i true) (a.put o.dst v) w->Left P md ops Q S Z (n+1) b a w:=by
 have hsel:=Region.noSelect_spec hn
 induction n with
 |zero=>
  intro b a w _ hr hy hS H hs;refine⟨λh=>(by rw [h]at hr;cases hr),λj hj=>?_⟩
  rcases Nat.decEq j i with hne|rfl
  .have h2:=ready_mono hj hne;rw [H.1]at h2
   cases h2
  .exact hy.wpOp hi hS ⟨.inr hS,H⟩
 |succ n ih=>
  intro b a w hf hr hy hS H hs;refine⟨λh=>(by rw [h]at hr;cases hr),λj hj=>?_⟩
  rcases Nat.decEq j i with hne|rfl
  .obtain⟨hju,p,hp,hall⟩:=mem_ready.1 hj
   have hil:b.getD i false=false:=by
    have h0:=(mem_ready.1 hr).1
    rcases Nat.lt_or_ge i b.size with hl|hl
    .simp only [Array.getD_eq_getD_getElem?,Array.getElem?_eq_getElem hl,Option.getD_some]at h0⊢;exact h0
    .simp only [Array.getD_eq_getD_getElem?,Array.getElem?_eq_none hl,Option.getD_none]
   have hno:∀e∈p.after,Region.binds md e=true->e.on≠i:=by
    intro e he hb hei;have h1:=hall e he hb;rw [hei,hil]at h1
    cases h1
   have hjZ:j∉Z:=by
    intro hjZ;have:=c6t hs (List.all_eq_true.1 hZ j hjZ) hj;rw [hil]at this
    cases this
   refine wpOp_mono (λa' w' k=>⟨k.2.1,?_⟩) (wpOp_putIf hp (hf j p hp hne hju hno) (λcs d=>hsel i o cs d hi) (λcs d=>hsel j p cs d hp) hQ hy ((H (hs.put hr)).2 j (ready_mono hj hne)));have hri:i∈Region.ready md ops (b.setIfInBounds j true):=ready_mono hr (Ne.symm hne);have hnext:=k.2.2;rw [Array.setIfInBounds_comm _ _ (Ne.symm hne)]at hnext;refine ih (b.setIfInBounds j true) a' w' ?_ hri k.1 (k.2.1.resolve_left hjZ) hnext;intro q pq hq hqi hun hno';refine hf q pq hq hqi ?_ hno'
   by_cases hjq:j=q
   .subst hjq;exact hju
   .rw [getD_set_ne true hjq]at hun;exact hun
  .exact hy.wpOp hi hS ⟨.inr hS,H⟩
theorem Left.take {o:Oper} {v:Value} {b:Array Bool} {w:World} (hi:ops[i]?=some o) (hn:Region.noSelect ops=true) (hf:Region.free md ops b i=true)
 (hr:(Region.ready md ops b).contains i=true) (hZ:Z.all (waits md ops i ops.size)=true) (hQ:∀c a w,Q (.panic c) (a.put o.dst v) w->Q (.panic c) a w) (hy:YieldsIf P ops S o v a) (hS:S w)
 (h:Left P md ops Q S Z n (b.setIfInBounds i true) (a.put o.dst v) w):Left P md ops Q S Z (n+1) b a w:=
 Left.first hi hn hQ hZ n b a w (Region.free_spec hi hf) (by simpa using hr) hy hS h
def b3b (P:Program) (md:Region.Mode) (ops:Array Oper) (Q:Exit->Act->World->Prop) (S:World->Prop) (Z:List Nat) (n:Nat) (b:Array Bool) (a:Act) (w:World) (rs:List Nat):Prop:=
 ∀i∈rs,wpOp P ops Q i (λa' w'=>(i∈Z\/S w')/\Left P md ops Q S Z n (b.setIfInBounds i true) a' w') a w
theorem b3b.nil {b:Array Bool} {w:World}:b3b P md ops Q S Z n b a w []:=λ_ h=>by cases h
theorem b3b.cons {b:Array Bool} {w:World} {o:Oper} (ho:ops[i]?=some o)
 (h:∀K:Act->World->Prop,Shut (∀a w,(i∈Z\/S w)->(S w->Left P md ops Q S Z n (b.setIfInBounds i true) a w)->(i∈Z->Left P md ops Q S Z n (b.setIfInBounds i true) a w)->K a w)->if Region.wanted o (yielded ops a.tmps)=true then Oper.wp P o a w K Q else K (a.put o.dst undef) w)
 (hs:b3b P md ops Q S Z n b a w rs):b3b P md ops Q S Z n b a w (i::rs):=λj hj=>by
 rcases List.mem_cons.1 hj with rfl|hj
 .exact wpOp_step ho (λK hK=>h K (λa w h1 h2 h3=>hK a w ⟨h1,h1.elim h3 h2⟩))
 .exact hs j hj
theorem Left.ready {b:Array Bool} {w:World} (hr:Region.ready md ops b=rs) (hne:rs≠[]) (h:b3b P md ops Q S Z n b a w rs):Left P md ops Q S Z (n+1) b a w:=
 λ_=>⟨λh0=>absurd (hr ▸ h0) hne,hr ▸ h⟩
theorem lk4 (i:Nat) {v:Value} {o:Oper} {b b':Array Bool} {w:World} (hS:S w) (h:Left P md ops Q S Z f b' a' w) (hi:ops[i]?=some o:=by rfl) (hs:Region.noSelect ops=true:=by kernel_rfl) (hf:Region.free md ops b i=true:=by kernel_rfl) (hr:(Region.ready md ops b).contains i=true:=by kernel_rfl) (hz:Z.all (waits md ops i ops.size)=true:=by kernel_rfl) (hg:Region.wanted o (yielded ops a.tmps)=true:=by rfl) (hy:∀z,S z->(execOp a.eval o).run P z=.ok (.value v) z:=by (intro z hz;obtain⟨z1,z2,z3,z4,z5,z6⟩:=hz;first|(go_simp;rfl)|(go_simp;repeat rw [if_pos (by first|omega|assumption)];rfl)|(go_simp;done))) (hQ:∀c a w,Q (.panic c) (a.put o.dst v) w->Q (.panic c) a w:=by exact λ_ _ _ h=>h) (eb:b.setIfInBounds i true=b':=by first|(simp only [qA,qB,qC,Act.put,qD,qE,qF];rfl)|rfl) (ea:a.put o.dst v=a':=by first|(simp only [qA,qB,qC,Act.put,qD,qE,qF];rfl)|rfl):Left P md ops Q S Z (f+1) b a w:=by subst eb ea;exact Left.take hi hs hf hr hz hQ (Or.inl ⟨hg,hy⟩) hS h
theorem lk7 (i:Nat) {v:Value} {o:Oper} {b b':Array Bool} {w:World} (hS:S w) (h:Left P md ops Q S Z f b' a' w) (hi:ops[i]?=some o:=by rfl) (hs:Region.noSelect ops=true:=by kernel_rfl) (hf:Region.free md ops b i=true:=by kernel_rfl) (hr:(Region.ready md ops b).contains i=true:=by kernel_rfl) (hz:Z.all (waits md ops i ops.size)=true:=by kernel_rfl) (hg:Region.wanted o (yielded ops a.tmps)=true:=by rfl) (hy:∀z,S z->(execOp a.eval o).run P z=.ok (.value v) z:=by (intro z hz;obtain⟨z1,z2⟩:=hz;first|(go_simp;rfl)|(go_simp;repeat rw [if_pos (by first|omega|assumption)];rfl)|(go_simp;done))) (hQ:∀c a w,Q (.panic c) (a.put o.dst v) w->Q (.panic c) a w:=by exact λ_ _ _ h=>h) (eb:b.setIfInBounds i true=b':=by first|(simp only [qA,qB,qC,Act.put,qD,qE,qF];rfl)|rfl) (ea:a.put o.dst v=a':=by first|(simp only [qA,qB,qC,Act.put,qD,qE,qF];rfl)|rfl):Left P md ops Q S Z (f+1) b a w:=by subst eb ea;exact Left.take hi hs hf hr hz hQ (Or.inl ⟨hg,hy⟩) hS h
theorem lk8 (i:Nat) {v:Value} {o:Oper} {b b':Array Bool} {w:World} (hS:S w) (h:Left P md ops Q S Z f b' a' w) (hi:ops[i]?=some o:=by rfl) (hs:Region.noSelect ops=true:=by kernel_rfl) (hf:Region.free md ops b i=true:=by kernel_rfl) (hr:(Region.ready md ops b).contains i=true:=by kernel_rfl) (hz:Z.all (waits md ops i ops.size)=true:=by kernel_rfl) (hg:Region.wanted o (yielded ops a.tmps)=true:=by rfl) (hy:∀z,S z->(execOp a.eval o).run P z=.ok (.value v) z:=by (intro z hz;obtain⟨⟨⟨z0,z1,z2,z3,z4⟩,⟨y0,y1,y2,y3,y4⟩,yl⟩,⟨x0,x1,xl⟩,_,_⟩:=hz;first|(go_simp;rfl)|(go_simp;repeat rw [if_pos (by first|omega|assumption)];rfl)|(go_simp;done))) (hQ:∀c a w,Q (.panic c) (a.put o.dst v) w->Q (.panic c) a w:=by exact λ_ _ _ h=>h) (eb:b.setIfInBounds i true=b':=by first|(simp only [qA,qB,qC,Act.put,qD,qE,qF];rfl)|rfl) (ea:a.put o.dst v=a':=by first|(simp only [qA,qB,qC,Act.put,qD,qE,qF];rfl)|rfl):Left P md ops Q S Z (f+1) b a w:=by subst eb ea;exact Left.take hi hs hf hr hz hQ (Or.inl ⟨hg,hy⟩) hS h
theorem lk10 (i:Nat) {v:Value} {o:Oper} {b b':Array Bool} {w:World} (hS:S w) (h:Left P md ops Q S Z f b' a' w) (hi:ops[i]?=some o:=by rfl) (hs:Region.noSelect ops=true:=by kernel_rfl) (hf:Region.free md ops b i=true:=by kernel_rfl) (hr:(Region.ready md ops b).contains i=true:=by kernel_rfl) (hz:Z.all (waits md ops i ops.size)=true:=by kernel_rfl) (hg:Region.wanted o (yielded ops a.tmps)=true:=by rfl) (hy:∀z,S z->(execOp a.eval o).run P z=.ok (.value v) z:=by (intro z hz;obtain⟨⟨⟨z0,z1,z2,z3,z4⟩,⟨y0,y1,y2,y3,y4⟩,yl⟩,_,_⟩:=hz;first|(go_simp;rfl)|(go_simp;repeat rw [if_pos (by first|omega|assumption)];rfl)|(go_simp;done))) (hQ:∀c a w,Q (.panic c) (a.put o.dst v) w->Q (.panic c) a w:=by exact λ_ _ _ h=>h) (eb:b.setIfInBounds i true=b':=by first|(simp only [qA,qB,qC,Act.put,qD,qE,qF];rfl)|rfl) (ea:a.put o.dst v=a':=by first|(simp only [qA,qB,qC,Act.put,qD,qE,qF];rfl)|rfl):Left P md ops Q S Z (f+1) b a w:=by subst eb ea;exact Left.take hi hs hf hr hz hQ (Or.inl ⟨hg,hy⟩) hS h
theorem lk12 (i:Nat) {v:Value} {o:Oper} {b b':Array Bool} {w:World} (hS:S w) (h:Left P md ops Q S Z f b' a' w) (hi:ops[i]?=some o:=by rfl) (hs:Region.noSelect ops=true:=by kernel_rfl) (hf:Region.free md ops b i=true:=by kernel_rfl) (hr:(Region.ready md ops b).contains i=true:=by kernel_rfl) (hz:Z.all (waits md ops i ops.size)=true:=by kernel_rfl) (hg:Region.wanted o (yielded ops a.tmps)=true:=by rfl) (hy:∀z,S z->(execOp a.eval o).run P z=.ok (.value v) z:=by (intro z hz;obtain⟨⟨⟨z0,z1,z2,z3,z4⟩,⟨y0,y1,y2,y3,y4⟩,yl⟩,⟨x0,x1,xl⟩,⟨⟨u0,u1,u2,u3,u4⟩,⟨t0,t1,t2,t3,t4⟩,tl⟩,_⟩:=hz;first|(go_simp;rfl)|(go_simp;repeat rw [if_pos (by first|omega|assumption)];rfl)|(go_simp;done))) (hQ:∀c a w,Q (.panic c) (a.put o.dst v) w->Q (.panic c) a w:=by exact λ_ _ _ h=>h) (eb:b.setIfInBounds i true=b':=by first|(simp only [qA,qB,qC,Act.put,qD,qE,qF];rfl)|rfl) (ea:a.put o.dst v=a':=by first|(simp only [qA,qB,qC,Act.put,qD,qE,qF];rfl)|rfl):Left P md ops Q S Z (f+1) b a w:=by subst eb ea;exact Left.take hi hs hf hr hz hQ (Or.inl ⟨hg,hy⟩) hS h
theorem lk17 (i:Nat) {v:Value} {o:Oper} {b b':Array Bool} {w:World} (hS:S w) (h:Left P md ops Q S Z f b' a' w) (hi:ops[i]?=some o:=by rfl) (hs:Region.noSelect ops=true:=by kernel_rfl) (hf:Region.free md ops b i=true:=by kernel_rfl) (hr:(Region.ready md ops b).contains i=true:=by kernel_rfl) (hz:Z.all (waits md ops i ops.size)=true:=by kernel_rfl) (hg:Region.wanted o (yielded ops a.tmps)=true:=by rfl) (hy:∀z,S z->(execOp a.eval o).run P z=.ok (.value v) z:=by (intro z hz;obtain⟨⟨⟨z0,z1,z2,z3,z4,z5,z6⟩,_⟩,za,zb,zc⟩:=hz;first|(go_simp;rfl)|(go_simp;repeat rw [if_pos (by first|omega|assumption)];rfl)|(go_simp;done))) (hQ:∀c a w,Q (.panic c) (a.put o.dst v) w->Q (.panic c) a w:=by exact λ_ _ _ h=>h) (eb:b.setIfInBounds i true=b':=by first|(simp only [qA,qB,qC,Act.put,qD,qE,qF];rfl)|rfl) (ea:a.put o.dst v=a':=by first|(simp only [qA,qB,qC,Act.put,qD,qE,qF];rfl)|rfl):Left P md ops Q S Z (f+1) b a w:=by subst eb ea;exact Left.take hi hs hf hr hz hQ (Or.inl ⟨hg,hy⟩) hS h
theorem lk19 (i:Nat) {v:Value} {o:Oper} {b b':Array Bool} {w:World} (hS:S w) (h:Left P md ops Q S Z f b' a' w) (hi:ops[i]?=some o:=by rfl) (hs:Region.noSelect ops=true:=by kernel_rfl) (hf:Region.free md ops b i=true:=by kernel_rfl) (hr:(Region.ready md ops b).contains i=true:=by kernel_rfl) (hz:Z.all (waits md ops i ops.size)=true:=by kernel_rfl) (hg:Region.wanted o (yielded ops a.tmps)=true:=by rfl) (hy:∀z,S z->(execOp a.eval o).run P z=.ok (.value v) z:=by (intro z hz;obtain⟨⟨⟨b0,b1,b2,b3,b4⟩,_,_⟩,_,d0,d1⟩:=hz;first|(go_simp;rfl)|(go_simp;repeat rw [if_pos (by first|omega|assumption)];rfl)|(go_simp;done))) (hQ:∀c a w,Q (.panic c) (a.put o.dst v) w->Q (.panic c) a w:=by exact λ_ _ _ h=>h) (eb:b.setIfInBounds i true=b':=by first|(simp only [qA,qB,qC,Act.put,qD,qE,qF];rfl)|rfl) (ea:a.put o.dst v=a':=by first|(simp only [qA,qB,qC,Act.put,qD,qE,qF];rfl)|rfl):Left P md ops Q S Z (f+1) b a w:=by subst eb ea;exact Left.take hi hs hf hr hz hQ (Or.inl ⟨hg,hy⟩) hS h
theorem lks (i:Nat) {o:Oper} {b b':Array Bool} {w:World} (hS:S w) (h:Left P md ops Q S Z f b' a' w) (hi:ops[i]?=some o:=by rfl) (hs:Region.noSelect ops=true:=by kernel_rfl) (hf:Region.free md ops b i=true:=by kernel_rfl) (hr:(Region.ready md ops b).contains i=true:=by kernel_rfl) (hz:Z.all (waits md ops i ops.size)=true:=by kernel_rfl) (hQ:∀c a w,Q (.panic c) (a.put o.dst undef) w->Q (.panic c) a w:=by exact λ_ _ _ h=>h) (hg:Region.wanted o (yielded ops a.tmps)=false:=by rfl) (eb:b.setIfInBounds i true=b':=by first|(simp only [qA,qB,qC,Act.put,qD,qE,qF];rfl)|rfl) (ea:a.put o.dst undef=a':=by first|(simp only [qA,qB,qC,Act.put,qD,qE,qF];rfl)|rfl):Left P md ops Q S Z (f+1) b a w:=by subst eb ea;exact Left.take hi hs hf hr hz hQ (Or.inr ⟨hg,rfl⟩) hS h
theorem lrd (i:Nat) {o:Oper} {b:Array Bool} {w:World} (h:∀K:Act->World->Prop,Shut (∀a w,(i∈Z\/S w)->(S w->Left P md ops Q S Z f (b.setIfInBounds i true) a w)->(i∈Z->Left P md ops Q S Z f (b.setIfInBounds i true) a w)->K a w)->if Region.wanted o (yielded ops a.tmps)=true then Oper.wp P o a w K Q else K (a.put o.dst undef) w) (ho:ops[i]?=some o:=by rfl) (hr:Region.ready md ops b=[i]:=by kernel_rfl):Left P md ops Q S Z (f+1) b a w:=Left.ready hr sZ (b3b.cons ho h b3b.nil)
theorem lk (i:Nat) (v:Value) {o:Oper} {b b':Array Bool} {w:World} (hy:∀z,S z->∀o,ops[i]?=some o->(execOp a.eval o).run P z=.ok (.value v) z) (hS:S w) (h:Left P md ops Q S Z f b' a' w) (hi:ops[i]?=some o:=by rfl) (hs:Region.noSelect ops=true:=by kernel_rfl) (hf:Region.free md ops b i=true:=by kernel_rfl) (hr:(Region.ready md ops b).contains i=true:=by kernel_rfl) (hz:Z.all (waits md ops i ops.size)=true:=by kernel_rfl) (hg:Region.wanted o (yielded ops a.tmps)=true:=by rfl) (hQ:∀c a w,Q (.panic c) (a.put o.dst v) w->Q (.panic c) a w:=by exact λ_ _ _ h=>h) (eb:b.setIfInBounds i true=b':=by first|(simp only [qA,qB,qC,Act.put,qD,qE,qF];rfl)|rfl) (ea:a.put o.dst v=a':=by first|(simp only [qA,qB,qC,Act.put,qD,qE,qF];rfl)|rfl):Left P md ops Q S Z (f+1) b a w:=by subst eb ea;exact Left.take hi hs hf hr hz hQ (Or.inl ⟨hg,λz hz=>hy z hz o hi⟩) hS h
theorem Left.done {b:Array Bool} {w:World} (hr:Region.ready md ops b=[]) (h:Q .normal a w):∀n,Left P md ops Q S Z n b a w
 |0=>⟨hr,h⟩
 |_+1=>λ_=>⟨λ_=>h,by rw [hr];simp⟩
theorem Left.region (Z:List Nat) {id:Nat} {w:World} (hm:P.follows .mixedOrders=true) (hS:S w.drew) (h:S w.drew->Left P .any ops Q S Z ops.size (Array.replicate ops.size false) a w.drew):(Code.region id ops true).wp P Q a w:=
 wp_region_any hm (Left.any _ _ _ _ (b8m.start _) (h hS))
theorem a1r {K:Act->World->Prop} {b:Array Bool} {w:World} (hK:Shut (∀a w,(i∈Z\/S w)->(S w->Left P md ops Q S Z n b a w)->(i∈Z->Left P md ops Q S Z n b a w)->K a w)) (hZ:i∉Z) (hS:S w) (h:S w->Left P md ops Q S Z n b a w):K a w:=
 hK.out a w (.inr hS) h λhi=>absurd hi hZ
theorem a2p {K:Act->World->Prop} {b:Array Bool} {w:World} (hK:Shut (∀a w,(i∈Z\/S w)->(S w->Left P md ops Q S Z n b a w)->(i∈Z->Left P md ops Q S Z n b a w)->K a w)) (hZ:i∈Z) (h:Left P md ops Q S Z n b a w):K a w:=
 hK.out a w (.inl hZ) (λ_=>h) λ_=>h
end
end
section
open Go Go.RowKit
section
variable {P:Program} (w:World)
def c5m (w:World) (size:Nat) (u:Value) (m:Nat) (news:List Value):Prop:=
 news.length=m*size/\(∀x∈news,x.oneCell'=true)/\((u=.slice none 0 0/\m=0)\/∃ad c,u=.slice (some ad) m c/\∀j x,news[j]?=some x->w.cell? (ad.add j)=some x)
theorem b0q (base:Nat) (t ty e:TypeId) (i:TypeInfo) (z:Value) (size bytes:Nat) (ht:P.underlying t=some (.slice e)) (hi:P.info? e=some i) (hz:i.zero=some z)
 (hsize:i.size=size) (hby:i.bytes=bytes) (hzs:z.cells.size=size) (hsz:0<size)
 (v:Value) (n:Nat) (xs:List Value) (hown:w.ownsRow base e size v n xs)
 (u:Value) (m:Nat) (news:List Value) (hsrc:c5m w size u m news)
 (h63:n+m<=maxLen) (hbytes:(n+m)*bytes<=140737488355328) (hbase:base<=w.heap.size) :
 ∃v' w',(Builtin.append_ #[t,t] ty #[v,u]).run P w=.ok v' w'/\w'.ownsRow base e size v' (n+m) (xs++news)/\w.grownBy w' v.ownBlock /\
  (v'=.slice none 0 0↔v=.slice none 0 0/\m=0):=by
 obtain⟨hl,h1,⟨rfl,rfl⟩|⟨ad,c,rfl,hnews⟩⟩:=hsrc
 .exact zq57
 .exact zq167
theorem a0w {w:World} {ops:Array Oper} {rest:List Oper} {o:Oper} {Q:Exit->Act->World->Prop} (hgd:o.guard=none) (s x:Operand) (t:TypeId)
 (ho:o.op=.call { callee:=.builtin .append,args:=#[s,x],argTypes:=#[t,t] })
 (base:Nat) (e:TypeId) (i:TypeInfo) (z:Value) (size bytes:Nat) (ht:P.underlying t=some (.slice e)) (hi:P.info? e=some i) (hz:i.zero=some z)
 (hsize:i.size=size) (hby:i.bytes=bytes) (hzs:z.cells.size=size) (hsz:0<size)
 (v:Value) (n:Nat) (xs:List Value) (hs:a.eval s=v) (hown:w.ownsRow base e size v n xs)
 (u:Value) (m:Nat) (news:List Value) (hx:a.eval x=u) (hsrc:c5m w size u m news)
 (h63:n+m<=maxLen) (hbytes:(n+m)*bytes<=140737488355328) (hbase:base<=w.heap.size)
 (h:∀v' w',w'.ownsRow base e size v' (n+m) (xs++news)->w.grownBy w' v.ownBlock->(v'=.slice none 0 0↔v=.slice none 0 0/\m=0)->wpList P ops Q rest (a.put o.dst v') w'):wpList P ops Q (o::rest) a w:=
 wpList_plain hgd λ_ hK=>by
  exact zq88
end
end
section
open Go Go.RowKit
set_option maxHeartbeats 8000000
set_option maxRecDepth 100000
theorem a2m (h:v.ownsRow B 3 1 u l.length (ints l)) (hl:l.length<=2^30):Ints v (Bet B v.heap.size) u l:=by
 rcases id h.2 with⟨rfl,h0⟩|⟨g,cap,cur,hv,hg,hh,hnc,_⟩
 .rw [List.eq_nil_of_length_eq_zero h0];exact RowO.nil _ _
 .have hlt:=(World.ownsRow.lt h g (by rw [hv];rfl)).2;subst hv;refine b5x (λj hj=>?_) ⟨hg,hlt⟩ (λb hb=>hb.2) hl hnc;exact zq129
theorem a7u (h:IntR v u l):c5m v 1 u l.length (ints l):=by
 have hn:=h.whole;obtain⟨ad,cap,rfl,_,_,hr⟩:=h;refine⟨by simp,by intro x hx;obtain⟨n,_,rfl⟩:=List.mem_map.1 hx;rfl,?_⟩
 rcases hn with hn|⟨ad',n,c,hn⟩
 .injection hn with h1 h2 h3;subst h1 h3;exact .inl ⟨by rw [h2],h2⟩
 .injection hn with h1 h2 h3;subst h1;refine .inr ⟨ad',cap,rfl,λj x hx=>?_⟩
  rcases hr with rfl|⟨g,o,hg,_,hc⟩
  .simp at hx
  .injection hg with hg;subst hg
   have hj:j<l.length:=by
    rcases Nat.lt_or_ge j l.length with h|h
    .exact h
    .rw [List.getElem?_eq_none (by simpa using h)]at hx;cases hx
   rw [List.getElem?_map,List.getElem?_eq_getElem hj]at hx;simp only [Option.map_some,Option.some.injEq]at hx;subst hx;have e:(⟨g,o,none⟩:Addr).add j=⟨g,o+j,none⟩:=by unfold Addr.add;split<;>simp_all
   rw [e];exact hc j hj
theorem d2n (u:Value) (l:List Int) (w:World) (hu:IntR w u l) (hl:l.length<=2^30) :
 Cz 126 #[u] w (c8g l w):=by
 refine zm7 ?_;intro i0 hi hz0 hz1 hz2 HSRC HB HOWN;obtain⟨ad,cap,rfl,_,_⟩:=hu;go_enter func126,ntmps126;go_wp2_with (at_builtin;refine a0w rfl _ _ 33 rfl w.heap.size 3 i0 (.int .i64 0) 1 8 underlying33 hi hz0 hz1 hz2 rfl dZ _ 0 [] rfl HOWN.o _ l.length (ints l) rfl HSRC.o ?_ ?_ sZ ?_)
 .unfold maxLen;omega
 .omega
 intro v' w' hown hgr _;refine zm67 ?_;intro HOW HBB;clear hown hgr;go_wp2;go_ret;refine⟨_,rfl,?_,HBB.o⟩;exact a2m HOW.o hl
theorem copyOf (u:Value) (l:List Int) (w:World) (hu:IntR w u l) (hl:l.length<=2^30) :
 Cz 133 #[u] w (c8g l w):=by
 refine zm7 ?_;intro i0 hi hz0 hz1 hz2 HSRC HB HOWN;obtain⟨ad,cap,rfl,_,_⟩:=hu;go_enter func133,ntmps133;go_wp2_with (at_builtin;refine a0w rfl _ _ 33 rfl w.heap.size 3 i0 (.int .i64 0) 1 8 underlying33 hi hz0 hz1 hz2 rfl dZ _ 0 [] rfl HOWN.o _ l.length (ints l) rfl HSRC.o ?_ ?_ sZ ?_)
 .unfold maxLen;omega
 .omega
 intro v' w' hown hgr _;refine zm67 ?_;intro HOW HBB;clear hown hgr;go_wp2;go_ret;refine⟨_,rfl,?_,HBB.o⟩;exact a2m HOW.o hl
end
section
open Go Go.RowKit
set_option maxHeartbeats 8000000
set_option maxRecDepth 100000
variable {α:Type} {E:ElT α} {wd:Nat}
def flat (C:Nat->List Value):Nat->List Value
 |0=>[]
 |n+1=>flat C n++C n
theorem b5p {C:Nat->List Value}:∀{n:Nat},(∀j,j<n->(C j).length=wd)->(flat C n).length=n*wd
 |0,_=>by simp [flat]
 |n+1,h=>by rw [flat,List.length_append,b5p λj hj=>h j oZ,h n oZ,Nat.add_mul];omega
theorem b5m {C:Nat->List Value}:∀{n:Nat} (_:∀j,j<n->(C j).length=wd) (j i:Nat),j<n->(hi:i<(C j).length)->(flat C n)[j*wd+i]?=some ((C j)[i]'hi)
 |0,_,j,_,hj,_=>by omega
 |n+1,h,j,i,hj,hi=>by
  have hl:=b5p (wd:=wd) (C:=C) (n:=n) λj hj=>h j oZ;have hw:=h j hj;rw [flat]
  rcases Nat.lt_or_ge j n with h1|h1
  .have h2:j*wd+i<(flat C n).length:=by
    rw [hl];have:=Nat.mul_le_mul_right wd (show j+1<=n by omega);rw [Nat.add_mul]at this;omega
   rw [List.getElem?_append_left h2];exact b5m (λj hj=>h j oZ) j i h1 hi
  .have h2:j=n:=by omega
   subst h2;rw [List.getElem?_append_right (by rw [hl];omega),hl,Nat.add_sub_cancel_left,List.getElem?_eq_getElem hi]
theorem c0a {C D:Nat->List Value}:∀{n:Nat},(∀j,j<n->C j=D j)->flat C n=flat D n
 |0,_=>rfl
 |n+1,h=>by rw [flat,flat,c0a λj hj=>h j oZ,h n oZ]
def Acc (e:TypeId) (wd:Nat) (E:ElT α) (B:Nat) (v:World) (u:Value) (l:List α) (xs:List Value):Prop:=
 ∃(G:Nat->Blk) (C:Nat->List Value),xs=flat C l.length/\v.ownsRow B e wd u l.length xs/\B<=v.heap.size /\
  (∀j (h:j<l.length),(C j).length=wd/\E v (G j) (C j) (l[j]'h))/\(∀j,j<l.length->∀b,G j b->B<=b/\b<v.heap.size/\u.ownBlock≠some b)/\(∀i j,i<j->j<l.length->∀b,G i b->G j b->False)
theorem Acc.owns {l:List α} {xs:List Value} (h:Acc e wd E B v u l xs):v.ownsRow B e wd u l.length xs:=by
 obtain⟨G,C,_,h1,_⟩:=h;exact h1
theorem Acc.nil (h:v.ownsRow B e wd u 0 []) (hB:B<=v.heap.size):Acc e wd E B v u ([]:List α) []:=
 ⟨λ_ _=>False,λ_=>[],rfl,h,hB,λ_ hj=>absurd hj (Nat.not_lt_zero _),λ_ hj=>absurd hj (Nat.not_lt_zero _),λ_ _ _ hj=>absurd hj (Nat.not_lt_zero _)⟩
theorem Acc.keep (hE:ElOk E) {l:List α} {xs:List Value} (h:Acc e wd E B v u l xs) (hb:Bl v v'):Acc e wd E B v' u l xs:=by
 obtain⟨G,C,h0,h1,hB,h2,h3,h4⟩:=h;exact⟨G,C,h0,a0i h1 hb lZ,Nat.le_trans hB hb.size,λj hj=>⟨(h2 j hj).1,hE.keep (h2 j hj).2 ⟨hb.size,λb hb'=>hb.block b (h3 j hj b hb').2.1⟩⟩,λj hj b hb'=>⟨(h3 j hj b hb').1,Nat.lt_of_lt_of_le (h3 j hj b hb').2.1 hb.size,(h3 j hj b hb').2.2⟩,h4⟩
theorem Acc.a0b (hE:ElOk E) {l:List α} {xs:List Value} {X:Blk} (h:Acc e wd E B v u l xs) (hb:Chg X v v') (hX:∀b,X b->b<B):Acc e wd E B v' u l xs:=by
 obtain⟨G,C,h0,h1,hB,h2,h3,h4⟩:=h;have hk:∀b,B<=b->b<v.heap.size->v'.heap[b]?=v.heap[b]?:=λb h1 h2=>hb.block b h2 λhx=>absurd (hX b hx) (Nat.not_lt.2 h1);refine⟨G,C,h0,?_,Nat.le_trans hB hb.size,λj hj=>⟨(h2 j hj).1,hE.keep (h2 j hj).2 ⟨hb.size,λb hb'=>hk b (h3 j hj b hb').1 (h3 j hj b hb').2.1⟩⟩,λj hj b hb'=>⟨(h3 j hj b hb').1,Nat.lt_of_lt_of_le (h3 j hj b hb').2.1 hb.size,(h3 j hj b hb').2.2⟩,h4⟩;refine⟨h1.1,?_⟩
 rcases h1.2 with h5|⟨g,cap,cur,hv,hg,hh,r⟩
 .exact .inl h5
 .have hlt:=(World.ownsRow.lt h1 g (by rw [hv];rfl)).2;exact .inr ⟨g,cap,cur,hv,hg,by rw [hk g hg hlt];exact hh,r⟩
theorem Acc.form {l:List α} {xs:List Value} (h:Acc e wd E B v u l xs):∃ad cap,u=.slice ad l.length cap:=by
 exact zq174
theorem Acc.snoc (hE:ElOk E) {v1 v2 v3:World} {l:List α} {xs:List Value} (h:Acc e wd E B v u l xs) {cs:List Value} {a:α} {cap:Nat}
 (hb1:Bl v v1) (hF:∀b,F b->v.heap.size<=b/\b<v1.heap.size) (ha:E v1 F cs a) (hw:cs.length=wd) (hb2:Bl v1 v2)
 (hown:v3.ownsRow B e wd (.slice (some ⟨g,0,none⟩) (l.length+1) cap) (l.length+1) (xs++cs)) (hgr:v2.grownBy v3 u.ownBlock) (hat:u.ownBlock=some g\/g=v2.heap.size) :
 Acc e wd E B v3 (.slice (some ⟨g,0,none⟩) (l.length+1) cap) (l++[a]) (xs++cs):=by
 obtain⟨G,C,h0,h1,hB,h2,h3,h4⟩:=h;have hub:∀b,u.ownBlock=some b->b<v.heap.size:=λb hb=>(World.ownsRow.lt h1 b hb).2;refine zm66 ?_;intro hz12 hz2 hz3 hgB;refine⟨λj=>if j=l.length then F else G j,λj=>if j=l.length then cs else C j,?_,by rw [List.length_append];exact hown,by omega,λj hj=>?_,λj hj=>?_,λi j hij hj=>?_⟩
 .exact zq132
 .show (if j=l.length then cs else C j).length=wd/\E v3 (if j=l.length then F else G j) (if j=l.length then cs else C j) _
  rw [List.length_append]at hj
  by_cases e:j=l.length
  .subst e;simp only [if_true];refine⟨hw,?_⟩;rw [List.getElem_append_right lZ];simp only [Nat.sub_self,List.getElem_cons_zero];refine hE.keep ha ⟨by omega,λb hb=>?_⟩;have:=hF b hb;rw [hgB b oZ (λh'=>by have:=hub b h';omega),hb2.block b oZ]
  .exact zq106
 .show ∀b,(if j=l.length then F else G j) b->_
  rw [List.length_append]at hj;intro b hb
  by_cases e:j=l.length
  .rw [if_pos e]at hb;have:=hF b hb;refine⟨by omega,by omega,λh'=>?_⟩;simp only [Value.ownBlock,Option.some.injEq]at h'
   rcases hat with h''|h''
   .have:=hub g h'';omega
   .omega
  .rw [if_neg e]at hb;have hj':j<l.length:=by simp at hj;omega
   have h5:=h3 j hj' b hb;refine⟨h5.1,by omega,λh'=>?_⟩;exact zq179
 .show ∀b,(if i=l.length then F else G i) b->(if j=l.length then F else G j) b->False
  rw [List.length_append]at hj;simp at hj;intro b h5 h6;rw [if_neg oZ]at h5;have h7:=h3 i oZ b h5
  by_cases e:j=l.length
  .rw [if_pos e]at h6;have:=hF b h6;omega
  .rw [if_neg e]at h6;exact h4 i j hij oZ b h5 h6
theorem Acc.row {l:List α} {xs:List Value} (h:Acc e wd E B v u l xs) (hl:l.length<=2^30):RowO wd E v (Bet B v.heap.size) u l:=by
 obtain⟨G,C,h0,h1,hB,h2,h3,h4⟩:=h
 rcases id h1.2 with⟨rfl,hn⟩|⟨g,cap,cur,hv,hg,_,hnc,_⟩
 .rw [List.eq_nil_of_length_eq_zero hn];exact RowO.nil _ _
 .have hlt:=(World.ownsRow.lt h1 g (by rw [hv];rfl)).2;refine⟨some ⟨g,0,none⟩,cap,hv,hl,⟨(λh=>by cases h),hnc⟩,.inr ⟨g,0,G,C,rfl,⟨⟨hg,hlt⟩,λb hb=>hb.2,λj hj i hi=>?_,λj hj=>(h2 j hj).1,λj hj=>(h2 j hj).2,λj hj b hb=>?_,h4⟩⟩⟩
  .exact zq90
  .have h5:=h3 j hj b hb;exact⟨⟨h5.1,h5.2.1⟩,λh'=>h5.2.2 (by rw [hv,h'];rfl)⟩
end
section
open Go Go.RowKit
set_option maxHeartbeats 8000000
set_option maxRecDepth 100000
def KO (W:Nat) (dv u:Value) (g p:Nat) (x:Value) (et:Str) (v:World):Prop:=
 v.cell? ⟨W,0,none⟩=some dv/\v.cell? ⟨W+2,0,none⟩=some u/\v.cell? ⟨g,p,none⟩=some x/\v.cell? ⟨g,p+1,none⟩=some (.string (S et))/\v.frozen? ⟨W+2,0,none⟩=false/\g<W
theorem KO.step {p:Nat} {et:Str} (h:KO W dv u g p x et v) (hb:Below (W+3) v v'):KO W dv u g p x et v':=by
 obtain⟨h1,h2,h3,h4,h5,h6⟩:=h
 exact⟨(hb.cell (p:=⟨W,0,none⟩) (by show W<W+3;omega)).trans h1,(hb.cell (p:=⟨W+2,0,none⟩) (by show W+2<W+3;omega)).trans h2,(hb.cell (p:=⟨g,p,none⟩) (by show g<W+3;omega)).trans h3,
  (hb.cell (p:=⟨g,p+1,none⟩) (by show g<W+3;omega)).trans h4,(hb.frozen (p:=⟨W+2,0,none⟩) (by show W+2<W+3;omega)).trans h5,h6⟩
def c1c (W:Nat) (dv u:Value) (v:World):Prop:=
 v.cell? ⟨W,0,none⟩=some dv/\v.cell? ⟨W+1,0,none⟩=some (.slice none 0 0)/\v.cell? ⟨W+2,0,none⟩=some u/\v.frozen? ⟨W+1,0,none⟩=false/\v.frozen? ⟨W+2,0,none⟩=false
theorem c1c.step (h:c1c W dv u v) (hb:Below (W+3) v v'):c1c W dv u v':=by
 obtain⟨h1,h2,h3,h4,h5⟩:=h
 exact⟨(hb.cell (p:=⟨W,0,none⟩) (by show W<W+3;omega)).trans h1,(hb.cell (p:=⟨W+1,0,none⟩) (by show W+1<W+3;omega)).trans h2,(hb.cell (p:=⟨W+2,0,none⟩) (by show W+2<W+3;omega)).trans h3,
  (hb.frozen (p:=⟨W+1,0,none⟩) (by show W+1<W+3;omega)).trans h4,(hb.frozen (p:=⟨W+2,0,none⟩) (by show W+2<W+3;omega)).trans h5⟩
theorem c1c.put {u':Value} (h:c1c W dv u v):c1c W dv u' (v.setCell ⟨W+2,0,none⟩ u'):=by
 obtain⟨h1,h2,h3,h4,h5⟩:=h;refine⟨?_,?_,World.cell?_setCell_same _ _ _ h3,by simpa using h4,by simpa using h5⟩
 .refine zm32 ?_;exact h1
 .refine zm32 ?_;exact h2
theorem b1d {o:List Int} {t:Str} (h:Ints v F x o):entE v F [x,.string (S t)] (o,t):=⟨x,rfl,h⟩
theorem d8h (dv:Value) (l:P.Dic) (w:World) (hu:EntR w dv l) (hl:l.length<=2^20) (hle:∀e∈l,e.1.length<=2^20) :
 Cz 60 #[.agg #[dv]] w (b8c l w):=by
 obtain⟨i0,hi,hz0,hz1,hz2⟩:=info_parts a5i
 have HU:=qh hu
 have HLE:=qh hle;clear hle
 have HBX:=qh (show c1c w.heap.size dv (.slice none 0 0) (((w.alloc (.cells #[dv] 26)).alloc (.cells #[.slice none 0 0] 26)).alloc (.cells #[.slice none 0 0] 26)) by
  refine⟨?_,?_,?_,?_,?_⟩<;>go_simp)
 have HB0:=qh ((((Below.refl w.heap.size w).alloc lZ (.cells #[dv] 26)).alloc sZ (.cells #[.slice none 0 0] 26)).alloc (by simp;omega) (.cells #[.slice none 0 0] 26))
 have HA0:=qh (show Acc 119 2 entE (w.heap.size+3) (((w.alloc (.cells #[dv] 26)).alloc (.cells #[.slice none 0 0] 26)).alloc (.cells #[.slice none 0 0] 26)) (.slice none 0 0) [] [] from
  Acc.nil (World.ownsRow_nil _ _ _ _) sZ)
 obtain⟨dad,dcap,rfl,_,_⟩:=hu
 go_enter func60,ntmps60
 go_wp2_with fail
 go_loopw [4] (λi wr=>∃(j:Nat) (u:Value) (xs:List Value),j<=l.length/\i=.int .i64 j/\c1c w.heap.size (.slice dad l.length dcap) u wr/\Acc 119 2 entE (w.heap.size+3) wr u (l.take j) xs/\Bl w wr) (λi _=>l.length-(intOf i).toNat)
 case atStart=>exact⟨0,_,_,Nat.zero_le _,rfl,HBX.o,HA0.o,HB0.o⟩
 case round=>
  obtain⟨j,u,xs,hj,rfl,hbx,hacc,hb⟩:=hrel;clear HA0 HBX HB0;have HBZ:=qh (show w.heap.size+3<=wr.heap.size by obtain⟨_,_,_,_,h,_⟩:=hacc;exact h);have hlt0:(l.take j).length=j:=by rw [List.length_take];omega
  obtain⟨uad,ucap,hu'⟩:=hacc.form;rw [hlt0]at hu';subst hu';have HA:=qh hacc;have HBX:=qh hbx;have HB:=qh hb;have HL0:=qh hlt0;clear hlt0;obtain⟨b0,b1,b2,f1,f2⟩:=hbx
  by_cases hlt:j<l.length
  .obtain⟨g,o,hga,hgs,x,c0,c1,hx⟩:=HU.o.at j hlt;have hgw:g<w.heap.size:=hgs;have HEN:=qh (a0g l j hlt);have hll:=HLE.o _ (List.getElem_mem hlt);have HX:=qh (hx.below hb);have HXO:=qh hx
   have HS:=qh (show KO w.heap.size (.slice dad l.length dcap) (.slice uad j ucap) g (o+j*2) x l[j].2 wr.drew from
    KO.step ⟨b0,b2,(hb.cell (p:=⟨g,_,none⟩) hgs).trans c0,(hb.cell (p:=⟨g,_,none⟩) hgs).trans c1,f2,hgw⟩ bZ.drew)
   obtain⟨xd,xc,rfl,_,_⟩:=hx;subst hga;generalize l[j]=en at *;obtain⟨eo,et⟩:=en;simp only at hll HX HS HXO;have i1:(j:Int)<(l.length:Int):=by omega
   clear hb hacc c0 c1;go_upto_region 5 with fail;refine Left.region [19] (S:=KO w.heap.size (.slice (some ⟨g,o,none⟩) l.length dcap) (.slice uad j ucap) g (o+j*2) (.slice xd eo.length xc) et) kZ HS.o (λhS0=>?_);refine lk4 0 hS0 ?_;refine lk4 1 hS0 ?_;refine lk4 2 hS0 ?_;refine lk4 3 hS0 ?_;refine lk4 4 hS0 ?_;refine lk4 5 (v:=.pointer (some ⟨g,o+j*2,none⟩)) hS0 ?_;refine lk4 6 (v:=.pointer (some ⟨g,o+j*2,none⟩)) hS0 ?_;refine lk4 7 hS0 ?_;refine lk4 9 hS0 ?_;refine lk4 10 hS0 ?_;refine lk4 11 hS0 ?_;refine lk4 12 (v:=.pointer (some ⟨g,o+j*2,none⟩)) hS0 ?_;refine lk4 13 (v:=.pointer (some ⟨g,o+j*2+1,none⟩)) hS0 ?_;refine lk4 14 hS0 ?_;refine lrd 8 λK hK=>?_;have HXD:=qh (HX.o.below bZ.drew);go_simp;refine (d2n _ eo _ HXD.o oZ).mono ?_;rintro e v1 ⟨x1,rfl,hI,hb1⟩;have HB1:Hq (Bl wr v1):=⟨(Below.refl wr.heap.size wr).drew.trans hb1⟩;have HI:Hq (Ints v1 (Bet wr.heap.size v1.heap.size) x1 eo):=⟨hI⟩;have HZ1:Hq (wr.heap.size<=v1.heap.size):=⟨hb1.size⟩;obtain⟨x1d,x1c,rfl,_,_⟩:=hI;refine a1r hK dZ (hS0.step (hb1.mono HBZ.o)) (λhS1=>?_);clear hK K hb1;refine zm0 ?_;refine lk4 15 hS1 ?_;refine lrd 16 λK hK=>?_;go_simp;refine a1r hK dZ (hS1.step (bZ.alloc (Nat.le_trans HBZ.o HZ1.o) _)) (λhS2=>?_);clear hK K;refine zm0 ?_;refine lrd 17 λK hK=>?_;refine zm52 ?_;intro HA2;refine step_append_lies _ rfl _ _ 24 rfl (w.heap.size+3) 119 i0 (.agg #[.slice none 0 0,.string ⟨#[]⟩]) 2 40 underlying24 hi hz0 hz1 hz2 rfl dZ (.slice uad j ucap) j xs rfl (by have:=HA2.o.owns;rwa [HL0.o]at this) ⟨v1.heap.size,0,none⟩ 1 1 [.slice x1d eo.length x1c,.string (S et)] rfl rfl ?_ ?_ dZ (by unfold maxLen;omega) oZ ?_ _ rfl ?_
   .exact zq24
   .intro y hy;exact zq38
   .have h1:=HZ1.o;have h2:=HBZ.o;simp;omega
   intro g1 cap1 v3 hown hgr hat hlt3
   have HB3:=qh (show Below (w.heap.size+3) (v1.alloc (.cells #[.slice x1d eo.length x1c,.string (S et)] 119)) v3 from
    bZ.grown hgr (by have h1:=HZ1.o;have h2:=HBZ.o;simp;omega) (λk hk=>(World.ownsRow.lt HA2.o.owns k hk).1))
   have hS3:=hS2.step HB3.o;have hsc:=hS3.2.1;have hsf:=hS3.2.2.2.2.1;have HBX3:=qh (((HBX.o.step (HB1.o.mono HBZ.o)).step ((Below.refl (w.heap.size+3) v1).alloc (Nat.le_trans HBZ.o HZ1.o) (.cells #[.slice x1d eo.length x1c,.string (S et)] 119))).step HB3.o);have HAC:=qh (HA.o.snoc (a:=(eo,et)) (cs:=[.slice x1d eo.length x1c,.string (S et)]) (v1:=v1) (v2:=v1.alloc (.cells #[.slice x1d eo.length x1c,.string (S et)] 119)) (v3:=v3) (g:=g1) (cap:=cap1) a0f HB1.o (λb hb=>hb) (b1d HI.o) rfl (bZ.alloc lZ _) (by rw [HL0.o];exact hown) hgr hat);have HBW:Hq (Bl w v3):=⟨((HB.o.trans (HB1.o.mono (by have:=HBZ.o;omega))).trans ((Below.refl w.heap.size v1).alloc (by have h1:=HZ1.o;have h2:=HBZ.o;omega) _)).trans (HB3.o.mono oZ)⟩;refine a1r hK dZ hS3 (λhS4=>?_);clear hK K hown hgr hat hS2 hS1 HB1 HB3 HI HA2 HX HXD HXO HS HA HBX HB;refine zm0 ?_;refine lk4 18 hS4 ?_;refine lrd 19 λK hK=>?_;go_simp;refine a2p hK dZ ?_;clear hK K hS0;refine zm0 ?_;refine Left.done kZ ?_ _;have HFIN:Hq (c1c w.heap.size (.slice (some ⟨g,o,none⟩) l.length dcap) (.slice (some ⟨g1,0,none⟩) (j+1) cap1) (v3.setCell ⟨w.heap.size+2,0,none⟩ (.slice (some ⟨g1,0,none⟩) (j+1) cap1))):=⟨HBX3.o.put⟩
   have HAF:=qh (show Acc 119 2 entE (w.heap.size+3) (v3.setCell ⟨w.heap.size+2,0,none⟩ (.slice (some ⟨g1,0,none⟩) (j+1) cap1)) (.slice (some ⟨g1,0,none⟩) (j+1) cap1) (l.take j++[(eo,et)]) (xs++[.slice x1d eo.length x1c,.string (S et)]) from by
    have h:=HAC.o;rw [HL0.o]at h;exact h.a0b a0f (X:=λb=>b=w.heap.size+2) ((Chg.refl (λb=>b=w.heap.size+2) v3).setCell (p:=⟨w.heap.size+2,0,none⟩) rfl _) (by intro b hb;omega))
   have HBF:Hq (Bl w (v3.setCell ⟨w.heap.size+2,0,none⟩ (.slice (some ⟨g1,0,none⟩) (j+1) cap1))):=⟨HBW.o.setCell sZ _⟩;clear hsc hsf hS3 hS4 HAC HBX3 HBW;generalize v3.setCell ⟨w.heap.size+2,0,none⟩ (.slice (some ⟨g1,0,none⟩) (j+1) cap1)=v4 at *;go_wp2
   go_roundw
   case rel=>exact⟨j+1,_,_,by omega,by go_num,HFIN.o,by rw [HEN.o];exact HAF.o,HBF.o⟩
   case measure=>exact zq
  .have hjl:l.length=j:=by omega
   refine zm90 ?_;intro HT;clear hb hacc;go_wp2;refine bodyPost_ret (v:=.agg #[.slice uad j ucap]) (by simp [results,results60,go_sem,b1]) rfl ⟨_,rfl,?_,HB.o.setCell sZ _⟩;have h:=HA.o;rw [HT.o]at h;have hr:=h.row oZ;have hr2:Ents wr (Bet (w.heap.size+3) wr.heap.size) (.slice uad j ucap) l:=hr;exact (hr2.a0b a0f (X:=λb=>b=w.heap.size+1) ((Chg.refl (λb=>b=w.heap.size+1) wr).setCell (p:=⟨w.heap.size+1,0,none⟩) rfl (.slice uad j ucap)) (by intro b hb;have:=hb.1;omega)).wide (λb hb=>⟨by have:=hb.1;omega,by simpa [World.setCell] using hb.2⟩) (λb hb=>hb.2)
end
end Go.Proofs.YtggfdnopminemaaGreatDoor
