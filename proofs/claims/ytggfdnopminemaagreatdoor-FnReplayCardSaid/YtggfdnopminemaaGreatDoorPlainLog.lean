/- Plain: splitting, in steps. -/
import Derived.Test.YtggfdnopminemaaGreatDoorShelf
set_option linter.all false
namespace Go.Proofs.YtggfdnopminemaaGreatDoor
namespace P
theorem a1g (c b:UInt8) (l:List UInt8):split c (b::l)=if b==c then []::split c l else match split c l with
 |[]=>[[b]]
 |x::r=>(b::x)::r:=rfl
theorem a2y (c:UInt8) (l:List UInt8):split c l≠[]:=by
 cases l with
 |nil=>simp [split]
 |cons b l=>
  rw [a1g]
  split
  .simp
  .split<;>simp
theorem b8j (c:UInt8) (l:List UInt8):split c (l++[c])=split c l++[[]]:=by
 induction l with
 |nil=>simp [split]
 |cons b l ih=>
  rw [List.cons_append,a1g,a1g,ih]
  by_cases h:(b==c)=true
  .rw [if_pos h,if_pos h];rfl
  .rw [if_neg h,if_neg h]
   cases hs:split c l with
   |nil=>exact absurd hs (a2y c l)
   |cons x r=>rfl
theorem b7n (c b:UInt8) (h:(b==c)=false) (l:List UInt8):∀(init:List (List UInt8)) (last:List UInt8),split c l=init++[last]->split c (l++[b])=init++[last++[b]]:=by
 induction l with
 |nil=>
  intro init last e;have e':[([]:List UInt8)]=init++[last]:=e
  cases init with
  |nil=>simp at e';subst e';simp [split,h]
  |cons x r=>simp at e'
 |cons a l ih=>
  intro init last e;rw [a1g]at e;rw [List.cons_append,a1g]
  by_cases ha:(a==c)=true
  .rw [if_pos ha]at e⊢
   cases init with
   |nil=>
    rw [List.nil_append]at e;have:=a2y c l;simp at e;exact absurd e.2 this
   |cons x r=>
    rw [List.cons_append]at e;injection e with e1 e2;subst e1;rw [ih r last e2];rfl
  .rw [if_neg ha]at e⊢
   cases hs:split c l with
   |nil=>exact absurd hs (a2y c l)
   |cons x r=>
    rw [hs]at e
    cases init with
    |nil=>
     simp at e;obtain⟨e1,e2⟩:=e;subst e1 e2;rw [ih [] x (by rw [hs];rfl)];rfl
    |cons y r'=>
     simp at e;obtain⟨e1,e2⟩:=e;subst e1;rw [ih (x::r') last (by rw [hs,e2];rfl)];rfl
theorem d1d (s:List UInt8) (fr k:Nat) (h:k<s.length) (hf:fr<=k):(s.drop fr).take (k+1-fr)=(s.drop fr).take (k-fr)++[s[k]]:=by
 rw [show k+1-fr=(k-fr)+1 by omega,List.take_succ_eq_append_getElem (by simp;omega)]
 congr 2
 rw [List.getElem_drop];congr 1;omega
theorem d4r (c:UInt8) (s:List UInt8) (fr k:Nat) (init:List (List UInt8)) (h:k<s.length) (he:(s[k]==c)=true) (e:split c (s.take k)=init++[(s.drop fr).take (k-fr)]) :
 split c (s.take (k+1))=(init++[(s.drop fr).take (k-fr)])++[(s.drop (k+1)).take (k+1-(k+1))]:=by
 have hc:s[k]=c:=by simpa using he
 rw [List.take_succ_eq_append_getElem h,hc,b8j,e];simp
theorem d2e (c:UInt8) (s:List UInt8) (fr k:Nat) (init:List (List UInt8)) (h:k<s.length) (hf:fr<=k) (he:(s[k]==c)=false) (e:split c (s.take k)=init++[(s.drop fr).take (k-fr)]) :
 split c (s.take (k+1))=init++[(s.drop fr).take (k+1-fr)]:=by
 rw [List.take_succ_eq_append_getElem h,b7n c _ he _ _ _ e,d1d s fr k h hf]
theorem d5j (c:UInt8) (s:List UInt8) (fr k:Nat) (init:List (List UInt8)) (h:k=s.length) (e:split c (s.take k)=init++[(s.drop fr).take (k-fr)]):split c s=init++[s.drop fr]:=by
 subst h;rw [List.take_of_length_le (by omega)]at e;rw [e,List.take_of_length_le (by simp)]
theorem b1n (c:UInt8) (l:List UInt8):(split c l).length<=l.length+1/\∀x∈split c l,x.length<=l.length:=by
 induction l with
 |nil=>simp [split]
 |cons b l ih=>
  rw [a1g]
  split
  .refine⟨by simp;omega,?_⟩;intro x hx;simp at hx
   rcases hx with rfl|hx
   .simp
   .have:=ih.2 x hx;simp;omega
  .cases hs:split c l with
   |nil=>exact absurd hs (a2y c l)
   |cons x r=>
    rw [hs]at ih;refine⟨by have:=ih.1;simp at this⊢;omega,?_⟩;intro y hy;simp at hy
    rcases hy with rfl|hy
    .have:=ih.2 x (by simp);simp;omega
    .have:=ih.2 y (by simp [hy]);simp;omega
def head (c:UInt8) (l:List UInt8):List UInt8:=(split c l).headD []
theorem b2a (c:UInt8) (l:List UInt8):(head c l).length<=l.length:=by
 have h:=(b1n c l).2;unfold head
 cases hs:split c l with
 |nil=>simp
 |cons x r=>exact h x (by simp [hs])
def a0z (k:Nat) (s:List UInt8):List UInt8×List UInt8×Bool:=
 let ahead:=num k++[32]
 let text:=head 35 s
 if text.length<ahead.length||text.take ahead.length != ahead then ([],[],false) else
 let rest:=text.drop ahead.length
 let ask:=head 62 rest
 if ask.length=rest.length then ([],[],false) else
 (ask,rest.drop (ask.length+1),good ask (rest.drop (ask.length+1))&&(line k ask (rest.drop (ask.length+1))==s++[10]))
theorem e4t (c:UInt8) (l:List UInt8) (h:2<=(split c l).length):(head c l).length+1<=l.length:=by
 unfold head
 induction l with
 |nil=>simp [split]at h
 |cons b l ih=>
  rw [a1g]at h⊢
  by_cases hb:(b==c)=true
  .rw [if_pos hb];simp
  .rw [if_neg hb]at h⊢
   cases hs:split c l with
   |nil=>exact absurd hs (a2y c l)
   |cons x r=>
    rw [hs]at h ih;simp only [List.length_cons,List.headD_cons]at h ih⊢;have:=ih (by omega);omega
def step (s:List UInt8) (st:List (List UInt8×List UInt8)×Nat):Option (List (List UInt8×List UInt8)×Nat):=
 if st.2<s.length/\st.1.length<60 then
  if 2<=(split 10 (s.drop st.2)).length/\(a0z st.1.length (head 10 (s.drop st.2))).2.2=true then
   some (st.1++[((a0z st.1.length (head 10 (s.drop st.2))).1,(a0z st.1.length (head 10 (s.drop st.2))).2.1)],st.2+(head 10 (s.drop st.2)).length+1)
  else none
 else none
def run (s:List UInt8):Nat->List (List UInt8×List UInt8)×Nat->List (List UInt8×List UInt8)×Nat
 |0,st=>st
 |n+1,st=>match step s st with
  |none=>st
  |some st'=>run s n st'
def a1i (s:List UInt8):List (List UInt8×List UInt8)×Nat:=run s 60 ([],0)
theorem b5q {s:List UInt8} {st:List (List UInt8×List UInt8)×Nat} (h:step s st=none):∀n,run s n st=st
 |0=>rfl
 |n+1=>by simp only [run,h]
theorem e1c {s:List UInt8} {st st':List (List UInt8×List UInt8)×Nat} (h:step s st=some st') (n:Nat):run s (n+1) st=run s n st':=by simp only [run,h]
theorem step_end {s:List UInt8} {st:List (List UInt8×List UInt8)×Nat} (h:¬st.2<s.length\/¬st.1.length<60):step s st=none:=by
 unfold step;rw [if_neg];omega
theorem b7h {s:List UInt8} {st:List (List UInt8×List UInt8)×Nat} (h:¬2<=(split 10 (s.drop st.2)).length\/(a0z st.1.length (head 10 (s.drop st.2))).2.2=false):step s st=none:=by
 unfold step
 split
 .rw [if_neg];rintro⟨h1,h2⟩;rcases h with h|h
  .exact h h1
  .rw [h]at h2;cases h2
 .rfl
theorem d8c {s:List UInt8} {st:List (List UInt8×List UInt8)×Nat} (h1:st.2<s.length) (h2:st.1.length<60) (h3:2<=(split 10 (s.drop st.2)).length) (h4:(a0z st.1.length (head 10 (s.drop st.2))).2.2=true) :
 step s st=some (st.1++[((a0z st.1.length (head 10 (s.drop st.2))).1,(a0z st.1.length (head 10 (s.drop st.2))).2.1)],st.2+(head 10 (s.drop st.2)).length+1):=by
 unfold step;rw [if_pos ⟨h1,h2⟩,if_pos ⟨h3,h4⟩]
def a0j (d p:List UInt8) (n:Int):Bool:=
 decide ((d.length:Int)+p.length<=30000)&&((((a1i (d++p)).2:Int)==(d.length:Int)+p.length)&&((((a1i d).2:Int)==(d.length:Int))&&(((a1i (d++p)).1.length:Int)==n)))
def a6k (d p:List UInt8) (n:Int):List UInt8×Int×Bool:=if a0j d p n then (d++p,n,true) else ([],0,false)
def decode (k:Nat) (s:List UInt8):(List UInt8×List UInt8)×Nat×Bool:=
 let line:=(Go.Lib.cut s [10]).1
 let both:=(Go.Lib.cut (Go.Lib.cut line [35]).1 [32]).2.1
 let c:=(Go.Lib.cut both [62]).1
 let r:=(Go.Lib.cut both [62]).2.1
 if (Go.Lib.cut s [10]).2.2&&decide ((line.length:Int)<=4000)&&((encode k c r).2&&((encode k c r).1==line++[10])) then ((c,r),line.length+1,true) else (([],[]),0,false)
theorem a9f (s sep:List UInt8):(Go.Lib.cut s sep).1.length<=s.length/\(Go.Lib.cut s sep).2.1.length<=s.length:=by
 unfold Go.Lib.cut
 split
 .refine⟨by simp;omega,by simp⟩
 .simp
theorem cut_lt (s:List UInt8) (c:UInt8) (h:(Go.Lib.cut s [c]).2.2=true):(Go.Lib.cut s [c]).1.length+1<=s.length:=by
 unfold Go.Lib.cut at h⊢
 split
 .rename_i hi
  have hr:=Go.Lib.index_room s [c] hi;simp only [List.length_cons,List.length_nil]at hr;simp only [List.length_take];omega
 .rename_i hi;rw [if_neg hi]at h;cases h
abbrev RSt:=List (List UInt8×List UInt8)×List Int×Nat
def b7a (s:List UInt8) (st:RSt):Option RSt:=
 if (decode st.1.length (s.drop st.2.2)).2.2 then
  some (st.1++[(decode st.1.length (s.drop st.2.2)).1],st.2.1++[((st.2.2+(decode st.1.length (s.drop st.2.2)).2.1:Nat):Int)],st.2.2+(decode st.1.length (s.drop st.2.2)).2.1)
 else none
def runI (s:List UInt8):Nat->RSt->RSt
 |0,st=>st
 |n+1,st=>match b7a s st with
  |none=>st
  |some st'=>runI s n st'
def readAll (s:List UInt8):RSt:=runI s 60 ([],[],0)
theorem c3f {s:List UInt8} {st:RSt} (h:b7a s st=none):∀n,runI s n st=st
 |0=>rfl
 |n+1=>by simp only [runI,h]
theorem c2k {s:List UInt8} {st st':RSt} (h:b7a s st=some st') (n:Nat):runI s (n+1) st=runI s n st':=by simp only [runI,h]
theorem a7a {s:List UInt8} {st:RSt} (h:(decode st.1.length (s.drop st.2.2)).2.2=false):b7a s st=none:=by
 unfold b7a;rw [h];rfl
theorem b2q {s:List UInt8} {st:RSt} (h:(decode st.1.length (s.drop st.2.2)).2.2=true) :
 b7a s st=some (st.1++[(decode st.1.length (s.drop st.2.2)).1],st.2.1++[((st.2.2+(decode st.1.length (s.drop st.2.2)).2.1:Nat):Int)],st.2.2+(decode st.1.length (s.drop st.2.2)).2.1):=by
 unfold b7a;rw [if_pos h]
theorem a5p (k:Nat) (s:List UInt8) (h:(decode k s).2.2=true):k<=59/\1<=(decode k s).2.1/\(decode k s).2.1<=s.length:=by
 unfold decode at h⊢;simp only at h⊢
 split
 .rename_i hc
  simp only [Bool.and_eq_true]at hc;have h1:=cut_lt s 10 hc.1.1;refine⟨?_,by simp,h1⟩;have h2:=hc.2.1;unfold encode at h2
  split at h2
  .rename_i he;simp at he;omega
  .cases h2
 .rename_i hc;rw [if_neg hc]at h;cases h
theorem c8y (s:List UInt8):∀(n:Nat) (st:RSt),st.2.1.length=st.1.length->(runI s n st).1.length<=st.1.length+n/\(runI s n st).2.1.length=(runI s n st).1.length
 |0,st,h=>⟨Nat.le_refl _,h⟩
 |n+1,st,h=>by
  simp only [runI]
  cases hs:b7a s st with
  |none=>exact⟨by simp,h⟩
  |some st'=>
   unfold b7a at hs
   split at hs
   .injection hs with hs;have:=c8y s n st' (by rw [<-hs];simp [h]);refine⟨?_,this.2⟩;have h1:=this.1;have h2:st'.1.length=st.1.length+1:=by rw [<-hs];simp
    simp only;omega
   .cases hs
theorem a4o (s:List UInt8):(readAll s).1.length<=60/\(readAll s).2.1.length=(readAll s).1.length:=by
 have:=c8y s 60 ([],[],0) rfl
 simpa [readAll] using this
def a8t (s:List UInt8):List Int:=0::(readAll s).2.1
def a1t (d p:List UInt8) (n:Int):Bool:=
 (a8t (d++p)).any (λx=>x==(d.length:Int))&&(((a8t (d++p))[(a8t (d++p)).length-1]?.getD 0==((d++p).length:Int))&&(n==((readAll (d++p)).1.length:Int)))
def a8r (d p:List UInt8) (n keep:Int) (t:Bool):List UInt8×Bool:=
 if a1t d p n&&decide (0<=keep/\keep<=(p.length:Int)) then
  (if t&&decide (0<keep) then (d++p.take keep.toNat).set ((d++p.take keep.toNat).length-1) (255-(d++p.take keep.toNat)[(d++p.take keep.toNat).length-1]?.getD 0) else d++p.take keep.toNat,true)
 else ([],false)
end P
namespace P
abbrev Bs:=List UInt8
theorem a2k (c:UInt8):∀(l:Bs),c∈l->∃x y,l=x++c::y/\∀b∈x,b≠c
 |[],h=>by cases h
 |a::l,h=>by
  by_cases ha:a=c
  .exact⟨[],l,by rw [ha];rfl,by simp⟩
  .have hm:c∈l:=by
    rcases List.mem_cons.1 h with h|h
    .exact absurd h.symm ha
    .exact h
   obtain⟨x,y,e,hx⟩:=a2k c l hm;exact⟨a::x,y,by rw [e];rfl,by intro b hb;rcases List.mem_cons.1 hb with rfl|hb;exact ha;exact hx b hb⟩
theorem b8a (c:UInt8) (y:Bs):∀(x:Bs),(∀b∈x,b≠c)->Go.Lib.index (x++c::y) [c]=x.length
 |[],_=>by
  show (if List.isPrefixOf [c] (c::y) then (0:Int) else _)=_
  rw [if_pos (by simp)];rfl
 |b::x,h=>by
  have hb:b≠c:=h b (by simp);have ih:=b8a c y x (λz hz=>h z (by simp [hz]))
  show (if List.isPrefixOf [c] (b::(x++c::y)) then (0:Int) else if Go.Lib.index (x++c::y) [c] == -1 then -1 else Go.Lib.index (x++c::y) [c]+1)=_
  rw [if_neg (by simp [Ne.symm hb]),ih,if_neg (by rw [beq_iff_eq];omega)];simp
theorem b2s (c:UInt8):∀(l:Bs),c∉l->Go.Lib.index l [c] = -1
 |[],_=>rfl
 |b::l,h=>by
  have hb:¬c=b:=λe=>h (by simp [e]);have ih:=b2s c l (λhm=>h (by simp [hm]))
  show (if List.isPrefixOf [c] (b::l) then (0:Int) else if Go.Lib.index l [c] == -1 then -1 else Go.Lib.index l [c]+1)=_
  rw [if_neg (by simp [hb]),ih];rfl
theorem b3y (c:UInt8) (x y:Bs) (h:∀b∈x,b≠c):Go.Lib.cut (x++c::y) [c]=(x,y,true):=by
 unfold Go.Lib.cut;rw [b8a c y x h,if_pos (by omega)];simp
theorem e4n (c:UInt8) (l:Bs) (h:(Go.Lib.cut l [c]).2.2=true):∃x y,l=x++c::y/\(∀b∈x,b≠c)/\Go.Lib.cut l [c]=(x,y,true):=by
 by_cases hm:c∈l
 .obtain⟨x,y,e,hx⟩:=a2k c l hm;exact⟨x,y,e,hx,by rw [e];exact b3y c x y hx⟩
 .exfalso
  unfold Go.Lib.cut at h;rw [b2s c l hm]at h;simp at h
theorem a6u (c:UInt8) (y:Bs):∀(x:Bs),(∀b∈x,b≠c)->split c (x++c::y)=x::split c y
 |[],_=>by rw [List.nil_append,a1g];simp
 |b::x,h=>by
  have hb:b≠c:=h b (by simp);have ih:=a6u c y x (λz hz=>h z (by simp [hz]));rw [List.cons_append,a1g,if_neg (by simp [hb]),ih]
theorem a5l (c:UInt8):∀(l:Bs),c∉l->split c l=[l]
 |[],_=>rfl
 |b::l,h=>by
  have hb:¬b=c:=λe=>h (by simp [e]);have ih:=a5l c l (λhm=>h (by simp [hm]));rw [a1g,if_neg (by simp [hb]),ih]
theorem a8e (c:UInt8) (x y:Bs) (h:∀b∈x,b≠c):head c (x++c::y)=x:=by unfold head;rw [a6u c y x h];rfl
theorem e3p (c:UInt8) (x y:Bs) (h:∀b∈x,b≠c):2<=(split c (x++c::y)).length:=by
 rw [a6u c y x h,List.length_cons];have:=List.length_pos_iff.2 (a2y c y);omega
theorem e2k (c:UInt8) (l:Bs) (h:2<=(split c l).length):∃x y,l=x++c::y/\(∀b∈x,b≠c)/\head c l=x:=by
 by_cases hm:c∈l
 .obtain⟨x,y,e,hx⟩:=a2k c l hm;exact⟨x,y,e,hx,by rw [e];exact a8e c x y hx⟩
 .rw [a5l c l hm]at h;simp at h
/-! records -/
theorem b9b {b:UInt8} (h:plainByte b=true):32<=b.toNat/\b.toNat<=126/\b≠35:=by
 unfold plainByte at h;simp at h;exact⟨by omega,by omega,h.2⟩
theorem a7f {c r:Bs} (h:good c r=true):c≠[]/\c.length<=90/\r.length<=200/\(∀b∈c,32<=b.toNat/\b.toNat<=126/\b≠35/\b≠62)/\(∀b∈r,32<=b.toNat/\b.toNat<=126/\b≠35):=by
 unfold good plain at h;simp only [Bool.and_eq_true,Bool.not_eq_true',List.all_eq_true,decide_eq_true_eq]at h;obtain⟨h1,⟨h2,h3⟩,h4,h5,h6⟩:=h;refine⟨by intro e;rw [e]at h1;simp at h1,by omega,by omega,?_,λb hb=>b9b (h5 b hb)⟩;intro b hb;obtain⟨p1,p2,p3⟩:=b9b (h2 b hb);refine⟨p1,p2,p3,?_⟩;intro e;unfold has at h4;rw [List.any_eq_false]at h4;exact h4 b hb (by simp [e])
theorem a6f (l:Bs) (m:Int) (hp:printable l=true) (hn:(35:UInt8)∉l) (hl:(l.length:Int)<=m):plain l m=true:=by
 unfold plain;rw [Bool.and_eq_true,decide_eq_true_eq,List.all_eq_true];refine⟨?_,hl⟩;intro b hb;unfold plainByte;have h1:=List.all_eq_true.1 hp b hb;rw [h1];have:b≠35:=λe=>hn (e ▸ hb);simp [this]
theorem a6e (l:Bs) (m:Int) (h:plain l m=true):printable l=true/\(35:UInt8)∉l/\(l.length:Int)<=m:=by
 unfold plain at h;rw [Bool.and_eq_true,decide_eq_true_eq,List.all_eq_true]at h;refine⟨?_,?_,h.2⟩
 .unfold printable;rw [List.all_eq_true];intro b hb;have:=h.1 b hb;unfold plainByte at this;rw [Bool.and_eq_true]at this;exact this.1
 .intro hm;have:=h.1 35 hm;simp [plainByte]at this
theorem contains_iff (l:Bs) (c:UInt8):Go.Lib.contains l [c]=has l c:=by
 unfold Go.Lib.contains has
 by_cases hm:c∈l
 .obtain⟨x,y,e,hx⟩:=a2k c l hm;rw [e,b8a c y x hx];simp
 .rw [b2s c l hm]
  have:l.any (λb=>b==c)=false:=by
   rw [List.any_eq_false];intro b hb;simp;intro e;exact hm (e ▸ hb)
  rw [this];rfl
theorem b9r (cs:Bs):∀(l:Bs),decide (0<=Go.Lib.indexAny l cs)=l.any (λb=>cs.contains b)
 |[]=>rfl
 |b::l=>by
  have ih:=b9r cs l;have hge:=Go.Lib.indexAny_ge cs l
  show decide (0<=(if cs.contains b then (0:Int) else if Go.Lib.indexAny l cs == -1 then -1 else Go.Lib.indexAny l cs+1))=_
  by_cases h:cs.contains b=true
  .rw [if_pos h,List.any_cons,h];rfl
  .rw [if_neg h,List.any_cons,(Bool.eq_false_iff.2 h),Bool.false_or,<-ih]
   by_cases h2:Go.Lib.indexAny l cs = -1
   .rw [h2];rfl
   .rw [if_neg (by simpa using h2)];rw [Bool.eq_iff_iff,decide_eq_true_eq,decide_eq_true_eq];omega
theorem d3p:∀(c:Bs),(c.any λb=>([35,62]:Bs).contains b)=(has c 35||has c 62)
 |[]=>rfl
 |b::l=>by
  have ih:=d3p l;unfold has at ih⊢;rw [List.any_cons,List.any_cons,List.any_cons,ih,List.contains_cons,List.contains_cons,List.contains_nil,Bool.or_false]
  cases (b==35)<;>cases (b==62)<;>simp
theorem a6y (c r:Bs):vrec c r=good c r:=by
 have ha:Go.Lib.containsAny c [35,62]=(has c 35||has c 62):=by
  unfold Go.Lib.containsAny;rw [b9r];exact d3p c
 have hm:∀(l:Bs) (x:UInt8),has l x=true↔x∈l:=by intro l x;unfold has;simp
 rw [Bool.eq_iff_iff];unfold vrec;rw [ha,contains_iff];simp only [Bool.and_eq_true,Bool.not_eq_true',Bool.or_eq_false_iff,decide_eq_true_eq]
 constructor
 .rintro⟨⟨⟨h1,h2⟩,h3,h4,h5⟩,h6,h7,h8⟩;unfold good;have n35:(35:UInt8)∉c:=by rw [<-hm,h4];simp
  have m35:(35:UInt8)∉r:=by rw [<-hm,h8];simp
  rw [a6f c 90 h3 n35 h2,a6f r 200 h7 m35 h6,h5];have:c.isEmpty=false:=by cases c with|nil=>simp at h1|cons=>rfl
  rw [this];rfl
 .intro h;unfold good at h;simp only [Bool.and_eq_true,Bool.not_eq_true']at h;obtain⟨h1,h2,h3,h4⟩:=h;obtain⟨a1,a2,a3⟩:=a6e _ _ h2;obtain⟨b1,b2,b3⟩:=a6e _ _ h4;refine⟨⟨⟨?_,a3⟩,a1,?_,h3⟩,b3,b1,?_⟩
  .cases c with|nil=>simp at h1|cons=>simp;omega
  .cases hh:has c 35 with
   |false=>rfl
   |true=>exact absurd ((hm _ _).1 hh) a2
  .cases hh:has r 35 with
   |false=>rfl
   |true=>exact absurd ((hm _ _).1 hh) b2
theorem b0c (n:Nat):∀b∈num n,48<=b.toNat/\b.toNat<=57:=by
 unfold num;rw [Go.Lib.decDigits_eq];intro b hb;simp only [List.mem_map,List.mem_range]at hb;obtain⟨t,_,rfl⟩:=hb;unfold Go.Lib.dg;have:(n / 10^(Go.Lib.nDigits n-1-t)) % 10<10:=Nat.mod_lt _ (by omega);rw [UInt8.toNat_ofNat_of_lt' (by show _<256;omega)];omega
def body (k:Nat) (c r:Bs):Bs:=num k++32::(c++62::r)
theorem a4s (k:Nat) (c r:Bs):line k c r=(body k c r++35::num (sum (body k c r)))++[10]:=rfl
theorem b0a {k:Nat} {c r:Bs} (h:good c r=true):∀b∈body k c r,b≠35/\b≠10:=by
 obtain⟨_,_,_,hc,hr⟩:=a7f h;intro b hb;unfold body at hb;simp only [List.mem_append,List.mem_cons]at hb
 have ne:∀n:Nat,n<256->b.toNat≠n->b≠UInt8.ofNat n:=by
  intro n hn h1 h2;apply h1;rw [h2,UInt8.toNat_ofNat_of_lt' hn]
 rcases hb with hb|rfl|hb|rfl|hb
 .have:=b0c k b hb;exact⟨ne 35 (by omega) (by omega),ne 10 (by omega) (by omega)⟩
 .decide
 .have:=hc b hb;exact⟨this.2.2.1,ne 10 (by omega) (by omega)⟩
 .decide
 .have:=hr b hb;exact⟨this.2.2,ne 10 (by omega) (by omega)⟩
theorem b4i {k:Nat} {c r:Bs} (h:good c r=true):∀b∈body k c r++35::num (sum (body k c r)),b≠10:=by
 intro b hb;simp only [List.mem_append,List.mem_cons]at hb
 rcases hb with hb|rfl|hb
 .exact (b0a h b hb).2
 .decide
 .have:=b0c _ b hb;intro e;rw [e]at this;revert this;decide
theorem e2a (k:Nat) (c:UInt8) (hc:c.toNat<48):∀b∈num k,b≠c:=by
 intro b hb e;have:=b0c k b hb;rw [e]at this;omega
theorem c_no {c r:Bs} (h:good c r=true):∀b∈c,b≠62:=λb hb=>((a7f h).2.2.2.1 b hb).2.2.2
theorem e4e (l:Bs):sum l<999979:=by
 suffices ∀(l:Bs) (h:Nat),h<999979->l.foldl (λh b=>(41*h+b.toNat+1) % 999979) h<999979 from this l 7 (by omega)
 intro l;induction l with
 |nil=>intro h hh;exact hh
 |cons b l ih=>intro h _;exact ih _ (Nat.mod_lt _ (by omega))
theorem c8k {k:Nat} {c r:Bs} (hk:k<=59) (h:good c r=true):(body k c r).length<=312:=by
 obtain⟨_,h1,h2,_,_⟩:=a7f h;have:=num_len k (by omega);unfold body;simp;omega
theorem a5j {k:Nat} {c r:Bs} (hk:k<=59) (h:good c r=true):(line k c r).length<=334/\1<=(line k c r).length:=by
 have h1:=c8k hk h;have h2:=num_len (sum (body k c r)) (by have:=e4e (body k c r);omega);rw [a4s];simp;omega
theorem a8b {k:Nat} {c r:Bs} (hk:k<=59) (h:good c r=true):encode k c r=(line k c r,true):=by
 have hb:=c8k hk h;have hl:=(a5j hk h).1
 have e:appendChecksum (body k c r)=(sealed (body k c r),true):=by
  unfold appendChecksum;rw [if_pos];unfold sealable;rw [contains_iff]
  have h35:has (body k c r) 35=false:=by
   unfold has;rw [List.any_eq_false];intro b hb';simp [(b0a h b hb').1]
  rw [h35];rw [a4s]at hl;have:(sealed (body k c r)).length+1=((body k c r++35::num (sum (body k c r)))++[10]).length:=by simp [sealed];omega
  simp only [Bool.and_eq_true,decide_eq_true_eq,Bool.not_false,true_and];omega
 unfold encode;rw [a6y,h,decide_eq_true (by omega)];rw [if_pos (by rfl),Int.toNat_natCast];have e':appendChecksum (num k++32::(c++62::r))=(sealed (body k c r),true):=e;rw [e'];rfl
theorem a4c {k:Nat} {c r:Bs} (tail:Bs) (hk:k<=59) (h:good c r=true):decode k (line k c r++tail)=((c,r),(line k c r).length,true):=by
 have e1:line k c r++tail=(body k c r++35::num (sum (body k c r)))++10::tail:=by rw [a4s];simp
 have c1:=b3y 10 (body k c r++35::num (sum (body k c r))) tail (b4i h);have c2:=b3y 35 (body k c r) (num (sum (body k c r))) (λb hb=>(b0a h b hb).1);have c3:Go.Lib.cut (body k c r) [32]=(num k,c++62::r,true):=b3y 32 (num k) (c++62::r) (e2a k 32 (by decide));have c4:=b3y 62 c r (c_no h);have hl:=(a5j hk h).1;have hll:(line k c r).length=(body k c r++35::num (sum (body k c r))).length+1:=by rw [a4s];simp;omega
 unfold decode;rw [e1];simp only [c1,c2,c3,c4,a8b hk h];rw [decide_eq_true (by omega)];rw [a4s];simp;omega
theorem d2m {k:Nat} {c r:Bs} (h:(encode k c r).2=true):k<=59/\good c r=true:=by
 unfold encode at h
 split at h
 .rename_i he
  rw [Bool.and_eq_true,decide_eq_true_eq,a6y]at he;exact⟨by omega,he.2⟩
 .cases h
theorem a5k {k:Nat} {s:Bs} (h:(decode k s).2.2=true):k<=59/\good (decode k s).1.1 (decode k s).1.2=true/\∃tail,s=line k (decode k s).1.1 (decode k s).1.2++tail:=by
 have h0:=h;unfold decode at h;simp only at h
 split at h
 .rename_i hc
  simp only [Bool.and_eq_true,beq_iff_eq]at hc;obtain⟨⟨h1,h2⟩,h3,h4⟩:=hc;obtain⟨x,y,e,hx,hcut⟩:=e4n 10 s h1
  have hd:(decode k s).1=((Go.Lib.cut (Go.Lib.cut (Go.Lib.cut (Go.Lib.cut s [10]).1 [35]).1 [32]).2.1 [62]).1,(Go.Lib.cut (Go.Lib.cut (Go.Lib.cut (Go.Lib.cut s [10]).1 [35]).1 [32]).2.1 [62]).2.1):=by
   unfold decode;simp only;rw [if_pos];simp only [Bool.and_eq_true,beq_iff_eq];exact⟨⟨h1,h2⟩,h3,h4⟩
  rw [hd];obtain⟨k1,g1⟩:=d2m h3;rw [a8b k1 g1]at h4;refine⟨k1,g1,y,?_⟩;simp only at h4⊢;rw [h4,hcut,e];simp
 .rename_i hc
  simp only at h;cases h
theorem e2v {k:Nat} {c r:Bs} (tail:Bs) (h:good c r=true):2<=(split 10 (line k c r++tail)).length/\head 10 (line k c r++tail)=body k c r++35::num (sum (body k c r))/\a0z k (body k c r++35::num (sum (body k c r)))=(c,r,true):=by
 have e1:line k c r++tail=(body k c r++35::num (sum (body k c r)))++10::tail:=by rw [a4s];simp
 refine⟨by rw [e1];exact e3p 10 _ _ (b4i h),by rw [e1];exact a8e 10 _ _ (b4i h),?_⟩;have h1:head 35 (body k c r++35::num (sum (body k c r)))=body k c r:=a8e 35 _ _ (λb hb=>(b0a h b hb).1);have h2:body k c r=(num k++[32])++(c++62::r):=by unfold body;simp
 have h3:head 62 (c++62::r)=c:=a8e 62 _ _ (c_no h);unfold a0z;simp only [h1];have t1:List.take (num k++[32]).length (body k c r)=num k++[32]:=by rw [h2];exact List.take_left
 have d1:List.drop (num k++[32]).length (body k c r)=c++62::r:=by rw [h2];exact List.drop_left
 rw [if_neg,d1,h3,if_neg]
 .have d2:List.drop (c.length+1) (c++62::r)=r:=by
   rw [show c++62::r=(c++[62])++r by simp,show c.length+1=(c++[62]).length by simp];exact List.drop_left
  rw [d2,h,a4s];simp
 .simp
 .rw [t1];have:(num k++[32]).length<=(body k c r).length:=by rw [h2];simp
  simp;simp at this;omega
theorem d8g {k:Nat} {s:Bs} (h2:2<=(split 10 s).length) (h:(a0z k (head 10 s)).2.2=true):good (a0z k (head 10 s)).1 (a0z k (head 10 s)).2.1=true/\∃tail,s=line k (a0z k (head 10 s)).1 (a0z k (head 10 s)).2.1++tail:=by
 obtain⟨x,y,e,hx,hh⟩:=e2k 10 s h2;rw [hh]at h⊢;unfold a0z at h⊢;simp only at h⊢
 split at h
 .cases h
 .rename_i n1
  rw [if_neg n1]
  split at h
  .cases h
  .rename_i n2
   rw [if_neg n2];simp only [Bool.and_eq_true,beq_iff_eq]at h⊢;exact⟨h.1,y,by rw [h.2,e];simp⟩
theorem step_eq (s:Bs) (st:RSt):step s (st.1,st.2.2)=(b7a s st).map λst'=>(st'.1,st'.2.2):=by
 cases h:(decode st.1.length (s.drop st.2.2)).2.2
 .rw [a7a h]
  show step s (st.1,st.2.2)=none
  have hp1:((st.1,st.2.2):List (Bs×Bs)×Nat).1=st.1:=rfl;have hp2:((st.1,st.2.2):List (Bs×Bs)×Nat).2=st.2.2:=rfl
  by_cases h1:st.2.2<s.length/\st.1.length<60
  .refine b7h ?_
   by_cases h2:2<=(split 10 (s.drop st.2.2)).length
   .right
    cases h3:(a0z st.1.length (head 10 (s.drop st.2.2))).2.2
    .rfl
    .exfalso
     obtain⟨g,tail,e⟩:=d8g h2 h3;have:=a4c tail (k:=st.1.length) (by omega) g;rw [<-e]at this;rw [this]at h;cases h
   .exact .inl h2
  .exact step_end (by rw [hp1,hp2];omega)
 .rw [b2q h];obtain⟨hk,g,tail,e⟩:=a5k h;have hd:=a4c tail hk g;rw [<-e]at hd;obtain⟨s1,s2,s3⟩:=e2v (k:=st.1.length) tail g;rw [<-e]at s1 s2;have hl:=(a5j hk g).2
  have ha:st.2.2<s.length:=by
   have:(s.drop st.2.2).length=s.length-st.2.2:=List.length_drop ..;rw [e,List.length_append]at this;omega
  have s4:a0z st.1.length (head 10 (s.drop st.2.2))=((decode st.1.length (s.drop st.2.2)).1.1,(decode st.1.length (s.drop st.2.2)).1.2,true):=by rw [s2];exact s3
  rw [d8c (st:=(st.1,st.2.2)) ha (by show st.1.length<60;omega) s1 (by rw [s4])];simp only [s4,Option.map_some];have hn:(decode st.1.length (s.drop st.2.2)).2.1=(line st.1.length (decode st.1.length (s.drop st.2.2)).1.1 (decode st.1.length (s.drop st.2.2)).1.2).length:=congrArg (λz=>z.2.1) hd;have hll:(line st.1.length (decode st.1.length (s.drop st.2.2)).1.1 (decode st.1.length (s.drop st.2.2)).1.2).length=(head 10 (s.drop st.2.2)).length+1:=by rw [s2,a4s];simp;omega
  rw [hn,hll];rfl
theorem run_eq (s:Bs):∀(n:Nat) (st:RSt),run s n (st.1,st.2.2)=((runI s n st).1,(runI s n st).2.2)
 |0,_=>rfl
 |n+1,st=>by
  simp only [run,runI,step_eq]
  cases b7a s st with
  |none=>rfl
  |some st'=>exact run_eq s n st'
theorem a1s (s:Bs):a1i s=((readAll s).1,(readAll s).2.2):=run_eq s 60 ([],[],0)
def pos (s:Bs):Nat->Nat->Nat->List Nat
 |0,_,_=>[]
 |n+1,k,a=>if (decode k (s.drop a)).2.2 then (a+(decode k (s.drop a)).2.1)::pos s n (k+1) (a+(decode k (s.drop a)).2.1) else []
theorem c9z (s:Bs):∀(n:Nat) (st:RSt),(runI s n st).2.1=st.2.1++(pos s n st.1.length st.2.2).map (λ(x:Nat)=>(x:Int))/\(runI s n st).2.2=(pos s n st.1.length st.2.2).getLastD st.2.2
 |0,st=>by simp [runI,pos]
 |n+1,st=>by
  simp only [runI,pos]
  by_cases h:(decode st.1.length (s.drop st.2.2)).2.2=true
  .simp only [b2q h,if_pos h];have ih:=c9z s n (st.1++[(decode st.1.length (s.drop st.2.2)).1],st.2.1++[((st.2.2+(decode st.1.length (s.drop st.2.2)).2.1:Nat):Int)],st.2.2+(decode st.1.length (s.drop st.2.2)).2.1);simp only [List.length_append,List.length_cons,List.length_nil,Nat.zero_add]at ih;exact⟨by rw [ih.1];simp,by rw [ih.2,List.getLastD_cons]⟩
  .simp only [a7a (Bool.eq_false_iff.2 h),if_neg h];exact⟨by simp,rfl⟩
theorem e2d (s:Bs):∀(n k a:Nat),∀x∈pos s n k a,a<x
 |0,_,_=>by simp [pos]
 |n+1,k,a=>by
  intro x hx;simp only [pos]at hx
  split at hx
  .rename_i h
   have:=(a5p k _ h).2.1
   rcases List.mem_cons.1 hx with rfl|hx
   .omega
   .have:=e2d s n _ _ x hx;omega
  .cases hx
theorem a8c {k a:Nat} {d p:Bs} (ha:a<=d.length) :
 ((decode k (d.drop a)).2.2=true->decode k ((d++p).drop a)=decode k (d.drop a))/\((decode k ((d++p).drop a)).2.2=true->a+(decode k ((d++p).drop a)).2.1<=d.length->(decode k (d.drop a)).2.2=true):=by
 have e:(d++p).drop a=d.drop a++p:=by rw [List.drop_append_of_le_length ha]
 constructor
 .intro h;obtain⟨hk,g,tail,e1⟩:=a5k h;have h1:=a4c tail hk g;have h2:=a4c (tail++p) hk g;rw [<-List.append_assoc,<-e1,<-e]at h2;rw [<-e1]at h1;rw [h2,h1]
 .intro h hle;obtain⟨hk,g,tail,e1⟩:=a5k h;have h1:=a4c tail hk g;rw [<-e1]at h1;have hn:(decode k ((d++p).drop a)).2.1=(line k (decode k ((d++p).drop a)).1.1 (decode k ((d++p).drop a)).1.2).length:=congrArg (λz=>z.2.1) h1;generalize hL:line k (decode k ((d++p).drop a)).1.1 (decode k ((d++p).drop a)).1.2=L at *;rw [e]at e1;have hle2:L.length<=(d.drop a).length:=by rw [List.length_drop];omega
  have e2:d.drop a=L++(d.drop a).drop L.length:=by
   have:=congrArg (List.take L.length) e1;rw [List.take_left,List.take_append_of_le_length hle2]at this
   conv=>lhs;rw [<-List.take_append_drop L.length (d.drop a),this]
  have h3:=a4c ((d.drop a).drop L.length) hk g;rw [hL,<-e2]at h3;rw [h3]
theorem last_pos {d p:Bs}:∀(n k a:Nat),a<=d.length->((pos d n k a).getLastD a=d.length↔d.length∈a::pos (d++p) n k a)
 |0,k,a,ha=>by simp [pos];omega
 |n+1,k,a,ha=>by
  obtain⟨p1,p2⟩:=a8c (k:=k) (p:=p) ha;simp only [pos]
  by_cases h:(decode k ((d++p).drop a)).2.2=true
  .have hok:=a5p k _ h;rw [if_pos h]
   by_cases hle:a+(decode k ((d++p).drop a)).2.1<=d.length
   .have h':=p2 h hle;rw [if_pos h',p1 h',List.getLastD_cons];rw [p1 h']at hle hok;rw [last_pos (p:=p) n (k+1) _ hle]
    constructor
    .exact λh=>List.mem_cons_of_mem _ h
    .intro hm
     rcases List.mem_cons.1 hm with hm|hm
     .omega
     .exact hm
   .have h':¬(decode k (d.drop a)).2.2=true:=by
     intro h'';rw [p1 h'']at hle;have:=(a5p k _ h'').2.2;rw [List.length_drop]at this;omega
    rw [if_neg h']
    constructor
    .intro e;have e':a=d.length:=e;rw [e'];simp
    .intro hm
     show a=d.length
     rcases List.mem_cons.1 hm with hm|hm
     .omega
     .rcases List.mem_cons.1 hm with hm|hm
      .omega
      .have:=e2d _ _ _ _ _ hm;omega
  .have h':¬(decode k (d.drop a)).2.2=true:=λh''=>h (by rw [p1 h''];exact h'');rw [if_neg h,if_neg h']
   show a=d.length↔_
   rw [List.mem_singleton];omega
theorem a7s:∀(l:List Nat) (a:Nat),(((a:Int)::l.map (λ(x:Nat)=>(x:Int)))[l.length]?).getD 0=((l.getLastD a:Nat):Int)
 |[],a=>by simp
 |b::l,a=>by
  rw [List.getLastD_cons,<-a7s l b];simp
theorem c3s (s:Bs):∀(n k a:Nat),a<=s.length->(pos s n k a).getLastD a<=a+n*334
 |0,_,_,_=>by simp [pos]
 |n+1,k,a,ha=>by
  simp only [pos]
  by_cases h:(decode k (s.drop a)).2.2=true
  .rw [if_pos h,List.getLastD_cons];obtain⟨hk,g,tail,e⟩:=a5k h;have hd:=a4c tail hk g;rw [<-e]at hd;have hl:=(a5j hk g).1;have hn:(decode k (s.drop a)).2.1=(line k (decode k (s.drop a)).1.1 (decode k (s.drop a)).1.2).length:=congrArg (λz=>z.2.1) hd;have hle:=(a5p k _ h).2.2;rw [List.length_drop]at hle;have:=c3s s n (k+1) (a+(decode k (s.drop a)).2.1) (by omega);omega
  .rw [if_neg h]
   show a<=_
   omega
theorem b1r (s:Bs):a8t s=((0:Nat)::pos s 60 0 0).map (λ(x:Nat)=>(x:Int))/\(readAll s).2.2=(pos s 60 0 0).getLastD 0:=by
 obtain⟨h1,h2⟩:=c9z s 60 ([],[],0);refine⟨?_,h2⟩;unfold a8t readAll;rw [h1];rfl
theorem a3y (d p:Bs) (n:Int):a1t d p n=a0j d p n:=by
 obtain⟨s1,s2⟩:=b1r (d++p);obtain⟨_,t2⟩:=b1r d;have hl:=last_pos (d:=d) (p:=p) 60 0 0 (Nat.zero_le _);have hb:=c3s (d++p) 60 0 0 (Nat.zero_le _);unfold a1t a0j;rw [a1s,a1s];simp only [t2,s2]
 have e1:(a8t (d++p))[(a8t (d++p)).length-1]?.getD 0=(((pos (d++p) 60 0 0).getLastD 0:Nat):Int):=by
  rw [s1,List.map_cons,<-a7s];simp
 have e2:((a8t (d++p)).any λx=>x==(d.length:Int))=decide ((pos d 60 0 0).getLastD 0=d.length):=by
  rw [Bool.eq_iff_iff,decide_eq_true_eq,hl,s1];simp only [List.any_eq_true,List.mem_map,beq_iff_eq]
  constructor
  .rintro⟨x,⟨y,hy,rfl⟩,hx⟩;have:y=d.length:=by omega
   rw [<-this];exact hy
  .intro h;exact⟨(d.length:Int),⟨d.length,h,rfl⟩,rfl⟩
 rw [e1,e2];generalize (pos (d++p) 60 0 0).getLastD 0=x at *;generalize (pos d 60 0 0).getLastD 0=y at *;rw [Bool.eq_iff_iff];simp only [Bool.and_eq_true,decide_eq_true_eq,beq_iff_eq,List.length_append];omega
end P
end Go.Proofs.YtggfdnopminemaaGreatDoor
