/- Plain: segmentation by. -/
import Derived.Test.YtggfdnopminemaaGreatDoorDrawBA
set_option linter.all false
namespace Go.Proofs.YtggfdnopminemaaGreatDoor.P
variable {s t w x:Bs} {d:Dic} {st:List Int} {a f k:Nat} {b:UInt8}
abbrev Pc:=(Int×Int)×Bs
def a5b (d:Dic) (st:List Int) (a:Nat):Nat->Pc
 |0=>(((a:Int),1),[])
 |n+1=>if hasE ((st.drop a).take (n+1)) d then (((a:Int),((n+1:Nat):Int)),a3a ((st.drop a).take (n+1)) d) else a5b d st a n
def a3l (d:Dic) (st:List Int) (a:Nat):Pc:=a5b d st a (min 6 (st.length-a))
def segs (d:Dic) (st:List Int):Nat->Nat->List Pc
 |0,_=>[]
 |f+1,a=>if a<st.length then a3l d st a::segs d st f (a+(a3l d st a).1.2.toNat) else []
def segA (d:Dic) (st:List Int):List Pc:=segs d st st.length 0
theorem b3u (d:Dic) (st:List Int) (a:Nat):∀n:Nat,∃k:Nat,(a5b d st a n).1=((a:Int),(k:Int))/\1<=k/\k<=max n 1
 |0=>⟨1,rfl,by omega,by omega⟩
 |n+1=>by
  unfold a5b
  split
  .exact⟨n+1,rfl,by omega,by omega⟩
  .obtain⟨k,h1,h2,h3⟩:=b3u d st a n;exact⟨k,h1,h2,by omega⟩
theorem b9c (h:a<st.length):∃k:Nat,(a3l d st a).1=((a:Int),(k:Int))/\1<=k/\a+k<=st.length:=by
 obtain⟨k,h1,h2,h3⟩:=b3u d st a (min 6 (st.length-a));exact⟨k,h1,h2,by omega⟩
theorem c9p (h:st.length<=a):segs d st f a=[]:=by
 cases f with
 |zero=>rfl
 |succ f=>unfold segs;rw [if_neg (by omega)]
theorem c5s (h:a<st.length) (hf:st.length-a<=f) (hk:(a3l d st a).1=((a:Int),(k:Int))) (h1:1<=k) :
 ∃f':Nat,st.length-(a+k)<=f'/\segs d st f a=a3l d st a::segs d st f' (a+k):=by
 obtain⟨f',rfl⟩:∃f',f=f'+1:=⟨f-1,by omega⟩
 refine⟨f',by omega,?_⟩
 conv=>lhs;unfold segs
 rw [if_pos h,hk]
 rfl
theorem c9q:∀{f a:Nat},(segs d st f a).length<=f
 |0,_=>Nat.zero_le _
 |f+1,a=>by
  unfold segs
  split
  .rw [List.length_cons];have:=c9q (f:=f) (a:=a+(a3l d st a).1.2.toNat);omega
  .simp
abbrev Fold:=Int×Bs
def lower (b:UInt8):Bool:=decide (97<=(b.toNat:Int))&&decide ((b.toNat:Int)<=122)
def suffix (s:Bs):Bool:=s.all lower&&decide (1<=(s.length:Int)/\(s.length:Int)<=8)
def keyOk (k:Int):Bool:=decide (13<=k/\k<=22)
def fold (f:Fold):Bool:=keyOk f.1&&suffix f.2
def other (a b:Fold):Prop:=a.1≠b.1
instance : DecidableRel other := λa b => inferInstanceAs (Decidable (a.1 ≠ b.1))
theorem all_false (h:k<s.length) (hb:lower s[k]=false):s.all lower=false:=by
 rw [List.all_eq_false];exact⟨s[k],List.getElem_mem h,by simp [hb]⟩
theorem a6h (h:(b.toNat:Int)<97\/122<(b.toNat:Int)):lower b=false:=by
 unfold lower
 rcases h with h|h
 .rw [decide_eq_false (by omega)];rfl
 .rw [decide_eq_false (p:=(b.toNat:Int)<=122) (by omega),Bool.and_false]
theorem b2g (h:97<=(b.toNat:Int)) (h2:(b.toNat:Int)<=122):lower b=true:=by
 unfold lower;rw [decide_eq_true h,decide_eq_true h2];rfl
def hasK (n k:Int):Bool:=n.toNat.testBit k.toNat
def d2z (o:List Int):Int:=o.getD (o.length-1) 0
def bitI (k:Int):Int:=((2^k.toNat:Nat):Int)
def unf (k:Int) (o:List Int):Option (List Int):=
 if hasK (d2z o) k&&!decide (d2z o=bitI k) then some (o.take (o.length-1)++[d2z o-bitI k]) else none
def into (k:Int) (o:List Int):Option (List Int):=
 if hasK (d2z o) k then none else some (o.take (o.length-1)++[d2z o+bitI k])
def over (d:Dic) (f:Fold) (o:List Int):Bool:=match unf f.1 o with
 |none=>false
 |some r=>hasE r d
def vow (b:UInt8):Bool:=b==97||(b==101||(b==105||(b==111||b==117)))
def isWord (s:Bs):Bool:=s.all lower&&decide (1<=(s.length:Int)/\(s.length:Int)<=24)
def b1m (s:Bs) (k:Nat):Bool:=vow (s.getD k 0)&&(decide (k=0)||!vow (s.getD (k-1) 0))
def a2n (s:Bs):Nat->Nat
 |0=>0
 |k+1=>a2n s k+(if b1m s k then 1 else 0)
def a1j (s:Bs):Nat:=a2n s s.length
def ends (s e:Bs):Bool:=Go.Lib.hasSuffix s e
def back (s:Bs) (k:Nat):UInt8:=s.getD (s.length-k) 0
def a9n (s:Bs):Bool:=decide (2<=s.length)&&(back s 1==121&&!vow (back s 2))
def wxy (b:UInt8):Bool:=b==119||(b==120||b==121)
def closed (s:Bs):Bool:=decide (3<=s.length)&&(!vow (back s 3)&&(vow (back s 2)&&(!vow (back s 1)&&!wxy (back s 1))))
def sib (s:Bs):Bool:=ends s [115]||(ends s [120]||(ends s [122]||(ends s [99,104]||ends s [115,104])))
def eoy (s:Bs):Bool:=ends s [101,101]||(ends s [111,101]||ends s [121,101])
def c2v (s:Bs):Bool:=decide (2<=s.length)&&(ends s [101]&&!eoy s)
def rule (w x:Bs):Nat:=
 if (x==[115])&&a9n w then 1
 else if (x==[115])&&sib w then 2
 else if (x==[105,110,103])&&ends w [105,101] then 3
 else if a9n w&&!(x.getD 0 0==105) then 4
 else if c2v w&&vow (x.getD 0 0) then 5
 else if decide (a1j w=1)&&(closed w&&vow (x.getD 0 0)) then 6 else 0
def a4t (w x:Bs):Bs:=
 match rule w x with
 |1=>w.take (w.length-1)++[105,101,115]
 |2=>w++[101,115]
 |3=>w.take (w.length-2)++[121,105,110,103]
 |4=>(w.take (w.length-1)++[105])++x
 |5=>w.take (w.length-1)++x
 |6=>(w++w.drop (w.length-1))++x
 |_=>w++x
def a2f (w x:Bs):Bs×Bool:=if isWord w&&isWord x then (if 24<(a4t w x).length then ([],false) else (a4t w x,true)) else ([],false)
theorem e1h {e:Bs} (h:ends s e=true):e.length<=s.length:=by
 unfold ends Go.Lib.hasSuffix at h;exact (List.isSuffixOf_iff_suffix.1 h).length_le
theorem c9d (s e:Bs):(decide (e.length<=s.length)&&(s.drop (s.length-e.length)==e))=ends s e:=Go.Lib.hasSuffix_of_drop s e
theorem c0h (c:UInt8) (h:1<=s.length):ends s [c]=(back s 1==c):=by
 rw [<-c9d,decide_eq_true (by simpa using h),Bool.true_and]
 have hd:s.drop (s.length-1)=[back s 1]:=by
  rw [List.drop_eq_getElem_cons (by omega),List.drop_of_length_le (by omega)];unfold back;rw [List.getD_eq_getElem?_getD,List.getElem?_eq_getElem (by omega)];rfl
 show (s.drop (s.length-1)==[c])=_
 rw [hd];simp
theorem e1d (h:1<=s.length):(ends s [119]||(ends s [120]||ends s [121]))=wxy (back s 1):=by
 rw [c0h _ h,c0h _ h,c0h _ h];rfl
theorem d6e (w x:Bs):rule w x<=6:=by
 unfold rule
 repeat' split
 all_goals omega
theorem c5q (h:a9n w=true):2<=w.length:=by
 unfold a9n at h;simp only [Bool.and_eq_true,decide_eq_true_eq]at h;exact h.1
theorem d5t (h:c2v w=true):2<=w.length:=by
 unfold c2v at h;simp only [Bool.and_eq_true,decide_eq_true_eq]at h;exact h.1
theorem c9s:(rule w x=1->2<=w.length)/\(rule w x=3->2<=w.length)/\(rule w x=4->2<=w.length)/\(rule w x=5->2<=w.length):=by
 unfold rule
 split
 .rename_i h;simp only [Bool.and_eq_true]at h;exact⟨λ_=>c5q h.2,by omega,by omega,by omega⟩
 split
 .omega
 split
 .rename_i h;simp only [Bool.and_eq_true]at h;exact⟨by omega,λ_=>e1h h.2,by omega,by omega⟩
 split
 .rename_i h;simp only [Bool.and_eq_true]at h;exact⟨by omega,by omega,λ_=>c5q h.1,by omega⟩
 split
 .rename_i h;simp only [Bool.and_eq_true]at h;exact⟨by omega,by omega,by omega,λ_=>d5t h.1⟩
 split
 .omega
 .omega
theorem c5t (h:rule w x=6):3<=w.length:=by
 unfold rule at h
 split at h
 .omega
 split at h
 .omega
 split at h
 .omega
 split at h
 .omega
 split at h
 .omega
 split at h
 .rename_i hc
  simp only [Bool.and_eq_true]at hc;have:=hc.2.1;unfold closed at this;simp only [Bool.and_eq_true,decide_eq_true_eq]at this;exact this.1
 .omega
theorem c5n (h:isWord s=true):∀b∈s,lower b=true:=by
 unfold isWord at h;simp only [Bool.and_eq_true,List.all_eq_true]at h;exact h.1
theorem b9j (h:isWord s=true):1<=s.length/\s.length<=24:=by
 unfold isWord at h;simp only [Bool.and_eq_true,decide_eq_true_eq]at h;omega
theorem c6e (hw:isWord w=true) (hx:isWord x=true):∀b∈a4t w x,lower b=true:=by
 have h1:=c5n hw;have h2:=c5n hx;have ht:∀(n:Nat),∀b∈w.take n,lower b=true:=λn b hb=>h1 b (List.mem_of_mem_take hb);have hd:∀(n:Nat),∀b∈w.drop n,lower b=true:=λn b hb=>h1 b (List.mem_of_mem_drop hb);intro b hb;unfold a4t at hb
 split at hb<;>simp only [List.mem_append]at hb
 .rcases hb with hb|hb
  .exact ht _ b hb
  .exact (show ∀b∈([105,101,115]:Bs),lower b=true by decide) b hb
 .rcases hb with hb|hb
  .exact h1 b hb
  .exact (show ∀b∈([101,115]:Bs),lower b=true by decide) b hb
 .rcases hb with hb|hb
  .exact ht _ b hb
  .exact (show ∀b∈([121,105,110,103]:Bs),lower b=true by decide) b hb
 .rcases hb with (hb|hb)|hb
  .exact ht _ b hb
  .exact (show ∀b∈([105]:Bs),lower b=true by decide) b hb
  .exact h2 b hb
 .rcases hb with hb|hb
  .exact ht _ b hb
  .exact h2 b hb
 .rcases hb with (hb|hb)|hb
  .exact h1 b hb
  .exact hd _ b hb
  .exact h2 b hb
 .rcases hb with hb|hb
  .exact h1 b hb
  .exact h2 b hb
theorem c3d (w x:Bs):(a4t w x).length<=w.length+x.length+4:=by
 unfold a4t
 split<;>simp<;>omega
theorem a4m (h:(a2f w x).2=true):(a2f w x).1.length<=24/\∀b∈(a2f w x).1,lower b=true:=by
 unfold a2f at h⊢
 split at h
 .rename_i hc
  simp only [Bool.and_eq_true]at hc
  split at h
  .cases h
  .rename_i hl
   rw [if_pos (by rw [hc.1,hc.2];rfl),if_neg hl];exact⟨by simpa using hl,c6e hc.1 hc.2⟩
 .cases h
structure St where
 text:Bs
 a0u:Bool
 a4j:Bool
 cap:Int
 word:Nat
def prn (b:UInt8):Bool:=decide (32<=(b.toNat:Int))&&decide ((b.toNat:Int)<=126)
def stOk (s:St):Bool:=decide ((s.text.length:Int)<=2000)&&(s.text.all prn&&(decide (0<=s.cap/\s.cap<=2)&&decide (0<=(s.word:Int)/\(s.word:Int)<=(s.text.length:Int))))
def upB (b:UInt8):Bool:=decide (65<=(b.toNat:Int))&&decide ((b.toNat:Int)<=90)
def upper:Bs->Bs
 |[]=>[]
 |b::t=>(if lower b then b-32 else b)::t
def a1q:Bs->Bs
 |[]=>[]
 |b::t=>(if upB b then b+32 else b)::t
theorem c4h (h:lower b=true):upper (b::t)=(b-32)::t:=by
 show (if lower b then b-32 else b)::t=_
 rw [if_pos h]
theorem b5k (h:lower b=false):upper (b::t)=b::t:=by
 show (if lower b then b-32 else b)::t=_
 rw [if_neg (by rw [h];decide)]
theorem b6p (h:upB b=true):a1q (b::t)=(b+32)::t:=by
 show (if upB b then b+32 else b)::t=_
 rw [if_pos h]
theorem b0b (h:upB b=false):a1q (b::t)=b::t:=by
 show (if upB b then b+32 else b)::t=_
 rw [if_neg (by rw [h];decide)]
def a3r (s:Bs) (how:Int):Bs:=if how=1 then upper s else if how=2 then a1q s else s
def base (s:St):Bs:=if s.a0u then s.text else s.text++[32]
def put (s:St) (t:Bs):St:={ s with text:=base s++a3r t s.cap,cap:=0,word:=(base s).length }
def a2h (s:St) (t:Bs):St:=if s.a4j then { put { s with a0u:=true } t with word:=s.word } else put s t
def endS (s:St) (x:Bs):Bs:=if (a2f (s.text.drop s.word) x).2 then s.text.take s.word++(a2f (s.text.drop s.word) x).1 else s.text++x
def apply (s:St) (k:Int) (t:Bs):St:=
 if k=1 then { put s t with a0u:=false,a4j:=false }
 else if k=2 then { s with text:=endS s t,a0u:=false,a4j:=false }
 else if k=3 then { put s t with a0u:=true,a4j:=false }
 else if k=4 then { s with text:=s.text++t,a0u:=true,a4j:=false }
 else if k=5 then { a2h s t with a0u:=false,a4j:=true }
 else if k=6 then { s with text:=s.text++t,a0u:=false,a4j:=false,cap:=1 }
 else if k=7 then { s with text:=s.text++t,a0u:=false,a4j:=false }
 else if k=8 then { s with cap:=1 }
 else if k=9 then { s with cap:=2 }
 else if k=10 then { s with text:=s.text.take s.word++upper (s.text.drop s.word) }
 else s
def init:St:=⟨[],true,false,0,0⟩
def a3k (s:St):Prop:=(∀b∈s.text,prn b=true)/\(0<=s.cap/\s.cap<=2)/\s.word<=s.text.length
theorem b0e {s:St}:stOk s=true↔a3k s/\s.text.length<=2000:=by
 unfold stOk a3k;simp only [Bool.and_eq_true,decide_eq_true_eq,List.all_eq_true]
 constructor
 .rintro⟨h1,h2,h3,h4⟩;exact⟨⟨h2,h3,by omega⟩,by omega⟩
 .rintro⟨⟨h2,h3,h4⟩,h1⟩;exact⟨by omega,h2,h3,by omega⟩
theorem a7e:a3k init:=⟨λb hb=>(by simp [init]at hb),by decide,by decide⟩
theorem d7s (h:lower b=true):prn b=true:=by
 unfold lower at h;unfold prn;simp only [Bool.and_eq_true,decide_eq_true_eq]at h⊢;omega
theorem d4j (h:lower b=true):prn (b-32)=true:=by
 unfold lower at h;unfold prn;simp only [Bool.and_eq_true,decide_eq_true_eq]at h⊢;have h1:32<=b:=by rw [UInt8.le_iff_toNat_le];show 32<=b.toNat;omega
 rw [UInt8.toNat_sub_of_le _ _ h1]
 show _<=((b.toNat-32:Nat):Int)/\((b.toNat-32:Nat):Int)<=_
 omega
theorem c7a (h:upB b=true):prn (b+32)=true:=by
 unfold upB at h;unfold prn;simp only [Bool.and_eq_true,decide_eq_true_eq]at h⊢;rw [UInt8.toNat_add]
 show _<=(((b.toNat+32) % 2^8:Nat):Int)/\(((b.toNat+32) % 2^8:Nat):Int)<=_
 omega
theorem c2o (h:∀b∈t,prn b=true):∀b∈upper t,prn b=true:=by
 cases t with
 |nil=>exact h
 |cons a t=>
  intro b hb;unfold upper at hb
  rcases List.mem_cons.1 hb with rfl|hb
  .split
   .rename_i hl;exact d4j hl
   .exact h _ (by simp)
  .exact h b (by simp [hb])
theorem c7t (h:∀b∈t,prn b=true):∀b∈a1q t,prn b=true:=by
 cases t with
 |nil=>exact h
 |cons a t=>
  intro b hb;unfold a1q at hb
  rcases List.mem_cons.1 hb with rfl|hb
  .split
   .rename_i hl;exact c7a hl
   .exact h _ (by simp)
  .exact h b (by simp [hb])
theorem d3r {k:Int} (h:∀b∈t,prn b=true):∀b∈a3r t k,prn b=true:=by
 unfold a3r
 split
 .exact c2o h
 split
 .exact c7t h
 .exact h
theorem a9m (t:Bs):(upper t).length=t.length:=by cases t<;>simp [upper]
theorem b7i (t:Bs):(a1q t).length=t.length:=by cases t<;>simp [a1q]
theorem b3f (t:Bs) (k:Int):(a3r t k).length=t.length:=by
 unfold a3r
 split
 .exact a9m t
 split
 .exact b7i t
 .rfl
theorem d8r {s:St} (h:∀b∈s.text,prn b=true):∀b∈base s,prn b=true:=by
 intro b hb;unfold base at hb
 split at hb
 .exact h b hb
 .rcases List.mem_append.1 hb with hb|hb
  .exact h b hb
  .rw [List.mem_singleton]at hb;subst hb;decide
theorem d9m (s:St):s.text.length<=(base s).length/\(base s).length<=s.text.length+1:=by
 unfold base
 split<;>simp
theorem a6p {k:Int} (h:atom k t=true):(∀b∈t,prn b=true)/\t.length<=20:=by
 have hw:word t=true->(∀b∈t,prn b=true)/\t.length<=20:=by
  intro h;refine⟨λb hb=>?_,(a7c h).2.2⟩;unfold word at h;simp only [Bool.and_eq_true,List.all_eq_true]at h;have:=a6j (h.1 b hb);unfold prn;simp only [Bool.and_eq_true,decide_eq_true_eq];omega
 unfold atom at h
 repeat' split at h
 all_goals first
  |exact hw h
  |(simp only [Bool.or_eq_true,beq_iff_eq,Bool.and_eq_true]at h;first|(rcases h with rfl|rfl|rfl<;>exact⟨by decide,by decide⟩)|(obtain⟨_,rfl⟩:=h;exact⟨by simp,by simp⟩))
theorem b2x {s:St} (h:a3k s) (ht:∀b∈t,prn b=true):a3k (put s t):=by
 refine⟨λb hb=>?_,(show (0:Int)<=0/\(0:Int)<=2 by decide),?_⟩
 .unfold put at hb
  rcases List.mem_append.1 hb with hb|hb
  .exact d8r h.1 b hb
  .exact d3r ht b hb
 .unfold put;simp
theorem c1i (s:St) (t:Bs):(put s t).text.length<=s.text.length+1+t.length:=by
 unfold put
 show (base s++a3r t s.cap).length<=_
 rw [List.length_append,b3f];have:=(d9m s).2;omega
theorem e0b {s:St} (h:∀b∈s.text,prn b=true) (hx:∀b∈x,prn b=true):∀b∈endS s x,prn b=true:=by
 intro b hb;unfold endS at hb
 split at hb
 .rename_i hj
  rcases List.mem_append.1 hb with hb|hb
  .exact h b (List.mem_of_mem_take hb)
  .exact d7s ((a4m hj).2 b hb)
 .rcases List.mem_append.1 hb with hb|hb
  .exact h b hb
  .exact hx b hb
theorem c9j (s:St) (x:Bs) (hw:s.word<=s.text.length):(endS s x).length<=s.text.length+24+x.length/\s.word<=(endS s x).length:=by
 unfold endS
 split
 .rename_i hj
  have:=(a4m hj).1;rw [List.length_append,List.length_take];omega
 .rw [List.length_append];omega
theorem c1y {s:St} (h:a3k s) (ht:∀b∈t,prn b=true):a3k (a2h s t):=by
 unfold a2h
 split
 .obtain⟨h1,h2,h3⟩:=b2x (s:={ s with a0u:=true }) (t:=t) h ht;refine⟨h1,h2,?_⟩
  show s.word<=(put { s with a0u:=true } t).text.length
  unfold put base;simp;have:=h.2.2;omega
 .exact b2x h ht
theorem c2l (s:St) (t:Bs):(a2h s t).text.length<=s.text.length+1+t.length:=by
 unfold a2h
 split
 .exact c1i { s with a0u:=true } t
 .exact c1i s t
theorem b0d {s:St} {k:Int} (h:a3k s) (ha:atom k t=true):a3k (apply s k t):=by
 obtain⟨ht,_⟩:=a6p ha;have happ:∀b∈s.text++t,prn b=true:=λb hb=>(List.mem_append.1 hb).elim (h.1 b) (ht b);have hlen:s.word<=(s.text++t).length:=by rw [List.length_append];have:=h.2.2;omega
 unfold apply
 split
 .exact b2x h ht
 split
 .exact⟨e0b h.1 ht,h.2.1,(c9j s t h.2.2).2⟩
 split
 .exact b2x h ht
 split
 .exact⟨happ,h.2.1,hlen⟩
 split
 .exact c1y h ht
 split
 .exact⟨happ,(show (0:Int)<=1/\(1:Int)<=2 by decide),hlen⟩
 split
 .exact⟨happ,h.2.1,hlen⟩
 split
 .exact⟨h.1,(show (0:Int)<=1/\(1:Int)<=2 by decide),h.2.2⟩
 split
 .exact⟨h.1,(show (0:Int)<=2/\(2:Int)<=2 by decide),h.2.2⟩
 split
 .refine⟨λb hb=>?_,h.2.1,?_⟩
  .rcases List.mem_append.1 hb with hb|hb
   .exact h.1 b (List.mem_of_mem_take hb)
   .exact c2o (λb hb=>h.1 b (List.mem_of_mem_drop hb)) b hb
  .show s.word<=(s.text.take s.word++upper (s.text.drop s.word)).length
   rw [List.length_append,a9m,List.length_take,List.length_drop];have:=h.2.2;omega
 .exact h
theorem d4m {s:St} {k:Int} (h:a3k s) (ha:atom k t=true):(apply s k t).text.length<=s.text.length+50:=by
 obtain⟨_,ht⟩:=a6p ha;have h1:=c1i s t;have h2:=c2l s t;have h3:=(c9j s t h.2.2).1;have h4:=h.2.2;unfold apply
 repeat' split
 all_goals first
  |(show (put s t).text.length<=_;omega)
  |(show (a2h s t).text.length<=_;omega)
  |(show (endS s t).length<=_;omega)
  |(show (s.text++t).length<=_;rw [List.length_append];omega)
  |(show (s.text.take s.word++upper (s.text.drop s.word)).length<=_;rw [List.length_append,a9m,List.length_take,List.length_drop];omega)
  |(show s.text.length<=_;omega)
def runA:St->List (Int×Bs)->Option St
 |s,[]=>some s
 |s,a::l=>if stOk s&&atom a.1 a.2 then (if 2000<(apply s a.1 a.2).text.length then none else runA (apply s a.1 a.2) l) else none
def runS:St->List (Int×Bs)->Option St
 |s,[]=>some s
 |s,a::l=>if atom a.1 a.2&&decide (s.text.length<=2000) then runS (apply s a.1 a.2) l else none
def short (o:Option St):Option St:=match o with
 |none=>none
 |some s=>if s.text.length<=2000 then some s else none
theorem c6x:∀(l:List (Int×Bs)) (s:St),a3k s->s.text.length<=2000->runA s l=short (runS s l)
 |[],s,_,hl=>by
  unfold runA runS short;simp only [if_pos hl]
 |a::l,s,hg,hl=>by
  unfold runA
  conv=>rhs;unfold runS
  rw [b0e.2 ⟨hg,hl⟩,decide_eq_true hl,Bool.true_and,Bool.and_true]
  cases ha:atom a.1 a.2 with
  |false=>rfl
  |true=>
   simp only [if_true]
   by_cases h2:2000<(apply s a.1 a.2).text.length
   .rw [if_pos h2]
    cases l with
    |nil=>unfold runS short;simp only [if_neg (show ¬(apply s a.1 a.2).text.length<=2000 by omega)]
    |cons b l=>
     unfold runS;rw [decide_eq_false (by omega),Bool.and_false];rfl
   .rw [if_neg h2];exact c6x l _ (b0d hg ha) (by omega)
theorem b5y:∀(l:List (Int×Bs)) (s:St),a3k s->∀r,runS s l=some r->a3k r
 |[],s,hg,r,h=>by
  unfold runS at h;injection h with h;exact h ▸ hg
 |a::l,s,hg,r,h=>by
  unfold runS at h
  split at h
  .rename_i hc
   simp only [Bool.and_eq_true]at hc;exact b5y l _ (b0d hg hc.1) r h
  .cases h
def a6l:Option St->Bs
 |none=>[]
 |some s=>s.text
def render (l:List (Int×Bs)):Bs×Bool:=if 600<l.length then ([],false) else (a6l (runA init l),(runA init l).isSome)
def a4l (l:List (Int×Bs)):Bs×Bool:=match runS init l with
 |none=>([],false)
 |some s=>(s.text,stOk s&&decide (l.length<=600))
theorem c4s (l:List (Int×Bs)):(a4l l).2=(render l).2/\((render l).2=true->(a4l l).1=(render l).1)/\((render l).2=false->(render l).1=[]):=by
 have he:=c6x l init a7e (by decide);unfold render a4l;rw [he]
 cases hr:runS init l with
 |none=>
  simp only [short,a6l,Option.isSome_none]
  split<;>simp
 |some s=>
  have hg:=b5y l init a7e s hr;simp only [short]
  by_cases h2:s.text.length<=2000
  .rw [if_pos h2,b0e.2 ⟨hg,h2⟩,Bool.true_and]
   by_cases h6:600<l.length
   .rw [if_pos h6,decide_eq_false (by omega)];simp
   .rw [if_neg h6,decide_eq_true (by omega)];simp [a6l]
  .have hso:stOk s=false:=by
    cases hc:stOk s with
    |false=>rfl
    |true=>exact absurd (b0e.1 hc).2 h2
   rw [if_neg h2,hso,Bool.false_and]
   split<;>simp [a6l]
theorem d1o (l:List (Int×Bs)):(render l).1.length<=2000/\∀b∈(render l).1,prn b=true:=by
 unfold render
 split
 .exact⟨by simp,by simp⟩
 .have he:=c6x l init a7e (by decide);rw [he]
  cases hr:runS init l with
  |none=>exact⟨by simp [short,a6l],by simp [short,a6l]⟩
  |some s=>
   have hg:=b5y l init a7e s hr;simp only [short]
   split
   .rename_i h2;exact⟨h2,hg.1⟩
   .exact⟨by simp [a6l],by simp [a6l]⟩
def labels:Bs:=[35,83,84,75,80,87,72,82,65,79,42,69,85,70,82,80,66,76,71,84,83,68,90]
def lab (k:Nat):UInt8:=labels.getD k 0
def a3p (s:Int) (n:Nat):List Nat:=(List.range n).filter (λk=>hasK s (k:Int))
def keys (s:Int):List Nat:=a3p s 23
def a3e (k:Nat):Bool:=decide (8<=k/\k<=12)
def midK (s:Int):Bool:=(keys s).any a3e
def fmtL:Bool->List Nat->Bs
 |_,[]=>[]
 |m,k::l=>if decide (13<=k)&&!m then 45::lab k::fmtL true l else lab k::fmtL m l
def fmtM:Bool->Bool->List Nat->Bs
 |_,_,[]=>[]
 |m,h,k::l=>if decide (12<k)&&(!(m||a3e k)&&!h) then 45::lab k::fmtM (m||a3e k) true l else lab k::fmtM (m||a3e k) h l
def fmt (s:Int):Bs:=fmtL (midK s) (keys s)
theorem c2d:∀(l:List Nat) (m h:Bool),(∀k∈l,13<=k)->fmtM m h l=fmtL (m||h) l
 |[],_,_,_=>rfl
 |k::l,m,h,hk=>by
  have h1:a3e k=false:=by unfold a3e;have:=hk k (by simp);exact decide_eq_false (by omega)
  have h2:decide (12<k)=true:=by have:=hk k (by simp);exact decide_eq_true (by omega)
  have h3:decide (13<=k)=true:=by have:=hk k (by simp);exact decide_eq_true (by omega)
  have ih:=c2d l;unfold fmtM fmtL;rw [h1,h2,h3,Bool.or_false,Bool.true_and,Bool.true_and]
  cases m<;>cases h<;>simp [ih _ _ (λk hk'=>hk k (by simp [hk']))]
theorem c9o:∀(l r:List Nat) (m h:Bool),(∀k∈l,k<=12)->fmtM m h (l++r)=l.map lab++fmtM (m||l.any a3e) h r
 |[],r,m,h,_=>by simp
 |k::l,r,m,h,hk=>by
  have h2:decide (12<k)=false:=by have:=hk k (by simp);exact decide_eq_false (by omega)
  rw [List.cons_append]
  conv=>lhs;unfold fmtM
  rw [h2,Bool.false_and,if_neg (by decide),c9o l r _ h (λk hk'=>hk k (by simp [hk']))];simp [Bool.or_assoc]
theorem c9x:∀(l r:List Nat) (m:Bool),(∀k∈l,k<=12)->fmtL m (l++r)=l.map lab++fmtL m r
 |[],r,m,_=>by simp
 |k::l,r,m,hk=>by
  have h2:decide (13<=k)=false:=by have:=hk k (by simp);exact decide_eq_false (by omega)
  rw [List.cons_append]
  conv=>lhs;unfold fmtL
  rw [h2,Bool.false_and,if_neg (by decide),c9x l r _ (λk hk'=>hk k (by simp [hk']))];rfl
def c3u (s:Int):List Nat:=((List.range 10).map (13+·)).filter (λk=>hasK s (k:Int))
theorem b8r (s:Int):keys s=a3p s 13++c3u s:=by
 unfold keys a3p c3u;rw [<-List.filter_append]
 congr 1
theorem b3c {s:Int} {n:Nat} (h:k∈a3p s n):k<n:=by
 unfold a3p at h;rw [List.mem_filter,List.mem_range]at h;exact h.1
theorem c3q {s:Int} (h:k∈c3u s):13<=k:=by
 unfold c3u at h;rw [List.mem_filter,List.mem_map]at h;obtain⟨⟨j,_,rfl⟩,_⟩:=h;omega
theorem c2t (s:Int):midK s=(a3p s 13).any a3e:=by
 unfold midK;rw [b8r,List.any_append]
 have:(c3u s).any a3e=false:=List.any_eq_false.2 λk hk=>by
  have:=c3q hk;unfold a3e;simp;omega
 rw [this,Bool.or_false]
theorem fmt_eq (s:Int):fmtM false false (keys s)=fmt s:=by
 unfold fmt;rw [c2t,b8r,c9o _ _ _ _ (λk hk=>by have:=b3c hk;omega),c9x _ _ _ (λk hk=>by have:=b3c hk;omega),c2d _ _ _ (λk hk=>c3q hk)];simp
theorem d9b (h1:1<=k):lab k≠35:=by
 by_cases hk:k<23
 .have:∀j<23,1<=j->lab j≠35:=by decide
  exact this k hk h1
 .unfold lab;rw [List.getD_eq_getElem?_getD,List.getElem?_eq_none (by simp [labels];omega)]
  decide
theorem b7p:∀(l:List Nat) (m:Bool),(∀k∈l,1<=k)->∀b∈fmtL m l,b≠35
 |[],_,_=>by simp [fmtL]
 |k::l,m,h=>by
  have ih:=λm=>b7p l m (λk hk=>h k (by simp [hk]));have h1:=d9b (h k (by simp));intro b hb;unfold fmtL at hb
  split at hb
  .rcases List.mem_cons.1 hb with rfl|hb
   .decide
   rcases List.mem_cons.1 hb with rfl|hb
   .exact h1
   .exact ih _ b hb
  .rcases List.mem_cons.1 hb with rfl|hb
   .exact h1
   .exact ih _ b hb
theorem d2o (n:Nat):List.range (n+1)=0::(List.range n).map (1+·):=by
 rw [List.range_succ_eq_map]
 congr 1
 exact List.map_congr_left λk _=>by omega
theorem c2y (s:Int):∃t:List Nat,(∀k∈t,1<=k)/\(keys s=t\/keys s=0::t):=by
 refine⟨((List.range 22).map (1+·)).filter (λk=>hasK s (k:Int)),λk hk=>?_,?_⟩
 .rw [List.mem_filter,List.mem_map]at hk;obtain⟨⟨j,_,rfl⟩,_⟩:=hk;omega
 .unfold keys a3p;rw [d2o 22,List.filter_cons]
  split
  .exact .inr rfl
  .exact .inl rfl
def hash (b:UInt8):UInt8:=if b=35 then 61 else b
def raw (s:Int):Bs:=(fmt s).map hash
theorem b5t {l:Bs} (h:∀b∈l,b≠35):l.map hash=l:=by
 conv=>rhs;rw [<-List.map_id l]
 exact List.map_congr_left λb hb=>by unfold hash;rw [if_neg (h b hb)];rfl
theorem e0u (s:Int):(∀t,fmt s=35::t->raw s=61::t)/\((∀t,fmt s≠35::t)->raw s=fmt s):=by
 obtain⟨t,ht,h⟩:=c2y s;have hl:=λm=>b7p t m ht
 rcases h with h|h
 .have hf:fmt s=fmtL (midK s) t:=by unfold fmt;rw [h]
  constructor
  .intro u hu;exact absurd rfl (hl (midK s) 35 (by rw [<-hf,hu];simp))
  .intro _;unfold raw;rw [hf,b5t (hl _)]
 .have hf:fmt s=35::fmtL (midK s) t:=by
   unfold fmt;rw [h]
   conv=>lhs;unfold fmtL
   rfl
  constructor
  .intro u hu;rw [hf]at hu;injection hu with _ hu;subst hu;unfold raw;rw [hf,List.map_cons,b5t (hl _)];rfl
  .intro hn;exact absurd hf (hn _)
theorem c1m:∀(l:List Nat) (m:Bool),(fmtL m l).length<=2*l.length/\(l≠[]->fmtL m l≠[])
 |[],_=>by simp [fmtL]
 |k::l,m=>by
  have ih:=λm=>(c1m l m).1;unfold fmtL
  split
  .refine⟨?_,by simp⟩;have:=ih true;simp only [List.length_cons];omega
  .refine⟨?_,by simp⟩;have:=ih m;simp only [List.length_cons];omega
theorem d8u (s:Int):(keys s).length<=23:=by
 unfold keys a3p;exact Nat.le_trans (List.length_filter_le _ _) (by simp)
theorem a8o (s:Int):(fmt s).length<=46:=by
 have h1:=(c1m (keys s) (midK s)).1;have h2:=d8u s;unfold fmt;omega
theorem e3v (s:Int):(raw s).length<=46:=by unfold raw;rw [List.length_map];exact a8o s
theorem e2z {s:Int} (h:a0q s=true):keys s≠[]:=by
 unfold a0q at h;simp only [decide_eq_true_eq]at h;obtain⟨n,rfl⟩:=Int.eq_ofNat_of_zero_le (show 0<=s by omega);intro hk
 have hz:∀j,j<23->n.testBit j=false:=λj hj=>by
  cases hb:n.testBit j with
  |false=>rfl
  |true=>
   have:j∈keys (n:Int):=by
    unfold keys a3p;rw [List.mem_filter,List.mem_range];exact⟨hj,by unfold hasK;simpa using hb⟩
   rw [hk]at this
   cases this
 have:n=0:=Nat.eq_of_testBit_eq λj=>by
  rw [Nat.zero_testBit]
  by_cases hj:j<23
  .exact hz j hj
  .exact Nat.testBit_lt_two_pow (Nat.lt_of_lt_of_le (show n<2^23 by omega) (Nat.pow_le_pow_right (by decide) (by omega)))
 omega
theorem e1k {s:Int} (h:a0q s=true):fmt s≠[]:=(c1m (keys s) (midK s)).2 (e2z h)
theorem d9g (n:Nat):midK (n:Int)=decide (n / 256 % 32≠0):=by
 rw [c2t]
 have hb:∀j:Nat,hasK (n:Int) (j:Int)=decide (n / 2^j % 2=1):=λj=>by
  unfold hasK;rw [Int.toNat_natCast,Int.toNat_natCast,Nat.testBit_eq_decide_div_mod_eq]
 unfold a3p;rw [List.any_filter]
 have he:(List.range 13).any (λk=>hasK (n:Int) (k:Int)&&a3e k)=(hasK (n:Int) (8:Nat)||(hasK (n:Int) (9:Nat)||(hasK (n:Int) (10:Nat)||(hasK (n:Int) (11:Nat)||hasK (n:Int) (12:Nat))))):=by
  simp only [List.range,List.range.loop,List.any_cons,List.any_nil,show a3e 0=false from rfl,show a3e 1=false from rfl,show a3e 2=false from rfl,show a3e 3=false from rfl,show a3e 4=false from rfl,show a3e 5=false from rfl,show a3e 6=false from rfl,show a3e 7=false from rfl,show a3e 8=true from rfl,show a3e 9=true from rfl,show a3e 10=true from rfl,show a3e 11=true from rfl,show a3e 12=true from rfl,Bool.and_false,Bool.and_true,Bool.false_or,Bool.or_false]
 rw [he,hb,hb,hb,hb,hb,Bool.eq_iff_iff];simp only [Bool.or_eq_true,decide_eq_true_eq];omega
end Go.Proofs.YtggfdnopminemaaGreatDoor.P
