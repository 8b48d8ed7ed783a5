/- Plain: segmentation by. -/
import Derived.Test.YtggfdnopminemaaGreatDoorDrawBA
set_option linter.all false
namespace Go.Proofs.YtggfdnopminemaaGreatDoor.P
variable {s t w x:Bs} {d:Dic} {st:List Int} {a f k:Nat} {b:UInt8}
abbrev Pc:=(Int×Int)×Bs
def a4u (d:Dic) (st:List Int) (a:Nat):Nat->Pc
 |0=>(((a:Int),1),[])
 |n+1=>if hasE ((st.drop a).take (n+1)) d then (((a:Int),((n+1:Nat):Int)),a2u ((st.drop a).take (n+1)) d) else a4u d st a n
def a3h (d:Dic) (st:List Int) (a:Nat):Pc:=a4u d st a (min 6 (st.length-a))
def segs (d:Dic) (st:List Int):Nat->Nat->List Pc
 |0,_=>[]
 |f+1,a=>if a<st.length then a3h d st a::segs d st f (a+(a3h d st a).1.2.toNat) else []
def segA (d:Dic) (st:List Int):List Pc:=segs d st st.length 0
theorem b3b (d:Dic) (st:List Int) (a:Nat):∀n:Nat,∃k:Nat,(a4u d st a n).1=((a:Int),(k:Int))/\1<=k/\k<=max n 1
 |0=>⟨1,rfl,by omega,by omega⟩
 |n+1=>by
  unfold a4u
  split
  .exact⟨n+1,rfl,by omega,by omega⟩
  .obtain⟨k,h1,h2,h3⟩:=b3b d st a n;exact⟨k,h1,h2,by omega⟩
theorem b8a (h:a<st.length):∃k:Nat,(a3h d st a).1=((a:Int),(k:Int))/\1<=k/\a+k<=st.length:=by
 obtain⟨k,h1,h2,h3⟩:=b3b d st a (min 6 (st.length-a));exact⟨k,h1,h2,by omega⟩
theorem c8h (h:st.length<=a):segs d st f a=[]:=by
 cases f with
 |zero=>rfl
 |succ f=>unfold segs;rw [if_neg (by omega)]
theorem c2a (h:a<st.length) (hf:st.length-a<=f) (hk:(a3h d st a).1=((a:Int),(k:Int))) (h1:1<=k) :
 ∃f':Nat,st.length-(a+k)<=f'/\segs d st f a=a3h d st a::segs d st f' (a+k):=by
 obtain⟨f',rfl⟩:∃f',f=f'+1:=⟨f-1,by omega⟩
 refine⟨f',by omega,?_⟩
 conv=>lhs;unfold segs
 rw [if_pos h,hk]
 rfl
theorem c7s:∀{f a:Nat},(segs d st f a).length<=f
 |0,_=>Nat.zero_le _
 |f+1,a=>by
  unfold segs
  split
  .rw [List.length_cons];have:=c7s (f:=f) (a:=a+(a3h d st a).1.2.toNat);omega
  .simp
abbrev Fold:=Int×Bs
def lower (b:UInt8):Bool:=decide (97<=(b.toNat:Int))&&decide ((b.toNat:Int)<=122)
def suffix (s:Bs):Bool:=s.all lower&&decide (1<=(s.length:Int)/\(s.length:Int)<=8)
def keyOk (k:Int):Bool:=decide (13<=k/\k<=22)
def fold (f:Fold):Bool:=keyOk f.1&&suffix f.2
def other (a b:Fold):Prop:=a.1≠b.1
instance : DecidableRel other := λa b => inferInstanceAs (Decidable (a.1 ≠ b.1))
theorem all_false (h:k<s.length) (hb:lower s[k]=false):s.all lower=false:=by
 rw [List.all_eq_false];exact⟨s[k],List.getElem_mem h,by simp [hb]⟩
theorem a5v (h:(b.toNat:Int)<97\/122<(b.toNat:Int)):lower b=false:=by
 unfold lower
 rcases h with h|h
 .rw [decide_eq_false (by omega)];rfl
 .rw [decide_eq_false (p:=(b.toNat:Int)<=122) (by omega),Bool.and_false]
theorem b1b (h:97<=(b.toNat:Int)) (h2:(b.toNat:Int)<=122):lower b=true:=by
 unfold lower;rw [decide_eq_true h,decide_eq_true h2];rfl
def hasK (n k:Int):Bool:=n.toNat.testBit k.toNat
def d4x (o:List Int):Int:=o.getD (o.length-1) 0
def bitI (k:Int):Int:=((2^k.toNat:Nat):Int)
def unf (k:Int) (o:List Int):Option (List Int):=
 if hasK (d4x o) k&&!decide (d4x o=bitI k) then some (o.take (o.length-1)++[d4x o-bitI k]) else none
def into (k:Int) (o:List Int):Option (List Int):=
 if hasK (d4x o) k then none else some (o.take (o.length-1)++[d4x o+bitI k])
def over (d:Dic) (f:Fold) (o:List Int):Bool:=match unf f.1 o with
 |none=>false
 |some r=>hasE r d
def vow (b:UInt8):Bool:=b==97||(b==101||(b==105||(b==111||b==117)))
def isWord (s:Bs):Bool:=s.all lower&&decide (1<=(s.length:Int)/\(s.length:Int)<=24)
def b0j (s:Bs) (k:Nat):Bool:=vow (s.getD k 0)&&(decide (k=0)||!vow (s.getD (k-1) 0))
def a2k (s:Bs):Nat->Nat
 |0=>0
 |k+1=>a2k s k+(if b0j s k then 1 else 0)
def a1j (s:Bs):Nat:=a2k s s.length
def ends (s e:Bs):Bool:=Go.Lib.hasSuffix s e
def back (s:Bs) (k:Nat):UInt8:=s.getD (s.length-k) 0
def a8e (s:Bs):Bool:=decide (2<=s.length)&&(back s 1==121&&!vow (back s 2))
def wxy (b:UInt8):Bool:=b==119||(b==120||b==121)
def closed (s:Bs):Bool:=decide (3<=s.length)&&(!vow (back s 3)&&(vow (back s 2)&&(!vow (back s 1)&&!wxy (back s 1))))
def sib (s:Bs):Bool:=ends s [115]||(ends s [120]||(ends s [122]||(ends s [99,104]||ends s [115,104])))
def eoy (s:Bs):Bool:=ends s [101,101]||(ends s [111,101]||ends s [121,101])
def c3f (s:Bs):Bool:=decide (2<=s.length)&&(ends s [101]&&!eoy s)
def rule (w x:Bs):Nat:=
 if (x==[115])&&a8e w then 1
 else if (x==[115])&&sib w then 2
 else if (x==[105,110,103])&&ends w [105,101] then 3
 else if a8e w&&!(x.getD 0 0==105) then 4
 else if c3f w&&vow (x.getD 0 0) then 5
 else if decide (a1j w=1)&&(closed w&&vow (x.getD 0 0)) then 6 else 0
def a4m (w x:Bs):Bs:=
 match rule w x with
 |1=>w.take (w.length-1)++[105,101,115]
 |2=>w++[101,115]
 |3=>w.take (w.length-2)++[121,105,110,103]
 |4=>(w.take (w.length-1)++[105])++x
 |5=>w.take (w.length-1)++x
 |6=>(w++w.drop (w.length-1))++x
 |_=>w++x
def a2c (w x:Bs):Bs×Bool:=if isWord w&&isWord x then (if 24<(a4m w x).length then ([],false) else (a4m w x,true)) else ([],false)
theorem d7x {e:Bs} (h:ends s e=true):e.length<=s.length:=by
 unfold ends Go.Lib.hasSuffix at h;exact (List.isSuffixOf_iff_suffix.1 h).length_le
theorem c7y (s e:Bs):(decide (e.length<=s.length)&&(s.drop (s.length-e.length)==e))=ends s e:=Go.Lib.hasSuffix_of_drop s e
theorem b9q (c:UInt8) (h:1<=s.length):ends s [c]=(back s 1==c):=by
 rw [<-c7y,decide_eq_true (by simpa using h),Bool.true_and]
 have hd:s.drop (s.length-1)=[back s 1]:=by
  rw [List.drop_eq_getElem_cons (by omega),List.drop_of_length_le (by omega)];unfold back;rw [List.getD_eq_getElem?_getD,List.getElem?_eq_getElem (by omega)];rfl
 show (s.drop (s.length-1)==[c])=_
 rw [hd];simp
theorem d9l (h:1<=s.length):(ends s [119]||(ends s [120]||ends s [121]))=wxy (back s 1):=by
 rw [b9q _ h,b9q _ h,b9q _ h];rfl
theorem d4b (w x:Bs):rule w x<=6:=by
 unfold rule
 repeat' split
 all_goals omega
theorem c1q (h:a8e w=true):2<=w.length:=by
 unfold a8e at h;simp only [Bool.and_eq_true,decide_eq_true_eq]at h;exact h.1
theorem d3e (h:c3f w=true):2<=w.length:=by
 unfold c3f at h;simp only [Bool.and_eq_true,decide_eq_true_eq]at h;exact h.1
theorem c6x:(rule w x=1->2<=w.length)/\(rule w x=3->2<=w.length)/\(rule w x=4->2<=w.length)/\(rule w x=5->2<=w.length):=by
 unfold rule
 split
 .rename_i h;simp only [Bool.and_eq_true]at h;exact⟨λ_=>c1q h.2,by omega,by omega,by omega⟩
 split
 .omega
 split
 .rename_i h;simp only [Bool.and_eq_true]at h;exact⟨by omega,λ_=>d7x h.2,by omega,by omega⟩
 split
 .rename_i h;simp only [Bool.and_eq_true]at h;exact⟨by omega,by omega,λ_=>c1q h.1,by omega⟩
 split
 .rename_i h;simp only [Bool.and_eq_true]at h;exact⟨by omega,by omega,by omega,λ_=>d3e h.1⟩
 split
 .omega
 .omega
theorem c1h (h:rule w x=6):3<=w.length:=by
 unfold rule at h
 split at h
 .omega
 split at h
 .omega
 split at h
 .omega
 split at h
 .omega
 split at h
 .omega
 split at h
 .rename_i hc
  simp only [Bool.and_eq_true]at hc;have:=hc.2.1;unfold closed at this;simp only [Bool.and_eq_true,decide_eq_true_eq]at this;exact this.1
 .omega
theorem c4a (h:isWord s=true):∀b∈s,lower b=true:=by
 unfold isWord at h;simp only [Bool.and_eq_true,List.all_eq_true]at h;exact h.1
theorem b8w (h:isWord s=true):1<=s.length/\s.length<=24:=by
 unfold isWord at h;simp only [Bool.and_eq_true,decide_eq_true_eq]at h;omega
theorem c5e (hw:isWord w=true) (hx:isWord x=true):∀b∈a4m w x,lower b=true:=by
 have h1:=c4a hw;have h2:=c4a hx;have ht:∀(n:Nat),∀b∈w.take n,lower b=true:=λn b hb=>h1 b (List.mem_of_mem_take hb);have hd:∀(n:Nat),∀b∈w.drop n,lower b=true:=λn b hb=>h1 b (List.mem_of_mem_drop hb);intro b hb;unfold a4m at hb
 split at hb<;>simp only [List.mem_append]at hb
 .rcases hb with hb|hb
  .exact ht _ b hb
  .exact (show ∀b∈([105,101,115]:Bs),lower b=true by decide) b hb
 .rcases hb with hb|hb
  .exact h1 b hb
  .exact (show ∀b∈([101,115]:Bs),lower b=true by decide) b hb
 .rcases hb with hb|hb
  .exact ht _ b hb
  .exact (show ∀b∈([121,105,110,103]:Bs),lower b=true by decide) b hb
 .rcases hb with (hb|hb)|hb
  .exact ht _ b hb
  .exact (show ∀b∈([105]:Bs),lower b=true by decide) b hb
  .exact h2 b hb
 .rcases hb with hb|hb
  .exact ht _ b hb
  .exact h2 b hb
 .rcases hb with (hb|hb)|hb
  .exact h1 b hb
  .exact hd _ b hb
  .exact h2 b hb
 .rcases hb with hb|hb
  .exact h1 b hb
  .exact h2 b hb
theorem c1x (w x:Bs):(a4m w x).length<=w.length+x.length+4:=by
 unfold a4m
 split<;>simp<;>omega
theorem a4g (h:(a2c w x).2=true):(a2c w x).1.length<=24/\∀b∈(a2c w x).1,lower b=true:=by
 unfold a2c at h⊢
 split at h
 .rename_i hc
  simp only [Bool.and_eq_true]at hc
  split at h
  .cases h
  .rename_i hl
   rw [if_pos (by rw [hc.1,hc.2];rfl),if_neg hl];exact⟨by simpa using hl,c5e hc.1 hc.2⟩
 .cases h
structure St where
 text:Bs
 a0t:Bool
 a4d:Bool
 cap:Int
 word:Nat
def prn (b:UInt8):Bool:=decide (32<=(b.toNat:Int))&&decide ((b.toNat:Int)<=126)
def stOk (s:St):Bool:=decide ((s.text.length:Int)<=2000)&&(s.text.all prn&&(decide (0<=s.cap/\s.cap<=2)&&decide (0<=(s.word:Int)/\(s.word:Int)<=(s.text.length:Int))))
def upB (b:UInt8):Bool:=decide (65<=(b.toNat:Int))&&decide ((b.toNat:Int)<=90)
def upper:Bs->Bs
 |[]=>[]
 |b::t=>(if lower b then b-32 else b)::t
def a1n:Bs->Bs
 |[]=>[]
 |b::t=>(if upB b then b+32 else b)::t
theorem c2p (h:lower b=true):upper (b::t)=(b-32)::t:=by
 show (if lower b then b-32 else b)::t=_
 rw [if_pos h]
theorem b4q (h:lower b=false):upper (b::t)=b::t:=by
 show (if lower b then b-32 else b)::t=_
 rw [if_neg (by rw [h];decide)]
theorem b7b (h:upB b=true):a1n (b::t)=(b+32)::t:=by
 show (if upB b then b+32 else b)::t=_
 rw [if_pos h]
theorem a9h (h:upB b=false):a1n (b::t)=b::t:=by
 show (if upB b then b+32 else b)::t=_
 rw [if_neg (by rw [h];decide)]
def a3m (s:Bs) (how:Int):Bs:=if how=1 then upper s else if how=2 then a1n s else s
def base (s:St):Bs:=if s.a0t then s.text else s.text++[32]
def put (s:St) (t:Bs):St:={ s with text:=base s++a3m t s.cap,cap:=0,word:=(base s).length }
def a2d (s:St) (t:Bs):St:=if s.a4d then { put { s with a0t:=true } t with word:=s.word } else put s t
def endS (s:St) (x:Bs):Bs:=if (a2c (s.text.drop s.word) x).2 then s.text.take s.word++(a2c (s.text.drop s.word) x).1 else s.text++x
def apply (s:St) (k:Int) (t:Bs):St:=
 if k=1 then { put s t with a0t:=false,a4d:=false }
 else if k=2 then { s with text:=endS s t,a0t:=false,a4d:=false }
 else if k=3 then { put s t with a0t:=true,a4d:=false }
 else if k=4 then { s with text:=s.text++t,a0t:=true,a4d:=false }
 else if k=5 then { a2d s t with a0t:=false,a4d:=true }
 else if k=6 then { s with text:=s.text++t,a0t:=false,a4d:=false,cap:=1 }
 else if k=7 then { s with text:=s.text++t,a0t:=false,a4d:=false }
 else if k=8 then { s with cap:=1 }
 else if k=9 then { s with cap:=2 }
 else if k=10 then { s with text:=s.text.take s.word++upper (s.text.drop s.word) }
 else s
def init:St:=⟨[],true,false,0,0⟩
def a3g (s:St):Prop:=(∀b∈s.text,prn b=true)/\(0<=s.cap/\s.cap<=2)/\s.word<=s.text.length
theorem a9n {s:St}:stOk s=true↔a3g s/\s.text.length<=2000:=by
 unfold stOk a3g;simp only [Bool.and_eq_true,decide_eq_true_eq,List.all_eq_true]
 constructor
 .rintro⟨h1,h2,h3,h4⟩;exact⟨⟨h2,h3,by omega⟩,by omega⟩
 .rintro⟨⟨h2,h3,h4⟩,h1⟩;exact⟨by omega,h2,h3,by omega⟩
theorem a6x:a3g init:=⟨λb hb=>(by simp [init]at hb),by decide,by decide⟩
theorem d2p (h:lower b=true):prn b=true:=by
 unfold lower at h;unfold prn;simp only [Bool.and_eq_true,decide_eq_true_eq]at h⊢;omega
theorem d1i (h:lower b=true):prn (b-32)=true:=by
 unfold lower at h;unfold prn;simp only [Bool.and_eq_true,decide_eq_true_eq]at h⊢;have h1:32<=b:=by rw [UInt8.le_iff_toNat_le];show 32<=b.toNat;omega
 rw [UInt8.toNat_sub_of_le _ _ h1]
 show _<=((b.toNat-32:Nat):Int)/\((b.toNat-32:Nat):Int)<=_
 omega
theorem c6p (h:upB b=true):prn (b+32)=true:=by
 unfold upB at h;unfold prn;simp only [Bool.and_eq_true,decide_eq_true_eq]at h⊢;rw [UInt8.toNat_add]
 show _<=(((b.toNat+32) % 2^8:Nat):Int)/\(((b.toNat+32) % 2^8:Nat):Int)<=_
 omega
theorem c2x (h:∀b∈t,prn b=true):∀b∈upper t,prn b=true:=by
 cases t with
 |nil=>exact h
 |cons a t=>
  intro b hb;unfold upper at hb
  rcases List.mem_cons.1 hb with rfl|hb
  .split
   .rename_i hl;exact d1i hl
   .exact h _ (by simp)
  .exact h b (by simp [hb])
theorem c6l (h:∀b∈t,prn b=true):∀b∈a1n t,prn b=true:=by
 cases t with
 |nil=>exact h
 |cons a t=>
  intro b hb;unfold a1n at hb
  rcases List.mem_cons.1 hb with rfl|hb
  .split
   .rename_i hl;exact c6p hl
   .exact h _ (by simp)
  .exact h b (by simp [hb])
theorem d6c {k:Int} (h:∀b∈t,prn b=true):∀b∈a3m t k,prn b=true:=by
 unfold a3m
 split
 .exact c2x h
 split
 .exact c6l h
 .exact h
theorem a8c (t:Bs):(upper t).length=t.length:=by cases t<;>simp [upper]
theorem b5f (t:Bs):(a1n t).length=t.length:=by cases t<;>simp [a1n]
theorem b1x (t:Bs) (k:Int):(a3m t k).length=t.length:=by
 unfold a3m
 split
 .exact a8c t
 split
 .exact b5f t
 .rfl
theorem d9r {s:St} (h:∀b∈s.text,prn b=true):∀b∈base s,prn b=true:=by
 intro b hb;unfold base at hb
 split at hb
 .exact h b hb
 .rcases List.mem_append.1 hb with hb|hb
  .exact h b hb
  .rw [List.mem_singleton]at hb;subst hb;decide
theorem d9d (s:St):s.text.length<=(base s).length/\(base s).length<=s.text.length+1:=by
 unfold base
 split<;>simp
theorem a6q {k:Int} (h:atom k t=true):(∀b∈t,prn b=true)/\t.length<=20:=by
 have hw:word t=true->(∀b∈t,prn b=true)/\t.length<=20:=by
  intro h;refine⟨λb hb=>?_,(a6j h).2.2⟩;unfold word at h;simp only [Bool.and_eq_true,List.all_eq_true]at h;have:=a6d (h.1 b hb);unfold prn;simp only [Bool.and_eq_true,decide_eq_true_eq];omega
 unfold atom at h
 repeat' split at h
 all_goals first
  |exact hw h
  |(simp only [Bool.or_eq_true,beq_iff_eq,Bool.and_eq_true]at h;first|(rcases h with rfl|rfl|rfl<;>exact⟨by decide,by decide⟩)|(obtain⟨_,rfl⟩:=h;exact⟨by simp,by simp⟩))
theorem b2m {s:St} (h:a3g s) (ht:∀b∈t,prn b=true):a3g (put s t):=by
 refine⟨λb hb=>?_,(show (0:Int)<=0/\(0:Int)<=2 by decide),?_⟩
 .unfold put at hb
  rcases List.mem_append.1 hb with hb|hb
  .exact d9r h.1 b hb
  .exact d6c ht b hb
 .unfold put;simp
theorem c0d (s:St) (t:Bs):(put s t).text.length<=s.text.length+1+t.length:=by
 unfold put
 show (base s++a3m t s.cap).length<=_
 rw [List.length_append,b1x];have:=(d9d s).2;omega
theorem d7y {s:St} (h:∀b∈s.text,prn b=true) (hx:∀b∈x,prn b=true):∀b∈endS s x,prn b=true:=by
 intro b hb;unfold endS at hb
 split at hb
 .rename_i hj
  rcases List.mem_append.1 hb with hb|hb
  .exact h b (List.mem_of_mem_take hb)
  .exact d2p ((a4g hj).2 b hb)
 .rcases List.mem_append.1 hb with hb|hb
  .exact h b hb
  .exact hx b hb
theorem c8z (s:St) (x:Bs) (hw:s.word<=s.text.length):(endS s x).length<=s.text.length+24+x.length/\s.word<=(endS s x).length:=by
 unfold endS
 split
 .rename_i hj
  have:=(a4g hj).1;rw [List.length_append,List.length_take];omega
 .rw [List.length_append];omega
theorem c0g {s:St} (h:a3g s) (ht:∀b∈t,prn b=true):a3g (a2d s t):=by
 unfold a2d
 split
 .obtain⟨h1,h2,h3⟩:=b2m (s:={ s with a0t:=true }) (t:=t) h ht;refine⟨h1,h2,?_⟩
  show s.word<=(put { s with a0t:=true } t).text.length
  unfold put base;simp;have:=h.2.2;omega
 .exact b2m h ht
theorem c2k (s:St) (t:Bs):(a2d s t).text.length<=s.text.length+1+t.length:=by
 unfold a2d
 split
 .exact c0d { s with a0t:=true } t
 .exact c0d s t
theorem a9b {s:St} {k:Int} (h:a3g s) (ha:atom k t=true):a3g (apply s k t):=by
 obtain⟨ht,_⟩:=a6q ha;have happ:∀b∈s.text++t,prn b=true:=λb hb=>(List.mem_append.1 hb).elim (h.1 b) (ht b);have hlen:s.word<=(s.text++t).length:=by rw [List.length_append];have:=h.2.2;omega
 unfold apply
 split
 .exact b2m h ht
 split
 .exact⟨d7y h.1 ht,h.2.1,(c8z s t h.2.2).2⟩
 split
 .exact b2m h ht
 split
 .exact⟨happ,h.2.1,hlen⟩
 split
 .exact c0g h ht
 split
 .exact⟨happ,(show (0:Int)<=1/\(1:Int)<=2 by decide),hlen⟩
 split
 .exact⟨happ,h.2.1,hlen⟩
 split
 .exact⟨h.1,(show (0:Int)<=1/\(1:Int)<=2 by decide),h.2.2⟩
 split
 .exact⟨h.1,(show (0:Int)<=2/\(2:Int)<=2 by decide),h.2.2⟩
 split
 .refine⟨λb hb=>?_,h.2.1,?_⟩
  .rcases List.mem_append.1 hb with hb|hb
   .exact h.1 b (List.mem_of_mem_take hb)
   .exact c2x (λb hb=>h.1 b (List.mem_of_mem_drop hb)) b hb
  .show s.word<=(s.text.take s.word++upper (s.text.drop s.word)).length
   rw [List.length_append,a8c,List.length_take,List.length_drop];have:=h.2.2;omega
 .exact h
theorem d2b {s:St} {k:Int} (h:a3g s) (ha:atom k t=true):(apply s k t).text.length<=s.text.length+50:=by
 obtain⟨_,ht⟩:=a6q ha;have h1:=c0d s t;have h2:=c2k s t;have h3:=(c8z s t h.2.2).1;have h4:=h.2.2;unfold apply
 repeat' split
 all_goals first
  |(show (put s t).text.length<=_;omega)
  |(show (a2d s t).text.length<=_;omega)
  |(show (endS s t).length<=_;omega)
  |(show (s.text++t).length<=_;rw [List.length_append];omega)
  |(show (s.text.take s.word++upper (s.text.drop s.word)).length<=_;rw [List.length_append,a8c,List.length_take,List.length_drop];omega)
  |(show s.text.length<=_;omega)
def runA:St->List (Int×Bs)->Option St
 |s,[]=>some s
 |s,a::l=>if stOk s&&atom a.1 a.2 then (if 2000<(apply s a.1 a.2).text.length then none else runA (apply s a.1 a.2) l) else none
def runS:St->List (Int×Bs)->Option St
 |s,[]=>some s
 |s,a::l=>if atom a.1 a.2&&decide (s.text.length<=2000) then runS (apply s a.1 a.2) l else none
def short (o:Option St):Option St:=match o with
 |none=>none
 |some s=>if s.text.length<=2000 then some s else none
theorem c5d:∀(l:List (Int×Bs)) (s:St),a3g s->s.text.length<=2000->runA s l=short (runS s l)
 |[],s,_,hl=>by
  unfold runA runS short;simp only [if_pos hl]
 |a::l,s,hg,hl=>by
  unfold runA
  conv=>rhs;unfold runS
  rw [a9n.2 ⟨hg,hl⟩,decide_eq_true hl,Bool.true_and,Bool.and_true]
  cases ha:atom a.1 a.2 with
  |false=>rfl
  |true=>
   simp only [if_true]
   by_cases h2:2000<(apply s a.1 a.2).text.length
   .rw [if_pos h2]
    cases l with
    |nil=>unfold runS short;simp only [if_neg (show ¬(apply s a.1 a.2).text.length<=2000 by omega)]
    |cons b l=>
     unfold runS;rw [decide_eq_false (by omega),Bool.and_false];rfl
   .rw [if_neg h2];exact c5d l _ (a9b hg ha) (by omega)
theorem b5o:∀(l:List (Int×Bs)) (s:St),a3g s->∀r,runS s l=some r->a3g r
 |[],s,hg,r,h=>by
  unfold runS at h;injection h with h;exact h ▸ hg
 |a::l,s,hg,r,h=>by
  unfold runS at h
  split at h
  .rename_i hc
   simp only [Bool.and_eq_true]at hc;exact b5o l _ (a9b hg hc.1) r h
  .cases h
def a6i:Option St->Bs
 |none=>[]
 |some s=>s.text
def render (l:List (Int×Bs)):Bs×Bool:=if 600<l.length then ([],false) else (a6i (runA init l),(runA init l).isSome)
def a4a (l:List (Int×Bs)):Bs×Bool:=match runS init l with
 |none=>([],false)
 |some s=>(s.text,stOk s&&decide (l.length<=600))
theorem c0y (l:List (Int×Bs)):(a4a l).2=(render l).2/\((render l).2=true->(a4a l).1=(render l).1)/\((render l).2=false->(render l).1=[]):=by
 have he:=c5d l init a6x (by decide);unfold render a4a;rw [he]
 cases hr:runS init l with
 |none=>
  simp only [short,a6i,Option.isSome_none]
  split<;>simp
 |some s=>
  have hg:=b5o l init a6x s hr;simp only [short]
  by_cases h2:s.text.length<=2000
  .rw [if_pos h2,a9n.2 ⟨hg,h2⟩,Bool.true_and]
   by_cases h6:600<l.length
   .rw [if_pos h6,decide_eq_false (by omega)];simp
   .rw [if_neg h6,decide_eq_true (by omega)];simp [a6i]
  .have hso:stOk s=false:=by
    cases hc:stOk s with
    |false=>rfl
    |true=>exact absurd (a9n.1 hc).2 h2
   rw [if_neg h2,hso,Bool.false_and]
   split<;>simp [a6i]
theorem d1g (l:List (Int×Bs)):(render l).1.length<=2000/\∀b∈(render l).1,prn b=true:=by
 unfold render
 split
 .exact⟨by simp,by simp⟩
 .have he:=c5d l init a6x (by decide);rw [he]
  cases hr:runS init l with
  |none=>exact⟨by simp [short,a6i],by simp [short,a6i]⟩
  |some s=>
   have hg:=b5o l init a6x s hr;simp only [short]
   split
   .rename_i h2;exact⟨h2,hg.1⟩
   .exact⟨by simp [a6i],by simp [a6i]⟩
def labels:Bs:=[35,83,84,75,80,87,72,82,65,79,42,69,85,70,82,80,66,76,71,84,83,68,90]
def lab (k:Nat):UInt8:=labels.getD k 0
def a3n (s:Int) (n:Nat):List Nat:=(List.range n).filter (λk=>hasK s (k:Int))
def keys (s:Int):List Nat:=a3n s 23
def a2w (k:Nat):Bool:=decide (8<=k/\k<=12)
def midK (s:Int):Bool:=(keys s).any a2w
def fmtL:Bool->List Nat->Bs
 |_,[]=>[]
 |m,k::l=>if decide (13<=k)&&!m then 45::lab k::fmtL true l else lab k::fmtL m l
def fmtM:Bool->Bool->List Nat->Bs
 |_,_,[]=>[]
 |m,h,k::l=>if decide (12<k)&&(!(m||a2w k)&&!h) then 45::lab k::fmtM (m||a2w k) true l else lab k::fmtM (m||a2w k) h l
def fmt (s:Int):Bs:=fmtL (midK s) (keys s)
theorem c3y:∀(l:List Nat) (m h:Bool),(∀k∈l,13<=k)->fmtM m h l=fmtL (m||h) l
 |[],_,_,_=>rfl
 |k::l,m,h,hk=>by
  have h1:a2w k=false:=by unfold a2w;have:=hk k (by simp);exact decide_eq_false (by omega)
  have h2:decide (12<k)=true:=by have:=hk k (by simp);exact decide_eq_true (by omega)
  have h3:decide (13<=k)=true:=by have:=hk k (by simp);exact decide_eq_true (by omega)
  have ih:=c3y l;unfold fmtM fmtL;rw [h1,h2,h3,Bool.or_false,Bool.true_and,Bool.true_and]
  cases m<;>cases h<;>simp [ih _ _ (λk hk'=>hk k (by simp [hk']))]
theorem c7j:∀(l r:List Nat) (m h:Bool),(∀k∈l,k<=12)->fmtM m h (l++r)=l.map lab++fmtM (m||l.any a2w) h r
 |[],r,m,h,_=>by simp
 |k::l,r,m,h,hk=>by
  have h2:decide (12<k)=false:=by have:=hk k (by simp);exact decide_eq_false (by omega)
  rw [List.cons_append]
  conv=>lhs;unfold fmtM
  rw [h2,Bool.false_and,if_neg (by decide),c7j l r _ h (λk hk'=>hk k (by simp [hk']))];simp [Bool.or_assoc]
theorem c8r:∀(l r:List Nat) (m:Bool),(∀k∈l,k<=12)->fmtL m (l++r)=l.map lab++fmtL m r
 |[],r,m,_=>by simp
 |k::l,r,m,hk=>by
  have h2:decide (13<=k)=false:=by have:=hk k (by simp);exact decide_eq_false (by omega)
  rw [List.cons_append]
  conv=>lhs;unfold fmtL
  rw [h2,Bool.false_and,if_neg (by decide),c8r l r _ (λk hk'=>hk k (by simp [hk']))];rfl
def c2q (s:Int):List Nat:=((List.range 10).map (13+·)).filter (λk=>hasK s (k:Int))
theorem b8r (s:Int):keys s=a3n s 13++c2q s:=by
 unfold keys a3n c2q;rw [<-List.filter_append]
 congr 1
theorem b1g {s:Int} {n:Nat} (h:k∈a3n s n):k<n:=by
 unfold a3n at h;rw [List.mem_filter,List.mem_range]at h;exact h.1
theorem c3g {s:Int} (h:k∈c2q s):13<=k:=by
 unfold c2q at h;rw [List.mem_filter,List.mem_map]at h;obtain⟨⟨j,_,rfl⟩,_⟩:=h;omega
theorem c2w (s:Int):midK s=(a3n s 13).any a2w:=by
 unfold midK;rw [b8r,List.any_append]
 have:(c2q s).any a2w=false:=List.any_eq_false.2 λk hk=>by
  have:=c3g hk;unfold a2w;simp;omega
 rw [this,Bool.or_false]
theorem fmt_eq (s:Int):fmtM false false (keys s)=fmt s:=by
 unfold fmt;rw [c2w,b8r,c7j _ _ _ _ (λk hk=>by have:=b1g hk;omega),c8r _ _ _ (λk hk=>by have:=b1g hk;omega),c3y _ _ _ (λk hk=>c3g hk)];simp
theorem d8c (h1:1<=k):lab k≠35:=by
 by_cases hk:k<23
 .have:∀j<23,1<=j->lab j≠35:=by decide
  exact this k hk h1
 .unfold lab;rw [List.getD_eq_getElem?_getD,List.getElem?_eq_none (by simp [labels];omega)]
  decide
theorem b6g:∀(l:List Nat) (m:Bool),(∀k∈l,1<=k)->∀b∈fmtL m l,b≠35
 |[],_,_=>by simp [fmtL]
 |k::l,m,h=>by
  have ih:=λm=>b6g l m (λk hk=>h k (by simp [hk]));have h1:=d8c (h k (by simp));intro b hb;unfold fmtL at hb
  split at hb
  .rcases List.mem_cons.1 hb with rfl|hb
   .decide
   rcases List.mem_cons.1 hb with rfl|hb
   .exact h1
   .exact ih _ b hb
  .rcases List.mem_cons.1 hb with rfl|hb
   .exact h1
   .exact ih _ b hb
theorem d0b (n:Nat):List.range (n+1)=0::(List.range n).map (1+·):=by
 rw [List.range_succ_eq_map]
 congr 1
 exact List.map_congr_left λk _=>by omega
theorem c2b (s:Int):∃t:List Nat,(∀k∈t,1<=k)/\(keys s=t\/keys s=0::t):=by
 refine⟨((List.range 22).map (1+·)).filter (λk=>hasK s (k:Int)),λk hk=>?_,?_⟩
 .rw [List.mem_filter,List.mem_map]at hk;obtain⟨⟨j,_,rfl⟩,_⟩:=hk;omega
 .unfold keys a3n;rw [d0b 22,List.filter_cons]
  split
  .exact .inr rfl
  .exact .inl rfl
def hash (b:UInt8):UInt8:=if b=35 then 61 else b
def raw (s:Int):Bs:=(fmt s).map hash
theorem b4x {l:Bs} (h:∀b∈l,b≠35):l.map hash=l:=by
 conv=>rhs;rw [<-List.map_id l]
 exact List.map_congr_left λb hb=>by unfold hash;rw [if_neg (h b hb)];rfl
theorem d8o (s:Int):(∀t,fmt s=35::t->raw s=61::t)/\((∀t,fmt s≠35::t)->raw s=fmt s):=by
 obtain⟨t,ht,h⟩:=c2b s;have hl:=λm=>b6g t m ht
 rcases h with h|h
 .have hf:fmt s=fmtL (midK s) t:=by unfold fmt;rw [h]
  constructor
  .intro u hu;exact absurd rfl (hl (midK s) 35 (by rw [<-hf,hu];simp))
  .intro _;unfold raw;rw [hf,b4x (hl _)]
 .have hf:fmt s=35::fmtL (midK s) t:=by
   unfold fmt;rw [h]
   conv=>lhs;unfold fmtL
   rfl
  constructor
  .intro u hu;rw [hf]at hu;injection hu with _ hu;subst hu;unfold raw;rw [hf,List.map_cons,b4x (hl _)];rfl
  .intro hn;exact absurd hf (hn _)
theorem b9n:∀(l:List Nat) (m:Bool),(fmtL m l).length<=2*l.length/\(l≠[]->fmtL m l≠[])
 |[],_=>by simp [fmtL]
 |k::l,m=>by
  have ih:=λm=>(b9n l m).1;unfold fmtL
  split
  .refine⟨?_,by simp⟩;have:=ih true;simp only [List.length_cons];omega
  .refine⟨?_,by simp⟩;have:=ih m;simp only [List.length_cons];omega
theorem d7u (s:Int):(keys s).length<=23:=by
 unfold keys a3n;exact Nat.le_trans (List.length_filter_le _ _) (by simp)
theorem a7j (s:Int):(fmt s).length<=46:=by
 have h1:=(b9n (keys s) (midK s)).1;have h2:=d7u s;unfold fmt;omega
theorem e1n (s:Int):(raw s).length<=46:=by unfold raw;rw [List.length_map];exact a7j s
theorem e3f {s:Int} (h:a0q s=true):keys s≠[]:=by
 unfold a0q at h;simp only [decide_eq_true_eq]at h;obtain⟨n,rfl⟩:=Int.eq_ofNat_of_zero_le (show 0<=s by omega);intro hk
 have hz:∀j,j<23->n.testBit j=false:=λj hj=>by
  cases hb:n.testBit j with
  |false=>rfl
  |true=>
   have:j∈keys (n:Int):=by
    unfold keys a3n;rw [List.mem_filter,List.mem_range];exact⟨hj,by unfold hasK;simpa using hb⟩
   rw [hk]at this
   cases this
 have:n=0:=Nat.eq_of_testBit_eq λj=>by
  rw [Nat.zero_testBit]
  by_cases hj:j<23
  .exact hz j hj
  .exact Nat.testBit_lt_two_pow (Nat.lt_of_lt_of_le (show n<2^23 by omega) (Nat.pow_le_pow_right (by decide) (by omega)))
 omega
theorem e0m {s:Int} (h:a0q s=true):fmt s≠[]:=(b9n (keys s) (midK s)).2 (e3f h)
theorem d8q (n:Nat):midK (n:Int)=decide (n / 256 % 32≠0):=by
 rw [c2w]
 have hb:∀j:Nat,hasK (n:Int) (j:Int)=decide (n / 2^j % 2=1):=λj=>by
  unfold hasK;rw [Int.toNat_natCast,Int.toNat_natCast,Nat.testBit_eq_decide_div_mod_eq]
 unfold a3n;rw [List.any_filter]
 have he:(List.range 13).any (λk=>hasK (n:Int) (k:Int)&&a2w k)=(hasK (n:Int) (8:Nat)||(hasK (n:Int) (9:Nat)||(hasK (n:Int) (10:Nat)||(hasK (n:Int) (11:Nat)||hasK (n:Int) (12:Nat))))):=by
  simp only [List.range,List.range.loop,List.any_cons,List.any_nil,show a2w 0=false from rfl,show a2w 1=false from rfl,show a2w 2=false from rfl,show a2w 3=false from rfl,show a2w 4=false from rfl,show a2w 5=false from rfl,show a2w 6=false from rfl,show a2w 7=false from rfl,show a2w 8=true from rfl,show a2w 9=true from rfl,show a2w 10=true from rfl,show a2w 11=true from rfl,show a2w 12=true from rfl,Bool.and_false,Bool.and_true,Bool.false_or,Bool.or_false]
 rw [he,hb,hb,hb,hb,hb,Bool.eq_iff_iff];simp only [Bool.or_eq_true,decide_eq_true_eq];omega
end Go.Proofs.YtggfdnopminemaaGreatDoor.P
