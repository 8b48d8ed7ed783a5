/- Plain: an outline looked up in a dictionary and in a stack of layers; what a flattened stack holds; what is shadowed. -/
import Derived.Test.YtggfdnopminemaaGreatDoorLayB
set_option linter.all false
namespace Go.Proofs.YtggfdnopminemaaGreatDoor
namespace P
def a3e (o:List Int):Dic→Bs
 |[]=>[]
 |e::l=>if e.1=o then e.2 else a3e o l
def hasE (o:List Int) (l:Dic):Bool:=decide (0≤place o l)
theorem b9c (o:List Int) (e:Ent) (l:Dic):hasE o (e::l)=(decide (e.1=o)||hasE o l):=by
 have:=a7l o l;unfold hasE;rw [place]
 by_cases h:e.1=o
 ·simp [h]
 ·rw [if_neg h,decide_eq_false h,Bool.false_or]
  split<;>(apply decide_eq_decide.2;omega)
theorem a7c {o:List Int}:∀{l:Dic} {i:Nat} (_:place o l=i) (hi:i<l.length),(l[i]'hi).2=a3e o l
 |e::l,i,h,hi=>by
  have h0:=a7l o l;unfold place at h;unfold a3e
  by_cases he:e.1=o
  ·rw [if_pos he]at h⊢;obtain rfl:i=0:=by omega
   rfl
  ·rw [if_neg he]at h⊢
   split at h
   ·omega
   ·obtain⟨k,rfl⟩:∃k:Nat,i=k+1:=⟨i-1,by omega⟩;exact a7c (l:=l) (i:=k) (by omega) (by simpa using hi)
theorem a9p {o:List Int}:∀{l:Dic},hasE o l=false→a3e o l=[]
 |[],_=>rfl
 |e::l,h=>by
  rw [b9c,Bool.or_eq_false_iff,decide_eq_false_iff_not]at h;unfold a3e;rw [if_neg h.1];exact a9p h.2
theorem b4k {o:List Int}:∀{l:Dic},hasE o l=true→(o,a3e o l)∈l
 |[],h=>by simp [hasE,place]at h
 |e::l,h=>by
  rw [b9c,Bool.or_eq_true,decide_eq_true_eq]at h;unfold a3e
  by_cases he:e.1=o
  ·rw [if_pos he,←he];simp
  ·rw [if_neg he];exact List.mem_cons_of_mem _ (b4k (h.resolve_left he))
end P
end Go.Proofs.YtggfdnopminemaaGreatDoor
namespace Go.Proofs.YtggfdnopminemaaGreatDoor.P
abbrev Pc:=(Int×Int)×Bs
def a3v (d:Dic) (st:List Int) (a:Nat):Nat→Pc
 |0=>(((a:Int),1),[])
 |n+1=>if hasE ((st.drop a).take (n+1)) d then (((a:Int),((n+1:Nat):Int)),a3e ((st.drop a).take (n+1)) d) else a3v d st a n
def a2r (d:Dic) (st:List Int) (a:Nat):Pc:=a3v d st a (min 6 (st.length-a))
def segs (d:Dic) (st:List Int):Nat→Nat→List Pc
 |0,_=>[]
 |f+1,a=>if a<st.length then a2r d st a::segs d st f (a+(a2r d st a).1.2.toNat) else []
def segA (d:Dic) (st:List Int):List Pc:=segs d st st.length 0
theorem b0d (d:Dic) (st:List Int) (a:Nat):∀n:Nat,∃k:Nat,(a3v d st a n).1=((a:Int),(k:Int))∧1≤k∧k≤max n 1
 |0=>⟨1,rfl,by omega,by omega⟩
 |n+1=>by
  unfold a3v
  split
  ·exact⟨n+1,rfl,by omega,by omega⟩
  ·obtain⟨k,h1,h2,h3⟩:=b0d d st a n;exact⟨k,h1,h2,by omega⟩
theorem b5c {d:Dic} {st:List Int} {a:Nat} (h:a<st.length):∃k:Nat,(a2r d st a).1=((a:Int),(k:Int))∧1≤k∧a+k≤st.length:=by
 obtain⟨k,h1,h2,h3⟩:=b0d d st a (min 6 (st.length-a));exact⟨k,h1,h2,by omega⟩
theorem c1l {d:Dic} {st:List Int} {f a:Nat} (h:st.length≤a):segs d st f a=[]:=by
 cases f with
 |zero=>rfl
 |succ f=>unfold segs;rw [if_neg (by omega)]
theorem b8b {d:Dic} {st:List Int} {f a:Nat} (h:a<st.length) (hf:st.length-a≤f) {k:Nat} (hk:(a2r d st a).1=((a:Int),(k:Int))) (h1:1≤k) :
 ∃f':Nat,st.length-(a+k)≤f'∧segs d st f a=a2r d st a::segs d st f' (a+k):=by
 obtain⟨f',rfl⟩:∃f',f=f'+1:=⟨f-1,by omega⟩
 refine⟨f',by omega,?_⟩
 conv=>lhs;unfold segs
 rw [if_pos h,hk]
 rfl
theorem c2l {d:Dic} {st:List Int}:∀{f a:Nat},(segs d st f a).length≤f
 |0,_=>Nat.zero_le _
 |f+1,a=>by
  unfold segs
  split
  ·rw [List.length_cons];have:=c2l (d:=d) (st:=st) (f:=f) (a:=a+(a2r d st a).1.2.toNat);omega
  ·simp
abbrev Fold:=Int×Bs
def lower (b:UInt8):Bool:=decide (97≤(b.toNat:Int))&&decide ((b.toNat:Int)≤122)
def suffix (s:Bs):Bool:=s.all lower&&decide (1≤(s.length:Int)∧(s.length:Int)≤8)
def keyOk (k:Int):Bool:=decide (13≤k∧k≤22)
def fold (f:Fold):Bool:=keyOk f.1&&suffix f.2
def other (a b:Fold):Prop:=a.1≠b.1
instance : DecidableRel other := fun a b => inferInstanceAs (Decidable (a.1 ≠ b.1))
theorem all_false {s:Bs} {k:Nat} (h:k<s.length) (hb:lower s[k]=false):s.all lower=false:=by
 rw [List.all_eq_false];exact⟨s[k],List.getElem_mem h,by simp [hb]⟩
theorem b1e {b:UInt8} (h:(b.toNat:Int)<97∨122<(b.toNat:Int)):lower b=false:=by
 unfold lower
 rcases h with h|h
 ·rw [decide_eq_false (by omega)];rfl
 ·rw [decide_eq_false (p:=(b.toNat:Int)≤122) (by omega),Bool.and_false]
theorem b6z {b:UInt8} (h:97≤(b.toNat:Int)) (h2:(b.toNat:Int)≤122):lower b=true:=by
 unfold lower;rw [decide_eq_true h,decide_eq_true h2];rfl
def hasK (n k:Int):Bool:=n.toNat.testBit k.toNat
def c6b (o:List Int):Int:=o.getD (o.length-1) 0
def bitI (k:Int):Int:=((2^k.toNat:Nat):Int)
def unf (k:Int) (o:List Int):Option (List Int):=
 if hasK (c6b o) k&&!decide (c6b o=bitI k) then some (o.take (o.length-1)++[c6b o-bitI k]) else none
def into (k:Int) (o:List Int):Option (List Int):=
 if hasK (c6b o) k then none else some (o.take (o.length-1)++[c6b o+bitI k])
def over (d:Dic) (f:Fold) (o:List Int):Bool:=match unf f.1 o with
 |none=>false
 |some r=>hasE r d
def vow (b:UInt8):Bool:=b==97||(b==101||(b==105||(b==111||b==117)))
def isWord (s:Bs):Bool:=s.all lower&&decide (1≤(s.length:Int)∧(s.length:Int)≤24)
def a7y (s:Bs) (k:Nat):Bool:=vow (s.getD k 0)&&(decide (k=0)||!vow (s.getD (k-1) 0))
def a2o (s:Bs):Nat→Nat
 |0=>0
 |k+1=>a2o s k+(if a7y s k then 1 else 0)
def a3s (s:Bs):Nat:=a2o s s.length
def ends (s e:Bs):Bool:=Go.Lib.hasSuffix s e
def back (s:Bs) (k:Nat):UInt8:=s.getD (s.length-k) 0
def b8u (s:Bs):Bool:=decide (2≤s.length)&&(back s 1==121&&!vow (back s 2))
def wxy (b:UInt8):Bool:=b==119||(b==120||b==121)
def closed (s:Bs):Bool:=decide (3≤s.length)&&(!vow (back s 3)&&(vow (back s 2)&&(!vow (back s 1)&&!wxy (back s 1))))
def sib (s:Bs):Bool:=ends s [115]||(ends s [120]||(ends s [122]||(ends s [99,104]||ends s [115,104])))
def eoy (s:Bs):Bool:=ends s [101,101]||(ends s [111,101]||ends s [121,101])
def c3r (s:Bs):Bool:=decide (2≤s.length)&&(ends s [101]&&!eoy s)
def rule (w x:Bs):Nat:=
 if (x==[115])&&b8u w then 1
 else if (x==[115])&&sib w then 2
 else if (x==[105,110,103])&&ends w [105,101] then 3
 else if b8u w&&!(x.getD 0 0==105) then 4
 else if c3r w&&vow (x.getD 0 0) then 5
 else if decide (a3s w=1)&&(closed w&&vow (x.getD 0 0)) then 6 else 0
def a6k (w x:Bs):Bs:=
 match rule w x with
 |1=>w.take (w.length-1)++[105,101,115]
 |2=>w++[101,115]
 |3=>w.take (w.length-2)++[121,105,110,103]
 |4=>(w.take (w.length-1)++[105])++x
 |5=>w.take (w.length-1)++x
 |6=>(w++w.drop (w.length-1))++x
 |_=>w++x
def a4k (w x:Bs):Bs×Bool:=if isWord w&&isWord x then (if 24<(a6k w x).length then ([],false) else (a6k w x,true)) else ([],false)
theorem d1n {s e:Bs} (h:ends s e=true):e.length≤s.length:=by
 unfold ends Go.Lib.hasSuffix at h;exact (List.isSuffixOf_iff_suffix.1 h).length_le
theorem d0k (s e:Bs):(decide (e.length≤s.length)&&(s.drop (s.length-e.length)==e))=ends s e:=Go.Lib.hasSuffix_of_drop s e
theorem b6l {s:Bs} (c:UInt8) (h:1≤s.length):ends s [c]=(back s 1==c):=by
 rw [←d0k,decide_eq_true (by simpa using h),Bool.true_and]
 have hd:s.drop (s.length-1)=[back s 1]:=by
  rw [List.drop_eq_getElem_cons (by omega),List.drop_of_length_le (by omega)];unfold back;rw [List.getD_eq_getElem?_getD,List.getElem?_eq_getElem (by omega)];rfl
 show (s.drop (s.length-1)==[c])=_
 rw [hd];simp
theorem d1r {s:Bs} (h:1≤s.length):(ends s [119]||(ends s [120]||ends s [121]))=wxy (back s 1):=by
 rw [b6l _ h,b6l _ h,b6l _ h];rfl
theorem d5l (w x:Bs):rule w x≤6:=by
 unfold rule
 repeat' split
 all_goals omega
theorem b8l {w:Bs} (h:b8u w=true):2≤w.length:=by
 unfold b8u at h;simp only [Bool.and_eq_true,decide_eq_true_eq]at h;exact h.1
theorem c9f {w:Bs} (h:c3r w=true):2≤w.length:=by
 unfold c3r at h;simp only [Bool.and_eq_true,decide_eq_true_eq]at h;exact h.1
theorem d2j {w x:Bs}:(rule w x=1→2≤w.length)∧(rule w x=3→2≤w.length)∧(rule w x=4→2≤w.length)∧(rule w x=5→2≤w.length):=by
 unfold rule
 split
 ·rename_i h;simp only [Bool.and_eq_true]at h;exact⟨fun _=>b8l h.2,by omega,by omega,by omega⟩
 split
 ·omega
 split
 ·rename_i h;simp only [Bool.and_eq_true]at h;exact⟨by omega,fun _=>d1n h.2,by omega,by omega⟩
 split
 ·rename_i h;simp only [Bool.and_eq_true]at h;exact⟨by omega,by omega,fun _=>b8l h.1,by omega⟩
 split
 ·rename_i h;simp only [Bool.and_eq_true]at h;exact⟨by omega,by omega,by omega,fun _=>c9f h.1⟩
 split
 ·omega
 ·omega
theorem c7d {w x:Bs} (h:rule w x=6):3≤w.length:=by
 unfold rule at h
 split at h
 ·omega
 split at h
 ·omega
 split at h
 ·omega
 split at h
 ·omega
 split at h
 ·omega
 split at h
 ·rename_i hc
  simp only [Bool.and_eq_true]at hc;have:=hc.2.1;unfold closed at this;simp only [Bool.and_eq_true,decide_eq_true_eq]at this;exact this.1
 ·omega
theorem b7v {s:Bs} (h:isWord s=true):∀b∈s,lower b=true:=by
 unfold isWord at h;simp only [Bool.and_eq_true,List.all_eq_true]at h;exact h.1
theorem c4t {s:Bs} (h:isWord s=true):1≤s.length∧s.length≤24:=by
 unfold isWord at h;simp only [Bool.and_eq_true,decide_eq_true_eq]at h;omega
theorem c0f {w x:Bs} (hw:isWord w=true) (hx:isWord x=true):∀b∈a6k w x,lower b=true:=by
 have h1:=b7v hw;have h2:=b7v hx;have ht:∀(n:Nat),∀b∈w.take n,lower b=true:=fun n b hb=>h1 b (List.mem_of_mem_take hb);have hd:∀(n:Nat),∀b∈w.drop n,lower b=true:=fun n b hb=>h1 b (List.mem_of_mem_drop hb);intro b hb;unfold a6k at hb
 split at hb<;>simp only [List.mem_append]at hb
 ·rcases hb with hb|hb
  ·exact ht _ b hb
  ·exact (show ∀b∈([105,101,115]:Bs),lower b=true by decide) b hb
 ·rcases hb with hb|hb
  ·exact h1 b hb
  ·exact (show ∀b∈([101,115]:Bs),lower b=true by decide) b hb
 ·rcases hb with hb|hb
  ·exact ht _ b hb
  ·exact (show ∀b∈([121,105,110,103]:Bs),lower b=true by decide) b hb
 ·rcases hb with (hb|hb)|hb
  ·exact ht _ b hb
  ·exact (show ∀b∈([105]:Bs),lower b=true by decide) b hb
  ·exact h2 b hb
 ·rcases hb with hb|hb
  ·exact ht _ b hb
  ·exact h2 b hb
 ·rcases hb with (hb|hb)|hb
  ·exact h1 b hb
  ·exact hd _ b hb
  ·exact h2 b hb
 ·rcases hb with hb|hb
  ·exact h1 b hb
  ·exact h2 b hb
theorem c8q (w x:Bs):(a6k w x).length≤w.length+x.length+4:=by
 unfold a6k
 split<;>simp<;>omega
theorem a8a {w x:Bs} (h:(a4k w x).2=true):(a4k w x).1.length≤24∧∀b∈(a4k w x).1,lower b=true:=by
 unfold a4k at h⊢
 split at h
 ·rename_i hc
  simp only [Bool.and_eq_true]at hc
  split at h
  ·cases h
  ·rename_i hl
   rw [if_pos (by rw [hc.1,hc.2];rfl),if_neg hl];exact⟨by simpa using hl,c0f hc.1 hc.2⟩
 ·cases h
end Go.Proofs.YtggfdnopminemaaGreatDoor.P
