/- Plain: the notations of atoms: the program's search and the reference's reading find the same. Plain: the bytes that word text may not hold, as the program looks for them. Plain: translations, outlines, dictionaries. Plain: entries put into and taken out of a dictionary. -/
import Derived.Lib.SlTrimSet
import Derived.Lib.Bytealg
import Derived.Lib.Split
import Derived.Test.YtggfdnopminemaaGreatDoorPlainLog
set_option linter.all false
namespace Go.Proofs.YtggfdnopminemaaGreatDoor
section
namespace P
def a2i (b:UInt8):Bool:=decide (33≤(b.toNat:Int))&&decide ((b.toNat:Int)≤126)&&!(b==123)&&!(b==125)&&!(b==94)&&!(b==38)&&!(b==35)&&!(b==62)
def word (t:List UInt8):Bool:=t.all a2i&&decide (1≤(t.length:Int)∧(t.length:Int)≤20)
def atom (k:Int) (t:List UInt8):Bool:=
 if 1≤k∧k≤5 then word t
 else if k=6 then t==[46]||(t==[33]||t==[63])
 else if k=7 then t==[44]||(t==[59]||t==[58])
 else decide (8≤k∧k≤10)&&t==[]
def note (k:Int) (t:List UInt8):List UInt8:=
 if k=1 then t
 else if k=2 then 123::94::(t++[125])
 else if k=3 then 123::(t++[94,125])
 else if k=4 then 123::94::(t++[94,125])
 else if k=5 then 123::38::(t++[125])
 else if k=8 then [123,45,124,125]
 else if k=9 then [123,62,125]
 else if k=10 then [123,42,45,124,125]
 else 123::(t++[125])
def inner (m:List UInt8):Int×List UInt8:=
 if m==[45,124] then (8,[])
 else if m==[62] then (9,[])
 else if m==[42,45,124] then (10,[])
 else if m==[46]||(m==[33]||m==[63]) then (6,m)
 else if m==[44]||(m==[59]||m==[58]) then (7,m)
 else if m.head?==some 38 then (5,m.drop 1)
 else if m.head?==some 94&&(m.getLast?==some 94&&decide (2<m.length)) then (4,(m.drop 1).take (m.length-2))
 else if m.head?==some 94 then (2,m.drop 1)
 else if m.getLast?==some 94 then (3,m.take (m.length-1))
 else (0,[])
def kindOf (s:List UInt8):Int×List UInt8:=
 if s.length<3||(!(s.head?==some 123)||!(s.getLast?==some 125)) then (1,s) else inner ((s.drop 1).take (s.length-2))
def a0n (s:List UInt8):(Int×List UInt8)×Bool:=
 if atom (kindOf s).1 (kindOf s).2&&note (kindOf s).1 (kindOf s).2==s then (kindOf s,true) else ((0,[]),false)
def tries (s:List UInt8):List (Int×List UInt8):=
 [1,2,3,4,5,6,7,8,9,10].flatMap fun k=>[(k,Go.Lib.trimS s [123,125,94,38]),(k,[])]
def c6u (s:List UInt8):(Int×List UInt8)×Bool:=
 if 24<s.length then ((0,[]),false) else
  match (tries s).find? (fun a=>atom a.1 a.2&&note a.1 a.2==s) with
  |some a=>(a,true)
  |none=>((0,[]),false)
theorem a4w {b:UInt8} (h:a2i b=true):33≤b.toNat∧b.toNat≤126∧b≠123∧b≠125∧b≠94∧b≠38∧b≠35∧b≠62:=by
 unfold a2i at h;simp only [Bool.and_eq_true,decide_eq_true_eq,Bool.not_eq_true',beq_eq_false_iff_ne]at h;obtain⟨⟨⟨⟨⟨⟨⟨h1,h2⟩,h3⟩,h4⟩,h5⟩,h6⟩,h7⟩,h8⟩:=h;exact⟨by omega,by omega,h3,h4,h5,h6,h7,h8⟩
theorem a5d {t:List UInt8} (h:word t=true):(∀b∈t,b≠123∧b≠125∧b≠94∧b≠38∧b≠62)∧t≠[]∧t.length≤20:=by
 unfold word at h;rw [Bool.and_eq_true,decide_eq_true_eq]at h;obtain⟨h1,h2,h3⟩:=h;refine⟨fun b hb=>?_,by intro e;rw [e]at h2;exact absurd h2 (by decide),by omega⟩;have:=a4w (List.all_eq_true.1 h1 b hb);exact⟨this.2.2.1,this.2.2.2.1,this.2.2.2.2.1,this.2.2.2.2.2.1,this.2.2.2.2.2.2.2⟩
theorem d1w {t:List UInt8} {x:UInt8} (h:t.getLast?=some x):x∈t:=List.mem_of_getLast? h
theorem head_mem {t:List UInt8} {x:UInt8} (h:t.head?=some x):x∈t:=List.mem_of_head? h
theorem c2t (m:List UInt8):kindOf (123::(m++[125]))=if m=[] then (1,[123,125]) else inner m:=by
 cases m with
 |nil=>rfl
 |cons a l=>
  rw [if_neg (by simp)];unfold kindOf;have e1:(123::(a::l++[125])).length=l.length+3:=by simp
  have e2:(123::(a::l++[125])).getLast?=some 125:=by rw [←List.cons_append,List.getLast?_append];rfl
  have e3:((123::(a::l++[125])).drop 1).take ((123::(a::l++[125])).length-2)=a::l:=by
   rw [e1]
   show (a::l++[125]).take (l.length+1)=a::l
   rw [show l.length+1=(a::l).length from rfl,List.take_left]
  rw [if_neg,e3];rw [e1,e2];simp
theorem b2j {t:List UInt8} (h:word t=true) (x:UInt8) (hx:x=123∨x=125∨x=94∨x=38∨x=62):¬t.head?=some x:=by
 intro e;have:=(a5d h).1 x (head_mem e)
 rcases hx with rfl|rfl|rfl|rfl|rfl<;>simp at this
theorem c6v {t:List UInt8} (h:word t=true) (x:UInt8) (hx:x=123∨x=125∨x=94∨x=38∨x=62):¬t.getLast?=some x:=by
 intro e;have:=(a5d h).1 x (d1w e)
 rcases hx with rfl|rfl|rfl|rfl|rfl<;>simp at this
theorem b8a {k:Int} {t:List UInt8} (h:atom k t=true):kindOf (note k t)=(k,t):=by
 unfold atom at h
 split at h
 ·rename_i hk
  obtain⟨hb,hne,hl⟩:=a5d h;have hk5:k=1∨k=2∨k=3∨k=4∨k=5:=by omega
  rcases hk5 with rfl|rfl|rfl|rfl|rfl
  ·show kindOf t=(1,t)
   unfold kindOf;rw [if_pos];have:=b2j h 123 (.inl rfl);simp [this]
  ·show kindOf (123::(94::t++[125]))=(2,t)
   rw [c2t,if_neg (by simp)]
   have hlast:(94::t).getLast?≠some 94:=by
    cases t with
    |nil=>exact absurd rfl hne
    |cons a l=>rw [List.getLast?_cons_cons];exact c6v h 94 (by simp)
   unfold inner;simp [hlast]
  ·show kindOf (123::(t++[94,125]))=(3,t)
   rw [show t++[94,125]=(t++[94])++[125] by simp,c2t,if_neg (by simp)];have h1:(t++[94]).getLast?=some 94:=by simp
   have h2:(t++[94]).head?=t.head?:=by cases t with|nil=>exact absurd rfl hne|cons a l=>rfl
   have h3:=b2j h 38 (by simp);have h4:=b2j h 94 (by simp)
   have nl:∀(l:List UInt8) (x:UInt8),x≠94→(t++[94]==l++[x])=false:=by
    intro l x hx;rw [beq_eq_false_iff_ne];intro e;have:=(List.append_inj' e rfl).2;injection this with this;exact hx this.symm
   unfold inner;have n0:(t++[94]==[45,124])=false:=nl [45] 124 (by decide);have n1:(t++[94]==[62])=false:=nl [] 62 (by decide);have n2:(t++[94]==[42,45,124])=false:=nl [42,45] 124 (by decide);have n3:(t++[94]==[46])=false:=nl [] 46 (by decide);have n4:(t++[94]==[33])=false:=nl [] 33 (by decide);have n5:(t++[94]==[63])=false:=nl [] 63 (by decide);have n6:(t++[94]==[44])=false:=nl [] 44 (by decide);have n7:(t++[94]==[59])=false:=nl [] 59 (by decide);have n8:(t++[94]==[58])=false:=nl [] 58 (by decide);rw [n0,n1,n2,n3,n4,n5,n6,n7,n8,h1,h2];simp [h3,h4]
  ·show kindOf (123::94::(t++[94,125]))=(4,t)
   rw [show 94::(t++[94,125])=(94::(t++[94]))++[125] by simp,c2t,if_neg (by simp)];have h1:(94::(t++[94])).getLast?=some 94:=by rw [←List.cons_append,List.getLast?_append];rfl
   have h5:2<(94::(t++[94])).length:=by
    have:=List.length_pos_iff.2 hne;simp;omega
   have h6:((94::(t++[94])).drop 1).take ((94::(t++[94])).length-2)=t:=by
    rw [show (94::(t++[94])).length-2=t.length by simp]
    show (t++[94]).take t.length=t
    rw [List.take_left]
   unfold inner;rw [h6,h1];simp [hne]
  ·show kindOf (123::(38::t++[125]))=(5,t)
   rw [c2t,if_neg (by simp)];unfold inner;simp
 ·split at h
  ·rename_i hk;subst hk
   simp only [Bool.or_eq_true,beq_iff_eq]at h
   rcases h with rfl|rfl|rfl<;>decide
  ·split at h
   ·rename_i hk;subst hk
    simp only [Bool.or_eq_true,beq_iff_eq]at h
    rcases h with rfl|rfl|rfl<;>decide
   ·rw [Bool.and_eq_true,decide_eq_true_eq,beq_iff_eq]at h;obtain⟨h1,rfl⟩:=h;have:k=8∨k=9∨k=10:=by omega
    rcases this with rfl|rfl|rfl<;>decide
theorem b1f (cs:List UInt8):∀(x t:List UInt8),(∀b∈x,b∈cs)→(x++t).dropWhile (cs.contains ·)=t.dropWhile (cs.contains ·)
 |[],_,_=>rfl
 |a::x,t,h=>by
  rw [List.cons_append,List.dropWhile_cons_of_pos (by simpa using h a (by simp))];exact b1f cs x t (fun b hb=>h b (by simp [hb]))
theorem c5o (cs:List UInt8):∀(t:List UInt8),(∀b∈t,b∉cs)→t.dropWhile (cs.contains ·)=t
 |[],_=>rfl
 |a::t,h=>by rw [List.dropWhile_cons_of_neg (by simpa using h a (by simp))]
theorem d0m (cs x t y:List UInt8) (hx:∀b∈x,b∈cs) (hy:∀b∈y,b∈cs) (ht:∀b∈t,b∉cs):Go.Lib.trimS (x++t++y) cs=t:=by
 unfold Go.Lib.trimS Go.Lib.trimLeftS Go.Lib.trimRightS;rw [List.reverse_append,b1f cs _ _ (by intro b hb;exact hy b (by simpa using hb)),List.reverse_append]
 cases t with
 |nil=>
  have:=b1f cs x.reverse [] (by intro b hb;exact hx b (by simpa using hb));rw [List.append_nil]at this;simp only [List.reverse_nil,List.nil_append];rw [this];rfl
 |cons a l=>
  have h1:(((a::l).reverse++x.reverse).dropWhile (cs.contains ·))=(a::l).reverse++x.reverse:=by
   obtain⟨q,z,hq⟩:∃q z,a::l=q++[z]:=⟨(a::l).dropLast,(a::l).getLast (by simp),(List.dropLast_concat_getLast (by simp)).symm⟩;rw [hq,List.reverse_append];have hz:z∉cs:=ht z (by rw [hq];simp)
   show (z::(q.reverse++x.reverse)).dropWhile _=_
   rw [List.dropWhile_cons_of_neg (by simpa using hz)];rfl
  rw [h1,List.reverse_append,List.reverse_reverse,List.reverse_reverse,b1f cs _ _ hx];exact c5o cs _ ht
theorem a8v {k:Int} {t:List UInt8} (h:atom k t=true):(Go.Lib.trimS (note k t) [123,125,94,38]=t∨t=[])∧(note k t).length≤24∧1≤k∧k≤10:=by
 unfold atom at h
 split at h
 ·rename_i hk
  obtain⟨hb,hne,hl⟩:=a5d h
  have ht:∀b∈t,b∉([123,125,94,38]:List UInt8):=by
   intro b hbt hm;have:=hb b hbt;simp only [List.mem_cons,List.not_mem_nil,or_false]at hm
   rcases hm with rfl|rfl|rfl|rfl<;>simp at this
  have hk5:k=1∨k=2∨k=3∨k=4∨k=5:=by omega
  have key:∀x y:List UInt8,(∀b∈x,b∈([123,125,94,38]:List UInt8))→(∀b∈y,b∈([123,125,94,38]:List UInt8))→Go.Lib.trimS (x++t++y) [123,125,94,38]=t:=fun x y hx hy=>d0m _ x t y hx hy ht
  rcases hk5 with rfl|rfl|rfl|rfl|rfl
  ·refine⟨.inl ?_,by show t.length≤24;omega,by decide,by decide⟩;have:=key [] [] (by simp) (by simp)
   show Go.Lib.trimS (t) [123,125,94,38]=t
   simpa using this
  ·refine⟨.inl ?_,by show (123::94::(t++[125])).length≤24;simp;omega,by decide,by decide⟩;have:=key [123,94] [125] (by decide) (by decide)
   show Go.Lib.trimS (123::94::(t++[125])) [123,125,94,38]=t
   simpa using this
  ·refine⟨.inl ?_,by show (123::(t++[94,125])).length≤24;simp;omega,by decide,by decide⟩;have:=key [123] [94,125] (by decide) (by decide)
   show Go.Lib.trimS (123::(t++[94,125])) [123,125,94,38]=t
   simpa using this
  ·refine⟨.inl ?_,by show (123::94::(t++[94,125])).length≤24;simp;omega,by decide,by decide⟩;have:=key [123,94] [94,125] (by decide) (by decide)
   show Go.Lib.trimS (123::94::(t++[94,125])) [123,125,94,38]=t
   simpa using this
  ·refine⟨.inl ?_,by show (123::38::(t++[125])).length≤24;simp;omega,by decide,by decide⟩;have:=key [123,38] [125] (by decide) (by decide)
   show Go.Lib.trimS (123::38::(t++[125])) [123,125,94,38]=t
   simpa using this
 ·split at h
  ·rename_i hk;subst hk
   simp only [Bool.or_eq_true,beq_iff_eq]at h
   rcases h with rfl|rfl|rfl<;>exact⟨.inl (by decide),by decide,by decide,by decide⟩
  ·split at h
   ·rename_i hk;subst hk
    simp only [Bool.or_eq_true,beq_iff_eq]at h
    rcases h with rfl|rfl|rfl<;>exact⟨.inl (by decide),by decide,by decide,by decide⟩
   ·rw [Bool.and_eq_true,decide_eq_true_eq,beq_iff_eq]at h;obtain⟨h1,rfl⟩:=h;have:k=8∨k=9∨k=10:=by omega
    rcases this with rfl|rfl|rfl<;>exact⟨.inr rfl,by decide,by decide,by decide⟩
theorem c6n {s:List UInt8} {k:Int} {t:List UInt8} (h1:1≤k) (h2:k≤10) (ht:Go.Lib.trimS s [123,125,94,38]=t∨t=[]):(k,t)∈tries s:=by
 unfold tries;rw [List.mem_flatMap];refine⟨k,?_,?_⟩
 ·have:k=1∨k=2∨k=3∨k=4∨k=5∨k=6∨k=7∨k=8∨k=9∨k=10:=by omega
  rcases this with rfl|rfl|rfl|rfl|rfl|rfl|rfl|rfl|rfl|rfl<;>simp
 ·rcases ht with rfl|rfl<;>simp
theorem d2x (s:List UInt8):c6u s=a0n s:=by
 unfold c6u a0n
 cases hf:(tries s).find? (fun a=>atom a.1 a.2&&note a.1 a.2==s) with
 |some a=>
  have h:=List.find?_some hf;simp only [Bool.and_eq_true,beq_iff_eq]at h;obtain⟨h1,h2⟩:=h;have h3:=b8a h1;have h4:=(a8v h1).2.1;rw [h2]at h3 h4;rw [if_neg (by omega),h3];simp only;rw [if_pos (by rw [h1,h2];simp)]
 |none=>
  rw [List.find?_eq_none]at hf
  have hn:¬(atom (kindOf s).1 (kindOf s).2&&note (kindOf s).1 (kindOf s).2==s)=true:=by
   intro h;rw [Bool.and_eq_true,beq_iff_eq]at h;obtain⟨h1,h2⟩:=h;obtain⟨h3,_,h4,h5⟩:=a8v h1;rw [h2]at h3;exact hf _ (c6n h4 h5 h3) (by simp only [h1,h2];simp)
  rw [if_neg hn];simp only
  split<;>rfl
end P
end
section
namespace P
theorem c9v {l:List UInt8} {b:UInt8} (h:∀x∈l,x≠b):Go.Lib.indexByte l b = -1:=by
 induction l with
 |nil=>rfl
 |cons a l ih=>
  unfold Go.Lib.indexByte;rw [if_neg (by simpa using h a (by simp)),ih (fun x hx=>h x (by simp [hx]))];rfl
theorem c9n {l:List UInt8} {b:UInt8} (h:b∈l):0≤Go.Lib.indexByte l b:=by
 induction l with
 |nil=>cases h
 |cons a l ih=>
  unfold Go.Lib.indexByte
  by_cases e:a=b
  ·rw [if_pos (by simpa using e)];decide
  ·rw [if_neg (by simpa using e)]
   have h2:b∈l:=by
    rcases List.mem_cons.1 h with h|h
    ·exact absurd h.symm e
    ·exact h
   have:=ih h2;rw [if_neg (by simp;omega)];omega
theorem d0o (b:UInt8) (h1:33≤b.toNat) (h2:b.toNat≤126):a2i b=!decide (0≤Go.Lib.indexByte [123,125,94,38,35,62] b):=by
 unfold a2i;rw [decide_eq_true (show 33≤(b.toNat:Int) by omega),decide_eq_true (show (b.toNat:Int)≤126 by omega)]
 by_cases hm:b∈([123,125,94,38,35,62]:List UInt8)
 ·rw [decide_eq_true (c9n hm)];simp only [List.mem_cons,List.not_mem_nil,or_false]at hm
  rcases hm with rfl|rfl|rfl|rfl|rfl|rfl<;>decide
 ·rw [c9v (fun x hx e=>hm (by rw [←e];exact hx))];simp only [List.mem_cons,List.not_mem_nil,or_false,not_or]at hm;obtain⟨a1,a2,a3,a4,a5,a6⟩:=hm;simp [a1,a2,a3,a4,a5,a6]
theorem one_of (t:List UInt8) (x y z:UInt8) (h:t.length=1):(Go.Lib.contains [x,y,z] t)=(t==[x]||(t==[y]||t==[z])):=by
 match t,h with
 |[b],_=>
  unfold Go.Lib.contains;simp only [Go.Lib.index,List.isPrefixOf]
  by_cases h1:b=x
  ·subst h1;simp
  ·by_cases h2:b=y
   ·subst h2;simp [h1]
   ·by_cases h3:b=z
    ·subst h3;simp [h1,h2]
    ·simp [h1,h2,h3]
def fmtA (k:Int) (t:List UInt8):List UInt8×Bool:=if atom k t then (note k t,true) else ([],false)
theorem c5m {k:Int} {t s:List UInt8} (h1:atom k t=true) (h2:note k t=s):a0n s=((k,t),true):=by
 have h3:=b8a h1;rw [h2]at h3;unfold a0n;rw [h3];simp only;rw [if_pos (by rw [h1,h2];simp)]
theorem c3t {s:List UInt8} (h:24<s.length):a0n s=((0,[]),false):=by
 rw [←d2x];unfold c6u;rw [if_pos h]
theorem c3w {s:List UInt8} (h:∀k:Int,1≤k→k≤10→(fmtA k (Go.Lib.trimS s [123,125,94,38])≠(s,true))∧fmtA k []≠(s,true)):a0n s=((0,[]),false):=by
 unfold a0n;rw [if_neg];intro hc;rw [Bool.and_eq_true,beq_iff_eq]at hc;obtain⟨h1,h2⟩:=hc;obtain⟨h3,_,h4,h5⟩:=a8v h1;rw [h2]at h3;have hf:fmtA (kindOf s).1 (kindOf s).2=(s,true):=by unfold fmtA;rw [h1,h2];rfl
 rcases h3 with h3|h3
 ·rw [←h3]at hf;exact (h _ h4 h5).1 hf
 ·rw [h3]at hf;exact (h _ h4 h5).2 hf
theorem c1g {k:Int} {t s:List UInt8} (h:fmtA k t=(s,true)):a0n s=((k,t),true):=by
 unfold fmtA at h
 split at h
 ·rename_i h1
  injection h with h2;exact c5m h1 h2
 ·injection h with _ h;cases h
theorem d0x (s cs:List UInt8):(Go.Lib.trimS s cs).length≤s.length:=by
 have hd:∀(p:UInt8→Bool) (l:List UInt8),(l.dropWhile p).length≤l.length:=fun p l=>by
  have:=@List.length_append _ (l.takeWhile p) (l.dropWhile p);rw [List.takeWhile_append_dropWhile]at this;omega
 unfold Go.Lib.trimS Go.Lib.trimLeftS Go.Lib.trimRightS;refine Nat.le_trans (hd _ _) ?_;rw [List.length_reverse];refine Nat.le_trans (hd _ _) ?_;rw [List.length_reverse];exact Nat.le_refl _
end P
end
section
namespace P
theorem b1i (c:UInt8):∀(n:Nat) (s:Bs),s.length≤n→Go.Lib.split s [c]=split c s
 |n,s,hn=>by
  unfold Go.Lib.split
  by_cases h:c∈s
  ·obtain⟨x,y,e,hx⟩:=a1m c s h;have hi:Go.Lib.index s [c]=(x.length:Int):=by rw [e];exact b2t c y x hx
   have hd:s.drop (x.length+[c].length)=y:=by
    rw [e,show x.length+[c].length=x.length+1 from rfl,List.drop_append,List.drop_of_length_le (by omega)];simp
   have hl:y.length+1≤n:=by rw [e]at hn;simp at hn;omega
   rw [Go.Lib.count_hit (by simp) hi,hd,Nat.add_comm 1];unfold Go.Lib.splitK;rw [if_neg (by rw [hi];simp),hi,Int.toNat_natCast,Nat.add_zero,hd];have ht:s.take x.length=x:=by rw [e,List.take_left]
   rw [ht]
   match n,hl with
   |m+1,hl=>
    have ih:=b1i c m y (by omega);unfold Go.Lib.split at ih;rw [ih,e,a5a c y x hx]
  ·have hi:=a9a c s h;rw [Go.Lib.count_miss hi,a4a c s h];rfl
def atoms:List Bs→Option (List (Int×Bs))
 |[]=>some []
 |w::ws=>if (a0n w).2 then (atoms ws).map ((a0n w).1::·) else none
def c6f (s:Bs):List (Int×Bs)×Bool:=
 if 60<s.length then ([],false) else match atoms (split 32 s) with
  |none=>([],false)
  |some l=>if 10<l.length then ([],false) else (l,true)
def a2e:List (Int×Bs)→Int
 |[]=>0
 |a::l=>((note a.1 a.2).length:Int)+a2e l
def a8e (l:List (Int×Bs)):Bool:=decide (1≤(l.length:Int)∧(l.length:Int)≤10)&&(l.all (fun a=>atom a.1 a.2)&&decide ((l.length:Int)-1+a2e l≤60))
def a0p (s:Bs):List (Int×Bs)×Bool:=
 if 60<s.length then ([],false) else match atoms (split 32 s) with
  |none=>([],false)
  |some l=>if a8e l then (l,true) else ([],false)
theorem c4b {w:Bs} (h:(a0n w).2=true):atom (a0n w).1.1 (a0n w).1.2=true∧note (a0n w).1.1 (a0n w).1.2=w:=by
 unfold a0n at h⊢
 split at h
 ·rename_i hc
  rw [if_pos hc];rw [Bool.and_eq_true,beq_iff_eq]at hc;exact hc
 ·cases h
theorem b7h:∀(ws:List Bs) (l:List (Int×Bs)),atoms ws=some l→l.all (fun a=>atom a.1 a.2)=true∧l.length=ws.length∧a2e l=((ws.map List.length).sum:Int)
 |[],l,h=>by
  injection h with h;subst h;exact⟨rfl,rfl,rfl⟩
 |w::ws,l,h=>by
  unfold atoms at h
  split at h
  ·rename_i hp
   rw [Option.map_eq_some_iff]at h;obtain⟨m,h1,rfl⟩:=h;obtain⟨i1,i2,i3⟩:=b7h ws m h1;obtain⟨j1,j2⟩:=c4b hp;refine⟨by rw [List.all_cons,i1,j1];rfl,by simp [i2],?_⟩
   show ((note (a0n w).1.1 (a0n w).1.2).length:Int)+a2e m=_
   rw [j2,i3];simp
  ·cases h
theorem a2z (c:UInt8):∀(s:Bs),((split c s).length:Int)-1+(((split c s).map List.length).sum:Int)=(s.length:Int)∧1≤(split c s).length
 |[]=>by simp [split]
 |b::l=>by
  obtain⟨h1,h2⟩:=a2z c l;unfold split
  split
  ·simp only [List.length_cons,List.map_cons,List.sum_cons,List.length_nil];omega
  ·split
   ·rename_i h3;rw [h3]at h2;simp at h2
   ·rename_i h3
    rw [h3]at h1;simp only [List.length_cons,List.map_cons,List.sum_cons]at h1⊢;omega
theorem c9x (s:Bs):c6f s=a0p s:=by
 unfold c6f a0p
 split
 ·rfl
 ·rename_i hs
  cases h:atoms (split 32 s) with
  |none=>rfl
  |some l=>
   obtain⟨h1,h2,h3⟩:=b7h _ _ h;obtain⟨h4,h5⟩:=a2z 32 s;rw [←h2]at h4 h5;rw [←h3]at h4;simp only
   by_cases h10:10<l.length
   ·rw [if_pos h10,if_neg];unfold a8e;intro hc;rw [Bool.and_eq_true,decide_eq_true_eq]at hc;omega
   ·rw [if_neg h10,if_pos];unfold a8e;rw [h1,Bool.true_and];simp only [Bool.and_eq_true,decide_eq_true_eq];omega
def a0m (n:Int):Bool:=decide (1≤n∧n≤8388607)
def a0l (o:List Int):Bool:=decide (1≤(o.length:Int)∧(o.length:Int)≤6)&&o.all a0m
def entry (e:List Int×Bs):Bool:=a0l e.1&&(a0p e.2).2
def cmp:List Int→List Int→Int
 |[],[]=>0
 |[],_::_ => -1
 |_::_,[]=>1
 |a::x,b::y=>if a<b then -1 else if b<a then 1 else cmp x y
abbrev Dic:=List (List Int×Bs)
def rising:Dic→Bool
 |[]=>true
 |[_]=>true
 |a::b::l=>decide (cmp a.1 b.1<0)&&rising (b::l)
def dic (l:Dic):Bool:=decide (l.length≤40)&&(l.all entry&&rising l)
theorem a3w:∀a:List Int,cmp a a=0
 |[]=>rfl
 |a::x=>by unfold cmp;rw [if_neg (by omega),if_neg (by omega)];exact a3w x
theorem cmp_eq:∀a b:List Int,cmp a b=0→a=b
 |[],[],_=>rfl
 |[],_::_,h=>by cases h
 |_::_,[],h=>by cases h
 |a::x,b::y,h=>by
  unfold cmp at h
  split at h
  ·cases h
  ·split at h
   ·cases h
   ·rw [cmp_eq x y h,show a=b by omega]
theorem b5h:∀a b:List Int,cmp b a =-cmp a b
 |[],[]=>rfl
 |[],_::_=>rfl
 |_::_,[]=>rfl
 |a::x,b::y=>by
  unfold cmp
  rcases Int.lt_trichotomy a b with h|h|h
  ·have h':¬b<a:=by omega
   simp only [h,h',if_true,if_false];rfl
  ·have h':¬b<a:=by omega
   have h'':¬a<b:=by omega
   simp only [h',h'',if_false];exact b5h x y
  ·have h':¬a<b:=by omega
   simp only [h,h',if_true,if_false]
theorem a4j:∀a b c:List Int,cmp a b<0→cmp b c<0→cmp a c<0
 |[],[],_,h,_=>by cases h
 |[],_::_,[],_,h=>by cases h
 |[],_::_,_::_,_,_=>(by decide:(-1:Int)<0)
 |_::_,[],_,h,_=>by cases h
 |_::_,_::_,[],_,h=>by cases h
 |a::x,b::y,c::z,h1,h2=>by
  unfold cmp at h1 h2⊢
  split at h1
  ·split at h2
   ·rw [if_pos (by omega)];decide
   ·split at h2
    ·cases h2
    ·rw [if_pos (by omega)];decide
  ·split at h1
   ·cases h1
   ·split at h2
    ·rw [if_pos (by omega)];decide
    ·split at h2
     ·cases h2
     ·rw [if_neg (by omega),if_neg (by omega)];exact a4j x y z h1 h2
end P
end
section
namespace P
abbrev Ent:=List Int×Bs
def lt (a b:Ent):Prop:=cmp a.1 b.1<0
theorem a1o:∀l:Dic,rising l=true↔l.Pairwise lt
 |[]=>by simp [rising]
 |[_]=>by simp [rising]
 |a::b::l=>by
  unfold rising;rw [Bool.and_eq_true,decide_eq_true_eq,a1o (b::l),List.pairwise_cons (a:=a) (l:=b::l)]
  constructor
  ·rintro⟨h1,h2⟩;refine⟨fun x hx=>?_,h2⟩
   rcases List.mem_cons.1 hx with rfl|hx
   ·exact h1
   ·exact a4j _ _ _ h1 ((List.pairwise_cons.1 h2).1 x hx)
  ·rintro⟨h1,h2⟩;exact⟨h1 b (by simp),h2⟩
theorem lt_irrefl (a:Ent):¬lt a a:=by unfold lt;rw [a3w];decide
theorem lt_asymm {a b:Ent} (h:lt a b):¬lt b a:=fun h'=>lt_irrefl a (a4j _ _ _ h h')
theorem b4v:∀(a b:Dic),a.Pairwise lt→b.Pairwise lt→(∀x,x∈a↔x∈b)→a=b
 |[],[],_,_,_=>rfl
 |[],y::b,_,_,h=>by have:=(h y).2 (by simp);simp at this
 |x::a,[],_,_,h=>by have:=(h x).1 (by simp);simp at this
 |x::a,y::b,ha,hb,h=>by
  rw [List.pairwise_cons]at ha hb
  have hxy:x=y:=by
   rcases List.mem_cons.1 ((h x).1 (by simp)) with e|e
   ·exact e
   ·rcases List.mem_cons.1 ((h y).2 (by simp)) with e'|e'
    ·exact e'.symm
    ·exact absurd (hb.1 x e) (lt_asymm (ha.1 y e'))
  subst hxy
  congr 1
  refine b4v a b ha.2 hb.2 fun z=>?_
  constructor
  ·intro hz
   rcases List.mem_cons.1 ((h z).1 (by simp [hz])) with e|e
   ·rw [e]at hz;exact absurd (ha.1 x hz) (lt_irrefl x)
   ·exact e
  ·intro hz
   rcases List.mem_cons.1 ((h z).2 (by simp [hz])) with e|e
   ·rw [e]at hz;exact absurd (hb.1 x hz) (lt_irrefl x)
   ·exact e
def del (o:List Int) (l:Dic):Dic:=l.filter fun x=>!(x.1==o)
def putF (e:Ent):Bool→Dic→Dic
 |put,[]=>if put then [] else [e]
 |put,x::l=>(if decide (0≤cmp x.1 e.1)&&!put then [e] else [])++((if decide (cmp x.1 e.1=0) then [] else [x])++putF e (put||decide (0≤cmp x.1 e.1)) l)
theorem a8i {o:List Int} {l:Dic} {x:Ent}:x∈del o l↔x∈l∧x.1≠o:=by
 unfold del;rw [List.mem_filter];simp
theorem b3p (e:Ent):∀l:Dic,putF e true l=del e.1 l
 |[]=>rfl
 |x::l=>by
  unfold putF;rw [Bool.not_true,Bool.and_false,if_neg (by decide),Bool.true_or,b3p e l];unfold del
  by_cases h:x.1=e.1
  ·rw [List.filter_cons_of_neg (by simp [h]),if_pos (by rw [h,a3w];decide)];rfl
  ·rw [List.filter_cons_of_pos (by simp [h]),if_neg (by simp;exact fun h'=>h (cmp_eq _ _ h'))];rfl
theorem a4r (e:Ent):∀(l:Dic) (x:Ent),x∈putF e false l↔x=e∨x∈del e.1 l
 |[],x=>by simp [putF,del]
 |y::l,x=>by
  unfold putF;rw [Bool.not_false,Bool.and_true,Bool.false_or]
  by_cases h0:0≤cmp y.1 e.1
  ·rw [decide_eq_true h0,if_pos rfl,b3p]
   by_cases h1:y.1=e.1
   ·rw [if_pos (by rw [h1,a3w];decide)];unfold del;rw [List.filter_cons_of_neg (by simp [h1])];simp
   ·rw [if_neg (by simp;exact fun h'=>h1 (cmp_eq _ _ h'))];unfold del;rw [List.filter_cons_of_pos (by simp [h1])];simp
  ·have h1:y.1≠e.1:=fun h=>h0 (by rw [h,a3w];decide);rw [decide_eq_false h0,if_neg (by decide),if_neg (by simp;exact fun h'=>h1 (cmp_eq _ _ h'))];simp only [List.nil_append,List.cons_append,List.mem_cons];rw [a4r e l x]
   have:x∈del e.1 (y::l)↔x=y∨x∈del e.1 l:=by
    unfold del;rw [List.filter_cons_of_pos (by simp [h1])];simp
   rw [this]
   constructor
   ·rintro (h|h|h)
    ·exact .inr (.inl h)
    ·exact .inl h
    ·exact .inr (.inr h)
   ·rintro (h|h|h)
    ·exact .inr (.inl h)
    ·exact .inl h
    ·exact .inr (.inr h)
theorem d5d {a b:List Int} (h0:0≤cmp a b) (hne:a≠b):cmp b a<0:=by
 have:=b5h a b;have h1:cmp a b≠0:=fun h=>hne (cmp_eq _ _ h);omega
theorem a5u (e:Ent):∀l:Dic,l.Pairwise lt→(putF e false l).Pairwise lt
 |[],_=>by simp [putF]
 |y::l,h=>by
  rw [List.pairwise_cons]at h;have hd:(del e.1 l).Pairwise lt:=List.Pairwise.filter _ h.2;unfold putF;rw [Bool.not_false,Bool.and_true,Bool.false_or]
  by_cases h0:0≤cmp y.1 e.1
  ·rw [decide_eq_true h0,if_pos rfl,b3p]
   by_cases h1:y.1=e.1
   ·rw [if_pos (by rw [h1,a3w];decide)]
    show (e::del e.1 l).Pairwise lt
    rw [List.pairwise_cons];refine⟨fun x hx=>?_,hd⟩;have:=h.1 x (a8i.1 hx).1;unfold lt at this⊢;rw [←h1];exact this
   ·rw [if_neg (by simp;exact fun h'=>h1 (cmp_eq _ _ h'))];have hey:lt e y:=d5d h0 h1
    show (e::y::del e.1 l).Pairwise lt
    rw [List.pairwise_cons,List.pairwise_cons];refine⟨fun x hx=>?_,fun x hx=>h.1 x (a8i.1 hx).1,hd⟩
    rcases List.mem_cons.1 hx with rfl|hx
    ·exact hey
    ·exact a4j _ _ _ hey (h.1 x (a8i.1 hx).1)
  ·have h1:y.1≠e.1:=fun h=>h0 (by rw [h,a3w];decide);rw [decide_eq_false h0,if_neg (by decide),if_neg (by simp;exact fun h'=>h1 (cmp_eq _ _ h'))]
   show (y::putF e false l).Pairwise lt
   rw [List.pairwise_cons];refine⟨fun x hx=>?_,a5u e l h.2⟩
   rcases (a4r e l x).1 hx with rfl|hx
   ·show cmp y.1 x.1<0;omega
   ·exact h.1 x (a8i.1 hx).1
theorem c3l {o:List Int} {l:Dic} (hl:rising l=true):rising (del o l)=true:=
 (a1o _).2 (List.Pairwise.filter _ ((a1o l).1 hl))
theorem c4d {e:Ent} {l:Dic} (he:entry e=true) (hl:l.all entry=true):(putF e false l).all entry=true:=by
 rw [List.all_eq_true]at hl⊢;intro x hx
 rcases (a4r e l x).1 hx with rfl|hx
 ·exact he
 ·exact hl x (a8i.1 hx).1
end P
end
end Go.Proofs.YtggfdnopminemaaGreatDoor
