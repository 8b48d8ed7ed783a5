/- Plain: the notations of. -/
import Derived.Test.YtggfdnopminemaaGreatDoorPlainLog
import Derived.Test.YtggfdnopminemaaGreatDoorD0
set_option linter.all false
namespace Go.Proofs.YtggfdnopminemaaGreatDoor
open Go.Proofs.Tryz
variable {p:Go.Addr} {l:List Int} {cap g n o:Nat} {ad:Option Go.Addr} {u:Go.Value} {a v v' w w':Go.World}
namespace P
def a2z (b:UInt8):Bool:=decide (33<=(b.toNat:Int))&&decide ((b.toNat:Int)<=126)&&!(b==123)&&!(b==125)&&!(b==94)&&!(b==38)&&!(b==35)&&!(b==62)
def word (t:List UInt8):Bool:=t.all a2z&&decide (1<=(t.length:Int)/\(t.length:Int)<=20)
def atom (k:Int) (t:List UInt8):Bool:=
 if 1<=k/\k<=5 then word t
 else if k=6 then t==[46]||(t==[33]||t==[63])
 else if k=7 then t==[44]||(t==[59]||t==[58])
 else decide (8<=k/\k<=10)&&t==[]
def note (k:Int) (t:List UInt8):List UInt8:=
 if k=1 then t
 else if k=2 then 123::94::(t++[125])
 else if k=3 then 123::(t++[94,125])
 else if k=4 then 123::94::(t++[94,125])
 else if k=5 then 123::38::(t++[125])
 else if k=8 then [123,45,124,125]
 else if k=9 then [123,62,125]
 else if k=10 then [123,42,45,124,125]
 else 123::(t++[125])
def inner (m:List UInt8):Int×List UInt8:=
 if m==[45,124] then (8,[])
 else if m==[62] then (9,[])
 else if m==[42,45,124] then (10,[])
 else if m==[46]||(m==[33]||m==[63]) then (6,m)
 else if m==[44]||(m==[59]||m==[58]) then (7,m)
 else if m.head?==some 38 then (5,m.drop 1)
 else if m.head?==some 94&&(m.getLast?==some 94&&decide (2<m.length)) then (4,(m.drop 1).take (m.length-2))
 else if m.head?==some 94 then (2,m.drop 1)
 else if m.getLast?==some 94 then (3,m.take (m.length-1))
 else (0,[])
def kindOf (s:List UInt8):Int×List UInt8:=
 if s.length<3||(!(s.head?==some 123)||!(s.getLast?==some 125)) then (1,s) else inner ((s.drop 1).take (s.length-2))
def a0s (s:List UInt8):(Int×List UInt8)×Bool:=
 if atom (kindOf s).1 (kindOf s).2&&note (kindOf s).1 (kindOf s).2==s then (kindOf s,true) else ((0,[]),false)
def tries (s:List UInt8):List (Int×List UInt8):=
 [1,2,3,4,5,6,7,8,9,10].flatMap λk=>[(k,Go.Lib.trimS s [123,125,94,38]),(k,[])]
def d3u (s:List UInt8):(Int×List UInt8)×Bool:=
 if 24<s.length then ((0,[]),false) else
  match (tries s).find? (λa=>atom a.1 a.2&&note a.1 a.2==s) with
  |some a=>(a,true)
  |none=>((0,[]),false)
theorem a6j {b:UInt8} (h:a2z b=true):33<=b.toNat/\b.toNat<=126/\b≠123/\b≠125/\b≠94/\b≠38/\b≠35/\b≠62:=by
 unfold a2z at h;simp only [Bool.and_eq_true,decide_eq_true_eq,Bool.not_eq_true',beq_eq_false_iff_ne]at h;obtain⟨⟨⟨⟨⟨⟨⟨h1,h2⟩,h3⟩,h4⟩,h5⟩,h6⟩,h7⟩,h8⟩:=h;exact⟨by omega,by omega,h3,h4,h5,h6,h7,h8⟩
theorem a7c {t:List UInt8} (h:word t=true):(∀b∈t,b≠123/\b≠125/\b≠94/\b≠38/\b≠62)/\t≠[]/\t.length<=20:=by
 unfold word at h;rw [Bool.and_eq_true,decide_eq_true_eq]at h;obtain⟨h1,h2,h3⟩:=h;refine⟨λb hb=>?_,by intro e;rw [e]at h2;exact absurd h2 dZ,by omega⟩;have:=a6j (List.all_eq_true.1 h1 b hb);exact⟨this.2.2.1,this.2.2.2.1,this.2.2.2.2.1,this.2.2.2.2.2.1,this.2.2.2.2.2.2.2⟩
theorem d9c {t:List UInt8} {x:UInt8} (h:t.getLast?=some x):x∈t:=List.mem_of_getLast? h
theorem head_mem {t:List UInt8} {x:UInt8} (h:t.head?=some x):x∈t:=List.mem_of_head? h
theorem c8z (m:List UInt8):kindOf (123::(m++[125]))=if m=[] then (1,[123,125]) else inner m:=by
 cases m with
 |nil=>rfl
 |cons a l=>
  rw [if_neg sZ];unfold kindOf;have e1:(123::(a::l++[125])).length=l.length+3:=by simp
  have e2:(123::(a::l++[125])).getLast?=some 125:=by rw [<-List.cons_append,List.getLast?_append];rfl
  have e3:((123::(a::l++[125])).drop 1).take ((123::(a::l++[125])).length-2)=a::l:=by
   rw [e1]
   show (a::l++[125]).take (l.length+1)=a::l
   rw [show l.length+1=(a::l).length from rfl,List.take_left]
  rw [if_neg,e3];rw [e1,e2];simp
theorem b6o {t:List UInt8} (h:word t=true) (x:UInt8) (hx:x=123\/x=125\/x=94\/x=38\/x=62):¬t.head?=some x:=by
 intro e;have:=(a7c h).1 x (head_mem e)
 rcases hx with rfl|rfl|rfl|rfl|rfl<;>simp at this
theorem d4n {t:List UInt8} (h:word t=true) (x:UInt8) (hx:x=123\/x=125\/x=94\/x=38\/x=62):¬t.getLast?=some x:=by
 intro e;have:=(a7c h).1 x (d9c e)
 rcases hx with rfl|rfl|rfl|rfl|rfl<;>simp at this
theorem c4g {k:Int} {t:List UInt8} (h:atom k t=true):kindOf (note k t)=(k,t):=by
 unfold atom at h
 split at h
 .rename_i hk
  obtain⟨hb,hne,hl⟩:=a7c h;have hk5:k=1\/k=2\/k=3\/k=4\/k=5:=by omega
  rcases hk5 with rfl|rfl|rfl|rfl|rfl
  .show kindOf t=(1,t)
   unfold kindOf;rw [if_pos];have:=b6o h 123 (.inl rfl);simp [this]
  .show kindOf (123::(94::t++[125]))=(2,t)
   rw [c8z,if_neg sZ]
   have hlast:(94::t).getLast?≠some 94:=by
    cases t with
    |nil=>exact absurd rfl hne
    |cons a l=>rw [List.getLast?_cons_cons];exact d4n h 94 sZ
   unfold inner;simp [hlast]
  .show kindOf (123::(t++[94,125]))=(3,t)
   rw [show t++[94,125]=(t++[94])++[125] by simp,c8z,if_neg sZ];have h1:(t++[94]).getLast?=some 94:=by simp
   have h2:(t++[94]).head?=t.head?:=by cases t with|nil=>exact absurd rfl hne|cons a l=>rfl
   have h3:=b6o h 38 sZ;have h4:=b6o h 94 sZ
   have nl:∀(l:List UInt8) (x:UInt8),x≠94->(t++[94]==l++[x])=false:=by
    intro l x hx;rw [beq_eq_false_iff_ne];intro e;have:=(List.append_inj' e rfl).2;injection this with this;exact hx this.symm
   unfold inner;have n0:(t++[94]==[45,124])=false:=nl [45] 124 dZ;have n1:(t++[94]==[62])=false:=nl [] 62 dZ;have n2:(t++[94]==[42,45,124])=false:=nl [42,45] 124 dZ;have n3:(t++[94]==[46])=false:=nl [] 46 dZ;have n4:(t++[94]==[33])=false:=nl [] 33 dZ;have n5:(t++[94]==[63])=false:=nl [] 63 dZ;have n6:(t++[94]==[44])=false:=nl [] 44 dZ;have n7:(t++[94]==[59])=false:=nl [] 59 dZ;have n8:(t++[94]==[58])=false:=nl [] 58 dZ;rw [n0,n1,n2,n3,n4,n5,n6,n7,n8,h1,h2];simp [h3,h4]
  .show kindOf (123::94::(t++[94,125]))=(4,t)
   rw [show 94::(t++[94,125])=(94::(t++[94]))++[125] by simp,c8z,if_neg sZ];have h1:(94::(t++[94])).getLast?=some 94:=by rw [<-List.cons_append,List.getLast?_append];rfl
   have h5:2<(94::(t++[94])).length:=by
    have:=List.length_pos_iff.2 hne;simp;omega
   have h6:((94::(t++[94])).drop 1).take ((94::(t++[94])).length-2)=t:=by
    rw [show (94::(t++[94])).length-2=t.length by simp]
    show (t++[94]).take t.length=t
    rw [List.take_left]
   unfold inner;rw [h6,h1];simp [hne]
  .show kindOf (123::(38::t++[125]))=(5,t)
   rw [c8z,if_neg sZ];unfold inner;simp
 .split at h
  .rename_i hk;subst hk
   simp only [Bool.or_eq_true,beq_iff_eq]at h
   rcases h with rfl|rfl|rfl<;>decide
  .split at h
   .rename_i hk;subst hk
    simp only [Bool.or_eq_true,beq_iff_eq]at h
    rcases h with rfl|rfl|rfl<;>decide
   .rw [Bool.and_eq_true,decide_eq_true_eq,beq_iff_eq]at h;obtain⟨h1,rfl⟩:=h;have:k=8\/k=9\/k=10:=by omega
    rcases this with rfl|rfl|rfl<;>decide
theorem b5j (cs:List UInt8):∀(x t:List UInt8),(∀b∈x,b∈cs)->(x++t).dropWhile (cs.contains ·)=t.dropWhile (cs.contains ·)
 |[],_,_=>rfl
 |a::x,t,h=>by
  rw [List.cons_append,List.dropWhile_cons_of_pos (by simpa using h a sZ)];exact b5j cs x t (λb hb=>h b (by simp [hb]))
theorem d3w (cs:List UInt8):∀(t:List UInt8),(∀b∈t,b∉cs)->t.dropWhile (cs.contains ·)=t
 |[],_=>rfl
 |a::t,h=>by rw [List.dropWhile_cons_of_neg (by simpa using h a sZ)]
theorem d9n (cs x t y:List UInt8) (hx:∀b∈x,b∈cs) (hy:∀b∈y,b∈cs) (ht:∀b∈t,b∉cs):Go.Lib.trimS (x++t++y) cs=t:=by
 unfold Go.Lib.trimS Go.Lib.trimLeftS Go.Lib.trimRightS;rw [List.reverse_append,b5j cs _ _ (by intro b hb;exact hy b (by simpa using hb)),List.reverse_append]
 cases t with
 |nil=>
  have:=b5j cs x.reverse [] (by intro b hb;exact hx b (by simpa using hb));rw [List.append_nil]at this;simp only [List.reverse_nil,List.nil_append];rw [this];rfl
 |cons a l=>
  have h1:(((a::l).reverse++x.reverse).dropWhile (cs.contains ·))=(a::l).reverse++x.reverse:=by
   obtain⟨q,z,hq⟩:∃q z,a::l=q++[z]:=⟨(a::l).dropLast,(a::l).getLast sZ,(List.dropLast_concat_getLast sZ).symm⟩;rw [hq,List.reverse_append];have hz:z∉cs:=ht z (by rw [hq];simp)
   show (z::(q.reverse++x.reverse)).dropWhile _=_
   rw [List.dropWhile_cons_of_neg (by simpa using hz)];rfl
  rw [h1,List.reverse_append,List.reverse_reverse,List.reverse_reverse,b5j cs _ _ hx];exact d3w cs _ ht
theorem b3i {k:Int} {t:List UInt8} (h:atom k t=true):(Go.Lib.trimS (note k t) [123,125,94,38]=t\/t=[])/\(note k t).length<=24/\1<=k/\k<=10:=by
 unfold atom at h
 split at h
 .rename_i hk
  obtain⟨hb,hne,hl⟩:=a7c h
  have ht:∀b∈t,b∉([123,125,94,38]:List UInt8):=by
   intro b hbt hm;have:=hb b hbt;simp only [List.mem_cons,List.not_mem_nil,or_false]at hm
   rcases hm with rfl|rfl|rfl|rfl<;>simp at this
  have hk5:k=1\/k=2\/k=3\/k=4\/k=5:=by omega
  have key:∀x y:List UInt8,(∀b∈x,b∈([123,125,94,38]:List UInt8))->(∀b∈y,b∈([123,125,94,38]:List UInt8))->Go.Lib.trimS (x++t++y) [123,125,94,38]=t:=λx y hx hy=>d9n _ x t y hx hy ht
  rcases hk5 with rfl|rfl|rfl|rfl|rfl
  .refine⟨.inl ?_,by show t.length<=24;omega,by decide,by decide⟩;have:=key [] [] sZ sZ
   show Go.Lib.trimS (t) [123,125,94,38]=t
   simpa using this
  .refine⟨.inl ?_,by show (123::94::(t++[125])).length<=24;simp;omega,by decide,by decide⟩;have:=key [123,94] [125] dZ dZ
   show Go.Lib.trimS (123::94::(t++[125])) [123,125,94,38]=t
   simpa using this
  .refine⟨.inl ?_,by show (123::(t++[94,125])).length<=24;simp;omega,by decide,by decide⟩;have:=key [123] [94,125] dZ dZ
   show Go.Lib.trimS (123::(t++[94,125])) [123,125,94,38]=t
   simpa using this
  .refine⟨.inl ?_,by show (123::94::(t++[94,125])).length<=24;simp;omega,by decide,by decide⟩;have:=key [123,94] [94,125] dZ dZ
   show Go.Lib.trimS (123::94::(t++[94,125])) [123,125,94,38]=t
   simpa using this
  .refine⟨.inl ?_,by show (123::38::(t++[125])).length<=24;simp;omega,by decide,by decide⟩;have:=key [123,38] [125] dZ dZ
   show Go.Lib.trimS (123::38::(t++[125])) [123,125,94,38]=t
   simpa using this
 .split at h
  .exact zq148
  .split at h
   .exact zq148
   .rw [Bool.and_eq_true,decide_eq_true_eq,beq_iff_eq]at h;obtain⟨h1,rfl⟩:=h;have:k=8\/k=9\/k=10:=by omega
    rcases this with rfl|rfl|rfl<;>exact⟨.inr rfl,by decide,by decide,by decide⟩
theorem d6v {s:List UInt8} {k:Int} {t:List UInt8} (h1:1<=k) (h2:k<=10) (ht:Go.Lib.trimS s [123,125,94,38]=t\/t=[]):(k,t)∈tries s:=by
 unfold tries;rw [List.mem_flatMap];refine⟨k,?_,?_⟩
 .have:k=1\/k=2\/k=3\/k=4\/k=5\/k=6\/k=7\/k=8\/k=9\/k=10:=by omega
  rcases this with rfl|rfl|rfl|rfl|rfl|rfl|rfl|rfl|rfl|rfl<;>simp
 .rcases ht with rfl|rfl<;>simp
theorem d8p (s:List UInt8):d3u s=a0s s:=by
 unfold d3u a0s
 cases hf:(tries s).find? (λa=>atom a.1 a.2&&note a.1 a.2==s) with
 |some a=>
  have h:=List.find?_some hf;simp only [Bool.and_eq_true,beq_iff_eq]at h;obtain⟨h1,h2⟩:=h;have h3:=c4g h1;have h4:=(b3i h1).2.1;rw [h2]at h3 h4;rw [if_neg oZ,h3];simp only;rw [if_pos (by rw [h1,h2];simp)]
 |none=>
  rw [List.find?_eq_none]at hf
  have hn:¬(atom (kindOf s).1 (kindOf s).2&&note (kindOf s).1 (kindOf s).2==s)=true:=by
   intro h;rw [Bool.and_eq_true,beq_iff_eq]at h;obtain⟨h1,h2⟩:=h;obtain⟨h3,_,h4,h5⟩:=b3i h1;rw [h2]at h3;exact hf _ (d6v h4 h5 h3) (by simp only [h1,h2];simp)
  rw [if_neg hn];simp only
  split<;>rfl
end P
namespace P
theorem d6r {l:List UInt8} {b:UInt8} (h:∀x∈l,x≠b):Go.Lib.indexByte l b = -1:=by
 induction l with
 |nil=>rfl
 |cons a l ih=>
  unfold Go.Lib.indexByte;rw [if_neg (by simpa using h a sZ),ih (λx hx=>h x (by simp [hx]))];rfl
theorem d7v {l:List UInt8} {b:UInt8} (h:b∈l):0<=Go.Lib.indexByte l b:=by
 induction l with
 |nil=>cases h
 |cons a l ih=>
  unfold Go.Lib.indexByte
  by_cases e:a=b
  .rw [if_pos (by simpa using e)];decide
  .rw [if_neg (by simpa using e)]
   have h2:b∈l:=by
    rcases List.mem_cons.1 h with h|h
    .exact absurd h.symm e
    .exact h
   have:=ih h2;rw [if_neg (by simp;omega)];omega
theorem d8k (b:UInt8) (h1:33<=b.toNat) (h2:b.toNat<=126):a2z b=!decide (0<=Go.Lib.indexByte [123,125,94,38,35,62] b):=by
 unfold a2z;rw [decide_eq_true (show 33<=(b.toNat:Int) by omega),decide_eq_true (show (b.toNat:Int)<=126 by omega)]
 by_cases hm:b∈([123,125,94,38,35,62]:List UInt8)
 .rw [decide_eq_true (d7v hm)];simp only [List.mem_cons,List.not_mem_nil,or_false]at hm
  rcases hm with rfl|rfl|rfl|rfl|rfl|rfl<;>decide
 .rw [d6r (λx hx e=>hm (by rw [<-e];exact hx))];simp only [List.mem_cons,List.not_mem_nil,or_false,not_or]at hm;obtain⟨a1,a2,a3,a4,a5,a6⟩:=hm;simp [a1,a2,a3,a4,a5,a6]
theorem one_of (t:List UInt8) (x y z:UInt8) (h:t.length=1):(Go.Lib.contains [x,y,z] t)=(t==[x]||(t==[y]||t==[z])):=by
 match t,h with
 |[b],_=>
  unfold Go.Lib.contains;simp only [Go.Lib.index,List.isPrefixOf]
  by_cases h1:b=x
  .subst h1;simp
  .by_cases h2:b=y
   .subst h2;simp [h1]
   .by_cases h3:b=z
    .subst h3;simp [h1,h2]
    .simp [h1,h2,h3]
def fmtA (k:Int) (t:List UInt8):List UInt8×Bool:=if atom k t then (note k t,true) else ([],false)
theorem d3c {k:Int} {t s:List UInt8} (h1:atom k t=true) (h2:note k t=s):a0s s=((k,t),true):=by
 have h3:=c4g h1;rw [h2]at h3;unfold a0s;rw [h3];simp only;rw [if_pos (by rw [h1,h2];simp)]
theorem d1e {s:List UInt8} (h:24<s.length):a0s s=((0,[]),false):=by
 rw [<-d8p];unfold d3u;rw [if_pos h]
theorem d0z {s:List UInt8} (h:∀k:Int,1<=k->k<=10->(fmtA k (Go.Lib.trimS s [123,125,94,38])≠(s,true))/\fmtA k []≠(s,true)):a0s s=((0,[]),false):=by
 unfold a0s;rw [if_neg];intro hc;rw [Bool.and_eq_true,beq_iff_eq]at hc;obtain⟨h1,h2⟩:=hc;obtain⟨h3,_,h4,h5⟩:=b3i h1;rw [h2]at h3;have hf:fmtA (kindOf s).1 (kindOf s).2=(s,true):=by unfold fmtA;rw [h1,h2];rfl
 rcases h3 with h3|h3
 .rw [<-h3]at hf;exact (h _ h4 h5).1 hf
 .rw [h3]at hf;exact (h _ h4 h5).2 hf
theorem c9r {k:Int} {t s:List UInt8} (h:fmtA k t=(s,true)):a0s s=((k,t),true):=by
 unfold fmtA at h
 split at h
 .rename_i h1
  injection h with h2;exact d3c h1 h2
 .injection h with _ h;cases h
theorem d8n (s cs:List UInt8):(Go.Lib.trimS s cs).length<=s.length:=by
 have hd:∀(p:UInt8->Bool) (l:List UInt8),(l.dropWhile p).length<=l.length:=λp l=>by
  have:=@List.length_append _ (l.takeWhile p) (l.dropWhile p);rw [List.takeWhile_append_dropWhile]at this;omega
 unfold Go.Lib.trimS Go.Lib.trimLeftS Go.Lib.trimRightS;refine Nat.le_trans (hd _ _) ?_;rw [List.length_reverse];refine Nat.le_trans (hd _ _) ?_;rw [List.length_reverse];exact Nat.le_refl _
end P
namespace P
theorem b6u (c:UInt8):∀(n:Nat) (s:Bs),s.length<=n->Go.Lib.split s [c]=split c s
 |n,s,hn=>by
  unfold Go.Lib.split
  by_cases h:c∈s
  .obtain⟨x,y,e,hx⟩:=a2k c s h;have hi:Go.Lib.index s [c]=(x.length:Int):=by rw [e];exact b8a c y x hx
   have hd:s.drop (x.length+[c].length)=y:=by
    rw [e,show x.length+[c].length=x.length+1 from rfl,List.drop_append,List.drop_of_length_le oZ];simp
   have hl:y.length+1<=n:=by rw [e]at hn;simp at hn;omega
   rw [Go.Lib.count_hit sZ hi,hd,Nat.add_comm 1];unfold Go.Lib.splitK;rw [if_neg (by rw [hi];simp),hi,Int.toNat_natCast,Nat.add_zero,hd];have ht:s.take x.length=x:=by rw [e,List.take_left]
   rw [ht]
   match n,hl with
   |m+1,hl=>
    have ih:=b6u c m y oZ;unfold Go.Lib.split at ih;rw [ih,e,a6u c y x hx]
  .have hi:=b2s c s h;rw [Go.Lib.count_miss hi,a5l c s h];rfl
def atoms:List Bs->Option (List (Int×Bs))
 |[]=>some []
 |w::ws=>if (a0s w).2 then (atoms ws).map ((a0s w).1::·) else none
def d3e (s:Bs):List (Int×Bs)×Bool:=
 if 60<s.length then ([],false) else match atoms (split 32 s) with
  |none=>([],false)
  |some l=>if 10<l.length then ([],false) else (l,true)
def a3f:List (Int×Bs)->Int
 |[]=>0
 |a::l=>((note a.1 a.2).length:Int)+a3f l
def b1a (l:List (Int×Bs)):Bool:=decide (1<=(l.length:Int)/\(l.length:Int)<=10)&&(l.all (λa=>atom a.1 a.2)&&decide ((l.length:Int)-1+a3f l<=60))
def a0o (s:Bs):List (Int×Bs)×Bool:=
 if 60<s.length then ([],false) else match atoms (split 32 s) with
  |none=>([],false)
  |some l=>if b1a l then (l,true) else ([],false)
theorem b8t {w:Bs} (h:(a0s w).2=true):atom (a0s w).1.1 (a0s w).1.2=true/\note (a0s w).1.1 (a0s w).1.2=w:=by
 unfold a0s at h⊢
 split at h
 .rename_i hc
  rw [if_pos hc];rw [Bool.and_eq_true,beq_iff_eq]at hc;exact hc
 .cases h
theorem c4u:∀(ws:List Bs) (l:List (Int×Bs)),atoms ws=some l->l.all (λa=>atom a.1 a.2)=true/\l.length=ws.length/\a3f l=((ws.map List.length).sum:Int)
 |[],l,h=>by
  injection h with h;subst h;exact⟨rfl,rfl,rfl⟩
 |w::ws,l,h=>by
  unfold atoms at h
  split at h
  .rename_i hp
   rw [Option.map_eq_some_iff]at h;obtain⟨m,h1,rfl⟩:=h;obtain⟨i1,i2,i3⟩:=c4u ws m h1;obtain⟨j1,j2⟩:=b8t hp;refine⟨by rw [List.all_cons,i1,j1];rfl,by simp [i2],?_⟩
   show ((note (a0s w).1.1 (a0s w).1.2).length:Int)+a3f m=_
   rw [j2,i3];simp
  .cases h
theorem a3v (c:UInt8):∀(s:Bs),((split c s).length:Int)-1+(((split c s).map List.length).sum:Int)=(s.length:Int)/\1<=(split c s).length
 |[]=>by simp [split]
 |b::l=>by
  obtain⟨h1,h2⟩:=a3v c l;unfold split
  split
  .simp only [List.length_cons,List.map_cons,List.sum_cons,List.length_nil];omega
  .split
   .rename_i h3;rw [h3]at h2;simp at h2
   .rename_i h3
    rw [h3]at h1;simp only [List.length_cons,List.map_cons,List.sum_cons]at h1⊢;omega
theorem d9r (s:Bs):d3e s=a0o s:=by
 unfold d3e a0o
 split
 .rfl
 .rename_i hs
  cases h:atoms (split 32 s) with
  |none=>rfl
  |some l=>
   obtain⟨h1,h2,h3⟩:=c4u _ _ h;obtain⟨h4,h5⟩:=a3v 32 s;rw [<-h2]at h4 h5;rw [<-h3]at h4;simp only
   by_cases h10:10<l.length
   .rw [if_pos h10,if_neg];unfold b1a;intro hc;rw [Bool.and_eq_true,decide_eq_true_eq]at hc;omega
   .rw [if_neg h10,if_pos];unfold b1a;rw [h1,Bool.true_and];simp only [Bool.and_eq_true,decide_eq_true_eq];omega
def a0q (n:Int):Bool:=decide (1<=n/\n<=8388607)
def a0k (o:List Int):Bool:=decide (1<=(o.length:Int)/\(o.length:Int)<=6)&&o.all a0q
def entry (e:List Int×Bs):Bool:=a0k e.1&&(a0o e.2).2
def cmp:List Int->List Int->Int
 |[],[]=>0
 |[],_::_ => -1
 |_::_,[]=>1
 |a::x,b::y=>if a<b then -1 else if b<a then 1 else cmp x y
abbrev Dic:=List (List Int×Bs)
def rising:Dic->Bool
 |[]=>true
 |[_]=>true
 |a::b::l=>decide (cmp a.1 b.1<0)&&rising (b::l)
def dic (l:Dic):Bool:=decide (l.length<=40)&&(l.all entry&&rising l)
theorem a3x:∀a:List Int,cmp a a=0
 |[]=>rfl
 |a::x=>by unfold cmp;rw [if_neg oZ,if_neg oZ];exact a3x x
theorem cmp_eq:∀a b:List Int,cmp a b=0->a=b
 |[],[],_=>rfl
 |[],_::_,h=>by cases h
 |_::_,[],h=>by cases h
 |a::x,b::y,h=>by
  unfold cmp at h
  split at h
  .cases h
  .split at h
   .cases h
   .rw [cmp_eq x y h,show a=b by omega]
theorem b6b:∀a b:List Int,cmp b a =-cmp a b
 |[],[]=>rfl
 |[],_::_=>rfl
 |_::_,[]=>rfl
 |a::x,b::y=>by
  unfold cmp
  rcases Int.lt_trichotomy a b with h|h|h
  .have h':¬b<a:=by omega
   simp only [h,h',if_true,if_false];rfl
  .have h':¬b<a:=by omega
   have h'':¬a<b:=by omega
   simp only [h',h'',if_false];exact b6b x y
  .have h':¬a<b:=by omega
   simp only [h,h',if_true,if_false]
theorem a5r:∀a b c:List Int,cmp a b<0->cmp b c<0->cmp a c<0
 |[],[],_,h,_=>by cases h
 |[],_::_,[],_,h=>by cases h
 |[],_::_,_::_,_,_=>(by decide:(-1:Int)<0)
 |_::_,[],_,h,_=>by cases h
 |_::_,_::_,[],_,h=>by cases h
 |a::x,b::y,c::z,h1,h2=>by
  unfold cmp at h1 h2⊢
  split at h1
  .split at h2
   .rw [if_pos oZ];decide
   .split at h2
    .cases h2
    .rw [if_pos oZ];decide
  .split at h1
   .cases h1
   .split at h2
    .rw [if_pos oZ];decide
    .split at h2
     .cases h2
     .rw [if_neg oZ,if_neg oZ];exact a5r x y z h1 h2
end P
namespace P
abbrev Ent:=List Int×Bs
def lt (a b:Ent):Prop:=cmp a.1 b.1<0
theorem a2q:∀l:Dic,rising l=true↔l.Pairwise lt
 |[]=>by simp [rising]
 |[_]=>by simp [rising]
 |a::b::l=>by
  unfold rising;rw [Bool.and_eq_true,decide_eq_true_eq,a2q (b::l),List.pairwise_cons (a:=a) (l:=b::l)]
  constructor
  .rintro⟨h1,h2⟩;refine⟨λx hx=>?_,h2⟩
   rcases List.mem_cons.1 hx with rfl|hx
   .exact h1
   .exact a5r _ _ _ h1 ((List.pairwise_cons.1 h2).1 x hx)
  .rintro⟨h1,h2⟩;exact⟨h1 b sZ,h2⟩
theorem lt_irrefl (a:Ent):¬lt a a:=by unfold lt;rw [a3x];decide
theorem lt_asymm {a b:Ent} (h:lt a b):¬lt b a:=λh'=>lt_irrefl a (a5r _ _ _ h h')
theorem b9d:∀(a b:Dic),a.Pairwise lt->b.Pairwise lt->(∀x,x∈a↔x∈b)->a=b
 |[],[],_,_,_=>rfl
 |[],y::b,_,_,h=>by have:=(h y).2 sZ;simp at this
 |x::a,[],_,_,h=>by have:=(h x).1 sZ;simp at this
 |x::a,y::b,ha,hb,h=>by
  rw [List.pairwise_cons]at ha hb
  have hxy:x=y:=by
   rcases List.mem_cons.1 ((h x).1 sZ) with e|e
   .exact e
   .rcases List.mem_cons.1 ((h y).2 sZ) with e'|e'
    .exact e'.symm
    .exact absurd (hb.1 x e) (lt_asymm (ha.1 y e'))
  subst hxy
  congr 1
  refine b9d a b ha.2 hb.2 λz=>?_
  constructor
  .intro hz
   rcases List.mem_cons.1 ((h z).1 (by simp [hz])) with e|e
   .rw [e]at hz;exact absurd (ha.1 x hz) (lt_irrefl x)
   .exact e
  .intro hz
   rcases List.mem_cons.1 ((h z).2 (by simp [hz])) with e|e
   .rw [e]at hz;exact absurd (hb.1 x hz) (lt_irrefl x)
   .exact e
def del (o:List Int) (l:Dic):Dic:=l.filter λx=>!(x.1==o)
def putF (e:Ent):Bool->Dic->Dic
 |put,[]=>if put then [] else [e]
 |put,x::l=>(if decide (0<=cmp x.1 e.1)&&!put then [e] else [])++((if decide (cmp x.1 e.1=0) then [] else [x])++putF e (put||decide (0<=cmp x.1 e.1)) l)
theorem b0z {o:List Int} {l:Dic} {x:Ent}:x∈del o l↔x∈l/\x.1≠o:=by
 unfold del;rw [List.mem_filter];simp
theorem b6t (e:Ent):∀l:Dic,putF e true l=del e.1 l
 |[]=>rfl
 |x::l=>by
  unfold putF;rw [Bool.not_true,Bool.and_false,if_neg dZ,Bool.true_or,b6t e l];unfold del
  by_cases h:x.1=e.1
  .rw [List.filter_cons_of_neg (by simp [h]),if_pos (by rw [h,a3x];decide)];rfl
  .rw [List.filter_cons_of_pos (by simp [h]),if_neg (by simp;exact λh'=>h (cmp_eq _ _ h'))];rfl
theorem a6g (e:Ent):∀(l:Dic) (x:Ent),x∈putF e false l↔x=e\/x∈del e.1 l
 |[],x=>by simp [putF,del]
 |y::l,x=>by
  unfold putF;rw [Bool.not_false,Bool.and_true,Bool.false_or]
  by_cases h0:0<=cmp y.1 e.1
  .rw [decide_eq_true h0,if_pos rfl,b6t]
   by_cases h1:y.1=e.1
   .rw [if_pos (by rw [h1,a3x];decide)];unfold del;rw [List.filter_cons_of_neg (by simp [h1])];simp
   .rw [if_neg (by simp;exact λh'=>h1 (cmp_eq _ _ h'))];unfold del;rw [List.filter_cons_of_pos (by simp [h1])];simp
  .have h1:y.1≠e.1:=λh=>h0 (by rw [h,a3x];decide);rw [decide_eq_false h0,if_neg dZ,if_neg (by simp;exact λh'=>h1 (cmp_eq _ _ h'))];simp only [List.nil_append,List.cons_append,List.mem_cons];rw [a6g e l x]
   have:x∈del e.1 (y::l)↔x=y\/x∈del e.1 l:=by
    unfold del;rw [List.filter_cons_of_pos (by simp [h1])];simp
   rw [this]
   constructor
   .rintro (h|h|h)
    .exact .inr (.inl h)
    .exact .inl h
    .exact .inr (.inr h)
   .rintro (h|h|h)
    .exact .inr (.inl h)
    .exact .inl h
    .exact .inr (.inr h)
theorem e3k {a b:List Int} (h0:0<=cmp a b) (hne:a≠b):cmp b a<0:=by
 have:=b6b a b;have h1:cmp a b≠0:=λh=>hne (cmp_eq _ _ h);omega
theorem a7o (e:Ent):∀l:Dic,l.Pairwise lt->(putF e false l).Pairwise lt
 |[],_=>by simp [putF]
 |y::l,h=>by
  rw [List.pairwise_cons]at h;have hd:(del e.1 l).Pairwise lt:=List.Pairwise.filter _ h.2;unfold putF;rw [Bool.not_false,Bool.and_true,Bool.false_or]
  by_cases h0:0<=cmp y.1 e.1
  .rw [decide_eq_true h0,if_pos rfl,b6t]
   by_cases h1:y.1=e.1
   .rw [if_pos (by rw [h1,a3x];decide)]
    show (e::del e.1 l).Pairwise lt
    rw [List.pairwise_cons];refine⟨λx hx=>?_,hd⟩;have:=h.1 x (b0z.1 hx).1;unfold lt at this⊢;rw [<-h1];exact this
   .rw [if_neg (by simp;exact λh'=>h1 (cmp_eq _ _ h'))];have hey:lt e y:=e3k h0 h1
    show (e::y::del e.1 l).Pairwise lt
    rw [List.pairwise_cons,List.pairwise_cons];refine⟨λx hx=>?_,λx hx=>h.1 x (b0z.1 hx).1,hd⟩
    rcases List.mem_cons.1 hx with rfl|hx
    .exact hey
    .exact a5r _ _ _ hey (h.1 x (b0z.1 hx).1)
  .have h1:y.1≠e.1:=λh=>h0 (by rw [h,a3x];decide);rw [decide_eq_false h0,if_neg dZ,if_neg (by simp;exact λh'=>h1 (cmp_eq _ _ h'))]
   show (y::putF e false l).Pairwise lt
   rw [List.pairwise_cons];refine⟨λx hx=>?_,a7o e l h.2⟩
   rcases (a6g e l x).1 hx with rfl|hx
   .show cmp y.1 x.1<0;omega
   .exact h.1 x (b0z.1 hx).1
theorem d1v {o:List Int} {l:Dic} (hl:rising l=true):rising (del o l)=true:=
 (a2q _).2 (List.Pairwise.filter _ ((a2q l).1 hl))
theorem d0q {e:Ent} {l:Dic} (he:entry e=true) (hl:l.all entry=true):(putF e false l).all entry=true:=by
 rw [List.all_eq_true]at hl⊢;intro x hx
 rcases (a6g e l x).1 hx with rfl|hx
 .exact he
 .exact hl x (b0z.1 hx).1
end P
section
open Go Go.RowKit
set_option maxHeartbeats 8000000
set_option maxRecDepth 100000
theorem a1x (n lo hi:Int) (w:World) :
 Cz 74 #[.int .i64 n,.int .i64 lo,.int .i64 hi] w λe w'=>e=.returned (.bool (decide (lo<=n/\n<=hi)))/\w=w':=by
 by_cases h1:lo<=n<;>by_cases h2:n<=hi
 all_goals
  go_enter func74,ntmps74
  go_wp2
  go_ret
  exact⟨a0a (by simp [h1,h2]),rfl⟩
theorem l1In (n lo hi:Int) (w:World) :
 Cz 187 #[.int .i64 n,.int .i64 lo,.int .i64 hi] w λe w'=>e=.returned (.bool (decide (lo<=n/\n<=hi)))/\w=w':=by
 by_cases h1:lo<=n<;>by_cases h2:n<=hi
 all_goals
  go_enter func187,ntmps187
  go_wp2
  go_ret
  exact⟨a0a (by simp [h1,h2]),rfl⟩
theorem d0a (l:Str) (k:Nat) (h:k<l.length) (c:UInt8):P.has (l.take (k+1)) c=(P.has (l.take k) c||(l[k]==c)):=by
 rw [a0g l k h];simp only [P.has,List.any_append,List.any_cons,List.any_nil,Bool.or_false]
theorem e1t {l:Str} {p:UInt8->Bool} (k:Nat) (h:k<l.length) (hp:p l[k]=true):l.any p=true:=
 List.any_eq_true.2 ⟨l[k],List.getElem_mem h,hp⟩
theorem b9p {l:Str} {p:UInt8->Bool} (k:Nat) (h:k<l.length) (hp:p l[k]=false):l.all p=false:=by
 rw [List.all_eq_false];exact⟨l[k],List.getElem_mem h,by simp [hp]⟩
theorem a8d {l:Str} {p:UInt8->Bool} (k:Nat) (h:k<l.length) (ha:(l.take k).all p=true) (hp:p l[k]=true):(l.take (k+1)).all p=true:=by
 rw [a0g l k h,List.all_append,ha];simp [hp]
@[go_sem] theorem u8_eq (a b : UInt8) : ((a.toNat : Int) == (b.toNat : Int)) = (a == b) := by
 exact zq163
def IntR (v:World) (u:Value) (l:List Int):Prop:=
 ∃(ad:Option Addr) (cap:Nat),u=.slice ad l.length cap/\(l.length<=2^45/\l.length<=cap)/\(ad=none->cap=0)/\(l=[]\/∃g o,ad=some ⟨g,o,none⟩/\g<v.heap.size/\∀(j:Nat) (h:j<l.length),v.cell? ⟨g,o+j,none⟩=some (.int .i64 (l[j]'h)))
def EntR (v:World) (u:Value) (l:P.Dic):Prop:=
 ∃(ad:Option Addr) (cap:Nat),u=.slice ad l.length cap/\(l.length<=2^45/\l.length<=cap)/\(ad=none->cap=0)/\(l=[]\/∃g o,ad=some ⟨g,o,none⟩/\g<v.heap.size/\∀(j:Nat) (h:j<l.length),∃x,v.cell? ⟨g,o+j*2,none⟩=some x/\v.cell? ⟨g,o+j*2+1,none⟩=some (.string (S (l[j]'h).2))/\IntR v x (l[j]'h).1)
theorem IntR.below (h:IntR v u l) (hb:Bl v v'):IntR v' u l:=by
 obtain⟨ad,cap,h1,h2,hn,h3⟩:=h;refine⟨ad,cap,h1,h2,hn,h3.imp id ?_⟩;rintro⟨g,o,h4,h5,h6⟩;exact⟨g,o,h4,Nat.lt_of_lt_of_le h5 hb.size,λj hj=>(hb.cell (p:=⟨g,_,none⟩) h5).trans (h6 j hj)⟩
theorem EntR.below {l:P.Dic} (h:EntR v u l) (hb:Bl v v'):EntR v' u l:=by
 exact zq93
def Whole (u:Value):Prop:=u=.slice none 0 0\/∃ad n c,u=.slice (some ad) n c
theorem IntR.whole (h:IntR v u l):Whole u:=by
 exact zq126
theorem EntR.whole {l:P.Dic} (h:EntR v u l):Whole u:=by
 exact zq126
theorem IntR.at (h:IntR v (.slice ad n cap) l) (j:Nat) (hj:j<l.length):∃g o,ad=some ⟨g,o,none⟩/\g<v.heap.size/\v.cell? ⟨g,o+j,none⟩=some (.int .i64 (l[j]'hj)):=by
 obtain⟨ad',cap',he,_,_,h3⟩:=h;exact zq58
theorem EntR.at {l:P.Dic} (h:EntR v (.slice ad n cap) l) (j:Nat) (hj:j<l.length):∃g o,ad=some ⟨g,o,none⟩/\g<v.heap.size/\∃x,v.cell? ⟨g,o+j*2,none⟩=some x/\v.cell? ⟨g,o+j*2+1,none⟩=some (.string (S (l[j]'hj).2))/\IntR v x (l[j]'hj).1:=by
 obtain⟨ad',cap',he,_,_,h3⟩:=h;exact zq58
end
section
open Go Go.RowKit
set_option maxHeartbeats 8000000
abbrev Blk:=Nat->Prop
def Bet (lo hi b:Nat):Prop:=lo<=b/\b<hi
structure Chg (F:Blk) (w w':World):Prop where
 os:w'.os=w.os
 tape:w'.tape=w.tape
 output:w'.output=w.output
 size:w.heap.size<=w'.heap.size
 block:∀b,b<w.heap.size->¬F b->w'.heap[b]?=w.heap[b]?
theorem Chg.refl (F:Blk) (w:World):Chg F w w:=⟨rfl,rfl,rfl,Nat.le_refl _,λ_ _ _=>rfl⟩
theorem Chg.trans {F:Blk} {b c:World} (h:Chg F a b) (k:Chg F b c):Chg F a c:=
 ⟨k.os.trans h.os,k.tape.trans h.tape,k.output.trans h.output,Nat.le_trans h.size k.size,λi hi hf=>(k.block i (Nat.lt_of_lt_of_le hi h.size) hf).trans (h.block i hi hf)⟩
theorem Chg.mono {F F':Blk} (h:Chg F w w') (hF:∀b,b<w.heap.size->F b->F' b):Chg F' w w':=
 ⟨h.os,h.tape,h.output,h.size,λb hb hf=>h.block b hb λh'=>hf (hF b hb h')⟩
theorem Below.chg (h:Bl w w') (F:Blk):Chg F w w':=⟨h.os,h.tape,h.output,h.size,λb hb _=>h.block b hb⟩
theorem Chg.below {F:Blk} {B:Nat} (h:Chg F w w') (hB:B<=w.heap.size) (hF:∀b,F b->B<=b):Below B w w':=
 ⟨h.os,h.tape,h.output,h.size,λb hb=>h.block b (Nat.lt_of_lt_of_le hb hB) λh'=>absurd (hF b h') (Nat.not_le.2 hb)⟩
theorem Chg.drew {F:Blk} (h:Chg F a w):Chg F a w.drew:=⟨h.os,h.tape,h.output,h.size,h.block⟩
theorem Chg.alloc {F:Blk} (h:Chg F a w) (o:Obj):Chg F a (w.alloc o):=
 h.trans (Below.chg (bZ.alloc lZ o) F)
theorem Chg.setCell {F:Blk} (h:Chg F a w) (hp:F p.block) (u:Value):Chg F a (w.setCell p u):=
 h.trans ⟨rfl,rfl,rfl,by simp [World.setCell],λb _ hf=>Below.heap_setCell _ _ _ _ (by rintro rfl;exact hf hp)⟩
theorem Chg.cell {F:Blk} (h:Chg F w w') (hp:p.block<w.heap.size) (hf:¬F p.block):w'.cell? p=w.cell? p:=World.cell?_of_block (w:=w) (h.block _ hp hf)
theorem Chg.frozen {F:Blk} (h:Chg F w w') (hp:p.block<w.heap.size) (hf:¬F p.block):w'.frozen? p=w.frozen? p:=World.frozen?_of_block (w:=w) (h.block _ hp hf)
def Kept (F:Blk) (v v':World):Prop:=v.heap.size<=v'.heap.size/\∀b,F b->v'.heap[b]?=v.heap[b]?
theorem Kept.of_chg {F X:Blk} (h:Chg X v v') (hl:∀b,F b->b<v.heap.size) (hx:∀b,F b->¬X b):Kept F v v':=⟨h.size,λb hb=>h.block b (hl b hb) (hx b hb)⟩
theorem Kept.mono {F F':Blk} (h:Kept F v v') (hF:∀b,F' b->F b):Kept F' v v':=⟨h.1,λb hb=>h.2 b (hF b hb)⟩
def Cel (v:World) (g o:Nat) (cs:List Value):Prop:=∀(i:Nat) (h:i<cs.length),v.cell? ⟨g,o+i,none⟩=some (cs[i]'h)/\v.frozen? ⟨g,o+i,none⟩=false
theorem Cel.keep {cs:List Value} (h:Cel v g o cs) (hb:v'.heap[g]?=v.heap[g]?):Cel v' g o cs:=
 λi hi=>⟨(World.cell?_of_block (w:=v) (a:=⟨g,o+i,none⟩) hb).trans (h i hi).1,(World.frozen?_of_block (w:=v) (a:=⟨g,o+i,none⟩) hb).trans (h i hi).2⟩
abbrev ElT (α:Type):=World->Blk->List Value->α->Prop
structure ElOk {α:Type} (E:ElT α):Prop where
 keep:∀{v v' F cs a},E v F cs a->Kept F v v'->E v' F cs a
 wide:∀{v F F' cs a},E v F cs a->(∀b,F b->F' b)->(∀b,F' b->b<v.heap.size)->E v F' cs a
variable {α:Type} {E:ElT α} {wd:Nat}
structure RowC (wd:Nat) (E:ElT α) (v:World) (F:Blk) (g o:Nat) (G:Nat->Blk) (C:Nat->List Value) (l:List α):Prop where
 own:F g
 lt:∀b,F b->b<v.heap.size
 cel:∀j,j<l.length->Cel v g (o+j*wd) (C j)
 wid:∀j,j<l.length->(C j).length=wd
 el:∀j (h:j<l.length),E v (G j) (C j) (l[j]'h)
 sub:∀j,j<l.length->∀b,G j b->F b/\b≠g
 apart:∀i j,i<j->j<l.length->∀b,G i b->G j b->False
def RowO (wd:Nat) (E:ElT α) (v:World) (F:Blk) (u:Value) (l:List α):Prop:=
 ∃(ad:Option Addr) (cap:Nat),u=.slice ad l.length cap/\l.length<=2^30/\((ad=none->cap=0)/\l.length<=cap)/\(l=[]\/∃g o G C,ad=some ⟨g,o,none⟩/\RowC wd E v F g o G C l)
theorem RowC.keep (hE:ElOk E) {F:Blk} {G:Nat->Blk} {C:Nat->List Value} {l:List α} (h:RowC wd E v F g o G C l) (hk:Kept F v v'):RowC wd E v' F g o G C l:=
 ⟨h.own,λb hb=>Nat.lt_of_lt_of_le (h.lt b hb) hk.1,λj hj=>(h.cel j hj).keep (hk.2 _ h.own),h.wid,λj hj=>hE.keep (h.el j hj) (hk.mono λb hb=>(h.sub j hj b hb).1),h.sub,h.apart⟩
theorem RowC.wide {F F':Blk} {G:Nat->Blk} {C:Nat->List Value} {l:List α} (h:RowC wd E v F g o G C l) (hF:∀b,F b->F' b) (hl:∀b,F' b->b<v.heap.size):RowC wd E v F' g o G C l:=
 ⟨hF _ h.own,hl,h.cel,h.wid,h.el,λj hj b hb=>⟨hF _ (h.sub j hj b hb).1,(h.sub j hj b hb).2⟩,h.apart⟩
theorem RowO.keep (hE:ElOk E) {F:Blk} {l:List α} (h:RowO wd E v F u l) (hk:Kept F v v'):RowO wd E v' F u l:=by
 obtain⟨ad,cap,h1,h2,hn,h3⟩:=h;refine⟨ad,cap,h1,h2,hn,h3.imp id ?_⟩;rintro⟨g,o,G,C,h4,h5⟩;exact⟨g,o,G,C,h4,h5.keep hE hk⟩
theorem RowO.wide {F F':Blk} {l:List α} (h:RowO wd E v F u l) (hF:∀b,F b->F' b) (hl:∀b,F' b->b<v.heap.size):RowO wd E v F' u l:=by
 obtain⟨ad,cap,h1,h2,hn,h3⟩:=h;refine⟨ad,cap,h1,h2,hn,h3.imp id ?_⟩;rintro⟨g,o,G,C,h4,h5⟩;exact⟨g,o,G,C,h4,h5.wide hF hl⟩
theorem RowO.a0b (hE:ElOk E) {F X:Blk} {l:List α} (h:RowO wd E v F u l) (hc:Chg X v v') (hx:∀b,F b->¬X b):RowO wd E v' F u l:=by
 obtain⟨ad,cap,h1,h2,hn,h3⟩:=h;refine⟨ad,cap,h1,h2,hn,h3.imp id ?_⟩;rintro⟨g,o,G,C,h4,h5⟩;exact⟨g,o,G,C,h4,h5.keep hE (Kept.of_chg hc h5.lt hx)⟩
theorem RowO.below (hE:ElOk E) {F:Blk} {l:List α} (h:RowO wd E v F u l) (hb:Bl v v'):RowO wd E v' F u l:=
 h.a0b hE (Below.chg hb λ_=>False) λ_ _ h=>h
theorem RowO.nil (v:World) (F:Blk):RowO wd E v F (.slice none 0 0) ([]:List α):=⟨none,0,rfl,by simp,⟨λ_=>rfl,Nat.zero_le _⟩,.inl rfl⟩
theorem RowO.empty (v:World) (F:Blk) (a:Addr) (cap:Nat):RowO wd E v F (.slice (some a) 0 cap) ([]:List α):=⟨some a,cap,rfl,by simp,⟨(λh=>by cases h),Nat.zero_le _⟩,.inl rfl⟩
theorem RowC.mk_at {F:Blk} {l:List α} (G:Nat->Blk) (C:Nat->List Value) (h1:F g) (h2:∀b,F b->b<v.heap.size) (h3:∀j (h:j<l.length),Cel v g (o+j*wd) (C j)/\(C j).length=wd/\E v (G j) (C j) (l[j]'h)/\∀b,G j b->F b/\b≠g)
 (h4:∀i j,i<j->j<l.length->∀b,G i b->G j b->False):RowC wd E v F g o G C l:=
 ⟨h1,h2,λj hj=>(h3 j hj).1,λj hj=>(h3 j hj).2.1,λj hj=>(h3 j hj).2.2.1,λj hj=>(h3 j hj).2.2.2,h4⟩
theorem RowC.put (hE:ElOk E) {F:Blk} {G:Nat->Blk} {C:Nat->List Value} {l:List α} (h:RowC wd E v F g o G C l) (j:Nat) (hj:j<l.length) (F' G':Blk) (cs:List Value) (a:α)
 (hF:∀b,F b->F' b) (hF':∀b,F' b->b<v'.heap.size) (hsz:v.heap.size<=v'.heap.size)
 (hcs:Cel v' g (o+j*wd) cs) (hw:cs.length=wd) (ha:E v' G' cs a) (hG:∀b,G' b->F' b/\b≠g)
 (hap:∀i,i<l.length->i≠j->∀b,G i b->G' b->False)
 (hoc:∀i,i<l.length->i≠j->Cel v' g (o+i*wd) (C i))
 (hok:∀i,i<l.length->i≠j->∀b,G i b->v'.heap[b]?=v.heap[b]?) :
 RowC wd E v' F' g o (λi=>if i=j then G' else G i) (λi=>if i=j then cs else C i) (l.set j a):=by
 refine⟨hF _ h.own,hF',λi hi=>?_,λi hi=>?_,λi hi=>?_,λi hi=>?_,λi k hik hk=>?_⟩
 .rw [List.length_set]at hi
  show Cel v' g (o+i*wd) (if i=j then cs else C i)
  split
  .rename_i e;subst e;exact hcs
  .rename_i e;exact hoc i hi e
 .rw [List.length_set]at hi
  show (if i=j then cs else C i).length=wd
  split
  .exact hw
  .exact h.wid i hi
 .simp only [List.getElem_set];rw [List.length_set]at hi
  by_cases e:i=j
  .subst e;simp only [if_true];exact ha
  .have e':¬j=i:=λh=>e h.symm;simp only [e,e',if_false];exact hE.keep (h.el i hi) ⟨hsz,hok i hi e⟩
 .rw [List.length_set]at hi
  show ∀b,(if i=j then G' else G i) b->_
  split
  .exact hG
  .exact λb hb=>⟨hF _ (h.sub i hi b hb).1,(h.sub i hi b hb).2⟩
 .rw [List.length_set]at hk
  show ∀b,(if i=j then G' else G i) b->(if k=j then G' else G k) b->False
  by_cases e:i=j
  .subst e;rw [if_pos rfl,if_neg oZ];exact λb h1 h2=>hap k hk oZ b h2 h1
  .rw [if_neg e]
   by_cases e':k=j
   .subst e';rw [if_pos rfl];exact hap i oZ e
   .rw [if_neg e'];exact h.apart i k hik hk
theorem Cel.b1z {p:Nat} {cs:List Value} (h:Cel v g o cs) (hp:p<o\/o+cs.length<=p) (x:Value):Cel (v.setCell ⟨g,p,none⟩ x) g o cs:=by
 intro i hi;refine⟨?_,?_⟩
 .refine zm32 ?_;exact (h i hi).1
 .simpa using (h i hi).2
theorem Cel.c9g {cs:List Value} (h:Cel v g o cs) (i:Nat) (hi:i<cs.length) (x:Value):Cel (v.setCell ⟨g,o+i,none⟩ x) g o (cs.set i x):=by
 intro j hj;rw [List.length_set]at hj;refine⟨?_,?_⟩
 .rw [List.getElem_set]
  split
  .rename_i e;subst e;exact World.cell?_setCell_same _ _ _ (h i hi).1
  .rename_i e
   rw [World.cell?_setCell_other _ _ _ _ (by intro e';injection e';omega)];exact (h j hj).1
 .simpa using (h j hj).2
theorem c5v {wd i j:Nat} (hij:i≠j) (k:Nat) (hk:k<wd):o+j*wd+k<o+i*wd\/o+i*wd+wd<=o+j*wd+k:=by
 rcases Nat.lt_or_gt_of_ne hij with h|h
 .right
  have:=Nat.mul_le_mul_right wd (show i+1<=j by omega);rw [Nat.add_mul]at this;omega
 .left
  have:=Nat.mul_le_mul_right wd (show j+1<=i by omega);rw [Nat.add_mul]at this;omega
theorem RowC.d8s (hE:ElOk E) {F:Blk} {G:Nat->Blk} {C:Nat->List Value} {l:List α} (h:RowC wd E v F g o G C l) (j:Nat) (hj:j<l.length) (k:Nat) (hk:k<wd) (x:Value) (a:α)
 (ha:E (v.setCell ⟨g,o+j*wd+k,none⟩ x) (G j) ((C j).set k x) a) :
 RowC wd E (v.setCell ⟨g,o+j*wd+k,none⟩ x) F g o (λi=>if i=j then G j else G i) (λi=>if i=j then (C j).set k x else C i) (l.set j a):=by
 have hs:(v.setCell ⟨g,o+j*wd+k,none⟩ x).heap.size=v.heap.size:=by simp [World.setCell]
 refine h.put hE j hj F (G j) _ a (λ_ h=>h) (λb hb=>by rw [hs];exact h.lt b hb) (Nat.le_of_eq hs.symm) ((h.cel j hj).c9g k (by rw [h.wid j hj];exact hk) x) (by rw [List.length_set];exact h.wid j hj) ha (h.sub j hj) ?_ ?_ ?_
 .intro i hi hij b h1 h2
  rcases Nat.lt_or_gt_of_ne hij with e|e
  .exact h.apart i j e hj b h1 h2
  .exact h.apart j i e hi b h2 h1
 .intro i hi hij;have hw:=h.wid i hi;refine (h.cel i hi).b1z ?_ x;rw [hw];exact c5v hij k hk
 .intro i hi _ b hb;exact Below.heap_setCell _ _ _ _ (h.sub i hi b hb).2
def intE:ElT Int:=λ_ _ cs n=>cs=[.int .i64 n]
theorem a1l:ElOk intE:=⟨λh _=>h,λh _ _=>h⟩
def entE:ElT P.Ent:=λv F cs e=>∃x,cs=[x,.string (S e.2)]/\RowO 1 intE v F x e.1
theorem a0f:ElOk entE:=
 ⟨λ⟨x,h,k⟩ hk=>⟨x,h,k.keep a1l hk⟩,λ⟨x,h,k⟩ hF hl=>⟨x,h,k.wide hF hl⟩⟩
abbrev Ints:=RowO 1 intE
abbrev Ents:=RowO 2 entE
theorem Ints.read {F:Blk} (h:Ints v F u l):IntR v u l:=by
 obtain⟨ad,cap,h1,h2,hn,h3⟩:=h;refine⟨ad,cap,h1,by omega,hn.1,h3.imp id ?_⟩;rintro⟨g,o,G,C,h4,h5⟩;refine⟨g,o,h4,h5.lt _ h5.own,λj hj=>?_⟩;have he:C j=[.int .i64 l[j]]:=h5.el j hj;have hc:=(h5.cel j hj 0 (by rw [he];simp)).1;simp only [he,List.getElem_cons_zero,Nat.mul_one,Nat.add_zero]at hc;exact hc
theorem Ents.read {F:Blk} {l:P.Dic} (h:Ents v F u l):EntR v u l:=by
 obtain⟨ad,cap,h1,h2,hn,h3⟩:=h;refine⟨ad,cap,h1,by omega,hn.1,h3.imp id ?_⟩;rintro⟨g,o,G,C,h4,h5⟩;refine zm56 ?_;intro j hj x he hx hc hd;simp only [he,List.getElem_cons_zero,List.getElem_cons_succ,Nat.add_zero]at hc hd;exact⟨x,hc,hd,Ints.read hx⟩
end
section
open Go Go.RowKit
set_option maxHeartbeats 8000000
set_option maxRecDepth 100000
abbrev ints (l:List Int):List Value:=l.map (Value.int .i64)
theorem b5x {F:Blk} (h:Cel v g o (ints l)) (hF:F g) (hl:∀b,F b->b<v.heap.size) (hn:l.length<=2^30) (hcp:l.length<=cap):Ints v F (.slice (some ⟨g,o,none⟩) l.length cap) l:=by
 refine⟨_,_,rfl,hn,⟨(λh=>by cases h),hcp⟩,.inr ⟨g,o,λ_ _=>False,λj=>[.int .i64 (l[j]?.getD 0)],rfl,hF,hl,λj hj i hi=>?_,λ_ _=>rfl,λj hj=>?_,λ_ _ _ h=>h.elim,λ_ _ _ _ _ h _=>h⟩⟩
 .have hi0:i=0:=by simpa using hi
  subst hi0;have:=h j (by simpa using hj)
  simpa [List.getElem?_eq_getElem hj] using this
 .show [_]=[_]
  rw [List.getElem?_eq_getElem hj];rfl
theorem a2i:(Tryz.prog.info? 3).map (λi=>(i.zero,i.size,i.bytes))=some (some (.int .i64 0),1,8):=by kernel_rfl
def c8g (l:List Int) (w:World) (e:Ending) (w':World):Prop:=∃u,e=.returned u/\Ints w' (Bet w.heap.size w'.heap.size) u l/\Bl w w'
def e2g (l:List Int) (t:Str) (w:World) (e:Ending) (w':World):Prop:=∃u,e=.returned (.agg #[u,.string (S t)])/\Ints w' (Bet w.heap.size w'.heap.size) u l/\Bl w w'
theorem a5i:(Tryz.prog.info? 119).map (λi=>(i.zero,i.size,i.bytes))=some (some (.agg #[.slice none 0 0,.string ⟨#[]⟩]),2,40):=by kernel_rfl
def b8c (l:P.Dic) (w:World) (e:Ending) (w':World):Prop:=∃u,e=.returned (.agg #[u])/\Ents w' (Bet w.heap.size w'.heap.size) u l/\Bl w w'
end
end Go.Proofs.YtggfdnopminemaaGreatDoor
