/- Plain: the state of a text to which atoms are applied; the text of a list of atoms. -/
import Derived.Lib.Join
import Derived.Lib.Replace
import Derived.Test.YtggfdnopminemaaGreatDoorPlainSpell
set_option linter.all false
namespace Go.Proofs.YtggfdnopminemaaGreatDoor.P
structure St where
 text:Bs
 a0t:Bool
 a3j:Bool
 cap:Int
 word:Nat
def prn (b:UInt8):Bool:=decide (32≤(b.toNat:Int))&&decide ((b.toNat:Int)≤126)
def stOk (s:St):Bool:=decide ((s.text.length:Int)≤2000)&&(s.text.all prn&&(decide (0≤s.cap∧s.cap≤2)&&decide (0≤(s.word:Int)∧(s.word:Int)≤(s.text.length:Int))))
def upB (b:UInt8):Bool:=decide (65≤(b.toNat:Int))&&decide ((b.toNat:Int)≤90)
def upper:Bs→Bs
 |[]=>[]
 |b::t=>(if lower b then b-32 else b)::t
def a1f:Bs→Bs
 |[]=>[]
 |b::t=>(if upB b then b+32 else b)::t
theorem c7s {b:UInt8} {t:Bs} (h:lower b=true):upper (b::t)=(b-32)::t:=by
 show (if lower b then b-32 else b)::t=_
 rw [if_pos h]
theorem c1w {b:UInt8} {t:Bs} (h:lower b=false):upper (b::t)=b::t:=by
 show (if lower b then b-32 else b)::t=_
 rw [if_neg (by rw [h];decide)]
theorem c0l {b:UInt8} {t:Bs} (h:upB b=true):a1f (b::t)=(b+32)::t:=by
 show (if upB b then b+32 else b)::t=_
 rw [if_pos h]
theorem b4m {b:UInt8} {t:Bs} (h:upB b=false):a1f (b::t)=b::t:=by
 show (if upB b then b+32 else b)::t=_
 rw [if_neg (by rw [h];decide)]
def d4d (s:Bs) (how:Int):Bs:=if how=1 then upper s else if how=2 then a1f s else s
def base (s:St):Bs:=if s.a0t then s.text else s.text++[32]
def put (s:St) (t:Bs):St:={ s with text:=base s++d4d t s.cap,cap:=0,word:=(base s).length }
def a7j (s:St) (t:Bs):St:=if s.a3j then { put { s with a0t:=true } t with word:=s.word } else put s t
def endS (s:St) (x:Bs):Bs:=if (a4k (s.text.drop s.word) x).2 then s.text.take s.word++(a4k (s.text.drop s.word) x).1 else s.text++x
def apply (s:St) (k:Int) (t:Bs):St:=
 if k=1 then { put s t with a0t:=false,a3j:=false }
 else if k=2 then { s with text:=endS s t,a0t:=false,a3j:=false }
 else if k=3 then { put s t with a0t:=true,a3j:=false }
 else if k=4 then { s with text:=s.text++t,a0t:=true,a3j:=false }
 else if k=5 then { a7j s t with a0t:=false,a3j:=true }
 else if k=6 then { s with text:=s.text++t,a0t:=false,a3j:=false,cap:=1 }
 else if k=7 then { s with text:=s.text++t,a0t:=false,a3j:=false }
 else if k=8 then { s with cap:=1 }
 else if k=9 then { s with cap:=2 }
 else if k=10 then { s with text:=s.text.take s.word++upper (s.text.drop s.word) }
 else s
def init:St:=⟨[],true,false,0,0⟩
def a2y (s:St):Prop:=(∀b∈s.text,prn b=true)∧(0≤s.cap∧s.cap≤2)∧s.word≤s.text.length
theorem b1b {s:St}:stOk s=true↔a2y s∧s.text.length≤2000:=by
 unfold stOk a2y;simp only [Bool.and_eq_true,decide_eq_true_eq,List.all_eq_true]
 constructor
 ·rintro⟨h1,h2,h3,h4⟩;exact⟨⟨h2,h3,by omega⟩,by omega⟩
 ·rintro⟨⟨h2,h3,h4⟩,h1⟩;exact⟨by omega,h2,h3,by omega⟩
theorem b3f:a2y init:=⟨fun b hb=>(by simp [init]at hb),by decide,by decide⟩
theorem c9d {b:UInt8} (h:lower b=true):prn b=true:=by
 unfold lower at h;unfold prn;simp only [Bool.and_eq_true,decide_eq_true_eq]at h⊢;omega
theorem c9q {b:UInt8} (h:lower b=true):prn (b-32)=true:=by
 unfold lower at h;unfold prn;simp only [Bool.and_eq_true,decide_eq_true_eq]at h⊢;have h1:32≤b:=by rw [UInt8.le_iff_toNat_le];show 32≤b.toNat;omega
 rw [UInt8.toNat_sub_of_le _ _ h1]
 show _≤((b.toNat-32:Nat):Int)∧((b.toNat-32:Nat):Int)≤_
 omega
theorem c0c {b:UInt8} (h:upB b=true):prn (b+32)=true:=by
 unfold upB at h;unfold prn;simp only [Bool.and_eq_true,decide_eq_true_eq]at h⊢;rw [UInt8.toNat_add]
 show _≤(((b.toNat+32) % 2^8:Nat):Int)∧(((b.toNat+32) % 2^8:Nat):Int)≤_
 omega
theorem b8p {t:Bs} (h:∀b∈t,prn b=true):∀b∈upper t,prn b=true:=by
 cases t with
 |nil=>exact h
 |cons a t=>
  intro b hb;unfold upper at hb
  rcases List.mem_cons.1 hb with rfl|hb
  ·split
   ·rename_i hl;exact c9q hl
   ·exact h _ (by simp)
  ·exact h b (by simp [hb])
theorem b9g {t:Bs} (h:∀b∈t,prn b=true):∀b∈a1f t,prn b=true:=by
 cases t with
 |nil=>exact h
 |cons a t=>
  intro b hb;unfold a1f at hb
  rcases List.mem_cons.1 hb with rfl|hb
  ·split
   ·rename_i hl;exact c0c hl
   ·exact h _ (by simp)
  ·exact h b (by simp [hb])
theorem c8d {t:Bs} {k:Int} (h:∀b∈t,prn b=true):∀b∈d4d t k,prn b=true:=by
 unfold d4d
 split
 ·exact b8p h
 split
 ·exact b9g h
 ·exact h
theorem b1x (t:Bs):(upper t).length=t.length:=by cases t<;>simp [upper]
theorem b9h (t:Bs):(a1f t).length=t.length:=by cases t<;>simp [a1f]
theorem d2h {s:St} (h:∀b∈s.text,prn b=true):∀b∈base s,prn b=true:=by
 intro b hb;unfold base at hb
 split at hb
 ·exact h b hb
 ·rcases List.mem_append.1 hb with hb|hb
  ·exact h b hb
  ·rw [List.mem_singleton]at hb;subst hb;decide
theorem b3h {k:Int} {t:Bs} (h:atom k t=true):(∀b∈t,prn b=true)∧t.length≤20:=by
 have hw:word t=true→(∀b∈t,prn b=true)∧t.length≤20:=by
  intro h;refine⟨fun b hb=>?_,(a5d h).2.2⟩;unfold word at h;simp only [Bool.and_eq_true,List.all_eq_true]at h;have:=a4w (h.1 b hb);unfold prn;simp only [Bool.and_eq_true,decide_eq_true_eq];omega
 unfold atom at h
 repeat' split at h
 all_goals first
  |exact hw h
  |(simp only [Bool.or_eq_true,beq_iff_eq,Bool.and_eq_true]at h;first|(rcases h with rfl|rfl|rfl<;>exact⟨by decide,by decide⟩)|(obtain⟨_,rfl⟩:=h;exact⟨by simp,by simp⟩))
theorem a8l {s:St} {t:Bs} (h:a2y s) (ht:∀b∈t,prn b=true):a2y (put s t):=by
 refine⟨fun b hb=>?_,(show (0:Int)≤0∧(0:Int)≤2 by decide),?_⟩
 ·unfold put at hb
  rcases List.mem_append.1 hb with hb|hb
  ·exact d2h h.1 b hb
  ·exact c8d ht b hb
 ·unfold put;simp
theorem d0s {s:St} {x:Bs} (h:∀b∈s.text,prn b=true) (hx:∀b∈x,prn b=true):∀b∈endS s x,prn b=true:=by
 intro b hb;unfold endS at hb
 split at hb
 ·rename_i hj
  rcases List.mem_append.1 hb with hb|hb
  ·exact h b (List.mem_of_mem_take hb)
  ·exact c9d ((a8a hj).2 b hb)
 ·rcases List.mem_append.1 hb with hb|hb
  ·exact h b hb
  ·exact hx b hb
theorem d0l (s:St) (x:Bs) (hw:s.word≤s.text.length):(endS s x).length≤s.text.length+24+x.length∧s.word≤(endS s x).length:=by
 unfold endS
 split
 ·rename_i hj
  have:=(a8a hj).1;rw [List.length_append,List.length_take];omega
 ·rw [List.length_append];omega
theorem b5o {s:St} {t:Bs} (h:a2y s) (ht:∀b∈t,prn b=true):a2y (a7j s t):=by
 unfold a7j
 split
 ·obtain⟨h1,h2,h3⟩:=a8l (s:={ s with a0t:=true }) (t:=t) h ht;refine⟨h1,h2,?_⟩
  show s.word≤(put { s with a0t:=true } t).text.length
  unfold put base;simp;have:=h.2.2;omega
 ·exact a8l h ht
theorem b0b {s:St} {k:Int} {t:Bs} (h:a2y s) (ha:atom k t=true):a2y (apply s k t):=by
 obtain⟨ht,_⟩:=b3h ha;have happ:∀b∈s.text++t,prn b=true:=fun b hb=>(List.mem_append.1 hb).elim (h.1 b) (ht b);have hlen:s.word≤(s.text++t).length:=by rw [List.length_append];have:=h.2.2;omega
 unfold apply
 split
 ·exact a8l h ht
 split
 ·exact⟨d0s h.1 ht,h.2.1,(d0l s t h.2.2).2⟩
 split
 ·exact a8l h ht
 split
 ·exact⟨happ,h.2.1,hlen⟩
 split
 ·exact b5o h ht
 split
 ·exact⟨happ,(show (0:Int)≤1∧(1:Int)≤2 by decide),hlen⟩
 split
 ·exact⟨happ,h.2.1,hlen⟩
 split
 ·exact⟨h.1,(show (0:Int)≤1∧(1:Int)≤2 by decide),h.2.2⟩
 split
 ·exact⟨h.1,(show (0:Int)≤2∧(2:Int)≤2 by decide),h.2.2⟩
 split
 ·refine⟨fun b hb=>?_,h.2.1,?_⟩
  ·rcases List.mem_append.1 hb with hb|hb
   ·exact h.1 b (List.mem_of_mem_take hb)
   ·exact b8p (fun b hb=>h.1 b (List.mem_of_mem_drop hb)) b hb
  ·show s.word≤(s.text.take s.word++upper (s.text.drop s.word)).length
   rw [List.length_append,b1x,List.length_take,List.length_drop];have:=h.2.2;omega
 ·exact h
def runA:St→List (Int×Bs)→Option St
 |s,[]=>some s
 |s,a::l=>if stOk s&&atom a.1 a.2 then (if 2000<(apply s a.1 a.2).text.length then none else runA (apply s a.1 a.2) l) else none
def runS:St→List (Int×Bs)→Option St
 |s,[]=>some s
 |s,a::l=>if atom a.1 a.2&&decide (s.text.length≤2000) then runS (apply s a.1 a.2) l else none
def short (o:Option St):Option St:=match o with
 |none=>none
 |some s=>if s.text.length≤2000 then some s else none
theorem c8i:∀(l:List (Int×Bs)) (s:St),a2y s→s.text.length≤2000→runA s l=short (runS s l)
 |[],s,_,hl=>by
  unfold runA runS short;simp only [if_pos hl]
 |a::l,s,hg,hl=>by
  unfold runA
  conv=>rhs;unfold runS
  rw [b1b.2 ⟨hg,hl⟩,decide_eq_true hl,Bool.true_and,Bool.and_true]
  cases ha:atom a.1 a.2 with
  |false=>rfl
  |true=>
   simp only [if_true]
   by_cases h2:2000<(apply s a.1 a.2).text.length
   ·rw [if_pos h2]
    cases l with
    |nil=>unfold runS short;simp only [if_neg (show ¬(apply s a.1 a.2).text.length≤2000 by omega)]
    |cons b l=>
     unfold runS;rw [decide_eq_false (by omega),Bool.and_false];rfl
   ·rw [if_neg h2];exact c8i l _ (b0b hg ha) (by omega)
theorem b8z:∀(l:List (Int×Bs)) (s:St),a2y s→∀r,runS s l=some r→a2y r
 |[],s,hg,r,h=>by
  unfold runS at h;injection h with h;exact h ▸ hg
 |a::l,s,hg,r,h=>by
  unfold runS at h
  split at h
  ·rename_i hc
   simp only [Bool.and_eq_true]at hc;exact b8z l _ (b0b hg hc.1) r h
  ·cases h
def a9v:Option St→Bs
 |none=>[]
 |some s=>s.text
def render (l:List (Int×Bs)):Bs×Bool:=if 600<l.length then ([],false) else (a9v (runA init l),(runA init l).isSome)
theorem c4v (l:List (Int×Bs)):(render l).1.length≤2000∧∀b∈(render l).1,prn b=true:=by
 unfold render
 split
 ·exact⟨by simp,by simp⟩
 ·have he:=c8i l init b3f (by decide);rw [he]
  cases hr:runS init l with
  |none=>exact⟨by simp [short,a9v],by simp [short,a9v]⟩
  |some s=>
   have hg:=b8z l init b3f s hr;simp only [short]
   split
   ·rename_i h2;exact⟨h2,hg.1⟩
   ·exact⟨by simp [a9v],by simp [a9v]⟩
def labels:Bs:=[35,83,84,75,80,87,72,82,65,79,42,69,85,70,82,80,66,76,71,84,83,68,90]
def lab (k:Nat):UInt8:=labels.getD k 0
def a1l (s:Int) (n:Nat):List Nat:=(List.range n).filter (fun k=>hasK s (k:Int))
def keys (s:Int):List Nat:=a1l s 23
def a4y (k:Nat):Bool:=decide (8≤k∧k≤12)
def midK (s:Int):Bool:=(keys s).any a4y
def fmtL:Bool→List Nat→Bs
 |_,[]=>[]
 |m,k::l=>if decide (13≤k)&&!m then 45::lab k::fmtL true l else lab k::fmtL m l
def fmt (s:Int):Bs:=fmtL (midK s) (keys s)
theorem c1z:∀(l r:List Nat) (m:Bool),(∀k∈l,k≤12)→fmtL m (l++r)=l.map lab++fmtL m r
 |[],r,m,_=>by simp
 |k::l,r,m,hk=>by
  have h2:decide (13≤k)=false:=by have:=hk k (by simp);exact decide_eq_false (by omega)
  rw [List.cons_append]
  conv=>lhs;unfold fmtL
  rw [h2,Bool.false_and,if_neg (by decide),c1z l r _ (fun k hk'=>hk k (by simp [hk']))];rfl
def a3t (s:Int):List Nat:=((List.range 10).map (13+·)).filter (fun k=>hasK s (k:Int))
theorem a5m (s:Int):keys s=a1l s 13++a3t s:=by
 unfold keys a1l a3t;rw [←List.filter_append]
 congr 1
theorem b1g {s:Int} {n k:Nat} (h:k∈a1l s n):k<n:=by
 unfold a1l at h;rw [List.mem_filter,List.mem_range]at h;exact h.1
theorem a8q {s:Int} {k:Nat} (h:k∈a3t s):13≤k:=by
 unfold a3t at h;rw [List.mem_filter,List.mem_map]at h;obtain⟨⟨j,_,rfl⟩,_⟩:=h;omega
theorem b8e (s:Int):midK s=(a1l s 13).any a4y:=by
 unfold midK;rw [a5m,List.any_append]
 have:(a3t s).any a4y=false:=List.any_eq_false.2 fun k hk=>by
  have:=a8q hk;unfold a4y;simp;omega
 rw [this,Bool.or_false]
theorem d0c {k:Nat} (h1:1≤k):lab k≠35:=by
 by_cases hk:k<23
 ·have:∀j<23,1≤j→lab j≠35:=by decide
  exact this k hk h1
 ·unfold lab;rw [List.getD_eq_getElem?_getD,List.getElem?_eq_none (by simp [labels];omega)]
  decide
theorem b6t:∀(l:List Nat) (m:Bool),(∀k∈l,1≤k)→∀b∈fmtL m l,b≠35
 |[],_,_=>by simp [fmtL]
 |k::l,m,h=>by
  have ih:=fun m=>b6t l m (fun k hk=>h k (by simp [hk]));have h1:=d0c (h k (by simp));intro b hb;unfold fmtL at hb
  split at hb
  ·rcases List.mem_cons.1 hb with rfl|hb
   ·decide
   rcases List.mem_cons.1 hb with rfl|hb
   ·exact h1
   ·exact ih _ b hb
  ·rcases List.mem_cons.1 hb with rfl|hb
   ·exact h1
   ·exact ih _ b hb
theorem c3u (n:Nat):List.range (n+1)=0::(List.range n).map (1+·):=by
 rw [List.range_succ_eq_map]
 congr 1
 exact List.map_congr_left fun k _=>by omega
theorem c7z (s:Int):∃t:List Nat,(∀k∈t,1≤k)∧(keys s=t∨keys s=0::t):=by
 refine⟨((List.range 22).map (1+·)).filter (fun k=>hasK s (k:Int)),fun k hk=>?_,?_⟩
 ·rw [List.mem_filter,List.mem_map]at hk;obtain⟨⟨j,_,rfl⟩,_⟩:=hk;omega
 ·unfold keys a1l;rw [c3u 22,List.filter_cons]
  split
  ·exact .inr rfl
  ·exact .inl rfl
def hash (b:UInt8):UInt8:=if b=35 then 61 else b
def raw (s:Int):Bs:=(fmt s).map hash
theorem c1q {l:Bs} (h:∀b∈l,b≠35):l.map hash=l:=by
 conv=>rhs;rw [←List.map_id l]
 exact List.map_congr_left fun b hb=>by unfold hash;rw [if_neg (h b hb)];rfl
theorem c1j:∀(l:List Nat) (m:Bool),(fmtL m l).length≤2*l.length∧(l≠[]→fmtL m l≠[])
 |[],_=>by simp [fmtL]
 |k::l,m=>by
  have ih:=fun m=>(c1j l m).1;unfold fmtL
  split
  ·refine⟨?_,by simp⟩;have:=ih true;simp only [List.length_cons];omega
  ·refine⟨?_,by simp⟩;have:=ih m;simp only [List.length_cons];omega
theorem c9w (s:Int):(keys s).length≤23:=by
 unfold keys a1l;exact Nat.le_trans (List.length_filter_le _ _) (by simp)
theorem a9q (s:Int):(fmt s).length≤46:=by
 have h1:=(c1j (keys s) (midK s)).1;have h2:=c9w s;unfold fmt;omega
theorem d4c (s:Int):(raw s).length≤46:=by unfold raw;rw [List.length_map];exact a9q s
theorem d0f (n:Nat):midK (n:Int)=decide (n / 256 % 32≠0):=by
 rw [b8e]
 have hb:∀j:Nat,hasK (n:Int) (j:Int)=decide (n / 2^j % 2=1):=fun j=>by
  unfold hasK;rw [Int.toNat_natCast,Int.toNat_natCast,Nat.testBit_eq_decide_div_mod_eq]
 unfold a1l;rw [List.any_filter]
 have he:(List.range 13).any (fun k=>hasK (n:Int) (k:Int)&&a4y k)=(hasK (n:Int) (8:Nat)||(hasK (n:Int) (9:Nat)||(hasK (n:Int) (10:Nat)||(hasK (n:Int) (11:Nat)||hasK (n:Int) (12:Nat))))):=by
  simp only [List.range,List.range.loop,List.any_cons,List.any_nil,show a4y 0=false from rfl,show a4y 1=false from rfl,show a4y 2=false from rfl,show a4y 3=false from rfl,show a4y 4=false from rfl,show a4y 5=false from rfl,show a4y 6=false from rfl,show a4y 7=false from rfl,show a4y 8=true from rfl,show a4y 9=true from rfl,show a4y 10=true from rfl,show a4y 11=true from rfl,show a4y 12=true from rfl,Bool.and_false,Bool.and_true,Bool.false_or,Bool.or_false]
 rw [he,hb,hb,hb,hb,hb,Bool.eq_iff_iff];simp only [Bool.or_eq_true,decide_eq_true_eq];omega
end Go.Proofs.YtggfdnopminemaaGreatDoor.P
namespace Go.Proofs.YtggfdnopminemaaGreatDoor
namespace P
abbrev Nd:=List Int×List Int×Bool×Bs
abbrev Tri:=List Nd
def a3x (d:Nat) (e:Ent):Int:=e.1.getD d 0
def c1h (d:Nat):Nat→Dic→List Dic
 |0,_=>[]
 |_+1,[]=>[]
 |n+1,e::l=>(e::l.takeWhile fun x=>a3x d x==a3x d e)::c1h d n (l.dropWhile fun x=>a3x d x==a3x d e)
def c4c (d:Nat):Dic→Int
 |[]=>0
 |e::_=>a3x d e
def kids (B:Nat→Dic→Tri) (d:Nat):Nat→List Dic→List Int×List Int×Tri
 |_,[]=>([],[],[])
 |next,g::gs=>(c4c d g::(kids B d (next+(B next g).length) gs).1,(next:Int)::(kids B d (next+(B next g).length) gs).2.1,B next g++(kids B d (next+(B next g).length) gs).2.2)
def rest (d:Nat):Dic→Dic
 |[]=>[]
 |e::l=>if e.1.length=d then l else e::l
def d4x (d:Nat):Dic→Bool×Bs
 |[]=>(false,[])
 |e::_=>if e.1.length=d then (true,e.2) else (false,[])
def build:Nat→Nat→Nat→Dic→Tri
 |0,_,_,_=>[]
 |f+1,d,base,es=>
  ((kids (fun b g=>build f (d+1) b g) d (base+1) (c1h d es.length (rest d es))).1,(kids (fun b g=>build f (d+1) b g) d (base+1) (c1h d es.length (rest d es))).2.1,d4x d es) ::
   (kids (fun b g=>build f (d+1) b g) d (base+1) (c1h d es.length (rest d es))).2.2
def trie (l:Dic):Tri:=build 7 0 0 l
theorem a5g {l:Dic} (h:dic l=true):l.length≤40∧(∀e∈l,entry e=true)∧l.Pairwise lt:=by
 unfold dic at h;rw [Bool.and_eq_true,Bool.and_eq_true,decide_eq_true_eq,List.all_eq_true,a1o]at h;exact h
theorem a8c {e:Ent} (h:entry e=true):1≤e.1.length∧e.1.length≤6∧∀s∈e.1,a0m s=true:=by
 unfold entry a0l at h;rw [Bool.and_eq_true,Bool.and_eq_true,decide_eq_true_eq,List.all_eq_true]at h;exact⟨by omega,by omega,h.1.2⟩
def nd0:Nd:=([],[],false,[])
def readK (R:Int→List Int→Nat→Option (Nat×Dic)) (o:List Int):List (Int×Int)→Nat→Option (Nat×Dic)
 |[],nx=>some (nx,[])
 |(s,c)::l,nx=>match R c (o++[s]) nx with
  |none=>none
  |some (n1,e1)=>match readK R o l n1 with
   |none=>none
   |some (n2,e2)=>some (n2,e1++e2)
def own (o:List Int) (n:Nd):Dic:=if n.2.2.1 then [(o,n.2.2.2)] else []
def read (t:Tri):Nat→Int→List Int→Nat→Option (Nat×Dic)
 |0,_,_,_=>none
 |f+1,k,o,nx=>
  if k=(nx:Int)∧nx<t.length then
   if (t.getD nx nd0).1.length=(t.getD nx nd0).2.1.length then
    (readK (read t f) o ((t.getD nx nd0).1.zip (t.getD nx nd0).2.1) (nx+1)).map fun r=>(r.1,own o (t.getD nx nd0)++r.2)
   else none
  else none
def upto (ch:Nat→List Int):Nat→List Int
 |0=>[]
 |k+1=>upto ch k++ch k
end P
namespace P
def a1t (o:List Int):Bool:=decide (o.length≤60)&&o.all a0m
end P
end Go.Proofs.YtggfdnopminemaaGreatDoor
namespace Go.Proofs.YtggfdnopminemaaGreatDoor.P
abbrev Edit:=Int×Bs
abbrev Tr:=List Int×Bs
def a3h (st:List Int) (p:Pc):List (Int×Bs):=if p.2=[] then [(1,raw (st.getD p.1.1.toNat 0))] else (a0p p.2).1
def a1y (st:List Int) (l:List Pc):List (Int×Bs):=l.flatMap (a3h st)
def scrA (d:Dic) (st:List Int):Bs×Bool:=render (a1y st (segA d st))
def scr (d:Dic) (st:List Int):Bs×Bool:=if dic d&&a1t st then scrA d st else ([],false)
theorem b7k (st:List Int) (l:List Pc) (p:Pc):a1y st (l++[p])=a1y st l++a3h st p:=by
 unfold a1y;rw [List.flatMap_append];simp
theorem b4b (s:Bs):(a0p s).1.length≤10:=by
 unfold a0p
 split
 ·simp
 split
 ·simp
 ·split
  ·rename_i h
   unfold a8e at h;simp only [Bool.and_eq_true,decide_eq_true_eq]at h;have h1:=h.1.2;simp only;omega
  ·simp
theorem c0k (st:List Int) (p:Pc):(a3h st p).length≤10:=by
 unfold a3h
 split
 ·simp
 ·exact b4b _
theorem b1z (st:List Int):∀(l:List Pc),(a1y st l).length≤10*l.length
 |[]=>by simp [a1y]
 |p::l=>by
  have h1:=b1z st l;have h2:=c0k st p;unfold a1y at *;rw [List.flatMap_cons,List.length_append,List.length_cons];omega
theorem d3b {d:Dic} {st:List Int} (h:(scr d st).2=true):dic d=true∧a1t st=true∧scr d st=scrA d st:=by
 unfold scr at h⊢
 split at h
 ·rename_i hc
  have hc':=hc;simp only [Bool.and_eq_true]at hc;exact⟨hc.1,hc.2,by rw [if_pos hc']⟩
 ·cases h
def a1s (s:Bs):Bool:=decide ((s.length:Int)≤2000)&&s.all prn
theorem a5o (d:Dic) (st:List Int):a1s (scr d st).1=true:=by
 unfold a1s scr;simp only [Bool.and_eq_true,decide_eq_true_eq,List.all_eq_true]
 split
 ·have:=c4v (a1y st (segA d st));unfold scrA;exact⟨by omega,this.2⟩
 ·exact⟨by simp,by simp⟩
theorem a2m {s:Bs} (h:a1s s=true):s.length≤2000:=by
 unfold a1s at h;simp only [Bool.and_eq_true,decide_eq_true_eq]at h;omega
theorem c7f (d:Dic) (st:List Int):(scr d st).1.length≤2000:=a2m (a5o d st)
theorem a4f {st:List Int} (h:a1t st=true):st.length≤60:=by
 unfold a1t at h;simp only [Bool.and_eq_true,decide_eq_true_eq]at h;exact h.1
def lcp:Bs→Bs→Nat
 |a::x,b::y=>if a=b then lcp x y+1 else 0
 |_,_=>0
def least (a b:Bs):Edit:=(((a.length-lcp a b:Nat):Int),b.drop (lcp a b))
theorem d3i:∀a b:Bs,lcp a b≤a.length∧lcp a b≤b.length∧a.take (lcp a b)=b.take (lcp a b)
 |[],_=>by simp [lcp]
 |_::_,[]=>by simp [lcp]
 |a::x,b::y=>by
  unfold lcp
  split
  ·rename_i h
   have ih:=d3i x y;subst h;simp only [List.length_cons,List.take_succ_cons];exact⟨by omega,by omega,by rw [ih.2.2]⟩
  ·simp
theorem c1n:∀(n:Nat) (a b:Bs),a.take n=b.take n→n≤a.length→n≤b.length→(n=a.length∨n=b.length∨∃(h1:n<a.length) (h2:n<b.length),a[n]≠b[n])→lcp a b=n
 |0,a,b,_,_,_,h=>by
  cases a with
  |nil=>simp [lcp]
  |cons a x=>
   cases b with
   |nil=>simp [lcp]
   |cons b y=>
    rcases h with h|h|⟨_,_,h⟩
    ·simp at h
    ·simp at h
    ·unfold lcp;rw [if_neg (by simpa using h)]
 |n+1,a,b,ht,h1,h2,h=>by
  cases a with
  |nil=>simp at h1
  |cons a x=>
   cases b with
   |nil=>simp at h2
   |cons b y=>
    simp only [List.take_succ_cons,List.cons.injEq,List.length_cons]at ht h1 h2 h;unfold lcp;rw [if_pos ht.1,c1n n x y ht.2 (by omega) (by omega) ?_]
    rcases h with h|h|⟨h3,h4,h⟩
    ·exact .inl (by omega)
    ·exact .inr (.inl (by omega))
    ·exact .inr (.inr ⟨by simpa using h3,by simpa using h4,by simpa using h⟩)
def a3d (e:Edit):Bool:=decide (0≤e.1∧e.1≤2000)&&a1s e.2
def b2v (s:Bs) (e:Edit):Bs×Bool:=
 if a1s s&&(a3d e&&decide (e.1≤(s.length:Int))) then (if 2000<(s.take (s.length-e.1.toNat)++e.2).length then ([],false) else (s.take (s.length-e.1.toNat)++e.2,true)) else ([],false)
theorem c1a {s:Bs} (h:a1s s=true) (n:Nat):a1s (s.drop n)=true:=by
 unfold a1s at h⊢;simp only [Bool.and_eq_true,decide_eq_true_eq,List.all_eq_true]at h⊢;exact⟨by rw [List.length_drop];omega,fun x hx=>h.2 x (List.mem_of_mem_drop hx)⟩
theorem a9g {a b:Bs} (ha:a1s a=true) (hb:a1s b=true):a3d (least a b)=true:=by
 have:=a2m ha;unfold a3d least;rw [c1a hb,decide_eq_true (by simp only;omega)];rfl
theorem d0b (a b:Bs):a.take (a.length-(((a.length-lcp a b:Nat):Int)).toNat)++b.drop (lcp a b)=b:=by
 obtain⟨h1,h2,h3⟩:=d3i a b;rw [Int.toNat_natCast,show a.length-(a.length-lcp a b)=lcp a b by omega,h3,List.take_append_drop]
theorem b9f {a b:Bs} (ha:a1s a=true) (hb:a1s b=true):b2v a (least a b)=(b,true):=by
 have h1:=a9g ha hb;have h2:decide ((least a b).1≤(a.length:Int))=true:=decide_eq_true (by unfold least;simp only;omega);unfold b2v;rw [ha,h1,h2,if_pos (by rfl)]
 show (if 2000<(a.take (a.length-(((a.length-lcp a b:Nat):Int)).toNat)++b.drop (lcp a b)).length then _ else _)=_
 have h3:=d0b a b;rw [h3,if_neg (by have:=a2m hb;omega)];unfold least;simp only;rw [h3]
def trans (d:Dic) (t:Tr):Bool:=(scr d t.1).2&&((scr d t.1).1==t.2&&!t.1.contains 1024)
def next (l:List Int) (k:Int):List Int:=if k=1024 then l.take (l.length-1) else l++[k]
def tr0:Tr:=([],[])
def b4x (d:Dic) (t:Tr) (k:Int):(Tr×Edit)×Bool:=if (scr d (next t.1 k)).2 then (((next t.1 k,(scr d (next t.1 k)).1),least t.2 (scr d (next t.1 k)).1),true) else ((tr0,(0,[])),false)
def a3o (d:Dic) (t:Tr) (k:Int):(Tr×Edit)×Bool:=if trans d t&&a0m k then b4x d t k else ((tr0,(0,[])),false)
def c6s (d:Dic) (st:List Int):Nat→Option (List Edit×Tr)
 |0=>some ([],tr0)
 |j+1=>(c6s d st j).bind fun r=>if (a3o d r.2 (st.getD j 0)).2 then some (r.1++[(a3o d r.2 (st.getD j 0)).1.2],(a3o d r.2 (st.getD j 0)).1.1) else none
def replay (d:Dic) (st:List Int):(List Edit×Tr)×Bool:=if dic d&&decide (st.length≤120) then (match c6s d st st.length with
 |none=>(([],tr0),false)
 |some r=>(r,true)) else (([],tr0),false)
theorem a2u {d:Dic} {t:Tr} (h:trans d t=true):(scr d t.1).2=true∧(scr d t.1).1=t.2∧t.1.contains 1024=false:=by
 unfold trans at h;simp only [Bool.and_eq_true,beq_iff_eq,Bool.not_eq_true']at h;exact h
theorem a2c {d:Dic} {t:Tr} (h:trans d t=true):a1s t.2=true:=(a2u h).2.1 ▸ a5o d t.1
theorem d2p {d:Dic} {l:List Int} (h:(scr d l).2=true) (h2:l.contains 1024=false):trans d (l,(scr d l).1)=true:=by
 unfold trans;simp only [h,h2,beq_self_eq_true];rfl
theorem c9a {l:List Int} {k:Int} (h:l.contains 1024=false):(next l k).contains 1024=false:=by
 unfold next;simp only [List.contains_eq_mem,decide_eq_false_iff_not]at h⊢
 split
 ·exact fun hm=>h (List.mem_of_mem_take hm)
 ·rename_i hk
  rw [List.mem_append,List.mem_singleton];rintro (hm|hm)
  ·exact h hm
  ·exact hk hm.symm
theorem c2h {d:Dic} {t:Tr} {k:Int} (h:(a3o d t k).2=true):trans d t=true∧a0m k=true∧(scr d (next t.1 k)).2=true∧(a3o d t k).1=((next t.1 k,(scr d (next t.1 k)).1),least t.2 (scr d (next t.1 k)).1):=by
 unfold a3o at h⊢
 split at h
 ·rename_i hc
  have hc':=hc;simp only [Bool.and_eq_true]at hc;rw [if_pos hc'];unfold b4x at h⊢
  split at h
  ·rename_i h2
   rw [if_pos h2];exact⟨hc.1,hc.2,h2,rfl⟩
  ·cases h
 ·cases h
theorem b1o {d:Dic} {t:Tr} {k:Int} (h:(a3o d t k).2=true):trans d (a3o d t k).1.1=true:=by
 obtain⟨h1,_,h3,h4⟩:=c2h h;rw [h4];exact d2p h3 (c9a (a2u h1).2.2)
def sub1 (a b:UInt8) (x:UInt8):UInt8:=if x=a then b else x
theorem b7g (a b:UInt8):∀(n:Nat) (s:Bs),s.length≤n→Go.Lib.replaceK [a] [b] (s.count a) s=s.map (sub1 a b)
 |n,s,hn=>by
  by_cases ha:a∈s
  ·obtain⟨x,y,hs,hx⟩:=a1m a s ha;have hxm:a∉x:=fun h=>hx a h rfl;subst hs
   have hc:(x++a::y).count a=y.count a+1:=by
    rw [List.count_append,List.count_cons_self,List.count_eq_zero.2 hxm];omega
   have hxmap:x.map (sub1 a b)=x:=by
    rw [List.map_congr_left (g:=id) (fun z hz=>by unfold sub1;rw [if_neg (hx z hz)];rfl),List.map_id]
   match n,hn with
   |0,hn=>simp at hn
   |n+1,hn=>
    rw [hc,Go.Lib.replaceK_hit _ _ _ _ x.length (b2t a y x hx)];rw [List.take_left,show (x++a::y).drop (x.length+[a].length)=y by rw [show x++a::y=(x++[a])++y by simp,show x.length+[a].length=(x++[a]).length by simp,List.drop_left]];rw [b7g a b n y (by simp at hn;omega),List.map_append,hxmap,List.map_cons];have:sub1 a b a=b:=if_pos rfl;rw [this];simp
  ·rw [List.count_eq_zero.2 ha];rw [List.map_congr_left (g:=id) (fun z hz=>by unfold sub1;rw [if_neg (fun e:z=a=>ha (by rw [←e];exact hz))];rfl),List.map_id];rfl
theorem b3s {a b:UInt8} (hab:a≠b) (s:Bs):Go.Lib.replaceAll s [a] [b]=s.map (sub1 a b):=by
 unfold Go.Lib.replaceAll Go.Lib.replace Go.Lib.replaceNum;rw [if_neg (by simpa using hab),if_pos (.inl (by decide)),Go.Lib.count_one];exact b7g a b s.length s (Nat.le_refl _)
theorem c1e (l:List Bs) (c:UInt8) (m:Nat) (h:∀x∈l,x.length≤m):(Go.Lib.join l [c]).length≤l.length*(m+1):=by
 cases l with
 |nil=>simp [Go.Lib.join_nil]
 |cons x r=>
  have hx:=h x (by simp);rw [Go.Lib.join_cons,List.length_append]
  have key:∀r:List Bs,(∀x∈r,x.length≤m)→(Go.Lib.joinTail [c] r).length≤r.length*(m+1):=by
   intro r
   induction r with
   |nil=>intro _;simp [Go.Lib.joinTail]
   |cons y r ih=>
    intro h;have h1:=ih (fun z hz=>h z (by simp [hz]));have h2:=h y (by simp);unfold Go.Lib.joinTail at h1⊢;simp only [List.map_cons,List.flatten_cons,List.length_append,List.length_cons,List.length_nil]at h1⊢;have e:(r.length+1)*(m+1)=r.length*(m+1)+(m+1):=Nat.succ_mul _ _;omega
  have h3:=key r (fun z hz=>h z (by simp [hz]));have e:(x::r).length*(m+1)=r.length*(m+1)+(m+1):=by rw [List.length_cons];exact Nat.succ_mul _ _
  omega
def fmtS (c:UInt8) (st:List Int):Bs:=Go.Lib.join (st.map fmt) [c]
theorem b5i (c:UInt8) (st:List Int):(fmtS c st).length≤st.length*47:=by
 have h:=c1e (st.map fmt) c 46 (fun x hx=>by obtain⟨k,_,rfl⟩:=List.mem_map.1 hx;exact a9q k)
 rwa [List.length_map]at h
end Go.Proofs.YtggfdnopminemaaGreatDoor.P
