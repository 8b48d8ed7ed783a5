/- Plain: notations read: a stroke in relaxed notation, a stroke, an outline. -/
import Derived.Test.YtggfdnopminemaaGreatDoorZt
import Derived.Test.YtggfdnopminemaaGreatDoorPlainSes
set_option linter.all false
namespace Go.Proofs.YtggfdnopminemaaGreatDoor.P
def c0b (b:UInt8):Nat→Nat→Nat
 |0,k=>k
 |n+1,k=>if lab k=b then k else c0b b n (k+1)
def keyOf (b:UInt8) (k:Nat):Nat:=c0b b (23-k) k
theorem c7e {b:UInt8} {k:Nat} (hk:k<23) (h:lab k=b):keyOf b k=k:=by
 unfold keyOf;obtain⟨n,hn⟩:∃n,23-k=n+1:=⟨22-k,by omega⟩;rw [hn];unfold c0b;rw [if_pos h]
theorem c3k {b:UInt8} {k:Nat} (hk:k<23) (h:lab k≠b):keyOf b k=keyOf b (k+1):=by
 unfold keyOf;obtain⟨n,hn⟩:∃n,23-k=n+1:=⟨22-k,by omega⟩;rw [hn,show 23-(k+1)=n by omega]
 conv=>lhs;unfold c0b
 rw [if_neg h]
theorem c6x {b:UInt8} {k:Nat} (hk:23≤k):keyOf b k=k:=by
 unfold keyOf;rw [show 23-k=0 by omega];rfl
theorem c1m (b:UInt8):∀(n k:Nat),k≤c0b b n k∧c0b b n k≤k+n
 |0,k=>⟨Nat.le_refl _,Nat.le_refl _⟩
 |n+1,k=>by
  have ih:=c1m b n (k+1);unfold c0b
  split<;>omega
theorem d1m (b:UInt8) {k:Nat} (hk:k≤23):k≤keyOf b k∧keyOf b k≤23:=by
 have h:=c1m b (23-k) k;unfold keyOf;omega
abbrev LSt:=Nat×Nat×Bool
def a1u (b:UInt8) (q:LSt):Option LSt:=
 if b=45 then (if q.2.2||decide (13<q.2.1) then none else some (q.1,13,true))
 else if keyOf b q.2.1<23 then some (q.1+2^keyOf b q.2.1,keyOf b q.2.1+1,q.2.2) else none
def a1h:Bs→LSt→Option LSt
 |[],q=>some q
 |b::t,q=>match a1u b q with
  |none=>none
  |some q'=>a1h t q'
def d3x:Option LSt→Nat×Bool
 |none=>(0,false)
 |some q=>(q.1,decide (q.1≠0))
def loose (t:Bs):Nat×Bool:=d3x (a1h t (0,0,false))
def LInv (q:LSt):Prop:=q.1<2^q.2.1∧q.2.1≤23
theorem a6b {b:UInt8} {q q':LSt} (h:LInv q) (e:a1u b q=some q'):LInv q':=by
 obtain⟨h1,h2⟩:=h;unfold a1u at e
 split at e
 ·split at e
  ·cases e
  ·rename_i hc
   injection e with e;subst e
   have h3:q.2.1≤13:=by
    simp only [Bool.or_eq_true,decide_eq_true_eq,not_or]at hc;omega
   exact⟨Nat.lt_of_lt_of_le h1 (Nat.pow_le_pow_right dZ h3),by show 13≤23;decide⟩
 ·split at e
  ·rename_i hk
   injection e with e;subst e;have h3:=d1m b h2;refine⟨?_,hk⟩
   show q.1+2^keyOf b q.2.1<2^(keyOf b q.2.1+1)
   have h4:q.1<2^keyOf b q.2.1:=Nat.lt_of_lt_of_le h1 (Nat.pow_le_pow_right dZ h3.1);rw [Nat.pow_succ];omega
  ·cases e
theorem b4h:∀(t:Bs) {q q':LSt},LInv q→a1h t q=some q'→LInv q'
 |[],q,q',h,e=>by injection e with e;subst e;exact h
 |b::t,q,q',h,e=>by
  unfold a1h at e
  split at e
  ·cases e
  ·rename_i q1 h1
   exact b4h t (a6b h h1) e
theorem a8t {s:Bs} {k:Nat} (hk:k<s.length) (q:LSt):a1h (s.drop k) q=match a1u s[k] q with
 |none=>none
 |some q'=>a1h (s.drop (k+1)) q':=by
 rw [List.drop_eq_getElem_cons hk];rfl
theorem c4q {q:LSt} {s:Bs} {k:Nat} (hk:k<s.length) (hb:s[k]=45) (h1:q.2.2=false) (h2:q.2.1≤13):a1h (s.drop k) q=a1h (s.drop (k+1)) (q.1,13,true):=by
 rw [a8t hk];unfold a1u;rw [if_pos hb,if_neg (by rw [h1,decide_eq_false oZ];decide)]
theorem b0m {q:LSt} {s:Bs} {k:Nat} (hk:k<s.length) (hb:s[k]=45) (h:q.2.2=true∨13<q.2.1):a1h (s.drop k) q=none:=by
 rw [a8t hk];unfold a1u;rw [if_pos hb,if_pos (by rcases h with h|h<;>simp [h])]
theorem c9b {q:LSt} {s:Bs} {k:Nat} (hk:k<s.length) (hb:s[k]≠45) (h:keyOf s[k] q.2.1<23):a1h (s.drop k) q=a1h (s.drop (k+1)) (q.1+2^keyOf s[k] q.2.1,keyOf s[k] q.2.1+1,q.2.2):=by
 rw [a8t hk];unfold a1u;rw [if_neg hb,if_pos h]
theorem b9t {q:LSt} {s:Bs} {k:Nat} (hk:k<s.length) (hb:s[k]≠45) (h:23≤keyOf s[k] q.2.1):a1h (s.drop k) q=none:=by
 rw [a8t hk];unfold a1u;rw [if_neg hb,if_neg oZ]
theorem a5c {t:Bs} (h:a1h t (0,0,false)=none):loose t=(0,false):=by unfold loose;rw [h];rfl
theorem a7g {t:Bs} {q:LSt} (h:a1h t (0,0,false)=some q):loose t=(q.1,decide (q.1≠0)):=by unfold loose;rw [h];rfl
theorem c1i (t:Bs):(loose t).1<2^23:=by
 cases h:a1h t (0,0,false) with
 |none=>rw [a5c h];decide
 |some q=>
  rw [a7g h];obtain⟨h1,h2⟩:=b4h t (q:=(0,0,false)) ⟨by decide,by decide⟩ h;exact Nat.lt_of_lt_of_le h1 (Nat.pow_le_pow_right dZ h2)
theorem c3c (t:Bs):(loose t).2=decide ((loose t).1≠0):=by
 cases h:a1h t (0,0,false) with
 |none=>rw [a5c h];rfl
 |some q=>rw [a7g h]
theorem a7f {t:Bs} (h:(loose t).2=true):a0m ((loose t).1:Int)=true:=by
 have h1:=c1i t;rw [c3c,decide_eq_true_eq]at h;unfold a0m;exact decide_eq_true oZ
theorem c8h {t:Bs} (h:(loose t).2=false):loose t=(0,false):=by
 have h1:=h;rw [c3c,decide_eq_false_iff_not]at h1;exact Prod.ext oZ h
def parse (t:Bs):Nat×Bool:=if (loose t).2&&(fmt ((loose t).1:Int)==t) then ((loose t).1,true) else (0,false)
def a7t (t:Bs):Option Int:=if (parse t).2 then some ((parse t).1:Int) else none
theorem b7i {t:Bs} (h1:(loose t).2=true) (h2:fmt ((loose t).1:Int)=t):parse t=((loose t).1,true):=by
 unfold parse;rw [if_pos (by rw [h1,h2];simp)]
theorem c8s {t:Bs} (h1:(loose t).2=false):parse t=(0,false):=by
 unfold parse;rw [if_neg (by rw [h1];simp)]
theorem c6m {t:Bs} (h2:fmt ((loose t).1:Int)≠t):parse t=(0,false):=by
 unfold parse;rw [if_neg (by simp [h2])]
theorem b0q {t:Bs} (h:(parse t).2=true):a0m ((parse t).1:Int)=true∧fmt ((parse t).1:Int)=t∧(parse t).1<2^23:=by
 unfold parse at h⊢
 split
 ·rename_i hc
  simp only [Bool.and_eq_true,beq_iff_eq]at hc;exact⟨a7f hc.1,hc.2,c1i t⟩
 ·rename_i hc;rw [if_neg hc]at h;cases h
theorem c5d {t:Bs} (h:(parse t).2=true):a7t t=some ((parse t).1:Int):=by unfold a7t;rw [if_pos h]
theorem c7g {t:Bs} (h:(parse t).2=false):a7t t=none:=by unfold a7t;rw [if_neg (by rw [h];decide)]
theorem b9p {t:Bs} {x:Int} (h:a7t t=some x):a0m x=true∧fmt x=t:=by
 unfold a7t at h
 split at h
 ·rename_i hc;injection h with h;subst h;exact⟨(b0q hc).1,(b0q hc).2.1⟩
 ·cases h
def a2p:List Bs→Option (List Int)
 |[]=>some []
 |w::r=>match a7t w with
  |none=>none
  |some x=>(a2p r).map (x::·)
theorem c8w {L:List Bs} {k:Nat} (hk:k<L.length) (h:a7t L[k]=none):a2p (L.drop k)=none:=by
 rw [List.drop_eq_getElem_cons hk];unfold a2p;rw [h]
theorem c3i {L:List Bs} {k:Nat} (hk:k<L.length) {x:Int} (h:a7t L[k]=some x):a2p (L.drop k)=(a2p (L.drop (k+1))).map (x::·):=by
 rw [List.drop_eq_getElem_cons hk];conv=>lhs;unfold a2p
 rw [h]
theorem b9l {L:List Bs} {k:Nat} (hk:k<L.length) {x:Int} (h:a7t L[k]=some x) {R:Option (List Int)} {acc:List Int} (e:R=(a2p (L.drop k)).map (acc++·)):R=(a2p (L.drop (k+1))).map ((acc++[x])++·):=by
 rw [e,c3i hk h]
 cases a2p (L.drop (k+1)) with
 |none=>rfl
 |some r=>simp
theorem c3m {L:List Bs} {R:Option (List Int)} {acc:List Int} (e:R=(a2p (L.drop L.length)).map (acc++·)):R=some acc:=by
 rw [e,List.drop_length];simp [a2p]
theorem a9r:∀{L:List Bs} {r:List Int},a2p L=some r→r.length=L.length∧(L.map List.length).sum≤46*L.length∧∀x∈r,a0m x=true
 |[],r,h=>by injection h with h;subst h;simp
 |w::L,r,h=>by
  unfold a2p at h
  split at h
  ·cases h
  ·rename_i x hx
   cases hr:a2p L with
   |none=>rw [hr]at h;cases h
   |some r'=>
    rw [hr]at h;injection h with h;subst h;obtain⟨h1,h2,h3⟩:=a9r hr;obtain⟨g1,g2⟩:=b9p hx;have g3:=a9q x;rw [g2]at g3;refine⟨by simp [h1],by simp;omega,?_⟩;intro y hy
    rcases List.mem_cons.1 hy with rfl|hy
    ·exact g1
    ·exact h3 y hy
theorem a4e {o:List Int} (h:a0l o=true):1≤o.length∧o.length≤6:=by
 unfold a0l at h;simp only [Bool.and_eq_true,decide_eq_true_eq]at h;omega
def a2q (s:Bs):Option (List Int):=(a2p (split 47 s)).filter a0l
theorem b2d {s:Bs} (h:4000<s.length):a2q s=none:=by
 unfold a2q
 cases hp:a2p (split 47 s) with
 |none=>rfl
 |some r=>
  obtain⟨h1,h2,_⟩:=a9r hp;have h3:=a2z 47 s
  have h4:a0l r=false:=by
   cases hq:a0l r
   ·rfl
   ·have:=a4e hq;omega
  simp [Option.filter,h4]
theorem b2c {s:Bs} {o:List Int} (h:a2q s=some o):a0l o=true∧s.length≤4000:=by
 refine⟨?_,?_⟩
 ·unfold a2q at h;exact (Option.filter_eq_some_iff.1 h).2
 ·rcases Nat.lt_or_ge 4000 s.length with hl|hl
  ·rw [b2d hl]at h;cases h
  ·exact hl
theorem c1s {d:Dic} {st:List Int} {p:Pc}:∀{f a:Nat},p∈segs d st f a→∃b,b<st.length∧p=a2r d st b
 |0,_,h=>by cases h
 |f+1,a,h=>by
  unfold segs at h
  split at h
  ·rename_i hlt
   rcases List.mem_cons.1 h with h|h
   ·exact⟨a,hlt,h⟩
   ·exact c1s h
  ·cases h
theorem b3i {d:Dic} {st:List Int} (hd:dic d=true) (a:Nat):∀n:Nat,(a3v d st a n).2=[]∨(a0p (a3v d st a n).2).2=true
 |0=>.inl rfl
 |n+1=>by
  unfold a3v
  split
  ·rename_i h
   right
   have hm:=b4k h;unfold dic at hd;simp only [Bool.and_eq_true,List.all_eq_true]at hd;have he:=hd.2.1 _ hm;unfold entry at he;simp only [Bool.and_eq_true]at he;exact he.2
  ·exact b3i hd a n
theorem c9o {d:Dic} {st:List Int} (hd:dic d=true) {p:Pc} (h:p∈segA d st):∃a k:Nat,a<st.length∧p.1=((a:Int),(k:Int))∧(p.2=[]∨(a0p p.2).2=true):=by
 obtain⟨b,hb,rfl⟩:=c1s h;obtain⟨k,hk,_⟩:=b0d d st b (min 6 (st.length-b));exact⟨b,k,hb,hk,b3i hd b _⟩
theorem c2w (d:Dic) (st:List Int):(segA d st).length≤st.length:=c2l
theorem b4f {st:List Int} (h:a1t st=true) {a:Nat} (ha:a<st.length):∃m:Nat,st[a]=(m:Int)∧a0m (m:Int)=true∧st.getD a 0=(m:Int):=by
 unfold a1t at h;simp only [Bool.and_eq_true,List.all_eq_true]at h;have hs:=h.2 _ (List.getElem_mem ha);have h1:=hs;unfold a0m at h1;simp only [decide_eq_true_eq]at h1;obtain⟨m,hm⟩:=Int.eq_ofNat_of_zero_le (show 0≤st[a] by omega);refine⟨m,hm,by rw [←hm];exact hs,?_⟩;rw [List.getD_eq_getElem?_getD,List.getElem?_eq_getElem ha];exact hm
theorem c4e {st:List Int} {p:Pc} {a:Nat} (h:p.2=[]) (h1:p.1.1=(a:Int)):a3h st p=[(1,raw (st.getD a 0))]:=by
 unfold a3h;rw [if_pos h,h1,Int.toNat_natCast]
theorem b2p {st:List Int} {p:Pc} (h:p.2≠[]):a3h st p=(a0p p.2).1:=by
 unfold a3h;rw [if_neg h]
theorem b1h {s:Bs} (h:(a0p s).2=true):s.length≤60:=by
 by_cases hl:60<s.length
 ·unfold a0p at h;rw [if_pos hl]at h
  cases h
 ·omega
theorem b9r {s:Bs} (h:(a0p s).2=true):∀x∈(a0p s).1,atom x.1 x.2=true:=by
 unfold a0p at h⊢
 by_cases h0:60<s.length
 ·rw [if_pos h0]at h;cases h
 rw [if_neg h0]at h⊢
 cases hl:atoms (split 32 s) with
 |none=>rw [hl]at h;cases h
 |some l=>
  rw [hl]at h;simp only at h⊢
  by_cases h2:a8e l=true
  ·rw [if_pos h2];unfold a8e at h2;simp only [Bool.and_eq_true,List.all_eq_true]at h2;exact h2.2.1
  ·rw [if_neg h2]at h
   cases h
theorem b7r {st:List Int} {p:Pc} (h:p.2=[]∨(a0p p.2).2=true):∀x∈a3h st p,x.2.length≤46:=by
 intro x hx
 by_cases hp:p.2=[]
 ·unfold a3h at hx;rw [if_pos hp,List.mem_singleton]at hx;rw [hx];exact d4c _
 ·rw [b2p hp]at hx;have:=(b3h (b9r (h.resolve_left hp) x hx)).2;omega
theorem b7d {st:List Int} {l:List Pc} (h:∀p∈l,∃a k:Nat,a<st.length∧p.1=((a:Int),(k:Int))∧(p.2=[]∨(a0p p.2).2=true)):∀x∈a1y st l,x.2.length≤2^29:=by
 intro x hx;unfold a1y at hx;rw [List.mem_flatMap]at hx;obtain⟨p,hp,hx⟩:=hx;obtain⟨_,_,_,_,h3⟩:=h p hp;have:=b7r h3 x hx;omega
end Go.Proofs.YtggfdnopminemaaGreatDoor.P
namespace Go.Proofs.YtggfdnopminemaaGreatDoor
namespace P
theorem b2k (s:Bs):∀k:Nat,a2o s k≤k
 |0=>Nat.le_refl _
 |k+1=>by have:=b2k s k;unfold a2o;split<;>omega
theorem b7u {s:Bs} {k:Nat} (h:a7y s k=true):a2o s (k+1)=a2o s k+1:=by
 conv=>lhs;unfold a2o
 rw [if_pos h]
theorem c0d {s:Bs} {k:Nat} (h:a7y s k=false):a2o s (k+1)=a2o s k:=by
 conv=>lhs;unfold a2o
 rw [if_neg (by rw [h];decide)];rfl
theorem getD_at {s:Bs} {k:Nat} (h:k<s.length):s.getD k 0=s[k]:=by
 rw [List.getD_eq_getElem?_getD,List.getElem?_eq_getElem h];rfl
theorem b2x {s:Bs} {n k:Nat} (h:n+k=s.length) (hk:1≤k):∃hn:n<s.length,back s k=s[n]:=by
 refine⟨by omega,?_⟩;unfold back;rw [show s.length-k=n by omega,getD_at oZ]
theorem c6a {s:Bs} (h:0<s.length):a7y s 0=vow s[0]:=by
 unfold a7y;rw [getD_at h];simp
theorem c9m {s:Bs} {k:Nat} (h:k+1<s.length):a7y s (k+1)=(vow s[k+1]&&!vow (s[k]'(by omega))):=by
 unfold a7y;rw [getD_at h,Nat.add_sub_cancel,getD_at (show k<s.length by omega)];simp
end P
open Go Go.RowKit
set_option maxHeartbeats 8000000
set_option maxRecDepth 100000
theorem d3h (b:UInt8) (n:Nat) (hn:n<256):((b.toNat:Int)==(n:Int))=(b==UInt8.ofNat n):=by
 rw [Bool.eq_iff_iff];simp only [beq_iff_eq]
 constructor
 ·intro h;apply UInt8.toNat_inj.1;rw [UInt8.toNat_ofNat_of_lt' hn];omega
 ·intro h;rw [h,UInt8.toNat_ofNat_of_lt' hn]
namespace P
theorem d3o {b:UInt8} (h:(b.toNat:Int)<32∨126<(b.toNat:Int)):prn b=false:=by
 unfold prn
 rcases h with h|h
 ·rw [decide_eq_false oZ];rfl
 ·rw [decide_eq_false (p:=(b.toNat:Int)≤126) oZ,Bool.and_false]
theorem d4m {b:UInt8} (h:32≤(b.toNat:Int)) (h2:(b.toNat:Int)≤126):prn b=true:=by
 unfold prn;rw [decide_eq_true h,decide_eq_true h2];rfl
theorem b4r {s:Bs} {k:Nat} (h:k<s.length) (hb:prn s[k]=false):s.all prn=false:=by
 rw [List.all_eq_false];exact⟨s[k],List.getElem_mem h,by simp [hb]⟩
end P
theorem P.d2z {b:UInt8} (h:(b.toNat:Int)<65∨90<(b.toNat:Int)):P.upB b=false:=by
 unfold P.upB
 rcases h with h|h
 ·rw [decide_eq_false oZ];rfl
 ·rw [decide_eq_false (p:=(b.toNat:Int)≤90) oZ,Bool.and_false]
theorem P.d4p {b:UInt8} (h:65≤(b.toNat:Int)) (h2:(b.toNat:Int)≤90):P.upB b=true:=by
 unfold P.upB;rw [decide_eq_true h,decide_eq_true h2];rfl
abbrev stV (s:P.St):Value:=.agg #[.string (S s.text),.bool s.a0t,.bool s.a3j,.int .i64 s.cap,.int .i64 (s.word:Int)]
abbrev a2d (s:P.St):Obj:=.cells #[.string (S s.text),.bool s.a0t,.bool s.a3j,.int .i64 s.cap,.int .i64 (s.word:Int)] 225
theorem u8_sub {b:UInt8} (h:P.lower b=true):((b-32).toNat:Int)=(b.toNat:Int)-32∧97≤(b.toNat:Int)∧(b.toNat:Int)≤122:=by
 unfold P.lower at h;simp only [Bool.and_eq_true,decide_eq_true_eq]at h;have h1:32≤b:=by rw [UInt8.le_iff_toNat_le];show 32≤b.toNat;omega
 rw [UInt8.toNat_sub_of_le _ _ h1];refine⟨?_,h.1,h.2⟩
 show ((b.toNat-32:Nat):Int)=_
 omega
theorem u8_add {b:UInt8} (h:P.upB b=true):((b+32).toNat:Int)=(b.toNat:Int)+32∧65≤(b.toNat:Int)∧(b.toNat:Int)≤90:=by
 unfold P.upB at h;simp only [Bool.and_eq_true,decide_eq_true_eq]at h;rw [UInt8.toNat_add];refine⟨?_,h.1,h.2⟩
 show (((b.toNat+32) % 2^8:Nat):Int)=_
 omega
def a0u (b:Nat) (s:P.St) (v:World):Prop:=
 (v.cell? ⟨b,0,none⟩=some (.string (S s.text))∧v.cell? ⟨b,1,none⟩=some (.bool s.a0t)∧v.cell? ⟨b,2,none⟩=some (.bool s.a3j)∧v.cell? ⟨b,3,none⟩=some (.int .i64 s.cap)∧v.cell? ⟨b,4,none⟩=some (.int .i64 (s.word:Int))) ∧
 (v.frozen? ⟨b,0,none⟩=false∧v.frozen? ⟨b,1,none⟩=false∧v.frozen? ⟨b,2,none⟩=false∧v.frozen? ⟨b,3,none⟩=false∧v.frozen? ⟨b,4,none⟩=false)∧b<v.heap.size
theorem a0u.a0c {b:Nat} {s:P.St} {v v':World} {X:Blk} (h:a0u b s v) (hc:Chg X v v') (hX:¬X b):a0u b s v':=by
 obtain⟨⟨a0,a1,a2,a3,a4⟩,⟨f0,f1,f2,f3,f4⟩,hl⟩:=h
 exact⟨⟨(hc.cell (p:=⟨b,0,none⟩) hl hX).trans a0,(hc.cell (p:=⟨b,1,none⟩) hl hX).trans a1,(hc.cell (p:=⟨b,2,none⟩) hl hX).trans a2,(hc.cell (p:=⟨b,3,none⟩) hl hX).trans a3,(hc.cell (p:=⟨b,4,none⟩) hl hX).trans a4⟩,
  ⟨(hc.frozen (p:=⟨b,0,none⟩) hl hX).trans f0,(hc.frozen (p:=⟨b,1,none⟩) hl hX).trans f1,(hc.frozen (p:=⟨b,2,none⟩) hl hX).trans f2,(hc.frozen (p:=⟨b,3,none⟩) hl hX).trans f3,(hc.frozen (p:=⟨b,4,none⟩) hl hX).trans f4⟩,Nat.lt_of_lt_of_le hl hc.size⟩
theorem a0u.below {b:Nat} {s:P.St} {v v':World} (h:a0u b s v) (hb:Below v.heap.size v v'):a0u b s v':=h.a0c (Below.chg hb fun _=>False) fun h=>h
theorem a0u.new (s:P.St) (v:World):a0u v.heap.size s (v.alloc (a2d s)):=by
 refine⟨⟨?_,?_,?_,?_,?_⟩,⟨?_,?_,?_,?_,?_⟩,?_⟩<;>go_simp
theorem far {b i j:Nat} (h:i≠j):(⟨b,i,none⟩:Addr)≠⟨b,j,none⟩:=by intro e;injection e with _ e;exact h e
theorem a0u.text {b:Nat} {s:P.St} {v:World} (h:a0u b s v) (t:Str):a0u b { s with text:=t } (v.setCell ⟨b,0,none⟩ (.string (S t))):=by
 obtain⟨⟨a0,a1,a2,a3,a4⟩,⟨f0,f1,f2,f3,f4⟩,hl⟩:=h;refine⟨⟨World.cell?_setCell_same _ _ _ a0,?_,?_,?_,?_⟩,⟨by simpa using f0,by simpa using f1,by simpa using f2,by simpa using f3,by simpa using f4⟩,by simpa [World.setCell] using hl⟩
 all_goals (rw [World.cell?_setCell_other _ _ _ _ (far dZ)];assumption)
theorem a0u.a0t {b:Nat} {s:P.St} {v:World} (h:a0u b s v) (x:Bool):a0u b { s with a0t:=x } (v.setCell ⟨b,1,none⟩ (.bool x)):=by
 obtain⟨⟨a0,a1,a2,a3,a4⟩,⟨f0,f1,f2,f3,f4⟩,hl⟩:=h;refine⟨⟨?_,World.cell?_setCell_same _ _ _ a1,?_,?_,?_⟩,⟨by simpa using f0,by simpa using f1,by simpa using f2,by simpa using f3,by simpa using f4⟩,by simpa [World.setCell] using hl⟩
 all_goals (rw [World.cell?_setCell_other _ _ _ _ (far dZ)];assumption)
theorem a0u.a3j {b:Nat} {s:P.St} {v:World} (h:a0u b s v) (x:Bool):a0u b { s with a3j:=x } (v.setCell ⟨b,2,none⟩ (.bool x)):=by
 obtain⟨⟨a0,a1,a2,a3,a4⟩,⟨f0,f1,f2,f3,f4⟩,hl⟩:=h;refine⟨⟨?_,?_,World.cell?_setCell_same _ _ _ a2,?_,?_⟩,⟨by simpa using f0,by simpa using f1,by simpa using f2,by simpa using f3,by simpa using f4⟩,by simpa [World.setCell] using hl⟩
 all_goals (rw [World.cell?_setCell_other _ _ _ _ (far dZ)];assumption)
theorem a0u.cap {b:Nat} {s:P.St} {v:World} (h:a0u b s v) (x:Int):a0u b { s with cap:=x } (v.setCell ⟨b,3,none⟩ (.int .i64 x)):=by
 obtain⟨⟨a0,a1,a2,a3,a4⟩,⟨f0,f1,f2,f3,f4⟩,hl⟩:=h;refine⟨⟨?_,?_,?_,World.cell?_setCell_same _ _ _ a3,?_⟩,⟨by simpa using f0,by simpa using f1,by simpa using f2,by simpa using f3,by simpa using f4⟩,by simpa [World.setCell] using hl⟩
 all_goals (rw [World.cell?_setCell_other _ _ _ _ (far dZ)];assumption)
theorem a0u.word {b:Nat} {s:P.St} {v:World} (h:a0u b s v) (x:Nat):a0u b { s with word:=x } (v.setCell ⟨b,4,none⟩ (.int .i64 (x:Int))):=by
 obtain⟨⟨a0,a1,a2,a3,a4⟩,⟨f0,f1,f2,f3,f4⟩,hl⟩:=h;refine⟨⟨?_,?_,?_,?_,World.cell?_setCell_same _ _ _ a4⟩,⟨by simpa using f0,by simpa using f1,by simpa using f2,by simpa using f3,by simpa using f4⟩,by simpa [World.setCell] using hl⟩
 all_goals (rw [World.cell?_setCell_other _ _ _ _ (far dZ)];assumption)
abbrev st0:P.St:=⟨[],false,false,0,0⟩
def b0y (b:Nat) (k:Int) (t:Str) (v:World):Prop:=v.cell? ⟨b,0,none⟩=some (.int .i64 k)∧v.cell? ⟨b,1,none⟩=some (.string (S t))∧b<v.heap.size
theorem b0y.below {b:Nat} {k:Int} {t:Str} {v v':World} (h:b0y b k t v) (hb:Below v.heap.size v v'):b0y b k t v':=
 ⟨(hb.cell (p:=⟨b,0,none⟩) h.2.2).trans h.1,(hb.cell (p:=⟨b,1,none⟩) h.2.2).trans h.2.1,Nat.lt_of_lt_of_le h.2.2 hb.size⟩
theorem b0y.new (k:Int) (t:Str) (T:TypeId) (v:World):b0y v.heap.size k t (v.alloc (.cells #[.int .i64 k,.string (S t)] T)):=⟨by go_simp,by go_simp,by simp⟩
def SAp (w:World) (s:P.St) (k:Int) (t:Str) (v:World):Prop:=a0u w.heap.size s v∧b0y (w.heap.size+1) k t v∧a0u (w.heap.size+1+1) st0 v∧Below w.heap.size w v
theorem SAp.below {w v v':World} {s:P.St} {k:Int} {t:Str} (h:SAp w s k t v) (hb:Below v.heap.size v v'):SAp w s k t v':=⟨h.1.below hb,h.2.1.below hb,h.2.2.1.below hb,h.2.2.2.trans (hb.mono h.2.2.2.size)⟩
theorem SAp.new (w:World) (s:P.St) (k:Int) (t:Str):SAp w s k t (((w.alloc (a2d s)).alloc (.cells #[.int .i64 k,.string (S t)] 177)).alloc (a2d st0)):=by
 have b1:Below w.heap.size w (w.alloc (a2d s)):=bZ.alloc lZ _;have b2:=(Below.refl (w.alloc (a2d s)).heap.size (w.alloc (a2d s))).alloc lZ (.cells #[.int .i64 k,.string (S t)] 177);have b3:=(Below.refl ((w.alloc (a2d s)).alloc (.cells #[.int .i64 k,.string (S t)] 177)).heap.size ((w.alloc (a2d s)).alloc (.cells #[.int .i64 k,.string (S t)] 177))).alloc lZ (a2d st0);refine⟨((a0u.new s w).below b2).below b3,?_,?_,?_⟩
 ·have h:=(b0y.new k t 177 (w.alloc (a2d s))).below b3;simpa using h
 ·have h:=a0u.new st0 ((w.alloc (a2d s)).alloc (.cells #[.int .i64 k,.string (S t)] 177));simpa using h
 ·exact ((b1.trans (b2.mono sZ)).trans (b3.mono (by simp;omega)))
theorem b0y.a0c {b:Nat} {k:Int} {t:Str} {v v':World} {X:Blk} (h:b0y b k t v) (hc:Chg X v v') (hX:¬X b):b0y b k t v':=
 ⟨(hc.cell (p:=⟨b,0,none⟩) h.2.2 hX).trans h.1,(hc.cell (p:=⟨b,1,none⟩) h.2.2 hX).trans h.2.1,Nat.lt_of_lt_of_le h.2.2 hc.size⟩
theorem SAp.turn {w v v':World} {s s':P.St} {k:Int} {t:Str} (h:SAp w s k t v) (hc:Chg (fun b=>b=w.heap.size) v v') (h1:a0u w.heap.size s' v'):SAp w s' k t v':=
 ⟨h1,h.2.1.a0c hc oZ,h.2.2.1.a0c hc oZ,h.2.2.2.trans (hc.below (Nat.le_of_lt h.1.2.2) (fun b e=>by omega))⟩
theorem Chg.put {b i:Nat} {w v:World} (h:Chg (fun x=>x=b) w v) (x:Value):Chg (fun x=>x=b) w (v.setCell ⟨b,i,none⟩ x):=h.setCell (p:=⟨b,i,none⟩) rfl x
theorem SAp.state {w v:World} {s:P.St} {k:Int} {t:Str} (h:SAp w s k t v) (tx:Str) (jn gl:Bool) (cp:Int) (wd:Nat) :
 SAp w ⟨tx,jn,gl,cp,wd⟩ k t (((((v.setCell ⟨w.heap.size,0,none⟩ (.string (S tx))).setCell ⟨w.heap.size,1,none⟩ (.bool jn)).setCell ⟨w.heap.size,2,none⟩ (.bool gl)).setCell ⟨w.heap.size,3,none⟩ (.int .i64 cp)).setCell ⟨w.heap.size,4,none⟩ (.int .i64 (wd:Int))):=
 h.turn (((((Chg.put (Chg.refl _ _) _).put _).put _).put _).put _) (((((h.1.text tx).a0t jn).a3j gl).cap cp).word wd)
theorem SAp.jg {w v:World} {s:P.St} {k:Int} {t:Str} (h:SAp w s k t v) (jn gl:Bool) :
 SAp w { s with a0t:=jn,a3j:=gl } k t ((v.setCell ⟨w.heap.size,1,none⟩ (.bool jn)).setCell ⟨w.heap.size,2,none⟩ (.bool gl)):=
 h.turn ((Chg.put (Chg.refl _ _) _).put _) ((h.1.a0t jn).a3j gl)
theorem SAp.wd {w v:World} {s:P.St} {k:Int} {t:Str} (h:SAp w s k t v) (n:Nat):SAp w { s with word:=n } k t (v.setCell ⟨w.heap.size,4,none⟩ (.int .i64 (n:Int))):=
 h.turn (Chg.put (Chg.refl _ _) _) (h.1.word n)
theorem SAp.tx {w v:World} {s:P.St} {k:Int} {t:Str} (h:SAp w s k t v) (x:Str):SAp w { s with text:=x } k t (v.setCell ⟨w.heap.size,0,none⟩ (.string (S x))):=
 h.turn (Chg.put (Chg.refl _ _) _) (h.1.text x)
section
section
variable {α:Type} {E:ElT α} {wd:Nat}
variable {e:TypeId} {B:Nat} {v v':World} {u:Value} {G:Nat→Blk} {C:Nat→List Value} {l:List α}
end
end
section
section
theorem a6o {w v:World} {row:Option Nat} (h:w.grownBy v row):Chg (fun b=>row=some b) w v:=⟨h.os,h.tape,h.output,h.size,fun b hb hx=>h.block b hb (fun e=>hx e.symm)⟩
variable {w:World} {R N:Nat} {u:Value} {G:Nat→Blk} {l0:P.Tri} {t:Bool} {x:Str} {v v':World} {ur:Value} {Gr:Nat→Blk} {Cr:Nat→List Value} {lr:P.Tri} {su cu:Value} {s c:List Int}
end
end
section
section
theorem b1c {v:World} {B:Nat} {e:TypeId} {z:Nat} {u:Value} {n:Nat} {xs:List Value} (h:v.ownsRow B e z u n xs):∃ad cap,u=.slice ad n cap:=by
 exact zq18
end
section
namespace P
def front (d:Nat):Dic→Dic
 |[]=>[]
 |e::l=>e::l.takeWhile fun x=>a3x d x==a3x d e
def behind (d:Nat):Dic→Dic
 |[]=>[]
 |e::l=>l.dropWhile fun x=>a3x d x==a3x d e
end P
end
end
section
section
def d4k (l:List Int) (w:World) (e:Ending) (w':World):Prop:=∃u,e=.returned u∧w'.ownsRow w.heap.size 3 1 u l.length (ints l)∧Below w.heap.size w w'
theorem a7n (u:Value) (l:List Int) (w:World) (hu:IntR w u l) (hl:l.length≤2^30) :
 Calls Tryz.prog 133 #[u] w (d4k l w):=by
 obtain⟨i0,hi,hz0,hz1,hz2⟩:=info_parts a1z
 have hb0:=(Below.refl w.heap.size w).alloc lZ (.cells #[] 3)
 have HSRC:=qh (a5z (hu.below hb0))
 have HB:=qh hb0;clear hb0
 have HOWN:=qh (World.ownsRow_lit (base:=w.heap.size) (e:=3) (size:=1) w #[] 0 lZ (Nat.zero_le _) sZ)
 obtain⟨ad,cap,rfl,_,_⟩:=hu
 go_enter Tryz.func133,Tryz.ntmps133
 go_wp2_with (at_builtin;refine a0z rfl _ _ 33 rfl w.heap.size 3 i0 (.int .i64 0) 1 8 Tryz.underlying33 hi hz0 hz1 hz2 rfl dZ _ 0 [] rfl HOWN.o _ l.length (ints l) rfl HSRC.o ?_ ?_ sZ ?_)
 ·unfold maxLen;omega
 ·omega
 intro v' w' hown hgr _
 have HOW:=qh hown
 have HBB:=qh (HB.o.grown hgr sZ (fun k hk=>by simp [Value.ownBlock]at hk;omega))
 clear hown hgr
 go_wp2
 go_ret
 refine⟨_,rfl,?_,HBB.o⟩
 exact HOW.o
theorem IntR.chg {v v':World} {u:Value} {l:List Int} {X:Blk} (h:IntR v u l) (hc:Chg X v v') (hX:∀b,u.ownBlock=some b→¬X b):IntR v' u l:=by
 obtain⟨ad,cap,h1,h2,hn,h3⟩:=h;refine⟨ad,cap,h1,h2,hn,h3.imp id ?_⟩;rintro⟨g,o,h4,h5,h6⟩;exact⟨g,o,h4,Nat.lt_of_lt_of_le h5 hc.size,fun j hj=>(hc.cell (p:=⟨g,_,none⟩) h5 (hX g (by rw [h1,h4];rfl))).trans (h6 j hj)⟩
variable {w:World} {R N:Nat} {tv u x y:Value} {tt:Bool} {ss:Str} {n1:Nat} {u1:Value} {es1:P.Dic} {xs1:List Value} {v v':World}
end
section
namespace P
end P
end
end
section
theorem a1n {v:World} {B B':Nat} {e:TypeId} {z:Nat} {u:Value} {n:Nat} {xs:List Value} (h:v.ownsRow B e z u n xs) (hB:B'≤B):v.ownsRow B' e z u n xs:=
 ⟨h.1,h.2.imp id fun⟨g,cap,cur,hv,hg,r⟩=>⟨g,cap,cur,hv,Nat.le_trans hB hg,r⟩⟩
end
namespace P
def b5u (o:List Int) (l:Dic):Bs×Bool:=if dic l then (a3e o l,hasE o l) else ([],false)
end P
def c2u (o:List Int) (l:P.Dic) (w:World) (e:Ending) (w':World):Prop:=e=.returned (.tuple #[.string (S (P.a3e o l)),.bool (P.hasE o l)])∧Below w.heap.size w w'
theorem l6Find (dv ov:Value) (l:P.Dic) (o:List Int) (w:World) (hu:EntR w dv l) (ho:IntR w ov o) :
 Calls Tryz.prog 238 #[.agg #[dv],ov] w (c2u o l w):=by
 have hb0:=(Below.refl w.heap.size w).alloc lZ (.cells #[dv] 26)
 have HU:=qh (hu.below hb0);have HO:=qh (ho.below hb0);have HB0:=qh hb0
 have HBX:=qh (Box1.new dv 26 w)
 have hl0:=P.a7l o l;have hl1:=P.b5j (o:=o) (l:=l)
 obtain⟨ad,cap,rfl,hll,_⟩:=hu
 obtain⟨od,oc,rfl,_,_⟩:=ho
 clear hb0
 go_enter Tryz.func238,Tryz.ntmps238
 go_wp2_with fail
 refine (l6At _ _ l o _ HU.o HO.o).mono ?_
 rintro e w1 ⟨rfl,hb⟩
 have HU1:=qh (HU.o.below hb)
 obtain⟨b0,_⟩:=HBX.o.below hb
 have HB1:=qh (HB0.o.trans (hb.mono sZ))
 clear hb HU HO HB0 HBX
 by_cases hneg:P.place o l<0
 ·have HN:=qh (show P.hasE o l=false by unfold P.hasE;exact decide_eq_false oZ);go_wp2;refine bodyPost_ret (v:=.tuple #[.string (S []),.bool false]) (by simp [results,Tryz.results238,go_sem]) rfl ⟨by rw [P.a9p HN.o,HN.o],HB1.o⟩
 ·have HN:=qh (show P.hasE o l=true by unfold P.hasE;exact decide_eq_true oZ);obtain⟨i,hi⟩:=Int.eq_ofNat_of_zero_le (show 0≤P.place o l by omega);have hil:i<l.length:=by omega
  obtain⟨g,p,rfl,hgl,x,c0,c1,hx⟩:=HU1.o.at i hil;rw [P.a7c hi hil]at c1;rw [hi]at hneg⊢;have i1:(i:Int)<(l.length:Int):=by omega
  clear hl0 hl1 hi c0 hx;go_wp2;refine bodyPost_ret (v:=.tuple #[.string (S (P.a3e o l)),.bool true]) (by simp [results,Tryz.results238,go_sem]) rfl ⟨by rw [HN.o],HB1.o⟩
theorem b7f (dv ov:Value) (l:P.Dic) (o:List Int) (w:World) (hu:EntR w dv l) (ho:IntR w ov o) :
 Calls Tryz.prog 228 #[.agg #[dv],ov] w (c2u o l w):=by
 have hb0:=(Below.refl w.heap.size w).alloc lZ (.cells #[dv] 26)
 have HU:=qh (hu.below hb0);have HO:=qh (ho.below hb0);have HB0:=qh hb0
 have HBX:=qh (Box1.new dv 26 w)
 have hl0:=P.a7l o l;have hl1:=P.b5j (o:=o) (l:=l)
 obtain⟨ad,cap,rfl,hll,_⟩:=hu
 obtain⟨od,oc,rfl,_,_⟩:=ho
 clear hb0
 go_enter Tryz.func228,Tryz.ntmps228
 go_wp2_with fail
 refine (c7v _ _ l o _ HU.o HO.o).mono ?_
 rintro e w1 ⟨rfl,hb⟩
 have HU1:=qh (HU.o.below hb)
 obtain⟨b0,_⟩:=HBX.o.below hb
 have HB1:=qh (HB0.o.trans (hb.mono sZ))
 clear hb HU HO HB0 HBX
 by_cases hneg:P.place o l<0
 ·have HN:=qh (show P.hasE o l=false by unfold P.hasE;exact decide_eq_false oZ);go_wp2;refine bodyPost_ret (v:=.tuple #[.string (S []),.bool false]) (by simp [results,Tryz.results228,go_sem]) rfl ⟨by rw [P.a9p HN.o,HN.o],HB1.o⟩
 ·have HN:=qh (show P.hasE o l=true by unfold P.hasE;exact decide_eq_true oZ);obtain⟨i,hi⟩:=Int.eq_ofNat_of_zero_le (show 0≤P.place o l by omega);have hil:i<l.length:=by omega
  obtain⟨g,p,rfl,hgl,x,c0,c1,hx⟩:=HU1.o.at i hil;rw [P.a7c hi hil]at c1;rw [hi]at hneg⊢;have i1:(i:Int)<(l.length:Int):=by omega
  clear hl0 hl1 hi c0 hx;go_wp2;refine bodyPost_ret (v:=.tuple #[.string (S (P.a3e o l)),.bool true]) (by simp [results,Tryz.results228,go_sem]) rfl ⟨by rw [HN.o],HB1.o⟩
theorem c0y (dv ov:Value) (l:P.Dic) (o:List Int) (w:World) (hu:EntR w dv l) (ho:IntR w ov o) (hs:Small l) (hE:Env w) :
 Calls Tryz.prog 211 #[.agg #[dv],ov] w fun e w'=>e=.returned (.tuple #[.string (S (P.b5u o l).1),.bool (P.b5u o l).2])∧Below w.heap.size w w':=by
 have hb0:=(Below.refl w.heap.size w).alloc lZ (.cells #[dv] 26)
 have HU:=qh (hu.below hb0);have HO:=qh (ho.below hb0);have HB0:=qh hb0
 have HBX:=qh (Box1.new dv 26 w);have HSM:=qh hs
 have HE:=qh (hE.below hb0 hE.size)
 obtain⟨ad,cap,rfl,hll,_⟩:=hu
 obtain⟨od,oc,rfl,_,_⟩:=ho
 clear hb0 hs
 go_enter Tryz.func211,Tryz.ntmps211
 go_wp2_with fail
 refine (a0v _ l _ HU.o HSM.o.texts HE.o).mono ?_
 rintro e w1 ⟨rfl,hb⟩
 have HU1:=qh (HU.o.below hb);have HO1:=qh (HO.o.below hb)
 obtain⟨b0,_⟩:=HBX.o.below hb
 have HB1:=qh (HB0.o.trans (hb.mono sZ))
 clear hb HU HO HB0 HBX
 cases hd:P.dic l
 ·have HD:=qh (show P.b5u o l=([],false) by unfold P.b5u;rw [hd];rfl);clear hd;go_wp2;refine bodyPost_ret (v:=.tuple #[.string (S []),.bool false]) (by simp [results,Tryz.results211,go_sem]) rfl ⟨by rw [HD.o],HB1.o⟩
 ·have HD:=qh (show P.b5u o l=(P.a3e o l,P.hasE o l) by unfold P.b5u;rw [hd];rfl);clear hd
  go_wp2_with fail
  refine (b7f _ _ l o _ HU1.o HO1.o).mono ?_;rintro e w2 ⟨rfl,hb⟩;have HB2:=bt HB1 hb;clear hb;go_wp2;refine bodyPost_ret (v:=.tuple #[.string (S (P.a3e o l)),.bool (P.hasE o l)]) (by simp [results,Tryz.results211,go_sem]) rfl ⟨by rw [HD.o],HB2.o⟩
namespace P
end P
theorem d4y:(Tryz.prog.info? 33).map (fun i=>(i.zero,i.size,i.bytes))=some (some (.slice none 0 0),1,24):=by kernel_rfl
end Go.Proofs.YtggfdnopminemaaGreatDoor
