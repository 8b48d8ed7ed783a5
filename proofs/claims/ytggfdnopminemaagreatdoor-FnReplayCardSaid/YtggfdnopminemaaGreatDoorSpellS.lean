/- Plain: the trie of a. -/
import Derived.Test.YtggfdnopminemaaGreatDoorPlainFmtK
set_option linter.all false
namespace Go.Proofs.YtggfdnopminemaaGreatDoor
open Go.Proofs.Tryz
namespace P
abbrev Nd:=List Int×List Int×Bool×Bs
abbrev Tri:=List Nd
def a7v (d:Nat) (e:Ent):Int:=e.1.getD d 0
def c9w (d:Nat):Nat->Dic->List Dic
 |0,_=>[]
 |_+1,[]=>[]
 |n+1,e::l=>(e::l.takeWhile λx=>a7v d x==a7v d e)::c9w d n (l.dropWhile λx=>a7v d x==a7v d e)
def d2c (d:Nat):Dic->Int
 |[]=>0
 |e::_=>a7v d e
def kids (B:Nat->Dic->Tri) (d:Nat):Nat->List Dic->List Int×List Int×Tri
 |_,[]=>([],[],[])
 |next,g::gs=>(d2c d g::(kids B d (next+(B next g).length) gs).1,(next:Int)::(kids B d (next+(B next g).length) gs).2.1,B next g++(kids B d (next+(B next g).length) gs).2.2)
def rest (d:Nat):Dic->Dic
 |[]=>[]
 |e::l=>if e.1.length=d then l else e::l
def e4r (d:Nat):Dic->Bool×Bs
 |[]=>(false,[])
 |e::_=>if e.1.length=d then (true,e.2) else (false,[])
def build:Nat->Nat->Nat->Dic->Tri
 |0,_,_,_=>[]
 |f+1,d,base,es=>
  ((kids (λb g=>build f (d+1) b g) d (base+1) (c9w d es.length (rest d es))).1,(kids (λb g=>build f (d+1) b g) d (base+1) (c9w d es.length (rest d es))).2.1,e4r d es) ::
   (kids (λb g=>build f (d+1) b g) d (base+1) (c9w d es.length (rest d es))).2.2
def trie (l:Dic):Tri:=build 7 0 0 l
theorem a4d {l:Dic} (h:dic l=true):l.length<=40/\(∀e∈l,entry e=true)/\l.Pairwise lt:=by
 unfold dic at h;rw [Bool.and_eq_true,Bool.and_eq_true,decide_eq_true_eq,List.all_eq_true,a2q]at h;exact h
theorem a7y {e:Ent} (h:entry e=true):1<=e.1.length/\e.1.length<=6/\∀s∈e.1,a0q s=true:=by
 unfold entry a0k at h;rw [Bool.and_eq_true,Bool.and_eq_true,decide_eq_true_eq,List.all_eq_true]at h;exact⟨by omega,by omega,h.1.2⟩
def nd0:Nd:=([],[],false,[])
def readK (R:Int->List Int->Nat->Option (Nat×Dic)) (o:List Int):List (Int×Int)->Nat->Option (Nat×Dic)
 |[],nx=>some (nx,[])
 |(s,c)::l,nx=>match R c (o++[s]) nx with
  |none=>none
  |some (n1,e1)=>match readK R o l n1 with
   |none=>none
   |some (n2,e2)=>some (n2,e1++e2)
def own (o:List Int) (n:Nd):Dic:=if n.2.2.1 then [(o,n.2.2.2)] else []
def read (t:Tri):Nat->Int->List Int->Nat->Option (Nat×Dic)
 |0,_,_,_=>none
 |f+1,k,o,nx=>
  if k=(nx:Int)/\nx<t.length then
   if (t.getD nx nd0).1.length=(t.getD nx nd0).2.1.length then
    (readK (read t f) o ((t.getD nx nd0).1.zip (t.getD nx nd0).2.1) (nx+1)).map λr=>(r.1,own o (t.getD nx nd0)++r.2)
   else none
  else none
def upto (ch:Nat->List Int):Nat->List Int
 |0=>[]
 |k+1=>upto ch k++ch k
end P
namespace P
def a3n (o:List Int):Bool:=decide (o.length<=60)&&o.all a0q
end P
end Go.Proofs.YtggfdnopminemaaGreatDoor
namespace Go.Proofs.YtggfdnopminemaaGreatDoor.P
open Go.Proofs.Tryz
variable {s t:Bs} {d:Dic} {x:Int} {L:List Bs} {acc l o st:List Int} {a k:Nat} {b:UInt8}
abbrev Edit:=Int×Bs
abbrev Tr:=List Int×Bs
def a3o (st:List Int) (p:Pc):List (Int×Bs):=if p.2=[] then [(1,raw (st.getD p.1.1.toNat 0))] else (a0o p.2).1
def a1b (st:List Int) (l:List Pc):List (Int×Bs):=l.flatMap (a3o st)
def scrA (d:Dic) (st:List Int):Bs×Bool:=render (a1b st (segA d st))
def scr (d:Dic) (st:List Int):Bs×Bool:=if dic d&&a3n st then scrA d st else ([],false)
theorem b4q (st:List Int) (l:List Pc) (p:Pc):a1b st (l++[p])=a1b st l++a3o st p:=by
 unfold a1b;rw [List.flatMap_append];simp
theorem b3x (s:Bs):(a0o s).1.length<=10:=by
 unfold a0o
 split
 .simp
 split
 .simp
 .split
  .rename_i h
   unfold b1a at h;simp only [Bool.and_eq_true,decide_eq_true_eq]at h;have h1:=h.1.2;simp only;omega
  .simp
theorem c7m (st:List Int) (p:Pc):(a3o st p).length<=10:=by
 unfold a3o
 split
 .simp
 .exact b3x _
theorem a8i (st:List Int):∀(l:List Pc),(a1b st l).length<=10*l.length
 |[]=>by simp [a1b]
 |p::l=>by
  have h1:=a8i st l;have h2:=c7m st p;unfold a1b at *;rw [List.flatMap_cons,List.length_append,List.length_cons];omega
theorem d4x (h:(scr d st).2=true):dic d=true/\a3n st=true/\scr d st=scrA d st:=by
 unfold scr at h⊢
 split at h
 .rename_i hc
  have hc':=hc;simp only [Bool.and_eq_true]at hc;exact⟨hc.1,hc.2,by rw [if_pos hc']⟩
 .cases h
theorem scr_no (h:(scr d st).2=false):(scr d st).1=[]:=by
 unfold scr at h⊢
 split
 .rename_i hc
  rw [if_pos hc]at h;exact (c4s _).2.2 h
 .rfl
def a3u (s:Bs):Bool:=decide ((s.length:Int)<=2000)&&s.all prn
theorem a5n (d:Dic) (st:List Int):a3u (scr d st).1=true:=by
 unfold a3u scr;simp only [Bool.and_eq_true,decide_eq_true_eq,List.all_eq_true]
 split
 .have:=d1o (a1b st (segA d st));unfold scrA;exact⟨by omega,this.2⟩
 .exact⟨by simp,by simp⟩
theorem a4k (h:a3u s=true):s.length<=2000:=by
 unfold a3u at h;simp only [Bool.and_eq_true,decide_eq_true_eq]at h;omega
theorem b7m (d:Dic) (st:List Int):(scr d st).1.length<=2000:=a4k (a5n d st)
theorem a4w (h:a3n st=true):st.length<=60:=by
 unfold a3n at h;simp only [Bool.and_eq_true,decide_eq_true_eq]at h;exact h.1
def lcp:Bs->Bs->Nat
 |a::x,b::y=>if a=b then lcp x y+1 else 0
 |_,_=>0
def least (a b:Bs):Edit:=(((a.length-lcp a b:Nat):Int),b.drop (lcp a b))
theorem b5z:∀(n:Nat) (a b:Bs),a.take n=b.take n->n<=a.length->n<=b.length->(n=a.length\/n=b.length\/∃(h1:n<a.length) (h2:n<b.length),a[n]≠b[n])->lcp a b=n
 |0,a,b,_,_,_,h=>by
  cases a with
  |nil=>simp [lcp]
  |cons a x=>
   cases b with
   |nil=>simp [lcp]
   |cons b y=>
    rcases h with h|h|⟨_,_,h⟩
    .simp at h
    .simp at h
    .unfold lcp;rw [if_neg (by simpa using h)]
 |n+1,a,b,ht,h1,h2,h=>by
  cases a with
  |nil=>simp at h1
  |cons a x=>
   cases b with
   |nil=>simp at h2
   |cons b y=>
    simp only [List.take_succ_cons,List.cons.injEq,List.length_cons]at ht h1 h2 h;unfold lcp;rw [if_pos ht.1,b5z n x y ht.2 oZ oZ ?_]
    rcases h with h|h|⟨h3,h4,h⟩
    .exact .inl oZ
    .exact .inr (.inl oZ)
    .exact .inr (.inr ⟨by simpa using h3,by simpa using h4,by simpa using h⟩)
def a4g (e:Edit):Bool:=decide (0<=e.1/\e.1<=2000)&&a3u e.2
theorem c5x (h:a3u s=true) (n:Nat):a3u (s.drop n)=true:=by
 unfold a3u at h⊢;simp only [Bool.and_eq_true,decide_eq_true_eq,List.all_eq_true]at h⊢;exact⟨by rw [List.length_drop];omega,λx hx=>h.2 x (List.mem_of_mem_drop hx)⟩
theorem b2l {a b:Bs} (ha:a3u a=true) (hb:a3u b=true):a4g (least a b)=true:=by
 have:=a4k ha;unfold a4g least;rw [c5x hb,decide_eq_true (by simp only;omega)];rfl
def trans (d:Dic) (t:Tr):Bool:=(scr d t.1).2&&((scr d t.1).1==t.2&&!t.1.contains 1024)
def next (l:List Int) (k:Int):List Int:=if k=1024 then l.take (l.length-1) else l++[k]
def tr0:Tr:=([],[])
def b4u (d:Dic) (t:Tr) (k:Int):(Tr×Edit)×Bool:=if (scr d (next t.1 k)).2 then (((next t.1 k,(scr d (next t.1 k)).1),least t.2 (scr d (next t.1 k)).1),true) else ((tr0,(0,[])),false)
def a6q (d:Dic) (t:Tr) (k:Int):(Tr×Edit)×Bool:=if trans d t&&a0q k then b4u d t k else ((tr0,(0,[])),false)
def d7r (d:Dic) (st:List Int):Nat->Option (List Edit×Tr)
 |0=>some ([],tr0)
 |j+1=>(d7r d st j).bind λr=>if (a6q d r.2 (st.getD j 0)).2 then some (r.1++[(a6q d r.2 (st.getD j 0)).1.2],(a6q d r.2 (st.getD j 0)).1.1) else none
def replay (d:Dic) (st:List Int):(List Edit×Tr)×Bool:=if dic d&&decide (st.length<=120) then (match d7r d st st.length with
 |none=>(([],tr0),false)
 |some r=>(r,true)) else (([],tr0),false)
theorem a2c {t:Tr} (h:trans d t=true):(scr d t.1).2=true/\(scr d t.1).1=t.2/\t.1.contains 1024=false:=by
 unfold trans at h;simp only [Bool.and_eq_true,beq_iff_eq,Bool.not_eq_true']at h;exact h
theorem a2l {t:Tr} (h:trans d t=true):a3u t.2=true:=(a2c h).2.1 ▸ a5n d t.1
theorem e0q (h:(scr d l).2=true) (h2:l.contains 1024=false):trans d (l,(scr d l).1)=true:=by
 unfold trans;simp only [h,h2,beq_self_eq_true];rfl
theorem d7j {k:Int} (h:l.contains 1024=false):(next l k).contains 1024=false:=by
 unfold next;simp only [List.contains_eq_mem,decide_eq_false_iff_not]at h⊢
 split
 .exact λhm=>h (List.mem_of_mem_take hm)
 .rename_i hk
  rw [List.mem_append,List.mem_singleton];rintro (hm|hm)
  .exact h hm
  .exact hk hm.symm
theorem e0n {t:Tr} {k:Int} (h:(a6q d t k).2=true):trans d t=true/\a0q k=true/\(scr d (next t.1 k)).2=true/\(a6q d t k).1=((next t.1 k,(scr d (next t.1 k)).1),least t.2 (scr d (next t.1 k)).1):=by
 unfold a6q at h⊢
 split at h
 .rename_i hc
  have hc':=hc;simp only [Bool.and_eq_true]at hc;rw [if_pos hc'];unfold b4u at h⊢
  split at h
  .rename_i h2
   rw [if_pos h2];exact⟨hc.1,hc.2,h2,rfl⟩
  .cases h
 .cases h
theorem b1l {t:Tr} {k:Int} (h:(a6q d t k).2=true):trans d (a6q d t k).1.1=true:=by
 obtain⟨h1,_,h3,h4⟩:=e0n h;rw [h4];exact e0q h3 (d7j (a2c h1).2.2)
def sub1 (a b:UInt8) (x:UInt8):UInt8:=if x=a then b else x
theorem c2m (a b:UInt8):∀(n:Nat) (s:Bs),s.length<=n->Go.Lib.replaceK [a] [b] (s.count a) s=s.map (sub1 a b)
 |n,s,hn=>by
  by_cases ha:a∈s
  .obtain⟨x,y,hs,hx⟩:=a2k a s ha;have hxm:a∉x:=λh=>hx a h rfl;subst hs
   have hc:(x++a::y).count a=y.count a+1:=by
    rw [List.count_append,List.count_cons_self,List.count_eq_zero.2 hxm];omega
   have hxmap:x.map (sub1 a b)=x:=by
    rw [List.map_congr_left (g:=id) (λz hz=>by unfold sub1;rw [if_neg (hx z hz)];rfl),List.map_id]
   match n,hn with
   |0,hn=>simp at hn
   |n+1,hn=>
    rw [hc,Go.Lib.replaceK_hit _ _ _ _ x.length (b8a a y x hx)];rw [List.take_left,show (x++a::y).drop (x.length+[a].length)=y by rw [show x++a::y=(x++[a])++y by simp,show x.length+[a].length=(x++[a]).length by simp,List.drop_left]];rw [c2m a b n y (by simp at hn;omega),List.map_append,hxmap,List.map_cons];have:sub1 a b a=b:=if_pos rfl;rw [this];simp
  .rw [List.count_eq_zero.2 ha];rw [List.map_congr_left (g:=id) (λz hz=>by unfold sub1;rw [if_neg (λe:z=a=>ha (by rw [<-e];exact hz))];rfl),List.map_id];rfl
theorem b8k {a:UInt8} (hab:a≠b) (s:Bs):Go.Lib.replaceAll s [a] [b]=s.map (sub1 a b):=by
 unfold Go.Lib.replaceAll Go.Lib.replace Go.Lib.replaceNum;rw [if_neg (by simpa using hab),if_pos (.inl dZ),Go.Lib.count_one];exact c2m a b s.length s lZ
theorem c2b (l:List Bs) (y sep:Bs) (hl:l≠[]):Go.Lib.join (l++[y]) sep=Go.Lib.join l sep++sep++y:=by
 cases l with
 |nil=>exact absurd rfl hl
 |cons x r=>
  rw [List.cons_append,Go.Lib.join_cons,Go.Lib.join_cons];unfold Go.Lib.joinTail;simp [List.append_assoc]
theorem c0r (l:List Bs) (c:UInt8) (m:Nat) (h:∀x∈l,x.length<=m):(Go.Lib.join l [c]).length<=l.length*(m+1):=by
 cases l with
 |nil=>simp [Go.Lib.join_nil]
 |cons x r=>
  have hx:=h x sZ;rw [Go.Lib.join_cons,List.length_append]
  have key:∀r:List Bs,(∀x∈r,x.length<=m)->(Go.Lib.joinTail [c] r).length<=r.length*(m+1):=by
   intro r
   induction r with
   |nil=>intro _;simp [Go.Lib.joinTail]
   |cons y r ih=>
    intro h;have h1:=ih (λz hz=>h z (by simp [hz]));have h2:=h y sZ;unfold Go.Lib.joinTail at h1⊢;simp only [List.map_cons,List.flatten_cons,List.length_append,List.length_cons,List.length_nil]at h1⊢;have e:(r.length+1)*(m+1)=r.length*(m+1)+(m+1):=Nat.succ_mul _ _;omega
  have h3:=key r (λz hz=>h z (by simp [hz]));have e:(x::r).length*(m+1)=r.length*(m+1)+(m+1):=by rw [List.length_cons];exact Nat.succ_mul _ _
  omega
def fmtS (c:UInt8) (st:List Int):Bs:=Go.Lib.join (st.map fmt) [c]
theorem d8v (c:UInt8) (k:Int):fmtS c [k]=fmt k:=Go.Lib.join_one _ _
theorem d3b (c:UInt8) (st:List Int) (k:Int) (h:st≠[]):fmtS c (st++[k])=fmtS c st++[c]++fmt k:=by
 unfold fmtS;rw [List.map_append];exact c2b _ _ _ (by simpa using h)
theorem a5h (c:UInt8) (st:List Int):(fmtS c st).length<=st.length*47:=by
 have h:=c0r (st.map fmt) c 46 (λx hx=>by obtain⟨k,_,rfl⟩:=List.mem_map.1 hx;exact a8o k)
 rwa [List.length_map]at h
def b6e (b:UInt8):Nat->Nat->Nat
 |0,k=>k
 |n+1,k=>if lab k=b then k else b6e b n (k+1)
def keyOf (b:UInt8) (k:Nat):Nat:=b6e b (23-k) k
theorem c4b (hk:k<23) (h:lab k=b):keyOf b k=k:=by
 unfold keyOf;obtain⟨n,hn⟩:∃n,23-k=n+1:=⟨22-k,by omega⟩;rw [hn];unfold b6e;rw [if_pos h]
theorem d1q (hk:k<23) (h:lab k≠b):keyOf b k=keyOf b (k+1):=by
 unfold keyOf;obtain⟨n,hn⟩:∃n,23-k=n+1:=⟨22-k,by omega⟩;rw [hn,show 23-(k+1)=n by omega]
 conv=>lhs;unfold b6e
 rw [if_neg h]
theorem d4k (hk:23<=k):keyOf b k=k:=by
 unfold keyOf;rw [show 23-k=0 by omega];rfl
theorem d0i (b:UInt8):∀(n k:Nat),k<=b6e b n k/\b6e b n k<=k+n
 |0,k=>⟨Nat.le_refl _,Nat.le_refl _⟩
 |n+1,k=>by
  have ih:=d0i b n (k+1);unfold b6e
  split<;>omega
theorem d9t (b:UInt8) (hk:k<=23):k<=keyOf b k/\keyOf b k<=23:=by
 have h:=d0i b (23-k) k;unfold keyOf;omega
abbrev LSt:=Nat×Nat×Bool
def a3g (b:UInt8) (q:LSt):Option LSt:=
 if b=45 then (if q.2.2||decide (13<q.2.1) then none else some (q.1,13,true))
 else if keyOf b q.2.1<23 then some (q.1+2^keyOf b q.2.1,keyOf b q.2.1+1,q.2.2) else none
def a3c:Bs->LSt->Option LSt
 |[],q=>some q
 |b::t,q=>match a3g b q with
  |none=>none
  |some q'=>a3c t q'
def e5a:Option LSt->Nat×Bool
 |none=>(0,false)
 |some q=>(q.1,decide (q.1≠0))
def loose (t:Bs):Nat×Bool:=e5a (a3c t (0,0,false))
def LInv (q:LSt):Prop:=q.1<2^q.2.1/\q.2.1<=23
theorem a7x {q q':LSt} (h:LInv q) (e:a3g b q=some q'):LInv q':=by
 obtain⟨h1,h2⟩:=h;unfold a3g at e
 split at e
 .split at e
  .cases e
  .rename_i hc
   injection e with e;subst e
   have h3:q.2.1<=13:=by
    simp only [Bool.or_eq_true,decide_eq_true_eq,not_or]at hc;omega
   exact⟨Nat.lt_of_lt_of_le h1 (Nat.pow_le_pow_right dZ h3),by show 13<=23;decide⟩
 .split at e
  .rename_i hk
   injection e with e;subst e;have h3:=d9t b h2;refine⟨?_,hk⟩
   show q.1+2^keyOf b q.2.1<2^(keyOf b q.2.1+1)
   have h4:q.1<2^keyOf b q.2.1:=Nat.lt_of_lt_of_le h1 (Nat.pow_le_pow_right dZ h3.1);rw [Nat.pow_succ];omega
  .cases e
theorem c0b:∀(t:Bs) {q q':LSt},LInv q->a3c t q=some q'->LInv q'
 |[],q,q',h,e=>by injection e with e;subst e;exact h
 |b::t,q,q',h,e=>by
  unfold a3c at e
  split at e
  .cases e
  .rename_i q1 h1
   exact c0b t (a7x h h1) e
theorem b3g (hk:k<s.length) (q:LSt):a3c (s.drop k) q=match a3g s[k] q with
 |none=>none
 |some q'=>a3c (s.drop (k+1)) q':=by
 rw [List.drop_eq_getElem_cons hk];rfl
theorem d0w {q:LSt} (hk:k<s.length) (hb:s[k]=45) (h1:q.2.2=false) (h2:q.2.1<=13):a3c (s.drop k) q=a3c (s.drop (k+1)) (q.1,13,true):=by
 rw [b3g hk];unfold a3g;rw [if_pos hb,if_neg (by rw [h1,decide_eq_false oZ];decide)]
theorem b4k {q:LSt} (hk:k<s.length) (hb:s[k]=45) (h:q.2.2=true\/13<q.2.1):a3c (s.drop k) q=none:=by
 rw [b3g hk];unfold a3g;rw [if_pos hb,if_pos (by rcases h with h|h<;>simp [h])]
theorem d8b {q:LSt} (hk:k<s.length) (hb:s[k]≠45) (h:keyOf s[k] q.2.1<23):a3c (s.drop k) q=a3c (s.drop (k+1)) (q.1+2^keyOf s[k] q.2.1,keyOf s[k] q.2.1+1,q.2.2):=by
 rw [b3g hk];unfold a3g;rw [if_neg hb,if_pos h]
theorem c5y {q:LSt} (hk:k<s.length) (hb:s[k]≠45) (h:23<=keyOf s[k] q.2.1):a3c (s.drop k) q=none:=by
 rw [b3g hk];unfold a3g;rw [if_neg hb,if_neg oZ]
theorem a5m (h:a3c t (0,0,false)=none):loose t=(0,false):=by unfold loose;rw [h];rfl
theorem b0i {q:LSt} (h:a3c t (0,0,false)=some q):loose t=(q.1,decide (q.1≠0)):=by unfold loose;rw [h];rfl
theorem b5u (t:Bs):(loose t).1<2^23:=by
 cases h:a3c t (0,0,false) with
 |none=>rw [a5m h];decide
 |some q=>
  rw [b0i h];obtain⟨h1,h2⟩:=c0b t (q:=(0,0,false)) ⟨by decide,by decide⟩ h;exact Nat.lt_of_lt_of_le h1 (Nat.pow_le_pow_right dZ h2)
theorem c8l (t:Bs):(loose t).2=decide ((loose t).1≠0):=by
 cases h:a3c t (0,0,false) with
 |none=>rw [a5m h];rfl
 |some q=>rw [b0i h]
theorem a9i (h:(loose t).2=true):a0q ((loose t).1:Int)=true:=by
 have h1:=b5u t;rw [c8l,decide_eq_true_eq]at h;unfold a0q;exact decide_eq_true oZ
theorem c2f (h:(loose t).2=false):loose t=(0,false):=by
 have h1:=h;rw [c8l,decide_eq_false_iff_not]at h1;exact Prod.ext oZ h
def parse (t:Bs):Nat×Bool:=if (loose t).2&&(fmt ((loose t).1:Int)==t) then ((loose t).1,true) else (0,false)
def b0s (t:Bs):Option Int:=if (parse t).2 then some ((parse t).1:Int) else none
theorem c5j (h1:(loose t).2=true) (h2:fmt ((loose t).1:Int)=t):parse t=((loose t).1,true):=by
 unfold parse;rw [if_pos (by rw [h1,h2];simp)]
theorem c3o (h1:(loose t).2=false):parse t=(0,false):=by
 unfold parse;rw [if_neg (by rw [h1];simp)]
theorem c3e (h2:fmt ((loose t).1:Int)≠t):parse t=(0,false):=by
 unfold parse;rw [if_neg (by simp [h2])]
theorem b4s (h:(parse t).2=true):a0q ((parse t).1:Int)=true/\fmt ((parse t).1:Int)=t/\(parse t).1<2^23:=by
 unfold parse at h⊢
 split
 .rename_i hc
  simp only [Bool.and_eq_true,beq_iff_eq]at hc;exact⟨a9i hc.1,hc.2,b5u t⟩
 .rename_i hc;rw [if_neg hc]at h;cases h
theorem b9m (h:(parse t).2=true):b0s t=some ((parse t).1:Int):=by unfold b0s;rw [if_pos h]
theorem c3n (h:(parse t).2=false):b0s t=none:=by unfold b0s;rw [if_neg (by rw [h];decide)]
theorem c6b (h:b0s t=some x):a0q x=true/\fmt x=t:=by
 unfold b0s at h
 split at h
 .rename_i hc;injection h with h;subst h;exact⟨(b4s hc).1,(b4s hc).2.1⟩
 .cases h
def a2u:List Bs->Option (List Int)
 |[]=>some []
 |w::r=>match b0s w with
  |none=>none
  |some x=>(a2u r).map (x::·)
theorem c5g (hk:k<L.length) (h:b0s L[k]=none):a2u (L.drop k)=none:=by
 rw [List.drop_eq_getElem_cons hk];unfold a2u;rw [h]
theorem d1z (hk:k<L.length) (h:b0s L[k]=some x):a2u (L.drop k)=(a2u (L.drop (k+1))).map (x::·):=by
 rw [List.drop_eq_getElem_cons hk];conv=>lhs;unfold a2u
 rw [h]
theorem b6h (hk:k<L.length) (h:b0s L[k]=some x) {R:Option (List Int)} (e:R=(a2u (L.drop k)).map (acc++·)):R=(a2u (L.drop (k+1))).map ((acc++[x])++·):=by
 rw [e,d1z hk h]
 cases a2u (L.drop (k+1)) with
 |none=>rfl
 |some r=>simp
theorem b9i {R:Option (List Int)} (e:R=(a2u (L.drop L.length)).map (acc++·)):R=some acc:=by
 rw [e,List.drop_length];simp [a2u]
theorem a6w:∀{L:List Bs} {r:List Int},a2u L=some r->r.length=L.length/\(L.map List.length).sum<=46*L.length/\∀x∈r,a0q x=true
 |[],r,h=>by injection h with h;subst h;simp
 |w::L,r,h=>by
  unfold a2u at h
  split at h
  .cases h
  .rename_i x hx
   cases hr:a2u L with
   |none=>rw [hr]at h;cases h
   |some r'=>
    rw [hr]at h;injection h with h;subst h;obtain⟨h1,h2,h3⟩:=a6w hr;obtain⟨g1,g2⟩:=c6b hx;have g3:=a8o x;rw [g2]at g3;refine⟨by simp [h1],by simp;omega,?_⟩;intro y hy
    rcases List.mem_cons.1 hy with rfl|hy
    .exact g1
    .exact h3 y hy
theorem a1k (h:a0k o=true):1<=o.length/\o.length<=6:=by
 unfold a0k at h;simp only [Bool.and_eq_true,decide_eq_true_eq]at h;omega
def a1u (s:Bs):Option (List Int):=(a2u (split 47 s)).filter a0k
theorem b9l {o:Option (List Int)} (h:∀r,o=some r->7<=r.length):o.filter a0k=none:=by
 cases o with
 |none=>rfl
 |some r=>
  have h1:=h r rfl
  have h2:a0k r=false:=by
   cases hq:a0k r
   .rfl
   .have:=a1k hq;omega
  simp [Option.filter,h2]
theorem c6k (s:Bs):a1u s=(a2u ((split 47 s).take 7)).filter a0k:=by
 unfold a1u
 by_cases h:(split 47 s).length<=7
 .rw [List.take_of_length_le h]
 .rw [b9l (λr hr=>by have:=(a6w hr).1;omega),b9l (λr hr=>by have:=(a6w hr).1;rw [List.length_take]at this;omega)]
theorem b7j (h:4000<s.length):a1u s=none:=by
 unfold a1u
 cases hp:a2u (split 47 s) with
 |none=>rfl
 |some r=>
  obtain⟨h1,h2,_⟩:=a6w hp;have h3:=a3v 47 s
  have h4:a0k r=false:=by
   cases hq:a0k r
   .rfl
   .have:=a1k hq;omega
  simp [Option.filter,h4]
theorem a8k (h:a1u s=some o):a0k o=true/\s.length<=4000:=by
 refine⟨?_,?_⟩
 .unfold a1u at h;exact (Option.filter_eq_some_iff.1 h).2
 .rcases Nat.lt_or_ge 4000 s.length with hl|hl
  .rw [b7j hl]at h;cases h
  .exact hl
theorem c8o {p:Pc}:∀{f a:Nat},p∈segs d st f a->∃b,b<st.length/\p=a3l d st b
 |0,_,h=>by cases h
 |f+1,a,h=>by
  unfold segs at h
  split at h
  .rename_i hlt
   rcases List.mem_cons.1 h with h|h
   .exact⟨a,hlt,h⟩
   .exact c8o h
  .cases h
theorem b7g (hd:dic d=true) (a:Nat):∀n:Nat,(a5b d st a n).2=[]\/(a0o (a5b d st a n).2).2=true
 |0=>.inl rfl
 |n+1=>by
  unfold a5b
  split
  .rename_i h
   right
   have hm:=b8u h;unfold dic at hd;simp only [Bool.and_eq_true,List.all_eq_true]at hd;have he:=hd.2.1 _ hm;unfold entry at he;simp only [Bool.and_eq_true]at he;exact he.2
  .exact b7g hd a n
theorem b8d (hd:dic d=true) {p:Pc} (h:p∈segA d st):∃a k:Nat,a<st.length/\p.1=((a:Int),(k:Int))/\(p.2=[]\/(a0o p.2).2=true):=by
 obtain⟨b,hb,rfl⟩:=c8o h;obtain⟨k,hk,_⟩:=b3u d st b (min 6 (st.length-b));exact⟨b,k,hb,hk,b7g hd b _⟩
theorem b1t (d:Dic) (st:List Int):(segA d st).length<=st.length:=c9q
theorem a9z (h:a3n st=true) (ha:a<st.length):∃m:Nat,st[a]=(m:Int)/\a0q (m:Int)=true/\st.getD a 0=(m:Int):=by
 unfold a3n at h;simp only [Bool.and_eq_true,List.all_eq_true]at h;have hs:=h.2 _ (List.getElem_mem ha);have h1:=hs;unfold a0q at h1;simp only [decide_eq_true_eq]at h1;obtain⟨m,hm⟩:=Int.eq_ofNat_of_zero_le (show 0<=st[a] by omega);refine⟨m,hm,by rw [<-hm];exact hs,?_⟩;rw [List.getD_eq_getElem?_getD,List.getElem?_eq_getElem ha];exact hm
theorem b9q {p:Pc} (h:p.2=[]) (h1:p.1.1=(a:Int)):a3o st p=[(1,raw (st.getD a 0))]:=by
 unfold a3o;rw [if_pos h,h1,Int.toNat_natCast]
theorem b1c {p:Pc} (h:p.2≠[]):a3o st p=(a0o p.2).1:=by
 unfold a3o;rw [if_neg h]
theorem b1q (h:(a0o s).2=true):s.length<=60:=by
 by_cases hl:60<s.length
 .unfold a0o at h;rw [if_pos hl]at h
  cases h
 .omega
theorem c6h (h:(a0o s).2=true):∀x∈(a0o s).1,atom x.1 x.2=true:=by
 unfold a0o at h⊢
 by_cases h0:60<s.length
 .rw [if_pos h0]at h;cases h
 rw [if_neg h0]at h⊢
 cases hl:atoms (split 32 s) with
 |none=>rw [hl]at h;cases h
 |some l=>
  rw [hl]at h;simp only at h⊢
  by_cases h2:b1a l=true
  .rw [if_pos h2];unfold b1a at h2;simp only [Bool.and_eq_true,List.all_eq_true]at h2;exact h2.2.1
  .rw [if_neg h2]at h
   cases h
theorem c2w {p:Pc} (h:p.2=[]\/(a0o p.2).2=true):∀x∈a3o st p,x.2.length<=46:=by
 intro x hx
 by_cases hp:p.2=[]
 .unfold a3o at hx;rw [if_pos hp,List.mem_singleton]at hx;rw [hx];exact e3v _
 .rw [b1c hp]at hx;have:=(a6p (c6h (h.resolve_left hp) x hx)).2;omega
theorem b4j {l:List Pc} (h:∀p∈l,∃a k:Nat,a<st.length/\p.1=((a:Int),(k:Int))/\(p.2=[]\/(a0o p.2).2=true)):∀x∈a1b st l,x.2.length<=2^29:=by
 intro x hx;unfold a1b at hx;rw [List.mem_flatMap]at hx;obtain⟨p,hp,hx⟩:=hx;obtain⟨_,_,_,_,h3⟩:=h p hp;have:=c2w h3 x hx;omega
end Go.Proofs.YtggfdnopminemaaGreatDoor.P
namespace Go.Proofs.YtggfdnopminemaaGreatDoor
open Go.Proofs.Tryz
namespace P
theorem b1j (s:Bs):∀k:Nat,a2n s k<=k
 |0=>Nat.le_refl _
 |k+1=>by have:=b1j s k;unfold a2n;split<;>omega
theorem b5b {s:Bs} {k:Nat} (h:b1m s k=true):a2n s (k+1)=a2n s k+1:=by
 conv=>lhs;unfold a2n
 rw [if_pos h]
theorem b7q {s:Bs} {k:Nat} (h:b1m s k=false):a2n s (k+1)=a2n s k:=by
 conv=>lhs;unfold a2n
 rw [if_neg (by rw [h];decide)];rfl
theorem getD_at {s:Bs} {k:Nat} (h:k<s.length):s.getD k 0=s[k]:=by
 rw [List.getD_eq_getElem?_getD,List.getElem?_eq_getElem h];rfl
theorem a6n {s:Bs} {n k:Nat} (h:n+k=s.length) (hk:1<=k):∃hn:n<s.length,back s k=s[n]:=by
 refine⟨by omega,?_⟩;unfold back;rw [show s.length-k=n by omega,getD_at oZ]
theorem c4j {s:Bs} (h:0<s.length):b1m s 0=vow s[0]:=by
 unfold b1m;rw [getD_at h];simp
theorem c3h {s:Bs} {k:Nat} (h:k+1<s.length):b1m s (k+1)=(vow s[k+1]&&!vow (s[k]'(by omega))):=by
 unfold b1m;rw [getD_at h,Nat.add_sub_cancel,getD_at (show k<s.length by omega)];simp
end P
open Go Go.RowKit
set_option maxHeartbeats 8000000
set_option maxRecDepth 100000
theorem a7i (b:UInt8) (n:Nat) (hn:n<256):((b.toNat:Int)==(n:Int))=(b==UInt8.ofNat n):=by
 rw [Bool.eq_iff_iff];simp only [beq_iff_eq]
 constructor
 .intro h;apply UInt8.toNat_inj.1;rw [UInt8.toNat_ofNat_of_lt' hn];omega
 .intro h;rw [h,UInt8.toNat_ofNat_of_lt' hn]
theorem a4x (b:UInt8) (w:World) :
 Cz 343 #[.int .u8 b.toNat] w λe w'=>e=.returned (.bool (P.vow b))/\w=w':=by
 have hv:P.vow b=(b==97||(b==101||(b==105||(b==111||b==117)))):=rfl
 obtain⟨q0,h0⟩:∃q,(b==97)=q:=⟨_,rfl⟩
 obtain⟨q1,h1⟩:∃q,(b==101)=q:=⟨_,rfl⟩
 obtain⟨q2,h2⟩:∃q,(b==105)=q:=⟨_,rfl⟩
 obtain⟨q3,h3⟩:∃q,(b==111)=q:=⟨_,rfl⟩
 obtain⟨q4,h4⟩:∃q,(b==117)=q:=⟨_,rfl⟩
 have f0:((b.toNat:Int)==97)=q0:=(a7i b 97 dZ).trans h0
 have f1:((b.toNat:Int)==101)=q1:=(a7i b 101 dZ).trans h1
 have f2:((b.toNat:Int)==105)=q2:=(a7i b 105 dZ).trans h2
 have f3:((b.toNat:Int)==111)=q3:=(a7i b 111 dZ).trans h3
 have f4:((b.toNat:Int)==117)=q4:=(a7i b 117 dZ).trans h4
 rw [h0,h1,h2,h3,h4]at hv
 have HV:=qh hv
 clear h0 h1 h2 h3 h4 hv
 cases q0 with
 |true=>
  exact zq83
 |false=>
 cases q1 with
 |true=>
  exact zq83
 |false=>
 cases q2 with
 |true=>
  exact zq83
 |false=>
 cases q3 with
 |true=>
  exact zq83
 |false=>
  exact zq83
theorem e0l (s:Str) (w:World) (hs:s.length<=2^30) :
 Cz 371 #[.string (S s)] w λe w'=>e=.returned (.int .i64 (P.a1j s))/\w=w':=by
 go_enter func371,ntmps371
 go_wp2
 go_loop [3,4] (λn i=>∃k:Nat,k<=s.length/\i=.int .i64 k/\n=.int .i64 (P.a2n s k)) (λ_ i=>s.length-(intOf i).toNat)
 case atStart=>exact⟨0,Nat.zero_le _,rfl,rfl⟩
 case round=>
  obtain⟨k,hk,rfl,rfl⟩:=hrel;have hg:=P.b1j s k
  by_cases hlt:k<s.length
  .have i1:(k:Int)<(s.length:Int):=by omega
   have HY:=qh (P.b5b (s:=s) (k:=k));have HN:=qh (P.b7q (s:=s) (k:=k));generalize P.a2n s k=gn at *
   rcases k with _|m
   .rw [P.c4j hlt]at HY HN;obtain⟨q,hq⟩:∃q,P.vow (s[0]'hlt)=q:=⟨_,rfl⟩;rw [hq]at HY HN
    cases q
    .have HZ:=qh (HN.o rfl);clear HY HN
     go_wp2_with (go_at_call 343;refine (a4x _ _).mono ?_;rintro e w' ⟨rfl,rfl⟩)
     exact zq165
    .have HZ:=qh (HY.o rfl);clear HY HN
     go_wp2_with (go_at_call 343;refine (a4x _ _).mono ?_;rintro e w' ⟨rfl,rfl⟩)
     exact zq157
   .rw [P.c3h hlt]at HY HN;have hm:m<s.length:=by omega
    have i2:(((m+1:Nat):Int)==0)=false:=by rw [beq_eq_false_iff_ne];omega
    have i3:((m+1:Nat):Int)-1=(m:Int):=by omega
    obtain⟨q,hq⟩:∃q,P.vow (s[m+1]'hlt)=q:=⟨_,rfl⟩;obtain⟨r,hr⟩:∃r,P.vow (s[m]'hm)=r:=⟨_,rfl⟩;rw [hq,hr]at HY HN
    cases q
    .exact zq203
    .cases r
     .have HZ:=qh (HY.o rfl);clear HY HN
      go_wp2_with (go_at_call 343;refine (a4x _ _).mono ?_;rintro e w' ⟨rfl,rfl⟩)
      exact zq177
     .exact zq203
  .exact zq122
theorem b9u (s e:Str) (w:World) (hs:s.length<=2^40) :
 Cz 345 #[.string (S s),.string (S e)] w λe' w'=>e'=.returned (.bool (P.ends s e))/\w=w':=by
 have HE:=qh (P.c9d s e)
 by_cases h:e.length<=s.length
 .have i1:(e.length:Int)<=(s.length:Int):=by omega
  have i2:(s.length:Int)-(e.length:Int)=((s.length-e.length:Nat):Int):=by omega
  have i3:s.length-e.length<=s.length:=by omega
  have i4:IntKind.i64.wrap ((s.length:Int)-(e.length:Int))=((s.length-e.length:Nat):Int):=by rw [IntKind.wrap_i64];omega
  go_enter func345,ntmps345
  go_wp2;go_ret;exact⟨a0a (by rw [<-HE.o,decide_eq_true h];simp),rfl⟩
 .have i1:¬(e.length:Int)<=(s.length:Int):=by omega
  go_enter func345,ntmps345
  go_wp2;go_ret;exact⟨a0a (by rw [<-HE.o,decide_eq_false h];simp),rfl⟩
theorem a3s (s:Str) (w:World) (hs:s.length<=2^40) :
 Cz 344 #[.string (S s)] w λe w'=>e=.returned (.bool (P.a9n s))/\w=w':=by
 have HC:Hq (P.a9n s=(decide (2<=s.length)&&(P.back s 1==121&&!P.vow (P.back s 2)))):=⟨rfl⟩
 by_cases h:2<=s.length
 .obtain⟨n2,hn2⟩:∃n,n+2=s.length:=⟨s.length-2,by omega⟩;obtain⟨l1,b1⟩:=P.a6n (s:=s) (n:=n2+1) (k:=1) oZ oZ;obtain⟨l2,b2⟩:=P.a6n (s:=s) (n:=n2) (k:=2) oZ oZ;rw [b1,b2,decide_eq_true h]at HC;have i1:(2:Int)<=(s.length:Int):=by omega
  have i2:(s.length:Int)-1=((n2+1:Nat):Int):=by omega
  have i3:(s.length:Int)-2=(n2:Int):=by omega
  have i4:n2+1<s.length:=l1;have i5:n2<s.length:=l2;obtain⟨q,hq⟩:∃q,(s[n2+1]'l1==121)=q:=⟨_,rfl⟩;have f0:(((s[n2+1]'l1).toNat:Int)==121)=q:=(a7i _ 121 dZ).trans hq;rw [hq]at HC;clear b1 b2 hq hn2 h
  cases q
  .exact zq134
  .exact zq134
 .have i1:¬(2:Int)<=(s.length:Int):=by omega
  go_enter func344,ntmps344
  go_wp2;go_ret;exact⟨a0a (by rw [HC.o,decide_eq_false h];rfl),rfl⟩
theorem e1v (s:Str) (w:World) (hs:s.length<=2^40) :
 Cz 242 #[.string (S s)] w λe w'=>e=.returned (.bool (P.isWord s))/\w=w':=by
 have HF:Hq (P.isWord s=(s.all P.lower&&decide (1<=(s.length:Int)/\(s.length:Int)<=24))):=⟨rfl⟩
 go_enter func242,ntmps242
 go_wp2
 go_loop [3] (λi=>∃j:Nat,j<=s.length/\i=.int .i64 j/\(s.take j).all P.lower=true) (λi=>s.length-(intOf i).toNat)
 case atStart=>exact⟨0,by omega,rfl,by simp⟩
 case round=>
  obtain⟨j,hj,rfl,ha⟩:=hrel;have HA:=qh ha;clear ha
  by_cases hlt:j<s.length
  .have i1:(j:Int)<(s.length:Int):=by omega
   rcases Int.lt_or_le (s[j].toNat:Int) 97 with h1|h1
   .have H:=qh h1;go_wp2;go_ret;exact⟨a0a (by rw [HF.o,P.all_false hlt (P.a6h (.inl H.o))];simp),rfl⟩
   .rcases Int.lt_or_le 122 (s[j].toNat:Int) with h2|h2
    .have H:=qh h2;go_wp2;go_ret;exact⟨a0a (by rw [HF.o,P.all_false hlt (P.a6h (.inr H.o))];simp),rfl⟩
    .have HL:=qh (P.b2g h1 h2);go_wp2
     go_round
     case rel=>exact⟨j+1,by omega,by go_num,a8d j hlt HA.o HL.o⟩
     case measure=>exact zq
  .have i1:¬(j:Int)<(s.length:Int):=by omega
   have HT:=qh (show s.all P.lower=true by rw [<-List.take_of_length_le (l:=s) (i:=j) oZ];exact HA.o)
   go_wp2_with fail
   refine (l1In _ _ _ _).mono ?_;rintro e w1 ⟨rfl,rfl⟩;go_wp2;go_ret;exact⟨a0a (by rw [HF.o,HT.o];simp),rfl⟩
end Go.Proofs.YtggfdnopminemaaGreatDoor
