/- Plain: the trie of a dictionary, how it is built, read and collected. -/
import Derived.Test.YtggfdnopminemaaGreatDoorZt
import Derived.Test.YtggfdnopminemaaGreatDoorPlainFmtK
namespace Go.Proofs.YtggfdnopminemaaGreatDoor
namespace P
abbrev Nd:=List Int×List Int×Bool×Bs
abbrev Tri:=List Nd
def strokeAt (d:Nat) (e:Ent):Int:=e.1.getD d 0
def groups (d:Nat):Nat→Dic→List Dic
 |0,_=>[]
 |_+1,[]=>[]
 |n+1,e::l=>(e::l.takeWhile fun x=>strokeAt d x==strokeAt d e)::groups d n (l.dropWhile fun x=>strokeAt d x==strokeAt d e)
def headStroke (d:Nat):Dic→Int
 |[]=>0
 |e::_=>strokeAt d e
def kids (B:Nat→Dic→Tri) (d:Nat):Nat→List Dic→List Int×List Int×Tri
 |_,[]=>([],[],[])
 |next,g::gs=>(headStroke d g::(kids B d (next+(B next g).length) gs).1,(next:Int)::(kids B d (next+(B next g).length) gs).2.1,B next g++(kids B d (next+(B next g).length) gs).2.2)
def rest (d:Nat):Dic→Dic
 |[]=>[]
 |e::l=>if e.1.length=d then l else e::l
def ownText (d:Nat):Dic→Bool×Bs
 |[]=>(false,[])
 |e::_=>if e.1.length=d then (true,e.2) else (false,[])
def build:Nat→Nat→Nat→Dic→Tri
 |0,_,_,_=>[]
 |f+1,d,base,es=>
  ((kids (fun b g=>build f (d+1) b g) d (base+1) (groups d es.length (rest d es))).1,(kids (fun b g=>build f (d+1) b g) d (base+1) (groups d es.length (rest d es))).2.1,ownText d es) ::
   (kids (fun b g=>build f (d+1) b g) d (base+1) (groups d es.length (rest d es))).2.2
def trie (l:Dic):Tri:=build 7 0 0 l
theorem dic_parts {l:Dic} (h:dic l=true):l.length≤40∧(∀e∈l,entry e=true)∧l.Pairwise lt:=by
 unfold dic at h;rw [Bool.and_eq_true,Bool.and_eq_true,decide_eq_true_eq,List.all_eq_true,rising_pair]at h;exact h
theorem entry_parts {e:Ent} (h:entry e=true):1≤e.1.length∧e.1.length≤6∧∀s∈e.1,stroke s=true:=by
 unfold entry outline at h;rw [Bool.and_eq_true,Bool.and_eq_true,decide_eq_true_eq,List.all_eq_true]at h;exact⟨by omega,by omega,h.1.2⟩
def nd0:Nd:=([],[],false,[])
def readK (R:Int→List Int→Nat→Option (Nat×Dic)) (o:List Int):List (Int×Int)→Nat→Option (Nat×Dic)
 |[],nx=>some (nx,[])
 |(s,c)::l,nx=>match R c (o++[s]) nx with
  |none=>none
  |some (n1,e1)=>match readK R o l n1 with
   |none=>none
   |some (n2,e2)=>some (n2,e1++e2)
def own (o:List Int) (n:Nd):Dic:=if n.2.2.1 then [(o,n.2.2.2)] else []
def read (t:Tri):Nat→Int→List Int→Nat→Option (Nat×Dic)
 |0,_,_,_=>none
 |f+1,k,o,nx=>
  if k=(nx:Int)∧nx<t.length then
   if (t.getD nx nd0).1.length=(t.getD nx nd0).2.1.length then
    (readK (read t f) o ((t.getD nx nd0).1.zip (t.getD nx nd0).2.1) (nx+1)).map fun r=>(r.1,own o (t.getD nx nd0)++r.2)
   else none
  else none
def upto (ch:Nat→List Int):Nat→List Int
 |0=>[]
 |k+1=>upto ch k++ch k
end P
namespace P
def slist (o:List Int):Bool:=decide (o.length≤60)&&o.all stroke
end P
end Go.Proofs.YtggfdnopminemaaGreatDoor
namespace Go.Proofs.YtggfdnopminemaaGreatDoor.P
abbrev Edit:=Int×Bs
abbrev Tr:=List Int×Bs
def pcAtoms (st:List Int) (p:Pc):List (Int×Bs):=if p.2=[] then [(1,raw (st.getD p.1.1.toNat 0))] else (transS p.2).1
def atomsOf (st:List Int) (l:List Pc):List (Int×Bs):=l.flatMap (pcAtoms st)
def scrA (d:Dic) (st:List Int):Bs×Bool:=render (atomsOf st (segA d st))
def scr (d:Dic) (st:List Int):Bs×Bool:=if dic d&&slist st then scrA d st else ([],false)
theorem atomsOf_snoc (st:List Int) (l:List Pc) (p:Pc):atomsOf st (l++[p])=atomsOf st l++pcAtoms st p:=by
 unfold atomsOf;rw [List.flatMap_append];simp
theorem transS_len (s:Bs):(transS s).1.length≤10:=by
 unfold transS
 split
 ·simp
 split
 ·simp
 ·split
  ·rename_i h
   unfold listS at h;simp only [Bool.and_eq_true,decide_eq_true_eq]at h;have h1:=h.1.2;simp only;omega
  ·simp
theorem pcAtoms_len (st:List Int) (p:Pc):(pcAtoms st p).length≤10:=by
 unfold pcAtoms
 split
 ·simp
 ·exact transS_len _
theorem atomsOf_len (st:List Int):∀(l:List Pc),(atomsOf st l).length≤10*l.length
 |[]=>by simp [atomsOf]
 |p::l=>by
  have h1:=atomsOf_len st l;have h2:=pcAtoms_len st p;unfold atomsOf at *;rw [List.flatMap_cons,List.length_append,List.length_cons];omega
theorem scr_ok {d:Dic} {st:List Int} (h:(scr d st).2=true):dic d=true∧slist st=true∧scr d st=scrA d st:=by
 unfold scr at h⊢
 split at h
 ·rename_i hc
  have hc':=hc;simp only [Bool.and_eq_true]at hc;exact⟨hc.1,hc.2,by rw [if_pos hc']⟩
 ·cases h
theorem scr_no {d:Dic} {st:List Int} (h:(scr d st).2=false):(scr d st).1=[]:=by
 unfold scr at h⊢
 split
 ·rename_i hc
  rw [if_pos hc]at h;exact (render_eq _).2.2 h
 ·rfl
def screen (s:Bs):Bool:=decide ((s.length:Int)≤2000)&&s.all prn
theorem scr_screen (d:Dic) (st:List Int):screen (scr d st).1=true:=by
 unfold screen scr;simp only [Bool.and_eq_true,decide_eq_true_eq,List.all_eq_true]
 split
 ·have:=render_len (atomsOf st (segA d st));unfold scrA;exact⟨by omega,this.2⟩
 ·exact⟨by simp,by simp⟩
theorem screen_len {s:Bs} (h:screen s=true):s.length≤2000:=by
 unfold screen at h;simp only [Bool.and_eq_true,decide_eq_true_eq]at h;omega
theorem scr_len (d:Dic) (st:List Int):(scr d st).1.length≤2000:=screen_len (scr_screen d st)
theorem slist_len {st:List Int} (h:slist st=true):st.length≤60:=by
 unfold slist at h;simp only [Bool.and_eq_true,decide_eq_true_eq]at h;exact h.1
def lcp:Bs→Bs→Nat
 |a::x,b::y=>if a=b then lcp x y+1 else 0
 |_,_=>0
def least (a b:Bs):Edit:=(((a.length-lcp a b:Nat):Int),b.drop (lcp a b))
theorem lcp_of:∀(n:Nat) (a b:Bs),a.take n=b.take n→n≤a.length→n≤b.length→(n=a.length∨n=b.length∨∃(h1:n<a.length) (h2:n<b.length),a[n]≠b[n])→lcp a b=n
 |0,a,b,_,_,_,h=>by
  cases a with
  |nil=>simp [lcp]
  |cons a x=>
   cases b with
   |nil=>simp [lcp]
   |cons b y=>
    rcases h with h|h|⟨_,_,h⟩
    ·simp at h
    ·simp at h
    ·unfold lcp;rw [if_neg (by simpa using h)]
 |n+1,a,b,ht,h1,h2,h=>by
  cases a with
  |nil=>simp at h1
  |cons a x=>
   cases b with
   |nil=>simp at h2
   |cons b y=>
    simp only [List.take_succ_cons,List.cons.injEq,List.length_cons]at ht h1 h2 h;unfold lcp;rw [if_pos ht.1,lcp_of n x y ht.2 oZ oZ ?_]
    rcases h with h|h|⟨h3,h4,h⟩
    ·exact .inl oZ
    ·exact .inr (.inl oZ)
    ·exact .inr (.inr ⟨by simpa using h3,by simpa using h4,by simpa using h⟩)
def editOk (e:Edit):Bool:=decide (0≤e.1∧e.1≤2000)&&screen e.2
theorem screen_drop {s:Bs} (h:screen s=true) (n:Nat):screen (s.drop n)=true:=by
 unfold screen at h⊢;simp only [Bool.and_eq_true,decide_eq_true_eq,List.all_eq_true]at h⊢;exact⟨by rw [List.length_drop];omega,fun x hx=>h.2 x (List.mem_of_mem_drop hx)⟩
theorem least_ok {a b:Bs} (ha:screen a=true) (hb:screen b=true):editOk (least a b)=true:=by
 have:=screen_len ha;unfold editOk least;rw [screen_drop hb,decide_eq_true (by simp only;omega)];rfl
def trans (d:Dic) (t:Tr):Bool:=(scr d t.1).2&&((scr d t.1).1==t.2&&!t.1.contains 1024)
def next (l:List Int) (k:Int):List Int:=if k=1024 then l.take (l.length-1) else l++[k]
def tr0:Tr:=([],[])
def pressP (d:Dic) (t:Tr) (k:Int):(Tr×Edit)×Bool:=if (scr d (next t.1 k)).2 then (((next t.1 k,(scr d (next t.1 k)).1),least t.2 (scr d (next t.1 k)).1),true) else ((tr0,(0,[])),false)
def press (d:Dic) (t:Tr) (k:Int):(Tr×Edit)×Bool:=if trans d t&&stroke k then pressP d t k else ((tr0,(0,[])),false)
def replayN (d:Dic) (st:List Int):Nat→Option (List Edit×Tr)
 |0=>some ([],tr0)
 |j+1=>(replayN d st j).bind fun r=>if (press d r.2 (st.getD j 0)).2 then some (r.1++[(press d r.2 (st.getD j 0)).1.2],(press d r.2 (st.getD j 0)).1.1) else none
def replay (d:Dic) (st:List Int):(List Edit×Tr)×Bool:=if dic d&&decide (st.length≤120) then (match replayN d st st.length with
 |none=>(([],tr0),false)
 |some r=>(r,true)) else (([],tr0),false)
theorem trans_parts {d:Dic} {t:Tr} (h:trans d t=true):(scr d t.1).2=true∧(scr d t.1).1=t.2∧t.1.contains 1024=false:=by
 unfold trans at h;simp only [Bool.and_eq_true,beq_iff_eq,Bool.not_eq_true']at h;exact h
theorem trans_screen {d:Dic} {t:Tr} (h:trans d t=true):screen t.2=true:=(trans_parts h).2.1 ▸ scr_screen d t.1
theorem trans_of {d:Dic} {l:List Int} (h:(scr d l).2=true) (h2:l.contains 1024=false):trans d (l,(scr d l).1)=true:=by
 unfold trans;simp only [h,h2,beq_self_eq_true];rfl
theorem next_free {l:List Int} {k:Int} (h:l.contains 1024=false):(next l k).contains 1024=false:=by
 unfold next;simp only [List.contains_eq_mem,decide_eq_false_iff_not]at h⊢
 split
 ·exact fun hm=>h (List.mem_of_mem_take hm)
 ·rename_i hk
  rw [List.mem_append,List.mem_singleton];rintro (hm|hm)
  ·exact h hm
  ·exact hk hm.symm
theorem press_ok {d:Dic} {t:Tr} {k:Int} (h:(press d t k).2=true):trans d t=true∧stroke k=true∧(scr d (next t.1 k)).2=true∧(press d t k).1=((next t.1 k,(scr d (next t.1 k)).1),least t.2 (scr d (next t.1 k)).1):=by
 unfold press at h⊢
 split at h
 ·rename_i hc
  have hc':=hc;simp only [Bool.and_eq_true]at hc;rw [if_pos hc'];unfold pressP at h⊢
  split at h
  ·rename_i h2
   rw [if_pos h2];exact⟨hc.1,hc.2,h2,rfl⟩
  ·cases h
 ·cases h
theorem press_trans {d:Dic} {t:Tr} {k:Int} (h:(press d t k).2=true):trans d (press d t k).1.1=true:=by
 obtain⟨h1,_,h3,h4⟩:=press_ok h;rw [h4];exact trans_of h3 (next_free (trans_parts h1).2.2)
def sub1 (a b:UInt8) (x:UInt8):UInt8:=if x=a then b else x
theorem replK_one (a b:UInt8):∀(n:Nat) (s:Bs),s.length≤n→Go.Lib.replaceK [a] [b] (s.count a) s=s.map (sub1 a b)
 |n,s,hn=>by
  by_cases ha:a∈s
  ·obtain⟨x,y,hs,hx⟩:=first_of_mem a s ha;have hxm:a∉x:=fun h=>hx a h rfl;subst hs
   have hc:(x++a::y).count a=y.count a+1:=by
    rw [List.count_append,List.count_cons_self,List.count_eq_zero.2 hxm];omega
   have hxmap:x.map (sub1 a b)=x:=by
    rw [List.map_congr_left (g:=id) (fun z hz=>by unfold sub1;rw [if_neg (hx z hz)];rfl),List.map_id]
   match n,hn with
   |0,hn=>simp at hn
   |n+1,hn=>
    rw [hc,Go.Lib.replaceK_hit _ _ _ _ x.length (idx_app a y x hx)];rw [List.take_left,show (x++a::y).drop (x.length+[a].length)=y by rw [show x++a::y=(x++[a])++y by simp,show x.length+[a].length=(x++[a]).length by simp,List.drop_left]];rw [replK_one a b n y (by simp at hn;omega),List.map_append,hxmap,List.map_cons];have:sub1 a b a=b:=if_pos rfl;rw [this];simp
  ·rw [List.count_eq_zero.2 ha];rw [List.map_congr_left (g:=id) (fun z hz=>by unfold sub1;rw [if_neg (fun e:z=a=>ha (by rw [←e];exact hz))];rfl),List.map_id];rfl
theorem replaceAll_one {a b:UInt8} (hab:a≠b) (s:Bs):Go.Lib.replaceAll s [a] [b]=s.map (sub1 a b):=by
 unfold Go.Lib.replaceAll Go.Lib.replace Go.Lib.replaceNum;rw [if_neg (by simpa using hab),if_pos (.inl dZ),Go.Lib.count_one];exact replK_one a b s.length s lZ
theorem join_snoc (l:List Bs) (y sep:Bs) (hl:l≠[]):Go.Lib.join (l++[y]) sep=Go.Lib.join l sep++sep++y:=by
 cases l with
 |nil=>exact absurd rfl hl
 |cons x r=>
  rw [List.cons_append,Go.Lib.join_cons,Go.Lib.join_cons];unfold Go.Lib.joinTail;simp [List.append_assoc]
theorem join_len (l:List Bs) (c:UInt8) (m:Nat) (h:∀x∈l,x.length≤m):(Go.Lib.join l [c]).length≤l.length*(m+1):=by
 cases l with
 |nil=>simp [Go.Lib.join_nil]
 |cons x r=>
  have hx:=h x sZ;rw [Go.Lib.join_cons,List.length_append]
  have key:∀r:List Bs,(∀x∈r,x.length≤m)→(Go.Lib.joinTail [c] r).length≤r.length*(m+1):=by
   intro r
   induction r with
   |nil=>intro _;simp [Go.Lib.joinTail]
   |cons y r ih=>
    intro h;have h1:=ih (fun z hz=>h z (by simp [hz]));have h2:=h y sZ;unfold Go.Lib.joinTail at h1⊢;simp only [List.map_cons,List.flatten_cons,List.length_append,List.length_cons,List.length_nil]at h1⊢;have e:(r.length+1)*(m+1)=r.length*(m+1)+(m+1):=Nat.succ_mul _ _;omega
  have h3:=key r (fun z hz=>h z (by simp [hz]));have e:(x::r).length*(m+1)=r.length*(m+1)+(m+1):=by rw [List.length_cons];exact Nat.succ_mul _ _
  omega
def fmtS (c:UInt8) (st:List Int):Bs:=Go.Lib.join (st.map fmt) [c]
theorem fmtS_one (c:UInt8) (k:Int):fmtS c [k]=fmt k:=Go.Lib.join_one _ _
theorem fmtS_snoc (c:UInt8) (st:List Int) (k:Int) (h:st≠[]):fmtS c (st++[k])=fmtS c st++[c]++fmt k:=by
 unfold fmtS;rw [List.map_append];exact join_snoc _ _ _ (by simpa using h)
theorem fmtS_len (c:UInt8) (st:List Int):(fmtS c st).length≤st.length*47:=by
 have h:=join_len (st.map fmt) c 46 (fun x hx=>by obtain⟨k,_,rfl⟩:=List.mem_map.1 hx;exact fmt_len k)
 rwa [List.length_map]at h
def keyAt (b:UInt8):Nat→Nat→Nat
 |0,k=>k
 |n+1,k=>if lab k=b then k else keyAt b n (k+1)
def keyOf (b:UInt8) (k:Nat):Nat:=keyAt b (23-k) k
theorem keyOf_hit {b:UInt8} {k:Nat} (hk:k<23) (h:lab k=b):keyOf b k=k:=by
 unfold keyOf;obtain⟨n,hn⟩:∃n,23-k=n+1:=⟨22-k,by omega⟩;rw [hn];unfold keyAt;rw [if_pos h]
theorem keyOf_miss {b:UInt8} {k:Nat} (hk:k<23) (h:lab k≠b):keyOf b k=keyOf b (k+1):=by
 unfold keyOf;obtain⟨n,hn⟩:∃n,23-k=n+1:=⟨22-k,by omega⟩;rw [hn,show 23-(k+1)=n by omega]
 conv=>lhs;unfold keyAt
 rw [if_neg h]
theorem keyOf_end {b:UInt8} {k:Nat} (hk:23≤k):keyOf b k=k:=by
 unfold keyOf;rw [show 23-k=0 by omega];rfl
theorem keyAt_le (b:UInt8):∀(n k:Nat),k≤keyAt b n k∧keyAt b n k≤k+n
 |0,k=>⟨Nat.le_refl _,Nat.le_refl _⟩
 |n+1,k=>by
  have ih:=keyAt_le b n (k+1);unfold keyAt
  split<;>omega
theorem keyOf_le (b:UInt8) {k:Nat} (hk:k≤23):k≤keyOf b k∧keyOf b k≤23:=by
 have h:=keyAt_le b (23-k) k;unfold keyOf;omega
abbrev LSt:=Nat×Nat×Bool
def looseStep (b:UInt8) (q:LSt):Option LSt:=
 if b=45 then (if q.2.2||decide (13<q.2.1) then none else some (q.1,13,true))
 else if keyOf b q.2.1<23 then some (q.1+2^keyOf b q.2.1,keyOf b q.2.1+1,q.2.2) else none
def looseN:Bs→LSt→Option LSt
 |[],q=>some q
 |b::t,q=>match looseStep b q with
  |none=>none
  |some q'=>looseN t q'
def looseOf:Option LSt→Nat×Bool
 |none=>(0,false)
 |some q=>(q.1,decide (q.1≠0))
def loose (t:Bs):Nat×Bool:=looseOf (looseN t (0,0,false))
def LInv (q:LSt):Prop:=q.1<2^q.2.1∧q.2.1≤23
theorem looseStep_inv {b:UInt8} {q q':LSt} (h:LInv q) (e:looseStep b q=some q'):LInv q':=by
 obtain⟨h1,h2⟩:=h;unfold looseStep at e
 split at e
 ·split at e
  ·cases e
  ·rename_i hc
   injection e with e;subst e
   have h3:q.2.1≤13:=by
    simp only [Bool.or_eq_true,decide_eq_true_eq,not_or]at hc;omega
   exact⟨Nat.lt_of_lt_of_le h1 (Nat.pow_le_pow_right dZ h3),by show 13≤23;decide⟩
 ·split at e
  ·rename_i hk
   injection e with e;subst e;have h3:=keyOf_le b h2;refine⟨?_,hk⟩
   show q.1+2^keyOf b q.2.1<2^(keyOf b q.2.1+1)
   have h4:q.1<2^keyOf b q.2.1:=Nat.lt_of_lt_of_le h1 (Nat.pow_le_pow_right dZ h3.1);rw [Nat.pow_succ];omega
  ·cases e
theorem looseN_inv:∀(t:Bs) {q q':LSt},LInv q→looseN t q=some q'→LInv q'
 |[],q,q',h,e=>by injection e with e;subst e;exact h
 |b::t,q,q',h,e=>by
  unfold looseN at e
  split at e
  ·cases e
  ·rename_i q1 h1
   exact looseN_inv t (looseStep_inv h h1) e
theorem looseN_at {s:Bs} {k:Nat} (hk:k<s.length) (q:LSt):looseN (s.drop k) q=match looseStep s[k] q with
 |none=>none
 |some q'=>looseN (s.drop (k+1)) q':=by
 rw [List.drop_eq_getElem_cons hk];rfl
theorem loose_dash {q:LSt} {s:Bs} {k:Nat} (hk:k<s.length) (hb:s[k]=45) (h1:q.2.2=false) (h2:q.2.1≤13):looseN (s.drop k) q=looseN (s.drop (k+1)) (q.1,13,true):=by
 rw [looseN_at hk];unfold looseStep;rw [if_pos hb,if_neg (by rw [h1,decide_eq_false oZ];decide)]
theorem loose_dashNo {q:LSt} {s:Bs} {k:Nat} (hk:k<s.length) (hb:s[k]=45) (h:q.2.2=true∨13<q.2.1):looseN (s.drop k) q=none:=by
 rw [looseN_at hk];unfold looseStep;rw [if_pos hb,if_pos (by rcases h with h|h<;>simp [h])]
theorem loose_key {q:LSt} {s:Bs} {k:Nat} (hk:k<s.length) (hb:s[k]≠45) (h:keyOf s[k] q.2.1<23):looseN (s.drop k) q=looseN (s.drop (k+1)) (q.1+2^keyOf s[k] q.2.1,keyOf s[k] q.2.1+1,q.2.2):=by
 rw [looseN_at hk];unfold looseStep;rw [if_neg hb,if_pos h]
theorem loose_keyNo {q:LSt} {s:Bs} {k:Nat} (hk:k<s.length) (hb:s[k]≠45) (h:23≤keyOf s[k] q.2.1):looseN (s.drop k) q=none:=by
 rw [looseN_at hk];unfold looseStep;rw [if_neg hb,if_neg oZ]
theorem loose_none {t:Bs} (h:looseN t (0,0,false)=none):loose t=(0,false):=by unfold loose;rw [h];rfl
theorem loose_some {t:Bs} {q:LSt} (h:looseN t (0,0,false)=some q):loose t=(q.1,decide (q.1≠0)):=by unfold loose;rw [h];rfl
theorem loose_lt (t:Bs):(loose t).1<2^23:=by
 cases h:looseN t (0,0,false) with
 |none=>rw [loose_none h];decide
 |some q=>
  rw [loose_some h];obtain⟨h1,h2⟩:=looseN_inv t (q:=(0,0,false)) ⟨by decide,by decide⟩ h;exact Nat.lt_of_lt_of_le h1 (Nat.pow_le_pow_right dZ h2)
theorem loose_ok (t:Bs):(loose t).2=decide ((loose t).1≠0):=by
 cases h:looseN t (0,0,false) with
 |none=>rw [loose_none h];rfl
 |some q=>rw [loose_some h]
theorem loose_stroke {t:Bs} (h:(loose t).2=true):stroke ((loose t).1:Int)=true:=by
 have h1:=loose_lt t;rw [loose_ok,decide_eq_true_eq]at h;unfold stroke;exact decide_eq_true oZ
theorem loose_not {t:Bs} (h:(loose t).2=false):loose t=(0,false):=by
 have h1:=h;rw [loose_ok,decide_eq_false_iff_not]at h1;exact Prod.ext oZ h
def parse (t:Bs):Nat×Bool:=if (loose t).2&&(fmt ((loose t).1:Int)==t) then ((loose t).1,true) else (0,false)
def parse1 (t:Bs):Option Int:=if (parse t).2 then some ((parse t).1:Int) else none
theorem parse_yes {t:Bs} (h1:(loose t).2=true) (h2:fmt ((loose t).1:Int)=t):parse t=((loose t).1,true):=by
 unfold parse;rw [if_pos (by rw [h1,h2];simp)]
theorem parse_no1 {t:Bs} (h1:(loose t).2=false):parse t=(0,false):=by
 unfold parse;rw [if_neg (by rw [h1];simp)]
theorem parse_no2 {t:Bs} (h2:fmt ((loose t).1:Int)≠t):parse t=(0,false):=by
 unfold parse;rw [if_neg (by simp [h2])]
theorem parse_stroke {t:Bs} (h:(parse t).2=true):stroke ((parse t).1:Int)=true∧fmt ((parse t).1:Int)=t∧(parse t).1<2^23:=by
 unfold parse at h⊢
 split
 ·rename_i hc
  simp only [Bool.and_eq_true,beq_iff_eq]at hc;exact⟨loose_stroke hc.1,hc.2,loose_lt t⟩
 ·rename_i hc;rw [if_neg hc]at h;cases h
theorem parse1_yes {t:Bs} (h:(parse t).2=true):parse1 t=some ((parse t).1:Int):=by unfold parse1;rw [if_pos h]
theorem parse1_no {t:Bs} (h:(parse t).2=false):parse1 t=none:=by unfold parse1;rw [if_neg (by rw [h];decide)]
theorem parse1_some {t:Bs} {x:Int} (h:parse1 t=some x):stroke x=true∧fmt x=t:=by
 unfold parse1 at h
 split at h
 ·rename_i hc;injection h with h;subst h;exact⟨(parse_stroke hc).1,(parse_stroke hc).2.1⟩
 ·cases h
def parseL:List Bs→Option (List Int)
 |[]=>some []
 |w::r=>match parse1 w with
  |none=>none
  |some x=>(parseL r).map (x::·)
theorem parseL_no {L:List Bs} {k:Nat} (hk:k<L.length) (h:parse1 L[k]=none):parseL (L.drop k)=none:=by
 rw [List.drop_eq_getElem_cons hk];unfold parseL;rw [h]
theorem parseL_yes {L:List Bs} {k:Nat} (hk:k<L.length) {x:Int} (h:parse1 L[k]=some x):parseL (L.drop k)=(parseL (L.drop (k+1))).map (x::·):=by
 rw [List.drop_eq_getElem_cons hk];conv=>lhs;unfold parseL;rw [h]
theorem parseL_next {L:List Bs} {k:Nat} (hk:k<L.length) {x:Int} (h:parse1 L[k]=some x) {R:Option (List Int)} {acc:List Int} (e:R=(parseL (L.drop k)).map (acc++·)):R=(parseL (L.drop (k+1))).map ((acc++[x])++·):=by
 rw [e,parseL_yes hk h]
 cases parseL (L.drop (k+1)) with
 |none=>rfl
 |some r=>simp
theorem parseL_end {L:List Bs} {R:Option (List Int)} {acc:List Int} (e:R=(parseL (L.drop L.length)).map (acc++·)):R=some acc:=by
 rw [e,List.drop_length];simp [parseL]
theorem parseL_len:∀{L:List Bs} {r:List Int},parseL L=some r→r.length=L.length∧(L.map List.length).sum≤46*L.length∧∀x∈r,stroke x=true
 |[],r,h=>by injection h with h;subst h;simp
 |w::L,r,h=>by
  unfold parseL at h
  split at h
  ·cases h
  ·rename_i x hx
   cases hr:parseL L with
   |none=>rw [hr]at h;cases h
   |some r'=>
    rw [hr]at h;injection h with h;subst h;obtain⟨h1,h2,h3⟩:=parseL_len hr;obtain⟨g1,g2⟩:=parse1_some hx;have g3:=fmt_len x;rw [g2]at g3;refine⟨by simp [h1],by simp;omega,?_⟩;intro y hy
    rcases List.mem_cons.1 hy with rfl|hy
    ·exact g1
    ·exact h3 y hy
theorem outline_len {o:List Int} (h:outline o=true):1≤o.length∧o.length≤6:=by
 unfold outline at h;simp only [Bool.and_eq_true,decide_eq_true_eq]at h;omega
def parseO (s:Bs):Option (List Int):=(parseL (split 47 s)).filter outline
theorem filter_len {o:Option (List Int)} (h:∀r,o=some r→7≤r.length):o.filter outline=none:=by
 cases o with
 |none=>rfl
 |some r=>
  have h1:=h r rfl
  have h2:outline r=false:=by
   cases hq:outline r
   ·rfl
   ·have:=outline_len hq;omega
  simp [Option.filter,h2]
theorem parseO_take (s:Bs):parseO s=(parseL ((split 47 s).take 7)).filter outline:=by
 unfold parseO
 by_cases h:(split 47 s).length≤7
 ·rw [List.take_of_length_le h]
 ·rw [filter_len (fun r hr=>by have:=(parseL_len hr).1;omega),filter_len (fun r hr=>by have:=(parseL_len hr).1;rw [List.length_take]at this;omega)]
theorem parseO_long {s:Bs} (h:4000<s.length):parseO s=none:=by
 unfold parseO
 cases hp:parseL (split 47 s) with
 |none=>rfl
 |some r=>
  obtain⟨h1,h2,_⟩:=parseL_len hp;have h3:=split_len 47 s
  have h4:outline r=false:=by
   cases hq:outline r
   ·rfl
   ·have:=outline_len hq;omega
  simp [Option.filter,h4]
theorem parseO_some {s:Bs} {o:List Int} (h:parseO s=some o):outline o=true∧s.length≤4000:=by
 refine⟨?_,?_⟩
 ·unfold parseO at h;exact (Option.filter_eq_some_iff.1 h).2
 ·rcases Nat.lt_or_ge 4000 s.length with hl|hl
  ·rw [parseO_long hl]at h;cases h
  ·exact hl
theorem segs_mem {d:Dic} {st:List Int} {p:Pc}:∀{f a:Nat},p∈segs d st f a→∃b,b<st.length∧p=matchA d st b
 |0,_,h=>by cases h
 |f+1,a,h=>by
  unfold segs at h
  split at h
  ·rename_i hlt
   rcases List.mem_cons.1 h with h|h
   ·exact⟨a,hlt,h⟩
   ·exact segs_mem h
  ·cases h
theorem matchN_text {d:Dic} {st:List Int} (hd:dic d=true) (a:Nat):∀n:Nat,(matchN d st a n).2=[]∨(transS (matchN d st a n).2).2=true
 |0=>.inl rfl
 |n+1=>by
  unfold matchN
  split
  ·rename_i h
   right
   have hm:=mem_textAt h;unfold dic at hd;simp only [Bool.and_eq_true,List.all_eq_true]at hd;have he:=hd.2.1 _ hm;unfold entry at he;simp only [Bool.and_eq_true]at he;exact he.2
  ·exact matchN_text hd a n
theorem seg_piece {d:Dic} {st:List Int} (hd:dic d=true) {p:Pc} (h:p∈segA d st):∃a k:Nat,a<st.length∧p.1=((a:Int),(k:Int))∧(p.2=[]∨(transS p.2).2=true):=by
 obtain⟨b,hb,rfl⟩:=segs_mem h;obtain⟨k,hk,_⟩:=matchN_cnt d st b (min 6 (st.length-b));exact⟨b,k,hb,hk,matchN_text hd b _⟩
theorem segA_len (d:Dic) (st:List Int):(segA d st).length≤st.length:=segs_len
theorem stroke_nat {st:List Int} (h:slist st=true) {a:Nat} (ha:a<st.length):∃m:Nat,st[a]=(m:Int)∧stroke (m:Int)=true∧st.getD a 0=(m:Int):=by
 unfold slist at h;simp only [Bool.and_eq_true,List.all_eq_true]at h;have hs:=h.2 _ (List.getElem_mem ha);have h1:=hs;unfold stroke at h1;simp only [decide_eq_true_eq]at h1;obtain⟨m,hm⟩:=Int.eq_ofNat_of_zero_le (show 0≤st[a] by omega);refine⟨m,hm,by rw [←hm];exact hs,?_⟩;rw [List.getD_eq_getElem?_getD,List.getElem?_eq_getElem ha];exact hm
theorem atoms_word {st:List Int} {p:Pc} {a:Nat} (h:p.2=[]) (h1:p.1.1=(a:Int)):pcAtoms st p=[(1,raw (st.getD a 0))]:=by
 unfold pcAtoms;rw [if_pos h,h1,Int.toNat_natCast]
theorem atoms_trans {st:List Int} {p:Pc} (h:p.2≠[]):pcAtoms st p=(transS p.2).1:=by
 unfold pcAtoms;rw [if_neg h]
theorem trans_len60 {s:Bs} (h:(transS s).2=true):s.length≤60:=by
 by_cases hl:60<s.length
 ·unfold transS at h;rw [if_pos hl]at h
  cases h
 ·omega
theorem trans_atoms {s:Bs} (h:(transS s).2=true):∀x∈(transS s).1,atom x.1 x.2=true:=by
 unfold transS at h⊢
 by_cases h0:60<s.length
 ·rw [if_pos h0]at h;cases h
 rw [if_neg h0]at h⊢
 cases hl:atoms (split 32 s) with
 |none=>rw [hl]at h;cases h
 |some l=>
  rw [hl]at h;simp only at h⊢
  by_cases h2:listS l=true
  ·rw [if_pos h2];unfold listS at h2;simp only [Bool.and_eq_true,List.all_eq_true]at h2;exact h2.2.1
  ·rw [if_neg h2]at h
   cases h
theorem pcAtoms_text {st:List Int} {p:Pc} (h:p.2=[]∨(transS p.2).2=true):∀x∈pcAtoms st p,x.2.length≤46:=by
 intro x hx
 by_cases hp:p.2=[]
 ·unfold pcAtoms at hx;rw [if_pos hp,List.mem_singleton]at hx;rw [hx];exact raw_len _
 ·rw [atoms_trans hp]at hx;have:=(atom_text (trans_atoms (h.resolve_left hp) x hx)).2;omega
theorem atomsOf_text {st:List Int} {l:List Pc} (h:∀p∈l,∃a k:Nat,a<st.length∧p.1=((a:Int),(k:Int))∧(p.2=[]∨(transS p.2).2=true)):∀x∈atomsOf st l,x.2.length≤2^29:=by
 intro x hx;unfold atomsOf at hx;rw [List.mem_flatMap]at hx;obtain⟨p,hp,hx⟩:=hx;obtain⟨_,_,_,_,h3⟩:=h p hp;have:=pcAtoms_text h3 x hx;omega
end Go.Proofs.YtggfdnopminemaaGreatDoor.P
namespace Go.Proofs.YtggfdnopminemaaGreatDoor
namespace P
theorem vgroupsN_le (s:Bs):∀k:Nat,vgroupsN s k≤k
 |0=>Nat.le_refl _
 |k+1=>by have:=vgroupsN_le s k;unfold vgroupsN;split<;>omega
theorem vgroupsN_yes {s:Bs} {k:Nat} (h:vbegins s k=true):vgroupsN s (k+1)=vgroupsN s k+1:=by
 conv=>lhs;unfold vgroupsN
 rw [if_pos h]
theorem vgroupsN_no {s:Bs} {k:Nat} (h:vbegins s k=false):vgroupsN s (k+1)=vgroupsN s k:=by
 conv=>lhs;unfold vgroupsN
 rw [if_neg (by rw [h];decide)];rfl
theorem getD_at {s:Bs} {k:Nat} (h:k<s.length):s.getD k 0=s[k]:=by
 rw [List.getD_eq_getElem?_getD,List.getElem?_eq_getElem h];rfl
theorem back_at {s:Bs} {n k:Nat} (h:n+k=s.length) (hk:1≤k):∃hn:n<s.length,back s k=s[n]:=by
 refine⟨by omega,?_⟩;unfold back;rw [show s.length-k=n by omega,getD_at oZ]
theorem vbegins_0 {s:Bs} (h:0<s.length):vbegins s 0=vow s[0]:=by
 unfold vbegins;rw [getD_at h];simp
theorem vbegins_s {s:Bs} {k:Nat} (h:k+1<s.length):vbegins s (k+1)=(vow s[k+1]&&!vow (s[k]'(by omega))):=by
 unfold vbegins;rw [getD_at h,Nat.add_sub_cancel,getD_at (show k<s.length by omega)];simp
end P
open Go Go.RowKit
set_option maxHeartbeats 2000000
set_option maxRecDepth 100000
theorem u8_beq (b:UInt8) (n:Nat) (hn:n<256):((b.toNat:Int)==(n:Int))=(b==UInt8.ofNat n):=by
 rw [Bool.eq_iff_iff];simp only [beq_iff_eq]
 constructor
 ·intro h;apply UInt8.toNat_inj.1;rw [UInt8.toNat_ofNat_of_lt' hn];omega
 ·intro h;rw [h,UInt8.toNat_ofNat_of_lt' hn]
theorem l9Vowel (b:UInt8) (w:World) :
 Calls Tryz.prog 343 #[.int .u8 b.toNat] w fun e w'=>e=.returned (.bool (P.vow b))∧w=w':=by
 have hv:P.vow b=(b==97||(b==101||(b==105||(b==111||b==117)))):=rfl
 obtain⟨q0,h0⟩:∃q,(b==97)=q:=⟨_,rfl⟩
 obtain⟨q1,h1⟩:∃q,(b==101)=q:=⟨_,rfl⟩
 obtain⟨q2,h2⟩:∃q,(b==105)=q:=⟨_,rfl⟩
 obtain⟨q3,h3⟩:∃q,(b==111)=q:=⟨_,rfl⟩
 obtain⟨q4,h4⟩:∃q,(b==117)=q:=⟨_,rfl⟩
 have f0:((b.toNat:Int)==97)=q0:=(u8_beq b 97 dZ).trans h0
 have f1:((b.toNat:Int)==101)=q1:=(u8_beq b 101 dZ).trans h1
 have f2:((b.toNat:Int)==105)=q2:=(u8_beq b 105 dZ).trans h2
 have f3:((b.toNat:Int)==111)=q3:=(u8_beq b 111 dZ).trans h3
 have f4:((b.toNat:Int)==117)=q4:=(u8_beq b 117 dZ).trans h4
 rw [h0,h1,h2,h3,h4]at hv
 have HV:=qh hv
 clear h0 h1 h2 h3 h4 hv
 cases q0 with
 |true=>
  exact zq77
 |false=>
 cases q1 with
 |true=>
  exact zq77
 |false=>
 cases q2 with
 |true=>
  exact zq77
 |false=>
 cases q3 with
 |true=>
  exact zq77
 |false=>
  exact zq77
theorem l9Groups (s:Str) (w:World) (hs:s.length≤2^30) :
 Calls Tryz.prog 371 #[.string (S s)] w fun e w'=>e=.returned (.int .i64 (P.vgroups s))∧w=w':=by
 go_enter Tryz.func371,Tryz.ntmps371
 go_wp2
 go_loop [3,4] (fun n i=>∃k:Nat,k≤s.length∧i=.int .i64 k∧n=.int .i64 (P.vgroupsN s k)) (fun _ i=>s.length-(intOf i).toNat)
 case atStart=>exact⟨0,Nat.zero_le _,rfl,rfl⟩
 case round=>
  obtain⟨k,hk,rfl,rfl⟩:=hrel;have hg:=P.vgroupsN_le s k
  by_cases hlt:k<s.length
  ·have i1:(k:Int)<(s.length:Int):=by omega
   have HY:=qh (P.vgroupsN_yes (s:=s) (k:=k));have HN:=qh (P.vgroupsN_no (s:=s) (k:=k));generalize P.vgroupsN s k=gn at *
   rcases k with _|m
   ·rw [P.vbegins_0 hlt]at HY HN;obtain⟨q,hq⟩:∃q,P.vow (s[0]'hlt)=q:=⟨_,rfl⟩;rw [hq]at HY HN
    cases q
    ·have HZ:=qh (HN.o rfl);clear HY HN
     go_wp2_with (go_at_call 343;refine (l9Vowel _ _).mono ?_;rintro e w' ⟨rfl,rfl⟩)
     exact zq152
    ·have HZ:=qh (HY.o rfl);clear HY HN
     go_wp2_with (go_at_call 343;refine (l9Vowel _ _).mono ?_;rintro e w' ⟨rfl,rfl⟩)
     exact zq148
   ·rw [P.vbegins_s hlt]at HY HN;have hm:m<s.length:=by omega
    have i2:(((m+1:Nat):Int)==0)=false:=by rw [beq_eq_false_iff_ne];omega
    have i3:((m+1:Nat):Int)-1=(m:Int):=by omega
    obtain⟨q,hq⟩:∃q,P.vow (s[m+1]'hlt)=q:=⟨_,rfl⟩;obtain⟨r,hr⟩:∃r,P.vow (s[m]'hm)=r:=⟨_,rfl⟩;rw [hq,hr]at HY HN
    cases q
    ·exact zq188
    ·cases r
     ·have HZ:=qh (HY.o rfl);clear HY HN
      go_wp2_with (go_at_call 343;refine (l9Vowel _ _).mono ?_;rintro e w' ⟨rfl,rfl⟩)
      exact zq165
     ·exact zq188
  ·exact zq112
theorem l9Ends (s e:Str) (w:World) (hs:s.length≤2^40) :
 Calls Tryz.prog 345 #[.string (S s),.string (S e)] w fun e' w'=>e'=.returned (.bool (P.ends s e))∧w=w':=by
 have HE:=qh (P.ends_raw s e)
 by_cases h:e.length≤s.length
 ·have i1:(e.length:Int)≤(s.length:Int):=by omega
  have i2:(s.length:Int)-(e.length:Int)=((s.length-e.length:Nat):Int):=by omega
  have i3:s.length-e.length≤s.length:=by omega
  have i4:IntKind.i64.wrap ((s.length:Int)-(e.length:Int))=((s.length-e.length:Nat):Int):=by rw [IntKind.wrap_i64];omega
  go_enter Tryz.func345,Tryz.ntmps345
  go_wp2;go_ret;exact⟨ret_bool (by rw [←HE.o,decide_eq_true h];simp),rfl⟩
 ·have i1:¬(e.length:Int)≤(s.length:Int):=by omega
  go_enter Tryz.func345,Tryz.ntmps345
  go_wp2;go_ret;exact⟨ret_bool (by rw [←HE.o,decide_eq_false h];simp),rfl⟩
theorem l9ConsonantY (s:Str) (w:World) (hs:s.length≤2^40) :
 Calls Tryz.prog 344 #[.string (S s)] w fun e w'=>e=.returned (.bool (P.consY s))∧w=w':=by
 have HC:=qh (show P.consY s=(decide (2≤s.length)&&(P.back s 1==121&&!P.vow (P.back s 2))) from rfl)
 by_cases h:2≤s.length
 ·obtain⟨n2,hn2⟩:∃n,n+2=s.length:=⟨s.length-2,by omega⟩;obtain⟨l1,b1⟩:=P.back_at (s:=s) (n:=n2+1) (k:=1) oZ oZ;obtain⟨l2,b2⟩:=P.back_at (s:=s) (n:=n2) (k:=2) oZ oZ;rw [b1,b2,decide_eq_true h]at HC;have i1:(2:Int)≤(s.length:Int):=by omega
  have i2:(s.length:Int)-1=((n2+1:Nat):Int):=by omega
  have i3:(s.length:Int)-2=(n2:Int):=by omega
  have i4:n2+1<s.length:=l1;have i5:n2<s.length:=l2;obtain⟨q,hq⟩:∃q,(s[n2+1]'l1==121)=q:=⟨_,rfl⟩;have f0:(((s[n2+1]'l1).toNat:Int)==121)=q:=(u8_beq _ 121 dZ).trans hq;rw [hq]at HC;clear b1 b2 hq hn2 h
  cases q
  ·exact zq128
  ·exact zq128
 ·have i1:¬(2:Int)≤(s.length:Int):=by omega
  go_enter Tryz.func344,Tryz.ntmps344
  go_wp2;go_ret;exact⟨ret_bool (by rw [HC.o,decide_eq_false h];rfl),rfl⟩
theorem l9Word (s:Str) (w:World) (hs:s.length≤2^40) :
 Calls Tryz.prog 242 #[.string (S s)] w fun e w'=>e=.returned (.bool (P.isWord s))∧w=w':=by
 have HF:=qh (show P.isWord s=(s.all P.lower&&decide (1≤(s.length:Int)∧(s.length:Int)≤24)) from rfl)
 go_enter Tryz.func242,Tryz.ntmps242
 go_wp2
 go_loop [3] (fun i=>∃j:Nat,j≤s.length∧i=.int .i64 j∧(s.take j).all P.lower=true) (fun i=>s.length-(intOf i).toNat)
 case atStart=>exact⟨0,by omega,rfl,by simp⟩
 case round=>
  obtain⟨j,hj,rfl,ha⟩:=hrel;have HA:=qh ha;clear ha
  by_cases hlt:j<s.length
  ·have i1:(j:Int)<(s.length:Int):=by omega
   rcases Int.lt_or_le (s[j].toNat:Int) 97 with h1|h1
   ·have H:=qh h1;go_wp2;go_ret;exact⟨ret_bool (by rw [HF.o,P.all_false hlt (P.lower_no (.inl H.o))];simp),rfl⟩
   ·rcases Int.lt_or_le 122 (s[j].toNat:Int) with h2|h2
    ·have H:=qh h2;go_wp2;go_ret;exact⟨ret_bool (by rw [HF.o,P.all_false hlt (P.lower_no (.inr H.o))];simp),rfl⟩
    ·have HL:=qh (P.lower_yes h1 h2);go_wp2
     go_round
     case rel=>exact⟨j+1,by omega,by go_num,all_snoc j hlt HA.o HL.o⟩
     case measure=>simp [intOf];omega
  ·have i1:¬(j:Int)<(s.length:Int):=by omega
   have HT:=qh (show s.all P.lower=true by rw [←List.take_of_length_le (l:=s) (i:=j) oZ];exact HA.o)
   go_wp2_with fail
   refine (l1In _ _ _ _).mono ?_;rintro e w1 ⟨rfl,rfl⟩;go_wp2;go_ret;exact⟨ret_bool (by rw [HF.o,HT.o];simp),rfl⟩
end Go.Proofs.YtggfdnopminemaaGreatDoor
