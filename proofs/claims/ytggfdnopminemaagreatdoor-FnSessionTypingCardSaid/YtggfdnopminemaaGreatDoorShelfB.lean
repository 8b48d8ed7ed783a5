/- Plain: commands of a session. -/
import Derived.Test.YtggfdnopminemaaGreatDoorZt
import Derived.Test.YtggfdnopminemaaGreatDoorScrI9
import Derived.Test.YtggfdnopminemaaGreatDoorLApp
set_option linter.all false
namespace Go.Proofs.YtggfdnopminemaaGreatDoor.P
def fmtE (e:Edit):Bs:=45::(num e.1.toNat++43::e.2)
abbrev Ses:=Dic×Tr
abbrev Ans:=Ses×Option Bs
def optB (r:Bs×Bool):Option Bs:=if r.2 then some r.1 else none
def b1v (d:Dic):Tr→List Int→Option Tr
 |t,[]=>some t
 |t,k::r=>if (a3o d t k).2 then b1v d (a3o d t k).1.1 r else none
def typed (s:Ses) (l:List Int):Ans:=match b1v s.1 s.2 l with
 |none=>(s,none)
 |some t=>((s.1,t),some (fmtE (least s.2.2 t.2)))
def b0o (s:Ses) (o:List Int):Bs×Bool:=scr (kept (a6j o s.1) (del o s.1)) s.2.1
def a6g (s:Ses) (o:List Int):Ans:=if a6j o s.1&&(b0o s o).2 then ((kept (a6j o s.1) (del o s.1),(s.2.1,(b0o s o).1)),some (fmtE (least s.2.2 (b0o s o).1))) else (s,none)
def b8i:Bs:=[112,114,101,115,115]
def d2f:Bs:=[116,121,112,101]
def b5f:Bs:=[100,101,108,101,116,101]
def c6z:Bs:=[108,111,111,107,117,112]
def c5l:Bs:=[100,101,102,105,110,101]
def c2y:Bs:=[114,101,118,101,114,115,101]
def wJoin:Bs:=[106,111,105,110]
def d3c:Bs:=[108,111,111,115,101]
def wUndo:Bs:=[117,110,100,111]
def c9u:Bs:=[115,99,114,101,101,110]
def d3f:Bs:=[99,111,117,110,116]
def c8z:Bs:=[112,105,101,99,101,115]
def wNone:Bs:=[110,111,110,101]
def a6e:Bs:=[108,111,110,103]
def wNo:Bs:=[110,111]
def wBad:Bs:=[98,97,100]
def wFull:Bs:=[102,117,108,108]
def outl (s:Ses) (word:Bs) (o:List Int):Ans:=if word=d2f then typed s o else if word=b5f then a6g s o else (s,optB (b5u o s.1))
def b3k (s:Ses) (word more:Bs):Ans:=match a2q more with
 |none=>(s,none)
 |some o=>outl s word o
def a2x (t:Bs) (l:Dic):List (List Int):=(l.filter fun e=>e.2==t).map (·.1)
def revT (d:Dic) (t:Bs):Bs:=if a2x t d=[] then wNone else Go.Lib.join ((a2x t d).map fun o=>(fmtS 47 o).map hash) [32]
def a7o (d:Dic) (more:Bs):Option Bs:=if (a0p more).2 then some (revT d more) else none
def a5r (s:Ses) (more:Bs):Ans:=match a2q (head 32 more) with
 |none=>(s,none)
 |some o=>if (head 32 more).length=more.length then (s,none) else
  if (a3y s.1 s.2 (o,more.drop ((head 32 more).length+1))).2 then
   ((a3y s.1 s.2 (o,more.drop ((head 32 more).length+1))).1.1,some (fmtE (a3y s.1 s.2 (o,more.drop ((head 32 more).length+1))).1.2)) else (s,none)
def a0t (more:Bs):Option Bs:=match split 32 more with
 |[a,b]=>optB (a4k a b)
 |_=>none
def c6c (more:Bs):Option Bs:=if (loose more).2 then some (fmt ((loose more).1:Int)) else none
def blank (l:List Pc):Nat:=(l.filter fun p=>p.2==[]).length
def alone (s:Ses) (word:Bs):Ans:=
 if word=wUndo then typed s [1024] else if word=c9u then (s,some s.2.2) else if word=d3f then (s,some (num s.2.1.length))
 else if word=c8z then (s,some ((num (segA s.1 s.2.1).length++[32])++num (blank (segA s.1 s.2.1)))) else (s,none)
def a6z (s:Ses) (more:Bs):Ans:=if (parse more).2 then typed s [((parse more).1:Int)] else (s,none)
def args (s:Ses) (word more:Bs):Ans:=
 if word=b8i then a6z s more else if word=d2f∨word=b5f∨word=c6z then b3k s word more
 else if word=c5l then a5r s more else if word=c2y then (s,a7o s.1 more)
 else if word=wJoin then (s,a0t more) else if word=d3c then (s,c6c more) else (s,none)
def cmd (s:Ses) (line:Bs):Ans:=if (head 32 line).length=line.length then alone s (head 32 line) else args s (head 32 line) (line.drop ((head 32 line).length+1))
def a3a (o:Option Bs):Bs:=match o with
 |none=>[63]
 |some r=>if 200<r.length then a6e else r
abbrev LogT:=Bs×Bs×Int
def b4p (g:LogT) (c r:Bs):LogT:=(g.1,(appS g.1 g.2.1 g.2.2 c r).1,(appS g.1 g.2.1 g.2.2 c r).2.1)
def a8b (s:Ses) (g:LogT):Bool:=sess s.1 s.2.1 s.2.2 g.1 g.2.1 g.2.2
def exec (s:Ses) (g:LogT) (line:Bs):(Ses×LogT)×Bs:=
 if !a8b s g then ((s,g),wNo) else if !good line [] then ((s,g),wBad) else if g.2.2=60 then ((s,g),wFull)
 else (((cmd s line).1,b4p g line (a3a (cmd s line).2)),a3a (cmd s line).2)
/-! ### cut and split -/
theorem c2j (c:UInt8) (l:Bs) (h:c∉l):Go.Lib.cut l [c]=(l,[],false):=by
 unfold Go.Lib.cut;rw [a9a c l h];rfl
theorem b2h (c:UInt8) (l:Bs):(c∉l∧Go.Lib.cut l [c]=(l,[],false)∧head c l=l) ∨
 ∃x y,l=x++c::y∧(∀b∈x,b≠c)∧Go.Lib.cut l [c]=(x,y,true)∧head c l=x∧l.drop ((head c l).length+1)=y∧(head c l).length<l.length:=by
 by_cases hm:c∈l
 ·obtain⟨x,y,e,hx⟩:=a1m c l hm;refine .inr ⟨x,y,e,hx,by rw [e];exact a7b c x y hx,by rw [e];exact a5w c x y hx,?_,?_⟩
  ·rw [e,a5w c x y hx,show x++c::y=(x++[c])++y by simp,show x.length+1=(x++[c]).length by simp,List.drop_left]
  ·rw [e,a5w c x y hx];simp
 ·exact .inl ⟨hm,c2j c l hm,by unfold head;rw [a4a c l hm];rfl⟩
theorem c5x (s:Ses) (line:Bs):cmd s line=if (Go.Lib.cut line [32]).2.2 then args s (Go.Lib.cut line [32]).1 (Go.Lib.cut line [32]).2.1 else alone s (Go.Lib.cut line [32]).1:=by
 unfold cmd
 rcases b2h 32 line with⟨_,h1,h2⟩|⟨x,y,_,_,h1,h2,h3,h4⟩
 ·rw [h1,h2,if_pos rfl];rfl
 ·rw [h1,if_neg oZ,h3,h2];rfl
theorem c3f {y:Bs} (h:(32:UInt8)∈y):isWord y=false:=by
 unfold isWord
 have:y.all lower=false:=by
  rw [List.all_eq_false];exact⟨32,h,by decide⟩
 rw [this];rfl
theorem c1u {x y:Bs} (h:isWord y=false):a4k x y=([],false):=by
 unfold a4k;rw [h,Bool.and_false];rfl
theorem c4w (more:Bs):optB (a4k (Go.Lib.cut more [32]).1 (Go.Lib.cut more [32]).2.1)=a0t more:=by
 unfold a0t
 rcases b2h 32 more with⟨h0,h1,h2⟩|⟨x,y,h0,hx,h1,_⟩
 ·rw [h1,a4a 32 more h0]
  show optB (a4k more [])=none
  rw [c1u dZ];rfl
 ·rw [h1,h0,a5a 32 y x hx]
  by_cases hy:(32:UInt8)∈y
  ·obtain⟨a,b,e,ha⟩:=a1m 32 y hy
   show optB (a4k x y)=_
   rw [c1u (c3f hy),e,a5a 32 b a ha]
   cases hb:split 32 b with
   |nil=>exact absurd hb (a8j 32 b)
   |cons _ _=>rfl
  ·rw [a4a 32 y hy]
theorem b9s (d:Dic) (t:Tr) (o:List Int):(a3y d t (o,[])).2=false:=by
 have:a6l (o,[]) d=false:=by
  unfold a6l entry;rw [show (a0p ([]:Bs)).2=false from by decide];simp
 rw [b5v (by rw [this];simp)]
theorem a7v (s:Ses) (more:Bs):a5r s more=match a2q (Go.Lib.cut more [32]).1 with
 |none=>(s,none)
 |some o=>if (a3y s.1 s.2 (o,(Go.Lib.cut more [32]).2.1)).2 then ((a3y s.1 s.2 (o,(Go.Lib.cut more [32]).2.1)).1.1,some (fmtE (a3y s.1 s.2 (o,(Go.Lib.cut more [32]).2.1)).1.2)) else (s,none):=by
 unfold a5r
 rcases b2h 32 more with⟨h0,h1,h2⟩|⟨x,y,h0,hx,h1,h2,h3,h4⟩
 ·rw [h1,h2]
  cases a2q more with
  |none=>rfl
  |some o=>simp only [b9s];simp
 ·rw [h1,h3]
  show _=match a2q x with
   |none=>(s,none)
   |some o=>if (a3y s.1 s.2 (o,y)).2 then ((a3y s.1 s.2 (o,y)).1.1,some (fmtE (a3y s.1 s.2 (o,y)).1.2)) else (s,none)
  rw [h2]at h4⊢
  cases a2q x with
  |none=>rfl
  |some o=>
   show (if x.length=more.length then _ else _)=_
   rw [if_neg oZ]
/-! ### what a command keeps -/
theorem a7d:∀(l:Bs) (acc n:Nat) (b:UInt8) (d:Nat),Go.Lib.decFrom acc l=some n→Go.Lib.digitVal b=some d→Go.Lib.decFrom acc (l++[b])=some (n*10+d)
 |[],acc,n,b,d,h,hd=>by
  simp only [Go.Lib.decFrom,Option.some.injEq]at h;subst h;simp [Go.Lib.decFrom,hd]
 |a::t,acc,n,b,d,h,hd=>by
  simp only [Go.Lib.decFrom,List.cons_append]at h⊢
  cases ha:Go.Lib.digitVal a with
  |none=>simp [ha]at h
  |some e=>
   simp only [ha]at h⊢;exact a7d t _ n b d h hd
theorem b8t {k:Nat} (h:k<10):Go.Lib.digitVal (UInt8.ofNat (48+k))=some k:=by
 have h1:(UInt8.ofNat (48+k)).toNat=48+k:=by rw [UInt8.toNat_ofNat'];omega
 unfold Go.Lib.digitVal;rw [h1,if_pos oZ]
 congr 1;omega
theorem num_ne (n:Nat):num n≠[]:=by
 unfold num;rw [Go.Lib.decDigits]
 split<;>simp
theorem d4v (n:Nat):Go.Lib.decFrom 0 (num n)=some n:=by
 induction n using Nat.strongRecOn with
 |_ n ih=>
  unfold num at ih⊢;rw [Go.Lib.decDigits]
  split
  ·rename_i h
   have:=a7d [] 0 0 (UInt8.ofNat (48+n)) n rfl (b8t h)
   simpa using this
  ·rename_i h
   have h1:=a7d _ 0 (n / 10) (UInt8.ofNat (48+n % 10)) (n % 10) (ih (n / 10) oZ) (b8t oZ);rw [h1];congr 1;omega
theorem d2q {n:Nat} (h:n≤2000):Go.Lib.atoiAll (num n)=.ok (n:Int):=by
 have h1:(num n).length≤18:=by
  have:=a5v n oZ;exact zq23
 rw [Go.Lib.atoiAll_short _ h1];have hd:=d4v n;have hn:=c1p n 45 dZ;have hp:=c1p n 43 dZ
 cases e:num n with
 |nil=>exact absurd e (num_ne n)
 |cons b r=>
  rw [e]at hd hn hp;have h45:(b==45)=false:=by simpa using hn b (List.mem_cons_self ..)
  have h43:(b==43)=false:=by simpa using hp b (List.mem_cons_self ..)
  unfold Go.Lib.atoi;simp only [h45,h43];have:Go.Lib.decNat (b::r)=some n:=by unfold Go.Lib.decNat;simpa using hd
  rw [this];rfl
theorem b7s {n:Nat} (h:n≤2000):(num n).length≤4:=by
 exact zq23
theorem c7k:Go.Lib.atoiAll a6e=Go.Lib.atoiAll []:=by decide
theorem d0a (x:Int) (t:Bs):Go.Lib.cut (fmtE (x,t)) [43]=(45::num x.toNat,t,true):=by
 unfold fmtE
 have h:=a7b 43 (45::num x.toNat) t (fun b hb=>by
  rcases List.mem_cons.mp hb with rfl|hb
  ·decide
  ·exact c1p x.toNat 43 dZ b hb)
 simpa using h
theorem d0v:Go.Lib.cut a6e [43]=(a6e,[],false):=c2j 43 _ dZ
def bits (l:List Nat):Nat:=(l.map (2^·)).sum
theorem d4n:∀p:Fin 24,∀k:Fin 23,(p.val≤k.val∧(8≤p.val∨k.val≤12))→(keyOf (lab k.val) p.val=k.val∧lab k.val≠45):=by decide +kernel
theorem d2m (p:Nat) (hp:p<24) (k:Nat) (hk:k<23) (h1:p≤k) (h2:8≤p∨k≤12):keyOf (lab k) p=k∧lab k≠45:=d4n ⟨p,hp⟩ ⟨k,hk⟩ ⟨h1,h2⟩
theorem a5t:∀(l:List Nat) (B a p:Nat) (h:Bool) (r:Bs),l.Pairwise (·<·)→(∀k∈l,p≤k∧k<B∧(8≤p∨k≤12))→p≤B→B≤23 →
 ∃p',a1h (l.map lab++r) (a,p,h)=a1h r (a+bits l,p',h)∧p≤p'∧(∀k∈l,k<p')∧p'≤B
 |[],B,a,p,h,r,_,_,hp,_=>⟨p,by simp [bits],Nat.le_refl _,by simp,hp⟩
 |k::l,B,a,p,h,r,hs,hk,hp,hB=>by
  obtain⟨k1,k2,k3⟩:=hk k (List.mem_cons_self ..);rw [List.pairwise_cons]at hs;obtain⟨q1,q2⟩:=d2m p oZ k oZ k1 k3
  obtain⟨p',e,h1,h2,h3⟩:=a5t l B (a+2^k) (k+1) h r hs.2 (fun j hj=>by
   have:=hk j (List.mem_cons_of_mem _ hj);have:=hs.1 j hj;omega) oZ hB
  refine⟨p',?_,by omega,?_,h3⟩
  ·rw [List.map_cons,List.cons_append]
   conv=>lhs;unfold a1h a1u
   rw [if_neg q2,q1,if_pos oZ]
   show a1h (l.map lab++r) (a+2^k,k+1,h)=_
   rw [e];have:a+bits (k::l)=a+2^k+bits l:=by unfold bits;simp;omega
   rw [this]
  ·intro j hj
   rcases List.mem_cons.1 hj with rfl|hj
   ·omega
   ·exact h2 j hj
theorem b2z:∀(l:List Nat),fmtL true l=l.map lab
 |[]=>rfl
 |k::l=>by
  unfold fmtL;rw [Bool.not_true,Bool.and_false,if_neg dZ,b2z l];rfl
theorem c4x (s:Int) (n:Nat):a1l s (n+1)=a1l s n++(if hasK s (n:Int) then [n] else []):=by
 unfold a1l;rw [List.range_succ,List.filter_append]
 congr 1
 cases h:hasK s (n:Int)<;>simp [h]
theorem c1t (a b:List Nat):bits (a++b)=bits a+bits b:=by unfold bits;simp
theorem b8c (s:Nat):∀n,bits (a1l (s:Int) n)=s % 2^n
 |0=>by simp [a1l,bits,Nat.mod_one]
 |n+1=>by
  rw [c4x,c1t,b8c s n];have h1:hasK (s:Int) (n:Int)=s.testBit n:=rfl;rw [h1,Nat.testBit_eq_decide_div_mod_eq,Nat.pow_succ,Nat.mod_mul]
  by_cases h:s / 2^n % 2=1
  ·rw [decide_eq_true h,if_pos rfl,h];simp [bits]
  ·rw [decide_eq_false h,if_neg dZ];have:s / 2^n % 2=0:=by omega
   rw [this];simp [bits]
theorem b8k (s:Int) (n:Nat):(a1l s n).Pairwise (·<·):=List.pairwise_lt_range.filter _
theorem b4w (s:Int):(a3t s).Pairwise (·<·):=by
 have h:=b8k s 23;have e:a1l s 23=a1l s 13++a3t s:=a5m s;rw [e,List.pairwise_append]at h;exact h.2.1
theorem b8m {s:Int} {k:Nat} (h:k∈a3t s):k<23:=by
 have e:a1l s 23=a1l s 13++a3t s:=a5m s;exact b1g (n:=23) (by rw [e];exact List.mem_append_right _ h)
theorem c8x {s:Nat} (h1:1≤s) (h2:s<2^23):loose (fmt (s:Int))=(s,true):=by
 have hb:bits (a1l (s:Int) 13)+bits (a3t (s:Int))=s:=by
  rw [←c1t,←a5m];have:=b8c s 23;rw [Nat.mod_eq_of_lt h2]at this;exact this
 have hL:∀k∈a1l (s:Int) 13,0≤k∧k<13∧(8≤0∨k≤12):=fun k hk=>by have:=b1g hk;omega
 have goal:∃p hh,a1h (fmt (s:Int)) (0,0,false)=some (s,p,hh):=by
  unfold fmt;rw [b8e,a5m,c1z _ _ _ (fun k hk=>by have:=b1g hk;omega)];obtain⟨p',e,_,g2,g3⟩:=a5t (a1l (s:Int) 13) 13 0 0 false (fmtL ((a1l (s:Int) 13).any a4y) (a3t (s:Int))) (b8k _ _) hL dZ dZ;rw [e]
  cases hm:(a1l (s:Int) 13).any a4y
  ·cases hh:a3t (s:Int) with
   |nil=>
    rw [hh]at hb;refine⟨p',false,?_⟩;unfold fmtL a1h;have:bits (a1l (s:Int) 13)=s:=by simpa [bits] using hb
    rw [this,Nat.zero_add]
   |cons k l=>
    have hk:=a8q (s:=(s:Int)) (k:=k) (by rw [hh];exact List.mem_cons_self ..)
    have e2:fmtL false (k::l)=45::(a3t (s:Int)).map lab:=by
     rw [hh];unfold fmtL;rw [decide_eq_true hk,Bool.not_false,Bool.and_true,if_pos rfl,b2z];rfl
    rw [e2];unfold a1h a1u;rw [if_pos rfl];simp only [Bool.false_or];rw [if_neg (by simp;omega)];obtain⟨p2,e3,_,_,_⟩:=a5t (a3t (s:Int)) 23 (0+bits (a1l (s:Int) 13)) 13 true [] (b4w _) (fun j hj=>⟨a8q hj,b8m hj,.inl dZ⟩) dZ dZ;rw [List.append_nil]at e3;refine⟨p2,true,?_⟩
    show a1h ((a3t (s:Int)).map lab) (0+bits (a1l (s:Int) 13),13,true)=_
    rw [e3];unfold a1h;rw [Nat.zero_add,hb]
  ·rw [b2z]
   have hp:8≤p':=by
    obtain⟨k,hk,hk2⟩:=List.any_eq_true.1 hm;have:=g2 k hk;unfold a4y at hk2;rw [decide_eq_true_eq]at hk2;omega
   obtain⟨p2,e3,_,_,_⟩:=a5t (a3t (s:Int)) 23 (0+bits (a1l (s:Int) 13)) p' false [] (b4w _) (fun j hj=>⟨by have:=a8q hj;omega,b8m hj,.inl hp⟩) oZ dZ;rw [List.append_nil]at e3;refine⟨p2,false,?_⟩;rw [e3];unfold a1h;rw [Nat.zero_add,hb]
 obtain⟨p,hh,e⟩:=goal;rw [a7g e]
 show (s,decide (s≠0))=_
 rw [decide_eq_true oZ]
theorem c7j {k:Int} (h:a0m k=true):parse (fmt k)=(k.toNat,true):=by
 unfold a0m at h;rw [decide_eq_true_eq]at h;obtain⟨s,rfl⟩:=Int.eq_ofNat_of_zero_le (show 0≤k by omega);have hl:=c8x (s:=s) oZ oZ;rw [b7i (by rw [hl]) (by rw [hl]),hl];rfl
end Go.Proofs.YtggfdnopminemaaGreatDoor.P
namespace Go.Proofs.YtggfdnopminemaaGreatDoor
namespace P
def nx (s:Bs) (st:RSt):RSt:=(st.1++[(decode st.1.length (s.drop st.2.2)).1],st.2.1++[((st.2.2+(decode st.1.length (s.drop st.2.2)).2.1:Nat):Int)],st.2.2+(decode st.1.length (s.drop st.2.2)).2.1)
theorem a9m {s:Bs} {st:RSt} (h:(decode st.1.length (s.drop st.2.2)).2.2=true) (n:Nat):runI s (n+1) st=runI s n (nx s st):=b7w (b1d h) n
theorem b5m {s:Bs} {st:RSt} (h:(decode st.1.length (s.drop st.2.2)).2.2=false) (n:Nat):runI s n st=st:=b8w (a7i h) n
theorem nx_le {s:Bs} {st:RSt} (hs:st.2.2≤s.length) (h:(decode st.1.length (s.drop st.2.2)).2.2=true):(nx s st).2.2≤s.length:=by
 have h3:=(a4b _ _ h).2.2;rw [List.length_drop]at h3
 show st.2.2+(decode st.1.length (s.drop st.2.2)).2.1≤s.length
 omega
theorem c8r (s:Bs):∀(n:Nat) (st:RSt),(∃l,(runI s n st).1=st.1++l)∧st.2.2≤(runI s n st).2.2
 |0,_=>⟨⟨[],(List.append_nil _).symm⟩,Nat.le_refl _⟩
 |n+1,st=>by
  cases hd:(decode st.1.length (s.drop st.2.2)).2.2
  ·rw [b5m hd];exact⟨⟨[],(List.append_nil _).symm⟩,Nat.le_refl _⟩
  ·rw [a9m hd];obtain⟨⟨l,h1⟩,h2⟩:=c8r s n (nx s st);refine⟨⟨(decode st.1.length (s.drop st.2.2)).1::l,by rw [h1];simp [nx]⟩,Nat.le_trans ?_ h2⟩
   show st.2.2≤st.2.2+(decode st.1.length (s.drop st.2.2)).2.1
   omega
theorem nx_app {t x:Bs} {st:RSt} (hs:st.2.2≤t.length) (h:(decode st.1.length (t.drop st.2.2)).2.2=true):(decode st.1.length ((t++x).drop st.2.2)).2.2=true∧nx (t++x) st=nx t st:=by
 have h1:=(a9b (k:=st.1.length) (p:=x) hs).1 h;exact⟨by rw [h1];exact h,by unfold nx;rw [h1]⟩
theorem c2b (t x:Bs):∀(n:Nat) (st:RSt),st.2.2≤t.length→(runI t n st).1.length<st.1.length+n→runI (t++x) n st=runI (t++x) (st.1.length+n-(runI t n st).1.length) (runI t n st)
 |0,st,_,h=>by exact absurd h (Nat.lt_irrefl _)
 |n+1,st,hs,h=>by
  cases hd:(decode st.1.length (t.drop st.2.2)).2.2
  ·rw [b5m hd,show st.1.length+(n+1)-st.1.length=n+1 by omega]
  ·obtain⟨h1,h2⟩:=nx_app (x:=x) hs hd;rw [a9m hd]at h⊢;rw [a9m h1,h2];have e:(nx t st).1.length=st.1.length+1:=by simp [nx]
   rw [c2b t x n _ (nx_le hs hd) (by rw [e];omega),e,show st.1.length+1+n=st.1.length+(n+1) by omega]
theorem c3h (k:Nat):(decode k []).2.2=false:=by
 cases h:(decode k []).2.2
 ·rfl
 ·have:=a4b _ _ h;simp at this;omega
theorem d1c {t c r:Bs} {old:List (Bs×Bs)} {ends:List Int} (h:readAll t=(old,ends,t.length)) (hn:old.length≤59) (hg:good c r=true) :
 ∃ends',readAll (t++line old.length c r)=(old++[(c,r)],ends',(t++line old.length c r).length):=by
 have h1:=c2b t (line old.length c r) 60 ([],[],0) (Nat.zero_le _) (by
  show (readAll t).1.length<_
  rw [h];show old.length<0+60;omega)
 rw [show runI t 60 ([],[],0)=(old,ends,t.length) from h]at h1
 have h2:readAll (t++line old.length c r)=runI (t++line old.length c r) (60-old.length) (old,ends,t.length):=by
  unfold readAll;rw [h1];rw [show (([],[],0):RSt).1.length+60-((old,ends,t.length):RSt).1.length=60-old.length by show 0+60-old.length=_;omega]
 obtain⟨m,hm⟩:∃m,60-old.length=m+1:=⟨59-old.length,by omega⟩
 have hd:=a3b [] hn hg
 rw [List.append_nil]at hd
 have h3:decode old.length ((t++line old.length c r).drop t.length)=((c,r),(line old.length c r).length,true):=by rw [List.drop_left,hd]
 rw [h2,hm,a9m (by show (decode old.length ((t++line old.length c r).drop t.length)).2.2=true;rw [h3])]
 have hnx:nx (t++line old.length c r) (old,ends,t.length)=(old++[(c,r)],ends++[((t.length+(line old.length c r).length:Nat):Int)],t.length+(line old.length c r).length):=by
  unfold nx;simp only [h3]
 rw [hnx,b5m (by
  show (decode (old++[(c,r)]).length ((t++line old.length c r).drop (t.length+(line old.length c r).length))).2.2=false
  rw [←List.length_append,List.drop_length]
  exact c3h _)]
 exact⟨_,by rw [List.length_append]⟩
theorem b8x (s:Bs):∀(n:Nat) (st:RSt),st.2.2≤s.length→(runI s n st).2.2≤st.2.2+((runI s n st).1.length-st.1.length)*334
 |0,st,_=>by simp [runI]
 |n+1,st,hs=>by
  cases hd:(decode st.1.length (s.drop st.2.2)).2.2
  ·rw [b5m hd];omega
  ·rw [a9m hd];have ih:=b8x s n (nx s st) (nx_le hs hd);obtain⟨⟨l,hl⟩,_⟩:=c8r s n (nx s st);have e1:(nx s st).1.length=st.1.length+1:=by simp [nx]
   have e2:(runI s n (nx s st)).1.length=st.1.length+1+l.length:=by rw [hl,List.length_append,e1]
   obtain⟨hk,g,tail,e⟩:=a5k hd;have hdo:=a3b tail hk g;rw [←e]at hdo;have hn:(decode st.1.length (s.drop st.2.2)).2.1=(line st.1.length (decode st.1.length (s.drop st.2.2)).1.1 (decode st.1.length (s.drop st.2.2)).1.2).length:=congrArg (fun z=>z.2.1) hdo;have hle:=(a7m hk g).1;have e3:(nx s st).2.2=st.2.2+(decode st.1.length (s.drop st.2.2)).2.1:=rfl;rw [e1]at ih;omega
theorem c3j {d p:Bs} {n:Int} {c r:Bs} (h:a2n d p n=true):a2n d (appS d p n c r).1 (appS d p n c r).2.1=true∧(appS d p n c r).2.1≤n+1:=by
 obtain⟨g1,g2,g3⟩:=b6e h;unfold appS
 split
 ·exact⟨h,by show n≤n+1;omega⟩
 ·rename_i hg
  split
  ·exact⟨h,by show n≤n+1;omega⟩
  ·rename_i h6
   have h7:n≠60:=by simpa using h6
   have hg2:good c r=true:=by simpa [h] using hg
   refine⟨?_,Int.le_refl _⟩;have hv:=h;unfold a2n at hv;simp only [Bool.and_eq_true,decide_eq_true_eq,beq_iff_eq,a5i]at hv;obtain⟨_,v2,v3,v4⟩:=hv
   have e0:readAll (d++p)=((readAll (d++p)).1,(readAll (d++p)).2.1,(d++p).length):=by
    have:(readAll (d++p)).2.2=(d++p).length:=by rw [List.length_append];omega
    rw [←this]
   obtain⟨ends,e1⟩:=d1c e0 oZ hg2;have hn:(readAll (d++p)).1.length=n.toNat:=by omega
   rw [hn]at e1;have hps:=b8x (d++p++line n.toNat c r) 60 ([],[],0) (Nat.zero_le _);rw [show runI (d++p++line n.toNat c r) 60 ([],[],0)=_ from e1]at hps;simp only [List.length_append,List.length_cons,List.length_nil,hn,Nat.zero_add,Nat.sub_zero]at hps;unfold a2n;simp only [Bool.and_eq_true,decide_eq_true_eq,beq_iff_eq,a5i];rw [←List.append_assoc,e1];simp only [List.length_append,List.length_cons,List.length_nil,hn];refine⟨by omega,by omega,v3,by omega⟩
end P
end Go.Proofs.YtggfdnopminemaaGreatDoor
namespace Go.Proofs.YtggfdnopminemaaGreatDoor.P
theorem a3f {s:Ses} {g:LogT} (h:a8b s g=true):trans s.1 s.2=true∧a2n g.1 g.2.1 g.2.2=true:=by
 unfold a8b sess at h
 simpa only [Bool.and_eq_true] using h
theorem c1c (o:Option Bs):(a3a o).length≤200:=by
 unfold a3a
 split
 ·decide
 ·split
  ·decide
  ·omega
theorem d4i {s:Ses} {g:LogT} {line:Bs} (h:a8b s g=false):exec s g line=((s,g),wNo):=by unfold exec;rw [h];rfl
theorem c1y {s:Ses} {g:LogT} {line:Bs} (h:a8b s g=true) (h2:good line []=false):exec s g line=((s,g),wBad):=by unfold exec;rw [h,h2];rfl
theorem c9l {s:Ses} {g:LogT} {line:Bs} (h:a8b s g=true) (h2:good line []=true) (h3:g.2.2=60):exec s g line=((s,g),wFull):=by
 unfold exec;rw [h,h2,if_neg dZ,if_neg dZ,if_pos h3]
theorem c1v {s:Ses} {g:LogT} {line:Bs} (h:a8b s g=true) (h2:good line []=true) (h3:g.2.2≠60):exec s g line=(((cmd s line).1,b4p g line (a3a (cmd s line).2)),a3a (cmd s line).2):=by
 unfold exec;rw [h,h2,if_neg dZ,if_neg dZ,if_neg h3]
def Fit (s:Ses) (g:LogT):Prop:=s.1.length≤2^20∧(∀e∈s.1,e.1.length≤2^20)∧(∀e∈s.1,e.2.length≤2^30)∧s.2.1.length≤2^20∧g.1.length≤2^20∧g.2.1.length≤2^20
def a2h (k:Int):Bs:=[112,114,101,115,115,32]++fmt k
theorem c6g (s:Ses) {k:Int} (hk:a0m k=true):cmd s (a2h k)=typed s [k]:=by
 rw [c5x,show a2h k=b8i++32::fmt k from rfl,a7b 32 b8i (fmt k) dZ]
 show args s b8i (fmt k)=_
 unfold args;rw [if_pos rfl];unfold a6z;have hk0:0≤k:=by unfold a0m at hk;rw [decide_eq_true_eq]at hk;omega
 rw [c7j hk,if_pos rfl]
 show typed s [((k.toNat:Nat):Int)]=_
 rw [Int.toNat_of_nonneg hk0]
theorem c3g {s:Ses} {k:Int} (h:(a3o s.1 s.2 k).2=true):typed s [k]=((s.1,(a3o s.1 s.2 k).1.1),some (fmtE (least s.2.2 (a3o s.1 s.2 k).1.1.2))):=by
 unfold typed b1v;rw [if_pos h];rfl
theorem c6j {s:Ses} {k:Int} (h:(a3o s.1 s.2 k).2=false):typed s [k]=(s,none):=by
 unfold typed b1v;rw [if_neg (by rw [h];decide)]
theorem d4e (e:Edit):fmtE e≠wBad∧fmtE e≠[63]∧fmtE e≠a6e:=by
 refine⟨fun h=>?_,fun h=>?_,fun h=>?_⟩
 ·exact absurd (List.cons.inj (show (45:UInt8)::(num e.1.toNat++43::e.2)=98::[97,100] from h)).1 dZ
 ·exact absurd (List.cons.inj (show (45:UInt8)::(num e.1.toNat++43::e.2)=63::[] from h)).1 dZ
 ·exact absurd (List.cons.inj (show (45:UInt8)::(num e.1.toNat++43::e.2)=108::[111,110,103] from h)).1 dZ
def c7b (l:Dic) (st:List Int) (sc:Bs) (g:LogT) (k:Int) (a:(Ses×LogT)×Bs):Prop:=
 (a.2=wBad∨a.2=[63])∨(a.2≠wBad∧a.2≠[63]∧∃sc' g',a.1=((l,(next st k,sc')),g')∧a8b (l,(next st k,sc')) g'=true∧g'.2.2≤g.2.2+1 ∧
  (a.2=a6e∨(a.2≠a6e∧∃e,a.2=fmtE e∧a3d e=true∧b2v sc e=(sc',true))))
theorem d5a {l:Dic} {st:List Int} {sc:Bs} {g:LogT} {k:Int} (h:a8b (l,(st,sc)) g=true) (hk:a0m k=true) (hg:g.2.2<60):c7b l st sc g k (exec (l,(st,sc)) g (a2h k)):=by
 by_cases h2:good (a2h k) []=true
 ·rw [c1v h h2 oZ,c6g _ hk]
  cases hp:(a3o l (st,sc) k).2
  ·rw [c6j (s:=(l,(st,sc))) hp];exact .inl (.inr rfl)
  ·rw [c3g (s:=(l,(st,sc))) hp];obtain⟨h1,_,h3,h4⟩:=c2h hp;have h5:=b1o hp;have hs0:=a2c h1;obtain⟨sc',hsc⟩:∃sc',sc'=(scr l (next st k)).1:=⟨_,rfl⟩;have e1:(a3o l (st,sc) k).1.1=(next st k,sc'):=by rw [h4,hsc]
   have hs1:a1s sc'=true:=by rw [hsc];exact a5o _ _
   show c7b l st sc g k (((l,(a3o l (st,sc) k).1.1),b4p g (a2h k) (a3a (some (fmtE (least sc (a3o l (st,sc) k).1.1.2))))),a3a (some (fmtE (least sc (a3o l (st,sc) k).1.1.2))))
   rw [e1]at h5⊢;obtain⟨f1,f2,f3⟩:=d4e (least sc sc');obtain⟨rp,hrp⟩:∃rp,rp=a3a (some (fmtE (least sc sc'))):=⟨_,rfl⟩
   show c7b l st sc g k (((l,(next st k,sc')),b4p g (a2h k) (a3a (some (fmtE (least sc sc'))))),a3a (some (fmtE (least sc sc'))))
   rw [←hrp];have hval:=c3j (c:=a2h k) (r:=rp) (a3f h).2
   have hok:a8b (l,(next st k,sc')) (b4p g (a2h k) rp)=true:=by
    unfold a8b sess;simp only [Bool.and_eq_true];exact⟨h5,hval.1⟩
   by_cases hl:200<(fmtE (least sc sc')).length
   ·have e2:rp=a6e:=by rw [hrp];show (if 200<(fmtE (least sc sc')).length then a6e else fmtE (least sc sc'))=_;rw [if_pos hl]
    refine .inr ⟨?_,?_,sc',_,rfl,hok,hval.2,.inl e2⟩
    ·show rp≠wBad;rw [e2];decide
    ·show rp≠[63];rw [e2];decide
   ·have e2:rp=fmtE (least sc sc'):=by rw [hrp];show (if 200<(fmtE (least sc sc')).length then a6e else fmtE (least sc sc'))=_;rw [if_neg hl]
    refine .inr ⟨?_,?_,sc',_,rfl,hok,hval.2,.inr ⟨?_,least sc sc',e2,a9g hs0 hs1,b9f hs0 hs1⟩⟩
    ·show rp≠wBad;rw [e2];exact f1
    ·show rp≠[63];rw [e2];exact f2
    ·show rp≠a6e;rw [e2];exact f3
 ·rw [c1y h (by simpa using h2)];exact .inl (.inl rfl)
theorem d5f {d:Dic} (h:dic d=true):a8b (d,([],[])) ([],[],0)=true:=by
 unfold a8b sess;simp only [Bool.and_eq_true];refine⟨?_,by decide⟩;have hs:=d4w h;unfold trans;rw [hs];rfl
end Go.Proofs.YtggfdnopminemaaGreatDoor.P
namespace Go.Proofs
open Go.Shelf Go.RowKit
def Tryz.b6r:Go.Shelf.Ren:=⟨fun|172=>152|244=>222|245=>223|247=>278|279=>279|280=>280|281=>281|282=>282|287=>322|316=>323|171=>145|205=>324|321=>357|322=>358|243=>216|246=>276|283=>318|284=>319|285=>320|286=>321|129=>353|317=>352|318=>354|319=>355|320=>356|337=>372|338=>373|n=>n,fun|9=>9|3=>3|75=>168|76=>169|4=>4|5=>5|167=>256|37=>22|0=>0|85=>257|2=>2|168=>259|53=>89|175=>280|46=>120|210=>283|127=>267|145=>308|143=>306|21=>21|171=>275|173=>278|212=>302|51=>270|20=>20|213=>303|232=>315|233=>316|80=>150|n=>n,fun|15=>1|16=>2|17=>5|18=>6|19=>7|n=>n⟩
theorem Tryz.c2p:Go.Proofs.LaysC.n172 Tryz.prog Tryz.b6r:={
 mixed:=by kernel_rfl
 f129:=Tryz.func353.trans (congrArg some (by kernel_rfl))
 f171:=Tryz.func145.trans (congrArg some (by kernel_rfl))
 f172:=Tryz.func152.trans (congrArg some (by kernel_rfl))
 f205:=Tryz.func324.trans (congrArg some (by kernel_rfl))
 f243:=Tryz.func216.trans (congrArg some (by kernel_rfl))
 f244:=Tryz.func222.trans (congrArg some (by kernel_rfl))
 f245:=Tryz.func223.trans (congrArg some (by kernel_rfl))
 f246:=Tryz.func276.trans (congrArg some (by kernel_rfl))
 f247:=Tryz.func278.trans (congrArg some (by kernel_rfl))
 f279:=Tryz.func279.trans (congrArg some (by kernel_rfl))
 f280:=Tryz.func280.trans (congrArg some (by kernel_rfl))
 f281:=Tryz.func281.trans (congrArg some (by kernel_rfl))
 f282:=Tryz.func282.trans (congrArg some (by kernel_rfl))
 f283:=Tryz.func318.trans (congrArg some (by kernel_rfl))
 f284:=Tryz.func319.trans (congrArg some (by kernel_rfl))
 f285:=Tryz.func320.trans (congrArg some (by kernel_rfl))
 f286:=Tryz.func321.trans (congrArg some (by kernel_rfl))
 f287:=Tryz.func322.trans (congrArg some (by kernel_rfl))
 f316:=Tryz.func323.trans (congrArg some (by kernel_rfl))
 f317:=Tryz.func352.trans (congrArg some (by kernel_rfl))
 f318:=Tryz.func354.trans (congrArg some (by kernel_rfl))
 f319:=Tryz.func355.trans (congrArg some (by kernel_rfl))
 f320:=Tryz.func356.trans (congrArg some (by kernel_rfl))
 f321:=Tryz.func357.trans (congrArg some (by kernel_rfl))
 f322:=Tryz.func358.trans (congrArg some (by kernel_rfl))
 f337:=Tryz.func372.trans (congrArg some (by kernel_rfl))
 f338:=Tryz.func373.trans (congrArg some (by kernel_rfl))
 t0:=Tryz.underlying0
 a0:=Tryz.isAgg0
 z0:=Tryz.sizeOf0
 v0:=Tryz.zeroValue0
 t2:=Tryz.underlying2
 a2:=Tryz.isAgg2
 z2:=Tryz.sizeOf2
 v2:=Tryz.zeroValue2
 t3:=Tryz.underlying3
 a3:=Tryz.isAgg3
 z3:=Tryz.sizeOf3
 v3:=Tryz.zeroValue3
 t4:=Tryz.underlying4
 a4:=Tryz.isAgg4
 z4:=Tryz.sizeOf4
 v4:=Tryz.zeroValue4
 t5:=Tryz.underlying5
 a5:=Tryz.isAgg5
 z5:=Tryz.sizeOf5
 v5:=Tryz.zeroValue5
 t9:=Tryz.underlying9
 a9:=Tryz.isAgg9
 z9:=Tryz.sizeOf9
 v9:=Tryz.zeroValue9
 t20:=Tryz.underlying20
 a20:=Tryz.isAgg20
 z20:=Tryz.sizeOf20
 v20:=Tryz.zeroValue20
 t21:=Tryz.underlying21
 a21:=Tryz.isAgg21
 z21:=Tryz.sizeOf21
 v21:=Tryz.zeroValue21
 t37:=Tryz.underlying22
 a37:=Tryz.isAgg22
 z37:=Tryz.sizeOf22
 v37:=Tryz.zeroValue22
 t46:=Tryz.underlying120
 a46:=Tryz.isAgg120
 z46:=Tryz.sizeOf120
 v46:=Tryz.zeroValue120
 t51:=Tryz.underlying270
 a51:=Tryz.isAgg270
 z51:=Tryz.sizeOf270
 v51:=Tryz.zeroValue270
 t53:=Tryz.underlying89
 a53:=Tryz.isAgg89
 z53:=Tryz.sizeOf89
 v53:=Tryz.zeroValue89
 t75:=Tryz.underlying168
 a75:=Tryz.isAgg168
 z75:=Tryz.sizeOf168
 v75:=Tryz.zeroValue168
 t76:=Tryz.underlying169
 a76:=Tryz.isAgg169
 z76:=Tryz.sizeOf169
 v76:=Tryz.zeroValue169
 t85:=Tryz.underlying257
 a85:=Tryz.isAgg257
 z85:=Tryz.sizeOf257
 v85:=Tryz.zeroValue257
 t127:=Tryz.underlying267
 a127:=Tryz.isAgg267
 z127:=Tryz.sizeOf267
 v127:=Tryz.zeroValue267
 t143:=Tryz.underlying306
 a143:=Tryz.isAgg306
 z143:=Tryz.sizeOf306
 v143:=Tryz.zeroValue306
 t145:=Tryz.underlying308
 a145:=Tryz.isAgg308
 z145:=Tryz.sizeOf308
 v145:=Tryz.zeroValue308
 t167:=Tryz.underlying256
 a167:=Tryz.isAgg256
 z167:=Tryz.sizeOf256
 v167:=Tryz.zeroValue256
 t168:=Tryz.underlying259
 a168:=Tryz.isAgg259
 z168:=Tryz.sizeOf259
 v168:=Tryz.zeroValue259
 t171:=Tryz.underlying275
 a171:=Tryz.isAgg275
 z171:=Tryz.sizeOf275
 v171:=Tryz.zeroValue275
 t173:=Tryz.underlying278
 a173:=Tryz.isAgg278
 z173:=Tryz.sizeOf278
 v173:=Tryz.zeroValue278
 t175:=Tryz.underlying280
 a175:=Tryz.isAgg280
 z175:=Tryz.sizeOf280
 v175:=Tryz.zeroValue280
 t210:=Tryz.underlying283
 a210:=Tryz.isAgg283
 z210:=Tryz.sizeOf283
 v210:=Tryz.zeroValue283
 t212:=Tryz.underlying302
 a212:=Tryz.isAgg302
 z212:=Tryz.sizeOf302
 v212:=Tryz.zeroValue302
 t213:=Tryz.underlying303
 a213:=Tryz.isAgg303
 z213:=Tryz.sizeOf303
 t232:=Tryz.underlying315
 a232:=Tryz.isAgg315
 z232:=Tryz.sizeOf315
 v232:=Tryz.zeroValue315
 t233:=Tryz.underlying316
 a233:=Tryz.isAgg316
 z233:=Tryz.sizeOf316
 v233:=Tryz.zeroValue316
 g15:=by kernel_rfl
 g16:=by kernel_rfl
 g17:=by kernel_rfl
 g18:=by kernel_rfl
 g19:=by kernel_rfl
 t80:=Tryz.underlying150
 a80:=Tryz.isAgg150
 z80:=Tryz.sizeOf150
 v80:=Tryz.zeroValue150
 i0:=by kernel_rfl
 i2:=by kernel_rfl
 i3:=by kernel_rfl
 i4:=by kernel_rfl
 i5:=by kernel_rfl
 i9:=by kernel_rfl
 i20:=by kernel_rfl
 i21:=by kernel_rfl
 i37:=by kernel_rfl
 i46:=by kernel_rfl
 i51:=by kernel_rfl
 i53:=by kernel_rfl
 i75:=by kernel_rfl
 i76:=by kernel_rfl
 i80:=by kernel_rfl
 i85:=by kernel_rfl
 i127:=by kernel_rfl
 i143:=by kernel_rfl
 i145:=by kernel_rfl
 i167:=by kernel_rfl
 i168:=by kernel_rfl
 i171:=by kernel_rfl
 i173:=by kernel_rfl
 i175:=by kernel_rfl
 i210:=by kernel_rfl
 i212:=by kernel_rfl
 i232:=by kernel_rfl
 i233:=by kernel_rfl
 m15:=by kernel_rfl
 m16:=by kernel_rfl
 m17:=by kernel_rfl
 m18:=by kernel_rfl
 m19:=by kernel_rfl
 c0:=by kernel_rfl
 c2:=by kernel_rfl
 c3:=by kernel_rfl
 c4:=by kernel_rfl
 c5:=by kernel_rfl
 c9:=by kernel_rfl
 c20:=by kernel_rfl
 c21:=by kernel_rfl
 c37:=by kernel_rfl
 c46:=by kernel_rfl
 c51:=by kernel_rfl
 c53:=by kernel_rfl
 c75:=by kernel_rfl
 c76:=by kernel_rfl
 c80:=by kernel_rfl
 c85:=by kernel_rfl
 c127:=by kernel_rfl
 c143:=by kernel_rfl
 c145:=by kernel_rfl
 c167:=by kernel_rfl
 c168:=by kernel_rfl
 c171:=by kernel_rfl
 c173:=by kernel_rfl
 c175:=by kernel_rfl
 c210:=by kernel_rfl
 c212:=by kernel_rfl
 c213:=by kernel_rfl
 c232:=by kernel_rfl
 c233:=by kernel_rfl }
open Go.RowKit in
theorem Tryz.a6p (s:ByteArray) (hmax:s.size≤9223372036854775806) (v:Int) (h:Lib.atoiAll s.data.toList=.ok v) (w:World) :
 Calls Tryz.prog 152 #[.string s] w fun e w'=>e=.returned (.tuple #[.int .i64 v,.nilIface])∧(w'=w∨∃t,w'=Lib.bytesWorld w 5 t):=Any.strconv_Atoi_ok Tryz.c2p s hmax v h w
theorem Tryz.a4g (s:ByteArray) (hlim:s.size≤281474976710656) (h:Lib.atoiAll s.data.toList=Lib.atoiAll []) (ev:Value) (w:World) (hv:w.cell? ⟨1,0,none⟩=some ev) (hev:ev=.nilIface∨∃te pe,ev=.iface te pe) :
 Calls Tryz.prog 152 #[.string s] w fun e w'=>∃N,e=.returned (.tuple #[.int .i64 (0),.iface 259 (.pointer (some ⟨N,0,none⟩))])∧w.heap.size≤N∧w'.heap[N]?=some (.cells #[.string ⟨#[65,116,111,105]⟩,.string s,ev] 283 (0,0))∧Below w.heap.size w w':=Any.strconv_Atoi_syntax Tryz.c2p s hlim (h.trans rfl) ev w hv hev
end Go.Proofs
