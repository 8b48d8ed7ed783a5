/- Plain: no reply of a. -/
import Derived.Test.YtggfdnopminemaaGreatDoorLRvr
set_option linter.all false
namespace Go.Proofs.YtggfdnopminemaaGreatDoor.P
open Go.Proofs.Tryz
variable {a c d l more p r t word x:Bs} {k n:Int} {o:List Int} {g:LogT} {s:Ses} {b:UInt8}
def nh (l:Bs):Prop:=∀b∈l,b≠35
theorem b3z {b:Bs} (ha:nh a) (hb:nh b):nh (a++b):=λx h=>(List.mem_append.1 h).elim (ha x) (hb x)
theorem b3t:nh []:=λ_ h=>by cases h
theorem d3z (h:nh a) (n:Nat):nh (a.take n):=λx hx=>h x (List.mem_of_mem_take hx)
theorem d4o (h:nh a) (n:Nat):nh (a.drop n):=λx hx=>h x (List.mem_of_mem_drop hx)
theorem e0o (h:b≠35) (hl:nh l):nh (b::l):=λx hx=>(List.mem_cons.1 hx).elim (λe=>e ▸ h) (hl x)
theorem d8k (h:lower b=true):b≠35:=by
 rintro rfl;revert h;decide
theorem c7k (h:nh t):nh (upper t):=by
 cases t with
 |nil=>exact h
 |cons a t=>
  intro b hb;unfold upper at hb
  rcases List.mem_cons.1 hb with rfl|hb
  .split
   .rename_i hl
    unfold lower at hl;simp only [Bool.and_eq_true,decide_eq_true_eq]at hl;intro e;have h1:32<=a:=by rw [UInt8.le_iff_toNat_le];show 32<=a.toNat;omega
    have h2:=congrArg UInt8.toNat e;rw [UInt8.toNat_sub_of_le _ _ h1]at h2;have h3:a.toNat-32=35:=h2;omega
   .exact h _ (List.mem_cons_self ..)
  .exact h b (List.mem_cons_of_mem _ hb)
theorem d0e (h:nh t):nh (a1n t):=by
 cases t with
 |nil=>exact h
 |cons a t=>
  intro b hb;unfold a1n at hb
  rcases List.mem_cons.1 hb with rfl|hb
  .split
   .rename_i hl
    unfold upB at hl;simp only [Bool.and_eq_true,decide_eq_true_eq]at hl;intro e;have h2:=congrArg UInt8.toNat e;rw [UInt8.toNat_add]at h2;have h3:(a.toNat+32) % 256=35:=h2;omega
   .exact h _ (List.mem_cons_self ..)
  .exact h b (List.mem_cons_of_mem _ hb)
theorem d6z (h:nh t):nh (a3m t k):=by
 unfold a3m
 split
 .exact c7k h
 split
 .exact d0e h
 .exact h
theorem e1a {s:St} (h:nh s.text):nh (base s):=by
 unfold base
 split
 .exact h
 .exact b3z h (e0o dZ b3t)
theorem d3a (h:atom k t=true):nh t:=by
 have hw:word t=true->nh t:=by
  intro h b hb;unfold word at h;simp only [Bool.and_eq_true,List.all_eq_true]at h;have:=h.1 b hb;unfold a2v at this;simp only [Bool.and_eq_true,Bool.not_eq_true',beq_eq_false_iff_ne]at this;exact this.1.2
 unfold atom at h
 repeat' split at h
 all_goals first
  |exact hw h
  |(simp only [Bool.or_eq_true,beq_iff_eq,Bool.and_eq_true]at h;first|(rcases h with rfl|rfl|rfl<;>exact e0o dZ b3t)|(obtain⟨_,rfl⟩:=h;exact b3t))
theorem c6w {s:St} (h:nh s.text) (ht:nh t):nh (put s t).text:=b3z (e1a h) (d6z ht)
theorem e3i {s:St} (h:nh s.text) (hx:nh x):nh (endS s x):=by
 unfold endS
 split
 .rename_i hj
  exact b3z (d3z h _) λb hb=>d8k ((a4g hj).2 b hb)
 .exact b3z h hx
theorem c5n {s:St} (h:nh s.text) (ht:nh t):nh (a2d s t).text:=by
 unfold a2d
 split
 .exact c6w (s:={ s with a0t:=true }) h ht
 .exact c6w h ht
theorem d8j {s:St} (h:nh s.text) (ha:atom k t=true):nh (apply s k t).text:=by
 have ht:=d3a ha;unfold apply
 split
 .exact c6w h ht
 split
 .exact e3i h ht
 split
 .exact c6w h ht
 split
 .exact b3z h ht
 split
 .exact c5n h ht
 split
 .exact b3z h ht
 split
 .exact b3z h ht
 split
 .exact h
 split
 .exact h
 split
 .exact b3z (d3z h _) (c7k (d4o h _))
 .exact h
theorem d2q:∀(l:List (Int×Bs)) (s:St),nh s.text->nh (a6i (runA s l))
 |[],s,h=>h
 |a::l,s,h=>by
  unfold runA
  split
  .rename_i hc
   simp only [Bool.and_eq_true]at hc
   split
   .exact b3t
   .exact d2q l _ (d8j h hc.2)
  .exact b3t
theorem d2a (l:List (Int×Bs)):nh (render l).1:=by
 unfold render
 split
 .exact b3t
 .exact d2q l init b3t
theorem scr_nh (d:Dic) (st:List Int):nh (scr d st).1:=by
 unfold scr
 split
 .exact d2a _
 .exact b3t
theorem num_nh (n:Nat):nh (num n):=e0g n 35 dZ
def cl (l:Bs):Prop:=∀b∈l,plainByte b=true
theorem b3u {b:Bs} (ha:cl a) (hb:cl b):cl (a++b):=λx h=>(List.mem_append.1 h).elim (ha x) (hb x)
theorem b3q:cl []:=λ_ h=>by cases h
theorem a3z (h:plainByte b=true) (hl:cl l):cl (b::l):=λx hx=>(List.mem_cons.1 hx).elim (λe=>e ▸ h) (hl x)
theorem cl_of (h1:∀b∈l,prn b=true) (h2:nh l):cl l:=by
 intro b hb;have h3:=h1 b hb;have h4:=h2 b hb;unfold prn at h3;unfold plainByte;simp only [Bool.and_eq_true,Bool.not_eq_true',beq_eq_false_iff_ne];simp only [Bool.and_eq_true]at h3;exact⟨h3,h4⟩
theorem e1y (h:cl a) (n:Nat):cl (a.drop n):=λx hx=>h x (List.mem_of_mem_drop hx)
theorem d1t (d:Dic) (st:List Int):cl (scr d st).1:=by
 refine cl_of ?_ (scr_nh d st);have h:=a5f d st;unfold a3o at h;simp only [Bool.and_eq_true,List.all_eq_true]at h;exact h.2
theorem c8a (n:Nat):cl (num n):=by
 intro b hb;have h1:=a9e n b hb;have h2:=num_nh n b hb;unfold plainByte;simp only [Bool.and_eq_true,decide_eq_true_eq,Bool.not_eq_true',beq_eq_false_iff_ne];exact⟨by omega,h2⟩
theorem c6e {e:Edit} (h:cl e.2):cl (fmtE e):=a3z dZ (b3u (c8a _) (a3z dZ h))
theorem c0m {b:Bs} (h:cl b):cl (least a b).2:=e1y h _
theorem c6y {d:Dic} {t:Tr} (h:trans d t=true):cl t.2:=(a1y h).2.1 ▸ d1t d t.1
/-! ### texts of entries -/
theorem e1q (h:atom k t=true):cl t:=cl_of (a6q h).1 (d3a h)
theorem e2j (h:cl t):cl (note k t):=by
 unfold note
 repeat' split
 .exact h
 .exact a3z dZ (a3z dZ (b3u h (a3z dZ b3q)))
 .exact a3z dZ (b3u h (a3z dZ (a3z dZ b3q)))
 .exact a3z dZ (a3z dZ (b3u h (a3z dZ (a3z dZ b3q))))
 .exact a3z dZ (a3z dZ (b3u h (a3z dZ b3q)))
 .unfold cl;decide
 .unfold cl;decide
 .unfold cl;decide
 .exact a3z dZ (b3u h (a3z dZ b3q))
theorem b5j (c:UInt8):∀(s:Bs),∀b∈s,b=c\/∃w∈split c s,b∈w
 |[],b,h=>by cases h
 |a::l,b,h=>by
  unfold split
  by_cases hac:a=c
  .rw [if_pos (by simpa using hac)]
   rcases List.mem_cons.1 h with e|h
   .exact .inl (e.trans hac)
   .rcases b5j c l b h with e|⟨w,h1,h2⟩
    .exact .inl e
    .exact .inr ⟨w,List.mem_cons_of_mem _ h1,h2⟩
  .rw [if_neg (by simpa using hac)];have ih:=b5j c l b
   cases hs:split c l with
   |nil=>
    rw [hs]at ih
    rcases List.mem_cons.1 h with e|h
    .exact .inr ⟨[a],List.mem_cons_self ..,by simp [e]⟩
    .rcases ih h with e|⟨w,h1,_⟩
     .exact .inl e
     .cases h1
   |cons x r=>
    rw [hs]at ih
    rcases List.mem_cons.1 h with e|h
    .exact .inr ⟨a::x,List.mem_cons_self ..,by simp [e]⟩
    .rcases ih h with e|⟨w,h1,h2⟩
     .exact .inl e
     .rcases List.mem_cons.1 h1 with rfl|h1
      .exact .inr ⟨a::w,List.mem_cons_self ..,List.mem_cons_of_mem _ h2⟩
      .exact .inr ⟨w,List.mem_cons_of_mem _ h1,h2⟩
theorem b7a:∀{ws:List Bs} {l:List (Int×Bs)},atoms ws=some l->∀w∈ws,cl w
 |[],_,_,w,h=>by cases h
 |w0::ws,l,h,w,hw=>by
  unfold atoms at h
  split at h
  .rename_i hc
   obtain⟨h1,h2⟩:=b9g hc
   cases ha:atoms ws with
   |none=>rw [ha]at h;cases h
   |some l'=>
    rcases List.mem_cons.1 hw with rfl|hw
    .rw [<-h2];exact e2j (e1q h1)
    .exact b7a ha w hw
  .cases h
theorem e3a {s:Bs} (h:(a0m s).2=true):cl s:=by
 unfold a0m at h
 split at h
 .cases h
 .cases ha:atoms (split 32 s) with
  |none=>rw [ha]at h;cases h
  |some l=>
   intro b hb
   rcases b5j 32 s b hb with rfl|⟨w,h1,h2⟩
   .decide
   .exact b7a ha w h1 b h2
/-! ### notations -/
theorem b9u:∀(l:List Nat) (m:Bool),∀b∈fmtL m l,b=45\/∃k∈l,b=lab k
 |[],m,b,h=>by unfold fmtL at h;cases h
 |k::l,m,b,h=>by
  unfold fmtL at h;have ih:=λm=>b9u l m b
  split at h
  .rcases List.mem_cons.1 h with e|h
   .exact .inl e
   exact zq123
  .exact zq123
theorem e0p:∀k:Fin 23,plainByte (hash (lab k.val))=true/\(1<=k.val->plainByte (lab k.val)=true):=by decide +kernel
theorem d9f (s:Int):cl ((fmt s).map hash):=by
 intro b hb;obtain⟨x,hx,rfl⟩:=List.mem_map.1 hb
 rcases b9u _ _ x hx with rfl|⟨k,hk,rfl⟩
 .decide
 .exact (e0p ⟨k,b1g (n:=23) hk⟩).1
theorem fmt_cl {s:Nat} (h:s % 2=0):cl (fmt (s:Int)):=by
 intro b hb
 rcases b9u _ _ b hb with rfl|⟨k,hk,rfl⟩
 .decide
 .refine (e0p ⟨k,b1g (n:=23) hk⟩).2 ?_
  rcases k with _|k
  .have hk':hasK (s:Int) ((0:Nat):Int)=true:=by
    have h2:(0:Nat)∈a3n (s:Int) 23:=hk;unfold a3n at h2;exact (List.mem_filter.1 h2).2
   have h3:s.testBit 0=true:=hk';rw [Nat.testBit_zero]at h3;simp [h]at h3
  .exact Nat.succ_le_succ (Nat.zero_le _)
theorem b8g (h:b≠35):∀(n k:Nat),23<=n+k->b5y b n k≠0
 |0,k,hn=>by unfold b5y;omega
 |n+1,k,hn=>by
  unfold b5y
  split
  .rename_i hl
   rintro rfl;exact h (hl.symm.trans dZ)
  .exact b8g h n (k+1) oZ
theorem b6i:∀(t:Bs) (q q':LSt),nh t->q.1 % 2=0->a2z t q=some q'->q'.1 % 2=0
 |[],q,q',_,h,e=>by injection e with e;subst e;exact h
 |b::t,q,q',hn,h,e=>by
  unfold a2z at e
  split at e
  .cases e
  .rename_i q1 h1
   refine b6i t q1 q' (λx hx=>hn x (List.mem_cons_of_mem _ hx)) ?_ e;unfold a2x at h1
   split at h1
   .split at h1
    .cases h1
    .injection h1 with h1;subst h1;exact h
   .split at h1
    .injection h1 with h1;subst h1
     have hk:keyOf b q.2.1≠0:=by
      by_cases h23:q.2.1<=23
      .exact b8g (hn b (List.mem_cons_self ..)) _ _ oZ
      .unfold keyOf;rw [show 23-q.2.1=0 by omega];unfold b5y;omega
     obtain⟨j,hj⟩:∃j,keyOf b q.2.1=j+1:=⟨keyOf b q.2.1-1,by omega⟩
     show (q.1+2^keyOf b q.2.1) % 2=0
     rw [hj,Nat.pow_succ];omega
    .cases h1
theorem c9v (h:nh t):(loose t).1 % 2=0:=by
 cases hl:a2z t (0,0,false) with
 |none=>rw [a5g hl];rfl
 |some q=>rw [a9f hl];exact b6i t _ q h rfl hl
theorem c7b (c:UInt8):∀(L:List Bs),∀b∈Go.Lib.join L [c],b=c\/∃x∈L,b∈x
 |[],b,h=>by cases h
 |x::r,b,h=>by
  rw [Go.Lib.join_cons]at h
  rcases List.mem_append.1 h with h|h
  .exact .inr ⟨x,List.mem_cons_self ..,h⟩
  .unfold Go.Lib.joinTail at h;obtain⟨y,hy,hb⟩:=List.mem_flatten.1 h;obtain⟨z,hz,rfl⟩:=List.mem_map.1 hy
   rcases List.mem_append.1 hb with hb|hb
   .exact .inl (by simpa using hb)
   .exact .inr ⟨z,List.mem_cons_of_mem _ hz,hb⟩
theorem e0y (d:Dic) (t:Bs):cl (revT d t):=by
 unfold revT
 split
 .unfold cl;decide
 .intro b hb
  rcases c7b 32 _ b hb with rfl|⟨x,hx,hb⟩
  .decide
  .obtain⟨o,_,rfl⟩:=List.mem_map.1 hx;obtain⟨y,hy,rfl⟩:=List.mem_map.1 hb;unfold fmtS at hy
   rcases c7b 47 _ y hy with rfl|⟨z,hz,hy⟩
   .decide
   .obtain⟨k,_,rfl⟩:=List.mem_map.1 hz;exact d9f k _ (List.mem_map_of_mem hy)
theorem c2h:∀{l:Dic},(∀e∈l,cl e.2)->cl (a2u o l)
 |[],_=>by unfold a2u;exact b3q
 |e::l,h=>by
  unfold a2u
  split
  .exact h e (List.mem_cons_self ..)
  .exact c2h λx hx=>h x (List.mem_cons_of_mem _ hx)
theorem dic_cl {d:Dic} (h:dic d=true):∀e∈d,cl e.2:=λe he=>by
 have h1:=(a4l h).2.1 e he;unfold entry at h1;rw [Bool.and_eq_true]at h1;exact e3a h1.2
theorem c3b {r:Bs×Bool} (h:optB r=some x):r.2=true/\r.1=x:=by
 unfold optB at h
 split at h
 .rename_i hc;injection h with h;exact⟨hc,h⟩
 .cases h
theorem d3v (h:a0t more=some x):cl x:=by
 unfold a0t at h
 split at h
 .rename_i a b _
  obtain⟨h1,rfl⟩:=c3b h;intro c hc;have:=(a4g h1).2 c hc;unfold lower at this;unfold plainByte;simp only [Bool.and_eq_true,decide_eq_true_eq,Bool.not_eq_true',beq_eq_false_iff_ne]at this⊢;refine⟨by omega,?_⟩;rintro rfl;have h35:(35:UInt8).toNat=35:=rfl;omega
 .cases h
theorem d2z (hm:nh more) (h:b5d more=some x):cl x:=by
 unfold b5d at h
 split at h
 .injection h with h;rw [<-h];exact fmt_cl (c9v hm)
 .cases h
theorem b9y {l:List Int} (ht:trans s.1 s.2=true) (h:(typed s l).2=some x):cl x:=by
 have hk:=a7c (l:=l) ht;unfold typed at h hk
 cases hq:b0m s.1 s.2 l with
 |none=>rw [hq]at h;cases h
 |some t=>
  rw [hq]at h hk;injection h with h;rw [<-h];exact c6e (c0m (c6y (d:=s.1) (t:=t) hk))
theorem d0u (h:(a2t s o).2=some x):cl x:=by
 unfold a2t at h
 split at h
 .injection h with h;rw [<-h];exact c6e (c0m (by unfold b0a;exact d1t _ _))
 .cases h
theorem d0c (h:(a1h s more).2=some x):cl x:=by
 unfold a1h at h
 split at h
 .cases h
 .split at h
  .cases h
  .split at h
   .rename_i hc
    injection h with h;rw [<-h];refine c6e ?_;unfold a3f at hc⊢
    split at hc
    .rename_i h2
     rw [if_pos h2];exact c0m (d1t _ _)
    .cases hc
   .cases h
theorem e2z (ht:trans s.1 s.2=true) (h:(outl s word o).2=some x):cl x:=by
 unfold outl at h
 split at h
 .exact b9y ht h
 .split at h
  .exact d0u h
  .obtain⟨_,rfl⟩:=c3b h;unfold b4h
   split
   .exact c2h (dic_cl (b1a ht))
   .exact b3q
theorem d9j (ht:trans s.1 s.2=true) (h:(alone s word).2=some x):cl x:=by
 unfold alone at h
 split at h
 .exact b9y ht h
 .split at h
  .injection h with h;rw [<-h];exact c6y ht
  .split at h
   .injection h with h;rw [<-h];exact c8a _
   .split at h
    .injection h with h;rw [<-h];exact b3u (b3u (c8a _) (a3z dZ b3q)) (c8a _)
    .cases h
theorem e2t (ht:trans s.1 s.2=true) (hm:nh more) (h:(args s word more).2=some x):cl x:=by
 unfold args at h
 split at h
 .unfold a5o at h
  split at h
  .exact b9y ht h
  .cases h
 .split at h
  .unfold a5r at h
   split at h
   .cases h
   .exact e2z ht h
  .split at h
   .exact d0c h
   .split at h
    .have h':a4h s.1 more=some x:=h;unfold a4h at h'
     split at h'
     .injection h' with h';rw [<-h'];exact e0y _ _
     .cases h'
    .split at h
     .exact d3v h
     .split at h
      .exact d2z hm h
      .cases h
theorem cmd_cl {line:Bs} (ht:trans s.1 s.2=true) (hl:nh line) (h:(cmd s line).2=some x):cl x:=by
 unfold cmd at h
 split at h
 .exact d9j ht h
 .exact e2t ht (d4o hl _) h
theorem c9e {line:Bs} (ht:trans s.1 s.2=true) (hl:good line []=true):good line (a2p (cmd s line).2)=true:=by
 unfold good at hl⊢;simp only [Bool.and_eq_true]at hl⊢;obtain⟨h1,h2,h3,_⟩:=hl;refine⟨h1,h2,h3,?_⟩
 have hn:nh line:=by
  unfold plain at h2;simp only [Bool.and_eq_true,List.all_eq_true]at h2;intro b hb;have:=h2.1 b hb;unfold plainByte at this;simp only [Bool.and_eq_true,Bool.not_eq_true',beq_eq_false_iff_ne]at this;exact this.2
 have hlen:=b0g (cmd s line).2;unfold plain;simp only [Bool.and_eq_true,List.all_eq_true,decide_eq_true_eq];refine⟨?_,by omega⟩
 cases hq:(cmd s line).2 with
 |none=>
  intro b hb;have hb':b∈([63]:Bs):=hb;revert hb';simp only [List.mem_cons,List.not_mem_nil,or_false];rintro rfl;decide
 |some x=>
  have hx:=cmd_cl ht hn hq;unfold a2p
  split
  .intro b hb;cases hb with
   |head=>decide
   |tail _ hb=>revert b;decide
  .rename_i r hr
   injection hr with hr;subst hr
   split
   .have:∀b∈e2d,plainByte b=true:=by decide
    exact this
   .exact hx
theorem d7q (h:a0p d p n=true) (hg:good c r=true) (h6:n≠60):appS d p n c r=(p++line n.toNat c r,n+1,0):=by
 unfold appS;rw [h,hg,if_neg dZ,if_neg (by simpa using h6)]
theorem b8i (h:a0p d p n=true):readAll (d++p)=((readAll (d++p)).1,(readAll (d++p)).2.1,(d++p).length)/\((readAll (d++p)).1.length:Int)=n:=by
 unfold a0p at h;simp only [Bool.and_eq_true,decide_eq_true_eq,beq_iff_eq,a5d]at h;obtain⟨_,v2,_,v4⟩:=h;refine⟨?_,v4⟩;have:(readAll (d++p)).2.2=(d++p).length:=by rw [List.length_append];omega
 rw [<-this]
theorem d7i (h:a0p d p n=true) (hg:good c r=true) (h6:n≠60):(readAll (d++(p++line n.toNat c r))).1=(readAll (d++p)).1++[(c,r)]:=by
 obtain⟨h1,h2,_⟩:=a7l h;obtain⟨e0,e1⟩:=b8i h;obtain⟨ends,e2⟩:=c7a e0 oZ hg;have hn:(readAll (d++p)).1.length=n.toNat:=by omega
 rw [hn]at e2;rw [<-List.append_assoc,e2]
def recs (g:LogT):List (Bs×Bs):=(readAll (g.1++g.2.1)).1
theorem d9h (h:a9p s g=true):((recs g).length:Int)=g.2.2:=(b8i (a2y h).2).2
theorem c4q (c:Bs) (h:a9p s g=true) :
 ((exec s g c).1=(s,g)/\((exec s g c).2=wBad\/(exec s g c).2=d6x)) \/
 (a9p (exec s g c).1.1 (exec s g c).1.2=true/\recs (exec s g c).1.2=recs g++[(c,(exec s g c).2)]/\(exec s g c).1.2≠g/\(exec s g c).1.2.2.2=g.2.2+1/\(exec s g c).1.2.1=g.1/\(exec s g c).1.2.2.1=g.2.1++line g.2.2.toNat c (exec s g c).2):=by
 by_cases h2:good c []=true
 .by_cases h3:g.2.2=60
  .rw [a8x h h2 h3];exact .inl ⟨rfl,.inr rfl⟩
  .obtain⟨ht,hv⟩:=a2y h;have hg:=c9e (line:=c) ht h2;rw [b2f h h2 h3];have ha:=d7q hv hg h3
   have hlog:a9z g c (a2p (cmd s c).2)=(g.1,g.2.1++line g.2.2.toNat c (a2p (cmd s c).2),g.2.2+1):=by
    unfold a9z;rw [ha]
   refine .inr ⟨?_,?_,?_,?_,?_,?_⟩
   .unfold a9p sess;simp only [Bool.and_eq_true];exact⟨b2e ht,(d0x hv).1⟩
   .show recs (a9z g c (a2p (cmd s c).2))=_
    rw [hlog];exact d7i hv hg h3
   .show a9z g c (a2p (cmd s c).2)≠g
    rw [hlog];intro e;have:=congrArg (λx:LogT=>x.2.2) e;simp only at this;omega
   .show (a9z g c (a2p (cmd s c).2)).2.2=_;rw [hlog]
   .rfl
   .show (a9z g c (a2p (cmd s c).2)).2.1=_;rw [hlog]
 .rw [b2o h (by simpa using h2)];exact .inl ⟨rfl,.inl rfl⟩
end Go.Proofs.YtggfdnopminemaaGreatDoor.P
namespace Go.Proofs.YtggfdnopminemaaGreatDoor.L
open Go.Proofs.Tryz
open Go Go.RowKit
set_option maxHeartbeats 8000000
set_option maxRecDepth 100000
def b7t (g:Nat) (l:List (Str×Str)) (v:World):Prop:=
 ∀(j:Nat) (h:j<l.length),v.cell? ⟨g,j*2,none⟩=some (.string (S (l[j]'h).1))/\v.cell? ⟨g,j*2+1,none⟩=some (.string (S (l[j]'h).2))/\v.frozen? ⟨g,j*2,none⟩=false/\v.frozen? ⟨g,j*2+1,none⟩=false
def RowR (u:Value) (g:Nat) (l:List (Str×Str)) (v:World):Prop:=
 ∃ad cap,u=.slice ad l.length cap/\l.length<2^40/\(l=[]\/ad=some ⟨g,0,none⟩/\g<v.heap.size/\b7t g l v)
theorem b7t.carry {g:Nat} {l:List (Str×Str)} {v v':World} (h:b7t g l v) (hb:Bl v v') (hg:g<v.heap.size):b7t g l v':=by
 intro j hj;obtain⟨a,b,c,d⟩:=h j hj;exact⟨(hb.cell (p:=⟨g,_,none⟩) hg).trans a,(hb.cell (p:=⟨g,_,none⟩) hg).trans b,(hb.frozen (p:=⟨g,_,none⟩) hg).trans c,(hb.frozen (p:=⟨g,_,none⟩) hg).trans d⟩
end Go.Proofs.YtggfdnopminemaaGreatDoor.L
namespace Go.Proofs.YtggfdnopminemaaGreatDoor.L
open Go.Proofs.Tryz
open Go Go.RowKit
set_option maxHeartbeats 8000000
set_option maxRecDepth 100000
variable {g i:Nat} {v w:Go.World}
def c0f (g:Nat) (w w':World):Prop:=
 (∀b o,b<w.heap.size->b≠g->w'.cell? ⟨b,o,none⟩=w.cell? ⟨b,o,none⟩)/\(∀b o,b<w.heap.size->b≠g->w'.frozen? ⟨b,o,none⟩=w.frozen? ⟨b,o,none⟩)
theorem c0f.refl (g:Nat) (w:World):c0f g w w:=⟨λ_ _ _ _=>rfl,λ_ _ _ _=>rfl⟩
theorem c0f.below {v':World} (h:c0f g w v) (hsz:w.heap.size<=v.heap.size) (hb:Bl v v'):c0f g w v':=
 ⟨λb o h1 h2=>(hb.cell (p:=⟨b,o,none⟩) (Nat.lt_of_lt_of_le h1 hsz)).trans (h.1 b o h1 h2),λb o h1 h2=>(hb.frozen (p:=⟨b,o,none⟩) (Nat.lt_of_lt_of_le h1 hsz)).trans (h.2 b o h1 h2)⟩
theorem c0f.set {o:Nat} (h:c0f g w v) (u:Value):c0f g w (v.setCell ⟨g,o,none⟩ u):=
 ⟨λb o' h1 h2=>(World.cell?_setCell_other _ _ _ _ (by intro e;injection e;omega)).trans (h.1 b o' h1 h2),λb o' h1 h2=>by rw [<-h.2 b o' h1 h2];simp⟩
theorem b7t.set1 {m:List (Str×Str)} (h:b7t g m v) (hi:i<m.length) (a:Str):b7t g (m.set i (a,m[i].2)) (v.setCell ⟨g,i*2,none⟩ (.string (S a))):=by
 intro j hj;have hj':j<m.length:=by simpa using hj
 obtain⟨p1,p2,p3,p4⟩:=h j hj';rw [List.getElem_set];refine⟨?_,?_,by simpa using p3,by simpa using p4⟩
 .by_cases e:i=j
  .subst e;rw [if_pos rfl];exact World.cell?_setCell_same _ _ _ p1
  .rw [if_neg e,World.cell?_setCell_other _ _ _ _ (by intro e';injection e';omega)];exact p1
 .rw [World.cell?_setCell_other _ _ _ _ (by intro e';injection e';omega)]
  by_cases e:i=j
  .subst e;rw [if_pos rfl];exact p2
  .rw [if_neg e];exact p2
theorem b7t.set2 {m:List (Str×Str)} (h:b7t g m v) (hi:i<m.length) (a:Str):b7t g (m.set i (m[i].1,a)) (v.setCell ⟨g,i*2+1,none⟩ (.string (S a))):=by
 intro j hj;have hj':j<m.length:=by simpa using hj
 obtain⟨p1,p2,p3,p4⟩:=h j hj';rw [List.getElem_set];refine⟨?_,?_,by simpa using p3,by simpa using p4⟩
 .rw [World.cell?_setCell_other _ _ _ _ (by intro e';injection e';omega)]
  by_cases e:i=j
  .subst e;rw [if_pos rfl];exact p1
  .rw [if_neg e];exact p1
 .by_cases e:i=j
  .subst e;rw [if_pos rfl];exact World.cell?_setCell_same _ _ _ p2
  .rw [if_neg e,World.cell?_setCell_other _ _ _ _ (by intro e';injection e';omega)];exact p2
end Go.Proofs.YtggfdnopminemaaGreatDoor.L
namespace Go.Proofs.YtggfdnopminemaaGreatDoor.P
open Go.Proofs.Tryz
def c5l (d p:Bs) (n:Int):List (Bs×Bs):=if a1g d p n then (readAll (d++p)).1 else []
end Go.Proofs.YtggfdnopminemaaGreatDoor.P
namespace Go.Proofs.YtggfdnopminemaaGreatDoor.L
open Go.Proofs.Tryz
open Go Go.RowKit
set_option maxHeartbeats 8000000
set_option maxRecDepth 100000
variable {g:Nat} {u:Go.Value} {v v':Go.World}
def RecI (d p:Str) (n:Int) (w:World) (e:Ending) (w':World):Prop:=∃v,e=.returned (.tuple #[v,.bool (P.a1g d p n)])/\a4f w.heap.size w' v (P.c5l d p n)/\Bl w w'
theorem c2v (d p:Str) (n:Int) (w:World) (hd:d.length<=2^20) (hp:p.length<=2^20) (hE:Env w) :
 Cz 47 #[logV d p n] w (RecI d p n w):=by
 have HE:=qh hE;clear hE
 cases h1:P.a1g d p n
 .have HF:=qh (show P.c5l d p n=[] by unfold P.c5l;rw [h1];rfl);have HV:=qh h1
  go_enter func47,ntmps47
  go_wp2_with fail
  refine (records _ _ _ _ hd hp (HE.o.alloc _)).mono ?_;rintro e w1 ⟨v,rfl,_,hb⟩;rw [h1];have HB:=qh ((bZ.alloc lZ _).trans (hb.mono sZ):Bl w w1);clear hb;go_wp2;go_ret2;exact⟨.slice none 0 0,by rw [HV.o];rfl,by rw [HF.o];exact World.ownsRow_nil _ _ _ _,HB.o⟩
 .have HF:=qh (show P.c5l d p n=(P.readAll (d++p)).1 by unfold P.c5l;rw [h1];rfl);have HV:=qh h1
  go_enter func47,ntmps47
  go_wp2_with fail
  refine (records _ _ _ _ hd hp (HE.o.alloc _)).mono ?_;rintro e w1 ⟨v,rfl,hown,hb⟩;rw [h1];have HO:=qh hown;clear hown;have HB:=qh ((bZ.alloc lZ _).trans (hb.mono sZ):Bl w w1);clear hb;go_wp2;go_ret2;exact⟨v,by rw [HV.o];rfl,by rw [HF.o];exact a2e HO.o sZ,HB.o⟩
theorem b7g (l:List (Str×Str)) (j:Nat) (h:j<l.length):(a8q l)[j*2]?=some (.string (S l[j].1))/\(a8q l)[j*2+1]?=some (.string (S l[j].2)):=by
 induction l generalizing j with
 |nil=>simp at h
 |cons x l ih=>
  cases j with
  |zero=>exact⟨rfl,rfl⟩
  |succ j=>
   have:=ih j (by simpa using h);simp only [a8q,List.flatMap_cons]at this⊢;rw [show (j+1)*2=j*2+1+1 by omega]
   simpa using this
theorem e1m {B:Nat} {w:World} {v:Value} {l:List (Str×Str)} (h:a4f B w v l) (hl:l.length<=1000):∃g,RowR v g l w/\(l=[]\/B<=g/\g<w.heap.size):=by
 rcases h.2 with⟨hv,h0⟩|⟨g,cap,cur,hv,hg,hh,_⟩
 .have hn:=List.eq_nil_of_length_eq_zero h0;exact⟨0,⟨none,0,by rw [hv,hn];rfl,by omega,.inl hn⟩,.inl hn⟩
 .have hob:v.ownBlock=some g:=by rw [hv];rfl
  have hlt:=(World.ownsRow.lt h g hob).2;refine⟨g,⟨some ⟨g,0,none⟩,cap,hv,by omega,.inr ⟨rfl,hlt,?_⟩⟩,.inr ⟨hg,hlt⟩⟩;intro j hj;obtain⟨e1,e2⟩:=b7g l j hj;have c1:=World.ownsRow.cells h hob _ _ e1;have c2:=World.ownsRow.cells h hob _ _ e2;rw [add0]at c1 c2;exact⟨c1,c2,by simp [World.frozen?,hh],by simp [World.frozen?,hh]⟩
theorem RowR.carry {l:List (Str×Str)} (h:RowR u g l v) (hb:Bl v v'):RowR u g l v':=by
 obtain⟨ad,cap,h1,h2,h3⟩:=h;exact⟨ad,cap,h1,h2,h3.imp id (λh=>⟨h.1,Nat.lt_of_lt_of_le h.2.1 hb.size,h.2.2.carry hb h.2.1⟩)⟩
theorem RowR.apart {g':Nat} {l:List (Str×Str)} (h:RowR u g l v) (hb:c0f g' v v') (hne:l=[]\/g≠g') (hz:v.heap.size<=v'.heap.size):RowR u g l v':=by
 obtain⟨ad,cap,h1,h2,h3⟩:=h;refine⟨ad,cap,h1,h2,?_⟩
 rcases hne with hne|hne
 .exact .inl hne
 .refine h3.imp id (λh=>⟨h.1,Nat.lt_of_lt_of_le h.2.1 hz,?_⟩);intro j hj;obtain⟨a,b,c,d⟩:=h.2.2 j hj;exact⟨(hb.1 _ _ h.2.1 hne).trans a,(hb.1 _ _ h.2.1 hne).trans b,(hb.2 _ _ h.2.1 hne).trans c,(hb.2 _ _ h.2.1 hne).trans d⟩
end Go.Proofs.YtggfdnopminemaaGreatDoor.L
namespace Go.Proofs.YtggfdnopminemaaGreatDoor.P
open Go.Proofs.Tryz
theorem d3p (s:Ses) (g:LogT) (c:Bs) {s2:Ses} {g2:LogT} {r:Bs} (h:exec s g c=((s2,g2),r)) :
 ((s2,g2)=(s,g)/\(r=wNo\/r=wBad\/r=d6x))\/(g2≠g/\a9p s2 g2=true/\recs g2=recs g++[(c,r)]/\((recs g).length:Int)=g.2.2/\(recs g).length<=60):=by
 cases h1:a9p s g
 .rw [b6t h1]at h;obtain⟨e1,e2⟩:=Prod.mk.inj h;exact .inl ⟨e1.symm,.inl e2.symm⟩
 .have hl:=d9h h1;have h60:=(a7l (a2y h1).2).2.1
  rcases c4q c h1 with⟨e,h2⟩|⟨k1,k2,k3,_⟩
  .rw [h]at e h2;exact .inl ⟨e,.inr h2⟩
  .rw [h]at k1 k2 k3;exact .inr ⟨k3,k1,k2,hl,by omega⟩
theorem d8s {s:Ses} {g:LogT} (h:a9p s g=true):a1g g.1 g.2.1 g.2.2=true/\c5l g.1 g.2.1 g.2.2=recs g:=by
 have hv:=(a2y h).2;have h1:a1g g.1 g.2.1 g.2.2=true:=by rw [a5c];exact hv
 exact⟨h1,by unfold c5l;rw [if_pos h1];rfl⟩
end Go.Proofs.YtggfdnopminemaaGreatDoor.P
namespace Go.Proofs.YtggfdnopminemaaGreatDoor
open Go.Proofs.Tryz
open Go Go.RowKit
set_option maxHeartbeats 8000000
set_option maxRecDepth 100000
theorem vBig (v:Value) (n:Nat) (ad:Option Addr) (cap:Nat) (hv:v=.slice ad n cap) (hn:n<=maxLen) (w:World) :
 Cz 10 #[v] w λe w'=>e=.returned (.bool (decide (65536<n)))/\w=w':=by
 subst hv
 unfold maxLen at hn
 go_enter func10,ntmps10
 by_cases h:65536<n
 .have h1:(65536:Int)<(n:Int):=by omega
  go_wp2;go_ret;exact⟨by simp [h],rfl⟩
 .have h1:¬(65536:Int)<(n:Int):=by omega
  go_wp2;go_ret;exact⟨by simp [h],rfl⟩
theorem vInts (u v:Value) (l m:List Int) (w:World) (hu:IntR w u l) (hv:IntR w v m) :
 Cz 27 #[u,v] w λe w'=>e=.returned (.bool (decide (l=m)))/\Bl w w':=by
 have HU:=qh hu;have HV:=qh hv
 obtain⟨ad,cap,rfl,hla,_⟩:=hu
 obtain⟨bd,dap,rfl,hlb,_⟩:=hv
 go_enter func27,ntmps27
 by_cases hlen:l.length=m.length
 .have hli:(l.length:Int)=(m.length:Int):=by omega
  go_wp2
  go_loopw [5] (λi wr=>∃j:Nat,j<=l.length/\i=.int .i64 j/\(∀k (h:k<j) (h1:k<l.length) (h2:k<m.length),l[k]=m[k])/\Bl w wr) (λi _=>l.length-(intOf i).toNat)
  case atStart=>exact⟨0,Nat.zero_le _,rfl,λk h=>absurd h (Nat.not_lt_zero _),Below.refl _ _⟩
  case round=>
   obtain⟨j,hj,rfl,hsame,hb⟩:=hrel;have HB:=qh hb;have HS:=qh hsame;clear hsame
   by_cases hlt:j<l.length
   .obtain⟨g,o,hga,hgl,c0⟩:=(HU.o.below hb).at j hlt;obtain⟨g',o',hgb,hgl',d0⟩:=(HV.o.below hb).at j oZ;subst hga hgb;clear hb;have i1:(j:Int)<(l.length:Int):=by omega
    have i2:(j:Int)<(m.length:Int):=by omega
    have hjm:j<m.length:=by omega
    by_cases hx:l[j]=m[j]
    .have HX:=qh hx;rw [hx]at c0
     go_wp2_with fail
     go_quiet (fail)
     go_wp2
     go_roundw
     case rel=>
      refine⟨j+1,by omega,by go_num,λk hk h1 h2=>?_,below_drewN HB.o _⟩
      by_cases e:k=j
      .subst e;exact HX.o
      .exact HS.o k oZ h1 h2
     case measure=>exact zq
    .have hne:¬l=m:=λe=>hx (by subst e;rfl)
     go_wp2_with fail
     go_quiet (fail)
     go_wp2;go_ret;exact⟨by rw [decide_eq_false hne];rfl,below_drewN HB.o _⟩
   .clear hb;have he:l=m:=List.ext_getElem hlen λk h1 h2=>HS.o k oZ h1 h2;go_wp2;go_ret;exact⟨by rw [decide_eq_true he];rfl,HB.o⟩
 .have hli:¬(l.length:Int)=(m.length:Int):=by omega
  have hne:¬l=m:=λe=>hlen (by rw [e]);go_wp2;go_ret;exact⟨by rw [decide_eq_false hne];rfl,Below.refl _ _⟩
def VDS (W:Nat) (u v:Value) (g p g' q:Nat) (x y s:Value) (w:World):Prop:=
 w.cell? ⟨W,0,none⟩=some u/\w.cell? ⟨W+1,0,none⟩=some v/\w.cell? ⟨g,p,none⟩=some x/\w.cell? ⟨g,p+1,none⟩=some s/\w.cell? ⟨g',q,none⟩=some y/\w.cell? ⟨g',q+1,none⟩=some s/\W+1<w.heap.size/\g<w.heap.size/\g'<w.heap.size
theorem VDS.below {W:Nat} {u v:Value} {g p g' q:Nat} {x y s:Value} {w w':World} (h:VDS W u v g p g' q x y s w) (hb:Bl w w'):VDS W u v g p g' q x y s w':=by
 obtain⟨h1,h2,h3,h4,h5,h6,h7,h8,h9⟩:=h;have hz:=hb.size;exact⟨(hb.cell (p:=⟨W,0,none⟩) (by show W<_;omega)).trans h1,(hb.cell (p:=⟨W+1,0,none⟩) h7).trans h2,(hb.cell (p:=⟨g,p,none⟩) h8).trans h3,(hb.cell (p:=⟨g,p+1,none⟩) h8).trans h4,(hb.cell (p:=⟨g',q,none⟩) h9).trans h5,(hb.cell (p:=⟨g',q+1,none⟩) h9).trans h6,by omega,by omega,by omega⟩
theorem vDict (u v:Value) (l:P.Dic) (w:World) (hu:EntR w u l) (hv:EntR w v l) :
 Cz 64 #[.agg #[u],.agg #[v]] w λe w'=>e=.returned (.bool true)/\Bl w w':=by
 have hb0:Bl w ((w.alloc (.cells #[u] 26)).alloc (.cells #[v] 26)):=((Below.refl w.heap.size w).alloc lZ _).alloc sZ _
 have HU:=qh (hu.below hb0);have HV:=qh (hv.below hb0);have HB0:=qh hb0
 have HX:=qh ((DBx.new u 26 w).below (bZ.alloc lZ (.cells #[v] 26)))
 have HY:=qh (show DBx (w.heap.size+1) v ((w.alloc (.cells #[u] 26)).alloc (.cells #[v] 26)) by
  have h:=DBx.new v 26 (w.alloc (.cells #[u] 26));simpa using h)
 obtain⟨ad,cap,rfl,hla,_⟩:=hu
 obtain⟨bd,dap,rfl,_,_⟩:=hv
 clear hb0
 go_enter func64,ntmps64
 go_wp2
 generalize hW:(w.alloc (.cells #[.slice ad l.length cap] 26)).alloc (.cells #[.slice bd l.length dap] 26)=w0 at *
 clear hW
 go_loopw [5] (λi wr=>∃j:Nat,j<=l.length/\i=.int .i64 j/\Bl w0 wr) (λi _=>l.length-(intOf i).toNat)
 case atStart=>exact⟨0,Nat.zero_le _,rfl,Below.refl _ _⟩
 case round=>
  obtain⟨j,hj,rfl,hb⟩:=hrel;have HB:=qh hb;obtain⟨x0,_⟩:=HX.o.below hb;obtain⟨y0,_⟩:=HY.o.below hb
  by_cases hlt:j<l.length
  .obtain⟨g,o,hga,hgl,x,c0,c1,hx⟩:=(HU.o.below hb).at j hlt;obtain⟨g',o',hgb,hgl',y,d0,d1,hy⟩:=(HV.o.below hb).at j hlt;subst hga hgb;obtain⟨xd,xc,rfl,_,_⟩:=id hx;obtain⟨yd,yc,rfl,_,_⟩:=id hy;have HXX:=qh hx;have HYY:=qh hy;generalize l[j]=en at *;obtain⟨eo,et⟩:=en;simp only at HXX HYY c0 c1 d0 d1;have HBW:=qh (hb.trans ((Below.refl wr.heap.size wr).drew.mono hb.size));have hdw:=(Below.refl wr.heap.size wr).drew;have HXW:=qh (HXX.o.below hdw);have HYW:=qh (HYY.o.below hdw);have hz:w.heap.size+1<wr.heap.size:=(HY.o.below hb).2.2;have HS:Hq (VDS w.heap.size (.slice (some ⟨g,o,none⟩) l.length cap) (.slice (some ⟨g',o',none⟩) l.length dap) g (o+j*2) g' (o'+j*2) (.slice xd eo.length xc) (.slice yd eo.length yc) (.string (S et)) wr.drew):=⟨VDS.below ⟨x0,y0,c0,c1,d0,d1,hz,hgl,hgl'⟩ hdw⟩;have i1:(j:Int)<(l.length:Int):=by omega
   clear hb hx hy hdw c0 c1 d0 d1 hgl hgl' HXX HYY;go_upto_region 6 with fail;clear x0 y0;refine wp_region_held_drew (S:=VDS w.heap.size (.slice (some ⟨g,o,none⟩) l.length cap) (.slice (some ⟨g',o',none⟩) l.length dap) g (o+j*2) g' (o'+j*2) (.slice xd eo.length xc) (.slice yd eo.length yc) (.string (S et))) kZ HS.o (λhS0=>?_);generalize wr.drew=v0 at *;refine tk6 0 hS0 ?_;refine tk6 1 hS0 ?_;refine tk6 2 hS0 ?_;refine tk6 3 (v:=.pointer (some ⟨g,o+j*2,none⟩)) hS0 ?_;refine tk6 4 (v:=.pointer (some ⟨g,o+j*2+1,none⟩)) hS0 ?_;refine tk6 5 hS0 ?_;refine tk6 6 hS0 ?_;refine tk6 7 hS0 ?_;refine tk6 8 hS0 ?_;refine tk6 9 (v:=.pointer (some ⟨g',o'+j*2,none⟩)) hS0 ?_;refine tk6 10 (v:=.pointer (some ⟨g',o'+j*2+1,none⟩)) hS0 ?_;refine tk6 11 hS0 ?_;refine tk6 12 hS0 ?_;refine tk6 13 hS0 ?_;refine tk6 14 hS0 ?_;refine tk6 15 hS0 ?_;refine tk6 16 hS0 ?_;refine tk6 17 (v:=.pointer (some ⟨g,o+j*2,none⟩)) hS0 ?_;refine tk6 18 (v:=.pointer (some ⟨g,o+j*2,none⟩)) hS0 ?_;refine tk6 19 hS0 ?_;refine tk6 20 hS0 ?_;refine tk6 21 hS0 ?_;refine tk6 22 hS0 ?_;refine tk6 23 (v:=.pointer (some ⟨g',o'+j*2,none⟩)) hS0 ?_;refine tk6 24 (v:=.pointer (some ⟨g',o'+j*2,none⟩)) hS0 ?_;refine tk6 25 hS0 ?_;refine trd 26 λK hK=>?_;go_simp;refine (vInts _ _ eo eo _ HXW.o HYW.o).mono ?_;rintro e v ⟨rfl,hb⟩;rw [decide_eq_true rfl];refine zm60 ?_;intro hS1;have HB2:=bt HBW hb;clear hK K hb;refine zm0 ?_;refine tk6 27 hS1 ?_;refine tk6 28 hS1 ?_;refine wpAnyH_done kZ ?_ _;clear hS0 hS1 HS;go_wp2;go_roundw
   case rel=>exact⟨j+1,by omega,by go_num,HB2.o⟩
   case measure=>exact zq
  .clear hb;go_wp2;go_ret;exact⟨rfl,HB0.o.trans (HB.o.mono HB0.o.size)⟩
end Go.Proofs.YtggfdnopminemaaGreatDoor
