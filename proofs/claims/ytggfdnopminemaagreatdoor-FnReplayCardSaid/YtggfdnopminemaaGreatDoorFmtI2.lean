/- A row of nodes that. -/
import Derived.Test.YtggfdnopminemaaGreatDoorFmtS3
set_option linter.all false
namespace Go.Proofs.YtggfdnopminemaaGreatDoor
open Go.Proofs.Tryz
variable {b k m:Nat}
section
open Go Go.RowKit
set_option maxHeartbeats 8000000
set_option maxRecDepth 100000
theorem a6x {w v:World} {row:Option Nat} (h:w.grownBy v row):Chg (λb=>row=some b) w v:=⟨h.os,h.tape,h.output,h.size,λb hb hx=>h.block b hb (λe=>hx e.symm)⟩
end
namespace P
def behind (d:Nat):Dic->Dic
 |[]=>[]
 |e::l=>l.dropWhile λx=>a7v d x==a7v d e
end P
section
open Go Go.RowKit
set_option maxHeartbeats 8000000
set_option maxRecDepth 100000
def d6a (l:List Int) (w:World) (e:Ending) (w':World):Prop:=∃u,e=.returned u/\w'.ownsRow w.heap.size 3 1 u l.length (ints l)/\Bl w w'
theorem a9y (u:Value) (l:List Int) (w:World) (hu:IntR w u l) (hl:l.length<=2^30) :
 Cz 133 #[u] w (d6a l w):=by
 refine zm7 ?_;intro i0 hi hz0 hz1 hz2 HSRC HB HOWN;obtain⟨ad,cap,rfl,_,_⟩:=hu;go_enter func133,ntmps133;go_wp2_with (at_builtin;refine a0w rfl _ _ 33 rfl w.heap.size 3 i0 (.int .i64 0) 1 8 underlying33 hi hz0 hz1 hz2 rfl dZ _ 0 [] rfl HOWN.o _ l.length (ints l) rfl HSRC.o ?_ ?_ sZ ?_)
 .unfold maxLen;omega
 .omega
 intro v' w' hown hgr _;refine zm67 ?_;intro HOW HBB;clear hown hgr;go_wp2;go_ret;refine⟨_,rfl,?_,HBB.o⟩;exact HOW.o
theorem IntR.chg {v v':World} {u:Value} {l:List Int} {X:Blk} (h:IntR v u l) (hc:Chg X v v') (hX:∀b,u.ownBlock=some b->¬X b):IntR v' u l:=by
 obtain⟨ad,cap,h1,h2,hn,h3⟩:=h;refine⟨ad,cap,h1,h2,hn,h3.imp id ?_⟩;rintro⟨g,o,h4,h5,h6⟩;exact⟨g,o,h4,Nat.lt_of_lt_of_le h5 hc.size,λj hj=>(hc.cell (p:=⟨g,_,none⟩) h5 (hX g (by rw [h1,h4];rfl))).trans (h6 j hj)⟩
theorem a2g {v:World} {B B':Nat} {e:TypeId} {z:Nat} {u:Value} {n:Nat} {xs:List Value} (h:v.ownsRow B e z u n xs) (hB:B'<=B):v.ownsRow B' e z u n xs:=
 ⟨h.1,h.2.imp id λ⟨g,cap,cur,hv,hg,r⟩=>⟨g,cap,cur,hv,Nat.le_trans hB hg,r⟩⟩
end
namespace P
theorem b7v (n k:Nat):n / 2^k % 2=if n.testBit k then 1 else 0:=by
 rw [Nat.testBit_eq_decide_div_mod_eq]
 by_cases h:n / 2^k % 2=1
 .rw [h];simp
 .have:n / 2^k % 2=0:=by omega
  rw [this];simp
theorem d2k {n k:Nat} (h:n.testBit k=false):n ||| 2^k=n+2^k:=by
 have hm:n / 2^k % 2=0:=by rw [b7v,h];rfl
 have e:n=2^k*(2*(n / 2^k / 2))+n % 2^k:=by
  have h1:=Nat.div_add_mod n (2^k);have h2:2*(n / 2^k / 2)=n / 2^k:=by omega
  rw [h2];exact h1.symm
 have hb:n % 2^k<2^k:=Nat.mod_lt _ (Nat.two_pow_pos k);have h3:n=2^k*(2*(n / 2^k / 2)) ||| n % 2^k:=by rw [<-Nat.two_pow_add_eq_or_of_lt hb];exact e
 have h4:2^k*(2*(n / 2^k / 2)) ||| 2^k=2^k*(2*(n / 2^k / 2)+1):=by
  have:2^k*(2*(n / 2^k / 2)) ||| 2^k=2^k*(2*(n / 2^k / 2) ||| 1):=by
   apply Nat.eq_of_testBit_eq;intro i;rw [Nat.testBit_or,Nat.testBit_two_pow_mul,Nat.testBit_two_pow_mul,Nat.testBit_or,Nat.testBit_two_pow]
   by_cases hi:k<=i
   .rw [decide_eq_true hi,Bool.true_and,Bool.true_and]
    congr 1
    have:Nat.testBit 1 (i-k)=decide (i-k=0):=by
     rw [show (1:Nat)=2^0 from rfl,Nat.testBit_two_pow];exact decide_eq_decide.2 ⟨λh=>h.symm,λh=>h.symm⟩
    rw [this];exact decide_eq_decide.2 oZ
   .rw [decide_eq_false hi,Bool.false_and,Bool.false_and,Bool.false_or];exact decide_eq_false oZ
  rw [this]
  congr 1
  have h5:=Nat.two_pow_add_eq_or_of_lt (i:=1) (b:=1) dZ (n / 2^k / 2)
  simpa using h5.symm
 calc n ||| 2^k=(2^k*(2*(n / 2^k / 2)) ||| n % 2^k) ||| 2^k:=by rw [<-h3]
  _=(2^k*(2*(n / 2^k / 2)) ||| 2^k) ||| n % 2^k:=by rw [Nat.or_assoc,Nat.or_comm (n % 2^k),<-Nat.or_assoc]
  _=2^k*(2*(n / 2^k / 2)+1) ||| n % 2^k:=by rw [h4]
  _=2^k*(2*(n / 2^k / 2)+1)+n % 2^k:=(Nat.two_pow_add_eq_or_of_lt hb _).symm
  _=n+2^k:=by rw [Nat.mul_add,Nat.mul_one];omega
end P
open Go Go.RowKit
set_option maxHeartbeats 8000000
set_option maxRecDepth 100000
theorem d1r (s:Str) (w:World) (hs:s.length<=maxLen) :
 Cz 272 #[.string (S s)] w λe w'=>e=.returned (.bool (s.all P.lower))/\w=w':=by
 unfold maxLen at hs
 go_enter func272,ntmps272
 go_wp2
 go_loop [3,6] (λ_ i=>∃k:Nat,k<=s.length/\i=.int .i64 k/\(s.take k).all P.lower=true) (λ_ i=>s.length-(intOf i).toNat)
 case atStart=>exact⟨0,by omega,rfl,by simp⟩
 case round=>
  obtain⟨k,hk,rfl,ha⟩:=hrel;have HA:=qh ha;clear ha
  by_cases hlt:k<s.length
  .rcases Int.lt_or_le (s[k].toNat:Int) 97 with h1|h1
   .have H:=qh h1;go_wp2;go_ret;exact⟨a0a (P.all_false hlt (P.a6h (.inl H.o))).symm,rfl⟩
   .rcases Int.lt_or_le 122 (s[k].toNat:Int) with h2|h2
    .have H:=qh h2;go_wp2;go_ret;exact⟨a0a (P.all_false hlt (P.a6h (.inr H.o))).symm,rfl⟩
    .have HL:=qh (P.b2g h1 h2);go_wp2;exact e3m
  .have HT:=qh (show s.all P.lower=true by rw [<-List.take_of_length_le (l:=s) (i:=k) oZ];exact HA.o);go_wp2;go_ret;exact⟨a0a HT.o.symm,rfl⟩
theorem b6g (n:Int) (h0:0<=n) (h1:n<2^40):IntKind.i64.wrap n=n:=by rw [IntKind.wrap_i64];omega
theorem pow_k (hk:k<=22):1<=2^k/\2^k<=4194304:=⟨Nat.two_pow_pos k,Nat.pow_le_pow_right dZ hk⟩
theorem shl_k (hk:k<=22):wrap64 (2^k)=((2^k:Nat):Int):=by
 have h:=pow_k hk;have e:((2:Int)^k)=((2^k:Nat):Int):=by simp
 rw [e];unfold wrap64;omega
theorem and_one (hm:m<2^23):bits .and .i64 ((m:Int) / 2^k) 1=if m.testBit k then 1 else 0:=by
 have e:((m:Int) / 2^k)=((m / 2^k:Nat):Int):=by simp
 have hd:m / 2^k<2^40:=by have:=Nat.div_le_self m (2^k);omega
 have h:=(bits_nat .i64 40 dZ b6g (m / 2^k) 1 hd dZ).1;rw [e];have h':bits .and .i64 ((m / 2^k:Nat):Int) 1=((m / 2^k &&& 1:Nat):Int):=h;rw [h',Nat.and_one_is_mod,P.b7v]
 split<;>rfl
theorem e0h (hm:m<2^23) (hk:k<=22) (h:m.testBit k=false):bits .or .i64 (m:Int) ((2^k:Nat):Int)=(m:Int)+((2^k:Nat):Int):=by
 have hp:=pow_k hk;rw [(bits_nat .i64 40 dZ b6g m (2^k) oZ oZ).2,P.d2k h];simp
namespace P
theorem e2o (b:UInt8):decide (0<=Go.Lib.indexByte [97,101,105,111,117] b)=vow b:=by
 by_cases hm:b∈([97,101,105,111,117]:List UInt8)
 .rw [decide_eq_true (d7v hm)];simp only [List.mem_cons,List.not_mem_nil,or_false]at hm
  rcases hm with rfl|rfl|rfl|rfl|rfl<;>decide
 .rw [d6r (λx hx e=>hm (by rw [<-e];exact hx))];simp only [List.mem_cons,List.not_mem_nil,or_false,not_or]at hm;obtain⟨a1,a2,a3,a4,a5⟩:=hm;simp [vow,a1,a2,a3,a4,a5]
end P
theorem d5v (s:Str) (w:World) (hs:s.length<=2^40) :
 Cz 214 #[.string (S s)] w λe w'=>e=.returned (.bool (P.isWord s))/\w=w':=by
 have HW:Hq (P.isWord s=(s.all P.lower&&decide (1<=(s.length:Int)/\(s.length:Int)<=24))):=⟨rfl⟩
 have HM:=qh (show s.length<=maxLen by unfold maxLen;omega)
 obtain⟨q,hq⟩:∃q,decide (1<=(s.length:Int)/\(s.length:Int)<=24)=q:=⟨_,rfl⟩
 rw [hq]at HW
 cases q
 .go_enter func214,ntmps214
  go_wp2_with (go_at_call 74;refine (a1x _ _ _ _).mono ?_;rintro e w' ⟨rfl,rfl⟩)
  go_ret;exact⟨a0a (by rw [HW.o];simp),rfl⟩
 .go_enter func214,ntmps214
  go_wp2_with fail
  refine (a1x _ _ _ _).mono ?_;rintro e w1 ⟨rfl,rfl⟩;rw [hq];clear hq
  go_wp2_with fail
  refine (d1r s _ HM.o).mono ?_;rintro e w1 ⟨rfl,rfl⟩;go_wp2;go_ret;exact⟨a0a (by rw [HW.o];simp),rfl⟩
theorem idxVow (b:UInt8) (w:World) :
 Cz 307 #[.string (S [97,101,105,111,117]),.int .u8 b.toNat] w λe w'=>e=.returned (.int .i64 (Lib.indexByte [97,101,105,111,117] b))/\w=w':=by
 refine (Tryz.strings_IndexByte (S [97,101,105,111,117]) b.toNat w).mono ?_
 rintro e w' ⟨rfl,rfl⟩
 refine⟨?_,rfl⟩
 rw [S_dataList]
 simp
theorem a8y (b:UInt8) (w:World) :
 Cz 273 #[.int .u8 b.toNat] w λe w'=>e=.returned (.bool (P.vow b))/\w=w':=by
 go_enter func273,ntmps273
 go_wp2_with (go_at_call 307;refine (idxVow _ _).mono ?_;rintro e w' ⟨rfl,rfl⟩)
 go_ret
 exact⟨a0a (P.e2o b),rfl⟩
theorem c7c (s:Str) (w:World) (hs:s.length<=2^30) :
 Cz 275 #[.string (S s)] w λe w'=>e=.returned (.int .i64 (P.a1j s))/\w=w':=by
 go_enter func275,ntmps275
 go_wp2
 go_loop [3,4,7] (λn _ i=>∃k:Nat,k<=s.length/\i=.int .i64 k/\n=.int .i64 (P.a2n s k)) (λ_ _ i=>s.length-(intOf i).toNat)
 case atStart=>exact⟨0,Nat.zero_le _,rfl,rfl⟩
 case round=>
  obtain⟨k,hk,rfl,rfl⟩:=hrel;have hg:=P.b1j s k
  by_cases hlt:k<s.length
  .have i1:(k:Int)<(s.length:Int):=by omega
   have HY:=qh (P.b5b (s:=s) (k:=k));have HN:=qh (P.b7q (s:=s) (k:=k));generalize P.a2n s k=gn at *
   rcases k with _|m
   .rw [P.c4j hlt]at HY HN;obtain⟨q,hq⟩:∃q,P.vow (s[0]'hlt)=q:=⟨_,rfl⟩;rw [hq]at HY HN
    cases q
    .have HZ:=qh (HN.o rfl);clear HY HN
     go_wp2_with (go_at_call 273;refine (a8y _ _).mono ?_;rintro e w' ⟨rfl,rfl⟩)
     exact zq165
    .have HZ:=qh (HY.o rfl);clear HY HN
     go_wp2_with (go_at_call 273;refine (a8y _ _).mono ?_;rintro e w' ⟨rfl,rfl⟩)
     exact zq157
   .rw [P.c3h hlt]at HY HN;have hm:m<s.length:=by omega
    have i2:(((m+1:Nat):Int)==0)=false:=by rw [beq_eq_false_iff_ne];omega
    have i3:((m+1:Nat):Int)-1=(m:Int):=by omega
    obtain⟨q,hq⟩:∃q,P.vow (s[m+1]'hlt)=q:=⟨_,rfl⟩;obtain⟨r,hr⟩:∃r,P.vow (s[m]'hm)=r:=⟨_,rfl⟩;rw [hq,hr]at HY HN
    cases q
    .exact zq204
    .cases r
     .have HZ:=qh (HY.o rfl);clear HY HN
      go_wp2_with (go_at_call 273;refine (a8y _ _).mono ?_;rintro e w' ⟨rfl,rfl⟩)
      exact zq177
     .exact zq204
  .exact zq122
theorem d1l (s e:Str) (w:World) (hs:s.length<=2^40) :
 Cz 317 #[.string (S s),.string (S e)] w λe' w'=>e'=.returned (.bool (P.ends s e))/\w=w':=by
 refine (Tryz.strings_HasSuffix (S s) (S e) w (by rw [S_size];omega)).mono ?_
 rintro e' w' ⟨rfl,rfl⟩
 rw [S_dataList,S_dataList]
 exact⟨rfl,rfl⟩
theorem d0h (C:Nat) (s e:Str) (w:World) (hC:w.cell? ⟨C,0,none⟩=some (.string (S s))) (hs:s.length<=2^40) :
 Cz 316 #[.string (S e),.pointer (some ⟨C,0,none⟩)] w λe' w'=>e'=.returned (.bool (P.ends s e))/\w=w':=by
 go_enter func316,ntmps316
 go_wp2_with (go_at_call 317;refine (d1l _ _ _ hs).mono ?_;rintro e' w' ⟨rfl,rfl⟩)
 go_ret
 exact⟨rfl,rfl⟩
theorem d4f (g cap C:Nat) (s:Str) (l:List Str) (w:World) (hg:∀(j:Nat) (h:j<l.length),w.cell? ⟨g,j,none⟩=some (.string (S (l[j]'h)))) (hC:w.cell? ⟨C,0,none⟩=some (.string (S s))) (hs:s.length<=2^40) (hl:l.length<=100) :
 Cz 350 #[.slice (some ⟨g,0,none⟩) l.length cap,.func (Fn.func 316) #[] #[.pointer (some ⟨C,0,none⟩)]] w λe w'=>(∃i:Int,e=.returned (.int .i64 i)/\decide (0<=i)=l.any (P.ends s))/\w=w':=by
 have HG:=qh hg;have HC:=qh hC;have HS:=qh hs
 clear hg hC hs
 go_enter func350,ntmps350
 go_wp2
 go_loop [5,8] (λ_ i=>∃j:Nat,j<=l.length/\i=.int .i64 j/\(∀f∈l.take j,P.ends s f=false)) (λ_ i=>l.length-(intOf i).toNat)
 case atStart=>exact⟨0,Nat.zero_le _,rfl,(λf h=>by simp at h)⟩
 case round=>
  obtain⟨j,hj,rfl,hn⟩:=hrel;have HN:=qh hn;clear hn
  by_cases hlt:j<l.length
  .have c0:=HG.o j hlt
   have HHIT:=qh (show P.ends s l[j]=true->decide (0<=(j:Int))=l.any (P.ends s) from λh=>by
    rw [decide_eq_true oZ];exact (List.any_eq_true.2 ⟨_,List.getElem_mem hlt,h⟩).symm)
   have HMISS:=qh (show P.ends s l[j]=false->∀f∈l.take (j+1),P.ends s f=false from λh f hf=>by
    rw [a0g l j hlt,List.mem_append,List.mem_singleton]at hf
    rcases hf with hf|rfl
    .exact HN.o f hf
    .exact h)
   generalize l[j]=x at *;have i1:(j:Int)<(l.length:Int):=by omega
   obtain⟨b,hbv⟩:∃b,P.ends s x=b:=⟨_,rfl⟩;have HBV:=qh hbv;rw [hbv]at HHIT HMISS;clear hbv
   cases b
   .have HQQ:=qh (HMISS.o rfl);clear HHIT HMISS
    go_wp2_with fail
    refine (d0h C s x _ HC.o HS.o).mono ?_;rintro e w1 ⟨rfl,rfl⟩;rw [HBV.o];go_wp2
    go_round
    case rel=>exact⟨j+1,by omega,by go_num,HQQ.o⟩
    case measure=>exact zq
   .have HPP:=qh (HHIT.o rfl);clear HHIT HMISS
    go_wp2_with fail
    refine (d0h C s x _ HC.o HS.o).mono ?_;rintro e w1 ⟨rfl,rfl⟩;rw [HBV.o];go_wp2;go_ret;exact⟨⟨_,rfl,HPP.o⟩,rfl⟩
  .have HP:=qh (show decide (0<=(-1:Int))=l.any (P.ends s) by
    have h:=HN.o;rw [List.take_of_length_le oZ]at h;have h2:l.any (P.ends s)=false:=List.any_eq_false.2 λf hf=>by rw [h f hf];decide
    rw [h2];rfl)
   go_wp2;go_ret;exact⟨⟨_,rfl,HP.o⟩,rfl⟩
theorem c4m (g cap C:Nat) (s:Str) (l:List Str) (w:World) (hg:∀(j:Nat) (h:j<l.length),w.cell? ⟨g,j,none⟩=some (.string (S (l[j]'h)))) (hC:w.cell? ⟨C,0,none⟩=some (.string (S s))) (hs:s.length<=2^40) (hl:l.length<=100) :
 Cz 315 #[.slice (some ⟨g,0,none⟩) l.length cap,.func (Fn.func 316) #[] #[.pointer (some ⟨C,0,none⟩)]] w λe w'=>e=.returned (.bool (l.any (P.ends s)))/\w=w':=by
 have HG:=qh hg;have HC:=qh hC
 clear hg hC
 go_enter func315,ntmps315
 go_wp2_with fail
 refine (d4f g cap C s l _ HG.o HC.o hs hl).mono ?_
 rintro e w1 ⟨⟨i,rfl,hi⟩,rfl⟩
 have HI:=qh hi
 clear hi
 go_wp2
 go_ret
 exact⟨a0a (by rw [<-HI.o]),rfl⟩
theorem endsWith (g cap:Nat) (s:Str) (l:List Str) (w:World) (hgl:g<w.heap.size) (hg:∀(j:Nat) (h:j<l.length),w.cell? ⟨g,j,none⟩=some (.string (S (l[j]'h)))) (hs:s.length<=2^40) (hl:l.length<=100) :
 Cz 274 #[.string (S s),.slice (some ⟨g,0,none⟩) l.length cap] w λe w'=>e=.returned (.bool (l.any (P.ends s)))/\Bl w w':=by
 have hb0:=(Below.refl w.heap.size w).alloc lZ (.cells #[.string (S s)] 9)
 have HB0:=qh hb0
 have HC:=qh (show (w.alloc (.cells #[.string (S s)] 9)).cell? ⟨w.heap.size,0,none⟩=some (.string (S s)) by go_simp)
 have HG:Hq (∀(j:Nat) (h:j<l.length),(w.alloc (.cells #[.string (S s)] 9)).cell? ⟨g,j,none⟩=some (.string (S (l[j]'h)))):=⟨λj h=>(hb0.cell (p:=⟨g,j,none⟩) hgl).trans (hg j h)⟩
 clear hg hb0
 go_enter func274,ntmps274
 go_wp2_with fail
 refine (c4m g cap w.heap.size s l _ HG.o HC.o hs hl).mono ?_
 rintro e w1 ⟨rfl,rfl⟩
 go_wp2
 go_ret
 exact⟨rfl,HB0.o⟩
theorem any1 {f:Str->Bool} (a:Str):[a].any f=f a:=by simp
theorem any3 {f:Str->Bool} (a b c:Str):[a,b,c].any f=(f a||(f b||f c)):=by simp
theorem any5 {f:Str->Bool} (a b c d e:Str):[a,b,c,d,e].any f=(f a||(f b||(f c||(f d||f e)))):=by simp
theorem d6l (x y:Str) (w:World) (hx:x.length<=2^30) (hy:0<y.length) :
 Cz 215 #[.string (S x),.string (S y)] w λe w'=>e=.returned (.int .i64 (P.rule x y))/\Bl w w':=by
 have hr:P.rule x y=(if (y==[115])&&P.a9n x then 1
  else if (y==[115])&&(P.ends x [115]||(P.ends x [120]||(P.ends x [122]||(P.ends x [99,104]||P.ends x [115,104])))) then 2
  else if (y==[105,110,103])&&P.ends x [105,101] then 3
  else if P.a9n x&&!(y.getD 0 0==105) then 4
  else if P.c2v x&&P.vow (y.getD 0 0) then 5
  else if decide (P.a1j x=1)&&(P.closed x&&P.vow (y.getD 0 0)) then 6 else 0):=rfl
 rw [P.getD_at hy]at hr
 obtain⟨y0,hy0⟩:∃v,(y[0]'hy==105)=v:=⟨_,rfl⟩
 have f0:(((y[0]'hy).toNat:Int)==105)=y0:=(a7i _ 105 dZ).trans hy0
 have f0':(((y[0]'hy).toNat:Int) != 105)=!y0:=by rw [<-f0];rfl
 have h5:(P.c2v x&&P.vow (y[0]'hy))=(decide (2<=x.length)&&(P.ends x [101]&&(!P.ends x [101,101]&&(!P.ends x [111,101]&&(!P.ends x [121,101]&&P.vow (y[0]'hy)))))):=by
  exact zq141
 have h6:(decide (P.a1j x=1)&&(P.closed x&&P.vow (y[0]'hy)))=((decide (P.a1j x=1)&&P.closed x)&&P.vow (y[0]'hy)):=by
  cases decide (P.a1j x=1)<;>rfl
 rw [hy0,h5,h6]at hr
 have HR:=qh hr
 clear hr hy0 f0 h5 h6
 have hcy:P.a9n x=(decide (2<=x.length)&&(P.back x 1==121&&!P.vow (P.back x 2))):=rfl
 have hcl:P.closed x=(decide (3<=x.length)&&(!P.vow (P.back x 3)&&(P.vow (P.back x 2)&&(!P.vow (P.back x 1)&&!P.wxy (P.back x 1))))):=rfl
 have HCY:=qh hcy;have HCL:=qh hcl
 have HW3:=qh (λh=>P.e1d (s:=x) h)
 clear hcy hcl
 go_enter func215,ntmps215
 go_upto_region 2 with (go_at_call 273;refine (a8y _ _).mono ?_;rintro e w' ⟨rfl,rfl⟩)
 go_cut [7] (λc wx=>∃b,c=.bool b/\P.a9n x=b/\w=wx)
 case first=>
  by_cases h:2<=x.length
  .obtain⟨n2,hn2⟩:∃n,n+2=x.length:=⟨x.length-2,by omega⟩;obtain⟨l1,b1⟩:=P.a6n (s:=x) (n:=n2+1) (k:=1) oZ oZ;obtain⟨l2,b2⟩:=P.a6n (s:=x) (n:=n2) (k:=2) oZ oZ;rw [b1,b2,decide_eq_true h]at HCY;have i1:(2:Int)<=(x.length:Int):=by omega
   have i2:(x.length:Int)-1=((n2+1:Nat):Int):=by omega
   have i3:(x.length:Int)-2=(n2:Int):=by omega
   obtain⟨q,hq⟩:∃q,(x[n2+1]'l1==121)=q:=⟨_,rfl⟩;have f0:(((x[n2+1]'l1).toNat:Int)==121)=q:=(a7i _ 121 dZ).trans hq;rw [hq]at HCY;clear b1 b2 hq hn2 h
   cases q
   .exact zq166
   .exact zq166
  .have i1:¬(2:Int)<=(x.length:Int):=by omega
   go_wp2;go_meet;exact⟨_,rfl,by rw [HCY.o,decide_eq_false h];rfl,rfl⟩
 case rest=>
 obtain⟨cy,rfl,hcy,rfl⟩:=hcut
 rw [hcy]at HR
 clear HCY hcy
 go_upto_region 3 with fail
 go_cut [8] (λc wx=>∃b,c=.bool b/\P.closed x=b/\Bl w wx)
 case first=>
  by_cases h:3<=x.length
  .obtain⟨n3,hn3⟩:∃n,n+3=x.length:=⟨x.length-3,by omega⟩;obtain⟨l1,b1⟩:=P.a6n (s:=x) (n:=n3+2) (k:=1) oZ oZ;obtain⟨l2,b2⟩:=P.a6n (s:=x) (n:=n3+1) (k:=2) oZ oZ;obtain⟨l3,b3⟩:=P.a6n (s:=x) (n:=n3) (k:=3) oZ oZ;have hw3:=HW3.o oZ;rw [b1]at hw3;rw [b1,b2,b3,decide_eq_true h,<-hw3]at HCL;have i1:(3:Int)<=(x.length:Int):=by omega
   have i2:(x.length:Int)-1=((n3+2:Nat):Int):=by omega
   have i3:(x.length:Int)-2=((n3+1:Nat):Int):=by omega
   have i4:(x.length:Int)-3=(n3:Int):=by omega
   obtain⟨q1,hq1⟩:∃q,P.vow (x[n3+2]'l1)=q:=⟨_,rfl⟩;obtain⟨q2,hq2⟩:∃q,P.vow (x[n3+1]'l2)=q:=⟨_,rfl⟩;obtain⟨q3,hq3⟩:∃q,P.vow (x[n3]'l3)=q:=⟨_,rfl⟩;rw [hq1,hq2,hq3]at HCL;clear b1 b2 b3 hn3 h hw3
   cases q3 with
   |true=>
    exact e2t
   |false=>
   cases q2 with
   |false=>
    exact e2t
   |true=>
   cases q1 with
   |true=>
    exact e2t
   |false=>
    go_wp2_with (go_at_call 273;refine (a8y _ _).mono ?_;rintro e w' ⟨rfl,rfl⟩)
    refine (endsWith _ 3 x [[119],[120],[121]] _ sZ (a1n [[119],[120],[121]] _ _) oZ dZ).mono ?_;rintro e w1 ⟨rfl,hb⟩;have HB:=qh (((Below.refl w.heap.size w).alloc lZ _).trans (hb.mono sZ));clear hb;rw [any3];go_wp2;go_meet;exact⟨_,rfl,by rw [HCL.o];simp,HB.o⟩
  .have i1:¬(3:Int)<=(x.length:Int):=by omega
   go_wp2;go_meet;exact⟨_,rfl,by rw [HCL.o,decide_eq_false h];rfl,Below.refl _ _⟩
 case rest=>
 obtain⟨cl,rfl,hcl,hb⟩:=hcut
 rw [hcl]at HR
 have HB0:=qh hb
 clear hb hcl HCL HW3
 generalize hww:wc=w0 at *
 clear hww
 go_upto_region 4 with fail
 go_cut [62] (λc wx=>c=.bool ((y==[115])&&cy)/\Bl w wx)
 case first=>
  cases g1:(y==[115]) with
  |false=>
   go_wp2;go_meet;exact⟨by simp [*],HB0.o⟩
  |true=>
   go_wp2;go_meet;exact⟨by simp [*],HB0.o⟩
 case rest=>
 obtain⟨rfl,hb⟩:=hcut
 have HB1:=qh hb
 clear hb HB0
 generalize hww:wc=w1 at *
 clear hww
 cases hc0:((y==[115])&&cy)
 rotate_left
 .have HZ:=qh (show P.rule x y=1 by rw [HR.o,hc0];rfl);clear hc0;go_wp2;go_ret;exact⟨a2t (by rw [HZ.o];rfl),HB1.o⟩
 have N0:=qh hc0
 clear hc0
 go_upto_region 6 with fail
 go_cut [68] (λc wx=>c=.bool ((y==[115])&&(P.ends x [115]||(P.ends x [120]||(P.ends x [122]||(P.ends x [99,104]||P.ends x [115,104])))))/\Bl w wx)
 case first=>
  cases g1:(y==[115]) with
  |false=>
   go_wp2;go_meet;exact⟨by simp [*],HB1.o⟩
  |true=>
   go_wp2_with fail
   refine (endsWith _ 5 x [[115],[120],[122],[99,104],[115,104]] _ sZ (a1n [[115],[120],[122],[99,104],[115,104]] _ _) oZ dZ).mono ?_;rintro e v1 ⟨rfl,hb⟩;have Hv1:=qh (((HB1.o).alloc (HB1.o).size _).trans (hb.mono (by have h:=(HB1.o).size;simp;omega)));clear hb;rw [any5];go_wp2;go_meet;exact⟨by simp [*],Hv1.o⟩
 case rest=>
 obtain⟨rfl,hb⟩:=hcut
 have HB2:=qh hb
 clear hb HB1
 generalize hww:wc=w2 at *
 clear hww
 cases hc1:((y==[115])&&(P.ends x [115]||(P.ends x [120]||(P.ends x [122]||(P.ends x [99,104]||P.ends x [115,104])))))
 rotate_left
 .have HZ:=qh (show P.rule x y=2 by rw [HR.o,N0.o,if_neg dZ,hc1];rfl);clear hc1;go_wp2;go_ret;exact⟨a2t (by rw [HZ.o];rfl),HB2.o⟩
 have N1:=qh hc1
 clear hc1
 go_upto_region 8 with fail
 go_cut [76] (λc wx=>c=.bool ((y==[105,110,103])&&P.ends x [105,101])/\Bl w wx)
 case first=>
  cases g1:(y==[105,110,103]) with
  |false=>
   go_wp2;go_meet;exact⟨by simp [*],HB2.o⟩
  |true=>
   go_wp2_with fail
   refine (endsWith _ 1 x [[105,101]] _ sZ (a1n [[105,101]] _ _) oZ dZ).mono ?_;rintro e v1 ⟨rfl,hb⟩;have Hv1:=qh (((HB2.o).alloc (HB2.o).size _).trans (hb.mono (by have h:=(HB2.o).size;simp;omega)));clear hb;rw [any1];go_wp2;go_meet;exact⟨by simp [*],Hv1.o⟩
 case rest=>
 obtain⟨rfl,hb⟩:=hcut
 have HB3:=qh hb
 clear hb HB2
 generalize hww:wc=w3 at *
 clear hww
 cases hc2:((y==[105,110,103])&&P.ends x [105,101])
 rotate_left
 .have HZ:=qh (show P.rule x y=3 by rw [HR.o,N0.o,if_neg dZ,N1.o,if_neg dZ,hc2];rfl);clear hc2;go_wp2;go_ret;exact⟨a2t (by rw [HZ.o];rfl),HB3.o⟩
 have N2:=qh hc2
 clear hc2
 go_upto_region 10 with fail
 go_cut [84] (λc wx=>c=.bool (cy&&!y0)/\Bl w wx)
 case first=>
  cases cy with
  |false=>
   go_wp2;go_meet;exact⟨by simp [*],HB3.o⟩
  |true=>
   go_wp2;go_meet;exact⟨by simp [*],HB3.o⟩
 case rest=>
 obtain⟨rfl,hb⟩:=hcut
 have HB4:=qh hb
 clear hb HB3
 generalize hww:wc=w4 at *
 clear hww
 cases hc3:(cy&&!y0)
 rotate_left
 .have HZ:=qh (show P.rule x y=4 by rw [HR.o,N0.o,if_neg dZ,N1.o,if_neg dZ,N2.o,if_neg dZ,hc3];rfl);clear hc3;go_wp2;go_ret;exact⟨a2t (by rw [HZ.o];rfl),HB4.o⟩
 have N3:=qh hc3
 clear hc3
 go_upto_region 12 with fail
 go_cut [91] (λc wx=>c=.bool (decide (2<=x.length)&&(P.ends x [101]&&(!P.ends x [101,101]&&(!P.ends x [111,101]&&(!P.ends x [121,101]&&P.vow (y[0]'hy))))))/\Bl w wx)
 case first=>
  by_cases g1:2<=x.length
  .have g':(2:Int)<=(x.length:Int):=by omega
   have HG:=qh g1
   have HP5:=qh (show (decide (2<=x.length)&&(P.ends x [101]&&(!P.ends x [101,101]&&(!P.ends x [111,101]&&(!P.ends x [121,101]&&P.vow (y[0]'hy))))))=(P.ends x [101]&&(!(P.ends x [101,101]||(P.ends x [111,101]||P.ends x [121,101]))&&P.vow (y[0]'hy))) by
    rw [decide_eq_true HG.o]
    cases P.ends x [101]<;>cases P.ends x [101,101]<;>cases P.ends x [111,101]<;>cases P.ends x [121,101]<;>rfl)
   go_wp2_with fail
   refine (endsWith _ 1 x [[101]] _ sZ (a1n [[101]] _ _) oZ dZ).mono ?_;rintro e v1 ⟨rfl,hb⟩;have Hv1:=qh (((HB4.o).alloc (HB4.o).size _).trans (hb.mono (by have h:=(HB4.o).size;simp;omega)));clear hb;rw [any1]
   cases g2:P.ends x [101] with
   |false=>
    go_wp2;go_meet;exact⟨by rw [HP5.o];simp [*],Hv1.o⟩
   |true=>
    go_wp2_with fail
    refine (endsWith _ 3 x [[101,101],[111,101],[121,101]] _ sZ (a1n [[101,101],[111,101],[121,101]] _ _) oZ dZ).mono ?_;rintro e v2 ⟨rfl,hb⟩;have Hv2:=qh (((Hv1.o).alloc (Hv1.o).size _).trans (hb.mono (by have h:=(Hv1.o).size;simp;omega)));clear hb;rw [any3]
    cases g3:(P.ends x [101,101]||(P.ends x [111,101]||P.ends x [121,101])) with
    |true=>
     go_wp2;go_meet;exact⟨by rw [HP5.o];simp [*],Hv2.o⟩
    |false=>
     go_wp2;go_meet;exact⟨by rw [HP5.o];simp [*],Hv2.o⟩
  .have g':¬(2:Int)<=(x.length:Int):=by omega
   go_wp2;go_meet;exact⟨by simp [*],HB4.o⟩
 case rest=>
 obtain⟨rfl,hb⟩:=hcut
 have HB5:=qh hb
 clear hb HB4
 generalize hww:wc=w5 at *
 clear hww
 cases hc4:(decide (2<=x.length)&&(P.ends x [101]&&(!P.ends x [101,101]&&(!P.ends x [111,101]&&(!P.ends x [121,101]&&P.vow (y[0]'hy))))))
 rotate_left
 .have HZ:=qh (show P.rule x y=5 by rw [HR.o,N0.o,if_neg dZ,N1.o,if_neg dZ,N2.o,if_neg dZ,N3.o,if_neg dZ,hc4];rfl);clear hc4;go_wp2;go_ret;exact⟨a2t (by rw [HZ.o];rfl),HB5.o⟩
 have N4:=qh hc4
 clear hc4
 go_upto_region 14 with fail
 go_cut [108] (λc wx=>c=.bool ((decide (P.a1j x=1)&&cl)&&P.vow (y[0]'hy))/\Bl w wx)
 case first=>
  obtain⟨p,hp⟩:∃q,decide (P.a1j x=1)=q:=⟨_,rfl⟩;have f1:((P.a1j x:Int)==1)=p:=by rw [<-hp,Bool.eq_iff_iff];simp;omega
  cases p with
  |false=>
   exact e4m
  |true=>
  cases cl with
  |false=>
   exact e4m
  |true=>
   exact e4m
 case rest=>
 obtain⟨rfl,hb⟩:=hcut
 have HB6:=qh hb
 clear hb HB5
 generalize hww:wc=w6 at *
 clear hww
 cases hc5:((decide (P.a1j x=1)&&cl)&&P.vow (y[0]'hy))
 rotate_left
 .have HZ:=qh (show P.rule x y=6 by rw [HR.o,N0.o,if_neg dZ,N1.o,if_neg dZ,N2.o,if_neg dZ,N3.o,if_neg dZ,N4.o,if_neg dZ,hc5];rfl);clear hc5;go_wp2;go_ret;exact⟨a2t (by rw [HZ.o];rfl),HB6.o⟩
 have N5:=qh hc5
 clear hc5
 have HZ:=qh (show P.rule x y=0 by rw [HR.o,N0.o,if_neg dZ,N1.o,if_neg dZ,N2.o,if_neg dZ,N3.o,if_neg dZ,N4.o,if_neg dZ,N5.o];rfl)
 go_wp2
 go_ret
 exact⟨a2t (by rw [HZ.o];rfl),HB6.o⟩
theorem a9d (x y:Str) (w:World) (hx:x.length<=2^30) (hyl:y.length<=2^30) :
 Cz 143 #[.string (S x),.string (S y)] w λe w'=>e=.returned (.tuple #[.string (S (P.a2f x y).1),.bool (P.a2f x y).2])/\Bl w w':=by
 refine zm68 ?_;intro hj HYL HJL
 cases hqx:P.isWord x with
 |false=>
  have HJ:=qh (show P.a2f x y=([],false) by rw [hj,hqx];rfl);exact zq127
 |true=>
  cases hqy:P.isWord y with
  |false=>
   have HJ:=qh (show P.a2f x y=([],false) by rw [hj,hqx,hqy];rfl);exact zq127
  |true=>
   rw [hqx,hqy]at hj;have hy0:=HYL.o hqy
   have hjw:P.a4t x y=(match P.rule x y with
    |1=>x.take (x.length-1)++[105,101,115]
    |2=>x++[101,115]
    |3=>x.take (x.length-2)++[121,105,110,103]
    |4=>(x.take (x.length-1)++[105])++y
    |5=>x.take (x.length-1)++y
    |6=>(x++x.drop (x.length-1))++y
    |_=>x++y):=rfl
   have HJ:=qh hjw;have hle:=P.d6e x y;have HLN:=qh (P.c9s (w:=x) (x:=y));have H6:Hq (P.rule x y=6->3<=x.length):=⟨P.c5t⟩;have HJS:Hq (P.a2f x y=if 24<(P.a4t x y).length then ([],false) else (P.a4t x y,true)):=⟨hj⟩;clear hjw hj
   go_enter func143,ntmps143
   go_wp2_with (go_at_call 214;refine (d5v _ _ oZ).mono ?_;rintro e w' ⟨rfl,rfl⟩)
   refine (d6l x y _ hx hy0).mono ?_;rintro e w1 ⟨rfl,hb⟩;have HB:=qh hb;clear hb;obtain⟨r,hr⟩:∃r,P.rule x y=r:=⟨_,rfl⟩;rw [hr]at hle HJ HLN H6;rw [hr];clear hr;obtain rfl|rfl|rfl|rfl|rfl|rfl|rfl:r=0\/r=1\/r=2\/r=3\/r=4\/r=5\/r=6:=by omega
   .go_upto_region 17 with fail
    have HV:=qh (show P.a4t x y=x++y by rw [HJ.o]<;>simp);rw [HV.o]at HJS;generalize x++y=z at *;exact zq8
   .have hl:=HLN.o.1 rfl;have i1:(x.length:Int)-1=((x.length-1:Nat):Int):=by omega
    have i2:x.length-1<=x.length:=by omega
    go_upto_region 17 with fail
    have HV:=qh (show P.a4t x y=x.take (x.length-1)++[105,101,115] by rw [HJ.o]<;>simp);rw [HV.o]at HJS;generalize x.take (x.length-1)++[105,101,115]=z at *;exact zq8
   .go_upto_region 17 with fail
    have HV:=qh (show P.a4t x y=x++[101,115] by rw [HJ.o]<;>simp);rw [HV.o]at HJS;generalize x++[101,115]=z at *;exact zq8
   .have hl:=HLN.o.2.1 rfl;have i1:(x.length:Int)-2=((x.length-2:Nat):Int):=by omega
    have i2:x.length-2<=x.length:=by omega
    go_upto_region 17 with fail
    have HV:=qh (show P.a4t x y=x.take (x.length-2)++[121,105,110,103] by rw [HJ.o]<;>simp);rw [HV.o]at HJS;generalize x.take (x.length-2)++[121,105,110,103]=z at *;exact zq8
   .have hl:=HLN.o.2.2.1 rfl;have i1:(x.length:Int)-1=((x.length-1:Nat):Int):=by omega
    have i2:x.length-1<=x.length:=by omega
    go_upto_region 17 with fail
    have HV:=qh (show P.a4t x y=x.take (x.length-1)++105::y by rw [HJ.o]<;>simp);rw [HV.o]at HJS;generalize x.take (x.length-1)++105::y=z at *;exact zq8
   .have hl:=HLN.o.2.2.2 rfl;have i1:(x.length:Int)-1=((x.length-1:Nat):Int):=by omega
    have i2:x.length-1<=x.length:=by omega
    go_upto_region 17 with fail
    have HV:=qh (show P.a4t x y=x.take (x.length-1)++y by rw [HJ.o]<;>simp);rw [HV.o]at HJS;generalize x.take (x.length-1)++y=z at *;exact zq8
   .have hl:=H6.o rfl;have i1:(x.length:Int)-1=((x.length-1:Nat):Int):=by omega
    have i2:x.length-1<=x.length:=by omega
    go_upto_region 17 with fail
    have HV:=qh (show P.a4t x y=x++(x.drop (x.length-1)++y) by rw [HJ.o]<;>simp);rw [HV.o]at HJS;generalize x++(x.drop (x.length-1)++y)=z at *;exact zq8
theorem a3q (s:Str) (w:World) (hs:s.length<=2^40) :
 Cz 134 #[.string (S s)] w λe w'=>e=.returned (.bool (s.all P.prn))/\w=w':=by
 go_enter func134,ntmps134
 go_wp2
 go_loop [3,6] (λ_ i=>∃k:Nat,k<=s.length/\i=.int .i64 k/\(s.take k).all P.prn=true) (λ_ i=>s.length-(intOf i).toNat)
 case atStart=>exact⟨0,by omega,rfl,by simp⟩
 case round=>
  obtain⟨k,hk,rfl,ha⟩:=hrel;have HA:=qh ha;clear ha
  by_cases hlt:k<s.length
  .rcases Int.lt_or_le (s[k].toNat:Int) 32 with h1|h1
   .have H:=qh h1;go_wp2;go_ret;exact⟨a0a (P.b4a hlt (P.d6w (.inl H.o))).symm,rfl⟩
   .rcases Int.lt_or_le 126 (s[k].toNat:Int) with h2|h2
    .have H:=qh h2;go_wp2;go_ret;exact⟨a0a (P.b4a hlt (P.d6w (.inr H.o))).symm,rfl⟩
    .have HL:=qh (P.d6h h1 h2);go_wp2;exact e3m
  .exact zq140
theorem b8z (b:UInt8) (h:b.toNat<128):Utf8.encode (b.toNat:Int)=S [b]:=by
 have hv:Utf8.valid (b.toNat:Int)=true:=by
  unfold Utf8.valid;simp;omega
 unfold Utf8.encode;rw [hv];simp only [if_true,Int.toNat_natCast];rw [if_pos oZ];simp [S]
theorem d5p (s:Str) (w:World) (hs:s.length<=2^40) :
 Cz 365 #[.string (S s)] w λe w'=>e=.returned (.string (S (P.upper s)))/\∃n,w'=w.drewN n:=by
 cases s with
 |nil=>
  go_enter func365,ntmps365
  go_wp2;go_ret;exact⟨rfl,0,rfl⟩
 |cons b t=>
  have hn:((b::t:Str)==[])=false:=rfl;have hsl:t.length+1<=2^40:=hs;have j1:(1:Int)<=(t.length:Int)+1:=by omega
  have j2:¬9223372036854775807<1+t.length:=by omega
  clear hs
  by_cases h1:97<=(b.toNat:Int)
  .by_cases h2:(b.toNat:Int)<=122
   .have hl:=P.b2g h1 h2;have HU:=qh (show P.upper (b::t)=[b-32]++t by rw [P.c4h hl];rfl);obtain⟨h3,_⟩:=e1q hl;have hE:=b8z (b-32) oZ;rw [h3]at hE
    have e1:IntKind.i32.wrap (IntKind.u8.wrap (IntKind.u8.wrap ((b.toNat:Int)-97)+65))=(b.toNat:Int)-32:=by
     simp only [IntKind.wrap_u8,IntKind.wrap_i32];omega
    clear hl h3
    go_enter func365,ntmps365
    go_upto_region 2 with fail
    go_quiet (fail)
    go_wp2;go_ret;exact⟨a1v HU.o.symm,_,rfl⟩
   .have HU:=qh (show P.upper (b::t)=b::t by exact P.b5k (P.a6h (.inr oZ)))
    go_enter func365,ntmps365
    go_wp2;go_ret;exact⟨a1v HU.o.symm,0,rfl⟩
  .have HU:=qh (show P.upper (b::t)=b::t by exact P.b5k (P.a6h (.inl oZ)))
   go_enter func365,ntmps365
   go_wp2;go_ret;exact⟨a1v HU.o.symm,0,rfl⟩
theorem e1p (s:Str) (w:World) (hs:s.length<=2^40) :
 Cz 375 #[.string (S s)] w λe w'=>e=.returned (.string (S (P.a1q s)))/\∃n,w'=w.drewN n:=by
 cases s with
 |nil=>
  go_enter func375,ntmps375
  go_wp2;go_ret;exact⟨rfl,0,rfl⟩
 |cons b t=>
  have hn:((b::t:Str)==[])=false:=rfl;have hsl:t.length+1<=2^40:=hs;have j1:(1:Int)<=(t.length:Int)+1:=by omega
  have j2:¬9223372036854775807<1+t.length:=by omega
  clear hs
  by_cases h1:65<=(b.toNat:Int)
  .by_cases h2:(b.toNat:Int)<=90
   .have hl:=P.d7a h1 h2;have HU:=qh (show P.a1q (b::t)=[b+32]++t by rw [P.b6p hl];rfl);obtain⟨h3,_⟩:=e1o hl;have hE:=b8z (b+32) oZ;rw [h3]at hE
    have e1:IntKind.i32.wrap (IntKind.u8.wrap (IntKind.u8.wrap ((b.toNat:Int)-65)+97))=(b.toNat:Int)+32:=by
     simp only [IntKind.wrap_u8,IntKind.wrap_i32];omega
    clear hl h3
    go_enter func375,ntmps375
    go_upto_region 2 with fail
    go_quiet (fail)
    go_wp2;go_ret;exact⟨a1v HU.o.symm,_,rfl⟩
   .have HU:=qh (show P.a1q (b::t)=b::t by exact P.b0b (P.c9e (.inr oZ)))
    go_enter func375,ntmps375
    go_wp2;go_ret;exact⟨a1v HU.o.symm,0,rfl⟩
  .have HU:=qh (show P.a1q (b::t)=b::t by exact P.b0b (P.c9e (.inl oZ)))
   go_enter func375,ntmps375
   go_wp2;go_ret;exact⟨a1v HU.o.symm,0,rfl⟩
def a6c (b:Nat) (s:P.St) (w:World) (e:Ending) (w':World):Prop:=e=.returned (.tuple #[])/\a0t b s w'/\Chg (λx=>x=b) w w'
def StC (b:Nat) (s:P.St) (w v:World):Prop:=a0t b s v/\Chg (λx=>x=b) w v
theorem StC.text {s:P.St} {w v:World} (h:StC b s w v) (t:Str):StC b { s with text:=t } w (v.setCell ⟨b,0,none⟩ (.string (S t))):=⟨h.1.text t,h.2.put _⟩
theorem StC.a0u {s:P.St} {w v:World} (h:StC b s w v) (x:Bool):StC b { s with a0u:=x } w (v.setCell ⟨b,1,none⟩ (.bool x)):=⟨h.1.a0u x,h.2.put _⟩
theorem StC.a4j {s:P.St} {w v:World} (h:StC b s w v) (x:Bool):StC b { s with a4j:=x } w (v.setCell ⟨b,2,none⟩ (.bool x)):=⟨h.1.a4j x,h.2.put _⟩
theorem StC.cap {s:P.St} {w v:World} (h:StC b s w v) (x:Int):StC b { s with cap:=x } w (v.setCell ⟨b,3,none⟩ (.int .i64 x)):=⟨h.1.cap x,h.2.put _⟩
theorem StC.word {s:P.St} {w v:World} (h:StC b s w v) (x:Nat):StC b { s with word:=x } w (v.setCell ⟨b,4,none⟩ (.int .i64 (x:Int))):=⟨h.1.word x,h.2.put _⟩
theorem StC.below {s:P.St} {w v v':World} (h:StC b s w v) (hb:Bl v v'):StC b s w v':=⟨h.1.below hb,h.2.trans (Below.chg hb _)⟩
theorem StC.drewN {s:P.St} {w v:World} (h:StC b s w v) (n:Nat):StC b s w (v.drewN n):=h.below (below_drewN bZ n)
theorem d8x (b:Nat) (s:P.St) (t:Str) (w:World) (hb:a0t b s w) (hc:0<=s.cap/\s.cap<=2) (hl:s.text.length<=2^30) (ht:t.length<=2^30) :
 Cz 362 #[.pointer (some ⟨b,0,none⟩),.string (S t)] w (a6c b (P.put s t) w):=by
 obtain⟨tx,jn,gl,cp,wd⟩:=s
 simp only at hc hl
 have H0:=qh (show StC b ⟨tx,jn,gl,cp,wd⟩ w w from⟨hb,Chg.refl _ _⟩)
 have h3:cp=0\/cp=1\/cp=2:=by omega
 have hul:=P.a9m t
 have hll:=P.b7i t
 have j1:¬9223372036854775807<tx.length+1+t.length:=by omega
 have j2:¬9223372036854775807<tx.length+t.length:=by omega
 have j3:¬9223372036854775807<tx.length+1+(P.upper t).length:=by omega
 have j4:¬9223372036854775807<tx.length+(P.upper t).length:=by omega
 have j5:¬9223372036854775807<tx.length+1+(P.a1q t).length:=by omega
 have j6:¬9223372036854775807<tx.length+(P.a1q t).length:=by omega
 have j7:¬9223372036854775807<tx.length+1:=by omega
 have HTL:=qh (show t.length<=2^40 by omega)
 clear hul hll hc hb
 cases jn
 .skip;obtain⟨⟨a0,a1,a2,a3,a4⟩,⟨f0,f1,f2,f3,f4⟩,hlt⟩:=H0.o.1;simp only at a0 a1 a2 a3 a4
  go_enter func362,ntmps362
  go_upto_region 2 with fail
  have H1:Hq (StC b ⟨tx++[32],false,gl,cp,wd⟩ w (w.setCell ⟨b,0,none⟩ (.string (S (tx++[32]))))):=⟨H0.o.text (tx++[32])⟩;clear H0;clear a0 a1 a2 a3 a4 f0 f1 f2 f3 f4 hlt;generalize (World.setCell _ _ _)=v1 at *;obtain⟨⟨a0,a1,a2,a3,a4⟩,⟨f0,f1,f2,f3,f4⟩,hlt⟩:=H1.o.1;simp only at a0 a1 a2 a3 a4
  go_upto_region 3 with fail
  have H2:Hq (StC b ⟨tx++[32],false,gl,cp,tx.length+1⟩ w (v1.setCell ⟨b,4,none⟩ (.int .i64 ((tx.length:Int)+1)))):=⟨H1.o.word (tx.length+1)⟩;clear H1;clear a0 a1 a2 a3 a4 f0 f1 f2 f3 f4 hlt;generalize (World.setCell _ _ _)=v2 at *;obtain⟨⟨a0,a1,a2,a3,a4⟩,⟨f0,f1,f2,f3,f4⟩,hlt⟩:=H2.o.1;simp only at a0 a1 a2 a3 a4
  rcases h3 with rfl|rfl|rfl
  .skip
   go_upto_region 9 with fail
   have H4:Hq (StC b ⟨tx++32::t,false,gl,0,tx.length+1⟩ w (v2.setCell ⟨b,0,none⟩ (.string (S (tx++32::t))))):=⟨H2.o.text (tx++32::t)⟩;clear H2;clear a0 a1 a2 a3 a4 f0 f1 f2 f3 f4 hlt;generalize (World.setCell _ _ _)=v4 at *;obtain⟨⟨a0,a1,a2,a3,a4⟩,⟨f0,f1,f2,f3,f4⟩,hlt⟩:=H4.o.1;simp only at a0 a1 a2 a3 a4;go_wp2
   first|go_end0|(refine bodyPost_ret (results_none rfl _ _ _) rfl ?_)
   have H5:=H4.o.cap 0;refine⟨rfl,?_,H5.2⟩;have he:P.put ⟨tx,false,gl,0,wd⟩ t=⟨(tx++[32])++t,false,gl,0,(tx++[32]).length⟩:=rfl;rw [he];have h6:=H5.1
   simpa using h6
  .skip
   go_upto_region 8 with (go_at_call 365;refine (d5p _ _ HTL.o).mono ?_;rintro e w' ⟨rfl,n,rfl⟩)
   have H3:Hq (StC b ⟨tx++[32],false,gl,1,tx.length+1⟩ w (v2.drewN n)):=⟨H2.o.drewN n⟩;clear H2;clear a0 a1 a2 a3 a4 f0 f1 f2 f3 f4 hlt;generalize (World.drewN _ _)=v3 at *;obtain⟨⟨a0,a1,a2,a3,a4⟩,⟨f0,f1,f2,f3,f4⟩,hlt⟩:=H3.o.1;simp only at a0 a1 a2 a3 a4
   go_upto_region 9 with fail
   have H4:Hq (StC b ⟨tx++32::P.upper t,false,gl,1,tx.length+1⟩ w (v3.setCell ⟨b,0,none⟩ (.string (S (tx++32::P.upper t))))):=⟨H3.o.text (tx++32::P.upper t)⟩;clear H3;clear a0 a1 a2 a3 a4 f0 f1 f2 f3 f4 hlt;generalize (World.setCell _ _ _)=v4 at *;obtain⟨⟨a0,a1,a2,a3,a4⟩,⟨f0,f1,f2,f3,f4⟩,hlt⟩:=H4.o.1;simp only at a0 a1 a2 a3 a4;go_wp2
   first|go_end0|(refine bodyPost_ret (results_none rfl _ _ _) rfl ?_)
   have H5:=H4.o.cap 0;refine⟨rfl,?_,H5.2⟩;have he:P.put ⟨tx,false,gl,1,wd⟩ t=⟨(tx++[32])++P.upper t,false,gl,0,(tx++[32]).length⟩:=rfl;rw [he];have h6:=H5.1
   simpa using h6
  .skip
   go_upto_region 8 with (go_at_call 375;refine (e1p _ _ HTL.o).mono ?_;rintro e w' ⟨rfl,n,rfl⟩)
   have H3:Hq (StC b ⟨tx++[32],false,gl,2,tx.length+1⟩ w (v2.drewN n)):=⟨H2.o.drewN n⟩;clear H2;clear a0 a1 a2 a3 a4 f0 f1 f2 f3 f4 hlt;generalize (World.drewN _ _)=v3 at *;obtain⟨⟨a0,a1,a2,a3,a4⟩,⟨f0,f1,f2,f3,f4⟩,hlt⟩:=H3.o.1;simp only at a0 a1 a2 a3 a4
   go_upto_region 9 with fail
   have H4:Hq (StC b ⟨tx++32::P.a1q t,false,gl,2,tx.length+1⟩ w (v3.setCell ⟨b,0,none⟩ (.string (S (tx++32::P.a1q t))))):=⟨H3.o.text (tx++32::P.a1q t)⟩;clear H3;clear a0 a1 a2 a3 a4 f0 f1 f2 f3 f4 hlt;generalize (World.setCell _ _ _)=v4 at *;obtain⟨⟨a0,a1,a2,a3,a4⟩,⟨f0,f1,f2,f3,f4⟩,hlt⟩:=H4.o.1;simp only at a0 a1 a2 a3 a4;go_wp2
   first|go_end0|(refine bodyPost_ret (results_none rfl _ _ _) rfl ?_)
   have H5:=H4.o.cap 0;refine⟨rfl,?_,H5.2⟩;have he:P.put ⟨tx,false,gl,2,wd⟩ t=⟨(tx++[32])++P.a1q t,false,gl,0,(tx++[32]).length⟩:=rfl;rw [he];have h6:=H5.1
   simpa using h6
 .skip;obtain⟨⟨a0,a1,a2,a3,a4⟩,⟨f0,f1,f2,f3,f4⟩,hlt⟩:=H0.o.1;simp only at a0 a1 a2 a3 a4
  go_enter func362,ntmps362
  go_upto_region 3 with fail
  have H2:Hq (StC b ⟨tx,true,gl,cp,tx.length⟩ w (w.setCell ⟨b,4,none⟩ (.int .i64 (tx.length:Int)))):=⟨H0.o.word (tx.length)⟩;clear H0;clear a0 a1 a2 a3 a4 f0 f1 f2 f3 f4 hlt;generalize (World.setCell _ _ _)=v2 at *;obtain⟨⟨a0,a1,a2,a3,a4⟩,⟨f0,f1,f2,f3,f4⟩,hlt⟩:=H2.o.1;simp only at a0 a1 a2 a3 a4
  rcases h3 with rfl|rfl|rfl
  .skip
   go_upto_region 9 with fail
   have H4:Hq (StC b ⟨(tx)++t,true,gl,0,tx.length⟩ w (v2.setCell ⟨b,0,none⟩ (.string (S ((tx)++t))))):=⟨H2.o.text ((tx)++t)⟩;clear H2;clear a0 a1 a2 a3 a4 f0 f1 f2 f3 f4 hlt;generalize (World.setCell _ _ _)=v4 at *;obtain⟨⟨a0,a1,a2,a3,a4⟩,⟨f0,f1,f2,f3,f4⟩,hlt⟩:=H4.o.1;simp only at a0 a1 a2 a3 a4;go_wp2
   first|go_end0|(refine bodyPost_ret (results_none rfl _ _ _) rfl ?_)
   have H5:=H4.o.cap 0;refine⟨rfl,?_,H5.2⟩;have he:P.put ⟨tx,true,gl,0,wd⟩ t=⟨(tx)++t,true,gl,0,(tx).length⟩:=rfl;rw [he];have h6:=H5.1
   simpa using h6
  .skip
   go_upto_region 8 with (go_at_call 365;refine (d5p _ _ HTL.o).mono ?_;rintro e w' ⟨rfl,n,rfl⟩)
   have H3:Hq (StC b ⟨tx,true,gl,1,tx.length⟩ w (v2.drewN n)):=⟨H2.o.drewN n⟩;clear H2;clear a0 a1 a2 a3 a4 f0 f1 f2 f3 f4 hlt;generalize (World.drewN _ _)=v3 at *;obtain⟨⟨a0,a1,a2,a3,a4⟩,⟨f0,f1,f2,f3,f4⟩,hlt⟩:=H3.o.1;simp only at a0 a1 a2 a3 a4
   go_upto_region 9 with fail
   have H4:Hq (StC b ⟨(tx)++P.upper t,true,gl,1,tx.length⟩ w (v3.setCell ⟨b,0,none⟩ (.string (S ((tx)++P.upper t))))):=⟨H3.o.text ((tx)++P.upper t)⟩;clear H3;clear a0 a1 a2 a3 a4 f0 f1 f2 f3 f4 hlt;generalize (World.setCell _ _ _)=v4 at *;obtain⟨⟨a0,a1,a2,a3,a4⟩,⟨f0,f1,f2,f3,f4⟩,hlt⟩:=H4.o.1;simp only at a0 a1 a2 a3 a4;go_wp2
   first|go_end0|(refine bodyPost_ret (results_none rfl _ _ _) rfl ?_)
   have H5:=H4.o.cap 0;refine⟨rfl,?_,H5.2⟩;have he:P.put ⟨tx,true,gl,1,wd⟩ t=⟨(tx)++P.upper t,true,gl,0,(tx).length⟩:=rfl;rw [he];have h6:=H5.1
   simpa using h6
  .skip
   go_upto_region 8 with (go_at_call 375;refine (e1p _ _ HTL.o).mono ?_;rintro e w' ⟨rfl,n,rfl⟩)
   have H3:Hq (StC b ⟨tx,true,gl,2,tx.length⟩ w (v2.drewN n)):=⟨H2.o.drewN n⟩;clear H2;clear a0 a1 a2 a3 a4 f0 f1 f2 f3 f4 hlt;generalize (World.drewN _ _)=v3 at *;obtain⟨⟨a0,a1,a2,a3,a4⟩,⟨f0,f1,f2,f3,f4⟩,hlt⟩:=H3.o.1;simp only at a0 a1 a2 a3 a4
   go_upto_region 9 with fail
   have H4:Hq (StC b ⟨(tx)++P.a1q t,true,gl,2,tx.length⟩ w (v3.setCell ⟨b,0,none⟩ (.string (S ((tx)++P.a1q t))))):=⟨H3.o.text ((tx)++P.a1q t)⟩;clear H3;clear a0 a1 a2 a3 a4 f0 f1 f2 f3 f4 hlt;generalize (World.setCell _ _ _)=v4 at *;obtain⟨⟨a0,a1,a2,a3,a4⟩,⟨f0,f1,f2,f3,f4⟩,hlt⟩:=H4.o.1;simp only at a0 a1 a2 a3 a4;go_wp2
   first|go_end0|(refine bodyPost_ret (results_none rfl _ _ _) rfl ?_)
   have H5:=H4.o.cap 0;refine⟨rfl,?_,H5.2⟩;have he:P.put ⟨tx,true,gl,2,wd⟩ t=⟨(tx)++P.a1q t,true,gl,0,(tx).length⟩:=rfl;rw [he];have h6:=H5.1
   simpa using h6
theorem stGlue (b:Nat) (s:P.St) (t:Str) (w:World) (hb:a0t b s w) (hc:0<=s.cap/\s.cap<=2) (hl:s.text.length<=2^30) (ht:t.length<=2^30) :
 Cz 363 #[.pointer (some ⟨b,0,none⟩),.string (S t)] w (a6c b (P.a2h s t) w):=by
 obtain⟨tx,jn,gl,cp,wd⟩:=s
 simp only at hc hl
 have HB:=qh hb
 obtain⟨⟨a0,a1,a2,a3,a4⟩,⟨f0,f1,f2,f3,f4⟩,hlt⟩:=hb
 simp only at a0 a1 a2 a3 a4
 cases gl
 .go_enter func363,ntmps363
  go_wp2_with fail
  refine (d8x b ⟨tx,jn,false,cp,wd⟩ t _ HB.o hc hl ht).mono ?_;rintro e w1 ⟨rfl,hb1,hc1⟩;have HB1:=qh hb1;have HC1:=qh hc1;obtain⟨⟨_,_,c2,_,_⟩,_,hl1⟩:=hb1;clear hc1 a0 a1 a2 a3 a4 f0 f1 f2 f3 f4;have c2':w1.cell? ⟨b,2,none⟩=some (.bool false):=c2;clear c2;go_wp2
  first|go_end0|(refine bodyPost_ret (results_none rfl _ _ _) rfl ?_)
  exact⟨rfl,HB1.o,HC1.o⟩
 .have HB0:=qh (HB.o.a0u true)
  go_enter func363,ntmps363
  go_wp2_with fail
  refine (d8x b ⟨tx,true,true,cp,wd⟩ t _ HB0.o hc hl ht).mono ?_;rintro e w1 ⟨rfl,hb1,hc1⟩;have HB1:=qh hb1;have HC1:=qh ((Chg.put (Chg.refl _ w) (.bool true)).trans hc1);obtain⟨⟨_,_,c2,_,c4⟩,⟨_,_,_,_,g4⟩,hl1⟩:=hb1;clear hc1 a0 a1 a2 a3 a4 f0 f1 f2 f3 f4;have c2':w1.cell? ⟨b,2,none⟩=some (.bool true):=c2;clear c2;go_wp2
  first|go_end0|(refine bodyPost_ret (results_none rfl _ _ _) rfl ?_)
  exact⟨rfl,HB1.o.word wd,HC1.o.put _⟩
end Go.Proofs.YtggfdnopminemaaGreatDoor
