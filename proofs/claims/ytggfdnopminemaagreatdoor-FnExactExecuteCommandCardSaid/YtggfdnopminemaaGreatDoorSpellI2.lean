/- Walks: an outline begins with another one; the outlines of which one is a proper prefix of the other one (reference, program). -/
import Derived.Test.YtggfdnopminemaaGreatDoorZt
import Derived.Test.YtggfdnopminemaaGreatDoorOuts
import Derived.Test.YtggfdnopminemaaGreatDoorIns1
namespace Go.Proofs.YtggfdnopminemaaGreatDoor
namespace P
def begins (o p:List Int):Bool:=decide (p.length≤o.length)&&decide (o.take p.length=p)
end P
open Go Go.RowKit
set_option maxHeartbeats 2000000
set_option maxRecDepth 100000
theorem IntR.take {v:World} {ad:Option Addr} {cap k:Nat} {l:List Int} (h:IntR v (.slice ad l.length cap) l) (hk:k≤l.length):IntR v (.slice ad k cap) (l.take k):=by
 obtain⟨ad',cap',he,h1,hn,h3⟩:=h;injection he with e1 e2 e3;subst e1 e3;have hlk:(l.take k).length=k:=by rw [List.length_take];omega
 refine⟨ad,cap,by rw [hlk],by omega,hn,?_⟩
 rcases h3 with h3|⟨g,o,h4,h5,h6⟩
 ·left;rw [h3];simp
 ·refine .inr ⟨g,o,h4,h5,fun j hj=>?_⟩;have hj':j<l.length:=by omega
  rw [List.getElem_take];exact h6 j hj'
namespace P
theorem b5a (n k:Nat):n / 2^k % 2=if n.testBit k then 1 else 0:=by
 rw [Nat.testBit_eq_decide_div_mod_eq]
 by_cases h:n / 2^k % 2=1
 ·rw [h];simp
 ·have:n / 2^k % 2=0:=by omega
  rw [this];simp
theorem c8z {n k:Nat} (h:n.testBit k=false):n ||| 2^k=n+2^k:=by
 have hm:n / 2^k % 2=0:=by rw [b5a,h];rfl
 have e:n=2^k*(2*(n / 2^k / 2))+n % 2^k:=by
  have h1:=Nat.div_add_mod n (2^k);have h2:2*(n / 2^k / 2)=n / 2^k:=by omega
  rw [h2];exact h1.symm
 have hb:n % 2^k<2^k:=Nat.mod_lt _ (Nat.two_pow_pos k);have h3:n=2^k*(2*(n / 2^k / 2)) ||| n % 2^k:=by rw [←Nat.two_pow_add_eq_or_of_lt hb];exact e
 have h4:2^k*(2*(n / 2^k / 2)) ||| 2^k=2^k*(2*(n / 2^k / 2)+1):=by
  have:2^k*(2*(n / 2^k / 2)) ||| 2^k=2^k*(2*(n / 2^k / 2) ||| 1):=by
   apply Nat.eq_of_testBit_eq;intro i;rw [Nat.testBit_or,Nat.testBit_two_pow_mul,Nat.testBit_two_pow_mul,Nat.testBit_or,Nat.testBit_two_pow]
   by_cases hi:k≤i
   ·rw [decide_eq_true hi,Bool.true_and,Bool.true_and]
    congr 1
    have:Nat.testBit 1 (i-k)=decide (i-k=0):=by
     rw [show (1:Nat)=2^0 from rfl,Nat.testBit_two_pow];exact decide_eq_decide.2 ⟨fun h=>h.symm,fun h=>h.symm⟩
    rw [this];exact decide_eq_decide.2 oZ
   ·rw [decide_eq_false hi,Bool.false_and,Bool.false_and,Bool.false_or];exact decide_eq_false oZ
  rw [this]
  congr 1
  have h5:=Nat.two_pow_add_eq_or_of_lt (i:=1) (b:=1) dZ (n / 2^k / 2)
  simpa using h5.symm
 calc n ||| 2^k=(2^k*(2*(n / 2^k / 2)) ||| n % 2^k) ||| 2^k:=by rw [←h3]
  _=(2^k*(2*(n / 2^k / 2)) ||| 2^k) ||| n % 2^k:=by rw [Nat.or_assoc,Nat.or_comm (n % 2^k),←Nat.or_assoc]
  _=2^k*(2*(n / 2^k / 2)+1) ||| n % 2^k:=by rw [h4]
  _=2^k*(2*(n / 2^k / 2)+1)+n % 2^k:=(Nat.two_pow_add_eq_or_of_lt hb _).symm
  _=n+2^k:=by rw [Nat.mul_add,Nat.mul_one];omega
end P
theorem c8v (s:Str) (w:World) (hs:s.length≤maxLen) :
 Calls Tryz.prog 272 #[.string (S s)] w fun e w'=>e=.returned (.bool (s.all P.lower))∧w=w':=by
 unfold maxLen at hs
 go_enter Tryz.func272,Tryz.ntmps272
 go_wp2
 go_loop [3,6] (fun _ i=>∃k:Nat,k≤s.length∧i=.int .i64 k∧(s.take k).all P.lower=true) (fun _ i=>s.length-(intOf i).toNat)
 case atStart=>exact⟨0,by omega,rfl,by simp⟩
 case round=>
  obtain⟨k,hk,rfl,ha⟩:=hrel;have HA:=qh ha;clear ha
  by_cases hlt:k<s.length
  ·rcases Int.lt_or_le (s[k].toNat:Int) 97 with h1|h1
   ·have H:=qh h1;go_wp2;go_ret;exact⟨a0a (P.all_false hlt (P.a4z (.inl H.o))).symm,rfl⟩
   ·rcases Int.lt_or_le 122 (s[k].toNat:Int) with h2|h2
    ·have H:=qh h2;go_wp2;go_ret;exact⟨a0a (P.all_false hlt (P.a4z (.inr H.o))).symm,rfl⟩
    ·have HL:=qh (P.b0w h1 h2);go_wp2;exact d7r
  ·have HT:=qh (show s.all P.lower=true by rw [←List.take_of_length_le (l:=s) (i:=k) oZ];exact HA.o);go_wp2;go_ret;exact⟨a0a HT.o.symm,rfl⟩
theorem b3q (n:Int) (h0:0≤n) (h1:n<2^40):IntKind.i64.wrap n=n:=by rw [IntKind.wrap_i64];omega
theorem pow_k {k:Nat} (hk:k≤22):1≤2^k∧2^k≤4194304:=⟨Nat.two_pow_pos k,Nat.pow_le_pow_right dZ hk⟩
theorem shl_k {k:Nat} (hk:k≤22):wrap64 (2^k)=((2^k:Nat):Int):=by
 have h:=pow_k hk;have e:((2:Int)^k)=((2^k:Nat):Int):=by simp
 rw [e];unfold wrap64;omega
theorem and_one {m k:Nat} (hm:m<2^23):bits .and .i64 ((m:Int) / 2^k) 1=if m.testBit k then 1 else 0:=by
 have e:((m:Int) / 2^k)=((m / 2^k:Nat):Int):=by simp
 have hd:m / 2^k<2^40:=by have:=Nat.div_le_self m (2^k);omega
 have h:=(bits_nat .i64 40 dZ b3q (m / 2^k) 1 hd dZ).1;rw [e];have h':bits .and .i64 ((m / 2^k:Nat):Int) 1=((m / 2^k &&& 1:Nat):Int):=h;rw [h',Nat.and_one_is_mod,P.b5a]
 split<;>rfl
theorem d4m {m k:Nat} (hm:m<2^23) (hk:k≤22) (h:m.testBit k=false):bits .or .i64 (m:Int) ((2^k:Nat):Int)=(m:Int)+((2^k:Nat):Int):=by
 have hp:=pow_k hk;rw [(bits_nat .i64 40 dZ b3q m (2^k) oZ oZ).2,P.c8z h];simp
namespace P
theorem d9a (b:UInt8):decide (0≤Go.Lib.indexByte [97,101,105,111,117] b)=vow b:=by
 by_cases hm:b∈([97,101,105,111,117]:List UInt8)
 ·rw [decide_eq_true (d1q hm)];simp only [List.mem_cons,List.not_mem_nil,or_false]at hm
  rcases hm with rfl|rfl|rfl|rfl|rfl<;>decide
 ·rw [c9z (fun x hx e=>hm (by rw [←e];exact hx))];simp only [List.mem_cons,List.not_mem_nil,or_false,not_or]at hm;obtain⟨a1,a2,a3,a4,a5⟩:=hm;simp [vow,a1,a2,a3,a4,a5]
end P
theorem c9v (s:Str) (w:World) (hs:s.length≤2^40) :
 Calls Tryz.prog 214 #[.string (S s)] w fun e w'=>e=.returned (.bool (P.isWord s))∧w=w':=by
 have HW:=qh (show P.isWord s=(s.all P.lower&&decide (1≤(s.length:Int)∧(s.length:Int)≤24)) from rfl)
 have HM:=qh (show s.length≤maxLen by unfold maxLen;omega)
 obtain⟨q,hq⟩:∃q,decide (1≤(s.length:Int)∧(s.length:Int)≤24)=q:=⟨_,rfl⟩
 rw [hq]at HW
 cases q
 ·go_enter Tryz.func214,Tryz.ntmps214
  go_wp2_with (go_at_call 74;refine (a2a _ _ _ _).mono ?_;rintro e w' ⟨rfl,rfl⟩)
  go_ret;exact⟨a0a (by rw [HW.o];simp),rfl⟩
 ·go_enter Tryz.func214,Tryz.ntmps214
  go_wp2_with fail
  refine (a2a _ _ _ _).mono ?_;rintro e w1 ⟨rfl,rfl⟩;rw [hq];clear hq
  go_wp2_with fail
  refine (c8v s _ HM.o).mono ?_;rintro e w1 ⟨rfl,rfl⟩;go_wp2;go_ret;exact⟨a0a (by rw [HW.o];simp),rfl⟩
theorem idxVow (b:UInt8) (w:World) :
 Calls Tryz.prog 307 #[.string (S [97,101,105,111,117]),.int .u8 b.toNat] w fun e w'=>e=.returned (.int .i64 (Lib.indexByte [97,101,105,111,117] b))∧w=w':=by
 refine (Tryz.strings_IndexByte (S [97,101,105,111,117]) b.toNat w).mono ?_
 rintro e w' ⟨rfl,rfl⟩
 refine⟨?_,rfl⟩
 rw [S_dataList]
 simp
theorem a7l (b:UInt8) (w:World) :
 Calls Tryz.prog 273 #[.int .u8 b.toNat] w fun e w'=>e=.returned (.bool (P.vow b))∧w=w':=by
 go_enter Tryz.func273,Tryz.ntmps273
 go_wp2_with (go_at_call 307;refine (idxVow _ _).mono ?_;rintro e w' ⟨rfl,rfl⟩)
 go_ret
 exact⟨a0a (P.d9a b),rfl⟩
theorem c4i (s:Str) (w:World) (hs:s.length≤2^30) :
 Calls Tryz.prog 275 #[.string (S s)] w fun e w'=>e=.returned (.int .i64 (P.a1g s))∧w=w':=by
 go_enter Tryz.func275,Tryz.ntmps275
 go_wp2
 go_loop [3,4,7] (fun n _ i=>∃k:Nat,k≤s.length∧i=.int .i64 k∧n=.int .i64 (P.a2f s k)) (fun _ _ i=>s.length-(intOf i).toNat)
 case atStart=>exact⟨0,Nat.zero_le _,rfl,rfl⟩
 case round=>
  obtain⟨k,hk,rfl,rfl⟩:=hrel;have hg:=P.a9l s k
  by_cases hlt:k<s.length
  ·have i1:(k:Int)<(s.length:Int):=by omega
   have HY:=qh (P.b2b (s:=s) (k:=k));have HN:=qh (P.b4a (s:=s) (k:=k));generalize P.a2f s k=gn at *
   rcases k with _|m
   ·rw [P.b9j hlt]at HY HN;obtain⟨q,hq⟩:∃q,P.vow (s[0]'hlt)=q:=⟨_,rfl⟩;rw [hq]at HY HN
    cases q
    ·have HZ:=qh (HN.o rfl);clear HY HN
     go_wp2_with (go_at_call 273;refine (a7l _ _).mono ?_;rintro e w' ⟨rfl,rfl⟩)
     exact zq152
    ·have HZ:=qh (HY.o rfl);clear HY HN
     go_wp2_with (go_at_call 273;refine (a7l _ _).mono ?_;rintro e w' ⟨rfl,rfl⟩)
     exact zq148
   ·rw [P.c0y hlt]at HY HN;have hm:m<s.length:=by omega
    have i2:(((m+1:Nat):Int)==0)=false:=by rw [beq_eq_false_iff_ne];omega
    have i3:((m+1:Nat):Int)-1=(m:Int):=by omega
    obtain⟨q,hq⟩:∃q,P.vow (s[m+1]'hlt)=q:=⟨_,rfl⟩;obtain⟨r,hr⟩:∃r,P.vow (s[m]'hm)=r:=⟨_,rfl⟩;rw [hq,hr]at HY HN
    cases q
    ·exact zq188
    ·cases r
     ·have HZ:=qh (HY.o rfl);clear HY HN
      go_wp2_with (go_at_call 273;refine (a7l _ _).mono ?_;rintro e w' ⟨rfl,rfl⟩)
      exact zq164
     ·exact zq188
  ·exact zq112
theorem c8s (s e:Str) (w:World) (hs:s.length≤2^40) :
 Calls Tryz.prog 317 #[.string (S s),.string (S e)] w fun e' w'=>e'=.returned (.bool (P.ends s e))∧w=w':=by
 refine (Tryz.strings_HasSuffix (S s) (S e) w (by rw [S_size];omega)).mono ?_
 rintro e' w' ⟨rfl,rfl⟩
 rw [S_dataList,S_dataList]
 exact⟨rfl,rfl⟩
theorem c6q (C:Nat) (s e:Str) (w:World) (hC:w.cell? ⟨C,0,none⟩=some (.string (S s))) (hs:s.length≤2^40) :
 Calls Tryz.prog 316 #[.string (S e),.pointer (some ⟨C,0,none⟩)] w fun e' w'=>e'=.returned (.bool (P.ends s e))∧w=w':=by
 go_enter Tryz.func316,Tryz.ntmps316
 go_wp2_with (go_at_call 317;refine (c8s _ _ _ hs).mono ?_;rintro e' w' ⟨rfl,rfl⟩)
 go_ret
 exact⟨rfl,rfl⟩
theorem d1k (g cap C:Nat) (s:Str) (l:List Str) (w:World) (hg:∀(j:Nat) (h:j<l.length),w.cell? ⟨g,j,none⟩=some (.string (S (l[j]'h)))) (hC:w.cell? ⟨C,0,none⟩=some (.string (S s))) (hs:s.length≤2^40) (hl:l.length≤100) :
 Calls Tryz.prog 350 #[.slice (some ⟨g,0,none⟩) l.length cap,.func (Fn.func 316) #[] #[.pointer (some ⟨C,0,none⟩)]] w fun e w'=>(∃i:Int,e=.returned (.int .i64 i)∧decide (0≤i)=l.any (P.ends s))∧w=w':=by
 have HG:=qh hg;have HC:=qh hC;have HS:=qh hs
 clear hg hC hs
 go_enter Tryz.func350,Tryz.ntmps350
 go_wp2
 go_loop [5,8] (fun _ i=>∃j:Nat,j≤l.length∧i=.int .i64 j∧(∀f∈l.take j,P.ends s f=false)) (fun _ i=>l.length-(intOf i).toNat)
 case atStart=>exact⟨0,Nat.zero_le _,rfl,(fun f h=>by simp at h)⟩
 case round=>
  obtain⟨j,hj,rfl,hn⟩:=hrel;have HN:=qh hn;clear hn
  by_cases hlt:j<l.length
  ·have c0:=HG.o j hlt
   have HHIT:=qh (show P.ends s l[j]=true→decide (0≤(j:Int))=l.any (P.ends s) from fun h=>by
    rw [decide_eq_true oZ];exact (List.any_eq_true.2 ⟨_,List.getElem_mem hlt,h⟩).symm)
   have HMISS:=qh (show P.ends s l[j]=false→∀f∈l.take (j+1),P.ends s f=false from fun h f hf=>by
    rw [a0f l j hlt,List.mem_append,List.mem_singleton]at hf
    rcases hf with hf|rfl
    ·exact HN.o f hf
    ·exact h)
   generalize l[j]=x at *;have i1:(j:Int)<(l.length:Int):=by omega
   obtain⟨b,hbv⟩:∃b,P.ends s x=b:=⟨_,rfl⟩;have HBV:=qh hbv;rw [hbv]at HHIT HMISS;clear hbv
   cases b
   ·have HQQ:=qh (HMISS.o rfl);clear HHIT HMISS
    go_wp2_with fail
    refine (c6q C s x _ HC.o HS.o).mono ?_;rintro e w1 ⟨rfl,rfl⟩;rw [HBV.o];go_wp2
    go_round
    case rel=>exact⟨j+1,by omega,by go_num,HQQ.o⟩
    case measure=>simp [intOf];omega
   ·have HPP:=qh (HHIT.o rfl);clear HHIT HMISS
    go_wp2_with fail
    refine (c6q C s x _ HC.o HS.o).mono ?_;rintro e w1 ⟨rfl,rfl⟩;rw [HBV.o];go_wp2;go_ret;exact⟨⟨_,rfl,HPP.o⟩,rfl⟩
  ·have HP:=qh (show decide (0≤(-1:Int))=l.any (P.ends s) by
    have h:=HN.o;rw [List.take_of_length_le oZ]at h;have h2:l.any (P.ends s)=false:=List.any_eq_false.2 fun f hf=>by rw [h f hf];decide
    rw [h2];rfl)
   go_wp2;go_ret;exact⟨⟨_,rfl,HP.o⟩,rfl⟩
theorem b9g (g cap C:Nat) (s:Str) (l:List Str) (w:World) (hg:∀(j:Nat) (h:j<l.length),w.cell? ⟨g,j,none⟩=some (.string (S (l[j]'h)))) (hC:w.cell? ⟨C,0,none⟩=some (.string (S s))) (hs:s.length≤2^40) (hl:l.length≤100) :
 Calls Tryz.prog 315 #[.slice (some ⟨g,0,none⟩) l.length cap,.func (Fn.func 316) #[] #[.pointer (some ⟨C,0,none⟩)]] w fun e w'=>e=.returned (.bool (l.any (P.ends s)))∧w=w':=by
 have HG:=qh hg;have HC:=qh hC
 clear hg hC
 go_enter Tryz.func315,Tryz.ntmps315
 go_wp2_with fail
 refine (d1k g cap C s l _ HG.o HC.o hs hl).mono ?_
 rintro e w1 ⟨⟨i,rfl,hi⟩,rfl⟩
 have HI:=qh hi
 clear hi
 go_wp2
 go_ret
 exact⟨a0a (by rw [←HI.o]),rfl⟩
theorem endsWith (g cap:Nat) (s:Str) (l:List Str) (w:World) (hgl:g<w.heap.size) (hg:∀(j:Nat) (h:j<l.length),w.cell? ⟨g,j,none⟩=some (.string (S (l[j]'h)))) (hs:s.length≤2^40) (hl:l.length≤100) :
 Calls Tryz.prog 274 #[.string (S s),.slice (some ⟨g,0,none⟩) l.length cap] w fun e w'=>e=.returned (.bool (l.any (P.ends s)))∧Below w.heap.size w w':=by
 have hb0:=(Below.refl w.heap.size w).alloc lZ (.cells #[.string (S s)] 9)
 have HB0:=qh hb0
 have HC:=qh (show (w.alloc (.cells #[.string (S s)] 9)).cell? ⟨w.heap.size,0,none⟩=some (.string (S s)) by go_simp)
 have HG:=qh (show ∀(j:Nat) (h:j<l.length),(w.alloc (.cells #[.string (S s)] 9)).cell? ⟨g,j,none⟩=some (.string (S (l[j]'h))) from fun j h=>(hb0.cell (p:=⟨g,j,none⟩) hgl).trans (hg j h))
 clear hg hb0
 go_enter Tryz.func274,Tryz.ntmps274
 go_wp2_with fail
 refine (b9g g cap w.heap.size s l _ HG.o HC.o hs hl).mono ?_
 rintro e w1 ⟨rfl,rfl⟩
 go_wp2
 go_ret
 exact⟨rfl,HB0.o⟩
section
set_option maxHeartbeats 400000
theorem Chg.drewN {F:Blk} {a w:World} (h:Chg F a w) (k:Nat):Chg F a (w.drewN k):=h.trans (Below.chg (below_drewN (Below.refl w.heap.size w) k) F)
end
theorem Chg.grown {v v':World} {row:Option Nat} (h:v.grownBy v' row):Chg (fun b=>row=some b) v v':=
 ⟨h.os,h.tape,h.output,h.size,fun b hb hf=>h.block b hb fun e=>hf e.symm⟩
theorem a0j {B:Nat} {e:TypeId} {z:Nat} {v v':World} {u:Value} {n:Nat} {xs:List Value} {X:Blk} (h:v.ownsRow B e z u n xs) (hc:Chg X v v') (hX:∀k,u.ownBlock=some k→¬X k):v'.ownsRow B e z u n xs:=by
 refine⟨h.1,h.2.imp id ?_⟩;rintro⟨g,cap,cur,e,hg,hh,r⟩;have hk:u.ownBlock=some g:=by rw [e];rfl
 exact⟨g,cap,cur,e,hg,(hc.block g (World.ownsRow.lt h g hk).2 (hX g hk)).trans hh,r⟩
theorem b0x (l:List Str) (v:World) (t:TypeId) (j:Nat) (h:j<l.length):(v.alloc (.cells (l.map fun s=>Value.string (S s)).toArray t)).cell? ⟨v.heap.size,j,none⟩=some (.string (S (l[j]'h))):=by
 rw [World.cell?_alloc_new];simp [h]
set_option maxHeartbeats 4000000
theorem any1 {f:Str→Bool} (a:Str):[a].any f=f a:=by simp
theorem any3 {f:Str→Bool} (a b c:Str):[a,b,c].any f=(f a||(f b||f c)):=by simp
theorem any5 {f:Str→Bool} (a b c d e:Str):[a,b,c,d,e].any f=(f a||(f b||(f c||(f d||f e)))):=by simp
theorem d3d (x y:Str) (w:World) (hx:x.length≤2^30) (hy:0<y.length) :
 Calls Tryz.prog 215 #[.string (S x),.string (S y)] w fun e w'=>e=.returned (.int .i64 (P.rule x y))∧Below w.heap.size w w':=by
 have hr:P.rule x y=(if (y==[115])&&P.a7m x then 1
  else if (y==[115])&&(P.ends x [115]||(P.ends x [120]||(P.ends x [122]||(P.ends x [99,104]||P.ends x [115,104])))) then 2
  else if (y==[105,110,103])&&P.ends x [105,101] then 3
  else if P.a7m x&&!(y.getD 0 0==105) then 4
  else if P.c0a x&&P.vow (y.getD 0 0) then 5
  else if decide (P.a1g x=1)&&(P.closed x&&P.vow (y.getD 0 0)) then 6 else 0):=rfl
 rw [P.getD_at hy]at hr
 obtain⟨y0,hy0⟩:∃v,(y[0]'hy==105)=v:=⟨_,rfl⟩
 have f0:(((y[0]'hy).toNat:Int)==105)=y0:=(a5x _ 105 dZ).trans hy0
 have f0':(((y[0]'hy).toNat:Int) != 105)=!y0:=by rw [←f0];rfl
 have h5:(P.c0a x&&P.vow (y[0]'hy))=(decide (2≤x.length)&&(P.ends x [101]&&(!P.ends x [101,101]&&(!P.ends x [111,101]&&(!P.ends x [121,101]&&P.vow (y[0]'hy)))))):=by
  exact zq135
 have h6:(decide (P.a1g x=1)&&(P.closed x&&P.vow (y[0]'hy)))=((decide (P.a1g x=1)&&P.closed x)&&P.vow (y[0]'hy)):=by
  cases decide (P.a1g x=1)<;>rfl
 rw [hy0,h5,h6]at hr
 have HR:=qh hr
 clear hr hy0 f0 h5 h6
 have hcy:P.a7m x=(decide (2≤x.length)&&(P.back x 1==121&&!P.vow (P.back x 2))):=rfl
 have hcl:P.closed x=(decide (3≤x.length)&&(!P.vow (P.back x 3)&&(P.vow (P.back x 2)&&(!P.vow (P.back x 1)&&!P.wxy (P.back x 1))))):=rfl
 have HCY:=qh hcy;have HCL:=qh hcl
 have HW3:=qh (fun h=>P.d5q (s:=x) h)
 clear hcy hcl
 go_enter Tryz.func215,Tryz.ntmps215
 go_upto_region 2 with (go_at_call 273;refine (a7l _ _).mono ?_;rintro e w' ⟨rfl,rfl⟩)
 go_cut [7] (fun c wx=>∃b,c=.bool b∧P.a7m x=b∧w=wx)
 case first=>
  by_cases h:2≤x.length
  ·obtain⟨n2,hn2⟩:∃n,n+2=x.length:=⟨x.length-2,by omega⟩;obtain⟨l1,b1⟩:=P.a5g (s:=x) (n:=n2+1) (k:=1) oZ oZ;obtain⟨l2,b2⟩:=P.a5g (s:=x) (n:=n2) (k:=2) oZ oZ;rw [b1,b2,decide_eq_true h]at HCY;have i1:(2:Int)≤(x.length:Int):=by omega
   have i2:(x.length:Int)-1=((n2+1:Nat):Int):=by omega
   have i3:(x.length:Int)-2=(n2:Int):=by omega
   obtain⟨q,hq⟩:∃q,(x[n2+1]'l1==121)=q:=⟨_,rfl⟩;have f0:(((x[n2+1]'l1).toNat:Int)==121)=q:=(a5x _ 121 dZ).trans hq;rw [hq]at HCY;clear b1 b2 hq hn2 h
   cases q
   ·exact zq153
   ·exact zq153
  ·have i1:¬(2:Int)≤(x.length:Int):=by omega
   go_wp2;go_meet;exact⟨_,rfl,by rw [HCY.o,decide_eq_false h];rfl,rfl⟩
 case rest=>
 obtain⟨cy,rfl,hcy,rfl⟩:=hcut
 rw [hcy]at HR
 clear HCY hcy
 go_upto_region 3 with fail
 go_cut [8] (fun c wx=>∃b,c=.bool b∧P.closed x=b∧Below w.heap.size w wx)
 case first=>
  by_cases h:3≤x.length
  ·obtain⟨n3,hn3⟩:∃n,n+3=x.length:=⟨x.length-3,by omega⟩;obtain⟨l1,b1⟩:=P.a5g (s:=x) (n:=n3+2) (k:=1) oZ oZ;obtain⟨l2,b2⟩:=P.a5g (s:=x) (n:=n3+1) (k:=2) oZ oZ;obtain⟨l3,b3⟩:=P.a5g (s:=x) (n:=n3) (k:=3) oZ oZ;have hw3:=HW3.o oZ;rw [b1]at hw3;rw [b1,b2,b3,decide_eq_true h,←hw3]at HCL;have i1:(3:Int)≤(x.length:Int):=by omega
   have i2:(x.length:Int)-1=((n3+2:Nat):Int):=by omega
   have i3:(x.length:Int)-2=((n3+1:Nat):Int):=by omega
   have i4:(x.length:Int)-3=(n3:Int):=by omega
   obtain⟨q1,hq1⟩:∃q,P.vow (x[n3+2]'l1)=q:=⟨_,rfl⟩;obtain⟨q2,hq2⟩:∃q,P.vow (x[n3+1]'l2)=q:=⟨_,rfl⟩;obtain⟨q3,hq3⟩:∃q,P.vow (x[n3]'l3)=q:=⟨_,rfl⟩;rw [hq1,hq2,hq3]at HCL;clear b1 b2 b3 hn3 h hw3
   cases q3 with
   |true=>
    exact zq93
   |false=>
   cases q2 with
   |false=>
    exact zq93
   |true=>
   cases q1 with
   |true=>
    exact zq93
   |false=>
    go_wp2_with (go_at_call 273;refine (a7l _ _).mono ?_;rintro e w' ⟨rfl,rfl⟩)
    refine (endsWith _ 3 x [[119],[120],[121]] _ sZ (b0x [[119],[120],[121]] _ _) oZ dZ).mono ?_;rintro e w1 ⟨rfl,hb⟩;have HB:=qh (((Below.refl w.heap.size w).alloc lZ _).trans (hb.mono sZ));clear hb;rw [any3];go_wp2;go_meet;exact⟨_,rfl,by rw [HCL.o];simp,HB.o⟩
  ·have i1:¬(3:Int)≤(x.length:Int):=by omega
   go_wp2;go_meet;exact⟨_,rfl,by rw [HCL.o,decide_eq_false h];rfl,Below.refl _ _⟩
 case rest=>
 obtain⟨cl,rfl,hcl,hb⟩:=hcut
 rw [hcl]at HR
 have HB0:=qh hb
 clear hb hcl HCL HW3
 generalize hww:wc=w0 at *
 clear hww
 go_upto_region 4 with fail
 go_cut [62] (fun c wx=>c=.bool ((y==[115])&&cy)∧Below w.heap.size w wx)
 case first=>
  cases g1:(y==[115]) with
  |false=>
   go_wp2;go_meet;exact⟨by simp [*],HB0.o⟩
  |true=>
   go_wp2;go_meet;exact⟨by simp [*],HB0.o⟩
 case rest=>
 obtain⟨rfl,hb⟩:=hcut
 have HB1:=qh hb
 clear hb HB0
 generalize hww:wc=w1 at *
 clear hww
 cases hc0:((y==[115])&&cy)
 rotate_left
 ·have HZ:=qh (show P.rule x y=1 by rw [HR.o,hc0];rfl);clear hc0;go_wp2;go_ret;exact⟨a1m (by rw [HZ.o];rfl),HB1.o⟩
 have N0:=qh hc0
 clear hc0
 go_upto_region 6 with fail
 go_cut [68] (fun c wx=>c=.bool ((y==[115])&&(P.ends x [115]||(P.ends x [120]||(P.ends x [122]||(P.ends x [99,104]||P.ends x [115,104])))))∧Below w.heap.size w wx)
 case first=>
  cases g1:(y==[115]) with
  |false=>
   go_wp2;go_meet;exact⟨by simp [*],HB1.o⟩
  |true=>
   go_wp2_with fail
   refine (endsWith _ 5 x [[115],[120],[122],[99,104],[115,104]] _ sZ (b0x [[115],[120],[122],[99,104],[115,104]] _ _) oZ dZ).mono ?_;rintro e v1 ⟨rfl,hb⟩;have Hv1:=qh (((HB1.o).alloc (HB1.o).size _).trans (hb.mono (by have h:=(HB1.o).size;simp;omega)));clear hb;rw [any5];go_wp2;go_meet;exact⟨by simp [*],Hv1.o⟩
 case rest=>
 obtain⟨rfl,hb⟩:=hcut
 have HB2:=qh hb
 clear hb HB1
 generalize hww:wc=w2 at *
 clear hww
 cases hc1:((y==[115])&&(P.ends x [115]||(P.ends x [120]||(P.ends x [122]||(P.ends x [99,104]||P.ends x [115,104])))))
 rotate_left
 ·have HZ:=qh (show P.rule x y=2 by rw [HR.o,N0.o,if_neg dZ,hc1];rfl);clear hc1;go_wp2;go_ret;exact⟨a1m (by rw [HZ.o];rfl),HB2.o⟩
 have N1:=qh hc1
 clear hc1
 go_upto_region 8 with fail
 go_cut [76] (fun c wx=>c=.bool ((y==[105,110,103])&&P.ends x [105,101])∧Below w.heap.size w wx)
 case first=>
  cases g1:(y==[105,110,103]) with
  |false=>
   go_wp2;go_meet;exact⟨by simp [*],HB2.o⟩
  |true=>
   go_wp2_with fail
   refine (endsWith _ 1 x [[105,101]] _ sZ (b0x [[105,101]] _ _) oZ dZ).mono ?_;rintro e v1 ⟨rfl,hb⟩;have Hv1:=qh (((HB2.o).alloc (HB2.o).size _).trans (hb.mono (by have h:=(HB2.o).size;simp;omega)));clear hb;rw [any1];go_wp2;go_meet;exact⟨by simp [*],Hv1.o⟩
 case rest=>
 obtain⟨rfl,hb⟩:=hcut
 have HB3:=qh hb
 clear hb HB2
 generalize hww:wc=w3 at *
 clear hww
 cases hc2:((y==[105,110,103])&&P.ends x [105,101])
 rotate_left
 ·have HZ:=qh (show P.rule x y=3 by rw [HR.o,N0.o,if_neg dZ,N1.o,if_neg dZ,hc2];rfl);clear hc2;go_wp2;go_ret;exact⟨a1m (by rw [HZ.o];rfl),HB3.o⟩
 have N2:=qh hc2
 clear hc2
 go_upto_region 10 with fail
 go_cut [84] (fun c wx=>c=.bool (cy&&!y0)∧Below w.heap.size w wx)
 case first=>
  cases cy with
  |false=>
   go_wp2;go_meet;exact⟨by simp [*],HB3.o⟩
  |true=>
   go_wp2;go_meet;exact⟨by simp [*],HB3.o⟩
 case rest=>
 obtain⟨rfl,hb⟩:=hcut
 have HB4:=qh hb
 clear hb HB3
 generalize hww:wc=w4 at *
 clear hww
 cases hc3:(cy&&!y0)
 rotate_left
 ·have HZ:=qh (show P.rule x y=4 by rw [HR.o,N0.o,if_neg dZ,N1.o,if_neg dZ,N2.o,if_neg dZ,hc3];rfl);clear hc3;go_wp2;go_ret;exact⟨a1m (by rw [HZ.o];rfl),HB4.o⟩
 have N3:=qh hc3
 clear hc3
 go_upto_region 12 with fail
 go_cut [91] (fun c wx=>c=.bool (decide (2≤x.length)&&(P.ends x [101]&&(!P.ends x [101,101]&&(!P.ends x [111,101]&&(!P.ends x [121,101]&&P.vow (y[0]'hy))))))∧Below w.heap.size w wx)
 case first=>
  by_cases g1:2≤x.length
  ·have g':(2:Int)≤(x.length:Int):=by omega
   have HG:=qh g1
   have HP5:=qh (show (decide (2≤x.length)&&(P.ends x [101]&&(!P.ends x [101,101]&&(!P.ends x [111,101]&&(!P.ends x [121,101]&&P.vow (y[0]'hy))))))=(P.ends x [101]&&(!(P.ends x [101,101]||(P.ends x [111,101]||P.ends x [121,101]))&&P.vow (y[0]'hy))) by
    rw [decide_eq_true HG.o]
    cases P.ends x [101]<;>cases P.ends x [101,101]<;>cases P.ends x [111,101]<;>cases P.ends x [121,101]<;>rfl)
   go_wp2_with fail
   refine (endsWith _ 1 x [[101]] _ sZ (b0x [[101]] _ _) oZ dZ).mono ?_;rintro e v1 ⟨rfl,hb⟩;have Hv1:=qh (((HB4.o).alloc (HB4.o).size _).trans (hb.mono (by have h:=(HB4.o).size;simp;omega)));clear hb;rw [any1]
   cases g2:P.ends x [101] with
   |false=>
    go_wp2;go_meet;exact⟨by rw [HP5.o];simp [*],Hv1.o⟩
   |true=>
    go_wp2_with fail
    refine (endsWith _ 3 x [[101,101],[111,101],[121,101]] _ sZ (b0x [[101,101],[111,101],[121,101]] _ _) oZ dZ).mono ?_;rintro e v2 ⟨rfl,hb⟩;have Hv2:=qh (((Hv1.o).alloc (Hv1.o).size _).trans (hb.mono (by have h:=(Hv1.o).size;simp;omega)));clear hb;rw [any3]
    cases g3:(P.ends x [101,101]||(P.ends x [111,101]||P.ends x [121,101])) with
    |true=>
     go_wp2;go_meet;exact⟨by rw [HP5.o];simp [*],Hv2.o⟩
    |false=>
     go_wp2;go_meet;exact⟨by rw [HP5.o];simp [*],Hv2.o⟩
  ·have g':¬(2:Int)≤(x.length:Int):=by omega
   go_wp2;go_meet;exact⟨by simp [*],HB4.o⟩
 case rest=>
 obtain⟨rfl,hb⟩:=hcut
 have HB5:=qh hb
 clear hb HB4
 generalize hww:wc=w5 at *
 clear hww
 cases hc4:(decide (2≤x.length)&&(P.ends x [101]&&(!P.ends x [101,101]&&(!P.ends x [111,101]&&(!P.ends x [121,101]&&P.vow (y[0]'hy))))))
 rotate_left
 ·have HZ:=qh (show P.rule x y=5 by rw [HR.o,N0.o,if_neg dZ,N1.o,if_neg dZ,N2.o,if_neg dZ,N3.o,if_neg dZ,hc4];rfl);clear hc4;go_wp2;go_ret;exact⟨a1m (by rw [HZ.o];rfl),HB5.o⟩
 have N4:=qh hc4
 clear hc4
 go_upto_region 14 with fail
 go_cut [108] (fun c wx=>c=.bool ((decide (P.a1g x=1)&&cl)&&P.vow (y[0]'hy))∧Below w.heap.size w wx)
 case first=>
  obtain⟨p,hp⟩:∃q,decide (P.a1g x=1)=q:=⟨_,rfl⟩;have f1:((P.a1g x:Int)==1)=p:=by rw [←hp,Bool.eq_iff_iff];simp;omega
  cases p with
  |false=>
   exact d8p
  |true=>
  cases cl with
  |false=>
   exact d8p
  |true=>
   exact d8p
 case rest=>
 obtain⟨rfl,hb⟩:=hcut
 have HB6:=qh hb
 clear hb HB5
 generalize hww:wc=w6 at *
 clear hww
 cases hc5:((decide (P.a1g x=1)&&cl)&&P.vow (y[0]'hy))
 rotate_left
 ·have HZ:=qh (show P.rule x y=6 by rw [HR.o,N0.o,if_neg dZ,N1.o,if_neg dZ,N2.o,if_neg dZ,N3.o,if_neg dZ,N4.o,if_neg dZ,hc5];rfl);clear hc5;go_wp2;go_ret;exact⟨a1m (by rw [HZ.o];rfl),HB6.o⟩
 have N5:=qh hc5
 clear hc5
 have HZ:=qh (show P.rule x y=0 by rw [HR.o,N0.o,if_neg dZ,N1.o,if_neg dZ,N2.o,if_neg dZ,N3.o,if_neg dZ,N4.o,if_neg dZ,N5.o];rfl)
 go_wp2
 go_ret
 exact⟨a1m (by rw [HZ.o];rfl),HB6.o⟩
end Go.Proofs.YtggfdnopminemaaGreatDoor
