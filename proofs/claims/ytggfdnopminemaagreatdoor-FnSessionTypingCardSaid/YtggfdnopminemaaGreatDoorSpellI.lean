/- Walks: an outline begins with another one; the outlines of which one is a proper prefix of the other one (reference, program). -/
import Derived.Test.YtggfdnopminemaaGreatDoorZt
import Derived.Test.YtggfdnopminemaaGreatDoorOuts
import Derived.Test.YtggfdnopminemaaGreatDoorIns1
set_option linter.all false
namespace Go.Proofs.YtggfdnopminemaaGreatDoor
namespace P
def begins (o p:List Int):Bool:=decide (p.length≤o.length)&&decide (o.take p.length=p)
end P
open Go Go.RowKit
set_option maxHeartbeats 8000000
set_option maxRecDepth 100000
theorem IntR.take {v:World} {ad:Option Addr} {cap k:Nat} {l:List Int} (h:IntR v (.slice ad l.length cap) l) (hk:k≤l.length):IntR v (.slice ad k cap) (l.take k):=by
 exact zq24
namespace P
theorem b3d (n k:Nat):n / 2^k % 2=if n.testBit k then 1 else 0:=by
 rw [Nat.testBit_eq_decide_div_mod_eq]
 by_cases h:n / 2^k % 2=1
 ·rw [h];simp
 ·have:n / 2^k % 2=0:=by omega
  rw [this];simp
theorem c4n {n k:Nat} (h:n.testBit k=false):n ||| 2^k=n+2^k:=by
 have hm:n / 2^k % 2=0:=by rw [b3d,h];rfl
 have e:n=2^k*(2*(n / 2^k / 2))+n % 2^k:=by
  have h1:=Nat.div_add_mod n (2^k);have h2:2*(n / 2^k / 2)=n / 2^k:=by omega
  rw [h2];exact h1.symm
 have hb:n % 2^k<2^k:=Nat.mod_lt _ (Nat.two_pow_pos k);have h3:n=2^k*(2*(n / 2^k / 2)) ||| n % 2^k:=by rw [←Nat.two_pow_add_eq_or_of_lt hb];exact e
 have h4:2^k*(2*(n / 2^k / 2)) ||| 2^k=2^k*(2*(n / 2^k / 2)+1):=by
  have:2^k*(2*(n / 2^k / 2)) ||| 2^k=2^k*(2*(n / 2^k / 2) ||| 1):=by
   apply Nat.eq_of_testBit_eq;intro i;rw [Nat.testBit_or,Nat.testBit_two_pow_mul,Nat.testBit_two_pow_mul,Nat.testBit_or,Nat.testBit_two_pow]
   by_cases hi:k≤i
   ·rw [decide_eq_true hi,Bool.true_and,Bool.true_and]
    congr 1
    have:Nat.testBit 1 (i-k)=decide (i-k=0):=by
     rw [show (1:Nat)=2^0 from rfl,Nat.testBit_two_pow];exact decide_eq_decide.2 ⟨fun h=>h.symm,fun h=>h.symm⟩
    rw [this];exact decide_eq_decide.2 oZ
   ·rw [decide_eq_false hi,Bool.false_and,Bool.false_and,Bool.false_or];exact decide_eq_false oZ
  rw [this]
  congr 1
  have h5:=Nat.two_pow_add_eq_or_of_lt (i:=1) (b:=1) dZ (n / 2^k / 2)
  simpa using h5.symm
 calc n ||| 2^k=(2^k*(2*(n / 2^k / 2)) ||| n % 2^k) ||| 2^k:=by rw [←h3]
  _=(2^k*(2*(n / 2^k / 2)) ||| 2^k) ||| n % 2^k:=by rw [Nat.or_assoc,Nat.or_comm (n % 2^k),←Nat.or_assoc]
  _=2^k*(2*(n / 2^k / 2)+1) ||| n % 2^k:=by rw [h4]
  _=2^k*(2*(n / 2^k / 2)+1)+n % 2^k:=(Nat.two_pow_add_eq_or_of_lt hb _).symm
  _=n+2^k:=by rw [Nat.mul_add,Nat.mul_one];omega
end P
theorem c4a (s:Str) (w:World) (hs:s.length≤maxLen) :
 Calls Tryz.prog 272 #[.string (S s)] w fun e w'=>e=.returned (.bool (s.all P.lower))∧w=w':=by
 unfold maxLen at hs
 go_enter Tryz.func272,Tryz.ntmps272
 go_wp2
 go_loop [3,6] (fun _ i=>∃k:Nat,k≤s.length∧i=.int .i64 k∧(s.take k).all P.lower=true) (fun _ i=>s.length-(intOf i).toNat)
 case atStart=>exact⟨0,by omega,rfl,by simp⟩
 case round=>
  obtain⟨k,hk,rfl,ha⟩:=hrel;have HA:=qh ha;clear ha
  by_cases hlt:k<s.length
  ·rcases Int.lt_or_le (s[k].toNat:Int) 97 with h1|h1
   ·have H:=qh h1;go_wp2;go_ret;exact⟨a0b (P.all_false hlt (P.b1e (.inl H.o))).symm,rfl⟩
   ·rcases Int.lt_or_le 122 (s[k].toNat:Int) with h2|h2
    ·have H:=qh h2;go_wp2;go_ret;exact⟨a0b (P.all_false hlt (P.b1e (.inr H.o))).symm,rfl⟩
    ·have HL:=qh (P.b6z h1 h2);exact zq76
  ·have HT:=qh (show s.all P.lower=true by rw [←List.take_of_length_le (l:=s) (i:=k) oZ];exact HA.o);go_wp2;go_ret;exact⟨a0b HT.o.symm,rfl⟩
theorem b2q (n:Int) (h0:0≤n) (h1:n<2^40):IntKind.i64.wrap n=n:=by rw [IntKind.wrap_i64];omega
theorem pow_k {k:Nat} (hk:k≤22):1≤2^k∧2^k≤4194304:=⟨Nat.two_pow_pos k,Nat.pow_le_pow_right dZ hk⟩
theorem shl_k {k:Nat} (hk:k≤22):wrap64 (2^k)=((2^k:Nat):Int):=by
 have h:=pow_k hk;have e:((2:Int)^k)=((2^k:Nat):Int):=by simp
 rw [e];unfold wrap64;omega
theorem and_one {m k:Nat} (hm:m<2^23):bits .and .i64 ((m:Int) / 2^k) 1=if m.testBit k then 1 else 0:=by
 have e:((m:Int) / 2^k)=((m / 2^k:Nat):Int):=by simp
 have hd:m / 2^k<2^40:=by have:=Nat.div_le_self m (2^k);omega
 have h:=(bits_nat .i64 40 dZ b2q (m / 2^k) 1 hd dZ).1;rw [e];have h':bits .and .i64 ((m / 2^k:Nat):Int) 1=((m / 2^k &&& 1:Nat):Int):=h;rw [h',Nat.and_one_is_mod,P.b3d]
 split<;>rfl
theorem d1v {m k:Nat} (hm:m<2^23) (hk:k≤22) (h:m.testBit k=false):bits .or .i64 (m:Int) ((2^k:Nat):Int)=(m:Int)+((2^k:Nat):Int):=by
 have hp:=pow_k hk;rw [(bits_nat .i64 40 dZ b2q m (2^k) oZ oZ).2,P.c4n h];simp
namespace P
theorem d3y (b:UInt8):decide (0≤Go.Lib.indexByte [97,101,105,111,117] b)=vow b:=by
 by_cases hm:b∈([97,101,105,111,117]:List UInt8)
 ·rw [decide_eq_true (c9n hm)];simp only [List.mem_cons,List.not_mem_nil,or_false]at hm
  rcases hm with rfl|rfl|rfl|rfl|rfl<;>decide
 ·rw [c9v (fun x hx e=>hm (by rw [←e];exact hx))];simp only [List.mem_cons,List.not_mem_nil,or_false,not_or]at hm;obtain⟨a1,a2,a3,a4,a5⟩:=hm;simp [vow,a1,a2,a3,a4,a5]
end P
theorem c9s (s:Str) (w:World) (hs:s.length≤2^40) :
 Calls Tryz.prog 214 #[.string (S s)] w fun e w'=>e=.returned (.bool (P.isWord s))∧w=w':=by
 have HW:=qh (show P.isWord s=(s.all P.lower&&decide (1≤(s.length:Int)∧(s.length:Int)≤24)) from rfl)
 have HM:=qh (show s.length≤maxLen by unfold maxLen;omega)
 obtain⟨q,hq⟩:∃q,decide (1≤(s.length:Int)∧(s.length:Int)≤24)=q:=⟨_,rfl⟩
 rw [hq]at HW
 cases q
 ·go_enter Tryz.func214,Tryz.ntmps214
  go_wp2_with (go_at_call 74;refine (a1k _ _ _ _).mono ?_;rintro e w' ⟨rfl,rfl⟩)
  go_ret;exact⟨a0b (by rw [HW.o];simp),rfl⟩
 ·go_enter Tryz.func214,Tryz.ntmps214
  go_wp2_with fail
  refine (a1k _ _ _ _).mono ?_;rintro e w1 ⟨rfl,rfl⟩;rw [hq];clear hq
  go_wp2_with fail
  refine (c4a s _ HM.o).mono ?_;rintro e w1 ⟨rfl,rfl⟩;go_wp2;go_ret;exact⟨a0b (by rw [HW.o];simp),rfl⟩
theorem idxVow (b:UInt8) (w:World) :
 Calls Tryz.prog 307 #[.string (S [97,101,105,111,117]),.int .u8 b.toNat] w fun e w'=>e=.returned (.int .i64 (Lib.indexByte [97,101,105,111,117] b))∧w=w':=by
 refine (Tryz.strings_IndexByte (S [97,101,105,111,117]) b.toNat w).mono ?_
 rintro e w' ⟨rfl,rfl⟩
 refine⟨?_,rfl⟩
 rw [S_dataList]
 simp
theorem a6s (b:UInt8) (w:World) :
 Calls Tryz.prog 273 #[.int .u8 b.toNat] w fun e w'=>e=.returned (.bool (P.vow b))∧w=w':=by
 go_enter Tryz.func273,Tryz.ntmps273
 go_wp2_with (go_at_call 307;refine (idxVow _ _).mono ?_;rintro e w' ⟨rfl,rfl⟩)
 go_ret
 exact⟨a0b (P.d3y b),rfl⟩
theorem b9i (s:Str) (w:World) (hs:s.length≤2^30) :
 Calls Tryz.prog 275 #[.string (S s)] w fun e w'=>e=.returned (.int .i64 (P.a3s s))∧w=w':=by
 go_enter Tryz.func275,Tryz.ntmps275
 go_wp2
 go_loop [3,4,7] (fun n _ i=>∃k:Nat,k≤s.length∧i=.int .i64 k∧n=.int .i64 (P.a2o s k)) (fun _ _ i=>s.length-(intOf i).toNat)
 case atStart=>exact⟨0,Nat.zero_le _,rfl,rfl⟩
 case round=>
  obtain⟨k,hk,rfl,rfl⟩:=hrel;have hg:=P.b2k s k
  by_cases hlt:k<s.length
  ·have i1:(k:Int)<(s.length:Int):=by omega
   have HY:=qh (P.b7u (s:=s) (k:=k));have HN:=qh (P.c0d (s:=s) (k:=k));generalize P.a2o s k=gn at *
   rcases k with _|m
   ·rw [P.c6a hlt]at HY HN;obtain⟨q,hq⟩:∃q,P.vow (s[0]'hlt)=q:=⟨_,rfl⟩;rw [hq]at HY HN
    cases q
    ·have HZ:=qh (HN.o rfl);clear HY HN
     go_wp2_with (go_at_call 273;refine (a6s _ _).mono ?_;rintro e w' ⟨rfl,rfl⟩)
     go_round
     case rel=>exact⟨1,by omega,by go_num,by rw [show (1:Nat)=0+1 from rfl,HZ.o]⟩
     case measure=>simp [intOf];omega
    ·have HZ:=qh (HY.o rfl);clear HY HN
     go_wp2_with (go_at_call 273;refine (a6s _ _).mono ?_;rintro e w' ⟨rfl,rfl⟩)
     go_round
     case rel=>exact⟨1,by omega,by go_num,by rw [show (1:Nat)=0+1 from rfl,HZ.o];go_num⟩
     case measure=>simp [intOf];omega
   ·rw [P.c9m hlt]at HY HN;have hm:m<s.length:=by omega
    have i2:(((m+1:Nat):Int)==0)=false:=by rw [beq_eq_false_iff_ne];omega
    have i3:((m+1:Nat):Int)-1=(m:Int):=by omega
    obtain⟨q,hq⟩:∃q,P.vow (s[m+1]'hlt)=q:=⟨_,rfl⟩;obtain⟨r,hr⟩:∃r,P.vow (s[m]'hm)=r:=⟨_,rfl⟩;rw [hq,hr]at HY HN
    cases q
    ·exact zq41
    ·cases r
     ·have HZ:=qh (HY.o rfl);clear HY HN
      go_wp2_with (go_at_call 273;refine (a6s _ _).mono ?_;rintro e w' ⟨rfl,rfl⟩)
      go_round
      case rel=>exact⟨m+1+1,by omega,by go_num,by rw [HZ.o];go_num⟩
      case measure=>simp [intOf];omega
     ·exact zq41
  ·have i1:¬(k:Int)<(s.length:Int):=by omega
   have HE:=qh (show P.a3s s=P.a2o s k by unfold P.a3s;rw [show s.length=k by omega]);go_wp2;go_ret;exact⟨a4c (by rw [HE.o]),rfl⟩
theorem c5f (s e:Str) (w:World) (hs:s.length≤2^40) :
 Calls Tryz.prog 317 #[.string (S s),.string (S e)] w fun e' w'=>e'=.returned (.bool (P.ends s e))∧w=w':=by
 refine (Tryz.strings_HasSuffix (S s) (S e) w (by rw [S_size];omega)).mono ?_
 rintro e' w' ⟨rfl,rfl⟩
 rw [S_dataList,S_dataList]
 exact⟨rfl,rfl⟩
theorem c3a (C:Nat) (s e:Str) (w:World) (hC:w.cell? ⟨C,0,none⟩=some (.string (S s))) (hs:s.length≤2^40) :
 Calls Tryz.prog 316 #[.string (S e),.pointer (some ⟨C,0,none⟩)] w fun e' w'=>e'=.returned (.bool (P.ends s e))∧w=w':=by
 go_enter Tryz.func316,Tryz.ntmps316
 go_wp2_with (go_at_call 317;refine (c5f _ _ _ hs).mono ?_;rintro e' w' ⟨rfl,rfl⟩)
 go_ret
 exact⟨rfl,rfl⟩
theorem c7l (g cap C:Nat) (s:Str) (l:List Str) (w:World) (hg:∀(j:Nat) (h:j<l.length),w.cell? ⟨g,j,none⟩=some (.string (S (l[j]'h)))) (hC:w.cell? ⟨C,0,none⟩=some (.string (S s))) (hs:s.length≤2^40) (hl:l.length≤100) :
 Calls Tryz.prog 350 #[.slice (some ⟨g,0,none⟩) l.length cap,.func (Fn.func 316) #[] #[.pointer (some ⟨C,0,none⟩)]] w fun e w'=>(∃i:Int,e=.returned (.int .i64 i)∧decide (0≤i)=l.any (P.ends s))∧w=w':=by
 have HG:=qh hg;have HC:=qh hC;have HS:=qh hs
 clear hg hC hs
 go_enter Tryz.func350,Tryz.ntmps350
 go_wp2
 go_loop [5,8] (fun _ i=>∃j:Nat,j≤l.length∧i=.int .i64 j∧(∀f∈l.take j,P.ends s f=false)) (fun _ i=>l.length-(intOf i).toNat)
 case atStart=>exact⟨0,Nat.zero_le _,rfl,(fun f h=>by simp at h)⟩
 case round=>
  obtain⟨j,hj,rfl,hn⟩:=hrel;have HN:=qh hn;clear hn
  by_cases hlt:j<l.length
  ·have c0:=HG.o j hlt
   have HHIT:=qh (show P.ends s l[j]=true→decide (0≤(j:Int))=l.any (P.ends s) from fun h=>by
    rw [decide_eq_true oZ];exact (List.any_eq_true.2 ⟨_,List.getElem_mem hlt,h⟩).symm)
   have HMISS:=qh (show P.ends s l[j]=false→∀f∈l.take (j+1),P.ends s f=false from fun h f hf=>by
    rw [a0h l j hlt,List.mem_append,List.mem_singleton]at hf
    rcases hf with hf|rfl
    ·exact HN.o f hf
    ·exact h)
   generalize l[j]=x at *;have i1:(j:Int)<(l.length:Int):=by omega
   obtain⟨b,hbv⟩:∃b,P.ends s x=b:=⟨_,rfl⟩;have HBV:=qh hbv;rw [hbv]at HHIT HMISS;clear hbv
   cases b
   ·have HQQ:=qh (HMISS.o rfl);clear HHIT HMISS
    go_wp2_with fail
    refine (c3a C s x _ HC.o HS.o).mono ?_;rintro e w1 ⟨rfl,rfl⟩;rw [HBV.o];go_wp2
    go_round
    case rel=>exact⟨j+1,by omega,by go_num,HQQ.o⟩
    case measure=>simp [intOf];omega
   ·have HPP:=qh (HHIT.o rfl);clear HHIT HMISS
    go_wp2_with fail
    refine (c3a C s x _ HC.o HS.o).mono ?_;rintro e w1 ⟨rfl,rfl⟩;rw [HBV.o];go_wp2;go_ret;exact⟨⟨_,rfl,HPP.o⟩,rfl⟩
  ·have HP:=qh (show decide (0≤(-1:Int))=l.any (P.ends s) by
    have h:=HN.o;rw [List.take_of_length_le oZ]at h;have h2:l.any (P.ends s)=false:=List.any_eq_false.2 fun f hf=>by rw [h f hf];decide
    rw [h2];rfl)
   go_wp2;go_ret;exact⟨⟨_,rfl,HP.o⟩,rfl⟩
theorem b7t (g cap C:Nat) (s:Str) (l:List Str) (w:World) (hg:∀(j:Nat) (h:j<l.length),w.cell? ⟨g,j,none⟩=some (.string (S (l[j]'h)))) (hC:w.cell? ⟨C,0,none⟩=some (.string (S s))) (hs:s.length≤2^40) (hl:l.length≤100) :
 Calls Tryz.prog 315 #[.slice (some ⟨g,0,none⟩) l.length cap,.func (Fn.func 316) #[] #[.pointer (some ⟨C,0,none⟩)]] w fun e w'=>e=.returned (.bool (l.any (P.ends s)))∧w=w':=by
 have HG:=qh hg;have HC:=qh hC
 clear hg hC
 go_enter Tryz.func315,Tryz.ntmps315
 go_wp2_with fail
 refine (c7l g cap C s l _ HG.o HC.o hs hl).mono ?_
 rintro e w1 ⟨⟨i,rfl,hi⟩,rfl⟩
 have HI:=qh hi
 clear hi
 go_wp2
 go_ret
 exact⟨a0b (by rw [←HI.o]),rfl⟩
theorem endsWith (g cap:Nat) (s:Str) (l:List Str) (w:World) (hgl:g<w.heap.size) (hg:∀(j:Nat) (h:j<l.length),w.cell? ⟨g,j,none⟩=some (.string (S (l[j]'h)))) (hs:s.length≤2^40) (hl:l.length≤100) :
 Calls Tryz.prog 274 #[.string (S s),.slice (some ⟨g,0,none⟩) l.length cap] w fun e w'=>e=.returned (.bool (l.any (P.ends s)))∧Below w.heap.size w w':=by
 have hb0:=(Below.refl w.heap.size w).alloc lZ (.cells #[.string (S s)] 9)
 have HB0:=qh hb0
 have HC:=qh (show (w.alloc (.cells #[.string (S s)] 9)).cell? ⟨w.heap.size,0,none⟩=some (.string (S s)) by go_simp)
 have HG:=qh (show ∀(j:Nat) (h:j<l.length),(w.alloc (.cells #[.string (S s)] 9)).cell? ⟨g,j,none⟩=some (.string (S (l[j]'h))) from fun j h=>(hb0.cell (p:=⟨g,j,none⟩) hgl).trans (hg j h))
 clear hg hb0
 go_enter Tryz.func274,Tryz.ntmps274
 go_wp2_with fail
 refine (b7t g cap w.heap.size s l _ HG.o HC.o hs hl).mono ?_
 rintro e w1 ⟨rfl,rfl⟩
 go_wp2
 go_ret
 exact⟨rfl,HB0.o⟩
end Go.Proofs.YtggfdnopminemaaGreatDoor
