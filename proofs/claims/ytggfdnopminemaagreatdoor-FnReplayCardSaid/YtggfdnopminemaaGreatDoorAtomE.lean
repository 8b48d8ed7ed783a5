/- Walks: word text. -/
import Derived.Test.YtggfdnopminemaaGreatDoorMemD
set_option linter.all false
namespace Go.Proofs.YtggfdnopminemaaGreatDoor
open Go.Proofs.Tryz
variable {k:Int} {G:Nat} {m t:Str} {b:UInt8} {v v':Go.World}
section
open Go Go.RowKit
set_option maxHeartbeats 8000000
set_option maxRecDepth 100000
theorem c3x {n:Nat} (hn:n<256) (h:b≠UInt8.ofNat n):((b.toNat:Int)==(n:Int))=false:=by
 rw [beq_eq_false_iff_ne];intro e;apply h;apply UInt8.toNat_inj.1;rw [UInt8.toNat_ofNat_of_lt' hn];omega
theorem a8j (h:((b.toNat:Int)<33\/126<(b.toNat:Int))\/b=123\/b=125\/b=94\/b=38\/b=35\/b=62):P.a2z b=false:=by
 cases hb:P.a2z b
 .rfl
 .exfalso
  obtain⟨h1,h2,a1,a2,a3,a4,a5,a6⟩:=P.a6j hb
  rcases h with h|h|h|h|h|h|h
  .omega
  all_goals contradiction
theorem e0v (h:33<=(b.toNat:Int)) (h2:(b.toNat:Int)<=126) (a1:b≠123) (a2:b≠125) (a3:b≠94) (a4:b≠38) (a5:b≠35) (a6:b≠62):P.a2z b=true:=by
 unfold P.a2z;simp [h,h2,a1,a2,a3,a4,a5,a6]
theorem a2v {s:Str} (k:Nat) (h:k<s.length) (hb:P.a2z s[k]=false):P.word s=false:=by
 unfold P.word;rw [b9p k h hb];rfl
theorem l5Word (s:Str) (w:World) (hs:s.length<=maxLen) :
 Cz 305 #[.string (S s)] w λe w'=>e=.returned (.bool (P.word s))/\w=w':=by
 unfold maxLen at hs
 go_enter func305,ntmps305
 go_wp2
 go_loop [3,4] (λi _=>∃k:Nat,k<=s.length/\i=.int .i64 k/\(s.take k).all P.a2z=true) (λi _=>s.length-(intOf i).toNat)
 case atStart=>exact⟨0,by omega,rfl,by simp⟩
 case round=>
  obtain⟨k,hk,rfl,ha⟩:=hrel;have HA:=qh ha;clear ha
  by_cases hlt:k<s.length
  .rcases Classical.em (((s[k].toNat:Int)<33\/126<(s[k].toNat:Int))) with h|h
   .have hd:decide (33<=(s[k].toNat:Int)/\(s[k].toNat:Int)<=126)=false:=by rw [decide_eq_false_iff_not];omega
    have H:=qh h;clear h
    go_wp2_with (go_at_call 187;refine (l1In _ _ _ _).mono ?_;rintro e w' ⟨rfl,rfl⟩)
    go_ret;exact⟨a0a (a2v k hlt (a8j (.inl H.o))).symm,rfl⟩
   .have h1:33<=(s[k].toNat:Int):=by omega
    have h2:(s[k].toNat:Int)<=126:=by omega
    clear h;have hd:decide (33<=(s[k].toNat:Int)/\(s[k].toNat:Int)<=126)=true:=by rw [decide_eq_true_iff];omega
    by_cases e0:s[k]=123
    .have f0:((s[k].toNat:Int)==123)=true:=by rw [e0];rfl
     have H:=qh e0;clear e0
     go_wp2_with (go_at_call 187;refine (l1In _ _ _ _).mono ?_;rintro e w' ⟨rfl,rfl⟩)
     go_ret;exact⟨a0a (a2v k hlt (a8j (.inr (.inl H.o)))).symm,rfl⟩
    have f0:((s[k].toNat:Int)==123)=false:=c3x (n:=123) oZ e0;have E0:=qh e0;clear e0
    by_cases e1:s[k]=125
    .have f1:((s[k].toNat:Int)==125)=true:=by rw [e1];rfl
     have H:=qh e1;clear e1
     go_wp2_with (go_at_call 187;refine (l1In _ _ _ _).mono ?_;rintro e w' ⟨rfl,rfl⟩)
     go_ret;exact⟨a0a (a2v k hlt (a8j (.inr (.inr (.inl H.o))))).symm,rfl⟩
    have f1:((s[k].toNat:Int)==125)=false:=c3x (n:=125) oZ e1;have E1:=qh e1;clear e1
    by_cases e2:s[k]=94
    .have f2:((s[k].toNat:Int)==94)=true:=by rw [e2];rfl
     have H:=qh e2;clear e2
     go_wp2_with (go_at_call 187;refine (l1In _ _ _ _).mono ?_;rintro e w' ⟨rfl,rfl⟩)
     go_ret;exact⟨a0a (a2v k hlt (a8j (.inr (.inr (.inr (.inl H.o)))))).symm,rfl⟩
    have f2:((s[k].toNat:Int)==94)=false:=c3x (n:=94) oZ e2;have E2:=qh e2;clear e2
    by_cases e3:s[k]=38
    .have f3:((s[k].toNat:Int)==38)=true:=by rw [e3];rfl
     have H:=qh e3;clear e3
     go_wp2_with (go_at_call 187;refine (l1In _ _ _ _).mono ?_;rintro e w' ⟨rfl,rfl⟩)
     go_ret;exact⟨a0a (a2v k hlt (a8j (.inr (.inr (.inr (.inr (.inl H.o))))))).symm,rfl⟩
    have f3:((s[k].toNat:Int)==38)=false:=c3x (n:=38) oZ e3;have E3:=qh e3;clear e3
    by_cases e4:s[k]=35
    .have f4:((s[k].toNat:Int)==35)=true:=by rw [e4];rfl
     have H:=qh e4;clear e4
     go_wp2_with (go_at_call 187;refine (l1In _ _ _ _).mono ?_;rintro e w' ⟨rfl,rfl⟩)
     go_ret;exact⟨a0a (a2v k hlt (a8j (.inr (.inr (.inr (.inr (.inr (.inl H.o)))))))).symm,rfl⟩
    have f4:((s[k].toNat:Int)==35)=false:=c3x (n:=35) oZ e4;have E4:=qh e4;clear e4
    by_cases e5:s[k]=62
    .have f5:((s[k].toNat:Int)==62)=true:=by rw [e5];rfl
     have H:=qh e5;clear e5
     go_wp2_with (go_at_call 187;refine (l1In _ _ _ _).mono ?_;rintro e w' ⟨rfl,rfl⟩)
     go_ret;exact⟨a0a (a2v k hlt (a8j (.inr (.inr (.inr (.inr (.inr (.inr H.o)))))))).symm,rfl⟩
    have f5:((s[k].toNat:Int)==62)=false:=c3x (n:=62) oZ e5;have E5:=qh e5;clear e5
    go_wp2_with (go_at_call 187;refine (l1In _ _ _ _).mono ?_;rintro e w' ⟨rfl,rfl⟩)
    go_round
    case rel=>exact⟨k+1,by omega,by go_num,a8d k hlt HA.o (e0v h1 h2 E0.o E1.o E2.o E3.o E4.o E5.o)⟩
    case measure=>exact zq
  .refine zm82 ?_;intro HT;go_wp2_with (go_at_call 187;refine (l1In _ _ _ _).mono ?_;rintro e w' ⟨rfl,rfl⟩);go_ret;exact⟨a0a (by rw [HT.o];simp),rfl⟩
abbrev a4z (k:Int) (t:Str):Value:=.agg #[.int .i64 k,.string (S t)]
theorem c5d (k:Int) (t:Str) (w:World) (ht:t.length<=maxLen) :
 Cz 253 #[a4z k t] w λe w'=>e=.returned (.bool (P.atom k t))/\Bl w w':=by
 by_cases h1:1<=k/\k<=5
 .have HF:=qh (show P.atom k t=P.word t by unfold P.atom;rw [if_pos h1]);have hk:k=1\/k=2\/k=3\/k=4\/k=5:=by omega
  rcases hk with rfl|rfl|rfl|rfl|rfl
  all_goals
   clear h1
   go_enter func253,ntmps253
   go_wp2_with (go_at_call 305;refine (l5Word _ _ ht).mono ?_;rintro e w' ⟨rfl,rfl⟩)
   go_ret
   exact⟨a0a HF.o.symm,bZ.alloc lZ _⟩
 .by_cases h6:k=6
  .subst h6;exact zq147
  .by_cases h7:k=7
   .subst h7;exact zq147
   .by_cases h8:8<=k/\k<=10
    .have hk:k=8\/k=9\/k=10:=by omega
     rcases hk with rfl|rfl|rfl
     all_goals
      go_enter func253,ntmps253
      go_wp2
      all_goals
       go_ret
       exact⟨a0a (by simp [P.atom, *]),bZ.alloc lZ _⟩
    .have HF:=qh (show P.atom k t=false by unfold P.atom;rw [if_neg h1,if_neg h6,if_neg h7,decide_eq_false h8];rfl);have n1:¬k=1:=by omega
     have n2:¬k=2:=by omega
     have n3:¬k=3:=by omega
     have n4:¬k=4:=by omega
     have n5:¬k=5:=by omega
     have n8:¬k=8:=by omega
     have n9:¬k=9:=by omega
     have n10:¬k=10:=by omega
     clear h1 h8
     go_enter func253,ntmps253
     exact e3z
theorem c1t (k:Int) (t:Str) (w:World) (ht:t.length<=2^40) :
 Cz 254 #[a4z k t] w λe w'=>e=.returned (.string (S (P.note k t)))/\Bl w w':=by
 by_cases h1:k=1\/k=2\/k=3\/k=4\/k=5\/k=8\/k=9\/k=10
 .have f0:¬9223372036854775807<1+t.length:=by omega
  have f1:¬9223372036854775807<2+t.length:=by omega
  have f2:¬9223372036854775807<t.length+2:=by omega
  have f3:¬9223372036854775807<t.length+1+1:=by omega
  have f4:¬9223372036854775807<t.length+1+1+1:=by omega
  have f5:¬9223372036854775807<t.length+1+2:=by omega
  have f6:¬9223372036854775807<t.length+1+1+2:=by omega
  have f7:¬9223372036854775807<t.length+1:=by omega
  rcases h1 with rfl|rfl|rfl|rfl|rfl|rfl|rfl|rfl
  all_goals
   go_enter func254,ntmps254
   go_wp2
   go_ret
   exact⟨a1v (by simp [P.note]),bZ.alloc lZ _⟩
 .refine zm60 ?_;intro HF;have n1:¬k=1:=by omega
  have n2:¬k=2:=by omega
  have n3:¬k=3:=by omega
  have n4:¬k=4:=by omega
  have n5:¬k=5:=by omega
  have n8:¬k=8:=by omega
  have n9:¬k=9:=by omega
  have n10:¬k=10:=by omega
  have f0:¬9223372036854775807<1+t.length:=by omega
  have f3:¬9223372036854775807<t.length+1+1:=by omega
  have f7:¬9223372036854775807<t.length+1:=by omega
  clear h1;go_enter func254,ntmps254;go_wp2;go_ret;exact⟨a1v (by rw [HF.o]),bZ.alloc lZ _⟩
theorem d3i (b:UInt8) (w:World) :
 Cz 307 #[.string (S [123,125,94,38,35,62]),.int .u8 b.toNat] w λe w'=>e=.returned (.int .i64 (Lib.indexByte [123,125,94,38,35,62] b))/\w=w':=by
 refine (Tryz.strings_IndexByte (S [123,125,94,38,35,62]) b.toNat w).mono ?_
 rintro e w' ⟨rfl,rfl⟩
 refine⟨?_,rfl⟩
 rw [S_dataList]
 simp
theorem d2l (s:Str) (w:World) (hs:s.length<=maxLen) :
 Cz 361 #[.string (S s)] w λe w'=>e=.returned (.bool (P.word s))/\w=w':=by
 unfold maxLen at hs
 go_enter func361,ntmps361
 go_wp2
 go_loop [3,6] (λ_ i=>∃k:Nat,k<=s.length/\i=.int .i64 k/\(s.take k).all P.a2z=true) (λ_ i=>s.length-(intOf i).toNat)
 case atStart=>exact⟨0,by omega,rfl,by simp⟩
 case round=>
  obtain⟨k,hk,rfl,ha⟩:=hrel;have HA:=qh ha;clear ha
  by_cases hlt:k<s.length
  .rcases Int.lt_or_le (s[k].toNat:Int) 33 with h1|h1
   .have H:=qh h1;go_wp2;go_ret;exact⟨a0a (a2v k hlt (a8j (.inl (.inl H.o)))).symm,rfl⟩
   .rcases Int.lt_or_le 126 (s[k].toNat:Int) with h2|h2
    .have H:=qh h2;go_wp2;go_ret;exact⟨a0a (a2v k hlt (a8j (.inl (.inr H.o)))).symm,rfl⟩
    .have hw:=P.d8k s[k] oZ oZ
     cases hb:P.a2z s[k]
     .rw [hb]at hw;have h3:0<=Lib.indexByte [123,125,94,38,35,62] s[k]:=by simpa using hw
      have HB:=qh hb;clear hb hw
      go_wp2_with (go_at_call 307;refine (d3i _ _).mono ?_;rintro e w' ⟨rfl,rfl⟩)
      go_ret;exact⟨a0a (a2v k hlt HB.o).symm,rfl⟩
     .rw [hb]at hw;have h3:¬0<=Lib.indexByte [123,125,94,38,35,62] s[k]:=by simpa using hw
      have HB:=qh hb;clear hb hw
      go_wp2_with (go_at_call 307;refine (d3i _ _).mono ?_;rintro e w' ⟨rfl,rfl⟩)
      go_round
      case rel=>exact⟨k+1,by omega,by go_num,a8d k hlt HA.o HB.o⟩
      case measure=>exact zq
  .refine zm82 ?_;intro HT;go_wp2_with (go_at_call 74;refine (a1x _ _ _ _).mono ?_;rintro e w' ⟨rfl,rfl⟩);go_ret;exact⟨a0a (by rw [HT.o];simp),rfl⟩
theorem isValidAtom (k:Int) (t:Str) (w:World) (ht:t.length<=maxLen) :
 Cz 332 #[a4z k t] w λe w'=>e=.returned (.bool (P.atom k t))/\Bl w w':=by
 by_cases h1:1<=k/\k<=5
 .have HF:=qh (show P.atom k t=P.word t by unfold P.atom;rw [if_pos h1]);have hk:k=1\/k=2\/k=3\/k=4\/k=5:=by omega
  rcases hk with rfl|rfl|rfl|rfl|rfl
  all_goals
   clear h1
   go_enter func332,ntmps332
   go_wp2_with (go_at_call 361;refine (d2l _ _ ht).mono ?_;rintro e w' ⟨rfl,rfl⟩)
   go_ret
   exact⟨a0a HF.o.symm,bZ.alloc lZ _⟩
 .by_cases h67:k=6\/k=7
  .clear h1
   by_cases hl:t.length=1
   .have hone:∀x y z:UInt8,Go.Lib.contains [x,y,z] t=(t==[x]||(t==[y]||t==[z])):=λx y z=>P.one_of t x y z hl
    match t,hl with
    |[b],_=>
     have H6:=qh (hone 46 33 63);have H7:=qh (hone 44 59 58);clear hone
     rcases h67 with rfl|rfl
     .go_enter func332,ntmps332
      go_wp2_with (go_at_call 136;refine (contains_one [46,33,63] b _).mono ?_;rintro e w' ⟨rfl,rfl⟩)
      go_ret;exact⟨a0a (by rw [H6.o];rfl),bZ.alloc lZ _⟩
     .go_enter func332,ntmps332
      go_wp2_with (go_at_call 136;refine (contains_one [44,59,58] b _).mono ?_;rintro e w' ⟨rfl,rfl⟩)
      go_ret;exact⟨a0a (by rw [H7.o];rfl),bZ.alloc lZ _⟩
   .have hl':¬(t.length:Int)=1:=by omega
    have hne:∀x:UInt8,(t==[x])=false:=by
     intro x;rw [beq_eq_false_iff_ne];intro e;exact hl (by rw [e];rfl)
    rcases h67 with rfl|rfl
    .have HF:=qh (show P.atom 6 t=false by unfold P.atom;simp [hne]);clear hne
     go_enter func332,ntmps332
     exact e3z
    .have HF:=qh (show P.atom 7 t=false by unfold P.atom;simp [hne]);clear hne
     go_enter func332,ntmps332
     exact e3z
  .have HF:=qh (show P.atom k t=(decide (8<=k/\k<=10)&&t==[]) by unfold P.atom;rw [if_neg h1,if_neg oZ,if_neg oZ]);have n1:¬k=1:=by omega
   have n2:¬k=2:=by omega
   have n3:¬k=3:=by omega
   have n4:¬k=4:=by omega
   have n5:¬k=5:=by omega
   have n6:¬k=6:=by omega
   have n7:¬k=7:=by omega
   clear h1 h67
   cases hd:decide (8<=k/\k<=10)
   .rw [hd]at HF
    go_enter func332,ntmps332
    go_wp2_with (go_at_call 74;refine (a1x _ _ _ _).mono ?_;rintro e w' ⟨rfl,rfl⟩)
    go_ret;exact⟨a0a (by rw [HF.o];rfl),bZ.alloc lZ _⟩
   .rw [hd]at HF
    go_enter func332,ntmps332
    go_wp2_with (go_at_call 74;refine (a1x _ _ _ _).mono ?_;rintro e w' ⟨rfl,rfl⟩)
    all_goals
     go_ret
     exact⟨a0a (by rw [HF.o];cases t<;>rfl),bZ.alloc lZ _⟩
theorem d7h (k:Int) (t:Str) (w:World) (ht:t.length<=2^40) :
 Cz 333 #[a4z k t] w λe w'=>e=.returned (.string (S (P.note k t)))/\Bl w w':=by
 have f0:¬9223372036854775807<1+t.length:=by omega
 have f1:¬9223372036854775807<2+t.length:=by omega
 have f2:¬9223372036854775807<t.length+2:=by omega
 have f3:¬9223372036854775807<t.length+1+1:=by omega
 have f4:¬9223372036854775807<t.length+1+1+1:=by omega
 have f5:¬9223372036854775807<t.length+1+2:=by omega
 have f6:¬9223372036854775807<t.length+1+1+2:=by omega
 have f7:¬9223372036854775807<t.length+1:=by omega
 by_cases h1:k=1\/k=2\/k=3\/k=4\/k=5\/k=8\/k=9\/k=10
 .rcases h1 with rfl|rfl|rfl|rfl|rfl|rfl|rfl|rfl
  all_goals
   go_enter func333,ntmps333
   go_wp2
   go_ret
   exact⟨a1v (by simp [P.note]),bZ.alloc lZ _⟩
 .refine zm60 ?_;intro HF;have n1:¬k=1:=by omega
  have n2:¬k=2:=by omega
  have n3:¬k=3:=by omega
  have n4:¬k=4:=by omega
  have n5:¬k=5:=by omega
  have n8:¬k=8:=by omega
  have n9:¬k=9:=by omega
  have n10:¬k=10:=by omega
  clear h1;go_enter func333,ntmps333;go_wp2;go_ret;exact⟨a1v (by rw [HF.o]),bZ.alloc lZ _⟩
theorem b9k (k:Int) (t:Str) (w:World) (ht:t.length<=2^40) :
 Cz 286 #[a4z k t] w λe w'=>e=.returned (.tuple #[.string (S (P.fmtA k t).1),.bool (P.fmtA k t).2])/\Bl w w':=by
 cases h:P.atom k t
 .have HF:=qh (show P.fmtA k t=([],false) by unfold P.fmtA;rw [h];rfl)
  go_enter func286,ntmps286
  go_wp2_with fail
  refine (isValidAtom _ _ _ (by unfold maxLen;omega)).mono ?_;rintro e w1 ⟨rfl,hb⟩;rw [h];have HB:=qh hb;clear hb;go_wp2;exact e3j
 .have HF:=qh (show P.fmtA k t=(P.note k t,true) by unfold P.fmtA;rw [h];rfl)
  go_enter func286,ntmps286
  go_wp2_with fail
  refine (isValidAtom _ _ _ (by unfold maxLen;omega)).mono ?_;rintro e w1 ⟨rfl,hb⟩;rw [h];obtain⟨hcc,_⟩:=a6a hb;have hz:=c5a hb;have c0:w1.cell? ⟨w.heap.size,0,none⟩=some (.int .i64 k):=by rw [hcc _ _ sZ];go_simp
  have c1:w1.cell? ⟨w.heap.size,1,none⟩=some (.string (S t)):=by rw [hcc _ _ sZ];go_simp
  have HB:=qh hb;clear hb hcc
  go_wp2_with fail
  refine (d7h _ _ _ ht).mono ?_;rintro e w2 ⟨rfl,hb⟩;have HB2:=qh hb;clear hb;go_wp2;go_ret2;have h0:=((Below.refl w.heap.size w).alloc lZ _).trans (HB.o.mono sZ);exact⟨by rw [HF.o];rfl,h0.trans (HB2.o.mono h0.size)⟩
theorem c9l (s:Str) (w:World) (hs:s.length<=2^40) :
 Cz 285 #[.string (S s),.string (S [123,125,94,38])] w λe w'=>e=.returned (.string (S (Lib.trimS s [123,125,94,38])))/\Bl w w':=by
 have h:=Any.strings_Trim_laid Tryz.lays160 kZ (S s) (S [123,125,94,38]) w (by rw [S_size];omega) dZ
  (by rw [S_dataList];intro j b hb;match j,hb with|0,hb=>(simp at hb;subst hb;decide)|1,hb=>(simp at hb;subst hb;decide)|2,hb=>(simp at hb;subst hb;decide)|3,hb=>(simp at hb;subst hb;decide))
 rw [S_dataList,S_dataList]at h
 exact h
def BoxA (v:World) (G:Nat) (k:Int) (t:Str):Prop:=
 v.cell? ⟨G,0,none⟩=some (.int .i64 k)/\v.cell? ⟨G,1,none⟩=some (.string (S t))/\v.frozen? ⟨G,0,none⟩=false/\v.frozen? ⟨G,1,none⟩=false/\G<v.heap.size
theorem BoxA.below (h:BoxA v G k t) (hb:Bl v v'):BoxA v' G k t:=by
 obtain⟨a1,a2,b1,b2,hz⟩:=h;exact⟨(hb.cell (p:=⟨G,0,none⟩) hz).trans a1,(hb.cell (p:=⟨G,1,none⟩) hz).trans a2,(hb.frozen (p:=⟨G,0,none⟩) hz).trans b1,(hb.frozen (p:=⟨G,1,none⟩) hz).trans b2,Nat.lt_of_lt_of_le hz hb.size⟩
theorem BoxA.fresh (v:World) (k:Int) (t:Str) (u:TypeId):BoxA (v.alloc (.cells #[.int .i64 k,.string (S t)] u)) v.heap.size k t:=
 ⟨by go_simp,by go_simp,by go_simp,by go_simp,by simp⟩
def TwoA (v:World) (G:Nat) (k:Int) (t:Str):Prop:=
 v.cell? ⟨G,0,none⟩=some (.int .i64 k)/\v.cell? ⟨G,1,none⟩=some (.string (S t))/\v.cell? ⟨G,2,none⟩=some (.int .i64 k)/\v.cell? ⟨G,3,none⟩=some (.string (S []))/\G<v.heap.size
theorem TwoA.below (h:TwoA v G k t) (hb:Bl v v'):TwoA v' G k t:=by
 obtain⟨a1,a2,b1,b2,hz⟩:=h;exact⟨(hb.cell (p:=⟨G,0,none⟩) hz).trans a1,(hb.cell (p:=⟨G,1,none⟩) hz).trans a2,(hb.cell (p:=⟨G,2,none⟩) hz).trans b1,(hb.cell (p:=⟨G,3,none⟩) hz).trans b2,Nat.lt_of_lt_of_le hz hb.size⟩
theorem TwoA.fresh (v:World) (k:Int) (t:Str) (u:TypeId):TwoA (v.alloc (.cells #[.int .i64 k,.string (S t),.int .i64 k,.string (S [])] u)) v.heap.size k t:=
 ⟨by go_simp,by go_simp,by go_simp,by go_simp,by simp⟩
def c8c (s:Str) (w:World) (e:Ending) (w':World):Prop:=e=.returned (.tuple #[a4z (P.a0s s).1.1 (P.a0s s).1.2,.bool (P.a0s s).2])/\Bl w w'
theorem b0o (s:Str) (w:World) (hs:s.length<=2^30) :
 Cz 226 #[.string (S s)] w (c8c s w):=by
 have HTL:=qh (P.d8n s [123,125,94,38])
 have HM:=qh (λh=>P.d0z (s:=s) h)
 generalize htx:Lib.trimS s [123,125,94,38]=tx at *
 have htl:tx.length<=s.length:=HTL.o
 have HX:=qh htx;clear htx HTL
 by_cases h24:24<s.length
 .have HF:=qh (P.d1e h24);have h24':(24:Int)<(s.length:Int):=by omega
  go_enter func226,ntmps226
  go_wp2_with fail
  refine (c9l _ _ oZ).mono ?_;rintro e w1 ⟨rfl,hb⟩;have BR:=(BoxA.fresh w 0 [] 177).below hb;have HB:=qh (((Below.refl w.heap.size w).alloc lZ (.cells #[.int .i64 0,.string (S [])] 177)).trans (hb.mono sZ));clear hb;obtain⟨a1,a2,a3,a4,a5⟩:=BR;go_wp2;refine bodyPost_ret (v:=.tuple #[a4z 0 [],.bool false]) (by simp [results,results226,go_sem,a1,a2]) rfl ⟨by rw [HF.o],?_⟩;exact (HB.o.setCell lZ _).setCell lZ _
 .have h24':¬(24:Int)<(s.length:Int):=by omega
  go_enter func226,ntmps226
  go_wp2_with fail
  refine (c9l _ _ oZ).mono ?_;rintro e w1 ⟨rfl,hb⟩;rw [HX.o];have BR:=(BoxA.fresh w 0 [] 177).below hb;have HB:=((Below.refl w.heap.size w).alloc lZ (.cells #[.int .i64 0,.string (S [])] 177)).trans (hb.mono sZ);clear hb
  go_wp2_with fail
  go_loopw [5] (λi wr=>∃k:Int,1<=k/\k<=11/\i=.int .i64 k/\(∀k':Int,1<=k'->k'<k->P.fmtA k' tx≠(s,true)/\P.fmtA k' []≠(s,true))/\BoxA wr w.heap.size 0 []/\Bl w wr) (λi _=>(11-intOf i).toNat)
  case atStart=>exact⟨1,by decide,by decide,rfl,λk' h1 h2=>by omega,BR,HB⟩
  case round=>
   obtain⟨k,hk1,hk2,rfl,hbad,BR1,HB1⟩:=hrel;clear BR HB;have HBAD:=qh hbad;clear hbad
   by_cases hk:k<=10
   .have HBR:=qh BR1;have HBB:=qh HB1;clear BR1 HB1
    go_wp2_with fail
    have T0:=TwoA.fresh wr k tx 177;have R0:=HBR.o.below (bZ.alloc lZ (.cells #[.int .i64 k,.string (S tx),.int .i64 k,.string (S [])] 177));have B0:=HBB.o.alloc HBB.o.size (.cells #[.int .i64 k,.string (S tx),.int .i64 k,.string (S [])] 177)
    go_loopw [27] (λi wx=>∃j:Nat,j<=2/\i=.int .i64 j/\(0<j->P.fmtA k tx≠(s,true))/\(1<j->P.fmtA k []≠(s,true))/\TwoA wx wr.heap.size k tx/\BoxA wx w.heap.size 0 []/\Bl w wx) (λi _=>2-(intOf i).toNat)
    case atStart=>exact⟨0,by decide,rfl,λh=>absurd h dZ,λh=>absurd h dZ,T0,R0,B0⟩
    case round=>
     obtain⟨j,hj,rfl,hb0,hb1,T,R,B⟩:=hrel;clear T0 R0 B0;have hj3:j=0\/j=1\/j=2:=by omega
     rcases hj3 with rfl|rfl|rfl
     .have HTT:=qh T;have HRR:=qh R;have HBX:=qh B;have HNB:=qh hb0;obtain⟨t0,t1,t2,t3,t4⟩:=T;clear R B
      go_wp2_with fail
      refine (b9k k tx _ (by first|omega|decide)).mono ?_;rintro e v ⟨rfl,hb⟩;have R2:=(HRR.o.below (bZ.alloc lZ (.cells #[.int .i64 k,.string (S tx)] 177))).below hb;have T2:=(HTT.o.below (bZ.alloc lZ (.cells #[.int .i64 k,.string (S tx)] 177))).below hb;have A2:=(BoxA.fresh wr k tx 177).below hb;have hbw:Bl w v:=(HBX.o.alloc HBX.o.size _).trans (hb.mono (Nat.le_trans HBX.o.size sZ));have HV:=qh hbw;have HTV:=qh T2;have HRV:=qh R2;clear hb hbw T2 HTT HRR HBX t0 t1 t2 t3 t4;generalize hfm:P.fmtA k tx=fm at *;obtain⟨f,ok⟩:=fm;obtain⟨a1,a2,a3,a4,a5⟩:=R2;obtain⟨b1,b2,b3,b4,b5⟩:=A2
      cases ok
      .have NE:=qh (show P.fmtA k tx≠(s,true) by rw [hfm];intro e;injection e with _ e;cases e);clear hfm;exact zq152
      .by_cases hfs:f=s
       .subst hfs;have HF:=qh (P.c9r hfm);clear hfm;go_wp2;refine bodyPost_ret (v:=.tuple #[a4z k tx,.bool true]) (by simp [results,results226,go_sem,a1,a2]) rfl ⟨by rw [HF.o],?_⟩;exact (HV.o.setCell lZ _).setCell lZ _
       .have NE:=qh (show P.fmtA k tx≠(s,true) by rw [hfm];intro e;injection e with e;exact hfs e);clear hfm;have hfs':(f==s)=false:=beq_eq_false_iff_ne.2 hfs;exact zq152
     .have HTT:=qh T;have HRR:=qh R;have HBX:=qh B;have HNB:=qh hb0;obtain⟨t0,t1,t2,t3,t4⟩:=T;clear R B
      go_wp2_with fail
      refine (b9k k [] _ (by first|omega|decide)).mono ?_;rintro e v ⟨rfl,hb⟩;have R2:=(HRR.o.below (bZ.alloc lZ (.cells #[.int .i64 k,.string (S [])] 177))).below hb;have T2:=(HTT.o.below (bZ.alloc lZ (.cells #[.int .i64 k,.string (S [])] 177))).below hb;have A2:=(BoxA.fresh wr k [] 177).below hb;have hbw:Bl w v:=(HBX.o.alloc HBX.o.size _).trans (hb.mono (Nat.le_trans HBX.o.size sZ));have HV:=qh hbw;have HTV:=qh T2;have HRV:=qh R2;clear hb hbw T2 HTT HRR HBX t0 t1 t2 t3 t4;generalize hfm:P.fmtA k []=fm at *;obtain⟨f,ok⟩:=fm;obtain⟨a1,a2,a3,a4,a5⟩:=R2;obtain⟨b1,b2,b3,b4,b5⟩:=A2
      cases ok
      .have NE:=qh (show P.fmtA k []≠(s,true) by rw [hfm];intro e;injection e with _ e;cases e);clear hfm;exact zq153
      .by_cases hfs:f=s
       .subst hfs;have HF:=qh (P.c9r hfm);clear hfm;go_wp2;refine bodyPost_ret (v:=.tuple #[a4z k [],.bool true]) (by simp [results,results226,go_sem,a1,a2]) rfl ⟨by rw [HF.o],?_⟩;exact (HV.o.setCell lZ _).setCell lZ _
       .have NE:=qh (show P.fmtA k []≠(s,true) by rw [hfm];intro e;injection e with e;exact hfs e);clear hfm;have hfs':(f==s)=false:=beq_eq_false_iff_ne.2 hfs;exact zq153
     .have n0:=hb0 dZ;have n1:=hb1 dZ;have N0:=qh n0;have N1:=qh n1;clear hb0 hb1 n0 n1 T;go_wp2
      go_roundw
      case rel=>
       refine⟨k+1,by omega,by omega,rfl,λk' h1 h2=>?_,R,B⟩
       by_cases e:k'=k
       .subst e;exact⟨N0.o,N1.o⟩
       .exact HBAD.o k' h1 oZ
      case measure=>exact zq
   .have hk11:k=11:=by omega
    subst hk11;have HF:=qh (HM.o λk' h1 h2=>HBAD.o k' h1 oZ);obtain⟨a1,a2,a3,a4,a5⟩:=BR1;go_wp2;refine bodyPost_ret (v:=.tuple #[a4z 0 [],.bool false]) (by simp [results,results226,go_sem,a1,a2]) rfl ⟨by rw [HF.o],?_⟩;exact (HB1.setCell lZ _).setCell lZ _
theorem c6v (h:0<m.length) (c:UInt8):((m[0].toNat:Int)==(c.toNat:Int))=(m.head?==some c):=by
 cases m with
 |nil=>simp at h
 |cons a l=>rw [u8_eq];rfl
theorem d3o {j:Nat} (h:j<m.length) (hj:j=m.length-1) (c:UInt8):((m[j].toNat:Int)==(c.toNat:Int))=(m.getLast?==some c):=by
 subst hj;rw [u8_eq,List.getLast?_eq_getElem?,List.getElem?_eq_getElem h];rfl
def d8q (s:Str) (w:World) (e:Ending) (w':World):Prop:=e=.returned (a4z (P.kindOf s).1 (P.kindOf s).2)/\Bl w w'
theorem e2e (s:Str) (w:World) (hs:s.length<=2^40) :
 Cz 296 #[.string (S s)] w (d8q s w):=by
 by_cases h3:s.length<3
 .have HF:=qh (show P.kindOf s=(1,s) by unfold P.kindOf;rw [if_pos (by simp [h3])]);have h3':(s.length:Int)<3:=by omega
  exact zq85
 .have h3':¬(s.length:Int)<3:=by omega
  have hl0:0<s.length:=by omega
  have hl1:s.length-1<s.length:=by omega
  have e1:((s[0].toNat:Int)==123)=(s.head?==some 123):=c6v hl0 123;have e2:((s[s.length-1].toNat:Int)==125)=(s.getLast?==some 125):=d3o hl1 rfl 125
  cases hh:(s.head?==some 123)
  .have HF:=qh (show P.kindOf s=(1,s) by unfold P.kindOf;rw [hh];simp);rw [hh]at e1;have e1':¬(s[0].toNat:Int)=123:=by simpa using e1
   clear hh e2 e1;exact zq85
  .cases hg:(s.getLast?==some 125)
   .have HF:=qh (show P.kindOf s=(1,s) by unfold P.kindOf;rw [hg];simp);rw [hh]at e1;rw [hg]at e2;have e1':(s[0].toNat:Int)=123:=by simpa using e1
    have e2':¬(s[s.length-1].toNat:Int)=125:=by simpa using e2
    clear hh hg e1 e2;exact zq85
   .have HF:=qh (show P.kindOf s=P.inner (s.tail.take (s.length-1-1)) by
     unfold P.kindOf;rw [hg,hh,if_neg (by simp;omega),List.drop_one];rfl)
    have HML:=qh (show (s.tail.take (s.length-1-1)).length=s.length-2 by rw [List.length_take,List.length_tail];omega);rw [hh]at e1;rw [hg]at e2;have e1':(s[0].toNat:Int)=123:=by simpa using e1
    have e2':(s[s.length-1].toNat:Int)=125:=by simpa using e2
    clear hh hg e1 e2
    go_enter func296,ntmps296
    go_upto_region 5 with fail
    generalize hm:s.tail.take (s.length-1-1)=m at *;have hml:=HML.o;have HMM:=qh hm;clear hm e1' e2';have hm0:0<m.length:=by omega
    have hmu:m.length<=2^40:=by omega
    have hm1:m.length-1<m.length:=by omega
    have d1:((m[0].toNat:Int)==38)=(m.head?==some 38):=c6v hm0 38;have d2:((m[0].toNat:Int)==94)=(m.head?==some 94):=c6v hm0 94;have d3:((m[m.length-1].toNat:Int)==94)=(m.getLast?==some 94):=d3o hm1 rfl 94;clear hml HML;obtain⟨r,hr⟩:∃r,r=P.inner m:=⟨_,rfl⟩;rw [<-hr]at HF;have HR:=qh hr;clear hr;go_wp2
    all_goals
     refine bodyPost_ret (v:=a4z r.1 r.2) (by rw [HR.o];simp_all [P.inner,Nat.sub_sub,results,results296,go_sem]<;>(split<;>first|(exfalso;omega)|simp)) rfl ⟨by rw [HF.o],bZ.alloc lZ _⟩
end
section
namespace P
theorem d7q (m:List UInt8):(inner m).2.length<=m.length:=by
 unfold inner
 repeat' split
 all_goals first|exact Nat.zero_le _|exact Nat.le_refl _|(simp only [List.length_drop,List.length_take];omega)
theorem d0m (s:List UInt8):(kindOf s).2.length<=s.length:=by
 unfold kindOf
 split
 .exact Nat.le_refl _
 .refine Nat.le_trans (d7q _) ?_;rw [List.length_take,List.length_drop];omega
end P
open Go Go.RowKit
set_option maxHeartbeats 8000000
set_option maxRecDepth 100000
theorem b0v (s:Str) (w:World) (hs:s.length<=2^30) :
 Cz 240 #[.string (S s)] w (c8c s w):=by
 have hkl:=P.d0m s
 generalize hK:P.kindOf s=K at *
 obtain⟨k,t⟩:=K
 have htl:t.length<=s.length:=hkl
 clear hkl
 have htm:t.length<=maxLen:=by unfold maxLen;omega
 have HK:=qh hK
 have B0:Bl w (w.alloc (.cells #[.int .i64 0,.string (S [])] 177)):=bZ.alloc lZ _
 cases h1:P.atom k t
 .have HF:=qh (show P.a0s s=((0,[]),false) by unfold P.a0s;rw [hK];simp only;rw [h1,Bool.false_and,if_neg dZ]);clear hK
  go_enter func240,ntmps240
  go_wp2_with fail
  refine (e2e _ _ oZ).mono ?_;rintro e w1 ⟨rfl,hb⟩;rw [HK.o];have R1:=(BoxA.fresh w 0 [] 177).below hb;have HB:=B0.trans (hb.mono sZ);have R2:=R1.below (bZ.alloc lZ (.cells #[.int .i64 k,.string (S t)] 177));have HB2:=HB.alloc HB.size (.cells #[.int .i64 k,.string (S t)] 177);have HR2:=qh R2;have HHB:=qh HB2;clear hb HB HB2 R1 R2
  go_wp2_with fail
  refine (c5d _ _ _ htm).mono ?_;rintro e w2 ⟨rfl,hb⟩;rw [h1];have R3:=HR2.o.below hb;have HB3:=bt HHB hb;clear hb HR2 HHB;obtain⟨a1,a2,a3,a4,a5⟩:=R3;go_wp2;refine bodyPost_ret (v:=.tuple #[a4z 0 [],.bool false]) (by simp [results,results240,go_sem,a1,a2]) rfl ⟨by rw [HF.o],?_⟩;exact (HB3.o.setCell lZ _).setCell lZ _
 .obtain⟨f,hf⟩:∃f,P.note k t=f:=⟨_,rfl⟩;have HN:=qh hf
  have htn:(P.a0s s=if f==s then ((k,t),true) else ((0,[]),false)):=by
   unfold P.a0s;rw [hK];simp only;rw [h1,hf,Bool.true_and]
  have HP:=qh htn;clear hK hf htn
  go_enter func240,ntmps240
  go_wp2_with fail
  refine (e2e _ _ oZ).mono ?_;rintro e w1 ⟨rfl,hb⟩;rw [HK.o];have R1:=(BoxA.fresh w 0 [] 177).below hb;have HB:=B0.trans (hb.mono sZ);have R2:=R1.below (bZ.alloc lZ (.cells #[.int .i64 k,.string (S t)] 177));have A2:=BoxA.fresh w1 k t 177;have HB2:=HB.alloc HB.size (.cells #[.int .i64 k,.string (S t)] 177);have HR2:=qh R2;have HHB:=qh HB2;have HA2:=qh A2;clear hb HB HB2 R1 R2 A2
  go_wp2_with fail
  refine (c5d _ _ _ htm).mono ?_;rintro e w2 ⟨rfl,hb⟩;rw [h1];have HR3:=qh (HR2.o.below hb);have A3:=HA2.o.below hb;have HA3:=qh A3;have HB3:=bt HHB hb;clear hb HR2 HHB HA2;obtain⟨b1,b2,b3,b4,b5⟩:=A3
  go_wp2_with fail
  refine (c1t _ _ _ oZ).mono ?_;rintro e w3 ⟨rfl,hb⟩;rw [HN.o];have R4:=HR3.o.below hb;have A4:=HA3.o.below hb;have HB4:=bt HB3 hb;clear hb HR3 HA3 HB3 b1 b2 b3 b4 b5;obtain⟨a1,a2,a3,a4,a5⟩:=R4;obtain⟨b1,b2,b3,b4,b5⟩:=A4
  by_cases hfs:f=s
  .subst hfs;have HF:=qh (show P.a0s f=((k,t),true) by rw [HP.o];simp);go_wp2;refine bodyPost_ret (v:=.tuple #[a4z k t,.bool true]) (by simp [results,results240,go_sem,a1,a2]) rfl ⟨by rw [HF.o],?_⟩;exact (HB4.o.setCell lZ _).setCell lZ _
  .have hfs':(f==s)=false:=beq_eq_false_iff_ne.2 hfs;have HF:=qh (show P.a0s s=((0,[]),false) by rw [HP.o,hfs'];rfl);go_wp2;refine bodyPost_ret (v:=.tuple #[a4z 0 [],.bool false]) (by simp [results,results240,go_sem,a1,a2]) rfl ⟨by rw [HF.o],?_⟩;exact (HB4.o.setCell lZ _).setCell lZ _
end
end Go.Proofs.YtggfdnopminemaaGreatDoor
