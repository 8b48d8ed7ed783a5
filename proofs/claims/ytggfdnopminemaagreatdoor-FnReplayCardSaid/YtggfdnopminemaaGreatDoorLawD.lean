/- Walks: strokes and. -/
import Derived.Test.YtggfdnopminemaaGreatDoorCurD
set_option linter.all false
namespace Go.Proofs.YtggfdnopminemaaGreatDoor
open Go.Proofs.Tryz
open Go Go.RowKit
set_option maxHeartbeats 8000000
set_option maxRecDepth 100000
variable {R X:Blk} {l:List Int} {B C K K' b n z:Nat} {e:Go.TypeId} {u x:Go.Value} {v v' w:Go.World}
theorem Chg.grown {row:Option Nat} (h:v.grownBy v' row):Chg (λb=>row=some b) v v':=
 ⟨h.os,h.tape,h.output,h.size,λb hb hf=>h.block b hb λe=>hf e.symm⟩
theorem a1f {xs:List Value} (h:v.ownsRow B e z u n xs) (hc:Chg X v v') (hX:∀k,u.ownBlock=some k->¬X k):v'.ownsRow B e z u n xs:=by
 refine⟨h.1,h.2.imp id ?_⟩;rintro⟨g,cap,cur,e,hg,hh,r⟩;have hk:u.ownBlock=some g:=by rw [e];rfl
 exact⟨g,cap,cur,e,hg,(hc.block g (World.ownsRow.lt h g hk).2 (hX g hk)).trans hh,r⟩
theorem c3v {B':Nat} {xs:List Value} (h:v.ownsRow B e z u n xs) (hB:B'<=B):v.ownsRow B' e z u n xs:=
 ⟨h.1,h.2.imp id λ⟨g,cap,cur,e,hg,r⟩=>⟨g,cap,cur,e,Nat.le_trans hB hg,r⟩⟩
theorem b5w (l:List Int) (v:World) (t:TypeId) (j:Nat) (h:j<l.length):(v.alloc (.cells (l.map (Value.int .i64)).toArray t)).cell? ⟨v.heap.size,j,none⟩=some (.int .i64 (l[j]'h)):=by
 rw [World.cell?_alloc_new];simp [h]
theorem a1n (l:List Str) (v:World) (t:TypeId) (j:Nat) (h:j<l.length):(v.alloc (.cells (l.map λs=>Value.string (S s)).toArray t)).cell? ⟨v.heap.size,j,none⟩=some (.string (S (l[j]'h))):=by
 rw [World.cell?_alloc_new];simp [h]
def c0v (B C K:Nat) (w:World) (e:Ending) (w':World):Prop:=∃s:Int,e=.returned (.int .i64 s)/\a0e B C K w w'
theorem d7p (B C K:Nat) (w:World) (hK:K<2^38) (h:a1o B C K w) :
 Cz 117 #[.pointer (some ⟨C,0,none⟩)] w (c0v B C (K+2) w):=by
 refine zm89 ?_;intro hlt HC HL;clear h;go_enter func117,ntmps117;go_wp2_with fail;refine (b2h B C K w.heap.size 4 [524552,260,1048576,262144] _ oZ dZ dZ sZ oZ HL.o HC.o.1).mono ?_;rintro e w1 ⟨s,_,rfl,hc⟩;have H1:=qh (HC.o.trans hc);clear hc;go_wp2;go_ret;exact⟨s,rfl,H1.o⟩
theorem b9z (B C K:Nat) (w:World) (hK:K<2^38) (h:a1o B C K w) :
 Cz 251 #[.pointer (some ⟨C,0,none⟩)] w (c0v B C (K+12) w):=by
 have hlt:=h.lt
 have HC:=qh h
 clear h
 go_enter func251,ntmps251
 go_wp2_with fail
 refine (a9t B C K 2 _ oZ dZ HC.o).mono ?_
 rintro e w1 ⟨b,rfl,hc⟩
 have H1:=qh hc
 have hz1:w.heap.size<=w1.heap.size:=hc.2.size
 clear hc
 cases b
 .go_wp2_with fail
  refine (a0r B C (K+2) 4 _ oZ dZ H1.o.1).mono ?_;rintro e w2 ⟨x,hx,rfl,hc⟩;have hx4:x<4:=by omega
  have H2:=qh (H1.o.trans hc);clear hc hx
  go_wp2_with fail
  go_loopw [3,4] (λs n wr=>∃(y:Int) (k:Nat),k<=4/\s=.int .i64 y/\n=.int .i64 k/\a0e B C (K+12-2*k) w wr) (λ_ n _=>(intOf n).toNat)
  case atStart=>exact⟨0,x+1,by omega,rfl,by go_num,H2.o.mono oZ⟩
  case round=>
   obtain⟨y,k,hk,rfl,rfl,hc⟩:=hrel;have H3:=qh hc;clear hc
   by_cases hp:0<k
   .go_wp2_with fail
    refine (a0r B C (K+12-2*k) 23 _ oZ dZ H3.o.1).mono ?_;rintro e w3 ⟨z,hz,rfl,hc⟩;have hz23:z<23:=by omega
    have H4:=qh (H3.o.trans hc);clear hc hz;go_wp2
    go_roundw
    case rel=>exact⟨_,k-1,by omega,rfl,by go_num,H4.o.mono oZ⟩
    case measure=>exact zq
   .go_wp2;go_ret;exact⟨y,rfl,H3.o.mono oZ⟩
 .have HC2:=qh (H1.o.alloc (.cells #[.int .i64 524552,.int .i64 260,.int .i64 1048576,.int .i64 262144,.int .i64 4194304,.int .i64 514,.int .i64 8,.int .i64 2064,.int .i64 2097152] 3));have HL:=qh (b5w [524552,260,1048576,262144,4194304,514,8,2064,2097152] w1 3)
  go_wp2_with fail
  refine (b2h B C (K+2) w1.heap.size 9 [524552,260,1048576,262144,4194304,514,8,2064,2097152] _ oZ dZ dZ sZ oZ HL.o HC2.o.1).mono ?_;exact zq170
theorem c0i (B C K:Nat) (w:World) (hK:K<2^37) (h:a1o B C K w) :
 Cz 190 #[.pointer (some ⟨C,0,none⟩)] w (c0v B C (K+14) w):=by
 have hlt:=h.lt
 have HC:=qh h
 clear h
 go_enter func190,ntmps190
 go_wp2_with fail
 refine (a9t B C K 12 _ oZ dZ HC.o).mono ?_
 rintro e w1 ⟨b,rfl,hc⟩
 have H1:=qh hc
 have hz1:w.heap.size<=w1.heap.size:=hc.2.size
 clear hc
 cases b
 .go_wp2_with fail
  refine (b9z B C (K+2) _ oZ H1.o.1).mono ?_;rintro e w2 ⟨s,rfl,hc⟩;have H2:=qh (H1.o.trans hc);clear hc;go_wp2;go_ret;exact⟨s,rfl,H2.o.mono oZ⟩
 .have HC2:=qh (H1.o.alloc (.cells #[.int .i64 0,.int .i64 (-1),.int .i64 8388608,.int .i64 8388607,.int .i64 1,.int .i64 1099511627776] 3));have HL:=qh (b5w [0,-1,8388608,8388607,1,1099511627776] w1 3)
  go_wp2_with fail
  refine (b2h B C (K+2) w1.heap.size 6 [0,-1,8388608,8388607,1,1099511627776] _ oZ dZ dZ sZ oZ HL.o HC2.o.1).mono ?_;exact zq170
def c9u (B C K m:Nat) (w:World) (e:Ending) (w':World):Prop:=∃(l:List Int) (u:Value),e=.returned u/\l.length<=m/\w'.ownsRow w.heap.size 3 1 u l.length (ints l)/\a0e B C K w w'
def a6t (B C K:Nat) (w v:World) (u:Value) (l:List Int):Prop:=(∃a n c,u=.slice a n c)/\v.ownsRow w.heap.size 3 1 u l.length (ints l)/\a0e B C K w v
theorem a6t.cur (h:a6t B C K w v u l) (hw:C<w.heap.size) (hc:a0e B C K' v v'):a6t B C K' w v' u l:=
 ⟨h.1,a1f h.2.1 hc.2 λk hk e=>by have:=(World.ownsRow.lt h.2.1 k hk).1;omega,h.2.2.trans hc⟩
theorem a6t.app {m:Nat} {u':Value} {x:Int} (h:a6t B C K w v u l) (hw:a1o B C m w) (t:TypeId)
 (hown:v'.ownsRow w.heap.size 3 1 u' (l.length+1) (ints l++[.int .i64 x])) (hgr:(v.alloc (.cells #[.int .i64 x] t)).grownBy v' u.ownBlock):a6t B C K w v' u' (l++[x]):=by
 have hlt:=hw.lt
 refine⟨?_,by simpa [ints] using hown,?_⟩
 .rcases hown.2 with⟨rfl,_⟩|⟨g,cap,cur,rfl,_⟩
  .exact⟨_,_,_,rfl⟩
  .exact⟨_,_,_,rfl⟩
 .exact (h.2.2.alloc _).new (Chg.grown hgr) (λb hb=>(World.ownsRow.lt h.2.1 b hb).1) oZ oZ
theorem b1o (B C K:Nat) (w:World) (hK:K<2^37) (h:a1o B C K w) :
 Cz 189 #[.pointer (some ⟨C,0,none⟩)] w (c9u B C (K+60) 3 w):=by
 obtain⟨i0,hi,hz0,hz1,hz2⟩:=info_parts a2i
 have hlt:=h.lt
 have HC0:=qh h
 have HC:=qh ((a0e.refl h (Nat.le_refl K)).alloc (.cells #[] 3))
 have HOW:=qh (show (w.alloc (.cells #[] 3)).ownsRow w.heap.size 3 1 (.slice (some ⟨w.heap.size,0,none⟩) 0 0) 0 [] by have h:=World.ownsRow_lit (base:=w.heap.size) (e:=3) (size:=1) w #[] 0 lZ (Nat.zero_le _) sZ;simpa using h)
 clear h
 go_enter func189,ntmps189
 go_wp2_with fail
 refine (a0r B C K 3 _ oZ dZ HC.o.1).mono ?_
 rintro e w1 ⟨x,hx,rfl,hc⟩
 have hx3:x<3:=by omega
 have HR:Hq (a6t B C (K+2) w w1 (.slice (some ⟨w.heap.size,0,none⟩) 0 0) []):=⟨a6t.cur (K:=K) ⟨⟨_,_,_,rfl⟩,HOW.o,HC.o⟩ hlt.2 hc⟩
 clear hc hx
 go_wp2_with fail
 go_loopw [3,4] (λs n wr=>∃(l:List Int) (k:Nat),l.length+k<=3/\n=.int .i64 k/\a6t B C (K+50-14*k) w wr s l) (λ_ n _=>(intOf n).toNat)
 case atStart=>exact⟨[],x+1,by simp;omega,by go_num,HR.o.1,HR.o.2.1,HR.o.2.2.mono oZ⟩
 case round=>
  obtain⟨l,k,hk,rfl,hr⟩:=hrel;have H3:=qh hr;obtain⟨⟨ua,un,uc,rfl⟩,_⟩:=hr
  by_cases hp:0<k
  .go_wp2_with fail
   refine (a9t B C (K+50-14*k) 5 _ oZ dZ H3.o.2.2.1).mono ?_;rintro e w2 ⟨b,rfl,hc⟩;have H4:=qh (H3.o.cur hlt.2 hc);clear hc
   cases b
   all_goals
    go_wp2_with fail
    first
     |(refine (d7p B C (K+50-14*k+2) _ oZ H4.o.2.2.1).mono ?_)
     |(refine (b9z B C (K+50-14*k+2) _ oZ H4.o.2.2.1).mono ?_)
    rintro e w3 ⟨y,rfl,hc⟩
    have H5:=qh ((H4.o.cur hlt.2 hc))
    have HOW2:=qh (H5.o.2.1.alloc (.cells #[.int .i64 y] 3))
    have hz3:=H5.o.2.2.2.size
    have HZ3:=qh hz3
    clear hc hz3
    go_wp2_with (at_builtin;refine wpList_append_own _ rfl _ _ 33 rfl w.heap.size 3 i0 (.int .i64 0) 1 8 underlying33 hi hz0 hz1 hz2 rfl dZ (.slice ua un uc) l.length (ints l) rfl HOW2.o ⟨w3.heap.size,0,none⟩ 1 1 [.int .i64 y] rfl rfl ?_ ?_ ?_ ?_ ?_ ?_)
    all_goals first|exact⟨rfl,rfl⟩|(intro z hz;simp only [List.mem_cons,List.not_mem_nil,or_false]at hz;subst hz;rfl)|(unfold maxLen;omega)|omega|(have h1:=HZ3.o;simp;omega)|(intro i z hz;rcases i with _|i;(injection hz with hz;subst hz;rw [add0];go_simp);cases hz)|skip
    intro u4 w4 hown hgr _
    have H6:=qh (H5.o.app HC0.o 3 hown hgr)
    clear hown hgr
    go_wp2
    go_roundw
    case rel=>exact⟨_,k-1,by rw [List.length_append];simp;omega,by go_num,H6.o.1,H6.o.2.1,H6.o.2.2.mono oZ⟩
    case measure=>exact zq
  .go_wp2;go_ret;exact⟨l,_,rfl,by omega,H3.o.2.1,H3.o.2.2.mono oZ⟩
theorem a6i (B C K:Nat) (w:World) (hK:K<2^36) (h:a1o B C K w) :
 Cz 113 #[.pointer (some ⟨C,0,none⟩)] w (c9u B C (K+100) 8 w):=by
 obtain⟨i0,hi,hz0,hz1,hz2⟩:=info_parts a2i
 have hlt:=h.lt
 have HC0:=qh h
 clear h
 go_enter func113,ntmps113
 go_wp2_with fail
 refine (a0r B C K 16 _ oZ dZ HC0.o).mono ?_
 rintro e w1 ⟨x,hx,rfl,hc⟩
 have H1:=qh hc
 have hz1':w.heap.size<=w1.heap.size:=hc.2.size
 have HOW:=qh (show (w1.alloc (.cells #[] 3)).ownsRow w.heap.size 3 1 (.slice (some ⟨w1.heap.size,0,none⟩) 0 0) 0 [] by have h:=World.ownsRow_lit (base:=w.heap.size) (e:=3) (size:=1) w1 #[] 0 hz1' (Nat.zero_le _) sZ;simpa using h)
 have HCA:=qh (H1.o.alloc (.cells #[] 3))
 clear hc hx
 by_cases h0:x=0
 .subst h0;go_wp2;go_ret;exact⟨[],_,rfl,by simp,HOW.o,HCA.o.mono oZ⟩
 by_cases h1:x=1
 .subst h1
  go_wp2_with fail
  refine (a0r B C (K+2) 2 _ oZ dZ HCA.o.1).mono ?_;rintro e w2 ⟨z,hz,rfl,hc⟩;have hz2':z<2:=by omega
  have HR:Hq (a6t B C (K+4) w w2 (.slice (some ⟨w1.heap.size,0,none⟩) 0 0) []):=⟨a6t.cur (K:=K+2) ⟨⟨_,_,_,rfl⟩,HOW.o,HCA.o⟩ hlt.2 hc⟩;clear hc hz
  go_wp2_with fail
  go_loopw [3,4] (λs n wr=>∃(l:List Int) (k:Nat),l.length+k<=7/\n=.int .i64 k/\a6t B C (K+50-2*k) w wr s l) (λ_ n _=>(intOf n).toNat)
  case atStart=>exact⟨[],z+6,by simp;omega,by go_num,HR.o.1,HR.o.2.1,HR.o.2.2.mono oZ⟩
  case round=>
   obtain⟨l,k,hk,rfl,hr⟩:=hrel;have H3:=qh hr;obtain⟨⟨ua,un,uc,rfl⟩,_⟩:=hr
   by_cases hp:0<k
   .go_wp2_with fail
    refine (d7p B C (K+50-2*k) _ oZ H3.o.2.2.1).mono ?_;rintro e w3 ⟨y,rfl,hc⟩;have H5:=qh ((H3.o.cur hlt.2 hc));have HOW2:=qh (H5.o.2.1.alloc (.cells #[.int .i64 y] 3));have hz3:=H5.o.2.2.2.size;have HZ3:=qh hz3;clear hc hz3
    go_wp2_with (at_builtin;refine wpList_append_own _ rfl _ _ 33 rfl w.heap.size 3 i0 (.int .i64 0) 1 8 underlying33 hi hz0 hz1 hz2 rfl dZ (.slice ua un uc) l.length (ints l) rfl HOW2.o ⟨w3.heap.size,0,none⟩ 1 1 [.int .i64 y] rfl rfl ?_ ?_ ?_ ?_ ?_ ?_)
    all_goals first|exact⟨rfl,rfl⟩|(intro z hz;simp only [List.mem_cons,List.not_mem_nil,or_false]at hz;subst hz;rfl)|(unfold maxLen;omega)|omega|(have h1:=HZ3.o;simp;omega)|(intro i z hz;rcases i with _|i;(injection hz with hz;subst hz;rw [add0];go_simp);cases hz)|skip
    intro u4 w4 hown hgr _;have H6:=qh (H5.o.app HC0.o 3 hown hgr);clear hown hgr;go_wp2
    go_roundw
    case rel=>exact⟨_,k-1,by rw [List.length_append];simp;omega,by go_num,H6.o.1,H6.o.2.1,H6.o.2.2.mono oZ⟩
    case measure=>exact zq
   .go_wp2;go_ret;exact⟨l,_,rfl,by omega,H3.o.2.1,H3.o.2.2.mono oZ⟩
 have h0':¬(x:Int)=0:=by omega
 have h1':¬(x:Int)=1:=by omega
 by_cases h2:x=2
 .subst h2;clear HOW HCA
  go_wp2_with fail
  refine (b1o B C (K+2) _ oZ H1.o.1).mono ?_;rintro e w2 ⟨l,u,rfl,hl,ho,hc⟩
  have HR:=qh (show a6t B C (K+62) w w2 u l from⟨by
   rcases ho.2 with⟨rfl,_⟩|⟨g,cap,cur,rfl,_⟩
   .exact⟨_,_,_,rfl⟩
   .exact⟨_,_,_,rfl⟩,c3v ho hz1',H1.o.trans hc⟩)
  obtain⟨⟨ua,un,uc,rfl⟩,_⟩:=id HR.o;clear ho hc;have H3:=HR;have hk:=hl;skip
  go_wp2_with fail
  refine (c0i B C (K+62) _ oZ HR.o.2.2.1).mono ?_;rintro e w3 ⟨y,rfl,hc⟩;have H5:=qh ((H3.o.cur hlt.2 hc));have HOW2:=qh (H5.o.2.1.alloc (.cells #[.int .i64 y] 3));have hz3:=H5.o.2.2.2.size;have HZ3:=qh hz3;clear hc hz3
  go_wp2_with (at_builtin;refine wpList_append_own _ rfl _ _ 33 rfl w.heap.size 3 i0 (.int .i64 0) 1 8 underlying33 hi hz0 hz1 hz2 rfl dZ (.slice ua un uc) l.length (ints l) rfl HOW2.o ⟨w3.heap.size,0,none⟩ 1 1 [.int .i64 y] rfl rfl ?_ ?_ ?_ ?_ ?_ ?_)
  all_goals first|exact⟨rfl,rfl⟩|(intro z hz;simp only [List.mem_cons,List.not_mem_nil,or_false]at hz;subst hz;rfl)|(unfold maxLen;omega)|omega|(have h1:=HZ3.o;simp;omega)|(intro i z hz;rcases i with _|i;(injection hz with hz;subst hz;rw [add0];go_simp);cases hz)|skip
  intro u4 w4 hown hgr _;have H6:=qh (H5.o.app HC0.o 3 hown hgr);clear hown hgr;go_wp2;go_ret;exact⟨_,_,rfl,by rw [List.length_append];simp;omega,H6.o.2.1,H6.o.2.2.mono oZ⟩
 have h2':¬(x:Int)=2:=by omega
 clear HOW HCA
 go_wp2_with fail
 refine (b1o B C (K+2) _ oZ H1.o.1).mono ?_
 rintro e w2 ⟨l,u,rfl,hl,ho,hc⟩
 have H2:=qh (H1.o.trans hc)
 have HO:=qh (c3v ho hz1')
 clear hc ho
 go_wp2
 go_ret
 exact⟨l,_,rfl,by omega,HO.o,H2.o.mono oZ⟩
def a9g (B C K m:Nat) (w:World) (e:Ending) (w':World):Prop:=∃s:Str,e=.returned (.string (S s))/\s.length<=m/\a0e B C K w w'
theorem c5i (B C K:Nat) (w:World) (hK:K<2^38) (h:a1o B C K w) :
 Cz 304 #[.pointer (some ⟨C,0,none⟩)] w (a9g B C (K+2) 20 w):=by
 have hlt:=h.lt
 have HC:=qh ((a0e.refl h (Nat.le_refl K)).alloc (.cells #[.string (S [99,97,116]),.string (S [104,97,112,112,121]),.string (S [109,97,107,101]),.string (S [114,117,110]),.string (S [116,114,121]),.string (S [98,111,120]),.string (S [100,105,101]),.string (S [97]),.string (S [71,111]),.string (S [52,50]),.string (S [100,111,110,39,116]),.string (S [98,101,101]),.string (S [115]),.string (S [105,110,103]),.string (S [99,104,117,114,99,104]),.string (S [112,108,97,121])] 9))
 have HL:=qh (a1n [[99,97,116],[104,97,112,112,121],[109,97,107,101],[114,117,110],[116,114,121],[98,111,120],[100,105,101],[97],[71,111],[52,50],[100,111,110,39,116],[98,101,101],[115],[105,110,103],[99,104,117,114,99,104],[112,108,97,121]] w 9)
 clear h
 go_enter func304,ntmps304
 go_wp2_with fail
 refine (a4h B C K w.heap.size 16 [[99,97,116],[104,97,112,112,121],[109,97,107,101],[114,117,110],[116,114,121],[98,111,120],[100,105,101],[97],[71,111],[52,50],[100,111,110,39,116],[98,101,101],[115],[105,110,103],[99,104,117,114,99,104],[112,108,97,121]] _ oZ dZ dZ sZ oZ HL.o HC.o.1).mono ?_
 rintro e w1 ⟨s,hs,rfl,hc⟩
 have H1:=qh (HC.o.trans hc)
 have HS:Hq (s.length<=20):=⟨(by decide:∀s∈([[99,97,116],[104,97,112,112,121],[109,97,107,101],[114,117,110],[116,114,121],[98,111,120],[100,105,101],[97],[71,111],[52,50],[100,111,110,39,116],[98,101,101],[115],[105,110,103],[99,104,117,114,99,104],[112,108,97,121]]:List Str),s.length<=20) s hs⟩
 clear hc hs
 go_wp2
 go_ret
 exact⟨s,rfl,HS.o,H1.o⟩
def ABox (b:Nat) (v:World):Prop:=v.cell? ⟨b,0,none⟩=some (.int .i64 0)/\v.cell? ⟨b,1,none⟩=some (.string (S []))/\v.frozen? ⟨b,0,none⟩=false/\v.frozen? ⟨b,1,none⟩=false/\b<v.heap.size
theorem ABox.a0b (h:ABox b v) (hc:Chg X v v') (hX:¬X b):ABox b v':=
 ⟨(hc.cell (p:=⟨b,0,none⟩) h.2.2.2.2 hX).trans h.1,(hc.cell (p:=⟨b,1,none⟩) h.2.2.2.2 hX).trans h.2.1,(hc.frozen (p:=⟨b,0,none⟩) h.2.2.2.2 hX).trans h.2.2.1,(hc.frozen (p:=⟨b,1,none⟩) h.2.2.2.2 hX).trans h.2.2.2.1,Nat.lt_of_lt_of_le h.2.2.2.2 hc.size⟩
theorem ABox.alloc (h:ABox b v) (o:Obj):ABox b (v.alloc o):=h.a0b (Below.chg (bZ.alloc lZ o) λ_=>False) λh=>h
theorem ABox.new (v:World):ABox v.heap.size (v.alloc (.cells #[.int .i64 0,.string (S [])] 177)):=by
 refine⟨?_,?_,?_,?_,?_⟩<;>go_simp
def d5f (B C K:Nat) (w:World) (e:Ending) (w':World):Prop:=∃(k:Int) (s:Str),e=.returned (a4z k s)/\s.length<=20/\a0e B C K w w'
theorem d8j (B C K:Nat) (w:World) (hK:K<2^37) (h:a1o B C K w) :
 Cz 252 #[.pointer (some ⟨C,0,none⟩)] w (d5f B C (K+4) w):=by
 have hlt:=h.lt
 have HC:=qh ((a0e.refl h (Nat.le_refl K)).alloc (.cells #[.int .i64 0,.string (S [])] 177))
 have HA:=qh (ABox.new w)
 clear h
 go_enter func252,ntmps252
 go_wp2_with fail
 refine (a0r B C K 14 _ oZ dZ HC.o.1).mono ?_
 rintro e w1 ⟨x,hx,rfl,hc⟩
 have H1:=qh (HC.o.trans hc)
 have HA1:=qh (HA.o.a0b hc.2 oZ)
 have hz1:w.heap.size<w1.heap.size:=HA1.o.2.2.2.2
 clear hc hx HC HA
 by_cases h0:x=0
 .subst h0;exact zq16
 have h0':¬(x:Int)=0:=by omega
 clear h0
 by_cases h1:x=1
 .subst h1;exact zq16
 have h1':¬(x:Int)=1:=by omega
 clear h1
 by_cases h2:x=2
 .subst h2;have HC2:=qh (H1.o.alloc (.cells #[.string (S [117,110]),.string (S [114,101]),.string (S [40])] 9));have HL:=qh (a1n [[117,110],[114,101],[40]] w1 9);have HA2:=qh (HA1.o.alloc (.cells #[.string (S [117,110]),.string (S [114,101]),.string (S [40])] 9));clear HA1
  go_wp2_with fail
  refine (a4h B C (K+2) w1.heap.size 3 [[117,110],[114,101],[40]] _ oZ dZ dZ sZ oZ HL.o HC2.o.1).mono ?_;rintro e w2 ⟨s,hs,rfl,hc⟩;have H2:=qh (HC2.o.trans hc);have HS:Hq (s.length<=20):=⟨(by decide:∀s∈([[117,110],[114,101],[40]]:List Str),s.length<=20) s hs⟩;have HA3:=qh (HA2.o.a0b hc.2 oZ);clear hc hs HA2 HC2 H1 HL;obtain⟨b0,b1,f0,f1,_⟩:=HA3.o;go_wp2;refine bodyPost_ret (v:=a4z 3 s) (by simp [results,results252,go_sem,b0,b1]) rfl ⟨3,s,rfl,HS.o,?_⟩;exact zq17
 have h2':¬(x:Int)=2:=by omega
 clear h2
 by_cases h3:x=3
 .subst h3;have HC2:=qh (H1.o.alloc (.cells #[.string (S [45]),.string (S [47]),.string (S [39])] 9));have HL:=qh (a1n [[45],[47],[39]] w1 9);have HA2:=qh (HA1.o.alloc (.cells #[.string (S [45]),.string (S [47]),.string (S [39])] 9));clear HA1
  go_wp2_with fail
  refine (a4h B C (K+2) w1.heap.size 3 [[45],[47],[39]] _ oZ dZ dZ sZ oZ HL.o HC2.o.1).mono ?_;rintro e w2 ⟨s,hs,rfl,hc⟩;have H2:=qh (HC2.o.trans hc);have HS:Hq (s.length<=20):=⟨(by decide:∀s∈([[45],[47],[39]]:List Str),s.length<=20) s hs⟩;have HA3:=qh (HA2.o.a0b hc.2 oZ);clear hc hs HA2 HC2 H1 HL;obtain⟨b0,b1,f0,f1,_⟩:=HA3.o;go_wp2;refine bodyPost_ret (v:=a4z 4 s) (by simp [results,results252,go_sem,b0,b1]) rfl ⟨4,s,rfl,HS.o,?_⟩;exact zq17
 have h3':¬(x:Int)=3:=by omega
 clear h3
 by_cases h4:x=4
 .subst h4;have HC2:=qh (H1.o.alloc (.cells #[.string (S [97]),.string (S [98]),.string (S [55])] 9));have HL:=qh (a1n [[97],[98],[55]] w1 9);have HA2:=qh (HA1.o.alloc (.cells #[.string (S [97]),.string (S [98]),.string (S [55])] 9));clear HA1
  go_wp2_with fail
  refine (a4h B C (K+2) w1.heap.size 3 [[97],[98],[55]] _ oZ dZ dZ sZ oZ HL.o HC2.o.1).mono ?_;rintro e w2 ⟨s,hs,rfl,hc⟩;have H2:=qh (HC2.o.trans hc);have HS:Hq (s.length<=20):=⟨(by decide:∀s∈([[97],[98],[55]]:List Str),s.length<=20) s hs⟩;have HA3:=qh (HA2.o.a0b hc.2 oZ);clear hc hs HA2 HC2 H1 HL;obtain⟨b0,b1,f0,f1,_⟩:=HA3.o;go_wp2;refine bodyPost_ret (v:=a4z 5 s) (by simp [results,results252,go_sem,b0,b1]) rfl ⟨5,s,rfl,HS.o,?_⟩;exact zq17
 have h4':¬(x:Int)=4:=by omega
 clear h4
 by_cases h5:x=5
 .subst h5;have HC2:=qh (H1.o.alloc (.cells #[.string (S [46]),.string (S [33]),.string (S [63])] 9));have HL:=qh (a1n [[46],[33],[63]] w1 9);have HA2:=qh (HA1.o.alloc (.cells #[.string (S [46]),.string (S [33]),.string (S [63])] 9));clear HA1
  go_wp2_with fail
  refine (a4h B C (K+2) w1.heap.size 3 [[46],[33],[63]] _ oZ dZ dZ sZ oZ HL.o HC2.o.1).mono ?_;rintro e w2 ⟨s,hs,rfl,hc⟩;have H2:=qh (HC2.o.trans hc);have HS:Hq (s.length<=20):=⟨(by decide:∀s∈([[46],[33],[63]]:List Str),s.length<=20) s hs⟩;have HA3:=qh (HA2.o.a0b hc.2 oZ);clear hc hs HA2 HC2 H1 HL;obtain⟨b0,b1,f0,f1,_⟩:=HA3.o;go_wp2;refine bodyPost_ret (v:=a4z 6 s) (by simp [results,results252,go_sem,b0,b1]) rfl ⟨6,s,rfl,HS.o,?_⟩;exact zq17
 have h5':¬(x:Int)=5:=by omega
 clear h5
 by_cases h6:x=6
 .subst h6;have HC2:=qh (H1.o.alloc (.cells #[.string (S [44]),.string (S [59]),.string (S [58])] 9));have HL:=qh (a1n [[44],[59],[58]] w1 9);have HA2:=qh (HA1.o.alloc (.cells #[.string (S [44]),.string (S [59]),.string (S [58])] 9));clear HA1
  go_wp2_with fail
  refine (a4h B C (K+2) w1.heap.size 3 [[44],[59],[58]] _ oZ dZ dZ sZ oZ HL.o HC2.o.1).mono ?_;rintro e w2 ⟨s,hs,rfl,hc⟩;have H2:=qh (HC2.o.trans hc);have HS:Hq (s.length<=20):=⟨(by decide:∀s∈([[44],[59],[58]]:List Str),s.length<=20) s hs⟩;have HA3:=qh (HA2.o.a0b hc.2 oZ);clear hc hs HA2 HC2 H1 HL;obtain⟨b0,b1,f0,f1,_⟩:=HA3.o;go_wp2;refine bodyPost_ret (v:=a4z 7 s) (by simp [results,results252,go_sem,b0,b1]) rfl ⟨7,s,rfl,HS.o,?_⟩;exact zq17
 have h6':¬(x:Int)=6:=by omega
 clear h6
 by_cases h7:x=7
 .subst h7
  go_wp2_with fail
  refine (a0r B C (K+2) 3 _ oZ dZ H1.o.1).mono ?_;rintro e w2 ⟨z,hz,rfl,hc⟩;have hz3:z<3:=by omega
  have H2:=qh (H1.o.trans hc);have HA3:=qh (HA1.o.a0b hc.2 oZ);clear hc hz H1 HA1;obtain⟨b0,b1,f0,f1,_⟩:=HA3.o;go_wp2;refine bodyPost_ret (v:=a4z (8+(z:Int)) []) (by simp [results,results252,go_sem,b0,b1]) rfl ⟨(8+(z:Int)),[],rfl,Nat.zero_le _,?_⟩;exact zq17
 have h7':¬(x:Int)=7:=by omega
 clear h7
 go_wp2_with fail
 refine (c5i B C (K+2) _ oZ H1.o.1).mono ?_
 rintro e w2 ⟨s,rfl,hs,hc⟩
 have H2:=qh (H1.o.trans hc)
 have HA3:=qh (HA1.o.a0b hc.2 oZ)
 have HS:=qh hs
 clear hc hs H1 HA1
 obtain⟨b0,b1,f0,f1,_⟩:=HA3.o
 go_wp2
 refine bodyPost_ret (v:=a4z 1 s) (by simp [results,results252,go_sem,b0,b1]) rfl ⟨1,s,rfl,HS.o,?_⟩
 exact ((H2.o.set (g:=w.heap.size) (i:=0) lZ hlt.2 oZ _).set (g:=w.heap.size) (i:=1) lZ hlt.2 oZ _).mono oZ
def d0v (B C K:Nat) (w:World) (e:Ending) (w':World):Prop:=∃(l:List (Int×Str)) (u:Value),e=.returned u/\l.length<=4/\(∀a∈l,a.2.length<=20)/\a0v w.heap.size w' u l/\a0e B C K w w'
def b4c (B C K:Nat) (w v:World) (u:Value) (l:List (Int×Str)):Prop:=(∃a n c,u=.slice a n c)/\a0v w.heap.size v u l/\a0e B C K w v
theorem b4c.cur {l:List (Int×Str)} (h:b4c B C K w v u l) (hw:C<w.heap.size) (hc:a0e B C K' v v'):b4c B C K' w v' u l:=
 ⟨h.1,a1f h.2.1 hc.2 λk hk e=>by have:=(World.ownsRow.lt h.2.1 k hk).1;omega,h.2.2.trans hc⟩
theorem d2t:(Tryz.prog.info? 177).map (λi=>(i.zero,i.size,i.bytes))=some (some (.agg #[.int .i64 0,.string ⟨#[]⟩]),2,24):=by kernel_rfl
theorem d8a (B C K:Nat) (w:World) (hK:K<2^36) (h:a1o B C K w) :
 Cz 193 #[.pointer (some ⟨C,0,none⟩)] w (d0v B C (K+30) w):=by
 obtain⟨i0,hi,hz0,hz1,hz2⟩:=info_parts d2t
 have hlt:=h.lt
 have HC:=qh ((a0e.refl h (Nat.le_refl K)).alloc (.cells #[] 177))
 have HOW:=qh (show a0v w.heap.size (w.alloc (.cells #[] 177)) (.slice (some ⟨w.heap.size,0,none⟩) 0 0) [] by have h:=World.ownsRow_lit (base:=w.heap.size) (e:=177) (size:=2) w #[] 0 lZ (Nat.zero_le _) sZ;exact h)
 clear h
 go_enter func193,ntmps193
 go_wp2_with fail
 refine (a0r B C K 4 _ oZ dZ HC.o.1).mono ?_
 rintro e w1 ⟨x,hx,rfl,hc⟩
 have hx4:x<4:=by omega
 have HR:Hq (b4c B C (K+2) w w1 (.slice (some ⟨w.heap.size,0,none⟩) 0 0) []):=⟨b4c.cur (K:=K) ⟨⟨_,_,_,rfl⟩,HOW.o,HC.o⟩ hlt.2 hc⟩
 clear hc hx HOW
 go_wp2_with fail
 go_loopw [3,4] (λs n wr=>∃(l:List (Int×Str)) (k:Nat),l.length+k<=4/\(∀a∈l,a.2.length<=20)/\n=.int .i64 k/\b4c B C (K+30-4*k) w wr s l) (λ_ n _=>(intOf n).toNat)
 case atStart=>exact⟨[],x+1,by simp;omega,(λa h=>by cases h),by go_num,HR.o.1,HR.o.2.1,HR.o.2.2.mono oZ⟩
 case round=>
  obtain⟨l,k,hk,hall,rfl,hr⟩:=hrel;have H3:=qh hr;have HALL:=qh hall;obtain⟨⟨ua,un,uc,rfl⟩,_⟩:=hr;clear hall
  by_cases hp:0<k
  .go_wp2_with fail
   refine (d8j B C (K+30-4*k) _ oZ H3.o.2.2.1).mono ?_;rintro e w3 ⟨kk,s,rfl,hs,hc⟩;have H5:=qh ((H3.o.cur hlt.2 hc));have HS:=qh hs;have HOW2:Hq ((w3.alloc (.cells #[.int .i64 kk,.string (S s)] 177)).ownsRow w.heap.size 177 2 (.slice ua un uc) l.length (a0p l)):=⟨World.ownsRow.alloc H5.o.2.1 _⟩;have HZ3:=qh H5.o.2.2.2.size;clear hc hs
   go_wp2_with (at_builtin;refine wpList_append_own _ rfl _ _ 171 rfl w.heap.size 177 i0 (.agg #[.int .i64 0,.string ⟨#[]⟩]) 2 24 underlying171 hi hz0 hz1 hz2 rfl dZ (.slice ua un uc) l.length (a0p l) rfl HOW2.o ⟨w3.heap.size,0,none⟩ 1 1 [.int .i64 kk,.string (S s)] rfl rfl ?_ ?_ ?_ ?_ ?_ ?_)
   all_goals first|exact⟨rfl,rfl⟩|(intro z hz;simp only [List.mem_cons,List.not_mem_nil,or_false]at hz;rcases hz with rfl|rfl<;>rfl)|(unfold maxLen;omega)|omega|(have h1:=HZ3.o;simp;omega)|(intro i z hz;rcases i with _|_|i;(injection hz with hz;subst hz;rw [add0];go_simp);(injection hz with hz;subst hz;rw [add0];go_simp);cases hz)|skip
   intro u4 w4 hown hgr _;have HOW4:=qh (show a0v w.heap.size w4 u4 (l++[(kk,s)]) by unfold a0v;rw [b2p,List.length_append];exact hown);have HC4:=qh ((H5.o.2.2.alloc (.cells #[.int .i64 kk,.string (S s)] 177)).new (Chg.grown hgr) (λb hb=>(World.ownsRow.lt H5.o.2.1 b hb).1) hlt.2 oZ);clear hown hgr;go_wp2
   go_roundw
   case rel=>exact⟨_,k-1,by rw [List.length_append];simp;omega,(λa ha=>by rcases List.mem_append.1 ha with ha|ha;exact HALL.o a ha;simp at ha;subst ha;exact HS.o),by go_num,⟨by obtain⟨a,c,e⟩:=a5c HOW4.o;exact⟨_,_,_,e⟩,HOW4.o,HC4.o.mono oZ⟩⟩
   case measure=>exact zq
  .go_wp2;go_ret;exact⟨l,_,rfl,by omega,HALL.o,H3.o.2.1,H3.o.2.2.mono oZ⟩
theorem l5Text (u:Value) (l:List (Int×Str)) (w:World) (hu:b8n w u l) (hl:l.length<=100) (hw:∀a∈l,a.2.length<=60) :
 Cz 195 #[u] w λe w'=>∃s:Str,e=.returned (.string (S s))/\s.length<=66*l.length/\Bl w w':=by
 obtain⟨ad,cap,rfl,hr⟩:=hu
 have HR:=qh hr;clear hr
 have HW:=qh hw;clear hw
 go_enter func195,ntmps195
 go_wp2_with fail
 go_loopw [3,4] (λz i wr=>∃(j:Nat) (s:Str),j<=l.length/\i=.int .i64 j/\z=.string (S s)/\s.length<=66*j/\Bl w wr) (λ_ i _=>l.length-(intOf i).toNat)
 case atStart=>exact⟨0,[],Nat.zero_le _,rfl,rfl,by simp,Below.refl _ _⟩
 case round=>
  obtain⟨j,s,hj,rfl,rfl,hs,hb⟩:=hrel;have HB:=qh hb
  by_cases hlt:j<l.length
  .obtain⟨g,rfl,hg,hat⟩:∃g,ad=some ⟨g,0,none⟩/\g<w.heap.size/\b9n g l w:=by
    rcases HR.o with h|h
    .rw [h]at hlt;exact absurd hlt (Nat.not_lt_zero _)
    .exact h
   obtain⟨c0,c1⟩:=hat j hlt;have c0':=(hb.cell (p:=⟨g,j*2,none⟩) hg).trans c0;have c1':=(hb.cell (p:=⟨g,j*2+1,none⟩) hg).trans c1;have hwl:=HW.o _ (List.getElem_mem hlt);generalize l[j]=a at *;obtain⟨k,t⟩:=a;simp only at c0' c1' hwl;have HNL:=qh (P.c0o k t);have i1:(j:Int)<(l.length:Int):=by omega
   have hsz:=hb.size;clear c0 c1 hat hb;have ho1:¬9223372036854775807<s.length+1:=by omega
   have hnl:(P.note k t).length<=65:=by have:=HNL.o;omega
   have ho2:¬9223372036854775807<s.length+(P.note k t).length:=by omega
   have ho3:¬9223372036854775807<s.length+1+(P.note k t).length:=by omega
   have HNN:=qh hnl;clear hnl
   by_cases hp:0<j
   all_goals
    go_wp2_with fail
    refine (c1t k t _ oZ).mono ?_
    rintro e v ⟨rfl,hb⟩
    have HB2:=qh (HB.o.trans (hb.mono hsz));clear hb
    have hlen:=HNN.o
    generalize P.note k t=q at *
    clear HNL
    go_wp2
    go_roundw
    case rel=>
     repeat apply Exists.intro
     refine⟨?_,rfl⟩;exact⟨j+1,_,by omega,by go_num,rfl,by simp;omega,HB2.o⟩
    case measure=>exact zq
  .clear hb;go_wp2;go_ret;exact⟨s,rfl,by omega,HB.o⟩
theorem a8w (B C K:Nat) (w:World) (hK:K<2^35) (h:a1o B C K w) :
 Cz 119 #[.pointer (some ⟨C,0,none⟩)] w (a9g B C (K+30) 300 w):=by
 have HC:=qh h
 clear h
 go_enter func119,ntmps119
 go_wp2_with fail
 refine (d8a B C K _ oZ HC.o).mono ?_
 rintro e w1 ⟨l,u,rfl,hl,hall,ho,hc⟩
 have H1:=qh hc;have HR:=qh (b2d ho);have HALL:=qh (λa ha=>Nat.le_trans (hall a ha) (by decide:20<=60))
 obtain⟨ua,uc,rfl⟩:=a5c ho
 clear hc ho hall
 go_wp2_with fail
 refine (e1l _ l _ HR.o oZ HALL.o).mono ?_
 rintro e w2 ⟨rfl,hb⟩
 have H2:=qh (H1.o.below hb)
 have HR2:=qh (show b8n w2 (.slice ua l.length uc) l by
  obtain⟨ad,cap,e,h⟩:=HR.o;refine⟨ad,cap,e,h.imp id ?_⟩;rintro⟨g,h1,h2,h3⟩;exact⟨g,h1,Nat.lt_of_lt_of_le h2 hb.size,λj hj=>⟨(hb.cell (p:=⟨g,_,none⟩) h2).trans (h3 j hj).1,(hb.cell (p:=⟨g,_,none⟩) h2).trans (h3 j hj).2⟩⟩)
 clear hb
 cases hq:P.b1a l
 .clear hq;go_wp2;go_ret;exact⟨[119,111,114,100],rfl,by simp,H2.o⟩
 .clear hq
  go_wp2_with fail
  refine (l5Text _ l _ HR2.o oZ HALL.o).mono ?_;rintro e w3 ⟨s,rfl,hs,hb⟩;have H3:=qh (H2.o.below hb);clear hb;go_wp2;go_ret;exact⟨s,rfl,by omega,H3.o⟩
def d1a (b:Nat) (v:World):Prop:=v.cell? ⟨b,0,none⟩=some (.slice none 0 0)/\v.cell? ⟨b,1,none⟩=some (.string (S []))/\v.frozen? ⟨b,0,none⟩=false/\v.frozen? ⟨b,1,none⟩=false/\b<v.heap.size
theorem d1a.a0b (h:d1a b v) (hc:Chg X v v') (hX:¬X b):d1a b v':=
 ⟨(hc.cell (p:=⟨b,0,none⟩) h.2.2.2.2 hX).trans h.1,(hc.cell (p:=⟨b,1,none⟩) h.2.2.2.2 hX).trans h.2.1,(hc.frozen (p:=⟨b,0,none⟩) h.2.2.2.2 hX).trans h.2.2.1,(hc.frozen (p:=⟨b,1,none⟩) h.2.2.2.2 hX).trans h.2.2.2.1,Nat.lt_of_lt_of_le h.2.2.2.2 hc.size⟩
theorem d1a.new (v:World):d1a v.heap.size (v.alloc (.cells #[.slice none 0 0,.string (S [])] 119)):=by
 refine⟨?_,?_,?_,?_,?_⟩<;>go_simp
def d9u (B C K:Nat) (w:World) (e:Ending) (w':World):Prop:=∃(o:List Int) (t:Str) (x:Value),e=.returned (.agg #[x,.string (S t)])/\o.length<=3/\t.length<=300/\Ints w' (λb=>Bet (w.heap.size+1) w'.heap.size b) x o/\a0e B C K w w'
theorem c4k (B C K:Nat) (w:World) (hK:K<2^34) (h:a1o B C K w) :
 Cz 111 #[.pointer (some ⟨C,0,none⟩)] w (d9u B C (K+100) w):=by
 have hlt:=h.lt
 have HC:=qh ((a0e.refl h (Nat.le_refl K)).alloc (.cells #[.slice none 0 0,.string (S [])] 119))
 have HA:=qh (d1a.new w)
 clear h
 go_enter func111,ntmps111
 go_wp2_with fail
 refine (b1o B C K _ oZ HC.o.1).mono ?_
 rintro e w1 ⟨o,u,rfl,ho,hown,hc⟩
 have H1:=qh (HC.o.trans hc)
 have HA1:=qh (HA.o.a0b hc.2 oZ)
 have HI:=qh (show Ints w1 (Bet (w.heap.size+1) w1.heap.size) u o by have h:=a2m hown oZ;simpa using h)
 clear hc hown HC HA
 obtain⟨ud,uc,rfl,_,_⟩:=id HI.o
 go_wp2_with fail
 refine (a8w B C (K+60) _ oZ H1.o.1).mono ?_
 rintro e w2 ⟨t,rfl,ht,hc⟩
 have H2:=qh (H1.o.trans hc)
 have HA2:=qh (HA1.o.a0b hc.2 oZ)
 have HI2:=qh (HI.o.a0b a1l hc.2 (λb hb e=>by have h1:=hb.1;omega))
 have HZ:Hq (w1.heap.size<=w2.heap.size):=⟨hc.2.size⟩
 clear hc HA1 HI H1
 obtain⟨b0,b1,f0,f1,bz⟩:=HA2.o
 go_wp2
 refine bodyPost_ret (v:=.agg #[.slice ud o.length uc,.string (S t)]) (by simp [results,results111,go_sem,b0,b1]) rfl ⟨o,t,_,rfl,ho,ht,?_,?_⟩
 .refine (HI2.o.a0b (X:=λb=>b=w.heap.size) a1l ((((Chg.refl (λb=>b=w.heap.size) w2).setCell (p:=⟨w.heap.size,0,none⟩) rfl _).setCell (p:=⟨w.heap.size,1,none⟩) rfl _)) (λb hb e=>by have h1:=hb.1;omega)).wide ?_ ?_
  .intro b hb;have h1:=hb.1;have h2:=hb.2;have h3:=HZ.o;exact⟨h1,by simp [World.setCell];omega⟩
  .exact λb hb=>hb.2
 .exact zq17
def b6c:List Str:=[[99,97,116],[104,97,112,112,121],[109,97,107,101],[114,117,110],[116,114,121],[98,111,120],[100,105,101],[97],[98,101,101],[115,104,111,101],[100,121,101],[99,104,117,114,99,104],[112,108,97,121],[115,116,111,112],[102,105,120],[114,97,105,110],[98,117,115],[121],[101],[98,101],[115,104,101,101,112],[119,105,115,104],[104,111,112,101],[104,111,112],[116,105,101],[99,97,114,114,121],[115,104,111,119],[113,117,105,122],[111,102]]
theorem c1w (B C K:Nat) (w:World) (hK:K<2^38) (h:a1o B C K w) :
 Cz 120 #[.pointer (some ⟨C,0,none⟩)] w (a9g B C (K+2) 20 w):=by
 have hlt:=h.lt
 have HC:=qh ((a0e.refl h (Nat.le_refl K)).alloc (.cells #[.string (S [99,97,116]),.string (S [104,97,112,112,121]),.string (S [109,97,107,101]),.string (S [114,117,110]),.string (S [116,114,121]),.string (S [98,111,120]),.string (S [100,105,101]),.string (S [97]),.string (S [98,101,101]),.string (S [115,104,111,101]),.string (S [100,121,101]),.string (S [99,104,117,114,99,104]),.string (S [112,108,97,121]),.string (S [115,116,111,112]),.string (S [102,105,120]),.string (S [114,97,105,110]),.string (S [98,117,115]),.string (S [121]),.string (S [101]),.string (S [98,101]),.string (S [115,104,101,101,112]),.string (S [119,105,115,104]),.string (S [104,111,112,101]),.string (S [104,111,112]),.string (S [116,105,101]),.string (S [99,97,114,114,121]),.string (S [115,104,111,119]),.string (S [113,117,105,122]),.string (S [111,102])] 9))
 have HL:=qh (a1n [[99,97,116],[104,97,112,112,121],[109,97,107,101],[114,117,110],[116,114,121],[98,111,120],[100,105,101],[97],[98,101,101],[115,104,111,101],[100,121,101],[99,104,117,114,99,104],[112,108,97,121],[115,116,111,112],[102,105,120],[114,97,105,110],[98,117,115],[121],[101],[98,101],[115,104,101,101,112],[119,105,115,104],[104,111,112,101],[104,111,112],[116,105,101],[99,97,114,114,121],[115,104,111,119],[113,117,105,122],[111,102]] w 9)
 clear h
 go_enter func120,ntmps120
 go_wp2_with fail
 refine (a4h B C K w.heap.size 29 [[99,97,116],[104,97,112,112,121],[109,97,107,101],[114,117,110],[116,114,121],[98,111,120],[100,105,101],[97],[98,101,101],[115,104,111,101],[100,121,101],[99,104,117,114,99,104],[112,108,97,121],[115,116,111,112],[102,105,120],[114,97,105,110],[98,117,115],[121],[101],[98,101],[115,104,101,101,112],[119,105,115,104],[104,111,112,101],[104,111,112],[116,105,101],[99,97,114,114,121],[115,104,111,119],[113,117,105,122],[111,102]] _ oZ dZ dZ sZ oZ HL.o HC.o.1).mono ?_
 rintro e w1 ⟨s,hs,rfl,hc⟩
 have H1:=qh (HC.o.trans hc)
 have HS:Hq (s.length<=20):=⟨(by decide:∀s∈b6c,s.length<=20) s hs⟩
 clear hc hs
 go_wp2
 go_ret
 exact⟨s,rfl,HS.o,H1.o⟩
def c3w:List Str:=[[105,110,103],[115],[101,100],[110,101,115,115],[101,114],[108,121],[115],[105,110,103],[97,98,108,101],[121],[105,115,104]]
theorem d1t (B C K:Nat) (w:World) (hK:K<2^38) (h:a1o B C K w) :
 Cz 121 #[.pointer (some ⟨C,0,none⟩)] w (a9g B C (K+2) 20 w):=by
 have hlt:=h.lt
 have HC:=qh ((a0e.refl h (Nat.le_refl K)).alloc (.cells #[.string (S [105,110,103]),.string (S [115]),.string (S [101,100]),.string (S [110,101,115,115]),.string (S [101,114]),.string (S [108,121]),.string (S [115]),.string (S [105,110,103]),.string (S [97,98,108,101]),.string (S [121]),.string (S [105,115,104])] 9))
 have HL:=qh (a1n [[105,110,103],[115],[101,100],[110,101,115,115],[101,114],[108,121],[115],[105,110,103],[97,98,108,101],[121],[105,115,104]] w 9)
 clear h
 go_enter func121,ntmps121
 go_wp2_with fail
 refine (a4h B C K w.heap.size 11 [[105,110,103],[115],[101,100],[110,101,115,115],[101,114],[108,121],[115],[105,110,103],[97,98,108,101],[121],[105,115,104]] _ oZ dZ dZ sZ oZ HL.o HC.o.1).mono ?_
 rintro e w1 ⟨s,hs,rfl,hc⟩
 have H1:=qh (HC.o.trans hc)
 have HS:Hq (s.length<=20):=⟨(by decide:∀s∈c3w,s.length<=20) s hs⟩
 clear hc hs
 go_wp2
 go_ret
 exact⟨s,rfl,HS.o,H1.o⟩
namespace P
def a1w (e:Ent) (s:Dic×Bool) (x:Ent):Dic×Bool:=
 ((if decide (0<=cmp x.1 e.1)&&!s.2 then s.1++[e] else s.1)++(if decide (cmp x.1 e.1=0) then [] else [x]),s.2||decide (0<=cmp x.1 e.1))
def a1p (e:Ent) (l:Dic):Dic×Bool:=l.foldl (a1w e) ([],false)
theorem c2r (e x:Ent) (l:Dic):a1p e (l++[x])=a1w e (a1p e l) x:=by
 unfold a1p;rw [List.foldl_append];rfl
theorem c4f (e:Ent):∀(l acc:Dic) (p:Bool),(if (l.foldl (a1w e) (acc,p)).2 then (l.foldl (a1w e) (acc,p)).1 else (l.foldl (a1w e) (acc,p)).1++[e])=acc++putF e p l
 |[],acc,p=>by cases p<;>simp [putF]
 |x::l,acc,p=>by
  rw [List.foldl_cons];rw [show a1w e (acc,p) x=((if decide (0<=cmp x.1 e.1)&&!p then acc++[e] else acc)++(if decide (cmp x.1 e.1=0) then [] else [x]),p||decide (0<=cmp x.1 e.1)) from rfl,c4f e l,putF]
  by_cases h1:(decide (0<=cmp x.1 e.1)&&!p)=true
  .rw [if_pos h1,if_pos h1];simp
  .rw [if_neg h1,if_neg h1];simp
theorem b9g (e:Ent) (l:Dic):(if (a1p e l).2 then (a1p e l).1 else (a1p e l).1++[e])=putF e false l:=by
 have:=c4f e l [] false;rw [List.nil_append]at this;exact this
theorem b7o (e:Ent) (l:Dic):(a1p e l).1.length<=l.length+(a1p e l).2.toNat:=by
 have key:∀(l acc:Dic) (p:Bool),(l.foldl (a1w e) (acc,p)).1.length+p.toNat<=acc.length+l.length+(l.foldl (a1w e) (acc,p)).2.toNat:=by
  intro l
  induction l with
  |nil=>intro acc p;simp
  |cons x l ih=>
   intro acc p;rw [List.foldl_cons]
   have h2:(a1w e (acc,p) x).1.length+p.toNat<=acc.length+1+(a1w e (acc,p) x).2.toNat:=by
    unfold a1w
    by_cases h0:0<=cmp x.1 e.1
    .have h3:cmp x.1 e.1=0\/¬cmp x.1 e.1=0:=Decidable.em _
     cases p<;>rcases h3 with h3|h3<;>simp [h0,h3]
    .have h3:¬cmp x.1 e.1=0:=by omega
     cases p<;>simp [h0,h3]
   generalize a1w e (acc,p) x=s at *;obtain⟨a',p'⟩:=s;have h:=ih a' p';simp only [List.length_cons]at h2⊢;omega
 have:=key l [] false
 simpa [a1p] using this
end P
variable {α:Type} {E:ElT α} {wd:Nat}
def AccR (e:TypeId) (wd:Nat) (E:ElT α) (B:Nat) (R:Blk) (v:World) (u:Value) (l:List α) (xs:List Value):Prop:=
 ∃(G:Nat->Blk) (C:Nat->List Value),xs=flat C l.length/\v.ownsRow B e wd u l.length xs/\B<=v.heap.size /\
  (∀j (h:j<l.length),(C j).length=wd/\E v (G j) (C j) (l[j]'h))/\(∀j,j<l.length->∀b,G j b->(B<=b\/R b)/\b<v.heap.size/\u.ownBlock≠some b)/\(∀i j,i<j->j<l.length->∀b,G i b->G j b->False)/\(∀b,R b->b<B)
theorem AccR.owns {l:List α} {xs:List Value} (h:AccR e wd E B R v u l xs):v.ownsRow B e wd u l.length xs:=by
 obtain⟨G,C,_,h1,_⟩:=h;exact h1
theorem AccR.nil (h:v.ownsRow B e wd u 0 []) (hB:B<=v.heap.size) (hR:∀b,R b->b<B):AccR e wd E B R v u ([]:List α) []:=
 ⟨λ_ _=>False,λ_=>[],rfl,h,hB,λ_ hj=>absurd hj (Nat.not_lt_zero _),λ_ hj=>absurd hj (Nat.not_lt_zero _),λ_ _ _ hj=>absurd hj (Nat.not_lt_zero _),hR⟩
theorem AccR.size {l:List α} {xs:List Value} (h:AccR e wd E B R v u l xs):B<=v.heap.size:=by
 obtain⟨_,_,_,_,h,_⟩:=h;exact h
theorem AccR.keep (hE:ElOk E) {l:List α} {xs:List Value} (h:AccR e wd E B R v u l xs) (hb:Bl v v'):AccR e wd E B R v' u l xs:=by
 obtain⟨G,C,h0,h1,hB,h2,h3,h4,h5⟩:=h;exact⟨G,C,h0,a0i h1 hb lZ,Nat.le_trans hB hb.size,λj hj=>⟨(h2 j hj).1,hE.keep (h2 j hj).2 ⟨hb.size,λb hb'=>hb.block b (h3 j hj b hb').2.1⟩⟩,λj hj b hb'=>⟨(h3 j hj b hb').1,Nat.lt_of_lt_of_le (h3 j hj b hb').2.1 hb.size,(h3 j hj b hb').2.2⟩,h4,h5⟩
theorem AccR.a0b (hE:ElOk E) {l:List α} {xs:List Value} (h:AccR e wd E B R v u l xs) (hb:Chg X v v') (hX:∀b,X b->b<B/\¬R b):AccR e wd E B R v' u l xs:=by
 obtain⟨G,C,h0,h1,hB,h2,h3,h4,hR⟩:=h
 have hk:∀b,(B<=b\/R b)->b<v.heap.size->v'.heap[b]?=v.heap[b]?:=λb h1 h2=>hb.block b h2 λhx=>by
  have:=hX b hx
  rcases h1 with h1|h1
  .omega
  .exact this.2 h1
 refine⟨G,C,h0,?_,Nat.le_trans hB hb.size,λj hj=>⟨(h2 j hj).1,hE.keep (h2 j hj).2 ⟨hb.size,λb hb'=>hk b (h3 j hj b hb').1 (h3 j hj b hb').2.1⟩⟩,λj hj b hb'=>⟨(h3 j hj b hb').1,Nat.lt_of_lt_of_le (h3 j hj b hb').2.1 hb.size,(h3 j hj b hb').2.2⟩,h4,hR⟩;refine⟨h1.1,?_⟩
 rcases h1.2 with h5|⟨g,cap,cur,hv,hg,hh,r⟩
 .exact .inl h5
 .have hlt:=(World.ownsRow.lt h1 g (by rw [hv];rfl)).2;exact .inr ⟨g,cap,cur,hv,hg,by rw [hk g (.inl hg) hlt];exact hh,r⟩
theorem AccR.form {l:List α} {xs:List Value} (h:AccR e wd E B R v u l xs):∃ad cap,u=.slice ad l.length cap:=by
 exact zq174
theorem AccR.snoc (hE:ElOk E) {R':Blk} {v1 v2 v3:World} {l:List α} {xs:List Value} (h:AccR e wd E B R v u l xs) {cs:List Value} {a:α} {g cap:Nat} {F:Blk}
 (hb1:Bl v v1) (hF:∀b,F b->(v.heap.size<=b\/(R' b/\¬R b))/\b<v1.heap.size) (hRR:∀b,R b->R' b) (hR':∀b,R' b->b<B) (ha:E v1 F cs a) (hw:cs.length=wd) (hb2:Bl v1 v2)
 (hown:v3.ownsRow B e wd (.slice (some ⟨g,0,none⟩) (l.length+1) cap) (l.length+1) (xs++cs)) (hgr:v2.grownBy v3 u.ownBlock) (hat:u.ownBlock=some g\/g=v2.heap.size) :
 AccR e wd E B R' v3 (.slice (some ⟨g,0,none⟩) (l.length+1) cap) (l++[a]) (xs++cs):=by
 obtain⟨G,C,h0,h1,hB,h2,h3,h4,hR⟩:=h;have hub:∀b,u.ownBlock=some b->B<=b/\b<v.heap.size:=λb hb=>World.ownsRow.lt h1 b hb;refine zm66 ?_;intro hz12 hz2 hz3 hgB;have hFo:∀b,F b->u.ownBlock≠some b:=λb hb h'=>by
  have h5:=hub b h'
  rcases (hF b hb).1 with h6|h6
  .omega
  .have:=hR' b h6.1;omega
 refine⟨λj=>if j=l.length then F else G j,λj=>if j=l.length then cs else C j,?_,by rw [List.length_append];exact hown,by omega,λj hj=>?_,λj hj=>?_,λi j hij hj=>?_,hR'⟩
 .exact zq132
 .show (if j=l.length then cs else C j).length=wd/\E v3 (if j=l.length then F else G j) (if j=l.length then cs else C j) _
  rw [List.length_append]at hj
  by_cases e:j=l.length
  .subst e;simp only [if_true];refine⟨hw,?_⟩;rw [List.getElem_append_right lZ];simp only [Nat.sub_self,List.getElem_cons_zero];refine hE.keep ha ⟨by omega,λb hb=>?_⟩;have:=(hF b hb).2;rw [hgB b oZ (hFo b hb),hb2.block b oZ]
  .exact zq106
 .show ∀b,(if j=l.length then F else G j) b->_
  rw [List.length_append]at hj;intro b hb
  by_cases e:j=l.length
  .rw [if_pos e]at hb;have h5:=hF b hb;refine⟨h5.1.imp (λh=>by omega) (λh=>h.1),by omega,λh'=>?_⟩;simp only [Value.ownBlock,Option.some.injEq]at h'
   rcases hat with h''|h''
   .exact hFo b hb (by rw [h'',h'])
   .omega
  .rw [if_neg e]at hb;have hj':j<l.length:=by simp at hj;omega
   have h5:=h3 j hj' b hb;refine⟨h5.1.imp id (hRR b),by omega,λh'=>?_⟩;exact zq179
 .show ∀b,(if i=l.length then F else G i) b->(if j=l.length then F else G j) b->False
  rw [List.length_append]at hj;simp at hj;intro b h5 h6;rw [if_neg oZ]at h5;have h7:=h3 i oZ b h5
  by_cases e:j=l.length
  .rw [if_pos e]at h6
   rcases (hF b h6).1 with h8|h8
   .omega
   .rcases h7.1 with h9|h9
    .have:=hR' b h8.1;omega
    .exact h8.2 h9
  .rw [if_neg e]at h6;exact h4 i j hij oZ b h5 h6
theorem AccR.row {l:List α} {xs:List Value} (h:AccR e wd E B R v u l xs) (hl:l.length<=2^30):RowO wd E v (λb=>(B<=b\/R b)/\b<v.heap.size) u l:=by
 obtain⟨G,C,h0,h1,hB,h2,h3,h4,hR⟩:=h
 rcases id h1.2 with⟨rfl,hn⟩|⟨g,cap,cur,hv,hg,_,hnc,_⟩
 .rw [List.eq_nil_of_length_eq_zero hn];exact RowO.nil _ _
 .have hlt:=(World.ownsRow.lt h1 g (by rw [hv];rfl)).2;refine⟨some ⟨g,0,none⟩,cap,hv,hl,⟨(λh=>by cases h),hnc⟩,.inr ⟨g,0,G,C,rfl,⟨⟨.inl hg,hlt⟩,λb hb=>hb.2,λj hj i hi=>?_,λj hj=>(h2 j hj).1,λj hj=>(h2 j hj).2,λj hj b hb=>?_,h4⟩⟩⟩
  .exact zq90
  .have h5:=h3 j hj b hb;exact⟨⟨h5.1,h5.2.1⟩,λh'=>h5.2.2 (by rw [hv,h'];rfl)⟩
def P.kept (ok:Bool) (l:P.Dic):P.Dic:=if ok then l else []
structure Small (l:P.Dic):Prop where
 len:l.length<=2^20
 outs:∀e∈l,e.1.length<=2^20
 texts:∀e∈l,e.2.length<=2^30
theorem P.d5o {l:P.Dic} (h:P.dic l=true):P.Up l:=by
 unfold P.dic at h;simp only [Bool.and_eq_true]at h;exact P.b4w h.2.2
def NBx (b:Nat) (v:World):Prop:=v.cell? ⟨b,0,none⟩=some (.slice none 0 0)/\v.frozen? ⟨b,0,none⟩=false/\b<v.heap.size
theorem NBx.a0b (h:NBx b v) (hc:Chg X v v') (hX:¬X b):NBx b v':=
 ⟨(hc.cell (p:=⟨b,0,none⟩) h.2.2 hX).trans h.1,(hc.frozen (p:=⟨b,0,none⟩) h.2.2 hX).trans h.2.1,Nat.lt_of_lt_of_le h.2.2 hc.size⟩
theorem NBx.below (h:NBx b v) (hb:Bl v v'):NBx b v':=h.a0b (Below.chg hb λ_=>False) λh=>h
theorem NBx.new (v:World) (t:TypeId):NBx v.heap.size (v.alloc (.cells #[.slice none 0 0] t)):=by
 refine⟨?_,?_,?_⟩<;>go_simp
def Box1 (b:Nat) (x:Value) (v:World):Prop:=v.cell? ⟨b,0,none⟩=some x/\b<v.heap.size
theorem Box1.a0b (h:Box1 b x v) (hc:Chg X v v') (hX:¬X b):Box1 b x v':=
 ⟨(hc.cell (p:=⟨b,0,none⟩) h.2 hX).trans h.1,Nat.lt_of_lt_of_le h.2 hc.size⟩
theorem Box1.below (h:Box1 b x v) (hb:Bl v v'):Box1 b x v':=h.a0b (Below.chg hb λ_=>False) λh=>h
theorem Box1.new (x:Value) (t:TypeId) (v:World):Box1 v.heap.size x (v.alloc (.cells #[x] t)):=⟨by go_simp,by simp⟩
theorem Chg.a0n {a:World} (h:Below B a v) (hc:Chg X v v') (hB:B<=v.heap.size) (hX:∀b,X b->B<=b):Below B a v':=h.trans (hc.below hB hX)
end Go.Proofs.YtggfdnopminemaaGreatDoor
