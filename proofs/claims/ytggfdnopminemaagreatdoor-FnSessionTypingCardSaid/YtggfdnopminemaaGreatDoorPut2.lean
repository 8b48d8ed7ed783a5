/- Walks: atoms, translations and entries that the cursor draws. -/
import Derived.Test.YtggfdnopminemaaGreatDoorZt
import Derived.Test.YtggfdnopminemaaGreatDoorCurE1
import Derived.Test.YtggfdnopminemaaGreatDoorIns1
set_option linter.all false
namespace Go.Proofs.YtggfdnopminemaaGreatDoor
open Go Go.RowKit
set_option maxHeartbeats 8000000
set_option maxRecDepth 100000
def b7b (B C K m:Nat) (w:World) (e:Ending) (w':World):Prop:=∃s:Str,e=.returned (.string (S s))∧s.length≤m∧a0d B C K w w'
theorem b8r (B C K:Nat) (w:World) (hK:K<2^38) (h:a1r B C K w) :
 Calls Tryz.prog 304 #[.pointer (some ⟨C,0,none⟩)] w (b7b B C (K+2) 20 w):=by
 have hlt:=h.lt
 have HC:=qh ((a0d.refl h (Nat.le_refl K)).alloc (.cells #[.string (S [99,97,116]),.string (S [104,97,112,112,121]),.string (S [109,97,107,101]),.string (S [114,117,110]),.string (S [116,114,121]),.string (S [98,111,120]),.string (S [100,105,101]),.string (S [97]),.string (S [71,111]),.string (S [52,50]),.string (S [100,111,110,39,116]),.string (S [98,101,101]),.string (S [115]),.string (S [105,110,103]),.string (S [99,104,117,114,99,104]),.string (S [112,108,97,121])] 9))
 have HL:=qh (a2k [[99,97,116],[104,97,112,112,121],[109,97,107,101],[114,117,110],[116,114,121],[98,111,120],[100,105,101],[97],[71,111],[52,50],[100,111,110,39,116],[98,101,101],[115],[105,110,103],[99,104,117,114,99,104],[112,108,97,121]] w 9)
 clear h
 go_enter Tryz.func304,Tryz.ntmps304
 go_wp2_with fail
 refine (b0x B C K w.heap.size 16 [[99,97,116],[104,97,112,112,121],[109,97,107,101],[114,117,110],[116,114,121],[98,111,120],[100,105,101],[97],[71,111],[52,50],[100,111,110,39,116],[98,101,101],[115],[105,110,103],[99,104,117,114,99,104],[112,108,97,121]] _ oZ dZ dZ sZ oZ HL.o HC.o.1).mono ?_
 rintro e w1 ⟨s,hs,rfl,hc⟩
 have H1:=qh (HC.o.trans hc)
 have HS:=qh (show s.length≤20 from (by decide:∀s∈([[99,97,116],[104,97,112,112,121],[109,97,107,101],[114,117,110],[116,114,121],[98,111,120],[100,105,101],[97],[71,111],[52,50],[100,111,110,39,116],[98,101,101],[115],[105,110,103],[99,104,117,114,99,104],[112,108,97,121]]:List Str),s.length≤20) s hs)
 clear hc hs
 go_wp2
 go_ret
 exact⟨s,rfl,HS.o,H1.o⟩
def ABox (b:Nat) (v:World):Prop:=v.cell? ⟨b,0,none⟩=some (.int .i64 0)∧v.cell? ⟨b,1,none⟩=some (.string (S []))∧v.frozen? ⟨b,0,none⟩=false∧v.frozen? ⟨b,1,none⟩=false∧b<v.heap.size
theorem ABox.a0c {b:Nat} {v v':World} {X:Blk} (h:ABox b v) (hc:Chg X v v') (hX:¬X b):ABox b v':=
 ⟨(hc.cell (p:=⟨b,0,none⟩) h.2.2.2.2 hX).trans h.1,(hc.cell (p:=⟨b,1,none⟩) h.2.2.2.2 hX).trans h.2.1,(hc.frozen (p:=⟨b,0,none⟩) h.2.2.2.2 hX).trans h.2.2.1,(hc.frozen (p:=⟨b,1,none⟩) h.2.2.2.2 hX).trans h.2.2.2.1,Nat.lt_of_lt_of_le h.2.2.2.2 hc.size⟩
theorem ABox.alloc {b:Nat} {v:World} (h:ABox b v) (o:Obj):ABox b (v.alloc o):=h.a0c (Below.chg (bZ.alloc lZ o) fun _=>False) fun h=>h
theorem ABox.new (v:World):ABox v.heap.size (v.alloc (.cells #[.int .i64 0,.string (S [])] 177)):=by
 refine⟨?_,?_,?_,?_,?_⟩<;>go_simp
def c5y (B C K:Nat) (w:World) (e:Ending) (w':World):Prop:=∃(k:Int) (s:Str),e=.returned (a3r k s)∧s.length≤20∧a0d B C K w w'
theorem d1h (B C K:Nat) (w:World) (hK:K<2^37) (h:a1r B C K w) :
 Calls Tryz.prog 252 #[.pointer (some ⟨C,0,none⟩)] w (c5y B C (K+4) w):=by
 have hlt:=h.lt
 have HC:=qh ((a0d.refl h (Nat.le_refl K)).alloc (.cells #[.int .i64 0,.string (S [])] 177))
 have HA:=qh (ABox.new w)
 clear h
 go_enter Tryz.func252,Tryz.ntmps252
 go_wp2_with fail
 refine (a1b B C K 14 _ oZ dZ HC.o.1).mono ?_
 rintro e w1 ⟨x,hx,rfl,hc⟩
 have H1:=qh (HC.o.trans hc)
 have HA1:=qh (HA.o.a0c hc.2 oZ)
 have hz1:w.heap.size<w1.heap.size:=HA1.o.2.2.2.2
 clear hc hx HC HA
 by_cases h0:x=0
 ·subst h0;exact zq9
 have h0':¬(x:Int)=0:=by omega
 clear h0
 by_cases h1:x=1
 ·subst h1;exact zq9
 have h1':¬(x:Int)=1:=by omega
 clear h1
 by_cases h2:x=2
 ·subst h2;have HC2:=qh (H1.o.alloc (.cells #[.string (S [117,110]),.string (S [114,101]),.string (S [40])] 9));have HL:=qh (a2k [[117,110],[114,101],[40]] w1 9);have HA2:=qh (HA1.o.alloc (.cells #[.string (S [117,110]),.string (S [114,101]),.string (S [40])] 9));clear HA1
  go_wp2_with fail
  refine (b0x B C (K+2) w1.heap.size 3 [[117,110],[114,101],[40]] _ oZ dZ dZ sZ oZ HL.o HC2.o.1).mono ?_;rintro e w2 ⟨s,hs,rfl,hc⟩;have H2:=qh (HC2.o.trans hc);have HS:=qh (show s.length≤20 from (by decide:∀s∈([[117,110],[114,101],[40]]:List Str),s.length≤20) s hs);have HA3:=qh (HA2.o.a0c hc.2 oZ);clear hc hs HA2 HC2 H1 HL;obtain⟨b0,b1,f0,f1,_⟩:=HA3.o;go_wp2;refine bodyPost_ret (v:=a3r 3 s) (by simp [results,Tryz.results252,go_sem,b0,b1]) rfl ⟨3,s,rfl,HS.o,?_⟩;exact zq10
 have h2':¬(x:Int)=2:=by omega
 clear h2
 by_cases h3:x=3
 ·subst h3;have HC2:=qh (H1.o.alloc (.cells #[.string (S [45]),.string (S [47]),.string (S [39])] 9));have HL:=qh (a2k [[45],[47],[39]] w1 9);have HA2:=qh (HA1.o.alloc (.cells #[.string (S [45]),.string (S [47]),.string (S [39])] 9));clear HA1
  go_wp2_with fail
  refine (b0x B C (K+2) w1.heap.size 3 [[45],[47],[39]] _ oZ dZ dZ sZ oZ HL.o HC2.o.1).mono ?_;rintro e w2 ⟨s,hs,rfl,hc⟩;have H2:=qh (HC2.o.trans hc);have HS:=qh (show s.length≤20 from (by decide:∀s∈([[45],[47],[39]]:List Str),s.length≤20) s hs);have HA3:=qh (HA2.o.a0c hc.2 oZ);clear hc hs HA2 HC2 H1 HL;obtain⟨b0,b1,f0,f1,_⟩:=HA3.o;go_wp2;refine bodyPost_ret (v:=a3r 4 s) (by simp [results,Tryz.results252,go_sem,b0,b1]) rfl ⟨4,s,rfl,HS.o,?_⟩;exact zq10
 have h3':¬(x:Int)=3:=by omega
 clear h3
 by_cases h4:x=4
 ·subst h4;have HC2:=qh (H1.o.alloc (.cells #[.string (S [97]),.string (S [98]),.string (S [55])] 9));have HL:=qh (a2k [[97],[98],[55]] w1 9);have HA2:=qh (HA1.o.alloc (.cells #[.string (S [97]),.string (S [98]),.string (S [55])] 9));clear HA1
  go_wp2_with fail
  refine (b0x B C (K+2) w1.heap.size 3 [[97],[98],[55]] _ oZ dZ dZ sZ oZ HL.o HC2.o.1).mono ?_;rintro e w2 ⟨s,hs,rfl,hc⟩;have H2:=qh (HC2.o.trans hc);have HS:=qh (show s.length≤20 from (by decide:∀s∈([[97],[98],[55]]:List Str),s.length≤20) s hs);have HA3:=qh (HA2.o.a0c hc.2 oZ);clear hc hs HA2 HC2 H1 HL;obtain⟨b0,b1,f0,f1,_⟩:=HA3.o;go_wp2;refine bodyPost_ret (v:=a3r 5 s) (by simp [results,Tryz.results252,go_sem,b0,b1]) rfl ⟨5,s,rfl,HS.o,?_⟩;exact zq10
 have h4':¬(x:Int)=4:=by omega
 clear h4
 by_cases h5:x=5
 ·subst h5;have HC2:=qh (H1.o.alloc (.cells #[.string (S [46]),.string (S [33]),.string (S [63])] 9));have HL:=qh (a2k [[46],[33],[63]] w1 9);have HA2:=qh (HA1.o.alloc (.cells #[.string (S [46]),.string (S [33]),.string (S [63])] 9));clear HA1
  go_wp2_with fail
  refine (b0x B C (K+2) w1.heap.size 3 [[46],[33],[63]] _ oZ dZ dZ sZ oZ HL.o HC2.o.1).mono ?_;rintro e w2 ⟨s,hs,rfl,hc⟩;have H2:=qh (HC2.o.trans hc);have HS:=qh (show s.length≤20 from (by decide:∀s∈([[46],[33],[63]]:List Str),s.length≤20) s hs);have HA3:=qh (HA2.o.a0c hc.2 oZ);clear hc hs HA2 HC2 H1 HL;obtain⟨b0,b1,f0,f1,_⟩:=HA3.o;go_wp2;refine bodyPost_ret (v:=a3r 6 s) (by simp [results,Tryz.results252,go_sem,b0,b1]) rfl ⟨6,s,rfl,HS.o,?_⟩;exact zq10
 have h5':¬(x:Int)=5:=by omega
 clear h5
 by_cases h6:x=6
 ·subst h6;have HC2:=qh (H1.o.alloc (.cells #[.string (S [44]),.string (S [59]),.string (S [58])] 9));have HL:=qh (a2k [[44],[59],[58]] w1 9);have HA2:=qh (HA1.o.alloc (.cells #[.string (S [44]),.string (S [59]),.string (S [58])] 9));clear HA1
  go_wp2_with fail
  refine (b0x B C (K+2) w1.heap.size 3 [[44],[59],[58]] _ oZ dZ dZ sZ oZ HL.o HC2.o.1).mono ?_;rintro e w2 ⟨s,hs,rfl,hc⟩;have H2:=qh (HC2.o.trans hc);have HS:=qh (show s.length≤20 from (by decide:∀s∈([[44],[59],[58]]:List Str),s.length≤20) s hs);have HA3:=qh (HA2.o.a0c hc.2 oZ);clear hc hs HA2 HC2 H1 HL;obtain⟨b0,b1,f0,f1,_⟩:=HA3.o;go_wp2;refine bodyPost_ret (v:=a3r 7 s) (by simp [results,Tryz.results252,go_sem,b0,b1]) rfl ⟨7,s,rfl,HS.o,?_⟩;exact zq10
 have h6':¬(x:Int)=6:=by omega
 clear h6
 by_cases h7:x=7
 ·subst h7
  go_wp2_with fail
  refine (a1b B C (K+2) 3 _ oZ dZ H1.o.1).mono ?_;rintro e w2 ⟨z,hz,rfl,hc⟩;have hz3:z<3:=by omega
  have H2:=qh (H1.o.trans hc);have HA3:=qh (HA1.o.a0c hc.2 oZ);clear hc hz H1 HA1;obtain⟨b0,b1,f0,f1,_⟩:=HA3.o;go_wp2;refine bodyPost_ret (v:=a3r (8+(z:Int)) []) (by simp [results,Tryz.results252,go_sem,b0,b1]) rfl ⟨(8+(z:Int)),[],rfl,Nat.zero_le _,?_⟩;exact zq10
 have h7':¬(x:Int)=7:=by omega
 clear h7
 go_wp2_with fail
 refine (b8r B C (K+2) _ oZ H1.o.1).mono ?_
 rintro e w2 ⟨s,rfl,hs,hc⟩
 have H2:=qh (H1.o.trans hc)
 have HA3:=qh (HA1.o.a0c hc.2 oZ)
 have HS:=qh hs
 clear hc hs H1 HA1
 obtain⟨b0,b1,f0,f1,_⟩:=HA3.o
 go_wp2
 refine bodyPost_ret (v:=a3r 1 s) (by simp [results,Tryz.results252,go_sem,b0,b1]) rfl ⟨1,s,rfl,HS.o,?_⟩
 exact ((H2.o.set (g:=w.heap.size) (i:=0) lZ hlt.2 oZ _).set (g:=w.heap.size) (i:=1) lZ hlt.2 oZ _).mono oZ
def c4f (B C K:Nat) (w:World) (e:Ending) (w':World):Prop:=∃(l:List (Int×Str)) (u:Value),e=.returned u∧l.length≤4∧(∀a∈l,a.2.length≤20)∧a0s w.heap.size w' u l∧a0d B C K w w'
def a9u (B C K:Nat) (w v:World) (u:Value) (l:List (Int×Str)):Prop:=(∃a n c,u=.slice a n c)∧a0s w.heap.size v u l∧a0d B C K w v
theorem a9u.cur {B C K K':Nat} {w v v':World} {u:Value} {l:List (Int×Str)} (h:a9u B C K w v u l) (hw:C<w.heap.size) (hc:a0d B C K' v v'):a9u B C K' w v' u l:=
 ⟨h.1,a0g h.2.1 hc.2 fun k hk e=>by have:=(World.ownsRow.lt h.2.1 k hk).1;omega,h.2.2.trans hc⟩
theorem c3z:(Tryz.prog.info? 177).map (fun i=>(i.zero,i.size,i.bytes))=some (some (.agg #[.int .i64 0,.string ⟨#[]⟩]),2,24):=by kernel_rfl
theorem c7h (B C K:Nat) (w:World) (hK:K<2^36) (h:a1r B C K w) :
 Calls Tryz.prog 193 #[.pointer (some ⟨C,0,none⟩)] w (c4f B C (K+30) w):=by
 obtain⟨i0,hi,hz0,hz1,hz2⟩:=info_parts c3z
 have hlt:=h.lt
 have HC:=qh ((a0d.refl h (Nat.le_refl K)).alloc (.cells #[] 177))
 have HOW:=qh (show a0s w.heap.size (w.alloc (.cells #[] 177)) (.slice (some ⟨w.heap.size,0,none⟩) 0 0) [] by have h:=World.ownsRow_lit (base:=w.heap.size) (e:=177) (size:=2) w #[] 0 lZ (Nat.zero_le _) sZ;exact h)
 clear h
 go_enter Tryz.func193,Tryz.ntmps193
 go_wp2_with fail
 refine (a1b B C K 4 _ oZ dZ HC.o.1).mono ?_
 rintro e w1 ⟨x,hx,rfl,hc⟩
 have hx4:x<4:=by omega
 have HR:=qh (show a9u B C (K+2) w w1 (.slice (some ⟨w.heap.size,0,none⟩) 0 0) [] from a9u.cur (K:=K) ⟨⟨_,_,_,rfl⟩,HOW.o,HC.o⟩ hlt.2 hc)
 clear hc hx HOW
 go_wp2_with fail
 go_loopw [3,4] (fun s n wr=>∃(l:List (Int×Str)) (k:Nat),l.length+k≤4∧(∀a∈l,a.2.length≤20)∧n=.int .i64 k∧a9u B C (K+30-4*k) w wr s l) (fun _ n _=>(intOf n).toNat)
 case atStart=>exact⟨[],x+1,by simp;omega,(fun a h=>by cases h),by go_num,HR.o.1,HR.o.2.1,HR.o.2.2.mono oZ⟩
 case round=>
  obtain⟨l,k,hk,hall,rfl,hr⟩:=hrel;have H3:=qh hr;have HALL:=qh hall;obtain⟨⟨ua,un,uc,rfl⟩,_⟩:=hr;clear hall
  by_cases hp:0<k
  ·go_wp2_with fail
   refine (d1h B C (K+30-4*k) _ oZ H3.o.2.2.1).mono ?_;rintro e w3 ⟨kk,s,rfl,hs,hc⟩;have H5:=qh ((H3.o.cur hlt.2 hc));have HS:=qh hs;have HOW2:=qh (show (w3.alloc (.cells #[.int .i64 kk,.string (S s)] 177)).ownsRow w.heap.size 177 2 (.slice ua un uc) l.length (a0o l) from World.ownsRow.alloc H5.o.2.1 _);have HZ3:=qh H5.o.2.2.2.size;clear hc hs
   go_wp2_with (at_builtin;refine wpList_append_own _ rfl _ _ 171 rfl w.heap.size 177 i0 (.agg #[.int .i64 0,.string ⟨#[]⟩]) 2 24 Tryz.underlying171 hi hz0 hz1 hz2 rfl dZ (.slice ua un uc) l.length (a0o l) rfl HOW2.o ⟨w3.heap.size,0,none⟩ 1 1 [.int .i64 kk,.string (S s)] rfl rfl ?_ ?_ ?_ ?_ ?_ ?_)
   all_goals first|exact⟨rfl,rfl⟩|(intro z hz;simp only [List.mem_cons,List.not_mem_nil,or_false]at hz;rcases hz with rfl|rfl<;>rfl)|(unfold maxLen;omega)|omega|(have h1:=HZ3.o;simp;omega)|(intro i z hz;rcases i with _|_|i;(injection hz with hz;subst hz;rw [add0];go_simp);(injection hz with hz;subst hz;rw [add0];go_simp);cases hz)|skip
   intro u4 w4 hown hgr _;have HOW4:=qh (show a0s w.heap.size w4 u4 (l++[(kk,s)]) by unfold a0s;rw [a9h,List.length_append];exact hown);have HC4:=qh ((H5.o.2.2.alloc (.cells #[.int .i64 kk,.string (S s)] 177)).new (Chg.grown hgr) (fun b hb=>(World.ownsRow.lt H5.o.2.1 b hb).1) hlt.2 oZ);clear hown hgr;go_wp2
   go_roundw
   case rel=>exact⟨_,k-1,by rw [List.length_append];simp;omega,(fun a ha=>by rcases List.mem_append.1 ha with ha|ha;exact HALL.o a ha;simp at ha;subst ha;exact HS.o),by go_num,⟨by obtain⟨a,c,e⟩:=a7h HOW4.o;exact⟨_,_,_,e⟩,HOW4.o,HC4.o.mono oZ⟩⟩
   case measure=>simp [intOf];omega
  ·go_wp2;go_ret;exact⟨l,_,rfl,by omega,HALL.o,H3.o.2.1,H3.o.2.2.mono oZ⟩
theorem l5Text (u:Value) (l:List (Int×Str)) (w:World) (hu:b3w w u l) (hl:l.length≤100) (hw:∀a∈l,a.2.length≤60) :
 Calls Tryz.prog 195 #[u] w fun e w'=>∃s:Str,e=.returned (.string (S s))∧s.length≤66*l.length∧Below w.heap.size w w':=by
 obtain⟨ad,cap,rfl,hr⟩:=hu
 have HR:=qh hr;clear hr
 have HW:=qh hw;clear hw
 go_enter Tryz.func195,Tryz.ntmps195
 go_wp2_with fail
 go_loopw [3,4] (fun z i wr=>∃(j:Nat) (s:Str),j≤l.length∧i=.int .i64 j∧z=.string (S s)∧s.length≤66*j∧Below w.heap.size w wr) (fun _ i _=>l.length-(intOf i).toNat)
 case atStart=>exact⟨0,[],Nat.zero_le _,rfl,rfl,by simp,Below.refl _ _⟩
 case round=>
  obtain⟨j,s,hj,rfl,rfl,hs,hb⟩:=hrel;have HB:=qh hb
  by_cases hlt:j<l.length
  ·obtain⟨g,rfl,hg,hat⟩:∃g,ad=some ⟨g,0,none⟩∧g<w.heap.size∧b4y g l w:=by
    rcases HR.o with h|h
    ·rw [h]at hlt;exact absurd hlt (Nat.not_lt_zero _)
    ·exact h
   obtain⟨c0,c1⟩:=hat j hlt;have c0':=(hb.cell (p:=⟨g,j*2,none⟩) hg).trans c0;have c1':=(hb.cell (p:=⟨g,j*2+1,none⟩) hg).trans c1;have hwl:=HW.o _ (List.getElem_mem hlt);generalize l[j]=a at *;obtain⟨k,t⟩:=a;simp only at c0' c1' hwl;have HNL:=qh (P.b5n k t);have i1:(j:Int)<(l.length:Int):=by omega
   have hsz:=hb.size;clear c0 c1 hat hb;have ho1:¬9223372036854775807<s.length+1:=by omega
   have hnl:(P.note k t).length≤65:=by have:=HNL.o;omega
   have ho2:¬9223372036854775807<s.length+(P.note k t).length:=by omega
   have ho3:¬9223372036854775807<s.length+1+(P.note k t).length:=by omega
   have HNN:=qh hnl;clear hnl
   by_cases hp:0<j
   all_goals
    go_wp2_with fail
    refine (b6g k t _ oZ).mono ?_
    rintro e v ⟨rfl,hb⟩
    have HB2:=qh (HB.o.trans (hb.mono hsz));clear hb
    have hlen:=HNN.o
    generalize P.note k t=q at *
    clear HNL
    go_wp2
    go_roundw
    case rel=>
     repeat apply Exists.intro
     refine⟨?_,rfl⟩;exact⟨j+1,_,by omega,by go_num,rfl,by simp;omega,HB2.o⟩
    case measure=>simp [intOf];omega
  ·clear hb;go_wp2;go_ret;exact⟨s,rfl,by omega,HB.o⟩
theorem b1p (B C K:Nat) (w:World) (hK:K<2^35) (h:a1r B C K w) :
 Calls Tryz.prog 119 #[.pointer (some ⟨C,0,none⟩)] w (b7b B C (K+30) 300 w):=by
 have HC:=qh h
 clear h
 go_enter Tryz.func119,Tryz.ntmps119
 go_wp2_with fail
 refine (c7h B C K _ oZ HC.o).mono ?_
 rintro e w1 ⟨l,u,rfl,hl,hall,ho,hc⟩
 have H1:=qh hc;have HR:=qh (b3j ho);have HALL:=qh (fun a ha=>Nat.le_trans (hall a ha) (by decide:20≤60))
 obtain⟨ua,uc,rfl⟩:=a7h ho
 clear hc ho hall
 go_wp2_with fail
 refine (d3g _ l _ HR.o oZ HALL.o).mono ?_
 rintro e w2 ⟨rfl,hb⟩
 have H2:=qh (H1.o.below hb)
 have HR2:=qh (show b3w w2 (.slice ua l.length uc) l by
  obtain⟨ad,cap,e,h⟩:=HR.o;refine⟨ad,cap,e,h.imp id ?_⟩;rintro⟨g,h1,h2,h3⟩;exact⟨g,h1,Nat.lt_of_lt_of_le h2 hb.size,fun j hj=>⟨(hb.cell (p:=⟨g,_,none⟩) h2).trans (h3 j hj).1,(hb.cell (p:=⟨g,_,none⟩) h2).trans (h3 j hj).2⟩⟩)
 clear hb
 cases hq:P.a8e l
 ·clear hq;go_wp2;go_ret;exact⟨[119,111,114,100],rfl,by simp,H2.o⟩
 ·clear hq
  go_wp2_with fail
  refine (l5Text _ l _ HR2.o oZ HALL.o).mono ?_;rintro e w3 ⟨s,rfl,hs,hb⟩;have H3:=qh (H2.o.below hb);clear hb;go_wp2;go_ret;exact⟨s,rfl,by omega,H3.o⟩
def c3e (b:Nat) (v:World):Prop:=v.cell? ⟨b,0,none⟩=some (.slice none 0 0)∧v.cell? ⟨b,1,none⟩=some (.string (S []))∧v.frozen? ⟨b,0,none⟩=false∧v.frozen? ⟨b,1,none⟩=false∧b<v.heap.size
theorem c3e.a0c {b:Nat} {v v':World} {X:Blk} (h:c3e b v) (hc:Chg X v v') (hX:¬X b):c3e b v':=
 ⟨(hc.cell (p:=⟨b,0,none⟩) h.2.2.2.2 hX).trans h.1,(hc.cell (p:=⟨b,1,none⟩) h.2.2.2.2 hX).trans h.2.1,(hc.frozen (p:=⟨b,0,none⟩) h.2.2.2.2 hX).trans h.2.2.1,(hc.frozen (p:=⟨b,1,none⟩) h.2.2.2.2 hX).trans h.2.2.2.1,Nat.lt_of_lt_of_le h.2.2.2.2 hc.size⟩
theorem c3e.new (v:World):c3e v.heap.size (v.alloc (.cells #[.slice none 0 0,.string (S [])] 119)):=by
 refine⟨?_,?_,?_,?_,?_⟩<;>go_simp
def d1b (B C K:Nat) (w:World) (e:Ending) (w':World):Prop:=∃(o:List Int) (t:Str) (x:Value),e=.returned (.agg #[x,.string (S t)])∧o.length≤3∧t.length≤300∧Ints w' (fun b=>Bet (w.heap.size+1) w'.heap.size b) x o∧a0d B C K w w'
theorem b6s (B C K:Nat) (w:World) (hK:K<2^34) (h:a1r B C K w) :
 Calls Tryz.prog 111 #[.pointer (some ⟨C,0,none⟩)] w (d1b B C (K+100) w):=by
 have hlt:=h.lt
 have HC:=qh ((a0d.refl h (Nat.le_refl K)).alloc (.cells #[.slice none 0 0,.string (S [])] 119))
 have HA:=qh (c3e.new w)
 clear h
 go_enter Tryz.func111,Tryz.ntmps111
 go_wp2_with fail
 refine (a7z B C K _ oZ HC.o.1).mono ?_
 rintro e w1 ⟨o,u,rfl,ho,hown,hc⟩
 have H1:=qh (HC.o.trans hc)
 have HA1:=qh (HA.o.a0c hc.2 oZ)
 have HI:=qh (show Ints w1 (Bet (w.heap.size+1) w1.heap.size) u o by have h:=a3k hown oZ;simpa using h)
 clear hc hown HC HA
 obtain⟨ud,uc,rfl,_,_⟩:=id HI.o
 go_wp2_with fail
 refine (b1p B C (K+60) _ oZ H1.o.1).mono ?_
 rintro e w2 ⟨t,rfl,ht,hc⟩
 have H2:=qh (H1.o.trans hc)
 have HA2:=qh (HA1.o.a0c hc.2 oZ)
 have HI2:=qh (HI.o.a0c a1a hc.2 (fun b hb e=>by have h1:=hb.1;omega))
 have HZ:=qh (show w1.heap.size≤w2.heap.size from hc.2.size)
 clear hc HA1 HI H1
 obtain⟨b0,b1,f0,f1,bz⟩:=HA2.o
 go_wp2
 refine bodyPost_ret (v:=.agg #[.slice ud o.length uc,.string (S t)]) (by simp [results,Tryz.results111,go_sem,b0,b1]) rfl ⟨o,t,_,rfl,ho,ht,?_,?_⟩
 ·refine (HI2.o.a0c (X:=fun b=>b=w.heap.size) a1a ((((Chg.refl (fun b=>b=w.heap.size) w2).setCell (p:=⟨w.heap.size,0,none⟩) rfl _).setCell (p:=⟨w.heap.size,1,none⟩) rfl _)) (fun b hb e=>by have h1:=hb.1;omega)).wide ?_ ?_
  ·intro b hb;have h1:=hb.1;have h2:=hb.2;have h3:=HZ.o;exact⟨h1,by simp [World.setCell];omega⟩
  ·exact fun b hb=>hb.2
 ·exact zq10
def PBx (W:Nat) (dv x:Value) (t:Str) (u:Value) (v:World):Prop:=
 v.cell? ⟨W,0,none⟩=some dv∧v.cell? ⟨W+1,0,none⟩=some x∧v.cell? ⟨W+1,1,none⟩=some (.string (S t))∧v.cell? ⟨W+2,0,none⟩=some (.slice none 0 0)∧v.cell? ⟨W+3,0,none⟩=some u∧v.frozen? ⟨W+2,0,none⟩=false∧v.frozen? ⟨W+3,0,none⟩=false
theorem PBx.step {W:Nat} {dv x u:Value} {t:Str} {v v':World} (h:PBx W dv x t u v) (hb:Below (W+4) v v'):PBx W dv x t u v':=by
 obtain⟨h1,h2,h3,h4,h5,h6,h7⟩:=h
 exact⟨(hb.cell (p:=⟨W,0,none⟩) (by show W<W+4;omega)).trans h1,(hb.cell (p:=⟨W+1,0,none⟩) (by show W+1<W+4;omega)).trans h2,(hb.cell (p:=⟨W+1,1,none⟩) (by show W+1<W+4;omega)).trans h3,(hb.cell (p:=⟨W+2,0,none⟩) (by show W+2<W+4;omega)).trans h4,(hb.cell (p:=⟨W+3,0,none⟩) (by show W+3<W+4;omega)).trans h5,
  (hb.frozen (p:=⟨W+2,0,none⟩) (by show W+2<W+4;omega)).trans h6,(hb.frozen (p:=⟨W+3,0,none⟩) (by show W+3<W+4;omega)).trans h7⟩
theorem PBx.put {W:Nat} {dv x u u':Value} {t:Str} {v:World} (h:PBx W dv x t u v):PBx W dv x t u' (v.setCell ⟨W+3,0,none⟩ u'):=by
 obtain⟨h1,h2,h3,h4,h5,h6,h7⟩:=h;have e:∀b o,b≠W+3→(v.setCell ⟨W+3,0,none⟩ u').cell? ⟨b,o,none⟩=v.cell? ⟨b,o,none⟩:=fun b o hb=>World.cell?_setCell_other _ _ _ _ (by intro e;injection e;omega);exact⟨(e _ _ oZ).trans h1,(e _ _ oZ).trans h2,(e _ _ oZ).trans h3,(e _ _ oZ).trans h4,World.cell?_setCell_same _ _ _ h5,by simpa using h6,by simpa using h7⟩
def OBx (C:Nat) (y:Value) (t:Str) (v:World):Prop:=v.cell? ⟨C,0,none⟩=some y∧v.cell? ⟨C,1,none⟩=some (.string (S t))∧C<v.heap.size
theorem OBx.step {C B:Nat} {y:Value} {t:Str} {v v':World} (h:OBx C y t v) (hb:Below B v v') (hC:C<B):OBx C y t v':=
 ⟨(hb.cell (p:=⟨C,0,none⟩) hC).trans h.1,(hb.cell (p:=⟨C,1,none⟩) hC).trans h.2.1,Nat.lt_of_lt_of_le h.2.2 hb.size⟩
def RP (put:Bool) (F:Blk):Blk:=fun b=>put=true∧F b
structure PFix (W C B1:Nat) (F:Blk):Prop where
 b1:W+4≤B1
 c0:W+4≤C
 c1:C<B1
 f:∀b,F b→W+4≤b∧b<B1∧b≠C
def PInv (w:World) (dv x:Value) (o:List Int) (t:Str) (C:Nat) (y:Value) (F:Blk) (B1:Nat) (put:Bool) (row:P.Dic) (u:Value) (xs:List Value) (v:World):Prop:=
 PBx w.heap.size dv x t u v∧OBx C y t v∧(put=false→Ints v F y o)∧AccR 119 2 entE B1 (RP put F) v u row xs∧Below w.heap.size w v
section
variable {w v v1 v2 v3:World} {dv x y u:Value} {o:List Int} {t:Str} {C B1:Nat} {F:Blk} {put put':Bool} {row:P.Dic} {xs:List Value}
theorem PInv.size (h:PInv w dv x o t C y F B1 put row u xs v):B1≤v.heap.size:=h.2.2.2.1.size
theorem PInv.below (h:PInv w dv x o t C y F B1 put row u xs v) (hf:PFix w.heap.size C B1 F) (hb:Below v.heap.size v v1):PInv w dv x o t C y F B1 put row u xs v1:=by
 have hz:=h.size;have h1:=hf.b1;have h2:=hf.c1;obtain⟨p1,p2,p3,p4,p5⟩:=h;exact⟨p1.step (hb.mono oZ),p2.step hb oZ,fun e=>(p3 e).below a1a hb,p4.keep a0e hb,p5.trans (hb.mono oZ)⟩
theorem PInv.done (h:PInv w dv x o t C y F B1 put row u xs v) (hf:PFix w.heap.size C B1 F) (z:Value) (hl:row.length≤2^30):Ents (v.setCell ⟨w.heap.size+2,0,none⟩ z) (Bet w.heap.size (v.setCell ⟨w.heap.size+2,0,none⟩ z).heap.size) u row∧Below w.heap.size w (v.setCell ⟨w.heap.size+2,0,none⟩ z):=by
 have h1:=hf.b1;refine⟨b2n (w.heap.size+2) (h.2.2.2.1.row hl) fun b hb=>?_,h.2.2.2.2.setCell sZ _⟩
 rcases hb.1 with h2|h2
 ·have:=hb.2;omega
 ·have:=(hf.f b h2.2).1;have:=hb.2;omega
theorem PInv.app (h:PInv w dv x o t C y F B1 put row u xs v) (hf:PFix w.heap.size C B1 F) {F':Blk} {cs:List Value} {a:P.Ent} {g cap:Nat} (hb1:Below v.heap.size v v1) (hF':∀b,F' b→(v.heap.size≤b∨(RP put' F b∧¬RP put F b))∧b<v1.heap.size) (hpp:put=true→put'=true)
 (ha:entE v1 F' cs a) (hw:cs.length=2) (hb2:Below v1.heap.size v1 v2)
 (hown:v3.ownsRow B1 119 2 (.slice (some ⟨g,0,none⟩) (row.length+1) cap) (row.length+1) (xs++cs)) (hgr:v2.grownBy v3 u.ownBlock) (hat:u.ownBlock=some g∨g=v2.heap.size) :
 PInv w dv x o t C y F B1 put' (row++[a]) (.slice (some ⟨g,0,none⟩) (row.length+1) cap) (xs++cs) (v3.setCell ⟨w.heap.size+3,0,none⟩ (.slice (some ⟨g,0,none⟩) (row.length+1) cap)):=by
 have hz:=h.size
 have f1:=hf.b1;have f2:=hf.c1;have f3:=hf.c0
 obtain⟨p1,p2,p3,p4,p5⟩:=h
 have hRb:∀q b,RP q F b→b<B1:=fun q b hb=>(hf.f b hb.2).2.1
 have hac:=p4.snoc (R':=RP put' F) (a:=a) a0e hb1 hF' (fun b hb=>⟨hpp hb.1,hb.2⟩) (hRb put') ha hw hb2 hown hgr hat
 have hz1:=hb1.size;have hz2:=hb2.size
 have hb3:Below B1 v2 v3:=bZ.grown hgr oZ (fun k hk=>(World.ownsRow.lt p4.owns k hk).1)
 have hbv:Below B1 v v3:=(hb1.mono hz).trans ((hb2.mono oZ).trans hb3)
 have hc:Chg (fun b=>b=w.heap.size+3) v3 (v3.setCell ⟨w.heap.size+3,0,none⟩ (.slice (some ⟨g,0,none⟩) (row.length+1) cap)):=(Chg.refl (fun b=>b=w.heap.size+3) v3).setCell (p:=⟨w.heap.size+3,0,none⟩) rfl _
 refine⟨(p1.step (hbv.mono f1)).put,?_,fun e=>?_,?_,(p5.trans (hbv.mono oZ)).setCell sZ _⟩
 ·have h2:=p2.step hbv f2;exact⟨(hc.cell (p:=⟨C,0,none⟩) h2.2.2 (by show C≠_;omega)).trans h2.1,(hc.cell (p:=⟨C,1,none⟩) h2.2.2 (by show C≠_;omega)).trans h2.2.1,by simpa [World.setCell] using h2.2.2⟩
 ·have e0:put=false:=by
   cases hp:put with
   |false=>rfl
   |true=>rw [hpp hp]at e;cases e
  have q:=p3 e0;have q3:Ints v3 F y o:=q.keep a1a ⟨hbv.size,fun b hb=>hbv.block b (hf.f b hb).2.1⟩;exact q3.a0c a1a hc (fun b hb e=>by have:=(hf.f b hb).1;omega)
 ·exact hac.a0c a0e hc (fun b hb=>⟨by rw [hb];omega,fun hr=>by have:=(hf.f b hr.2).1;rw [hb]at this;omega⟩)
end
def KR3 (W:Nat) (x:Value) (t:Str) (v:World):Prop:=v.cell? ⟨W+1,0,none⟩=some x∧v.cell? ⟨W+1,1,none⟩=some (.string (S t))
theorem KR3.step {W:Nat} {x:Value} {t:Str} {v v':World} (h:KR3 W x t v) (hb:Below (W+4) v v'):KR3 W x t v':=
 ⟨(hb.cell (p:=⟨W+1,0,none⟩) (by show W+1<W+4;omega)).trans h.1,(hb.cell (p:=⟨W+1,1,none⟩) (by show W+1<W+4;omega)).trans h.2⟩
def KR7 (W:Nat) (dv x:Value) (g p:Nat) (xe:Value) (v:World):Prop:=v.cell? ⟨W,0,none⟩=some dv∧v.cell? ⟨W+1,0,none⟩=some x∧v.cell? ⟨g,p,none⟩=some xe∧g<W
theorem KR7.step {W:Nat} {dv x:Value} {g p:Nat} {xe:Value} {v v':World} (h:KR7 W dv x g p xe v) (hb:Below (W+4) v v'):KR7 W dv x g p xe v':=by
 obtain⟨h1,h2,h3,h4⟩:=h;exact⟨(hb.cell (p:=⟨W,0,none⟩) (by show W<W+4;omega)).trans h1,(hb.cell (p:=⟨W+1,0,none⟩) (by show W+1<W+4;omega)).trans h2,(hb.cell (p:=⟨g,p,none⟩) (by show g<W+4;omega)).trans h3,h4⟩
def KRP (W:Nat) (dv u:Value) (g p:Nat) (x:Value) (et:Str) (v:World):Prop:=
 v.cell? ⟨W,0,none⟩=some dv∧v.cell? ⟨W+3,0,none⟩=some u∧v.cell? ⟨g,p,none⟩=some x∧v.cell? ⟨g,p+1,none⟩=some (.string (S et))∧v.frozen? ⟨W+3,0,none⟩=false∧g<W
theorem KRP.step {W:Nat} {dv u:Value} {g p:Nat} {x:Value} {et:Str} {v v':World} (h:KRP W dv u g p x et v) (hb:Below (W+4) v v'):KRP W dv u g p x et v':=by
 obtain⟨h1,h2,h3,h4,h5,h6⟩:=h
 exact⟨(hb.cell (p:=⟨W,0,none⟩) (by show W<W+4;omega)).trans h1,(hb.cell (p:=⟨W+3,0,none⟩) (by show W+3<W+4;omega)).trans h2,(hb.cell (p:=⟨g,p,none⟩) (by show g<W+4;omega)).trans h3,
  (hb.cell (p:=⟨g,p+1,none⟩) (by show g<W+4;omega)).trans h4,(hb.frozen (p:=⟨W+3,0,none⟩) (by show W+3<W+4;omega)).trans h5,h6⟩
end Go.Proofs.YtggfdnopminemaaGreatDoor
