/- Walks: the cursor. -/
import Derived.Test.YtggfdnopminemaaGreatDoorCurCm
set_option linter.all false
namespace Go.Proofs.YtggfdnopminemaaGreatDoor
open Go.Proofs.Tryz
open Go Go.RowKit
set_option maxHeartbeats 8000000
set_option maxRecDepth 100000
variable {b:Nat} {x y:Str} {v:Go.World}
def RBx (b:Nat) (x y:Str) (v:World):Prop:=v.cell? ⟨b,0,none⟩=some (.string (S x))/\v.cell? ⟨b,1,none⟩=some (.string (S y))/\v.frozen? ⟨b,0,none⟩=false/\v.frozen? ⟨b,1,none⟩=false/\b<v.heap.size
theorem RBx.a0b {v':World} {X:Blk} (h:RBx b x y v) (hc:Chg X v v') (hX:¬X b):RBx b x y v':=
 ⟨(hc.cell (p:=⟨b,0,none⟩) h.2.2.2.2 hX).trans h.1,(hc.cell (p:=⟨b,1,none⟩) h.2.2.2.2 hX).trans h.2.1,(hc.frozen (p:=⟨b,0,none⟩) h.2.2.2.2 hX).trans h.2.2.1,(hc.frozen (p:=⟨b,1,none⟩) h.2.2.2.2 hX).trans h.2.2.2.1,Nat.lt_of_lt_of_le h.2.2.2.2 hc.size⟩
theorem RBx.alloc (h:RBx b x y v) (o:Obj):RBx b x y (v.alloc o):=h.a0b (Below.chg (bZ.alloc lZ o) λ_=>False) λh=>h
theorem RBx.new (x y:Str) (t:TypeId) (v:World):RBx v.heap.size x y (v.alloc (.cells #[.string (S x),.string (S y)] t)):=by
 refine⟨?_,?_,?_,?_,?_⟩<;>go_simp
theorem d6s:(Tryz.prog.info? 5).map (λi=>(i.zero,i.size,i.bytes))=some (some (.int .u8 0),1,1):=by kernel_rfl
theorem d7a (w:World):(Instr.makeSlice 22 (.int .i64 3) (.int .i64 3)).run Tryz.prog w=.ok (.slice (some ⟨w.heap.size,0,none⟩) 3 3) (w.alloc (.cells #[.int .u8 0,.int .u8 0,.int .u8 0] 5)):=by
 obtain⟨i,hi,he⟩:=Option.map_eq_some_iff.mp d6s;simp only [Prod.mk.injEq]at he;obtain⟨hz,hs,hb⟩:=he;have h:=run_make (P:=Tryz.prog) w 22 5 i (.int .u8 0) underlying22 hi hz .i64 .i64 3 3 oZ oZ (by rw [hb];decide) dZ;rw [hs,show madeCells (Value.int .u8 0).cells (Int.toNat 3*1)=#[.int .u8 0,.int .u8 0,.int .u8 0] by simp [madeCells,Value.cells,<-Array.toList_inj,List.range_succ]]at h;exact h
def d7w (B C K:Nat) (w:World) (e:Ending) (w':World):Prop:=∃c r:Str,c.length<=16/\r.length<=16/\e=.returned (.agg #[.string (S c),.string (S r)])/\a0d B C K w w'
theorem b8z (B C K:Nat) (t u:Str) (w:World) (hK:K<2^38) (ht:t.length<=2^30) (hu:u.length<=2^20) (hu0:0<u.length) (h:a1o B C K w) :
 Cz 105 #[.pointer (some ⟨C,0,none⟩),.string (S t),.string (S u)] w λe w'=>∃s:Str,s.length<=t.length+1/\e=.returned (.string (S s))/\a0d B C (K+6) w w':=by
 have HC:=qh h;clear h
 cases t with
 |nil=>
  go_enter func105,ntmps105
  go_wp2;go_ret;exact⟨u.take 1,by simp;omega,rfl,a0d.refl HC.o oZ⟩
 |cons a t'=>
  obtain⟨t,htt⟩:∃t,t=a::t':=⟨_,rfl⟩;rw [<-htt]at ht⊢;have ht0:0<t.length:=by rw [htt];simp
  have hbe:(t==[])=false:=by rw [htt];rfl
  clear htt
  go_enter func105,ntmps105
  go_wp2_with fail
  refine (a0y B C K t.length w oZ oZ HC.o).mono ?_;rintro e w1 ⟨i,hi,rfl,hc⟩;have hil:i<t.length:=by omega
  have H1:=qh hc;clear hc hi
  go_wp2_with fail
  refine (a0y B C (K+2) u.length w1 oZ oZ H1.o.1).mono ?_;rintro e w2 ⟨j,hj,rfl,hc⟩;have hjl:j<u.length:=by omega
  have H2:=qh (H1.o.trans hc);clear hc hj H1
  go_wp2_with fail
  refine (a0y B C (K+4) 3 w2 oZ oZ H2.o.1).mono ?_;rintro e w3 ⟨k,hk,rfl,hc⟩;have hkl:k<3:=by omega
  have H3:=qh (H2.o.trans hc);clear hc hk H2;have hi1:i+1<=t.length:=hil;have hmin:min i t.length=i:=Nat.min_eq_left oZ;obtain⟨c,hc⟩:∃c,c=List.take 1 (List.drop j u):=⟨_,rfl⟩;have hcl:c.length<=1:=by rw [hc];simp;omega
  have f1:¬9223372036854775807<i+c.length:=by omega
  have f2:¬9223372036854775807<i+c.length+(t.length-i):=by omega
  have f3:¬9223372036854775807<i+c.length+(t.length-(i+1)):=by omega
  have f4:¬9223372036854775807<i+(t.length-(i+1)):=by omega
  match k,hkl with
  |0,_=>
   go_wp2;rw [<-hc]
   go_quiet (fail)
   go_wp2;go_ret;exact⟨List.take i t++(List.take 1 (List.drop j u)++List.drop i t),by simp;omega,rfl,H3.o.drewN _⟩
  |1,_=>
   go_wp2;rw [<-hc]
   go_quiet (fail)
   go_wp2;go_ret;exact⟨List.take i t++(List.take 1 (List.drop j u)++List.drop (i+1) t),by simp;omega,rfl,H3.o.drewN _⟩
  |2,_=>
   go_wp2
   go_quiet (fail)
   go_wp2;go_ret;exact⟨List.take i t++List.drop (i+1) t,by simp;omega,rfl,H3.o.drewN _⟩
theorem c9r (B C K:Nat) (w:World) (hK:K<2^38) (h:a1o B C K w) :
 Cz 55 #[.pointer (some ⟨C,0,none⟩)] w (d7w B C (K+8) w):=by
 have P0:=qh (a0d.refl h lZ)
 obtain⟨hBC,hC⟩:=h.lt
 clear h
 go_enter func55,ntmps55
 go_wp2_with fail
 refine (a3y B C K _ _ [[99,111,117,110,116],[112,114,101,115,115,32,75,65,84],[120],[108,111,111,107,117,112,32,75,65,84],[48,32,49]] _ oZ dZ dZ sZ oZ ?_ ((P0.o.alloc _).alloc _).1).mono ?_
 .exact e2e
 rintro e w1 ⟨s,hs,rfl,hc⟩
 have P1:=qh (((P0.o.alloc _).alloc _).trans hc)
 have hsl:s.length<=16:=(by decide:∀s∈([[99,111,117,110,116],[112,114,101,115,115,32,75,65,84],[120],[108,111,111,107,117,112,32,75,65,84],[48,32,49]]:List Str),s.length<=16) s hs
 have R1:=qh (((RBx.new [] [] 86 w).alloc _).a0b hc.2 oZ)
 clear hc hs
 go_wp2_with fail
 refine (a3y B C (K+2) _ _ [[],[51],[63],[97,62,98],[45,49,43,105,110,103]] _ oZ dZ dZ sZ (by have:=R1.o.2.2.2.2;omega) ?_ (P1.o.alloc _).1).mono ?_
 .exact e2e
 rintro e w2 ⟨r,hs,rfl,hc⟩
 have P2:=qh ((P1.o.alloc _).trans hc)
 have hrl:r.length<=16:=(by decide:∀s∈([[],[51],[63],[97,62,98],[45,49,43,105,110,103]]:List Str),s.length<=16) r hs
 have R2:=qh ((R1.o.alloc _).a0b hc.2 oZ)
 clear hc hs R1 P1
 have hz2:w.heap.size<w2.heap.size:=R2.o.2.2.2.2
 go_wp2_with fail
 refine (a0y B C (K+4) 24 _ oZ oZ (P2.o.alloc _).1).mono ?_
 rintro e w3 ⟨k,_,rfl,hc⟩
 have P3:=qh ((P2.o.alloc _).trans hc)
 have R3:=qh ((R2.o.alloc _).a0b hc.2 oZ)
 have E3:=qh ((RBx.new s r 86 w2).a0b hc.2 oZ)
 have hz3:w2.heap.size<w3.heap.size:=E3.o.2.2.2.2
 clear hc R2 P2
 obtain⟨k0,k1,g0,g1,_⟩:=R3.o
 obtain⟨e0,e1,m0,m1,_⟩:=E3.o
 by_cases hk0:k=0
 .subst hk0;have hz03:w.heap.size<w3.heap.size:=by omega
  have hback:=run_convert_bytes_back (P:=Tryz.prog) (w3.alloc (.cells #[.int .u8 0,.int .u8 0,.int .u8 0] 5)) 22 9 5 ⟨w3.heap.size,0,none⟩ 3 [0,0,0] underlying22 underlying5 underlying9 (by
   intro j hj
   rw [add0]
   match j,hj with|0,_=>go_simp|1,_=>go_simp|2,_=>go_simp)
  rw [show ([0,0,0]:List UInt8).length=3 from rfl]at hback;have hmk:(Instr.makeSlice 22 (.int .i64 3) (.int .i64 3)).run Tryz.prog w3=.ok (.slice (some ⟨w3.heap.size,0,none⟩) 3 3) (w3.alloc (.cells #[.int .u8 0,.int .u8 0,.int .u8 0] 5)):=d7a w3
  go_wp2_with fail
  refine (a3y B C (K+6) _ _ [[],[97,62,98],[97,35],[10],[0,0,0]] _ oZ dZ dZ sZ oZ ?_ ((P3.o.alloc _).alloc _).1).mono ?_
  .exact e2e
  rintro e w4 ⟨x,hs,rfl,hc⟩;have P4:=qh (((P3.o.alloc _).alloc _).trans hc);have hxl:x.length<=16:=(by decide:∀s∈([[],[97,62,98],[97,35],[10],[0,0,0]]:List Str),s.length<=16) x hs;have R4:=qh (((R3.o.alloc _).alloc _).a0b hc.2 oZ);have E4:=qh (((E3.o.alloc _).alloc _).a0b hc.2 oZ);clear hc hs k0 k1 g0 g1 e0 e1 m0 m1 P3 R3 E3 hmk hback;obtain⟨k0,k1,g0,g1,_⟩:=R4.o;obtain⟨e0,e1,m0,m1,_⟩:=E4.o;go_wp2;refine bodyPost_ret (v:=.agg #[.string (S x),.string (S r)]) (by simp [results,results55,go_sem,k0,k1]) rfl ⟨x,r,by omega,by omega,rfl,?_⟩;exact zq164
 .by_cases hk1:k=1
  .subst hk1
   go_wp2_with fail
   refine (a3y B C (K+6) _ _ [[35],[10],[127]] _ oZ dZ dZ sZ oZ ?_ (P3.o.alloc _).1).mono ?_
   .intro j hj
    match j,hj with|0,_=>go_simp|1,_=>go_simp|2,_=>go_simp
   rintro e w4 ⟨x,hs,rfl,hc⟩;have P4:=qh ((P3.o.alloc _).trans hc);have hxl:x.length<=16:=(by decide:∀s∈([[35],[10],[127]]:List Str),s.length<=16) x hs;have R4:=qh ((R3.o.alloc _).a0b hc.2 oZ);have E4:=qh ((E3.o.alloc _).a0b hc.2 oZ);clear hc hs k0 k1 g0 g1 e0 e1 m0 m1 P3 R3 E3;obtain⟨k0,k1,g0,g1,_⟩:=R4.o;obtain⟨e0,e1,m0,m1,_⟩:=E4.o;go_wp2;refine bodyPost_ret (v:=.agg #[.string (S s),.string (S x)]) (by simp [results,results55,go_sem,k0,k1]) rfl ⟨s,x,by omega,by omega,rfl,?_⟩;exact zq164
  .have hx0:¬(k:Int)=0:=by omega
   have hx1:¬(k:Int)=1:=by omega
   go_wp2;refine bodyPost_ret (v:=.agg #[.string (S s),.string (S r)]) (by simp [results,results55,go_sem,k0,k1]) rfl ⟨s,r,by omega,by omega,rfl,?_⟩;exact ((P3.o.set oZ oZ oZ _).set oZ oZ oZ _).mono oZ
end Go.Proofs.YtggfdnopminemaaGreatDoor
namespace Go.Proofs.YtggfdnopminemaaGreatDoor.L
open Go.Proofs.Tryz
open Go Go.RowKit
set_option maxHeartbeats 8000000
set_option maxRecDepth 100000
theorem b0o (d p:Str) (n:Int) (c r:Str) (w:World) (hd:d.length<=2^20) (hp:p.length<=2^20) (hc:c.length<=2^20) (hr:r.length<=2^20) (hE:Env w) :
 Cz 54 #[logV d p n,.agg #[.string (S c),.string (S r)]] w λe w'=>e=.returned (.tuple #[logV d (P.appS d p n c r).1 (P.appS d p n c r).2.1,.int .i64 (P.appS d p n c r).2.2])/\Bl w w':=by
 have A1:=qh (AB.start (w:=w) (d:=d) (p:=p) (n:=n) (c:=c) (r:=r) (t:=28) (u:=86) hE)
 clear hE
 cases h1:P.a0p d p n
 .have HF:=qh (show P.appS d p n c r=(p,n,1) by unfold P.appS;rw [h1];rfl);go_enter func54,ntmps54;go_wp2_with fail;refine (b6y _ _ _ _ hd hp).mono ?_;rintro e w1 ⟨rfl,hb⟩;refine zn25 ?_;intro A2 a1 a2 a3 b1 b2 c1 c2 c3 d1 d2 d3 e1 e2 e3 hz;clear hb A1;go_wp2;refine bodyPost_ret (v:=.tuple #[logV d p n,.int .i64 1]) (by simp [results,results54,go_sem,c1,c2,c3]) rfl ⟨by rw [HF.o],?_⟩;exact ((A2.o.below.setCell (by simp;omega) _).setCell (by simp;omega) _).setCell (by simp;omega) _
 .cases h2:P.good c r
  .have HF:=qh (show P.appS d p n c r=(p,n,1) by unfold P.appS;rw [h1,h2];rfl);go_enter func54,ntmps54;go_wp2_with fail;refine (b6y _ _ _ _ hd hp).mono ?_;rintro e w1 ⟨rfl,hb⟩;refine zn25 ?_;intro A2 a1 a2 a3 b1 b2 c1 c2 c3 d1 d2 d3 e1 e2 e3 hz;clear hb A1;go_wp2_with fail;refine zm62 ?_;rintro e w2 ⟨rfl,hb⟩;refine zn69 ?_;clear hb A2 a1 a2 a3 b1 b2 c1 c2 c3 d1 d2 d3 e1 e2 e3 hz;intro A3 a1 a2 a3 b1 b2 c1 c2 c3 d1 d2 d3 e1 e2 e3 hz;go_wp2;refine bodyPost_ret (v:=.tuple #[logV d p n,.int .i64 1]) (by simp [results,results54,go_sem,c1,c2,c3]) rfl ⟨by rw [HF.o],?_⟩;exact zq95
  .cases h3:(n==60)
   .obtain⟨hn0,hn1,_⟩:=P.a7l h1;obtain⟨x,hx⟩:∃x,P.line n.toNat c r=x:=⟨_,rfl⟩;have HX:=qh hx;have HF:=qh (show P.appS d p n c r=(p++x,n+1,0) by unfold P.appS;rw [h1,h2,h3,hx];rfl)
    have hxl:x.length<=10000:=by
     rw [<-hx];have h6:n≠60:=by simpa using h3
     have:=(P.a4x (k:=n.toNat) oZ h2).1;omega
    clear hx;have f1:¬9223372036854775807<p.length+x.length:=by omega
    go_enter func54,ntmps54;go_wp2_with fail;refine (b6y _ _ _ _ hd hp).mono ?_;rintro e w1 ⟨rfl,hb⟩;refine zn25 ?_;intro A2 a1 a2 a3 b1 b2 c1 c2 c3 d1 d2 d3 e1 e2 e3 hz;clear hb A1;go_wp2_with fail;refine zm62 ?_;rintro e w2 ⟨rfl,hb⟩;refine zn69 ?_;clear hb A2 a1 a2 a3 b1 b2 c1 c2 c3 d1 d2 d3 e1 e2 e3 hz;intro A3 a1 a2 a3 b1 b2 c1 c2 c3 d1 d2 d3 e1 e2 e3 hz;go_upto_region 5 with fail;have A4:AB w d p n c r w2.drew:=A3.o.carry (bZ.drew);clear a1 a2 a3 b1 b2 c1 c2 c3 d1 d2 d3 e1 e2 e3 hz A3;have A5:=qh A4;obtain⟨⟨a1,a2,a3⟩,⟨b1,b2⟩,⟨c1,c2,c3⟩,⟨d1,d2,d3⟩,⟨e1,e2,e3⟩,hz,_⟩:=A4;go_region_law ((go_simp;go_at_call 122;refine (d5p _ _ _ _ hn0 oZ oZ oZ).mono ?_;rintro e v ⟨rfl,hb⟩;rw [HX.o];have A6:=qh (A5.o.carry hb);obtain⟨⟨a1,a2,a3⟩,⟨b1,b2⟩,⟨c1,c2,c3⟩,⟨d1,d2,d3⟩,⟨e1,e2,e3⟩,hz,_⟩:=A6.o;clear hb));all_goals
     go_wp2
     refine bodyPost_ret (v:=.tuple #[logV d (p++x) (n+1),.int .i64 0]) (by simp [results,results54,go_sem,c1,c2,c3]) rfl ⟨by rw [HF.o],?_⟩
     exact (((((A6.o.below.setCell sZ _).setCell sZ _).setCell (by simp;omega) _).setCell (by simp;omega) _).setCell (by simp;omega) _)
   .have HF:=qh (show P.appS d p n c r=(p,n,2) by unfold P.appS;rw [h1,h2,h3];rfl);go_enter func54,ntmps54;go_wp2_with fail;refine (b6y _ _ _ _ hd hp).mono ?_;rintro e w1 ⟨rfl,hb⟩;refine zn25 ?_;intro A2 a1 a2 a3 b1 b2 c1 c2 c3 d1 d2 d3 e1 e2 e3 hz;clear hb A1;go_wp2_with fail;refine zm62 ?_;rintro e w2 ⟨rfl,hb⟩;refine zn69 ?_;clear hb A2 a1 a2 a3 b1 b2 c1 c2 c3 d1 d2 d3 e1 e2 e3 hz;intro A3 a1 a2 a3 b1 b2 c1 c2 c3 d1 d2 d3 e1 e2 e3 hz;go_wp2;refine bodyPost_ret (v:=.tuple #[logV d p n,.int .i64 2]) (by simp [results,results54,go_sem,c1,c2,c3]) rfl ⟨by rw [HF.o],?_⟩;exact zq95
end Go.Proofs.YtggfdnopminemaaGreatDoor.L
namespace Go.Proofs.YtggfdnopminemaaGreatDoor
open Go.Proofs.Tryz
open Go Go.RowKit
set_option maxHeartbeats 8000000
set_option maxRecDepth 100000
variable {X:Blk} {n z:Int} {st:List Int} {B C G K K' b lo m:Nat} {l l0:P.Dic} {d p x y:Str} {t:Go.TypeId} {u u0 us:Go.Value} {v v' w w1:Go.World}
theorem a0d.envL {u:World} (h:a0d B C K u v) (hE:L.Env u) (hB:L.EB<=B) (hl:B<=C) (hC:C<u.heap.size):L.Env v:=
 hE.below (h.2.below (B:=B) oZ (by rintro b rfl;exact hl)) hB
def LgB (b:Nat) (x y:Str) (z:Int) (v:World):Prop:=
 v.cell? ⟨b,0,none⟩=some (.string (S x))/\v.cell? ⟨b,1,none⟩=some (.string (S y))/\v.cell? ⟨b,2,none⟩=some (.int .i64 z) /\
 v.frozen? ⟨b,0,none⟩=false/\v.frozen? ⟨b,1,none⟩=false/\v.frozen? ⟨b,2,none⟩=false/\b<v.heap.size
theorem LgB.a0b (h:LgB b x y z v) (hc:Chg X v v') (hX:¬X b):LgB b x y z v':=by
 obtain⟨a1,a2,a3,b1,b2,b3,hz⟩:=h;exact⟨(hc.cell (p:=⟨b,0,none⟩) hz hX).trans a1,(hc.cell (p:=⟨b,1,none⟩) hz hX).trans a2,(hc.cell (p:=⟨b,2,none⟩) hz hX).trans a3,(hc.frozen (p:=⟨b,0,none⟩) hz hX).trans b1,(hc.frozen (p:=⟨b,1,none⟩) hz hX).trans b2,(hc.frozen (p:=⟨b,2,none⟩) hz hX).trans b3,Nat.lt_of_lt_of_le hz hc.size⟩
theorem LgB.below (h:LgB b x y z v) (hb:Bl v v'):LgB b x y z v':=h.a0b (Below.chg hb λ_=>False) λh=>h
theorem LgB.new (x y:Str) (z:Int) (t:TypeId) (v:World):LgB v.heap.size x y z (v.alloc (.cells #[.string (S x),.string (S y),.int .i64 z] t)):=by
 refine⟨?_,?_,?_,?_,?_,?_,?_⟩<;>go_simp
theorem LgB.put (h:LgB b x y z v) (x' y':Str) (z':Int) :
 LgB b x' y' z' (((v.setCell ⟨b,0,none⟩ (.string (S x'))).setCell ⟨b,1,none⟩ (.string (S y'))).setCell ⟨b,2,none⟩ (.int .i64 z')):=by
 obtain⟨a1,a2,a3,b1,b2,b3,hz⟩:=h
 exact⟨by go_simp,by go_simp,by go_simp,by simpa using b1,by simpa using b2,by simpa using b3,by simpa using hz⟩
theorem LgB.put0 (h:LgB b x y z v) (x':Str):LgB b x' y z (v.setCell ⟨b,0,none⟩ (.string (S x'))):=by
 exact zq92
theorem LgB.put1 (h:LgB b x y z v) (y':Str):LgB b x y' z (v.setCell ⟨b,1,none⟩ (.string (S y'))):=by
 exact zq92
theorem LgB.put2 (h:LgB b x y z v) (z':Int):LgB b x y z' (v.setCell ⟨b,2,none⟩ (.int .i64 z')):=by
 exact zq92
def CL (B C K:Nat) (w:World) (G:Nat) (x y:Str) (z:Int) (v:World):Prop:=
 a0d B C K w v/\L.Env v/\LgB w.heap.size [] [] 0 v/\LgB G x y z v/\L.EB<=B/\B<=C/\C<w.heap.size/\w.heap.size<G
theorem CL.cur (h:CL B C K w G x y z v) (hc:a0d B C K' v v'):CL B C K' w G x y z v':=by
 obtain⟨h1,h2,h3,h4,h5,h6,h7,h8⟩:=h;exact⟨h1.trans hc,hc.envL h2 h5 h6 h1.1.lt.2,h3.a0b hc.2 oZ,h4.a0b hc.2 oZ,h5,h6,h7,h8⟩
theorem CL.call (h:CL B C K w G x y z v) (hb:Bl v v'):CL B C K w G x y z v':=by
 obtain⟨h1,h2,h3,h4,h5,h6,h7,h8⟩:=h;exact⟨h1.below hb,h2.below hb h2.size,h3.below hb,h4.below hb,h5,h6,h7,h8⟩
theorem CL.drew (h:CL B C K w G x y z v):CL B C K w G x y z v.drew:=h.call bZ.drew
theorem CL.to {x' y':Str} {z':Int} (h:CL B C K w G x y z v) (hc:Chg (λb=>b=G) v v') (hn:LgB G x' y' z' v'):CL B C K w G x' y' z' v':=by
 obtain⟨h1,h2,h3,h4,h5,h6,h7,h8⟩:=h;exact⟨h1.new hc (by rintro b rfl;omega) h7 oZ,h2.below (hc.below h2.size (by rintro b rfl;omega)) lZ,h3.a0b hc oZ,hn,h5,h6,h7,h8⟩
theorem CL.put (h:CL B C K w G x y z v) (x' y':Str) (z':Int) :
 CL B C K w G x' y' z' (((v.setCell ⟨G,0,none⟩ (.string (S x'))).setCell ⟨G,1,none⟩ (.string (S y'))).setCell ⟨G,2,none⟩ (.int .i64 z')):=
 h.to ((((Chg.refl (λb=>b=G) v).setCell (p:=⟨G,0,none⟩) rfl _).setCell (p:=⟨G,1,none⟩) rfl _).setCell (p:=⟨G,2,none⟩) rfl _) (h.2.2.2.1.put _ _ _)
theorem CL.put0 (h:CL B C K w G x y z v) (x':Str):CL B C K w G x' y z (v.setCell ⟨G,0,none⟩ (.string (S x'))):=
 h.to ((Chg.refl (λb=>b=G) v).setCell (p:=⟨G,0,none⟩) rfl _) (h.2.2.2.1.put0 _)
theorem CL.put1 (h:CL B C K w G x y z v) (y':Str):CL B C K w G x y' z (v.setCell ⟨G,1,none⟩ (.string (S y'))):=
 h.to ((Chg.refl (λb=>b=G) v).setCell (p:=⟨G,1,none⟩) rfl _) (h.2.2.2.1.put1 _)
theorem CL.put2 (h:CL B C K w G x y z v) (z':Int):CL B C K w G x y z' (v.setCell ⟨G,2,none⟩ (.int .i64 z')):=
 h.to ((Chg.refl (λb=>b=G) v).setCell (p:=⟨G,2,none⟩) rfl _) (h.2.2.2.1.put2 _)
theorem CL.mono (h:CL B C K w G x y z v) (hK:K<=K'):CL B C K' w G x y z v:=⟨h.1.mono hK,h.2⟩
theorem CL.parts (h:CL B C K w G x y z v):a0d B C K w v/\L.Env v/\LgB w.heap.size [] [] 0 v/\LgB G x y z v/\L.EB<=B/\B<=C/\C<w.heap.size/\w.heap.size<G:=h
theorem CL.env (h:CL B C K w G x y z v):L.Env v:=h.2.1
theorem CL.is (h:CL B C K w G x y z v):a1o B C K v:=h.1.1
theorem CL.done (h:CL B C K w G x y z v) (x' y' z':Value) :
 a0d B C K w (((v.setCell ⟨w.heap.size,0,none⟩ x').setCell ⟨w.heap.size,1,none⟩ y').setCell ⟨w.heap.size,2,none⟩ z'):=by
 obtain⟨h1,h2,h3,h4,h5,h6,h7,h8⟩:=h
 exact ((h1.set oZ oZ oZ _).set oZ oZ oZ _).set oZ oZ oZ _
theorem CL.start {u:TypeId} (h:a1o B C K w) (hE:L.Env w) (hB:L.EB<=B) :
 CL B C K w (w.heap.size+1) [] [] 0 ((w.alloc (.cells #[.string (S []),.string (S []),.int .i64 0] t)).alloc (.cells #[.string (S []),.string (S []),.int .i64 0] u)):=by
 have e:w.heap.size+1=(w.alloc (.cells #[.string (S []),.string (S []),.int .i64 0] t)).heap.size:=by simp
 refine⟨((a0d.refl h lZ).alloc _).alloc _,(hE.alloc _).alloc _,(LgB.new [] [] 0 t w).below (bZ.alloc lZ _),?_,hB,h.lt.1,h.lt.2,by omega⟩
 rw [e];exact LgB.new _ _ _ _ _
theorem CL.start2 {u:TypeId} (h:a1o B C K w) (hE:L.Env w) (hB:L.EB<=B) (hc:a0d B C K' (w.alloc (.cells #[.string (S []),.string (S []),.int .i64 0] t)) v) (x y:Str) (z:Int) :
 CL B C K' w v.heap.size x y z (v.alloc (.cells #[.string (S x),.string (S y),.int .i64 z] u)):=by
 have hl:=h.lt
 have hz:=hc.2.size
 simp at hz
 refine⟨(((a0d.refl h lZ).alloc _).trans hc).alloc _,(hc.envL (hE.alloc _) hB hl.1 (by simp;omega)).alloc _,((LgB.new [] [] 0 t w).a0b hc.2 oZ).below (bZ.alloc lZ _),LgB.new _ _ _ _ _,hB,hl.1,hl.2,by omega⟩
def Sm (d p:Str) (n:Int):Prop:=d.length+p.length<=31000/\0<=n/\n<=60
theorem Sm.app (h:Sm d p n) (c r:Str):Sm d (P.appS d p n c r).1 (P.appS d p n c r).2.1:=by
 unfold P.appS
 cases h1:P.a0p d p n
 .exact h
 .cases h2:P.good c r
  .exact h
  .cases h3:(n==60)
   .obtain⟨h4,h5,h6⟩:=P.a7l h1;have h7:n≠60:=by simpa using h3
    have:=(P.a4x (k:=n.toNat) oZ h2).1;refine⟨?_,?_,?_⟩
    .show d.length+(p++P.line n.toNat c r).length<=31000
     rw [List.length_append];omega
    .show 0<=n+1;omega
    .show n+1<=60;omega
   .exact h
theorem Sm.sync (h:Sm d p n):Sm (P.a6b d p n).1 [] (P.a6b d p n).2.1:=by
 unfold P.a6b
 cases h1:P.a0p d p n
 .exact (⟨by decide,by decide,by decide⟩:Sm [] [] 0)
 .obtain⟨h4,h5,h6⟩:=P.a7l h1;exact⟨by show (d++p).length+0<=31000;rw [List.length_append];omega,h4,h5⟩
attribute [local irreducible] CL
theorem e0w (B C K:Nat) (w:World) (hK:K<2^37) (hB:L.EB<=B) (h:a1o B C K w) (hE:L.Env w) :
 Cz 199 #[.pointer (some ⟨C,0,none⟩)] w λe w'=>∃(d p:Str) (n:Int),Sm d p n/\e=.returned (L.logV d p n)/\a0d B C (K+80) w w':=by
 have A1:=CL.start (t:=28) (u:=28) h hE hB
 clear h hE
 go_enter func199,ntmps199
 go_wp2_with fail
 refine (a0y B C K 7 _ oZ oZ A1.is).mono ?_
 rintro e w1 ⟨m,hm,rfl,hc⟩
 have A2:=A1.cur hc
 clear hc A1
 go_wp2_with fail
 go_loopw [4] (λi wr=>∃j:Nat,j<=6/\i=.int .i64 j/\∃(d p:Str) (n:Int),Sm d p n/\CL B C (K+2+12*(6-j)) w (w.heap.size+1) d p n wr) (λi _=>(intOf i).toNat)
 case atStart=>exact⟨m,by omega,rfl,[],[],0,⟨by decide,by decide,by decide⟩,A2.mono oZ⟩
 case round=>
  obtain⟨j,hj,rfl,d,p,n,hs,A3⟩:=hrel;clear A2;obtain⟨_,_,_,⟨y1,y2,y3,y4,y5,y6,y7⟩,hB1,hB2,hB3,_⟩:=A3.parts
  by_cases h0:0<j
  .go_upto_region 5 with fail
   go_cut [18] (λ_ wx=>∃(x y:Str) (z:Int),Sm x y z/\CL B C (K+10+12*(6-j)) w (w.heap.size+1) x y z wx)
   case first=>
    have A4:=A3.drew;have hd2:d.length<=2^20:=by have:=hs.1;omega
    have hp2:p.length<=2^20:=by have:=hs.1;omega
    have hc2:∀c:Str,c.length<=16->c.length<=2^20:=λc h=>by omega
    have hK2:K+2+12*(6-j)<2^38:=by omega
    have hK3:K+2+12*(6-j)+8=K+10+12*(6-j):=by omega
    go_region_law ((go_simp;(first|(go_at_call 55;refine (c9r B C _ _ hK2 (CL.is A4)).mono ?_;rintro e v ⟨c,r,hcl,hrl,rfl,hcp⟩;have A5:=A4.cur hcp)|(go_at_call 54;refine (L.b0o _ _ _ _ _ _ hd2 hp2 (hc2 _ (by assumption)) (hc2 _ (by assumption)) (CL.env A5)).mono ?_;rintro e v ⟨rfl,hb⟩;have A6:=A5.call hb;clear hb));clear y1 y2 y3 y4 y5 y6 y7;obtain⟨_,_,_,⟨y1,y2,y3,y4,y5,y6,y7⟩,_⟩:=(by first|exact CL.parts A6|exact CL.parts A5)))
    all_goals
     go_wp2_with fail
     go_meet
     rw [hK3]at A6
     exact⟨_,_,_,hs.app _ _,A6.put _ _ _⟩
   case rest=>
    obtain⟨x,y,z,hs2,A5⟩:=hcut;clear A3 y1 y2 y3 y4 y5 y6 y7 hs d p n;obtain⟨_,_,_,⟨y1,y2,y3,y4,y5,y6,y7⟩,_⟩:=A5.parts
    go_wp2_with fail
    refine (a8v B C _ 4 _ oZ oZ A5.is).mono ?_;rintro e w2 ⟨b,rfl,hc⟩;have A6:=(A5.cur hc).mono (show K+10+12*(6-j)+2<=K+2+12*(6-(j-1)) by omega);clear hc A5 y1 y2 y3 y4 y5 y6 y7;obtain⟨_,_,_,⟨y1,y2,y3,y4,y5,y6,y7⟩,_⟩:=A6.parts;have hj1:((j:Int)-1)=((j-1:Nat):Int):=by omega
    cases b
    .go_wp2
     go_roundw
     case rel=>exact⟨j-1,by omega,by go_num,_,_,_,hs2,A6⟩
     case measure=>exact zq
    .go_wp2_with fail
     refine (L.c1w _ _ _ _ (by have:=hs2.1;omega) (by have:=hs2.1;omega)).mono ?_;rintro e w3 ⟨rfl,hb⟩;have A7:=A6.call hb;clear hb A6 y1 y2 y3 y4 y5 y6 y7;obtain⟨_,_,_,⟨y1,y2,y3,y4,y5,y6,y7⟩,_⟩:=A7.parts;go_wp2
     go_roundw
     case rel=>exact⟨j-1,by omega,by go_num,_,_,_,hs2.sync,A7.put _ _ _⟩
     case measure=>exact zq
  .have h00:¬(0:Int)<(j:Int):=by omega
   obtain⟨z0,z1,z2,z3,z4,z5,z6⟩:=A3.parts.2.2.1;go_wp2;refine bodyPost_ret (v:=L.logV d p n) (by simp [results,results199,go_sem,z0,z1,z2]) rfl ⟨d,p,n,hs,rfl,?_⟩;exact (A3.mono oZ).done _ _ _
theorem d0y (B C K:Nat) (w:World) (hK:K<2^36) (hB:L.EB<=B) (h:a1o B C K w) (hE:L.Env w) :
 Cz 127 #[.pointer (some ⟨C,0,none⟩)] w λe w'=>∃(d p:Str) (n:Int),d.length<=70000/\p.length<=70000/\e=.returned (L.logV d p n)/\a0d B C (K+100) w w':=by
 have HC:=qh h
 have HE:=qh hE
 clear h hE
 go_enter func127,ntmps127
 go_wp2_with fail
 refine (e0w B C K _ oZ hB ((a0d.refl HC.o lZ).alloc _).1 (HE.o.alloc _)).mono ?_
 rintro e w1 ⟨d,p,n,⟨hs1,hs2,hs3⟩,rfl,hc⟩
 have A1:=CL.start2 (u:=28) HC.o HE.o hB hc d p n
 clear hc HC HE
 go_wp2_with fail
 refine (a0y B C (K+80) 24 _ oZ oZ A1.is).mono ?_
 rintro e w2 ⟨k,hk,rfl,hc⟩
 have A2:=A1.cur hc
 clear hc A1
 obtain⟨_,_,⟨z0,z1,z2,z3,z4,z5,z6⟩,⟨y1,y2,y3,y4,y5,y6,y7⟩,hB1,hB2,hB3,hB4⟩:=A2.parts
 by_cases hk0:k=0
 .subst hk0;go_wp2;refine bodyPost_ret (v:=L.logV d p (n+1)) (by simp [results,results127,go_sem,z0,z1,z2]) rfl ⟨d,p,n+1,by omega,by omega,rfl,?_⟩;exact ((A2.put2 _).mono oZ).done _ _ _
 .by_cases hk1:k=1
  .subst hk1
   go_wp2_with fail
   refine (b8z B C _ p [35,62,10,48,49] _ oZ oZ dZ dZ A2.is).mono ?_;rintro e w3 ⟨s,hsl,rfl,hc⟩;have A3:=A2.cur hc;clear hc A2 z0 z1 z2 z3 z4 z5 z6 y1 y2 y3 y4 y5 y6 y7;obtain⟨_,_,⟨z0,z1,z2,z3,z4,z5,z6⟩,⟨y1,y2,y3,y4,y5,y6,y7⟩,_⟩:=A3.parts;go_wp2;refine bodyPost_ret (v:=L.logV d s n) (by simp [results,results127,go_sem,z0,z1,z2]) rfl ⟨d,s,n,by omega,by omega,rfl,?_⟩;exact ((A3.put1 _).mono oZ).done _ _ _
  .by_cases hk2:k=2
   .subst hk2;have f1:¬9223372036854775807<d.length+p.length:=by omega
    go_wp2;refine bodyPost_ret (v:=L.logV (d++p) p n) (by simp [results,results127,go_sem,z0,z1,z2]) rfl ⟨d++p,p,n,by rw [List.length_append];omega,by omega,rfl,?_⟩;exact ((A2.put0 _).mono oZ).done _ _ _
   .have hx0:¬(k:Int)=0:=by omega
    have hx1:¬(k:Int)=1:=by omega
    have hx2:¬(k:Int)=2:=by omega
    go_wp2;refine bodyPost_ret (v:=L.logV d p n) (by simp [results,results127,go_sem,z0,z1,z2]) rfl ⟨d,p,n,by omega,by omega,rfl,?_⟩;exact (A2.mono oZ).done _ _ _
def a3b (lo B:Nat) (v:World) (u us:Value) (l:P.Dic) (st:List Int):Prop:=
 ∃F G:Blk,Ents v F u l/\Ints v G us st/\(∀b,F b->lo<=b/\b<v.heap.size/\b≠B)/\(∀b,G b->lo<=b/\b<v.heap.size/\b≠B)/\∀b,F b->¬G b
theorem a3b.a0b (h:a3b lo B v u us l st) (hc:Chg X v v') (hX:∀b,X b->b=B\/v.heap.size<=b):a3b lo B v' u us l st:=by
 obtain⟨F,G,h1,h2,h3,h4,h5⟩:=h;have hz:=hc.size;refine⟨F,G,h1.a0b a0e hc (λb hb hx=>?_),h2.a0b a1k hc (λb hb hx=>?_),λb hb=>⟨(h3 b hb).1,Nat.lt_of_lt_of_le (h3 b hb).2.1 hz,(h3 b hb).2.2⟩,λb hb=>⟨(h4 b hb).1,Nat.lt_of_lt_of_le (h4 b hb).2.1 hz,(h4 b hb).2.2⟩,h5⟩
 .have:=h3 b hb;rcases hX b hx with e|e
  .exact this.2.2 e
  .omega
 .have:=h4 b hb;rcases hX b hx with e|e
  .exact this.2.2 e
  .omega
theorem a3b.below (h:a3b lo B v u us l st) (hb:Bl v v'):a3b lo B v' u us l st:=h.a0b (Below.chg hb λ_=>False) λ_ h=>h.elim
theorem a3b.dic (h:a3b lo B v u us l st):EntR v u l:=by obtain⟨F,G,h1,_⟩:=h;exact h1.read
theorem a3b.str (h:a3b lo B v u us l st):IntR v us st:=by obtain⟨F,G,_,h2,_⟩:=h;exact Ints.read h2
theorem a3b.a8y {us':Value} {st':List Int} (h:a3b lo B v u us l st) (hb:Bl v v') (hm:v.heap.size<=m) (hlo:lo<=v.heap.size) (hB:B<v.heap.size) (hk:OwnK m v' us' st') (hl:st'.length<=2^30):a3b lo B v' u us' l st':=by
 obtain⟨F,G,h1,h2,h3,h4,h5⟩:=h;have hz:=hb.size;refine⟨F,BetO m v'.heap.size us',h1.below a0e hb,a8o hk hl,λb hb=>⟨(h3 b hb).1,Nat.lt_of_lt_of_le (h3 b hb).2.1 hz,(h3 b hb).2.2⟩,λb hb=>?_,λb hb hg=>?_⟩
 .have:=hb.1;exact⟨by omega,this.2,by omega⟩
 .have h6:=(h3 b hb).2.1;have h7:=hg.1.1;omega
theorem a3b.other {n:Nat} {u':Value} {l':P.Dic} (h:a3b lo B v u us l st) (hb:Bl v v') (hm:v.heap.size<=m) (hn:n<=v'.heap.size) (hlo:lo<=v.heap.size) (hB:B<v.heap.size) (hk:Ents v' (Bet m n) u' l'):a3b lo B v' u' us l' st:=by
 obtain⟨F,G,h1,h2,h3,h4,h5⟩:=h;have hz:=hb.size;refine⟨Bet m n,G,hk,h2.below a1k hb,λb hb=>?_,λb hb=>⟨(h4 b hb).1,Nat.lt_of_lt_of_le (h4 b hb).2.1 hz,(h4 b hb).2.2⟩,λb hf hg=>?_⟩
 .have h6:=hb.1;have h7:=hb.2;exact⟨by omega,by omega,by omega⟩
 .have h6:=(h4 b hg).2.1;have h7:=hf.1;omega
theorem a3b.both {n:Nat} (hz:v.heap.size<=v'.heap.size) (hm:v.heap.size<=m) (hn:n<=v'.heap.size) (hmn:m<=n) (hlo:lo<=v.heap.size) (hB:B<v.heap.size) (h1:Ents v' (Bet m n) u l) (h2:OwnK n v' us st) (hl:st.length<=2^30):a3b lo B v' u us l st:=by
 refine⟨Bet m n,BetO n v'.heap.size us,h1,a8o h2 hl,λb hb=>?_,λb hb=>?_,λb hf hg=>?_⟩
 .have h6:=hb.1;have h7:=hb.2;exact⟨by omega,by omega,by omega⟩
 .have h6:=hb.1;exact⟨by omega,h6.2,by omega⟩
 .have h6:=hf.2;have h7:=hg.1.1;omega
def SesM (lo B:Nat) (s:P.Ses) (g:P.LogT) (v:World):Prop:=
 L.EB<=B/\lo<=v.heap.size/\∃u us,SOut B u us s.2.2 g.1 g.2.1 g.2.2 v/\a3b lo B v u us s.1 s.2.1
theorem SesM.below {s:P.Ses} {g:P.LogT} (h:SesM lo B s g v) (hb:Bl v v'):SesM lo B s g v':=by
 obtain⟨h0,h1,u,us,h2,h3⟩:=h;exact⟨h0,Nat.le_trans h1 hb.size,u,us,h2.below hb,h3.below hb⟩
def okB (x:Str) (ok:Bool):Option Str:=if ok then some x else none
def a5m (lo B:Nat) (a:P.Ans) (g:P.LogT) (w:World) (e:Ending) (w':World):Prop:=
 ∃x ok,e=.returned (.tuple #[.string (S x),.bool ok])/\okB x ok=a.2/\SesM lo B a.1 g w'/\Chg (λb=>b=B) w w'
def txtB (o:Option Str):Str:=o.getD [63]
def b8y (w v:World) (u0:Value) (l0:P.Dic) (u:Value) (l:P.Dic):Prop:=(u=u0/\l=l0)\/∃F:Blk,Ents v F u l/\∀b,F b->w.heap.size<=b
def b6p (w v:World) (u0:Value) (l0:List Int) (u:Value) (l:List Int):Prop:=(u=u0/\l=l0)\/∃F:Blk,Ints v F u l/\∀b,F b->w.heap.size<=b
theorem b8y.read (h:b8y w v u0 l0 u l) (h0:EntR w u0 l0) (hb:Bl w v):EntR v u l:=by
 rcases h with⟨rfl,rfl⟩|⟨F,h1,_⟩
 .exact h0.below hb
 .exact Ents.read h1
theorem b6p.read {l0 l:List Int} (h:b6p w v u0 l0 u l) (h0:IntR w u0 l0) (hb:Bl w v):IntR v u l:=by
 rcases h with⟨rfl,rfl⟩|⟨F,h1,_⟩
 .exact h0.below hb
 .exact Ints.read h1
theorem b8y.after (h:b8y w1 v u0 l0 u l) (hw:w.heap.size<=w1.heap.size) (hc:Chg X v v') (hX:∀b,X b->b<w1.heap.size):b8y w v' u0 l0 u l:=
 h.imp id λ⟨F,h1,h2⟩=>⟨F,h1.a0b a0e hc (λb hb hx=>by have g1:=h2 b hb;have g2:=hX b hx;omega),λb hb=>Nat.le_trans hw (h2 b hb)⟩
theorem b6p.after {l0 l:List Int} (h:b6p w1 v u0 l0 u l) (hw:w.heap.size<=w1.heap.size) (hc:Chg X v v') (hX:∀b,X b->b<w1.heap.size):b6p w v' u0 l0 u l:=
 h.imp id λ⟨F,h1,h2⟩=>⟨F,h1.a0b a1k hc (λb hb hx=>by have g1:=h2 b hb;have g2:=hX b hx;omega),λb hb=>Nat.le_trans hw (h2 b hb)⟩
def b3h (u0 us0:Value) (s0:P.Ses) (a:P.Ans) (g:P.LogT) (w:World) (e:Ending) (w':World):Prop:=
 ∃u us,e=.returned (.tuple #[a1c u us a.1.2.2 g.1 g.2.1 g.2.2,.string (S (txtB a.2))])/\b8y w w' u0 s0.1 u a.1.1/\b6p w w' us0 s0.2.1 us a.1.2.1/\Bl w w'
end Go.Proofs.YtggfdnopminemaaGreatDoor
