/- Walks: the cursor draws. -/
import Derived.Test.YtggfdnopminemaaGreatDoorLAppS
set_option linter.all false
namespace Go.Proofs.YtggfdnopminemaaGreatDoor
open Go.Proofs.Tryz
open Go Go.RowKit
set_option maxHeartbeats 8000000
set_option maxRecDepth 100000
variable {X:Blk} {n z:Int} {st:List Int} {B C G K K' b lo m:Nat} {l l0:P.Dic} {d p x y:Str} {t:Go.TypeId} {u u0 us:Go.Value} {v v' w w1:Go.World}
theorem a0e.envL {u:World} (h:a0e B C K u v) (hE:L.Env u) (hB:L.EB<=B) (hl:B<=C) (hC:C<u.heap.size):L.Env v:=
 hE.below (h.2.below (B:=B) oZ (by rintro b rfl;exact hl)) hB
def LgB (b:Nat) (x y:Str) (z:Int) (v:World):Prop:=
 v.cell? ⟨b,0,none⟩=some (.string (S x))/\v.cell? ⟨b,1,none⟩=some (.string (S y))/\v.cell? ⟨b,2,none⟩=some (.int .i64 z) /\
 v.frozen? ⟨b,0,none⟩=false/\v.frozen? ⟨b,1,none⟩=false/\v.frozen? ⟨b,2,none⟩=false/\b<v.heap.size
theorem LgB.a0b (h:LgB b x y z v) (hc:Chg X v v') (hX:¬X b):LgB b x y z v':=by
 obtain⟨a1,a2,a3,b1,b2,b3,hz⟩:=h;exact⟨(hc.cell (p:=⟨b,0,none⟩) hz hX).trans a1,(hc.cell (p:=⟨b,1,none⟩) hz hX).trans a2,(hc.cell (p:=⟨b,2,none⟩) hz hX).trans a3,(hc.frozen (p:=⟨b,0,none⟩) hz hX).trans b1,(hc.frozen (p:=⟨b,1,none⟩) hz hX).trans b2,(hc.frozen (p:=⟨b,2,none⟩) hz hX).trans b3,Nat.lt_of_lt_of_le hz hc.size⟩
theorem LgB.below (h:LgB b x y z v) (hb:Bl v v'):LgB b x y z v':=h.a0b (Below.chg hb λ_=>False) λh=>h
theorem LgB.new (x y:Str) (z:Int) (t:TypeId) (v:World):LgB v.heap.size x y z (v.alloc (.cells #[.string (S x),.string (S y),.int .i64 z] t)):=by
 refine⟨?_,?_,?_,?_,?_,?_,?_⟩<;>go_simp
theorem LgB.put (h:LgB b x y z v) (x' y':Str) (z':Int) :
 LgB b x' y' z' (((v.setCell ⟨b,0,none⟩ (.string (S x'))).setCell ⟨b,1,none⟩ (.string (S y'))).setCell ⟨b,2,none⟩ (.int .i64 z')):=by
 obtain⟨a1,a2,a3,b1,b2,b3,hz⟩:=h
 exact⟨by go_simp,by go_simp,by go_simp,by simpa using b1,by simpa using b2,by simpa using b3,by simpa using hz⟩
theorem LgB.put0 (h:LgB b x y z v) (x':Str):LgB b x' y z (v.setCell ⟨b,0,none⟩ (.string (S x'))):=by
 exact zq94
theorem LgB.put1 (h:LgB b x y z v) (y':Str):LgB b x y' z (v.setCell ⟨b,1,none⟩ (.string (S y'))):=by
 exact zq94
theorem LgB.put2 (h:LgB b x y z v) (z':Int):LgB b x y z' (v.setCell ⟨b,2,none⟩ (.int .i64 z')):=by
 exact zq94
def CL (B C K:Nat) (w:World) (G:Nat) (x y:Str) (z:Int) (v:World):Prop:=
 a0e B C K w v/\L.Env v/\LgB w.heap.size [] [] 0 v/\LgB G x y z v/\L.EB<=B/\B<=C/\C<w.heap.size/\w.heap.size<G
theorem CL.cur (h:CL B C K w G x y z v) (hc:a0e B C K' v v'):CL B C K' w G x y z v':=by
 obtain⟨h1,h2,h3,h4,h5,h6,h7,h8⟩:=h;exact⟨h1.trans hc,hc.envL h2 h5 h6 h1.1.lt.2,h3.a0b hc.2 oZ,h4.a0b hc.2 oZ,h5,h6,h7,h8⟩
theorem CL.call (h:CL B C K w G x y z v) (hb:Bl v v'):CL B C K w G x y z v':=by
 obtain⟨h1,h2,h3,h4,h5,h6,h7,h8⟩:=h;exact⟨h1.below hb,h2.below hb h2.size,h3.below hb,h4.below hb,h5,h6,h7,h8⟩
theorem CL.drew (h:CL B C K w G x y z v):CL B C K w G x y z v.drew:=h.call bZ.drew
theorem CL.to {x' y':Str} {z':Int} (h:CL B C K w G x y z v) (hc:Chg (λb=>b=G) v v') (hn:LgB G x' y' z' v'):CL B C K w G x' y' z' v':=by
 obtain⟨h1,h2,h3,h4,h5,h6,h7,h8⟩:=h;exact⟨h1.new hc (by rintro b rfl;omega) h7 oZ,h2.below (hc.below h2.size (by rintro b rfl;omega)) lZ,h3.a0b hc oZ,hn,h5,h6,h7,h8⟩
theorem CL.put (h:CL B C K w G x y z v) (x' y':Str) (z':Int) :
 CL B C K w G x' y' z' (((v.setCell ⟨G,0,none⟩ (.string (S x'))).setCell ⟨G,1,none⟩ (.string (S y'))).setCell ⟨G,2,none⟩ (.int .i64 z')):=
 h.to ((((Chg.refl (λb=>b=G) v).setCell (p:=⟨G,0,none⟩) rfl _).setCell (p:=⟨G,1,none⟩) rfl _).setCell (p:=⟨G,2,none⟩) rfl _) (h.2.2.2.1.put _ _ _)
theorem CL.put0 (h:CL B C K w G x y z v) (x':Str):CL B C K w G x' y z (v.setCell ⟨G,0,none⟩ (.string (S x'))):=
 h.to ((Chg.refl (λb=>b=G) v).setCell (p:=⟨G,0,none⟩) rfl _) (h.2.2.2.1.put0 _)
theorem CL.put1 (h:CL B C K w G x y z v) (y':Str):CL B C K w G x y' z (v.setCell ⟨G,1,none⟩ (.string (S y'))):=
 h.to ((Chg.refl (λb=>b=G) v).setCell (p:=⟨G,1,none⟩) rfl _) (h.2.2.2.1.put1 _)
theorem CL.put2 (h:CL B C K w G x y z v) (z':Int):CL B C K w G x y z' (v.setCell ⟨G,2,none⟩ (.int .i64 z')):=
 h.to ((Chg.refl (λb=>b=G) v).setCell (p:=⟨G,2,none⟩) rfl _) (h.2.2.2.1.put2 _)
theorem CL.mono (h:CL B C K w G x y z v) (hK:K<=K'):CL B C K' w G x y z v:=⟨h.1.mono hK,h.2⟩
theorem CL.parts (h:CL B C K w G x y z v):a0e B C K w v/\L.Env v/\LgB w.heap.size [] [] 0 v/\LgB G x y z v/\L.EB<=B/\B<=C/\C<w.heap.size/\w.heap.size<G:=h
theorem CL.env (h:CL B C K w G x y z v):L.Env v:=h.2.1
theorem CL.is (h:CL B C K w G x y z v):a1o B C K v:=h.1.1
theorem CL.done (h:CL B C K w G x y z v) (x' y' z':Value) :
 a0e B C K w (((v.setCell ⟨w.heap.size,0,none⟩ x').setCell ⟨w.heap.size,1,none⟩ y').setCell ⟨w.heap.size,2,none⟩ z'):=by
 obtain⟨h1,h2,h3,h4,h5,h6,h7,h8⟩:=h
 exact ((h1.set oZ oZ oZ _).set oZ oZ oZ _).set oZ oZ oZ _
theorem CL.start {u:TypeId} (h:a1o B C K w) (hE:L.Env w) (hB:L.EB<=B) :
 CL B C K w (w.heap.size+1) [] [] 0 ((w.alloc (.cells #[.string (S []),.string (S []),.int .i64 0] t)).alloc (.cells #[.string (S []),.string (S []),.int .i64 0] u)):=by
 have e:w.heap.size+1=(w.alloc (.cells #[.string (S []),.string (S []),.int .i64 0] t)).heap.size:=by simp
 refine⟨((a0e.refl h lZ).alloc _).alloc _,(hE.alloc _).alloc _,(LgB.new [] [] 0 t w).below (bZ.alloc lZ _),?_,hB,h.lt.1,h.lt.2,by omega⟩
 rw [e];exact LgB.new _ _ _ _ _
theorem CL.start2 {u:TypeId} (h:a1o B C K w) (hE:L.Env w) (hB:L.EB<=B) (hc:a0e B C K' (w.alloc (.cells #[.string (S []),.string (S []),.int .i64 0] t)) v) (x y:Str) (z:Int) :
 CL B C K' w v.heap.size x y z (v.alloc (.cells #[.string (S x),.string (S y),.int .i64 z] u)):=by
 have hl:=h.lt
 have hz:=hc.2.size
 simp at hz
 refine⟨(((a0e.refl h lZ).alloc _).trans hc).alloc _,(hc.envL (hE.alloc _) hB hl.1 (by simp;omega)).alloc _,((LgB.new [] [] 0 t w).a0b hc.2 oZ).below (bZ.alloc lZ _),LgB.new _ _ _ _ _,hB,hl.1,hl.2,by omega⟩
def Sm (d p:Str) (n:Int):Prop:=d.length+p.length<=31000/\0<=n/\n<=60
theorem Sm.app (h:Sm d p n) (c r:Str):Sm d (P.appS d p n c r).1 (P.appS d p n c r).2.1:=by
 unfold P.appS
 cases h1:P.a0j d p n
 .exact h
 .cases h2:P.good c r
  .exact h
  .cases h3:(n==60)
   .obtain⟨h4,h5,h6⟩:=P.a8f h1;have h7:n≠60:=by simpa using h3
    have:=(P.a5j (k:=n.toNat) oZ h2).1;refine⟨?_,?_,?_⟩
    .show d.length+(p++P.line n.toNat c r).length<=31000
     rw [List.length_append];omega
    .show 0<=n+1;omega
    .show n+1<=60;omega
   .exact h
theorem Sm.sync (h:Sm d p n):Sm (P.a6k d p n).1 [] (P.a6k d p n).2.1:=by
 unfold P.a6k
 cases h1:P.a0j d p n
 .exact (⟨by decide,by decide,by decide⟩:Sm [] [] 0)
 .obtain⟨h4,h5,h6⟩:=P.a8f h1;exact⟨by show (d++p).length+0<=31000;rw [List.length_append];omega,h4,h5⟩
attribute [local irreducible] CL
theorem e4g (B C K:Nat) (w:World) (hK:K<2^37) (hB:L.EB<=B) (h:a1o B C K w) (hE:L.Env w) :
 Cz 199 #[.pointer (some ⟨C,0,none⟩)] w λe w'=>∃(d p:Str) (n:Int),Sm d p n/\e=.returned (L.logV d p n)/\a0e B C (K+80) w w':=by
 have A1:=CL.start (t:=28) (u:=28) h hE hB
 clear h hE
 go_enter func199,ntmps199
 go_wp2_with fail
 refine (a0r B C K 7 _ oZ oZ A1.is).mono ?_
 rintro e w1 ⟨m,hm,rfl,hc⟩
 have A2:=A1.cur hc
 clear hc A1
 go_wp2_with fail
 go_loopw [4] (λi wr=>∃j:Nat,j<=6/\i=.int .i64 j/\∃(d p:Str) (n:Int),Sm d p n/\CL B C (K+2+12*(6-j)) w (w.heap.size+1) d p n wr) (λi _=>(intOf i).toNat)
 case atStart=>exact⟨m,by omega,rfl,[],[],0,⟨by decide,by decide,by decide⟩,A2.mono oZ⟩
 case round=>
  obtain⟨j,hj,rfl,d,p,n,hs,A3⟩:=hrel;clear A2;obtain⟨_,_,_,⟨y1,y2,y3,y4,y5,y6,y7⟩,hB1,hB2,hB3,_⟩:=A3.parts
  by_cases h0:0<j
  .go_upto_region 5 with fail
   go_cut [18] (λ_ wx=>∃(x y:Str) (z:Int),Sm x y z/\CL B C (K+10+12*(6-j)) w (w.heap.size+1) x y z wx)
   case first=>
    have A4:=A3.drew;have hd2:d.length<=2^20:=by have:=hs.1;omega
    have hp2:p.length<=2^20:=by have:=hs.1;omega
    have hc2:∀c:Str,c.length<=16->c.length<=2^20:=λc h=>by omega
    have hK2:K+2+12*(6-j)<2^38:=by omega
    have hK3:K+2+12*(6-j)+8=K+10+12*(6-j):=by omega
    go_region_law ((go_simp;(first|(go_at_call 55;refine (b9h B C _ _ hK2 (CL.is A4)).mono ?_;rintro e v ⟨c,r,hcl,hrl,rfl,hcp⟩;have A5:=A4.cur hcp)|(go_at_call 54;refine (L.b1g _ _ _ _ _ _ hd2 hp2 (hc2 _ (by assumption)) (hc2 _ (by assumption)) (CL.env A5)).mono ?_;rintro e v ⟨rfl,hb⟩;have A6:=A5.call hb;clear hb));clear y1 y2 y3 y4 y5 y6 y7;obtain⟨_,_,_,⟨y1,y2,y3,y4,y5,y6,y7⟩,_⟩:=(by first|exact CL.parts A6|exact CL.parts A5)))
    all_goals
     go_wp2_with fail
     go_meet
     rw [hK3]at A6
     exact⟨_,_,_,hs.app _ _,A6.put _ _ _⟩
   case rest=>
    obtain⟨x,y,z,hs2,A5⟩:=hcut;clear A3 y1 y2 y3 y4 y5 y6 y7 hs d p n;obtain⟨_,_,_,⟨y1,y2,y3,y4,y5,y6,y7⟩,_⟩:=A5.parts
    go_wp2_with fail
    refine (a9t B C _ 4 _ oZ oZ A5.is).mono ?_;rintro e w2 ⟨b,rfl,hc⟩;have A6:=(A5.cur hc).mono (show K+10+12*(6-j)+2<=K+2+12*(6-(j-1)) by omega);clear hc A5 y1 y2 y3 y4 y5 y6 y7;obtain⟨_,_,_,⟨y1,y2,y3,y4,y5,y6,y7⟩,_⟩:=A6.parts;have hj1:((j:Int)-1)=((j-1:Nat):Int):=by omega
    cases b
    .go_wp2
     go_roundw
     case rel=>exact⟨j-1,by omega,by go_num,_,_,_,hs2,A6⟩
     case measure=>exact zq
    .go_wp2_with fail
     refine (L.c4z _ _ _ _ (by have:=hs2.1;omega) (by have:=hs2.1;omega)).mono ?_;rintro e w3 ⟨rfl,hb⟩;have A7:=A6.call hb;clear hb A6 y1 y2 y3 y4 y5 y6 y7;obtain⟨_,_,_,⟨y1,y2,y3,y4,y5,y6,y7⟩,_⟩:=A7.parts;go_wp2
     go_roundw
     case rel=>exact⟨j-1,by omega,by go_num,_,_,_,hs2.sync,A7.put _ _ _⟩
     case measure=>exact zq
  .have h00:¬(0:Int)<(j:Int):=by omega
   obtain⟨z0,z1,z2,z3,z4,z5,z6⟩:=A3.parts.2.2.1;go_wp2;refine bodyPost_ret (v:=L.logV d p n) (by simp [results,results199,go_sem,z0,z1,z2]) rfl ⟨d,p,n,hs,rfl,?_⟩;exact (A3.mono oZ).done _ _ _
theorem d0y (B C K:Nat) (w:World) (hK:K<2^36) (hB:L.EB<=B) (h:a1o B C K w) (hE:L.Env w) :
 Cz 127 #[.pointer (some ⟨C,0,none⟩)] w λe w'=>∃(d p:Str) (n:Int),d.length<=70000/\p.length<=70000/\e=.returned (L.logV d p n)/\a0e B C (K+100) w w':=by
 have HC:=qh h
 have HE:=qh hE
 clear h hE
 go_enter func127,ntmps127
 go_wp2_with fail
 refine (e4g B C K _ oZ hB ((a0e.refl HC.o lZ).alloc _).1 (HE.o.alloc _)).mono ?_
 rintro e w1 ⟨d,p,n,⟨hs1,hs2,hs3⟩,rfl,hc⟩
 have A1:=CL.start2 (u:=28) HC.o HE.o hB hc d p n
 clear hc HC HE
 go_wp2_with fail
 refine (a0r B C (K+80) 24 _ oZ oZ A1.is).mono ?_
 rintro e w2 ⟨k,hk,rfl,hc⟩
 have A2:=A1.cur hc
 clear hc A1
 obtain⟨_,_,⟨z0,z1,z2,z3,z4,z5,z6⟩,⟨y1,y2,y3,y4,y5,y6,y7⟩,hB1,hB2,hB3,hB4⟩:=A2.parts
 by_cases hk0:k=0
 .subst hk0;go_wp2;refine bodyPost_ret (v:=L.logV d p (n+1)) (by simp [results,results127,go_sem,z0,z1,z2]) rfl ⟨d,p,n+1,by omega,by omega,rfl,?_⟩;exact ((A2.put2 _).mono oZ).done _ _ _
 .by_cases hk1:k=1
  .subst hk1
   go_wp2_with fail
   refine (d2h B C _ p [35,62,10,48,49] _ oZ oZ dZ dZ A2.is).mono ?_;rintro e w3 ⟨s,hsl,rfl,hc⟩;have A3:=A2.cur hc;clear hc A2 z0 z1 z2 z3 z4 z5 z6 y1 y2 y3 y4 y5 y6 y7;obtain⟨_,_,⟨z0,z1,z2,z3,z4,z5,z6⟩,⟨y1,y2,y3,y4,y5,y6,y7⟩,_⟩:=A3.parts;go_wp2;refine bodyPost_ret (v:=L.logV d s n) (by simp [results,results127,go_sem,z0,z1,z2]) rfl ⟨d,s,n,by omega,by omega,rfl,?_⟩;exact ((A3.put1 _).mono oZ).done _ _ _
  .by_cases hk2:k=2
   .subst hk2;have f1:¬9223372036854775807<d.length+p.length:=by omega
    go_wp2;refine bodyPost_ret (v:=L.logV (d++p) p n) (by simp [results,results127,go_sem,z0,z1,z2]) rfl ⟨d++p,p,n,by rw [List.length_append];omega,by omega,rfl,?_⟩;exact ((A2.put0 _).mono oZ).done _ _ _
   .have hx0:¬(k:Int)=0:=by omega
    have hx1:¬(k:Int)=1:=by omega
    have hx2:¬(k:Int)=2:=by omega
    go_wp2;refine bodyPost_ret (v:=L.logV d p n) (by simp [results,results127,go_sem,z0,z1,z2]) rfl ⟨d,p,n,by omega,by omega,rfl,?_⟩;exact (A2.mono oZ).done _ _ _
def a3b (lo B:Nat) (v:World) (u us:Value) (l:P.Dic) (st:List Int):Prop:=
 ∃F G:Blk,Ents v F u l/\Ints v G us st/\(∀b,F b->lo<=b/\b<v.heap.size/\b≠B)/\(∀b,G b->lo<=b/\b<v.heap.size/\b≠B)/\∀b,F b->¬G b
theorem a3b.a0b (h:a3b lo B v u us l st) (hc:Chg X v v') (hX:∀b,X b->b=B\/v.heap.size<=b):a3b lo B v' u us l st:=by
 obtain⟨F,G,h1,h2,h3,h4,h5⟩:=h;have hz:=hc.size;refine⟨F,G,h1.a0b a0f hc (λb hb hx=>?_),h2.a0b a1l hc (λb hb hx=>?_),λb hb=>⟨(h3 b hb).1,Nat.lt_of_lt_of_le (h3 b hb).2.1 hz,(h3 b hb).2.2⟩,λb hb=>⟨(h4 b hb).1,Nat.lt_of_lt_of_le (h4 b hb).2.1 hz,(h4 b hb).2.2⟩,h5⟩
 .have:=h3 b hb;rcases hX b hx with e|e
  .exact this.2.2 e
  .omega
 .have:=h4 b hb;rcases hX b hx with e|e
  .exact this.2.2 e
  .omega
theorem a3b.below (h:a3b lo B v u us l st) (hb:Bl v v'):a3b lo B v' u us l st:=h.a0b (Below.chg hb λ_=>False) λ_ h=>h.elim
theorem a3b.dic (h:a3b lo B v u us l st):EntR v u l:=by obtain⟨F,G,h1,_⟩:=h;exact h1.read
theorem a3b.str (h:a3b lo B v u us l st):IntR v us st:=by obtain⟨F,G,_,h2,_⟩:=h;exact Ints.read h2
theorem a3b.a9a {us':Value} {st':List Int} (h:a3b lo B v u us l st) (hb:Bl v v') (hm:v.heap.size<=m) (hlo:lo<=v.heap.size) (hB:B<v.heap.size) (hk:OwnK m v' us' st') (hl:st'.length<=2^30):a3b lo B v' u us' l st':=by
 obtain⟨F,G,h1,h2,h3,h4,h5⟩:=h;have hz:=hb.size;refine⟨F,BetO m v'.heap.size us',h1.below a0f hb,a7b hk hl,λb hb=>⟨(h3 b hb).1,Nat.lt_of_lt_of_le (h3 b hb).2.1 hz,(h3 b hb).2.2⟩,λb hb=>?_,λb hb hg=>?_⟩
 .have:=hb.1;exact⟨by omega,this.2,by omega⟩
 .have h6:=(h3 b hb).2.1;have h7:=hg.1.1;omega
theorem a3b.other {n:Nat} {u':Value} {l':P.Dic} (h:a3b lo B v u us l st) (hb:Bl v v') (hm:v.heap.size<=m) (hn:n<=v'.heap.size) (hlo:lo<=v.heap.size) (hB:B<v.heap.size) (hk:Ents v' (Bet m n) u' l'):a3b lo B v' u' us l' st:=by
 obtain⟨F,G,h1,h2,h3,h4,h5⟩:=h;have hz:=hb.size;refine⟨Bet m n,G,hk,h2.below a1l hb,λb hb=>?_,λb hb=>⟨(h4 b hb).1,Nat.lt_of_lt_of_le (h4 b hb).2.1 hz,(h4 b hb).2.2⟩,λb hf hg=>?_⟩
 .have h6:=hb.1;have h7:=hb.2;exact⟨by omega,by omega,by omega⟩
 .have h6:=(h4 b hg).2.1;have h7:=hf.1;omega
theorem a3b.both {n:Nat} (hz:v.heap.size<=v'.heap.size) (hm:v.heap.size<=m) (hn:n<=v'.heap.size) (hmn:m<=n) (hlo:lo<=v.heap.size) (hB:B<v.heap.size) (h1:Ents v' (Bet m n) u l) (h2:OwnK n v' us st) (hl:st.length<=2^30):a3b lo B v' u us l st:=by
 refine⟨Bet m n,BetO n v'.heap.size us,h1,a7b h2 hl,λb hb=>?_,λb hb=>?_,λb hf hg=>?_⟩
 .have h6:=hb.1;have h7:=hb.2;exact⟨by omega,by omega,by omega⟩
 .have h6:=hb.1;exact⟨by omega,h6.2,by omega⟩
 .have h6:=hf.2;have h7:=hg.1.1;omega
def SesM (lo B:Nat) (s:P.Ses) (g:P.LogT) (v:World):Prop:=
 L.EB<=B/\lo<=v.heap.size/\∃u us,SOut B u us s.2.2 g.1 g.2.1 g.2.2 v/\a3b lo B v u us s.1 s.2.1
theorem SesM.below {s:P.Ses} {g:P.LogT} (h:SesM lo B s g v) (hb:Bl v v'):SesM lo B s g v':=by
 obtain⟨h0,h1,u,us,h2,h3⟩:=h;exact⟨h0,Nat.le_trans h1 hb.size,u,us,h2.below hb,h3.below hb⟩
def okB (x:Str) (ok:Bool):Option Str:=if ok then some x else none
def a5v (lo B:Nat) (a:P.Ans) (g:P.LogT) (w:World) (e:Ending) (w':World):Prop:=
 ∃x ok,e=.returned (.tuple #[.string (S x),.bool ok])/\okB x ok=a.2/\SesM lo B a.1 g w'/\Chg (λb=>b=B) w w'
def txtB (o:Option Str):Str:=o.getD [63]
def b8y (w v:World) (u0:Value) (l0:P.Dic) (u:Value) (l:P.Dic):Prop:=(u=u0/\l=l0)\/∃F:Blk,Ents v F u l/\∀b,F b->w.heap.size<=b
def b7s (w v:World) (u0:Value) (l0:List Int) (u:Value) (l:List Int):Prop:=(u=u0/\l=l0)\/∃F:Blk,Ints v F u l/\∀b,F b->w.heap.size<=b
theorem b8y.read (h:b8y w v u0 l0 u l) (h0:EntR w u0 l0) (hb:Bl w v):EntR v u l:=by
 rcases h with⟨rfl,rfl⟩|⟨F,h1,_⟩
 .exact h0.below hb
 .exact Ents.read h1
theorem b7s.read {l0 l:List Int} (h:b7s w v u0 l0 u l) (h0:IntR w u0 l0) (hb:Bl w v):IntR v u l:=by
 rcases h with⟨rfl,rfl⟩|⟨F,h1,_⟩
 .exact h0.below hb
 .exact Ints.read h1
theorem b8y.after (h:b8y w1 v u0 l0 u l) (hw:w.heap.size<=w1.heap.size) (hc:Chg X v v') (hX:∀b,X b->b<w1.heap.size):b8y w v' u0 l0 u l:=
 h.imp id λ⟨F,h1,h2⟩=>⟨F,h1.a0b a0f hc (λb hb hx=>by have g1:=h2 b hb;have g2:=hX b hx;omega),λb hb=>Nat.le_trans hw (h2 b hb)⟩
theorem b7s.after {l0 l:List Int} (h:b7s w1 v u0 l0 u l) (hw:w.heap.size<=w1.heap.size) (hc:Chg X v v') (hX:∀b,X b->b<w1.heap.size):b7s w v' u0 l0 u l:=
 h.imp id λ⟨F,h1,h2⟩=>⟨F,h1.a0b a1l hc (λb hb hx=>by have g1:=h2 b hb;have g2:=hX b hx;omega),λb hb=>Nat.le_trans hw (h2 b hb)⟩
def b3q (u0 us0:Value) (s0:P.Ses) (a:P.Ans) (g:P.LogT) (w:World) (e:Ending) (w':World):Prop:=
 ∃u us,e=.returned (.tuple #[a1a u us a.1.2.2 g.1 g.2.1 g.2.2,.string (S (txtB a.2))])/\b8y w w' u0 s0.1 u a.1.1/\b7s w w' us0 s0.2.1 us a.1.2.1/\Bl w w'
end Go.Proofs.YtggfdnopminemaaGreatDoor
namespace Go.Proofs.YtggfdnopminemaaGreatDoor.P
open Go.Proofs.Tryz
variable {line more word:Bs} {o:List Int} {g:LogT} {s:Ses}
theorem c7i {d:Dic} {t:Tr} {e:Ent} (h:(a3j d t e).2=true):trans (a3j d t e).1.1.1 (a3j d t e).1.1.2=true:=by
 unfold a3j at h⊢
 split at h
 .rename_i hc
  rw [if_pos hc];simp only [Bool.and_eq_true]at hc;exact c5p hc.2.2 (a2c hc.1).2.2
 .cases h
theorem c1v (h:trans s.1 s.2=true):trans (a2x s o).1.1 (a2x s o).1.2=true:=by
 unfold a2x
 split
 .rename_i hc
  simp only [Bool.and_eq_true]at hc;exact c5p hc.2 (a2c h).2.2
 .exact h
theorem d1g (h:trans s.1 s.2=true):trans (outl s word o).1.1 (outl s word o).1.2=true:=by
 unfold outl
 split
 .exact a7p h
 .split
  .exact c1v h
  .exact h
theorem c7p (h:trans s.1 s.2=true):trans (a6b s word more).1.1 (a6b s word more).1.2=true:=by
 unfold a6b
 split
 .exact h
 .exact d1g h
theorem c0e (h:trans s.1 s.2=true):trans (a1h s more).1.1 (a1h s more).1.2=true:=by
 unfold a1h
 split
 .exact h
 .split
  .exact h
  .split
   .rename_i hc;exact c7i hc
   .exact h
theorem c7k (h:trans s.1 s.2=true):trans (alone s word).1.1 (alone s word).1.2=true:=by
 unfold alone
 split
 .exact a7p h
 .split
  .exact h
  .split
   .exact h
   .split<;>exact h
theorem c1o (h:trans s.1 s.2=true):trans (a5w s more).1.1 (a5w s more).1.2=true:=by
 unfold a5w
 split
 .exact a7p h
 .exact h
theorem d1u (h:trans s.1 s.2=true):trans (args s word more).1.1 (args s word more).1.2=true:=by
 unfold args
 split
 .exact c1o h
 .split
  .exact c7p h
  .split
   .exact c0e h
   .split
    .exact h
    .split
     .exact h
     .split<;>exact h
theorem b2u (h:trans s.1 s.2=true):trans (cmd s line).1.1 (cmd s line).1.2=true:=by
 unfold cmd
 split
 .exact c7k h
 .exact d1u h
theorem a3d (h:b0k s g=true):trans s.1 s.2=true/\a0j g.1 g.2.1 g.2.2=true:=by
 unfold b0k sess at h
 simpa only [Bool.and_eq_true] using h
theorem b1b (o:Option Bs):(a2s o).length<=200:=by
 unfold a2s
 split
 .decide
 .split
  .decide
  .omega
theorem c1x (h:b0k s g=false):exec s g line=((s,g),wNo):=by unfold exec;rw [h];rfl
theorem b2t (h:b0k s g=true) (h2:good line []=false):exec s g line=((s,g),wBad):=by unfold exec;rw [h,h2];rfl
theorem a9j (h:b0k s g=true) (h2:good line []=true) (h3:g.2.2=60):exec s g line=((s,g),e5c):=by
 unfold exec;rw [h,h2,if_neg dZ,if_neg dZ,if_pos h3]
theorem b2r (h:b0k s g=true) (h2:good line []=true) (h3:g.2.2≠60):exec s g line=(((cmd s line).1,b0w g line (a2s (cmd s line).2)),a2s (cmd s line).2):=by
 unfold exec;rw [h,h2,if_neg dZ,if_neg dZ,if_neg h3]
def Fit (s:Ses) (g:LogT):Prop:=s.1.length<=2^20/\(∀e∈s.1,e.1.length<=2^20)/\(∀e∈s.1,e.2.length<=2^30)/\s.2.1.length<=2^20/\g.1.length<=2^20/\g.2.1.length<=2^20
theorem c0t {d p:Bs} {n:Int} {c r:Bs} (h:a0j d p n=true):(appS d p n c r).1.length<=40000:=by
 obtain⟨h1,h2,h3⟩:=a8f h;unfold appS
 split
 .show p.length<=_;omega
 .rename_i hg
  split
  .show p.length<=_;omega
  .rename_i h6
   have h7:n≠60:=by simpa using h6
   have hg2:good c r=true:=by simpa [h] using hg
   have:=(a5j (k:=n.toNat) oZ hg2).1;simp only [List.length_append];omega
theorem c0n (h:Fit s g):Fit (exec s g line).1.1 (exec s g line).1.2:=by
 by_cases h1:b0k s g=true
 .by_cases h2:good line []=true
  .by_cases h3:g.2.2=60
   .rw [a9j h1 h2 h3];exact h
   .rw [b2r h1 h2 h3];obtain⟨ht,hv⟩:=a3d h1;have hk:=b2u (line:=line) ht;have hd:=b1v hk;have hs:=(a2c hk).1;have hl:=a4d hd;refine⟨?_,?_,?_,?_,h.2.2.2.2.1,?_⟩
    .have:=hl.1;show (cmd s line).1.1.length<=_;omega
    .exact λe he=>by have:=(a7y (hl.2.1 e he)).2.1;omega
    .exact λe he=>Nat.le_trans (b3l hd e he) dZ
    .have:=a4w (d4x hs).2.1;show (cmd s line).1.2.1.length<=_;omega
    .exact Nat.le_trans (c0t hv) dZ
  .rw [b2t h1 (by simpa using h2)];exact h
 .rw [c1x (by simpa using h1)];exact h
end Go.Proofs.YtggfdnopminemaaGreatDoor.P
namespace Go.Proofs.YtggfdnopminemaaGreatDoor
open Go.Proofs.Tryz
open Go Go.RowKit
set_option maxHeartbeats 8000000
set_option maxRecDepth 100000
variable {ns:List Int} {o1 o2:Option Nat} {nu:Go.Value} {v v' wr:Go.World}
theorem c9v (u:Value) (l:List Int) (w:World) (hu:IntR w u l) (hl:l.length<=2^30) :
 Cz 126 #[u] w (d6a l w):=by
 refine zm7 ?_;intro i0 hi hz0 hz1 hz2 HSRC HB HOWN;obtain⟨ad,cap,rfl,_,_⟩:=hu;go_enter func126,ntmps126;go_wp2_with (at_builtin;refine a0w rfl _ _ 33 rfl w.heap.size 3 i0 (.int .i64 0) 1 8 underlying33 hi hz0 hz1 hz2 rfl dZ _ 0 [] rfl HOWN.o _ l.length (ints l) rfl HSRC.o ?_ ?_ sZ ?_)
 .unfold maxLen;omega
 .omega
 intro v' w' hown hgr _;refine zm67 ?_;intro HOW HBB;clear hown hgr;go_wp2;go_ret;refine⟨_,rfl,?_,HBB.o⟩;exact HOW.o
theorem b0j (dv sv:Value) (l:P.Dic) (st:List Int) (t:Str) (k:Int) (w:World) (hu:EntR w dv l) (hs:IntR w sv st) (hm:Small l) (hst:st.length<=2^20) (ht:t.length<=2^30) :
 Cz 233 #[.agg #[dv],a0y sv t,.int .i64 k] w (b6j (P.a6q l (st,t) k) w):=by
 obtain⟨W0,hW0⟩:∃v,((((w.alloc (.cells #[dv] 26)).alloc (.cells #[sv,.string (S t)] 35)).alloc (.cells #[.slice none 0 0,.string (S [])] 35)).alloc (.cells #[.int .i64 0,.string (S [])] 55))=v:=⟨_,rfl⟩
 have hb0:Bl w W0:=by rw [<-hW0];exact ((((Below.refl w.heap.size w).alloc lZ _).alloc sZ _).alloc (by simp;omega) _).alloc (by simp;omega) _
 have hz0':W0.heap.size=w.heap.size+4:=by rw [<-hW0];simp
 have hx0:PrBx w.heap.size sv t dv W0:=by
  exact zq55
 have HU:=qh (hu.below hb0);have HST:=qh (hs.below hb0);have HB0:=qh hb0
 have HX:=qh hx0;have HZ0:=qh hz0'
 clear hb0 hz0'
 obtain⟨ad,cap,rfl,_,_⟩:=hu
 obtain⟨sd,sc,rfl,_,_⟩:=hs
 unfold a0y
 go_enter func233,ntmps233
 go_upto_region 1 with (fail)
 try rw [hW0]
 clear hW0
 obtain⟨i0,hi,hz0,hz1,hz2⟩:=info_parts a2i
 obtain⟨⟨_,k0⟩,⟨k1,k2,k3,_⟩,_,_⟩:=hx0
 go_wp2_with fail
 refine (c6m _ _ l st t _ HU.o HST.o hm).mono ?_
 rintro e w1 ⟨rfl,hb⟩
 have HB1:=qh hb;have HX1:=qh (HX.o.below hb);have HST1:=qh (HST.o.below hb);have HU1:=qh (HU.o.below hb)
 clear hb k0 k1 k2 k3
 obtain⟨⟨_,k0⟩,⟨_,k1,k2,_,_⟩,⟨_,k3,k4,k7,k8⟩,⟨_,k5,k6,k9,k10⟩⟩:=HX1.o
 have HP:Hq (P.a6q l (st,t) k=if P.trans l (st,t)&&P.a0q k then P.b4u l (st,t) k else ((P.tr0,(0,[])),false)):=⟨rfl⟩
 generalize P.trans l (st,t)=q at *
 cases q
 .exact zq190
 .go_wp2_with fail
  refine (c4d _ _).mono ?_;rintro e w2 ⟨rfl,rfl⟩;generalize P.a0q k=q at *
  cases q
  .exact zq190
  .rw [Bool.and_self,if_pos rfl]at HP;have HBW:=qh (HB0.o.trans (HB1.o.mono HB0.o.size));have hzz:w.heap.size+4<=w1.heap.size:=by have h1:=HB1.o.size;have h2:=HZ0.o;omega
   clear HB1 HX HU HST HB0 HZ0 k3 k4 k5 k6 k7 k8 k9 k10
   go_wp2_with fail
   refine (c9v _ st _ HST1.o oZ).mono ?_;rintro e x1 ⟨u,rfl,ho,hb⟩;have GB1:=qh hb;have GX1:=qh (HX1.o.below hb);have HOW:=qh ho;obtain⟨ua,uc,rfl⟩:=a0h ho;have hz1':=hb.size;clear k0 k1 k2 ho hb;have HOW2:=qh (HOW.o.alloc (.cells #[.int .i64 k] 3))
   go_wp2_with (at_builtin;refine wpList_append_own _ rfl _ _ 33 rfl w1.heap.size 3 i0 (.int .i64 0) 1 8 underlying33 hi hz0 hz1 hz2 rfl dZ (.slice ua st.length uc) st.length (ints st) rfl HOW2.o ⟨x1.heap.size,0,none⟩ 1 1 [.int .i64 k] rfl rfl ?_ ?_ ?_ ?_ ?_ ?_)
   all_goals first|exact⟨rfl,rfl⟩|(intro z hz;simp only [List.mem_cons,List.not_mem_nil,or_false]at hz;subst hz;rfl)|(unfold maxLen;omega)|omega|(simp;omega)|(intro i z hz;rcases i with _|i;(injection hz with hz;subst hz;rw [add0];go_simp);cases hz)|skip
   intro u4 w4 hown hgr _;have R:=qh (b6n HOW.o GB1.o 3 hown hgr);have HX4:=qh (HX1.o.below R.o.2);have hz4:=R.o.2.size;clear hown hgr;obtain⟨va,vc,rfl⟩:=a0h R.o.1;have HU4:=qh (HU1.o.below R.o.2)
   go_upto_if 30 with fail
   go_cut [9] (λu wx=>(∃a c,u=.slice a (P.next st k).length c)/\OwnK w1.heap.size wx u (P.next st k)/\Bl w1 wx)
   case first=>
    by_cases hk:k=1024
    .subst hk;refine zm47 ?_;intro HN HL i1;obtain⟨m,hm⟩:∃m,st.length-1=m:=⟨_,rfl⟩;rw [hm]at HL;have HN2:=qh (show P.next st 1024=st.take m by unfold P.next;rw [if_pos rfl,hm]);have HMX:=qh (show max ((st.length:Int)-1) 0=(m:Int) by omega);have i7:IntKind.i64.wrap ((st.length:Int)-1)=(st.length:Int)-1:=by rw [IntKind.wrap_i64];omega
     have hbd:=(Below.refl w4.heap.size w4).drew;have HT0:=qh (HX4.o.2.1.below hbd);have HST5:=qh ((HST1.o.below R.o.2).below hbd);have HB5:=qh (R.o.2.trans (hbd.mono hz4));clear hbd;go_upto_region 5 with fail;refine wp_region_held_drew (S:=TBx (w.heap.size+1) (.slice sd st.length sc) t) kZ HT0.o (λhS0=>?_);generalize w4.drew=v1 at *;refine tk15 0 hS0 ?_;refine tk15 1 hS0 ?_;refine tk15 3 hS0 ?_;refine tk15 4 hS0 ?_;refine tk15 5 hS0 ?_;refine tk15 6 hS0 ?_;refine trd 2 λK hK=>?_
     .go_simp;refine (c9v _ st _ HST5.o oZ).mono ?_;rintro e x2 ⟨u,rfl,ho,hb⟩;obtain⟨ya,yc,rfl⟩:=a0h ho;have HOY:=qh (a2g ho HB5.o.size);have HBY:=bt HB5 hb;refine zm71 ?_;intro hS1;clear hK K hS0 ho hb;refine zm0 ?_;refine trd 7 λK hK=>?_;go_simp;refine (l1Most _ _ _).mono ?_;rintro e x3 ⟨rfl,rfl⟩;refine hK.out _ _ hS1 (λhS2=>?_);clear hK K hS1;refine zm0 ?_;rw [HMX.o];have hyc:=(a2j HOY.o oZ).cap;have i5:(m:Int)<=(yc:Int):=by omega
      have i6:m<=yc:=by omega
      have HR:=qh (show OwnK w1.heap.size x3 (.slice ya m yc) (P.next st 1024) by
       rw [HN2.o]
       by_cases h0:st=[]
       .subst h0;have hm0:m=0:=by simp at hm;omega
        subst hm0;exact HOY.o
       .exact c5h HOY.o h0 oZ)
      refine tk15 8 hS2 ?_;refine tk15 9 hS2 ?_;refine wpAnyH_done kZ ?_ _;clear hS2;go_wp2;go_meet;exact⟨⟨ya,yc,by rw [HL.o]⟩,HR.o,HBY.o⟩
    .have i1:(k==1024)=false:=by simpa using hk
     have HN:=qh (show st++[k]=P.next st k by unfold P.next;rw [if_neg hk]);have HR:=qh (show OwnK w1.heap.size w4 (.slice va (st++[k]).length vc) (P.next st k) by rw [<-HN.o];exact R.o.1);rw [HN.o]at HR⊢;go_wp2;go_meet;exact⟨⟨_,_,rfl⟩,HR.o,R.o.2⟩
   case rest=>
    obtain⟨⟨a,c,rfl⟩,ho,hbc⟩:=hcut;have GX:=qh (HX1.o.below hbc);have GU:=qh (HU1.o.below hbc);have GB:=qh hbc;have hzc:=hbc.size;refine zm70 ?_;intro HN hnl hsl;generalize P.next st k=nx at *;have HI:=qh (a2j ho oZ);have HO4:=qh ho;obtain⟨⟨_,k0⟩,_,_,_⟩:=GX.o;clear ho hbc;go_wp2_with fail;refine (a5d _ _ l nx _ GU.o HI.o hm).mono ?_;rintro e w5 ⟨rfl,hb5⟩;generalize P.scr l nx=r at *;obtain⟨r1,r2⟩:=r;simp only at hsl;have HX5:=qh (GX.o.below hb5);have HB5:=qh (GB.o.trans (hb5.mono hzc));have HO5:=qh (a0i HO4.o hb5 lZ);have hz5:=hb5.size;clear hb5 k0
    cases r2
    .obtain⟨_,⟨_,k1,k2,_⟩,⟨_,k3,k4,k7,k8⟩,⟨_,k5,k6,k9,k10⟩⟩:=HX5.o;go_wp2;refine bodyPost_ret (v:=.tuple #[a0y (.slice none 0 0) [],a1d (0,[]),.bool false]) (by simp [a0y,a1d,k3,k4,k5,k6,results,results233,go_sem]) rfl ⟨.slice none 0 0,by rw [HP.o,HN.o];rfl,by rw [HP.o,HN.o];exact World.ownsRow_nil _ _ _ _,?_⟩;exact (((((HBW.o.trans (HB5.o.mono HBW.o.size)).setCell (by simp<;>omega) _).setCell (by simp<;>omega) _).setCell (by simp<;>omega) _).setCell (by simp<;>omega) _)
    .obtain⟨_,⟨_,k1,k2,_⟩,_,_⟩:=HX5.o
     go_wp2_with fail
     refine (b5n t r1 _ ht oZ).mono ?_;rintro e w6 ⟨rfl,hb6⟩;have HX6:=qh (HX5.o.below hb6);have HB6:=qh (HB5.o.trans (hb6.mono (Nat.le_trans hzc hz5)));have HO6:=qh (a0i HO5.o hb6 lZ);clear hb6 k1 k2;obtain⟨_,_,⟨_,k3,k4,k7,k8⟩,⟨_,k5,k6,k9,k10⟩⟩:=HX6.o;go_wp2;refine bodyPost_ret (v:=.tuple #[a0y (.slice a nx.length c) r1,a1d (P.least t r1),.bool true]) (by simp [a0y,a1d,k3,k4,k5,k6,results,results233,go_sem]) rfl ⟨.slice a nx.length c,by rw [HP.o,HN.o];rfl,?_,?_⟩
     .rw [HP.o,HN.o];exact zq123
     .exact (((((HBW.o.trans (HB6.o.mono HBW.o.size)).setCell (by simp<;>omega) _).setCell (by simp<;>omega) _).setCell (by simp<;>omega) _).setCell (by simp<;>omega) _)
def RdS (a b g p:Nat) (dv tv:Value) (t:Str) (s:Int) (v:World):Prop:=v.cell? ⟨a,0,none⟩=some dv/\v.cell? ⟨b,0,none⟩=some tv/\v.cell? ⟨b,1,none⟩=some (.string (S t))/\v.cell? ⟨g,p,none⟩=some (.int .i64 s)
theorem RdS.step {a b g p:Nat} {dv tv:Value} {t:Str} {s:Int} {B:Nat} (h:RdS a b g p dv tv t s v) (hb:Below B v v') (hB:a<B/\b<B/\g<B):RdS a b g p dv tv t s v':=
 ⟨(hb.cell (p:=⟨a,0,none⟩) hB.1).trans h.1,(hb.cell (p:=⟨b,0,none⟩) hB.2.1).trans h.2.1,(hb.cell (p:=⟨b,1,none⟩) hB.2.1).trans h.2.2.1,(hb.cell (p:=⟨g,p,none⟩) hB.2.2).trans h.2.2.2⟩
structure PrSt (wr:World) (R:World->Prop) (o1 o2:Option Nat) (v:World):Prop where
 s:R v
 k:∀x y,R x->Below wr.heap.size x y->R y
 bw:Bl wr v
 t:∀b,o1=some b->wr.heap.size<=b/\TBx b (.slice none 0 0) [] v
 e:∀b,o2=some b->wr.heap.size<=b/\EBx b v
 n:∀a b,o1=some a->o2=some b->a≠b
theorem PrSt.start {R:World->Prop} (h:R v) (hk:∀x y,R x->Below wr.heap.size x y->R y) (hb:Bl wr v):PrSt wr R none none v:=
 ⟨h,hk,hb,λ_ e=>(by cases e),λ_ e=>(by cases e),λ_ _ e=>(by cases e)⟩
theorem PrSt.below {R:World->Prop} (h:PrSt wr R o1 o2 v) (hb:Bl v v'):PrSt wr R o1 o2 v':=
 ⟨h.k _ _ h.s (hb.mono h.bw.size),h.k,h.bw.trans (hb.mono h.bw.size),λb e=>⟨(h.t b e).1,(h.t b e).2.below hb⟩,λb e=>⟨(h.e b e).1,(h.e b e).2.below hb⟩,h.n⟩
theorem PrSt.a5s {R:World->Prop} (h:PrSt wr R none o2 v):PrSt wr R (some v.heap.size) o2 (v.alloc (.cells #[.slice none 0 0,.string (S [])] 35)):=by
 have g:=h.below ((Below.refl v.heap.size v).alloc lZ (.cells #[.slice none 0 0,.string (S [])] 35));refine⟨g.s,g.k,g.bw,λb e=>?_,g.e,λa b e1 e2=>?_⟩
 .injection e with e;subst e;exact⟨h.bw.size,TBx.new _ _ _⟩
 .injection e1 with e1;have:=(h.e b e2).2.1;omega
theorem PrSt.a5u {R:World->Prop} (h:PrSt wr R o1 none v):PrSt wr R o1 (some v.heap.size) (v.alloc (.cells #[.int .i64 0,.string (S [])] 55)):=by
 have g:=h.below ((Below.refl v.heap.size v).alloc lZ (.cells #[.int .i64 0,.string (S [])] 55));refine⟨g.s,g.k,g.bw,g.t,λb e=>?_,λa b e1 e2=>?_⟩
 .injection e with e;subst e;exact⟨h.bw.size,EBx.new _⟩
 .injection e2 with e2;have:=(h.t a e1).2.1;omega
def PrR (wr:World) (o1 o2:Option Nat) (nu:Value) (ns:List Int) (v:World):Prop:=OwnK wr.heap.size v nu ns/\∀k,nu.ownBlock=some k->o1≠some k/\o2≠some k
theorem PrR.called {R:World->Prop} (h:PrSt wr R o1 o2 v) (_hb:Bl v v') (ho:OwnK v.heap.size v' nu ns):PrR wr o1 o2 nu ns v':=
 ⟨a2g ho h.bw.size,λk hk=>by
  have h1:=(World.ownsRow.lt ho k hk).1;exact⟨λe=>by have:=(h.t k e).2.1;omega,λe=>by have:=(h.e k e).2.1;omega⟩⟩
theorem PrR.alloc {p1 p2:Option Nat} (h:PrR wr o1 o2 nu ns v) (o:Obj) (h1:p1=o1\/p1=some v.heap.size) (h2:p2=o2\/p2=some v.heap.size):PrR wr p1 p2 nu ns (v.alloc o):=by
 refine⟨a0i h.1 ((Below.refl v.heap.size v).alloc lZ o) lZ,λk hk=>?_⟩;have hlt:=(World.ownsRow.lt h.1 k hk).2;obtain⟨g1,g2⟩:=h.2 k hk;refine⟨?_,?_⟩
 .rcases h1 with rfl|rfl
  .exact g1
  .intro e;injection e with e;omega
 .rcases h2 with rfl|rfl
  .exact g2
  .intro e;injection e with e;omega
theorem PrR.a0b {X:Blk} (h:PrR wr o1 o2 nu ns v) (hc:Chg X v v') (hX:∀b,X b->o1=some b\/o2=some b):PrR wr o1 o2 nu ns v':=
 ⟨a1f h.1 hc λk hk hx=>by
  rcases hX k hx with e|e
  .exact (h.2 k hk).1 e
  .exact (h.2 k hk).2 e,h.2⟩
theorem e0r (s:Str) (w:World) (hs:s.length<=2^40) :
 Cz 83 #[.string (S s)] w λe w'=>e=.returned (.bool (P.a3u s))/\w=w':=by
 have HP:Hq (P.a3u s=(decide ((s.length:Int)<=2000)&&s.all P.prn)):=⟨rfl⟩
 go_enter func83,ntmps83
 by_cases h:(s.length:Int)<=2000
 .rw [decide_eq_true h,Bool.true_and]at HP
  go_wp2_with fail
  refine (a3q s _ hs).mono ?_;rintro e w' ⟨rfl,rfl⟩;generalize s.all P.prn=q at *;go_wp2;go_ret;exact⟨by rw [HP.o];rfl,rfl⟩
 .rw [decide_eq_false h,Bool.false_and]at HP;go_wp2;go_ret;exact⟨by rw [HP.o];rfl,rfl⟩
theorem c6y (x:Int) (t:Str) (w:World) (hs:t.length<=2^40) :
 Cz 84 #[.agg #[.int .i64 x,.string (S t)]] w λe w'=>e=.returned (.bool (P.a4g (x,t)))/\Bl w w':=by
 have HB:=qh ((Below.refl w.heap.size w).alloc lZ (.cells #[.int .i64 x,.string (S t)] 55))
 have HP:Hq (P.a4g (x,t)=(decide (0<=x/\x<=2000)&&P.a3u t)):=⟨rfl⟩
 go_enter func84,ntmps84
 go_wp2_with fail
 refine (a1x _ _ _ _).mono ?_
 rintro e w1 ⟨rfl,rfl⟩
 obtain⟨q,hq⟩:∃q,decide (0<=x/\x<=2000)=q:=⟨_,rfl⟩
 rw [hq]at HP⊢
 clear hq
 cases q
 .go_wp2;go_ret;exact⟨by rw [HP.o];rfl,HB.o⟩
 .go_wp2_with fail
  refine (e0r t _ hs).mono ?_;exact zq169
theorem P.b4r {e:P.Edit} (h:P.a4g e=true):0<=e.1/\e.1<=2000/\P.a3u e.2=true:=by
 unfold P.a4g at h;simp only [Bool.and_eq_true,decide_eq_true_eq]at h;exact⟨h.1.1,h.1.2,h.2⟩
theorem d4y (n:Int) (w:World) (h0:0<=n) (h1:n<=999999) (hE:L.Env w) :
 Cz 153 #[.int .i64 n] w (a9u (P.num n.toNat,true) w):=by
 go_enter func153,ntmps153
 go_wp2_with fail
 refine (a1x _ _ _ _).mono ?_
 rintro e w1 ⟨rfl,rfl⟩
 rw [decide_eq_true oZ]
 go_wp2_with fail
 refine (L.a6d n _ oZ oZ hE).mono ?_
 rintro e w1 ⟨rfl,hb⟩
 have HB:=qh hb
 clear hb
 go_wp2
 go_ret2
 exact⟨rfl,HB.o⟩
theorem a5z (x:Int) (t:Str) (w:World) (he:P.a4g (x,t)=true) (hE:L.Env w) :
 Cz 82 #[a1d (x,t)] w (a9u (P.fmtE (x,t),true) w):=by
 obtain⟨h0,h1,h2⟩:=P.b4r he;simp only at h0 h1 h2;refine zm22 ?_;intro htl HOK hb0 HX;have HE:=qh (hE.below hb0 hE.size);have HB:=qh hb0;clear hb0 hE he h2;unfold a1d;go_enter func82,ntmps82;go_upto_region 1 with fail;generalize (World.alloc _ _)=v0 at *;obtain⟨_,c0,c1⟩:=HX.o;go_wp2_with fail;refine (c6y x t _ oZ).mono ?_;rintro e w1 ⟨rfl,hb⟩;have hzb:=HX.o.1;have d0:=(hb.cell (p:=⟨w.heap.size,0,none⟩) hzb).trans c0;have d1:=(hb.cell (p:=⟨w.heap.size,1,none⟩) hzb).trans c1;have HX1:=qh (show w.heap.size<w1.heap.size/\w1.cell? ⟨w.heap.size,0,none⟩=some (.int .i64 x)/\w1.cell? ⟨w.heap.size,1,none⟩=some (.string (S t)) from⟨Nat.lt_of_lt_of_le hzb hb.size,d0,d1⟩);have HE1:=qh (HE.o.below hb HE.o.size);have HB1:=bt HB hb;rw [HOK.o];clear hb c0 c1 HX HE HB hzb;go_wp2_with fail;refine (d4y x _ h0 oZ HE1.o).mono ?_;rintro e w2 ⟨rfl,hb⟩;obtain⟨hzb,_,_⟩:=HX1.o;have e1:=(hb.cell (p:=⟨w.heap.size,1,none⟩) hzb).trans d1;have HB2:=bt HB1 hb;have hnl:(P.num x.toNat).length<=20:=P.num_len _ oZ;clear hb d0 d1 HX1 hzb;go_wp2;go_ret2;exact⟨rfl,HB2.o⟩
theorem d5n (s:Str) (w:World) (hs:s.length<=2^40) :
 Cz 370 #[.string (S s)] w λe w'=>e=.returned (.bool (P.a3u s))/\w=w':=by
 have HP:Hq (P.a3u s=(decide ((s.length:Int)<=2000)&&s.all P.prn)):=⟨rfl⟩
 go_enter func370,ntmps370
 by_cases h:(s.length:Int)<=2000
 .rw [decide_eq_true h,Bool.true_and]at HP
  go_wp2_with fail
  refine (b5i s _ hs).mono ?_;rintro e w' ⟨rfl,rfl⟩;generalize s.all P.prn=q at *;go_wp2;go_ret;exact⟨by rw [HP.o];rfl,rfl⟩
 .rw [decide_eq_false h,Bool.false_and]at HP;go_wp2;go_ret;exact⟨by rw [HP.o];rfl,rfl⟩
theorem e4o (x:Int) (t:Str) (w:World) (hs:t.length<=2^40) :
 Cz 341 #[a1d (x,t)] w λe w'=>e=.returned (.bool (P.a4g (x,t)))/\Bl w w':=by
 have HB:=qh ((Below.refl w.heap.size w).alloc lZ (.cells #[.int .i64 x,.string (S t)] 55))
 have HP:Hq (P.a4g (x,t)=(decide (0<=x/\x<=2000)&&P.a3u t)):=⟨rfl⟩
 unfold a1d
 go_enter func341,ntmps341
 go_wp2_with fail
 refine (l1In _ _ _ _).mono ?_
 rintro e w1 ⟨rfl,rfl⟩
 obtain⟨q,hq⟩:∃q,decide (0<=x/\x<=2000)=q:=⟨_,rfl⟩
 rw [hq]at HP⊢
 clear hq
 cases q
 .go_wp2;go_ret;exact⟨by rw [HP.o];rfl,HB.o⟩
 .go_wp2_with fail
  refine (d5n t _ hs).mono ?_;exact zq169
theorem b6v (x:Int) (t:Str) (w:World) (he:P.a4g (x,t)=true) :
 Cz 292 #[a1d (x,t)] w (a9u (P.fmtE (x,t),true) w):=by
 obtain⟨h0,h1,h2⟩:=P.b4r he;simp only at h0 h1 h2;refine zm22 ?_;intro htl HOK hb0 HX;have HB:=qh hb0;clear hb0 he h2;unfold a1d;go_enter func292,ntmps292;go_upto_region 1 with fail;generalize (World.alloc _ _)=v0 at *;obtain⟨_,c0,c1⟩:=HX.o;go_wp2_with fail;refine (e4o x t _ oZ).mono ?_;rintro e w1 ⟨rfl,hb⟩;have hzb:=HX.o.1;have d0:=(hb.cell (p:=⟨w.heap.size,0,none⟩) hzb).trans c0;have d1:=(hb.cell (p:=⟨w.heap.size,1,none⟩) hzb).trans c1;have HZ:Hq (w.heap.size<w1.heap.size):=⟨Nat.lt_of_lt_of_le hzb hb.size⟩;have HB1:=bt HB hb;have hnl:(P.num x.toNat).length<=20:=P.num_len _ oZ;rw [HOK.o];clear hb c0 c1 HX HB hzb;go_wp2_with fail;go_quiet ((go_at_call 197;exact Calls.quiet_of (L.c1a x _ h0 oZ)));go_wp2;go_ret2;exact⟨rfl,below_drewN HB1.o _⟩
end Go.Proofs.YtggfdnopminemaaGreatDoor
