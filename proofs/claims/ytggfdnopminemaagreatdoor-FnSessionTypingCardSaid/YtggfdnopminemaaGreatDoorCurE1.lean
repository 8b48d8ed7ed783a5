/- Walks: the cursor that draws arguments from bytes, for the dictionary seats. -/
import Derived.Test.YtggfdnopminemaaGreatDoorZt
import Derived.Test.YtggfdnopminemaaGreatDoorLawD
set_option linter.all false
namespace Go.Proofs.YtggfdnopminemaaGreatDoor
section
open Go Go.RowKit
set_option maxHeartbeats 8000000
set_option maxRecDepth 100000
theorem Chg.drewN {F:Blk} {a w:World} (h:Chg F a w) (k:Nat):Chg F a (w.drewN k):=h.trans (Below.chg (below_drewN (Below.refl w.heap.size w) k) F)
def a1r (B C K:Nat) (v:World):Prop:=
 ∃(ad:Option Addr) (n cap a:Nat) (s:Int),v.cell? ⟨C,0,none⟩=some (.slice ad n cap)∧v.cell? ⟨C,1,none⟩=some (.int .i64 a)∧v.cell? ⟨C,2,none⟩=some (.int .u64 s) ∧
  v.frozen? ⟨C,1,none⟩=false∧v.frozen? ⟨C,2,none⟩=false∧a≤K∧n≤65536∧0≤s∧s<18446744073709551616∧B≤C∧C<v.heap.size ∧
  (n=0∨∃g o,ad=some ⟨g,o,none⟩∧g<B∧∀j,j<n→∃b:Nat,b<256∧v.cell? ⟨g,o+j,none⟩=some (.int .u8 b))
def a0d (B C K:Nat) (v v':World):Prop:=a1r B C K v'∧Chg (fun b=>b=C) v v'
theorem b8v (x:Int):0≤IntKind.u64.wrap x∧IntKind.u64.wrap x<18446744073709551616:=by
 simp only [IntKind.wrap]
 constructor
 ·exact Int.emod_nonneg _ dZ
 ·exact Int.emod_lt_of_pos _ dZ
theorem d1g (x:Int):∃m:Nat,m<256∧wrap64 (bits .and .u64 (IntKind.u64.wrap x / 1099511627776) 255)=(m:Int):=by
 obtain⟨h0,h1⟩:=b8v x;obtain⟨y,hy⟩:=Int.eq_ofNat_of_zero_le h0;rw [hy]at h1⊢;have e:((y:Nat):Int) / 1099511627776=((y / 1099511627776:Nat):Int):=by omega
 rw [e,show (255:Int)=((255:Nat):Int) from rfl,bits_and_u64_nat _ _ oZ dZ];have hm:(y / 1099511627776) &&& 255<256:=Nat.lt_of_le_of_lt Nat.and_le_right dZ;refine⟨_,hm,?_⟩;simp only [wrap64];omega
theorem c2s {B C K n cap a:Nat} {ad:Option Addr} {w:World} (x s':Int) (i j:Nat) (c0:w.cell? ⟨C,0,none⟩=some (.slice ad n cap)) (c1:w.cell? ⟨C,1,none⟩=some (.int .i64 a)) (s:Value) (c2:w.cell? ⟨C,2,none⟩=some s)
 (f1:w.frozen? ⟨C,1,none⟩=false) (f2:w.frozen? ⟨C,2,none⟩=false) (ha:a≤K) (hn:n≤65536) (hs0:0≤s') (hs1:s'<18446744073709551616) (hBC:B≤C) (hC:C<w.heap.size) (hx:x=((a+1:Nat):Int))
 (hcode:n=0∨∃g o,ad=some ⟨g,o,none⟩∧g<B∧∀j,j<n→∃b:Nat,b<256∧w.cell? ⟨g,o+j,none⟩=some (.int .u8 b)) :
 a0d B C (K+1) w ((((w.drewN i).setCell ⟨C,1,none⟩ (.int .i64 x)).setCell ⟨C,2,none⟩ (.int .u64 s')).drewN j):=by
 subst hx
 have hsz:((((w.drewN i).setCell ⟨C,1,none⟩ (.int .i64 ((a+1:Nat):Int))).setCell ⟨C,2,none⟩ (.int .u64 s')).drewN j).heap.size=w.heap.size:=by simp
 have ho:∀g o,g≠C→((((w.drewN i).setCell ⟨C,1,none⟩ (.int .i64 ((a+1:Nat):Int))).setCell ⟨C,2,none⟩ (.int .u64 s')).drewN j).cell? ⟨g,o,none⟩=w.cell? ⟨g,o,none⟩:=by
  intro g o hg;simp only [World.cell?_drewN];rw [World.cell?_setCell_other _ _ _ _ (by intro e;injection e;omega),World.cell?_setCell_other _ _ _ _ (by intro e;injection e;omega)];simp
 refine⟨⟨ad,n,cap,a+1,s',?_,?_,?_,by simpa using f1,by simpa using f2,by omega,hn,hs0,hs1,hBC,by rw [hsz];exact hC,?_⟩,?_⟩
 ·go_simp
 ·go_simp
 ·go_simp
 ·rcases hcode with h|⟨g,o,h1,h2,h3⟩
  ·exact .inl h
  ·refine .inr ⟨g,o,h1,h2,fun j hj=>?_⟩;obtain⟨b,hb,hc⟩:=h3 j hj;exact⟨b,hb,(ho _ _ oZ).trans hc⟩
 ·exact (((((Chg.refl (fun b=>b=C) w).drewN i).setCell (p:=⟨C,1,none⟩) rfl _).setCell (p:=⟨C,2,none⟩) rfl _).drewN j)
theorem b5s (B C K:Nat) (w:World) (hK:K<2^40) (h:a1r B C K w) :
 Calls Tryz.prog 114 #[.pointer (some ⟨C,0,none⟩)] w fun e w'=>∃x:Nat,x<256∧e=.returned (.int .i64 x)∧a0d B C (K+1) w w':=by
 obtain⟨ad,n,cap,a,s,c0,c1,c2,f1,f2,ha,hn,hs0,hs1,hBC,hC,hcode⟩:=h
 by_cases hlt:a<n
 ·have hcd:∃g o,ad=some ⟨g,o,none⟩∧g<B∧∀j,j<n→∃b:Nat,b<256∧w.cell? ⟨g,o+j,none⟩=some (.int .u8 b):=by
   rcases hcode with h|h
   ·omega
   ·exact h
  obtain⟨g,o,rfl,hg,hby⟩:=hcd;obtain⟨b,hb,hcb⟩:=hby a hlt;have HBY:=qh hby;clear hby hcode;have hb1:(b:Int)<256:=by omega
  have hne:g≠C:=by omega
  go_enter Tryz.func114,Tryz.ntmps114
  go_wp2
  go_quiet (fail)
  go_wp2
  go_quiet (fail)
  go_wp2
  go_quiet (fail)
  go_wp2;go_ret;exact⟨b,hb,rfl,c2s _ _ _ _ c0 c1 _ c2 f1 f2 ha hn (b8v _).1 (b8v _).2 hBC hC oZ (.inr ⟨g,o,rfl,hg,HBY.o⟩)⟩
 ·have hge:(n:Int)≤a:=by omega
  have hcd:=qh hcode;clear hcode
  go_enter Tryz.func114,Tryz.ntmps114
  go_wp2
  go_quiet (fail)
  go_wp2
  go_quiet (fail)
  go_wp2;go_ret;obtain⟨m,hm,e⟩:=d1g (IntKind.u64.wrap (IntKind.u64.wrap (s*6364136223846793005))+882882);refine⟨m,hm,?_,c2s _ _ _ _ c0 c1 _ c2 f1 f2 ha hn (b8v _).1 (b8v _).2 hBC hC oZ hcd.o⟩;rw [←e];rfl
theorem a1r.mono {B C K K':Nat} {v:World} (h:a1r B C K v) (hK:K≤K'):a1r B C K' v:=by
 obtain⟨ad,n,cap,a,s,c0,c1,c2,f1,f2,ha,r⟩:=h;exact⟨ad,n,cap,a,s,c0,c1,c2,f1,f2,Nat.le_trans ha hK,r⟩
theorem a0d.refl {B C K K':Nat} {v:World} (h:a1r B C K v) (hK:K≤K'):a0d B C K' v v:=⟨h.mono hK,Chg.refl _ _⟩
theorem a0d.trans {B C K K':Nat} {u v w:World} (h:a0d B C K u v) (k:a0d B C K' v w):a0d B C K' u w:=⟨k.1,h.2.trans k.2⟩
theorem a0d.mono {B C K K':Nat} {u v:World} (h:a0d B C K u v) (hK:K≤K'):a0d B C K' u v:=⟨h.1.mono hK,h.2⟩
theorem a1r.a0c {B C K:Nat} {v v':World} {X:Blk} (h:a1r B C K v) (hc:Chg X v v') (hX:∀b,X b→B≤b∧b≠C):a1r B C K v':=by
 obtain⟨ad,m,cap,a,s,c0,c1,c2,f1,f2,ha,hn,hs0,hs1,hBC,hC,hcode⟩:=h;have hXC:¬X C:=fun h=>(hX C h).2 rfl;refine⟨ad,m,cap,a,s,(hc.cell (p:=⟨C,0,none⟩) hC hXC).trans c0,(hc.cell (p:=⟨C,1,none⟩) hC hXC).trans c1,(hc.cell (p:=⟨C,2,none⟩) hC hXC).trans c2,(hc.frozen (p:=⟨C,1,none⟩) hC hXC).trans f1,(hc.frozen (p:=⟨C,2,none⟩) hC hXC).trans f2,ha,hn,hs0,hs1,hBC,Nat.lt_of_lt_of_le hC hc.size,?_⟩
 rcases hcode with h|⟨g,o,h1,h2,h3⟩
 ·exact .inl h
 ·refine .inr ⟨g,o,h1,h2,fun j hj=>?_⟩;obtain⟨b,hb,hcb⟩:=h3 j hj;exact⟨b,hb,(hc.cell (p:=⟨g,_,none⟩) (by show g<v.heap.size;omega) (fun h=>by have:=(hX g h).1;omega)).trans hcb⟩
theorem a1r.below {B C K:Nat} {v v':World} (h:a1r B C K v) (hb:Below v.heap.size v v'):a1r B C K v':=h.a0c (Below.chg hb fun _=>False) fun _ h=>h.elim
theorem a1r.lt {B C K:Nat} {v:World} (h:a1r B C K v):B≤C∧C<v.heap.size:=by
 obtain⟨ad,m,cap,a,s,c0,c1,c2,f1,f2,ha,hn,hs0,hs1,hBC,hC,hcode⟩:=h;exact⟨hBC,hC⟩
theorem a1r.set {B C K g i:Nat} {v:World} (h:a1r B C K v) (hgC:g≠C) (hgB:B≤g) (x:Value):a1r B C K (v.setCell ⟨g,i,none⟩ x):=
 h.a0c ((Chg.refl (fun b=>b=g) v).setCell (p:=⟨g,i,none⟩) rfl x) (by rintro b rfl;exact⟨hgB,hgC⟩)
theorem a0d.below {B C K:Nat} {u v v':World} (h:a0d B C K u v) (hb:Below v.heap.size v v'):a0d B C K u v':=⟨h.1.below hb,h.2.trans (Below.chg hb _)⟩
theorem a0d.alloc {B C K:Nat} {u v:World} (h:a0d B C K u v) (o:Obj):a0d B C K u (v.alloc o):=h.below (bZ.alloc lZ o)
theorem a0d.drewN {B C K:Nat} {u v:World} (h:a0d B C K u v) (n:Nat):a0d B C K u (v.drewN n):=h.below (below_drewN bZ n)
theorem a0d.drew {B C K:Nat} {u v:World} (h:a0d B C K u v):a0d B C K u v.drew:=h.below bZ.drew
theorem a0d.new {B C K:Nat} {u v v':World} {X:Blk} (h:a0d B C K u v) (hc:Chg X v v') (hX:∀b,X b→u.heap.size≤b) (hl:C<u.heap.size) (hB:B≤u.heap.size):a0d B C K u v':=
 ⟨h.1.a0c hc fun b hb=>⟨Nat.le_trans hB (hX b hb),fun e=>by have:=hX b hb;omega⟩,
  ⟨hc.os.trans h.2.os,hc.tape.trans h.2.tape,hc.output.trans h.2.output,Nat.le_trans h.2.size hc.size,fun b hb hf=>(hc.block b (Nat.lt_of_lt_of_le hb h.2.size) fun hx=>by have:=hX b hx;omega).trans (h.2.block b hb hf)⟩⟩
theorem a0d.set {B C K g i:Nat} {u v:World} (h:a0d B C K u v) (hg:u.heap.size≤g) (hl:C<u.heap.size) (hB:B≤u.heap.size) (x:Value):a0d B C K u (v.setCell ⟨g,i,none⟩ x):=
 h.new ((Chg.refl (fun b=>b=g) v).setCell (p:=⟨g,i,none⟩) rfl x) (by rintro b rfl;exact hg) hl hB
theorem a0d.env {B C K:Nat} {u v:World} (h:a0d B C K u v) (hE:Env u) (hB:EB≤B) (hl:B≤C) (hC:C<u.heap.size):Env v:=
 hE.below (h.2.below (B:=B) oZ (by rintro b rfl;exact hl)) hB
theorem a1b (B C K:Nat) (n:Int) (w:World) (hK:K<2^39) (hn:n<2^40) (h:a1r B C K w) :
 Calls Tryz.prog 51 #[.pointer (some ⟨C,0,none⟩),.int .i64 n] w fun e w'=>∃x:Nat,((x:Int)<n∨x=0)∧e=.returned (.int .i64 x)∧a0d B C (K+2) w w':=by
 have HC:=qh h;clear h
 rcases Int.lt_or_le 1 n with h1|h1
 ·obtain⟨m,rfl⟩:=Int.eq_ofNat_of_zero_le (show 0≤n by omega);have hp:¬(m:Int)≤1:=by omega
  have hm1:(m:Int)≤1099511627776:=by omega
  clear hn
  by_cases h2:(200:Int)<m
  ·go_enter Tryz.func51,Tryz.ntmps51
   go_wp2_with fail
   refine (b5s B C K w oZ HC.o).mono ?_;rintro e w1 ⟨x,hx,rfl,hc⟩;have H1:=qh hc;clear hc;have hx1:(x:Int)<256:=by omega
   go_wp2_with fail
   refine (b5s B C (K+1) w1 oZ H1.o.1).mono ?_;rintro e w2 ⟨y,hy,rfl,hc⟩;have H2:=qh (H1.o.trans hc);clear hc H1;have hy1:(y:Int)<256:=by omega
   go_wp2;go_ret;exact⟨(x*256+y) % m,.inl (by have:=Nat.mod_lt (x*256+y) (show 0<m by omega);omega),by simp,H2.o⟩
  ·go_enter Tryz.func51,Tryz.ntmps51
   go_wp2_with fail
   refine (b5s B C K w oZ HC.o).mono ?_;rintro e w1 ⟨x,hx,rfl,hc⟩;have H1:=qh hc;clear hc;have hx1:(x:Int)<256:=by omega
   go_wp2;go_ret;exact⟨x % m,.inl (by have:=Nat.mod_lt x (show 0<m by omega);omega),by simp,H1.o.mono oZ⟩
 ·clear hn
  go_enter Tryz.func51,Tryz.ntmps51
  go_wp2;go_ret;exact⟨0,.inr rfl,rfl,a0d.refl HC.o oZ⟩
theorem b3b (B C K:Nat) (n:Int) (w:World) (hK:K<2^39) (hn:n<2^40) (h:a1r B C K w) :
 Calls Tryz.prog 53 #[.pointer (some ⟨C,0,none⟩),.int .i64 n] w fun e w'=>∃b:Bool,e=.returned (.bool b)∧a0d B C (K+2) w w':=by
 have HC:=qh h;clear h
 go_enter Tryz.func53,Tryz.ntmps53
 go_wp2_with fail
 refine (a1b B C K n w hK hn HC.o).mono ?_
 rintro e w1 ⟨x,hx,rfl,hc⟩
 have H1:=qh hc;clear hc
 clear hx
 go_wp2
 go_ret
 exact⟨_,rfl,H1.o⟩
theorem b0x (B C K g cap:Nat) (l:List Str) (w:World) (hK:K<2^39) (hl:l.length<2^30) (hl0:0<l.length) (hg:g<w.heap.size) (hgC:g≠C)
 (hcell:∀(j:Nat) (h:j<l.length),w.cell? ⟨g,j,none⟩=some (.string (S (l[j]'h)))) (h:a1r B C K w) :
 Calls Tryz.prog 112 #[.pointer (some ⟨C,0,none⟩),.slice (some ⟨g,0,none⟩) l.length cap] w fun e w'=>∃s,s∈l∧e=.returned (.string (S s))∧a0d B C (K+2) w w':=by
 have HC:=qh h;clear h
 have HCELL:=qh hcell;clear hcell
 go_enter Tryz.func112,Tryz.ntmps112
 go_wp2_with fail
 refine (a1b B C K l.length w hK oZ HC.o).mono ?_
 rintro e w1 ⟨x,hx,rfl,hc⟩
 have hxl:x<l.length:=by omega
 clear hx
 have hk:w1.cell? ⟨g,x,none⟩=some (.string (S l[x])):=(hc.2.cell (p:=⟨g,x,none⟩) hg hgC).trans (HCELL.o x hxl)
 have H1:=qh hc;clear hc
 obtain⟨s,hs⟩:∃s,s=l[x]:=⟨_,rfl⟩
 rw [←hs]at hk
 have HM:=qh (show s∈l by rw [hs];exact List.getElem_mem hxl)
 clear hs
 go_wp2
 go_ret
 exact⟨s,HM.o,rfl,H1.o⟩
theorem b3a (B C K g cap:Nat) (l:List Int) (w:World) (hK:K<2^39) (hl:l.length<2^30) (hl0:0<l.length) (hg:g<w.heap.size) (hgC:g≠C)
 (hcell:∀(j:Nat) (h:j<l.length),w.cell? ⟨g,j,none⟩=some (.int .i64 (l[j]'h))) (h:a1r B C K w) :
 Calls Tryz.prog 192 #[.pointer (some ⟨C,0,none⟩),.slice (some ⟨g,0,none⟩) l.length cap] w fun e w'=>∃s,s∈l∧e=.returned (.int .i64 s)∧a0d B C (K+2) w w':=by
 have HC:=qh h;clear h
 have HCELL:=qh hcell;clear hcell
 go_enter Tryz.func192,Tryz.ntmps192
 go_wp2_with fail
 refine (a1b B C K l.length w hK oZ HC.o).mono ?_
 rintro e w1 ⟨x,hx,rfl,hc⟩
 have hxl:x<l.length:=by omega
 clear hx
 have hk:w1.cell? ⟨g,x,none⟩=some (.int .i64 l[x]):=(hc.2.cell (p:=⟨g,x,none⟩) hg hgC).trans (HCELL.o x hxl)
 have H1:=qh hc;clear hc
 obtain⟨s,hs⟩:∃s,s=l[x]:=⟨_,rfl⟩
 rw [←hs]at hk
 have HM:=qh (show s∈l by rw [hs];exact List.getElem_mem hxl)
 clear hs
 go_wp2
 go_ret
 exact⟨s,HM.o,rfl,H1.o⟩
end
open Go Go.RowKit
set_option maxHeartbeats 8000000
set_option maxRecDepth 100000
theorem Chg.grown {v v':World} {row:Option Nat} (h:v.grownBy v' row):Chg (fun b=>row=some b) v v':=
 ⟨h.os,h.tape,h.output,h.size,fun b hb hf=>h.block b hb fun e=>hf e.symm⟩
theorem a0g {B:Nat} {e:TypeId} {z:Nat} {v v':World} {u:Value} {n:Nat} {xs:List Value} {X:Blk} (h:v.ownsRow B e z u n xs) (hc:Chg X v v') (hX:∀k,u.ownBlock=some k→¬X k):v'.ownsRow B e z u n xs:=by
 refine⟨h.1,h.2.imp id ?_⟩;rintro⟨g,cap,cur,e,hg,hh,r⟩;have hk:u.ownBlock=some g:=by rw [e];rfl
 exact⟨g,cap,cur,e,hg,(hc.block g (World.ownsRow.lt h g hk).2 (hX g hk)).trans hh,r⟩
theorem a5l {B B':Nat} {e:TypeId} {z:Nat} {v:World} {u:Value} {n:Nat} {xs:List Value} (h:v.ownsRow B e z u n xs) (hB:B'≤B):v.ownsRow B' e z u n xs:=
 ⟨h.1,h.2.imp id fun⟨g,cap,cur,e,hg,r⟩=>⟨g,cap,cur,e,Nat.le_trans hB hg,r⟩⟩
theorem b6a (l:List Int) (v:World) (t:TypeId) (j:Nat) (h:j<l.length):(v.alloc (.cells (l.map (Value.int .i64)).toArray t)).cell? ⟨v.heap.size,j,none⟩=some (.int .i64 (l[j]'h)):=by
 rw [World.cell?_alloc_new];simp [h]
theorem a2k (l:List Str) (v:World) (t:TypeId) (j:Nat) (h:j<l.length):(v.alloc (.cells (l.map fun s=>Value.string (S s)).toArray t)).cell? ⟨v.heap.size,j,none⟩=some (.string (S (l[j]'h))):=by
 rw [World.cell?_alloc_new];simp [h]
def b6j (B C K:Nat) (w:World) (e:Ending) (w':World):Prop:=∃s:Int,e=.returned (.int .i64 s)∧a0d B C K w w'
theorem b1n (B C K:Nat) (w:World) (hK:K<2^38) (h:a1r B C K w) :
 Calls Tryz.prog 117 #[.pointer (some ⟨C,0,none⟩)] w (b6j B C (K+2) w):=by
 have hlt:=h.lt
 have HC:=qh ((a0d.refl h (Nat.le_refl K)).alloc (.cells #[.int .i64 524552,.int .i64 260,.int .i64 1048576,.int .i64 262144] 3))
 have HL:=qh (b6a [524552,260,1048576,262144] w 3)
 clear h
 go_enter Tryz.func117,Tryz.ntmps117
 go_wp2_with fail
 refine (b3a B C K w.heap.size 4 [524552,260,1048576,262144] _ oZ dZ dZ sZ oZ HL.o HC.o.1).mono ?_
 rintro e w1 ⟨s,_,rfl,hc⟩
 have H1:=qh (HC.o.trans hc)
 clear hc
 go_wp2
 go_ret
 exact⟨s,rfl,H1.o⟩
theorem b4j (B C K:Nat) (w:World) (hK:K<2^38) (h:a1r B C K w) :
 Calls Tryz.prog 251 #[.pointer (some ⟨C,0,none⟩)] w (b6j B C (K+12) w):=by
 have hlt:=h.lt
 have HC:=qh h
 clear h
 go_enter Tryz.func251,Tryz.ntmps251
 go_wp2_with fail
 refine (b3b B C K 2 _ oZ dZ HC.o).mono ?_
 rintro e w1 ⟨b,rfl,hc⟩
 have H1:=qh hc
 have hz1:w.heap.size≤w1.heap.size:=hc.2.size
 clear hc
 cases b
 ·go_wp2_with fail
  refine (a1b B C (K+2) 4 _ oZ dZ H1.o.1).mono ?_;rintro e w2 ⟨x,hx,rfl,hc⟩;have hx4:x<4:=by omega
  have H2:=qh (H1.o.trans hc);clear hc hx
  go_wp2_with fail
  go_loopw [3,4] (fun s n wr=>∃(y:Int) (k:Nat),k≤4∧s=.int .i64 y∧n=.int .i64 k∧a0d B C (K+12-2*k) w wr) (fun _ n _=>(intOf n).toNat)
  case atStart=>exact⟨0,x+1,by omega,rfl,by go_num,H2.o.mono oZ⟩
  case round=>
   obtain⟨y,k,hk,rfl,rfl,hc⟩:=hrel;have H3:=qh hc;clear hc
   by_cases hp:0<k
   ·go_wp2_with fail
    refine (a1b B C (K+12-2*k) 23 _ oZ dZ H3.o.1).mono ?_;rintro e w3 ⟨z,hz,rfl,hc⟩;have hz23:z<23:=by omega
    have H4:=qh (H3.o.trans hc);clear hc hz;go_wp2
    go_roundw
    case rel=>exact⟨_,k-1,by omega,rfl,by go_num,H4.o.mono oZ⟩
    case measure=>simp [intOf];omega
   ·go_wp2;go_ret;exact⟨y,rfl,H3.o.mono oZ⟩
 ·have HC2:=qh (H1.o.alloc (.cells #[.int .i64 524552,.int .i64 260,.int .i64 1048576,.int .i64 262144,.int .i64 4194304,.int .i64 514,.int .i64 8,.int .i64 2064,.int .i64 2097152] 3));have HL:=qh (b6a [524552,260,1048576,262144,4194304,514,8,2064,2097152] w1 3)
  go_wp2_with fail
  refine (b3a B C (K+2) w1.heap.size 9 [524552,260,1048576,262144,4194304,514,8,2064,2097152] _ oZ dZ dZ sZ oZ HL.o HC2.o.1).mono ?_;exact zq74
theorem a8y (B C K:Nat) (w:World) (hK:K<2^37) (h:a1r B C K w) :
 Calls Tryz.prog 190 #[.pointer (some ⟨C,0,none⟩)] w (b6j B C (K+14) w):=by
 have hlt:=h.lt
 have HC:=qh h
 clear h
 go_enter Tryz.func190,Tryz.ntmps190
 go_wp2_with fail
 refine (b3b B C K 12 _ oZ dZ HC.o).mono ?_
 rintro e w1 ⟨b,rfl,hc⟩
 have H1:=qh hc
 have hz1:w.heap.size≤w1.heap.size:=hc.2.size
 clear hc
 cases b
 ·go_wp2_with fail
  refine (b4j B C (K+2) _ oZ H1.o.1).mono ?_;rintro e w2 ⟨s,rfl,hc⟩;have H2:=qh (H1.o.trans hc);clear hc;go_wp2;go_ret;exact⟨s,rfl,H2.o.mono oZ⟩
 ·have HC2:=qh (H1.o.alloc (.cells #[.int .i64 0,.int .i64 (-1),.int .i64 8388608,.int .i64 8388607,.int .i64 1,.int .i64 1099511627776] 3));have HL:=qh (b6a [0,-1,8388608,8388607,1,1099511627776] w1 3)
  go_wp2_with fail
  refine (b3a B C (K+2) w1.heap.size 6 [0,-1,8388608,8388607,1,1099511627776] _ oZ dZ dZ sZ oZ HL.o HC2.o.1).mono ?_;exact zq74
def a6h (B C K m:Nat) (w:World) (e:Ending) (w':World):Prop:=∃(l:List Int) (u:Value),e=.returned u∧l.length≤m∧w'.ownsRow w.heap.size 3 1 u l.length (ints l)∧a0d B C K w w'
def a2t (B C K:Nat) (w v:World) (u:Value) (l:List Int):Prop:=(∃a n c,u=.slice a n c)∧v.ownsRow w.heap.size 3 1 u l.length (ints l)∧a0d B C K w v
theorem a2t.cur {B C K K':Nat} {w v v':World} {u:Value} {l:List Int} (h:a2t B C K w v u l) (hw:C<w.heap.size) (hc:a0d B C K' v v'):a2t B C K' w v' u l:=
 ⟨h.1,a0g h.2.1 hc.2 fun k hk e=>by have:=(World.ownsRow.lt h.2.1 k hk).1;omega,h.2.2.trans hc⟩
theorem a2t.app {B C K m:Nat} {w v v':World} {u u':Value} {l:List Int} {x:Int} (h:a2t B C K w v u l) (hw:a1r B C m w) (t:TypeId)
 (hown:v'.ownsRow w.heap.size 3 1 u' (l.length+1) (ints l++[.int .i64 x])) (hgr:(v.alloc (.cells #[.int .i64 x] t)).grownBy v' u.ownBlock):a2t B C K w v' u' (l++[x]):=by
 have hlt:=hw.lt
 refine⟨?_,by simpa [ints] using hown,?_⟩
 ·rcases hown.2 with⟨rfl,_⟩|⟨g,cap,cur,rfl,_⟩
  ·exact⟨_,_,_,rfl⟩
  ·exact⟨_,_,_,rfl⟩
 ·exact (h.2.2.alloc _).new (Chg.grown hgr) (fun b hb=>(World.ownsRow.lt h.2.1 b hb).1) oZ oZ
theorem a7z (B C K:Nat) (w:World) (hK:K<2^37) (h:a1r B C K w) :
 Calls Tryz.prog 189 #[.pointer (some ⟨C,0,none⟩)] w (a6h B C (K+60) 3 w):=by
 obtain⟨i0,hi,hz0,hz1,hz2⟩:=info_parts a1z
 have hlt:=h.lt
 have HC0:=qh h
 have HC:=qh ((a0d.refl h (Nat.le_refl K)).alloc (.cells #[] 3))
 have HOW:=qh (show (w.alloc (.cells #[] 3)).ownsRow w.heap.size 3 1 (.slice (some ⟨w.heap.size,0,none⟩) 0 0) 0 [] by have h:=World.ownsRow_lit (base:=w.heap.size) (e:=3) (size:=1) w #[] 0 lZ (Nat.zero_le _) sZ;simpa using h)
 clear h
 go_enter Tryz.func189,Tryz.ntmps189
 go_wp2_with fail
 refine (a1b B C K 3 _ oZ dZ HC.o.1).mono ?_
 rintro e w1 ⟨x,hx,rfl,hc⟩
 have hx3:x<3:=by omega
 have HR:=qh (show a2t B C (K+2) w w1 (.slice (some ⟨w.heap.size,0,none⟩) 0 0) [] from a2t.cur (K:=K) ⟨⟨_,_,_,rfl⟩,HOW.o,HC.o⟩ hlt.2 hc)
 clear hc hx
 go_wp2_with fail
 go_loopw [3,4] (fun s n wr=>∃(l:List Int) (k:Nat),l.length+k≤3∧n=.int .i64 k∧a2t B C (K+50-14*k) w wr s l) (fun _ n _=>(intOf n).toNat)
 case atStart=>exact⟨[],x+1,by simp;omega,by go_num,HR.o.1,HR.o.2.1,HR.o.2.2.mono oZ⟩
 case round=>
  obtain⟨l,k,hk,rfl,hr⟩:=hrel;have H3:=qh hr;obtain⟨⟨ua,un,uc,rfl⟩,_⟩:=hr
  by_cases hp:0<k
  ·go_wp2_with fail
   refine (b3b B C (K+50-14*k) 5 _ oZ dZ H3.o.2.2.1).mono ?_;rintro e w2 ⟨b,rfl,hc⟩;have H4:=qh (H3.o.cur hlt.2 hc);clear hc
   cases b
   all_goals
    go_wp2_with fail
    first
     |(refine (b1n B C (K+50-14*k+2) _ oZ H4.o.2.2.1).mono ?_)
     |(refine (b4j B C (K+50-14*k+2) _ oZ H4.o.2.2.1).mono ?_)
    rintro e w3 ⟨y,rfl,hc⟩
    have H5:=qh ((H4.o.cur hlt.2 hc))
    have HOW2:=qh (H5.o.2.1.alloc (.cells #[.int .i64 y] 3))
    have hz3:=H5.o.2.2.2.size
    have HZ3:=qh hz3
    clear hc hz3
    go_wp2_with (at_builtin;refine wpList_append_own _ rfl _ _ 33 rfl w.heap.size 3 i0 (.int .i64 0) 1 8 Tryz.underlying33 hi hz0 hz1 hz2 rfl dZ (.slice ua un uc) l.length (ints l) rfl HOW2.o ⟨w3.heap.size,0,none⟩ 1 1 [.int .i64 y] rfl rfl ?_ ?_ ?_ ?_ ?_ ?_)
    all_goals first|exact⟨rfl,rfl⟩|(intro z hz;simp only [List.mem_cons,List.not_mem_nil,or_false]at hz;subst hz;rfl)|(unfold maxLen;omega)|omega|(have h1:=HZ3.o;simp;omega)|(intro i z hz;rcases i with _|i;(injection hz with hz;subst hz;rw [add0];go_simp);cases hz)|skip
    intro u4 w4 hown hgr _
    have H6:=qh (H5.o.app HC0.o 3 hown hgr)
    clear hown hgr
    go_wp2
    go_roundw
    case rel=>exact⟨_,k-1,by rw [List.length_append];simp;omega,by go_num,H6.o.1,H6.o.2.1,H6.o.2.2.mono oZ⟩
    case measure=>simp [intOf];omega
  ·go_wp2;go_ret;exact⟨l,_,rfl,by omega,H3.o.2.1,H3.o.2.2.mono oZ⟩
theorem b3t (B C K:Nat) (w:World) (hK:K<2^36) (h:a1r B C K w) :
 Calls Tryz.prog 113 #[.pointer (some ⟨C,0,none⟩)] w (a6h B C (K+100) 8 w):=by
 obtain⟨i0,hi,hz0,hz1,hz2⟩:=info_parts a1z
 have hlt:=h.lt
 have HC0:=qh h
 clear h
 go_enter Tryz.func113,Tryz.ntmps113
 go_wp2_with fail
 refine (a1b B C K 16 _ oZ dZ HC0.o).mono ?_
 rintro e w1 ⟨x,hx,rfl,hc⟩
 have H1:=qh hc
 have hz1':w.heap.size≤w1.heap.size:=hc.2.size
 have HOW:=qh (show (w1.alloc (.cells #[] 3)).ownsRow w.heap.size 3 1 (.slice (some ⟨w1.heap.size,0,none⟩) 0 0) 0 [] by have h:=World.ownsRow_lit (base:=w.heap.size) (e:=3) (size:=1) w1 #[] 0 hz1' (Nat.zero_le _) sZ;simpa using h)
 have HCA:=qh (H1.o.alloc (.cells #[] 3))
 clear hc hx
 by_cases h0:x=0
 ·subst h0;go_wp2;go_ret;exact⟨[],_,rfl,by simp,HOW.o,HCA.o.mono oZ⟩
 by_cases h1:x=1
 ·subst h1
  go_wp2_with fail
  refine (a1b B C (K+2) 2 _ oZ dZ HCA.o.1).mono ?_;rintro e w2 ⟨z,hz,rfl,hc⟩;have hz2':z<2:=by omega
  have HR:=qh (show a2t B C (K+4) w w2 (.slice (some ⟨w1.heap.size,0,none⟩) 0 0) [] from a2t.cur (K:=K+2) ⟨⟨_,_,_,rfl⟩,HOW.o,HCA.o⟩ hlt.2 hc);clear hc hz
  go_wp2_with fail
  go_loopw [3,4] (fun s n wr=>∃(l:List Int) (k:Nat),l.length+k≤7∧n=.int .i64 k∧a2t B C (K+50-2*k) w wr s l) (fun _ n _=>(intOf n).toNat)
  case atStart=>exact⟨[],z+6,by simp;omega,by go_num,HR.o.1,HR.o.2.1,HR.o.2.2.mono oZ⟩
  case round=>
   obtain⟨l,k,hk,rfl,hr⟩:=hrel;have H3:=qh hr;obtain⟨⟨ua,un,uc,rfl⟩,_⟩:=hr
   by_cases hp:0<k
   ·go_wp2_with fail
    refine (b1n B C (K+50-2*k) _ oZ H3.o.2.2.1).mono ?_;rintro e w3 ⟨y,rfl,hc⟩;have H5:=qh ((H3.o.cur hlt.2 hc));have HOW2:=qh (H5.o.2.1.alloc (.cells #[.int .i64 y] 3));have hz3:=H5.o.2.2.2.size;have HZ3:=qh hz3;clear hc hz3
    go_wp2_with (at_builtin;refine wpList_append_own _ rfl _ _ 33 rfl w.heap.size 3 i0 (.int .i64 0) 1 8 Tryz.underlying33 hi hz0 hz1 hz2 rfl dZ (.slice ua un uc) l.length (ints l) rfl HOW2.o ⟨w3.heap.size,0,none⟩ 1 1 [.int .i64 y] rfl rfl ?_ ?_ ?_ ?_ ?_ ?_)
    all_goals first|exact⟨rfl,rfl⟩|(intro z hz;simp only [List.mem_cons,List.not_mem_nil,or_false]at hz;subst hz;rfl)|(unfold maxLen;omega)|omega|(have h1:=HZ3.o;simp;omega)|(intro i z hz;rcases i with _|i;(injection hz with hz;subst hz;rw [add0];go_simp);cases hz)|skip
    intro u4 w4 hown hgr _;have H6:=qh (H5.o.app HC0.o 3 hown hgr);clear hown hgr;go_wp2
    go_roundw
    case rel=>exact⟨_,k-1,by rw [List.length_append];simp;omega,by go_num,H6.o.1,H6.o.2.1,H6.o.2.2.mono oZ⟩
    case measure=>simp [intOf];omega
   ·go_wp2;go_ret;exact⟨l,_,rfl,by omega,H3.o.2.1,H3.o.2.2.mono oZ⟩
 have h0':¬(x:Int)=0:=by omega
 have h1':¬(x:Int)=1:=by omega
 by_cases h2:x=2
 ·subst h2;clear HOW HCA
  go_wp2_with fail
  refine (a7z B C (K+2) _ oZ H1.o.1).mono ?_;rintro e w2 ⟨l,u,rfl,hl,ho,hc⟩
  have HR:=qh (show a2t B C (K+62) w w2 u l from⟨by
   rcases ho.2 with⟨rfl,_⟩|⟨g,cap,cur,rfl,_⟩
   ·exact⟨_,_,_,rfl⟩
   ·exact⟨_,_,_,rfl⟩,a5l ho hz1',H1.o.trans hc⟩)
  obtain⟨⟨ua,un,uc,rfl⟩,_⟩:=id HR.o;clear ho hc;have H3:=HR;have hk:=hl;skip
  go_wp2_with fail
  refine (a8y B C (K+62) _ oZ HR.o.2.2.1).mono ?_;rintro e w3 ⟨y,rfl,hc⟩;have H5:=qh ((H3.o.cur hlt.2 hc));have HOW2:=qh (H5.o.2.1.alloc (.cells #[.int .i64 y] 3));have hz3:=H5.o.2.2.2.size;have HZ3:=qh hz3;clear hc hz3
  go_wp2_with (at_builtin;refine wpList_append_own _ rfl _ _ 33 rfl w.heap.size 3 i0 (.int .i64 0) 1 8 Tryz.underlying33 hi hz0 hz1 hz2 rfl dZ (.slice ua un uc) l.length (ints l) rfl HOW2.o ⟨w3.heap.size,0,none⟩ 1 1 [.int .i64 y] rfl rfl ?_ ?_ ?_ ?_ ?_ ?_)
  all_goals first|exact⟨rfl,rfl⟩|(intro z hz;simp only [List.mem_cons,List.not_mem_nil,or_false]at hz;subst hz;rfl)|(unfold maxLen;omega)|omega|(have h1:=HZ3.o;simp;omega)|(intro i z hz;rcases i with _|i;(injection hz with hz;subst hz;rw [add0];go_simp);cases hz)|skip
  intro u4 w4 hown hgr _;have H6:=qh (H5.o.app HC0.o 3 hown hgr);clear hown hgr;go_wp2;go_ret;exact⟨_,_,rfl,by rw [List.length_append];simp;omega,H6.o.2.1,H6.o.2.2.mono oZ⟩
 have h2':¬(x:Int)=2:=by omega
 clear HOW HCA
 go_wp2_with fail
 refine (a7z B C (K+2) _ oZ H1.o.1).mono ?_
 rintro e w2 ⟨l,u,rfl,hl,ho,hc⟩
 have H2:=qh (H1.o.trans hc)
 have HO:=qh (a5l ho hz1')
 clear hc ho
 go_wp2
 go_ret
 exact⟨l,_,rfl,by omega,HO.o,H2.o.mono oZ⟩
end Go.Proofs.YtggfdnopminemaaGreatDoor
