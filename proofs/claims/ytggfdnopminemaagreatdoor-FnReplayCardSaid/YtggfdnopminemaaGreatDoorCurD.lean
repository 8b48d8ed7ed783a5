/- Walks: the program's. -/
import Derived.Test.YtggfdnopminemaaGreatDoorMemE
import Derived.Test.YtggfdnopminemaaGreatDoorSortD
set_option linter.all false
namespace Go.Proofs.YtggfdnopminemaaGreatDoor
open Go.Proofs.Tryz
variable {X:Blk} {B C K K' g i:Nat} {u v v' w:Go.World}
section
open Go Go.RowKit
set_option maxHeartbeats 8000000
set_option maxRecDepth 100000
def KP (W:Nat) (x:Value) (t:Str) (v:World):Prop:=
 v.cell? ⟨W,0,none⟩=some x/\v.cell? ⟨W,1,none⟩=some (.string (S t))/\v.cell? ⟨W+1,0,none⟩=some (.slice none 0 0)/\v.cell? ⟨W+1,1,none⟩=some (.string (S []))/\v.frozen? ⟨W+1,0,none⟩=false/\v.frozen? ⟨W+1,1,none⟩=false
theorem KP.step {W:Nat} {x:Value} {t:Str} (h:KP W x t v) (hb:Below (W+2) v v'):KP W x t v':=by
 obtain⟨h1,h2,h3,h4,h5,h6⟩:=h
 exact⟨(hb.cell (p:=⟨W,0,none⟩) (by show W<W+2;omega)).trans h1,(hb.cell (p:=⟨W,1,none⟩) (by show W<W+2;omega)).trans h2,(hb.cell (p:=⟨W+1,0,none⟩) (by show W+1<W+2;omega)).trans h3,(hb.cell (p:=⟨W+1,1,none⟩) (by show W+1<W+2;omega)).trans h4,
  (hb.frozen (p:=⟨W+1,0,none⟩) (by show W+1<W+2;omega)).trans h5,(hb.frozen (p:=⟨W+1,1,none⟩) (by show W+1<W+2;omega)).trans h6⟩
theorem copied (u:Value) (l:List Int) (t:Str) (w:World) (hu:IntR w u l) (hl:l.length<=2^30) :
 Cz 130 #[.agg #[u,.string (S t)]] w (e2g l t w):=by
 have hb0:Bl w ((w.alloc (.cells #[u,.string (S t)] 119)).alloc (.cells #[.slice none 0 0,.string (S [])] 119)):=
  ((Below.refl w.heap.size w).alloc lZ _).alloc sZ _
 have HU:=qh ((hu.below hb0).below bZ.drew)
 have HB0:=qh hb0;clear hb0
 obtain⟨ad,cap,rfl,_,_⟩:=hu
 have HS:=qh (show KP w.heap.size (.slice ad l.length cap) t (((w.alloc (.cells #[.slice ad l.length cap,.string (S t)] 119)).alloc (.cells #[.slice none 0 0,.string (S [])] 119)).drew) from
  KP.step (show KP w.heap.size (.slice ad l.length cap) t ((w.alloc (.cells #[.slice ad l.length cap,.string (S t)] 119)).alloc (.cells #[.slice none 0 0,.string (S [])] 119)) by refine⟨?_,?_,?_,?_,?_,?_⟩<;>go_simp) bZ.drew)
 go_enter func130,ntmps130;go_upto_region 1 with fail;refine Left.region [6] (S:=KP w.heap.size (.slice ad l.length cap) t) kZ HS.o (λhS0=>?_);refine lk4 0 hS0 ?_;refine lk4 1 hS0 ?_;refine lk4 3 hS0 ?_;refine lk4 4 hS0 ?_;refine lrd 2 λK hK=>?_;go_simp;refine (copyOf _ l _ HU.o hl).mono ?_;rintro e v1 ⟨x1,rfl,hI,hb1⟩;have HI:=qh hI;have HZ1:=qh (show w.heap.size+2<=v1.heap.size by have:=hb1.size;simp at this;omega);have HB1:Hq (Bl w v1):=⟨HB0.o.trans (bZ.drew.trans (hb1.mono (by simp;omega)))⟩;obtain⟨xd,xc,rfl,_,_⟩:=hI;refine a1r hK dZ (hS0.step (hb1.mono sZ)) (λhS1=>?_);clear hK K hb1;refine zm0 ?_;refine lk4 5 hS1 ?_;refine lrd 6 λK hK=>?_;obtain⟨k1,k2,k3,k4,k5,k6⟩:=hS1;go_simp;refine a2p hK dZ ?_;clear hK K;refine zm0 ?_;refine Left.done kZ ?_ _;clear hS0 HS HU;go_wp2;refine bodyPost_ret (v:=.agg #[.slice xd l.length xc,.string (S t)]) (by simp [results,results130,go_sem,k3,k4]) rfl ⟨_,rfl,?_,?_⟩
 .refine (HI.o.a0b (X:=λb=>b<w.heap.size+2) a1l (((Chg.refl _ v1).setCell ?_ _).setCell ?_ _) ?_).wide ?_ ?_
  .simp
  .simp
  .intro b hb;simp [Bet]at hb⊢;omega
  .intro b hb;simp [Bet,World.setCell]at hb⊢;omega
  .intro b hb;exact hb.2
 .exact (HB1.o.setCell sZ _).setCell sZ _
theorem Chg.drewN {F:Blk} {a:World} (h:Chg F a w) (k:Nat):Chg F a (w.drewN k):=h.trans (Below.chg (below_drewN (Below.refl w.heap.size w) k) F)
def a1o (B C K:Nat) (v:World):Prop:=
 ∃(ad:Option Addr) (n cap a:Nat) (s:Int),v.cell? ⟨C,0,none⟩=some (.slice ad n cap)/\v.cell? ⟨C,1,none⟩=some (.int .i64 a)/\v.cell? ⟨C,2,none⟩=some (.int .u64 s) /\
  v.frozen? ⟨C,1,none⟩=false/\v.frozen? ⟨C,2,none⟩=false/\a<=K/\n<=65536/\0<=s/\s<18446744073709551616/\B<=C/\C<v.heap.size /\
  (n=0\/∃g o,ad=some ⟨g,o,none⟩/\g<B/\∀j,j<n->∃b:Nat,b<256/\v.cell? ⟨g,o+j,none⟩=some (.int .u8 b))
def a0e (B C K:Nat) (v v':World):Prop:=a1o B C K v'/\Chg (λb=>b=C) v v'
theorem c5f (x:Int):0<=IntKind.u64.wrap x/\IntKind.u64.wrap x<18446744073709551616:=by
 simp only [IntKind.wrap]
 constructor
 .exact Int.emod_nonneg _ dZ
 .exact Int.emod_lt_of_pos _ dZ
theorem e0o (x:Int):∃m:Nat,m<256/\wrap64 (bits .and .u64 (IntKind.u64.wrap x / 1099511627776) 255)=(m:Int):=by
 obtain⟨h0,h1⟩:=c5f x;obtain⟨y,hy⟩:=Int.eq_ofNat_of_zero_le h0;rw [hy]at h1⊢;have e:((y:Nat):Int) / 1099511627776=((y / 1099511627776:Nat):Int):=by omega
 rw [e,show (255:Int)=((255:Nat):Int) from rfl,bits_and_u64_nat _ _ oZ dZ];have hm:(y / 1099511627776) &&& 255<256:=Nat.lt_of_le_of_lt Nat.and_le_right dZ;refine⟨_,hm,?_⟩;simp only [wrap64];omega
theorem d0l {n cap a:Nat} {ad:Option Addr} (x s':Int) (i j:Nat) (c0:w.cell? ⟨C,0,none⟩=some (.slice ad n cap)) (c1:w.cell? ⟨C,1,none⟩=some (.int .i64 a)) (s:Value) (c2:w.cell? ⟨C,2,none⟩=some s)
 (f1:w.frozen? ⟨C,1,none⟩=false) (f2:w.frozen? ⟨C,2,none⟩=false) (ha:a<=K) (hn:n<=65536) (hs0:0<=s') (hs1:s'<18446744073709551616) (hBC:B<=C) (hC:C<w.heap.size) (hx:x=((a+1:Nat):Int))
 (hcode:n=0\/∃g o,ad=some ⟨g,o,none⟩/\g<B/\∀j,j<n->∃b:Nat,b<256/\w.cell? ⟨g,o+j,none⟩=some (.int .u8 b)) :
 a0e B C (K+1) w ((((w.drewN i).setCell ⟨C,1,none⟩ (.int .i64 x)).setCell ⟨C,2,none⟩ (.int .u64 s')).drewN j):=by
 subst hx
 have hsz:((((w.drewN i).setCell ⟨C,1,none⟩ (.int .i64 ((a+1:Nat):Int))).setCell ⟨C,2,none⟩ (.int .u64 s')).drewN j).heap.size=w.heap.size:=by simp
 have ho:∀g o,g≠C->((((w.drewN i).setCell ⟨C,1,none⟩ (.int .i64 ((a+1:Nat):Int))).setCell ⟨C,2,none⟩ (.int .u64 s')).drewN j).cell? ⟨g,o,none⟩=w.cell? ⟨g,o,none⟩:=by
  intro g o hg;simp only [World.cell?_drewN];rw [World.cell?_setCell_other _ _ _ _ (by intro e;injection e;omega),World.cell?_setCell_other _ _ _ _ (by intro e;injection e;omega)];simp
 refine⟨⟨ad,n,cap,a+1,s',?_,?_,?_,by simpa using f1,by simpa using f2,by omega,hn,hs0,hs1,hBC,by rw [hsz];exact hC,?_⟩,?_⟩
 .go_simp
 .go_simp
 .go_simp
 .rcases hcode with h|⟨g,o,h1,h2,h3⟩
  .exact .inl h
  .refine .inr ⟨g,o,h1,h2,λj hj=>?_⟩;obtain⟨b,hb,hc⟩:=h3 j hj;exact⟨b,hb,(ho _ _ oZ).trans hc⟩
 .exact (((((Chg.refl (λb=>b=C) w).drewN i).setCell (p:=⟨C,1,none⟩) rfl _).setCell (p:=⟨C,2,none⟩) rfl _).drewN j)
theorem c0g (B C K:Nat) (w:World) (hK:K<2^40) (h:a1o B C K w) :
 Cz 114 #[.pointer (some ⟨C,0,none⟩)] w λe w'=>∃x:Nat,x<256/\e=.returned (.int .i64 x)/\a0e B C (K+1) w w':=by
 obtain⟨ad,n,cap,a,s,c0,c1,c2,f1,f2,ha,hn,hs0,hs1,hBC,hC,hcode⟩:=h
 by_cases hlt:a<n
 .have hcd:∃g o,ad=some ⟨g,o,none⟩/\g<B/\∀j,j<n->∃b:Nat,b<256/\w.cell? ⟨g,o+j,none⟩=some (.int .u8 b):=by
   rcases hcode with h|h
   .omega
   .exact h
  obtain⟨g,o,rfl,hg,hby⟩:=hcd;obtain⟨b,hb,hcb⟩:=hby a hlt;have HBY:=qh hby;clear hby hcode;have hb1:(b:Int)<256:=by omega
  have hne:g≠C:=by omega
  go_enter func114,ntmps114
  go_wp2
  go_quiet (fail)
  go_wp2
  go_quiet (fail)
  go_wp2
  go_quiet (fail)
  go_wp2;go_ret;exact⟨b,hb,rfl,d0l _ _ _ _ c0 c1 _ c2 f1 f2 ha hn (c5f _).1 (c5f _).2 hBC hC oZ (.inr ⟨g,o,rfl,hg,HBY.o⟩)⟩
 .have hge:(n:Int)<=a:=by omega
  have hcd:=qh hcode;clear hcode
  go_enter func114,ntmps114
  go_wp2
  go_quiet (fail)
  go_wp2
  go_quiet (fail)
  go_wp2;go_ret;obtain⟨m,hm,e⟩:=e0o (IntKind.u64.wrap (IntKind.u64.wrap (s*6364136223846793005))+882882);refine⟨m,hm,?_,d0l _ _ _ _ c0 c1 _ c2 f1 f2 ha hn (c5f _).1 (c5f _).2 hBC hC oZ hcd.o⟩;rw [<-e];rfl
theorem a1o.mono (h:a1o B C K v) (hK:K<=K'):a1o B C K' v:=by
 obtain⟨ad,n,cap,a,s,c0,c1,c2,f1,f2,ha,r⟩:=h;exact⟨ad,n,cap,a,s,c0,c1,c2,f1,f2,Nat.le_trans ha hK,r⟩
theorem a0e.refl (h:a1o B C K v) (hK:K<=K'):a0e B C K' v v:=⟨h.mono hK,Chg.refl _ _⟩
theorem a0e.trans (h:a0e B C K u v) (k:a0e B C K' v w):a0e B C K' u w:=⟨k.1,h.2.trans k.2⟩
theorem a0e.mono (h:a0e B C K u v) (hK:K<=K'):a0e B C K' u v:=⟨h.1.mono hK,h.2⟩
theorem a1o.a0b (h:a1o B C K v) (hc:Chg X v v') (hX:∀b,X b->B<=b/\b≠C):a1o B C K v':=by
 obtain⟨ad,m,cap,a,s,c0,c1,c2,f1,f2,ha,hn,hs0,hs1,hBC,hC,hcode⟩:=h;have hXC:¬X C:=λh=>(hX C h).2 rfl;refine⟨ad,m,cap,a,s,(hc.cell (p:=⟨C,0,none⟩) hC hXC).trans c0,(hc.cell (p:=⟨C,1,none⟩) hC hXC).trans c1,(hc.cell (p:=⟨C,2,none⟩) hC hXC).trans c2,(hc.frozen (p:=⟨C,1,none⟩) hC hXC).trans f1,(hc.frozen (p:=⟨C,2,none⟩) hC hXC).trans f2,ha,hn,hs0,hs1,hBC,Nat.lt_of_lt_of_le hC hc.size,?_⟩
 rcases hcode with h|⟨g,o,h1,h2,h3⟩
 .exact .inl h
 .refine .inr ⟨g,o,h1,h2,λj hj=>?_⟩;obtain⟨b,hb,hcb⟩:=h3 j hj;exact⟨b,hb,(hc.cell (p:=⟨g,_,none⟩) (by show g<v.heap.size;omega) (λh=>by have:=(hX g h).1;omega)).trans hcb⟩
theorem a1o.below (h:a1o B C K v) (hb:Bl v v'):a1o B C K v':=h.a0b (Below.chg hb λ_=>False) λ_ h=>h.elim
theorem a1o.lt (h:a1o B C K v):B<=C/\C<v.heap.size:=by
 obtain⟨ad,m,cap,a,s,c0,c1,c2,f1,f2,ha,hn,hs0,hs1,hBC,hC,hcode⟩:=h;exact⟨hBC,hC⟩
theorem a1o.set (h:a1o B C K v) (hgC:g≠C) (hgB:B<=g) (x:Value):a1o B C K (v.setCell ⟨g,i,none⟩ x):=
 h.a0b ((Chg.refl (λb=>b=g) v).setCell (p:=⟨g,i,none⟩) rfl x) (by rintro b rfl;exact⟨hgB,hgC⟩)
theorem a0e.below (h:a0e B C K u v) (hb:Bl v v'):a0e B C K u v':=⟨h.1.below hb,h.2.trans (Below.chg hb _)⟩
theorem a0e.alloc (h:a0e B C K u v) (o:Obj):a0e B C K u (v.alloc o):=h.below (bZ.alloc lZ o)
theorem a0e.drewN (h:a0e B C K u v) (n:Nat):a0e B C K u (v.drewN n):=h.below (below_drewN bZ n)
theorem a0e.drew (h:a0e B C K u v):a0e B C K u v.drew:=h.below bZ.drew
theorem a0e.new (h:a0e B C K u v) (hc:Chg X v v') (hX:∀b,X b->u.heap.size<=b) (hl:C<u.heap.size) (hB:B<=u.heap.size):a0e B C K u v':=
 ⟨h.1.a0b hc λb hb=>⟨Nat.le_trans hB (hX b hb),λe=>by have:=hX b hb;omega⟩,
  ⟨hc.os.trans h.2.os,hc.tape.trans h.2.tape,hc.output.trans h.2.output,Nat.le_trans h.2.size hc.size,λb hb hf=>(hc.block b (Nat.lt_of_lt_of_le hb h.2.size) λhx=>by have:=hX b hx;omega).trans (h.2.block b hb hf)⟩⟩
theorem a0e.set (h:a0e B C K u v) (hg:u.heap.size<=g) (hl:C<u.heap.size) (hB:B<=u.heap.size) (x:Value):a0e B C K u (v.setCell ⟨g,i,none⟩ x):=
 h.new ((Chg.refl (λb=>b=g) v).setCell (p:=⟨g,i,none⟩) rfl x) (by rintro b rfl;exact hg) hl hB
theorem a0e.env (h:a0e B C K u v) (hE:Env u) (hB:EB<=B) (hl:B<=C) (hC:C<u.heap.size):Env v:=
 hE.below (h.2.below (B:=B) oZ (by rintro b rfl;exact hl)) hB
theorem a0r (B C K:Nat) (n:Int) (w:World) (hK:K<2^39) (hn:n<2^40) (h:a1o B C K w) :
 Cz 51 #[.pointer (some ⟨C,0,none⟩),.int .i64 n] w λe w'=>∃x:Nat,((x:Int)<n\/x=0)/\e=.returned (.int .i64 x)/\a0e B C (K+2) w w':=by
 have HC:=qh h;clear h
 rcases Int.lt_or_le 1 n with h1|h1
 .obtain⟨m,rfl⟩:=Int.eq_ofNat_of_zero_le (show 0<=n by omega);have hp:¬(m:Int)<=1:=by omega
  have hm1:(m:Int)<=1099511627776:=by omega
  clear hn
  by_cases h2:(200:Int)<m
  .go_enter func51,ntmps51
   go_wp2_with fail
   refine (c0g B C K w oZ HC.o).mono ?_;rintro e w1 ⟨x,hx,rfl,hc⟩;have H1:=qh hc;clear hc;have hx1:(x:Int)<256:=by omega
   go_wp2_with fail
   refine (c0g B C (K+1) w1 oZ H1.o.1).mono ?_;rintro e w2 ⟨y,hy,rfl,hc⟩;have H2:=qh (H1.o.trans hc);clear hc H1;have hy1:(y:Int)<256:=by omega
   go_wp2;go_ret;exact⟨(x*256+y) % m,.inl (by have:=Nat.mod_lt (x*256+y) (show 0<m by omega);omega),by simp,H2.o⟩
  .go_enter func51,ntmps51
   go_wp2_with fail
   refine (c0g B C K w oZ HC.o).mono ?_;rintro e w1 ⟨x,hx,rfl,hc⟩;have H1:=qh hc;clear hc;have hx1:(x:Int)<256:=by omega
   go_wp2;go_ret;exact⟨x % m,.inl (by have:=Nat.mod_lt x (show 0<m by omega);omega),by simp,H1.o.mono oZ⟩
 .clear hn
  go_enter func51,ntmps51
  go_wp2;go_ret;exact⟨0,.inr rfl,rfl,a0e.refl HC.o oZ⟩
theorem a9t (B C K:Nat) (n:Int) (w:World) (hK:K<2^39) (hn:n<2^40) (h:a1o B C K w) :
 Cz 53 #[.pointer (some ⟨C,0,none⟩),.int .i64 n] w λe w'=>∃b:Bool,e=.returned (.bool b)/\a0e B C (K+2) w w':=by
 have HC:=qh h;clear h
 go_enter func53,ntmps53
 go_wp2_with fail
 refine (a0r B C K n w hK hn HC.o).mono ?_
 rintro e w1 ⟨x,hx,rfl,hc⟩
 have H1:=qh hc;clear hc
 clear hx
 go_wp2
 go_ret
 exact⟨_,rfl,H1.o⟩
theorem a4h (B C K g cap:Nat) (l:List Str) (w:World) (hK:K<2^39) (hl:l.length<2^30) (hl0:0<l.length) (hg:g<w.heap.size) (hgC:g≠C)
 (hcell:∀(j:Nat) (h:j<l.length),w.cell? ⟨g,j,none⟩=some (.string (S (l[j]'h)))) (h:a1o B C K w) :
 Cz 112 #[.pointer (some ⟨C,0,none⟩),.slice (some ⟨g,0,none⟩) l.length cap] w λe w'=>∃s,s∈l/\e=.returned (.string (S s))/\a0e B C (K+2) w w':=by
 have HC:=qh h;clear h
 have HCELL:=qh hcell;clear hcell
 go_enter func112,ntmps112
 go_wp2_with fail
 refine (a0r B C K l.length w hK oZ HC.o).mono ?_
 rintro e w1 ⟨x,hx,rfl,hc⟩
 have hxl:x<l.length:=by omega
 clear hx
 have hk:w1.cell? ⟨g,x,none⟩=some (.string (S l[x])):=(hc.2.cell (p:=⟨g,x,none⟩) hg hgC).trans (HCELL.o x hxl)
 have H1:=qh hc;clear hc
 obtain⟨s,hs⟩:∃s,s=l[x]:=⟨_,rfl⟩
 rw [<-hs]at hk
 have HM:=qh (show s∈l by rw [hs];exact List.getElem_mem hxl)
 clear hs
 go_wp2
 go_ret
 exact⟨s,HM.o,rfl,H1.o⟩
theorem b2h (B C K g cap:Nat) (l:List Int) (w:World) (hK:K<2^39) (hl:l.length<2^30) (hl0:0<l.length) (hg:g<w.heap.size) (hgC:g≠C)
 (hcell:∀(j:Nat) (h:j<l.length),w.cell? ⟨g,j,none⟩=some (.int .i64 (l[j]'h))) (h:a1o B C K w) :
 Cz 192 #[.pointer (some ⟨C,0,none⟩),.slice (some ⟨g,0,none⟩) l.length cap] w λe w'=>∃s,s∈l/\e=.returned (.int .i64 s)/\a0e B C (K+2) w w':=by
 have HC:=qh h;clear h
 have HCELL:=qh hcell;clear hcell
 go_enter func192,ntmps192
 go_wp2_with fail
 refine (a0r B C K l.length w hK oZ HC.o).mono ?_
 rintro e w1 ⟨x,hx,rfl,hc⟩
 have hxl:x<l.length:=by omega
 clear hx
 have hk:w1.cell? ⟨g,x,none⟩=some (.int .i64 l[x]):=(hc.2.cell (p:=⟨g,x,none⟩) hg hgC).trans (HCELL.o x hxl)
 have H1:=qh hc;clear hc
 obtain⟨s,hs⟩:∃s,s=l[x]:=⟨_,rfl⟩
 rw [<-hs]at hk
 have HM:=qh (show s∈l by rw [hs];exact List.getElem_mem hxl)
 clear hs
 go_wp2
 go_ret
 exact⟨s,HM.o,rfl,H1.o⟩
end
end Go.Proofs.YtggfdnopminemaaGreatDoor
