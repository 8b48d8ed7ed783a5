/- Walks: an atom applied (reference). -/
import Derived.Test.YtggfdnopminemaaGreatDoorZt
import Derived.Test.YtggfdnopminemaaGreatDoorFmtS2
namespace Go.Proofs.YtggfdnopminemaaGreatDoor
open Go Go.RowKit
set_option maxHeartbeats 4000000
set_option maxRecDepth 100000
def b2v (b:Nat) (k:Int) (t:Str) (v:World):Prop:=v.cell? ⟨b,0,none⟩=some (.int .i64 k)∧v.cell? ⟨b,1,none⟩=some (.string (S t))∧b<v.heap.size
theorem b2v.below {b:Nat} {k:Int} {t:Str} {v v':World} (h:b2v b k t v) (hb:Below v.heap.size v v'):b2v b k t v':=
 ⟨(hb.cell (p:=⟨b,0,none⟩) h.2.2).trans h.1,(hb.cell (p:=⟨b,1,none⟩) h.2.2).trans h.2.1,Nat.lt_of_lt_of_le h.2.2 hb.size⟩
theorem b2v.new (k:Int) (t:Str) (T:TypeId) (v:World):b2v v.heap.size k t (v.alloc (.cells #[.int .i64 k,.string (S t)] T)):=⟨by go_simp,by go_simp,by simp⟩
def SAp (w:World) (s:P.St) (k:Int) (t:Str) (v:World):Prop:=a0t w.heap.size s v∧b2v (w.heap.size+1) k t v∧a0t (w.heap.size+1+1) st0 v∧Below w.heap.size w v
theorem SAp.below {w v v':World} {s:P.St} {k:Int} {t:Str} (h:SAp w s k t v) (hb:Below v.heap.size v v'):SAp w s k t v':=⟨h.1.below hb,h.2.1.below hb,h.2.2.1.below hb,h.2.2.2.trans (hb.mono h.2.2.2.size)⟩
theorem SAp.new (w:World) (s:P.St) (k:Int) (t:Str):SAp w s k t (((w.alloc (a1b s)).alloc (.cells #[.int .i64 k,.string (S t)] 177)).alloc (a1b st0)):=by
 have b1:Below w.heap.size w (w.alloc (a1b s)):=bZ.alloc lZ _;have b2:=(Below.refl (w.alloc (a1b s)).heap.size (w.alloc (a1b s))).alloc lZ (.cells #[.int .i64 k,.string (S t)] 177);have b3:=(Below.refl ((w.alloc (a1b s)).alloc (.cells #[.int .i64 k,.string (S t)] 177)).heap.size ((w.alloc (a1b s)).alloc (.cells #[.int .i64 k,.string (S t)] 177))).alloc lZ (a1b st0);refine⟨((a0t.new s w).below b2).below b3,?_,?_,?_⟩
 ·have h:=(b2v.new k t 177 (w.alloc (a1b s))).below b3;simpa using h
 ·have h:=a0t.new st0 ((w.alloc (a1b s)).alloc (.cells #[.int .i64 k,.string (S t)] 177));simpa using h
 ·exact ((b1.trans (b2.mono sZ)).trans (b3.mono (by simp;omega)))
theorem b2v.a0e {b:Nat} {k:Int} {t:Str} {v v':World} {X:Blk} (h:b2v b k t v) (hc:Chg X v v') (hX:¬X b):b2v b k t v':=
 ⟨(hc.cell (p:=⟨b,0,none⟩) h.2.2 hX).trans h.1,(hc.cell (p:=⟨b,1,none⟩) h.2.2 hX).trans h.2.1,Nat.lt_of_lt_of_le h.2.2 hc.size⟩
theorem SAp.turn {w v v':World} {s s':P.St} {k:Int} {t:Str} (h:SAp w s k t v) (hc:Chg (fun b=>b=w.heap.size) v v') (h1:a0t w.heap.size s' v'):SAp w s' k t v':=
 ⟨h1,h.2.1.a0e hc oZ,h.2.2.1.a0e hc oZ,h.2.2.2.trans (hc.below (Nat.le_of_lt h.1.2.2) (fun b e=>by omega))⟩
theorem Chg.put {b i:Nat} {w v:World} (h:Chg (fun x=>x=b) w v) (x:Value):Chg (fun x=>x=b) w (v.setCell ⟨b,i,none⟩ x):=h.setCell (p:=⟨b,i,none⟩) rfl x
theorem SAp.state {w v:World} {s:P.St} {k:Int} {t:Str} (h:SAp w s k t v) (tx:Str) (jn gl:Bool) (cp:Int) (wd:Nat) :
 SAp w ⟨tx,jn,gl,cp,wd⟩ k t (((((v.setCell ⟨w.heap.size,0,none⟩ (.string (S tx))).setCell ⟨w.heap.size,1,none⟩ (.bool jn)).setCell ⟨w.heap.size,2,none⟩ (.bool gl)).setCell ⟨w.heap.size,3,none⟩ (.int .i64 cp)).setCell ⟨w.heap.size,4,none⟩ (.int .i64 (wd:Int))):=
 h.turn (((((Chg.put (Chg.refl _ _) _).put _).put _).put _).put _) (((((h.1.text tx).a0w jn).a3p gl).cap cp).word wd)
theorem SAp.jg {w v:World} {s:P.St} {k:Int} {t:Str} (h:SAp w s k t v) (jn gl:Bool) :
 SAp w { s with a0w:=jn,a3p:=gl } k t ((v.setCell ⟨w.heap.size,1,none⟩ (.bool jn)).setCell ⟨w.heap.size,2,none⟩ (.bool gl)):=
 h.turn ((Chg.put (Chg.refl _ _) _).put _) ((h.1.a0w jn).a3p gl)
theorem SAp.wd {w v:World} {s:P.St} {k:Int} {t:Str} (h:SAp w s k t v) (n:Nat):SAp w { s with word:=n } k t (v.setCell ⟨w.heap.size,4,none⟩ (.int .i64 (n:Int))):=
 h.turn (Chg.put (Chg.refl _ _) _) (h.1.word n)
theorem SAp.tx {w v:World} {s:P.St} {k:Int} {t:Str} (h:SAp w s k t v) (x:Str):SAp w { s with text:=x } k t (v.setCell ⟨w.heap.size,0,none⟩ (.string (S x))):=
 h.turn (Chg.put (Chg.refl _ _) _) (h.1.text x)
theorem d1e (tx:Str) (jn gl:Bool) (cp:Int) (wd:Nat) (t:Str) (w:World) (_hc:0≤cp∧cp≤2) (_hw:wd≤tx.length) (hl:tx.length≤2^29) (ht:t.length≤2^29) :
 Calls Tryz.prog 339 #[stV ⟨tx,jn,gl,cp,wd⟩,.agg #[.int .i64 4,.string (S t)]] w fun e w'=>e=.returned (stV (P.apply ⟨tx,jn,gl,cp,wd⟩ 4 t))∧Below w.heap.size w w':=by
 have HN:=qh (SAp.new w ⟨tx,jn,gl,cp,wd⟩ 4 t)
 have j1:¬9223372036854775807<tx.length+t.length:=by omega
 have j2:tx.length+t.length≤9223372036854775807:=by omega
 go_enter Tryz.func339,Tryz.ntmps339
 go_wp2
 refine bodyPost_ret (v:=stV (P.apply ⟨tx,jn,gl,cp,wd⟩ 4 t)) (by simp [results,Tryz.results339,go_sem,P.apply]) rfl ⟨rfl,?_⟩
 repeat (refine Below.setCell ?_ (by first|(simp;done)|(simp;omega)) _)
 exact (((Below.refl w.heap.size w).alloc lZ _).alloc sZ _).alloc (by simp;omega) _
theorem c9u (tx:Str) (jn gl:Bool) (cp:Int) (wd:Nat) (t:Str) (w:World) (_hc:0≤cp∧cp≤2) (_hw:wd≤tx.length) (hl:tx.length≤2^29) (ht:t.length≤2^29) :
 Calls Tryz.prog 339 #[stV ⟨tx,jn,gl,cp,wd⟩,.agg #[.int .i64 6,.string (S t)]] w fun e w'=>e=.returned (stV (P.apply ⟨tx,jn,gl,cp,wd⟩ 6 t))∧Below w.heap.size w w':=by
 have HN:=qh (SAp.new w ⟨tx,jn,gl,cp,wd⟩ 6 t)
 have j1:¬9223372036854775807<tx.length+t.length:=by omega
 have j2:tx.length+t.length≤9223372036854775807:=by omega
 go_enter Tryz.func339,Tryz.ntmps339
 go_wp2
 refine bodyPost_ret (v:=stV (P.apply ⟨tx,jn,gl,cp,wd⟩ 6 t)) (by simp [results,Tryz.results339,go_sem,P.apply]) rfl ⟨rfl,?_⟩
 repeat (refine Below.setCell ?_ (by first|(simp;done)|(simp;omega)) _)
 exact (((Below.refl w.heap.size w).alloc lZ _).alloc sZ _).alloc (by simp;omega) _
theorem d1z (tx:Str) (jn gl:Bool) (cp:Int) (wd:Nat) (t:Str) (w:World) (_hc:0≤cp∧cp≤2) (_hw:wd≤tx.length) (hl:tx.length≤2^29) (ht:t.length≤2^29) :
 Calls Tryz.prog 339 #[stV ⟨tx,jn,gl,cp,wd⟩,.agg #[.int .i64 7,.string (S t)]] w fun e w'=>e=.returned (stV (P.apply ⟨tx,jn,gl,cp,wd⟩ 7 t))∧Below w.heap.size w w':=by
 have HN:=qh (SAp.new w ⟨tx,jn,gl,cp,wd⟩ 7 t)
 have j1:¬9223372036854775807<tx.length+t.length:=by omega
 have j2:tx.length+t.length≤9223372036854775807:=by omega
 go_enter Tryz.func339,Tryz.ntmps339
 go_wp2
 refine bodyPost_ret (v:=stV (P.apply ⟨tx,jn,gl,cp,wd⟩ 7 t)) (by simp [results,Tryz.results339,go_sem,P.apply]) rfl ⟨rfl,?_⟩
 repeat (refine Below.setCell ?_ (by first|(simp;done)|(simp;omega)) _)
 exact (((Below.refl w.heap.size w).alloc lZ _).alloc sZ _).alloc (by simp;omega) _
theorem c9p (tx:Str) (jn gl:Bool) (cp:Int) (wd:Nat) (t:Str) (w:World) (_hc:0≤cp∧cp≤2) (_hw:wd≤tx.length) (hl:tx.length≤2^29) (ht:t.length≤2^29) :
 Calls Tryz.prog 339 #[stV ⟨tx,jn,gl,cp,wd⟩,.agg #[.int .i64 8,.string (S t)]] w fun e w'=>e=.returned (stV (P.apply ⟨tx,jn,gl,cp,wd⟩ 8 t))∧Below w.heap.size w w':=by
 have HN:=qh (SAp.new w ⟨tx,jn,gl,cp,wd⟩ 8 t)
 have j1:¬9223372036854775807<tx.length+t.length:=by omega
 have j2:tx.length+t.length≤9223372036854775807:=by omega
 go_enter Tryz.func339,Tryz.ntmps339
 go_wp2
 refine bodyPost_ret (v:=stV (P.apply ⟨tx,jn,gl,cp,wd⟩ 8 t)) (by simp [results,Tryz.results339,go_sem,P.apply]) rfl ⟨rfl,?_⟩
 repeat (refine Below.setCell ?_ (by first|(simp;done)|(simp;omega)) _)
 exact (((Below.refl w.heap.size w).alloc lZ _).alloc sZ _).alloc (by simp;omega) _
theorem d0v (tx:Str) (jn gl:Bool) (cp:Int) (wd:Nat) (t:Str) (w:World) (_hc:0≤cp∧cp≤2) (_hw:wd≤tx.length) (hl:tx.length≤2^29) (ht:t.length≤2^29) :
 Calls Tryz.prog 339 #[stV ⟨tx,jn,gl,cp,wd⟩,.agg #[.int .i64 9,.string (S t)]] w fun e w'=>e=.returned (stV (P.apply ⟨tx,jn,gl,cp,wd⟩ 9 t))∧Below w.heap.size w w':=by
 have HN:=qh (SAp.new w ⟨tx,jn,gl,cp,wd⟩ 9 t)
 have j1:¬9223372036854775807<tx.length+t.length:=by omega
 have j2:tx.length+t.length≤9223372036854775807:=by omega
 go_enter Tryz.func339,Tryz.ntmps339
 go_wp2
 refine bodyPost_ret (v:=stV (P.apply ⟨tx,jn,gl,cp,wd⟩ 9 t)) (by simp [results,Tryz.results339,go_sem,P.apply]) rfl ⟨rfl,?_⟩
 repeat (refine Below.setCell ?_ (by first|(simp;done)|(simp;omega)) _)
 exact (((Below.refl w.heap.size w).alloc lZ _).alloc sZ _).alloc (by simp;omega) _
theorem d3q (tx:Str) (jn gl:Bool) (cp:Int) (wd:Nat) (t:Str) (w:World) (hc:0≤cp∧cp≤2) (_hw:wd≤tx.length) (hl:tx.length≤2^29) (ht:t.length≤2^29) :
 Calls Tryz.prog 339 #[stV ⟨tx,jn,gl,cp,wd⟩,.agg #[.int .i64 1,.string (S t)]] w fun e w'=>e=.returned (stV (P.apply ⟨tx,jn,gl,cp,wd⟩ 1 t))∧Below w.heap.size w w':=by
 have HN:=qh (SAp.new w ⟨tx,jn,gl,cp,wd⟩ 1 t)
 go_enter Tryz.func339,Tryz.ntmps339
 go_wp2_with fail
 refine (c6z ⟨tx,jn,gl,cp,wd⟩ t _ hc (by simp only;omega) oZ).mono ?_
 rintro e v1 ⟨rfl,hb⟩
 have HS:=qh (HN.o.below hb)
 clear hb HN
 have HA:=qh (show P.apply ⟨tx,jn,gl,cp,wd⟩ 1 t=⟨(P.put ⟨tx,jn,gl,cp,wd⟩ t).text,false,false,(P.put ⟨tx,jn,gl,cp,wd⟩ t).cap,(P.put ⟨tx,jn,gl,cp,wd⟩ t).word⟩ from rfl)
 generalize P.put ⟨tx,jn,gl,cp,wd⟩ t=r at *
 obtain⟨rt,rj,rg,rc,rw⟩:=r
 obtain⟨⟨⟨a0,a1,a2,a3,a4⟩,⟨f0,f1,f2,f3,f4⟩,hlt⟩,⟨k0,k1,hlk⟩,⟨⟨b0,b1,b2,b3,b4⟩,⟨g0,g1,g2,g3,g4⟩,hlr⟩,_⟩:=HS.o
 simp only at a0 a1 a2 a3 a4 b0 b1 b2 b3 b4
 go_upto_region 5 with fail
 have HS2:=qh (HS.o.state rt rj rg rc rw)
 clear HS
 generalize (World.setCell _ _ _)=v2 at *
 clear a0 a1 a2 a3 a4 hlt f0 f1 f2 f3 f4 k0 k1 hlk b0 b1 b2 b3 b4 hlr g0 g1 g2 g3 g4
 obtain⟨⟨⟨a0,a1,a2,a3,a4⟩,⟨f0,f1,f2,f3,f4⟩,hlt⟩,⟨k0,k1,hlk⟩,⟨⟨b0,b1,b2,b3,b4⟩,⟨g0,g1,g2,g3,g4⟩,hlr⟩,_⟩:=HS2.o
 have HT:=qh (HS2.o.jg false false)
 go_upto_region 41 with fail
 generalize (World.setCell _ _ _)=v9 at *
 clear a0 a1 a2 a3 a4 hlt f0 f1 f2 f3 f4 k0 k1 hlk b0 b1 b2 b3 b4 hlr g0 g1 g2 g3 g4
 obtain⟨⟨⟨a0,a1,a2,a3,a4⟩,⟨f0,f1,f2,f3,f4⟩,hlt⟩,⟨k0,k1,hlk⟩,⟨⟨b0,b1,b2,b3,b4⟩,⟨g0,g1,g2,g3,g4⟩,hlr⟩,_⟩:=HT.o
 simp only at a0 a1 a2 a3 a4 b0 b1 b2 b3 b4
 go_wp2
 refine bodyPost_ret (v:=stV ⟨rt,false,false,rc,rw⟩) (by simp [results,Tryz.results339,go_sem,b0,b1,b2,b3,b4]) rfl ⟨by rw [HA.o],?_⟩
 repeat (refine Below.setCell ?_ (by first|(simp;done)|(simp;omega)) _)
 exact HT.o.2.2.2
theorem d1n (tx:Str) (jn gl:Bool) (cp:Int) (wd:Nat) (t:Str) (w:World) (hc:0≤cp∧cp≤2) (_hw:wd≤tx.length) (hl:tx.length≤2^29) (ht:t.length≤2^29) :
 Calls Tryz.prog 339 #[stV ⟨tx,jn,gl,cp,wd⟩,.agg #[.int .i64 3,.string (S t)]] w fun e w'=>e=.returned (stV (P.apply ⟨tx,jn,gl,cp,wd⟩ 3 t))∧Below w.heap.size w w':=by
 have HN:=qh (SAp.new w ⟨tx,jn,gl,cp,wd⟩ 3 t)
 go_enter Tryz.func339,Tryz.ntmps339
 go_wp2_with fail
 refine (c6z ⟨tx,jn,gl,cp,wd⟩ t _ hc (by simp only;omega) oZ).mono ?_
 rintro e v1 ⟨rfl,hb⟩
 have HS:=qh (HN.o.below hb)
 clear hb HN
 have HA:=qh (show P.apply ⟨tx,jn,gl,cp,wd⟩ 3 t=⟨(P.put ⟨tx,jn,gl,cp,wd⟩ t).text,true,false,(P.put ⟨tx,jn,gl,cp,wd⟩ t).cap,(P.put ⟨tx,jn,gl,cp,wd⟩ t).word⟩ from rfl)
 generalize P.put ⟨tx,jn,gl,cp,wd⟩ t=r at *
 obtain⟨rt,rj,rg,rc,rw⟩:=r
 obtain⟨⟨⟨a0,a1,a2,a3,a4⟩,⟨f0,f1,f2,f3,f4⟩,hlt⟩,⟨k0,k1,hlk⟩,⟨⟨b0,b1,b2,b3,b4⟩,⟨g0,g1,g2,g3,g4⟩,hlr⟩,_⟩:=HS.o
 simp only at a0 a1 a2 a3 a4 b0 b1 b2 b3 b4
 go_upto_region 5 with fail
 have HS2:=qh (HS.o.state rt rj rg rc rw)
 clear HS
 generalize (World.setCell _ _ _)=v2 at *
 clear a0 a1 a2 a3 a4 hlt f0 f1 f2 f3 f4 k0 k1 hlk b0 b1 b2 b3 b4 hlr g0 g1 g2 g3 g4
 obtain⟨⟨⟨a0,a1,a2,a3,a4⟩,⟨f0,f1,f2,f3,f4⟩,hlt⟩,⟨k0,k1,hlk⟩,⟨⟨b0,b1,b2,b3,b4⟩,⟨g0,g1,g2,g3,g4⟩,hlr⟩,_⟩:=HS2.o
 have HT:=qh (HS2.o.jg true false)
 go_upto_region 41 with fail
 generalize (World.setCell _ _ _)=v9 at *
 clear a0 a1 a2 a3 a4 hlt f0 f1 f2 f3 f4 k0 k1 hlk b0 b1 b2 b3 b4 hlr g0 g1 g2 g3 g4
 obtain⟨⟨⟨a0,a1,a2,a3,a4⟩,⟨f0,f1,f2,f3,f4⟩,hlt⟩,⟨k0,k1,hlk⟩,⟨⟨b0,b1,b2,b3,b4⟩,⟨g0,g1,g2,g3,g4⟩,hlr⟩,_⟩:=HT.o
 simp only at a0 a1 a2 a3 a4 b0 b1 b2 b3 b4
 go_wp2
 refine bodyPost_ret (v:=stV ⟨rt,true,false,rc,rw⟩) (by simp [results,Tryz.results339,go_sem,b0,b1,b2,b3,b4]) rfl ⟨by rw [HA.o],?_⟩
 repeat (refine Below.setCell ?_ (by first|(simp;done)|(simp;omega)) _)
 exact HT.o.2.2.2
theorem c9w (tx:Str) (jn gl:Bool) (cp:Int) (wd:Nat) (t:Str) (w:World) (hc:0≤cp∧cp≤2) (_hw:wd≤tx.length) (hl:tx.length≤2^29) (ht:t.length≤2^29) :
 Calls Tryz.prog 339 #[stV ⟨tx,jn,gl,cp,wd⟩,.agg #[.int .i64 5,.string (S t)]] w fun e w'=>e=.returned (stV (P.apply ⟨tx,jn,gl,cp,wd⟩ 5 t))∧Below w.heap.size w w':=by
 cases gl
 ·skip;have HN:=qh (SAp.new w ⟨tx,jn,false,cp,wd⟩ 5 t)
  go_enter Tryz.func339,Tryz.ntmps339
  go_wp2_with fail
  refine (c6z ⟨tx,jn,false,cp,wd⟩ t _ hc (by simp only;omega) oZ).mono ?_;rintro e v1 ⟨rfl,hb⟩;have HS:=qh (HN.o.below hb);clear hb HN;have HA:=qh (show P.apply ⟨tx,jn,false,cp,wd⟩ 5 t=⟨(P.put ⟨tx,jn,false,cp,wd⟩ t).text,false,true,(P.put ⟨tx,jn,false,cp,wd⟩ t).cap,(P.put ⟨tx,jn,false,cp,wd⟩ t).word⟩ from rfl);generalize P.put ⟨tx,jn,false,cp,wd⟩ t=r at *;obtain⟨rt,rj,rg,rc,rw⟩:=r;obtain⟨⟨⟨a0,a1,a2,a3,a4⟩,⟨f0,f1,f2,f3,f4⟩,hlt⟩,⟨k0,k1,hlk⟩,⟨⟨b0,b1,b2,b3,b4⟩,⟨g0,g1,g2,g3,g4⟩,hlr⟩,_⟩:=HS.o;simp only at a0 a1 a2 a3 a4 b0 b1 b2 b3 b4
  go_upto_region 13 with fail
  have HS2:=qh (HS.o.state rt rj rg rc rw);clear HS;generalize (World.setCell _ _ _)=v2 at *;clear a0 a1 a2 a3 a4 hlt f0 f1 f2 f3 f4 k0 k1 hlk b0 b1 b2 b3 b4 hlr g0 g1 g2 g3 g4;obtain⟨⟨⟨a0,a1,a2,a3,a4⟩,⟨f0,f1,f2,f3,f4⟩,hlt⟩,⟨k0,k1,hlk⟩,⟨⟨b0,b1,b2,b3,b4⟩,⟨g0,g1,g2,g3,g4⟩,hlr⟩,_⟩:=HS2.o;have HT:=qh (HS2.o.jg false true)
  go_upto_region 41 with fail
  generalize (World.setCell _ _ _)=v9 at *;clear a0 a1 a2 a3 a4 hlt f0 f1 f2 f3 f4 k0 k1 hlk b0 b1 b2 b3 b4 hlr g0 g1 g2 g3 g4;obtain⟨⟨⟨a0,a1,a2,a3,a4⟩,⟨f0,f1,f2,f3,f4⟩,hlt⟩,⟨k0,k1,hlk⟩,⟨⟨b0,b1,b2,b3,b4⟩,⟨g0,g1,g2,g3,g4⟩,hlr⟩,_⟩:=HT.o;simp only at a0 a1 a2 a3 a4 b0 b1 b2 b3 b4;go_wp2;refine bodyPost_ret (v:=stV ⟨rt,false,true,rc,rw⟩) (by simp [results,Tryz.results339,go_sem,b0,b1,b2,b3,b4]) rfl ⟨by rw [HA.o],?_⟩;exact d4t
 ·skip;have HN:=qh (SAp.new w ⟨tx,true,true,cp,wd⟩ 5 t)
  go_enter Tryz.func339,Tryz.ntmps339
  go_wp2_with fail
  refine (c6z ⟨tx,true,true,cp,wd⟩ t _ hc (by simp only;omega) oZ).mono ?_;rintro e v1 ⟨rfl,hb⟩;have HS:=qh (HN.o.below hb);clear hb HN;have HA:=qh (show P.apply ⟨tx,jn,true,cp,wd⟩ 5 t=⟨(P.put ⟨tx,true,true,cp,wd⟩ t).text,false,true,(P.put ⟨tx,true,true,cp,wd⟩ t).cap,wd⟩ from rfl);generalize P.put ⟨tx,true,true,cp,wd⟩ t=r at *;obtain⟨rt,rj,rg,rc,rw⟩:=r;obtain⟨⟨⟨a0,a1,a2,a3,a4⟩,⟨f0,f1,f2,f3,f4⟩,hlt⟩,⟨k0,k1,hlk⟩,⟨⟨b0,b1,b2,b3,b4⟩,⟨g0,g1,g2,g3,g4⟩,hlr⟩,_⟩:=HS.o;simp only at a0 a1 a2 a3 a4 b0 b1 b2 b3 b4
  go_upto_region 13 with fail
  have HS2:=qh (HS.o.state rt rj rg rc rw);clear HS;generalize (World.setCell _ _ _)=v2 at *;clear a0 a1 a2 a3 a4 hlt f0 f1 f2 f3 f4 k0 k1 hlk b0 b1 b2 b3 b4 hlr g0 g1 g2 g3 g4;obtain⟨⟨⟨a0,a1,a2,a3,a4⟩,⟨f0,f1,f2,f3,f4⟩,hlt⟩,⟨k0,k1,hlk⟩,⟨⟨b0,b1,b2,b3,b4⟩,⟨g0,g1,g2,g3,g4⟩,hlr⟩,_⟩:=HS2.o;have HT:=qh ((HS2.o.wd wd).jg false true)
  go_upto_region 41 with fail
  generalize (World.setCell _ _ _)=v9 at *;clear a0 a1 a2 a3 a4 hlt f0 f1 f2 f3 f4 k0 k1 hlk b0 b1 b2 b3 b4 hlr g0 g1 g2 g3 g4;obtain⟨⟨⟨a0,a1,a2,a3,a4⟩,⟨f0,f1,f2,f3,f4⟩,hlt⟩,⟨k0,k1,hlk⟩,⟨⟨b0,b1,b2,b3,b4⟩,⟨g0,g1,g2,g3,g4⟩,hlr⟩,_⟩:=HT.o;simp only at a0 a1 a2 a3 a4 b0 b1 b2 b3 b4;go_wp2;refine bodyPost_ret (v:=stV ⟨rt,false,true,rc,wd⟩) (by simp [results,Tryz.results339,go_sem,b0,b1,b2,b3,b4]) rfl ⟨by rw [HA.o],?_⟩;exact d4t
theorem d3o (tx:Str) (jn gl:Bool) (cp:Int) (wd:Nat) (t:Str) (w:World) (_hc:0≤cp∧cp≤2) (hw:wd≤tx.length) (hl:tx.length≤2^29) (ht:t.length≤2^29) :
 Calls Tryz.prog 339 #[stV ⟨tx,jn,gl,cp,wd⟩,.agg #[.int .i64 2,.string (S t)]] w fun e w'=>e=.returned (stV (P.apply ⟨tx,jn,gl,cp,wd⟩ 2 t))∧Below w.heap.size w w':=by
 have HN:=qh (SAp.new w ⟨tx,jn,gl,cp,wd⟩ 2 t)
 have j1:¬9223372036854775807<tx.length+t.length:=by omega
 have j2:tx.length+t.length≤9223372036854775807:=by omega
 have i1:(wd:Int)≤(tx.length:Int):=by omega
 have i0:(0:Int)≤(wd:Int):=by omega
 have HJL:=qh (show (P.a1x (tx.drop wd) t).2=true→(P.a1x (tx.drop wd) t).1.length≤24 from fun h=>(P.a6j h).1)
 obtain⟨js,hjs⟩:∃js,P.a1x (tx.drop wd) t=js:=⟨_,rfl⟩
 obtain⟨jt,jo⟩:=js
 have HJ:=qh hjs
 rw [hjs]at HJL
 have HA:=qh (show P.apply ⟨tx,jn,gl,cp,wd⟩ 2 t=⟨if jo then tx.take wd++jt else tx++t,false,false,cp,wd⟩ by
  have h:P.apply ⟨tx,jn,gl,cp,wd⟩ 2 t=⟨if (P.a1x (tx.drop wd) t).2 then tx.take wd++(P.a1x (tx.drop wd) t).1 else tx++t,false,false,cp,wd⟩:=rfl;rw [h,hjs])
 have HC:=qh (fun v=>(a7v (tx.drop wd) t v (by rw [List.length_drop];omega) oZ).mono (R':=fun e v'=>e=.returned (.tuple #[.string (S jt),.bool jo])∧v'=v) (by rintro e v' ⟨rfl,rfl⟩;rw [HJ.o];exact⟨rfl,rfl⟩))
 clear hjs
 go_enter Tryz.func339,Tryz.ntmps339
 go_upto_region 22 with fail
 go_cut [7,8] (fun x y wx=>x=.string (S jt)∧y=.bool jo∧SAp w ⟨tx,jn,gl,cp,wd⟩ 2 t wx)
 case first=>
  go_quiet ((go_at_call 174;exact Calls.quiet_of_same (HC.o _)))
  go_wp2;go_meet;exact⟨rfl,rfl,HN.o.below (below_drewN bZ _)⟩
 case rest=>
 obtain⟨rfl,rfl,hs⟩:=hcut
 have HS2:=qh hs
 clear hs HN HC
 generalize hww:wc=v2 at *
 clear hww
 obtain⟨⟨⟨a0,a1,a2,a3,a4⟩,⟨f0,f1,f2,f3,f4⟩,hlt⟩,⟨k0,k1,hlk⟩,⟨⟨b0,b1,b2,b3,b4⟩,⟨g0,g1,g2,g3,g4⟩,hlr⟩,_⟩:=HS2.o
 cases jo
 ·have HT:=qh ((HS2.o.tx (tx++t)).jg false false)
  go_upto_region 41 with fail
  generalize (World.setCell _ _ _)=v9 at *;clear a0 a1 a2 a3 a4 hlt f0 f1 f2 f3 f4 k0 k1 hlk b0 b1 b2 b3 b4 hlr g0 g1 g2 g3 g4;obtain⟨⟨⟨a0,a1,a2,a3,a4⟩,⟨f0,f1,f2,f3,f4⟩,hlt⟩,⟨k0,k1,hlk⟩,⟨⟨b0,b1,b2,b3,b4⟩,⟨g0,g1,g2,g3,g4⟩,hlr⟩,_⟩:=HT.o;simp only at a0 a1 a2 a3 a4 b0 b1 b2 b3 b4;go_wp2;refine bodyPost_ret (v:=stV ⟨tx++t,false,false,cp,wd⟩) (by simp [results,Tryz.results339,go_sem,b0,b1,b2,b3,b4]) rfl ⟨by rw [HA.o];rfl,?_⟩;exact d4t
 ·have hj24:=HJL.o rfl;have j3:¬9223372036854775807<wd+jt.length:=by simp only at hj24;omega
  have j4:wd+jt.length≤9223372036854775807:=by simp only at hj24;omega
  have j5:min wd tx.length=wd:=by omega
  have HT:=qh ((HS2.o.tx (tx.take wd++jt)).jg false false)
  go_upto_region 41 with fail
  generalize (World.setCell _ _ _)=v9 at *;clear a0 a1 a2 a3 a4 hlt f0 f1 f2 f3 f4 k0 k1 hlk b0 b1 b2 b3 b4 hlr g0 g1 g2 g3 g4;obtain⟨⟨⟨a0,a1,a2,a3,a4⟩,⟨f0,f1,f2,f3,f4⟩,hlt⟩,⟨k0,k1,hlk⟩,⟨⟨b0,b1,b2,b3,b4⟩,⟨g0,g1,g2,g3,g4⟩,hlr⟩,_⟩:=HT.o;simp only at a0 a1 a2 a3 a4 b0 b1 b2 b3 b4;go_wp2;refine bodyPost_ret (v:=stV ⟨tx.take wd++jt,false,false,cp,wd⟩) (by simp [results,Tryz.results339,go_sem,b0,b1,b2,b3,b4]) rfl ⟨by rw [HA.o];rfl,?_⟩;exact d4t
theorem c8b (tx:Str) (jn gl:Bool) (cp:Int) (wd:Nat) (t:Str) (w:World) (_hc:0≤cp∧cp≤2) (hw:wd≤tx.length) (hl:tx.length≤2^29) (_ht:t.length≤2^29) :
 Calls Tryz.prog 339 #[stV ⟨tx,jn,gl,cp,wd⟩,.agg #[.int .i64 10,.string (S t)]] w fun e w'=>e=.returned (stV (P.apply ⟨tx,jn,gl,cp,wd⟩ 10 t))∧Below w.heap.size w w':=by
 have i1:(wd:Int)≤(tx.length:Int):=by omega
 have i0:(0:Int)≤(wd:Int):=by omega
 have HN:=qh (SAp.new w ⟨tx,jn,gl,cp,wd⟩ 10 t)
 have hcl:(P.a3l (tx.drop wd) 1).length=tx.length-wd:=by rw [P.b0a,List.length_drop]
 have j3:¬9223372036854775807<wd+(P.a3l (tx.drop wd) 1).length:=by omega
 have j4:wd+(P.a3l (tx.drop wd) 1).length≤9223372036854775807:=by omega
 have j5:min wd tx.length=wd:=by omega
 have HDL:=qh (show (tx.drop wd).length≤2^40 by rw [List.length_drop];omega)
 have HA:=qh (show P.apply ⟨tx,jn,gl,cp,wd⟩ 10 t=⟨tx.take wd++P.a3l (tx.drop wd) 1,jn,gl,cp,wd⟩ from rfl)
 clear hcl
 go_enter Tryz.func339,Tryz.ntmps339
 go_upto_region 40 with fail
 refine Left.region [13] (S:=SAp w ⟨tx,jn,gl,cp,wd⟩ 10 t) kZ (HN.o.below bZ.drew) (fun hS0=>?_)
 clear HN
 generalize (World.drew _)=v0 at *
 have HS0:=qh hS0
 refine lk9 0 hS0 ?_
 refine lk9 1 hS0 ?_
 refine lk9 2 hS0 ?_
 refine lk9 3 hS0 ?_
 refine lk9 4 hS0 ?_
 refine lk9 5 hS0 ?_
 refine lk9 6 hS0 ?_
 refine lk9 7 hS0 ?_
 refine lk9 8 hS0 ?_
 refine lk9 9 hS0 ?_
 refine lrd 10 fun K hK=>?_
 go_simp
 refine (c5b (tx.drop wd) 1 _ oZ HDL.o).mono ?_
 rintro e v1 ⟨rfl,hb⟩
 have HS1:=qh (HS0.o.below hb)
 refine a3q hK dZ HS1.o (fun hS1=>?_)
 clear hK K hb HS0 hS0
 try simp only [qA,qB,qC,Act.put,qD,qE,qF]
 refine lk9 11 hS1 ?_
 refine lk9 12 hS1 ?_
 refine lrd 13 fun K hK=>?_
 obtain⟨⟨⟨a0,a1,a2,a3,a4⟩,⟨f0,f1,f2,f3,f4⟩,hlt⟩,⟨k0,k1,hlk⟩,⟨⟨b0,b1,b2,b3,b4⟩,⟨g0,g1,g2,g3,g4⟩,hlr⟩,_⟩:=HS1.o
 go_simp
 refine a6t hK dZ ?_
 clear hK K hS1
 try simp only [qA,qB,qC,Act.put,qD,qE,qF]
 refine Left.done kZ ?_ _
 have HT:=qh (HS1.o.tx (tx.take wd++P.a3l (tx.drop wd) 1))
 go_upto_region 41 with fail
 generalize (World.setCell _ _ _)=v9 at *
 clear a0 a1 a2 a3 a4 hlt f0 f1 f2 f3 f4 k0 k1 hlk b0 b1 b2 b3 b4 hlr g0 g1 g2 g3 g4
 obtain⟨⟨⟨a0,a1,a2,a3,a4⟩,⟨f0,f1,f2,f3,f4⟩,hlt⟩,⟨k0,k1,hlk⟩,⟨⟨b0,b1,b2,b3,b4⟩,⟨g0,g1,g2,g3,g4⟩,hlr⟩,_⟩:=HT.o
 simp only at a0 a1 a2 a3 a4 b0 b1 b2 b3 b4
 go_wp2
 refine bodyPost_ret (v:=stV ⟨tx.take wd++P.a3l (tx.drop wd) 1,jn,gl,cp,wd⟩) (by simp [results,Tryz.results339,go_sem,b0,b1,b2,b3,b4]) rfl ⟨by rw [HA.o],?_⟩
 repeat (refine Below.setCell ?_ (by first|(simp;done)|(simp;omega)) _)
 exact HT.o.2.2.2
section
section
set_option maxHeartbeats 1000000
variable {α:Type} {E:ElT α} {wd:Nat}
variable {e:TypeId} {B:Nat} {v v':World} {u:Value} {G:Nat→Blk} {C:Nat→List Value} {l:List α}
end
end
section
section
set_option maxHeartbeats 1000000
theorem a5q {w v:World} {row:Option Nat} (h:w.grownBy v row):Chg (fun b=>row=some b) w v:=⟨h.os,h.tape,h.output,h.size,fun b hb hx=>h.block b hb (fun e=>hx e.symm)⟩
variable {w:World} {R N:Nat} {u:Value} {G:Nat→Blk} {l0:P.Tri} {t:Bool} {x:Str} {v v':World} {ur:Value} {Gr:Nat→Blk} {Cr:Nat→List Value} {lr:P.Tri} {su cu:Value} {s c:List Int}
end
end
section
section
set_option maxHeartbeats 1000000
end
section
namespace P
def behind (d:Nat):Dic→Dic
 |[]=>[]
 |e::l=>l.dropWhile fun x=>a6z d x==a6z d e
end P
end
end
section
section
set_option maxHeartbeats 1000000
def d1l (l:List Int) (w:World) (e:Ending) (w':World):Prop:=∃u,e=.returned u∧w'.ownsRow w.heap.size 3 1 u l.length (ints l)∧Below w.heap.size w w'
theorem a8k (u:Value) (l:List Int) (w:World) (hu:IntR w u l) (hl:l.length≤2^30) :
 Calls Tryz.prog 133 #[u] w (d1l l w):=by
 obtain⟨i0,hi,hz0,hz1,hz2⟩:=info_parts a2k
 have hb0:=(Below.refl w.heap.size w).alloc lZ (.cells #[] 3)
 have HSRC:=qh (a7c (hu.below hb0))
 have HB:=qh hb0;clear hb0
 have HOWN:=qh (World.ownsRow_lit (base:=w.heap.size) (e:=3) (size:=1) w #[] 0 lZ (Nat.zero_le _) sZ)
 obtain⟨ad,cap,rfl,_,_⟩:=hu
 go_enter Tryz.func133,Tryz.ntmps133
 go_wp2_with (at_builtin;refine a0x rfl _ _ 33 rfl w.heap.size 3 i0 (.int .i64 0) 1 8 Tryz.underlying33 hi hz0 hz1 hz2 rfl dZ _ 0 [] rfl HOWN.o _ l.length (ints l) rfl HSRC.o ?_ ?_ sZ ?_)
 ·unfold maxLen;omega
 ·omega
 intro v' w' hown hgr _
 have HOW:=qh hown
 have HBB:=qh (HB.o.grown hgr sZ (fun k hk=>by simp [Value.ownBlock]at hk;omega))
 clear hown hgr
 go_wp2
 go_ret
 refine⟨_,rfl,?_,HBB.o⟩
 exact HOW.o
theorem IntR.chg {v v':World} {u:Value} {l:List Int} {X:Blk} (h:IntR v u l) (hc:Chg X v v') (hX:∀b,u.ownBlock=some b→¬X b):IntR v' u l:=by
 obtain⟨ad,cap,h1,h2,hn,h3⟩:=h;refine⟨ad,cap,h1,h2,hn,h3.imp id ?_⟩;rintro⟨g,o,h4,h5,h6⟩;exact⟨g,o,h4,Nat.lt_of_lt_of_le h5 hc.size,fun j hj=>(hc.cell (p:=⟨g,_,none⟩) h5 (hX g (by rw [h1,h4];rfl))).trans (h6 j hj)⟩
variable {w:World} {R N:Nat} {tv u x y:Value} {tt:Bool} {ss:Str} {n1:Nat} {u1:Value} {es1:P.Dic} {xs1:List Value} {v v':World}
end
section
namespace P
end P
end
end
section
set_option maxHeartbeats 8000000
theorem a0y {v:World} {B B':Nat} {e:TypeId} {z:Nat} {u:Value} {n:Nat} {xs:List Value} (h:v.ownsRow B e z u n xs) (hB:B'≤B):v.ownsRow B' e z u n xs:=
 ⟨h.1,h.2.imp id fun⟨g,cap,cur,hv,hg,r⟩=>⟨g,cap,cur,hv,Nat.le_trans hB hg,r⟩⟩
end
namespace P
def b5f (o:List Int) (l:Dic):Bs×Bool:=if dic l then (a3b o l,hasE o l) else ([],false)
end P
set_option maxHeartbeats 2000000
def c5f (o:List Int) (l:P.Dic) (w:World) (e:Ending) (w':World):Prop:=e=.returned (.tuple #[.string (S (P.a3b o l)),.bool (P.hasE o l)])∧Below w.heap.size w w'
theorem d6z (dv ov:Value) (l:P.Dic) (o:List Int) (w:World) (hu:EntR w dv l) (ho:IntR w ov o) :
 Calls Tryz.prog 238 #[.agg #[dv],ov] w (c5f o l w):=by
 have hb0:=(Below.refl w.heap.size w).alloc lZ (.cells #[dv] 26)
 have HU:=qh (hu.below hb0);have HO:=qh (ho.below hb0);have HB0:=qh hb0
 have HBX:=qh (Box1.new dv 26 w)
 have hl0:=P.a6x o l;have hl1:=P.b3e (o:=o) (l:=l)
 obtain⟨ad,cap,rfl,hll,_⟩:=hu
 obtain⟨od,oc,rfl,_,_⟩:=ho
 clear hb0
 go_enter Tryz.func238,Tryz.ntmps238
 go_wp2_with fail
 refine (l6At _ _ l o _ HU.o HO.o).mono ?_
 rintro e w1 ⟨rfl,hb⟩
 have HU1:=qh (HU.o.below hb)
 obtain⟨b0,_⟩:=HBX.o.below hb
 have HB1:=qh (HB0.o.trans (hb.mono sZ))
 clear hb HU HO HB0 HBX
 by_cases hneg:P.place o l<0
 ·have HN:=qh (show P.hasE o l=false by unfold P.hasE;exact decide_eq_false oZ);go_wp2;refine bodyPost_ret (v:=.tuple #[.string (S []),.bool false]) (by simp [results,Tryz.results238,go_sem]) rfl ⟨by rw [P.b1d HN.o,HN.o],HB1.o⟩
 ·have HN:=qh (show P.hasE o l=true by unfold P.hasE;exact decide_eq_true oZ);obtain⟨i,hi⟩:=Int.eq_ofNat_of_zero_le (show 0≤P.place o l by omega);have hil:i<l.length:=by omega
  obtain⟨g,p,rfl,hgl,x,c0,c1,hx⟩:=HU1.o.at i hil;rw [P.a8c hi hil]at c1;rw [hi]at hneg⊢;have i1:(i:Int)<(l.length:Int):=by omega
  clear hl0 hl1 hi c0 hx;go_wp2;refine bodyPost_ret (v:=.tuple #[.string (S (P.a3b o l)),.bool true]) (by simp [results,Tryz.results238,go_sem]) rfl ⟨by rw [HN.o],HB1.o⟩
theorem c2s (dv ov:Value) (l:P.Dic) (o:List Int) (w:World) (hu:EntR w dv l) (ho:IntR w ov o) :
 Calls Tryz.prog 228 #[.agg #[dv],ov] w (c5f o l w):=by
 have hb0:=(Below.refl w.heap.size w).alloc lZ (.cells #[dv] 26)
 have HU:=qh (hu.below hb0);have HO:=qh (ho.below hb0);have HB0:=qh hb0
 have HBX:=qh (Box1.new dv 26 w)
 have hl0:=P.a6x o l;have hl1:=P.b3e (o:=o) (l:=l)
 obtain⟨ad,cap,rfl,hll,_⟩:=hu
 obtain⟨od,oc,rfl,_,_⟩:=ho
 clear hb0
 go_enter Tryz.func228,Tryz.ntmps228
 go_wp2_with fail
 refine (d2p _ _ l o _ HU.o HO.o).mono ?_
 rintro e w1 ⟨rfl,hb⟩
 have HU1:=qh (HU.o.below hb)
 obtain⟨b0,_⟩:=HBX.o.below hb
 have HB1:=qh (HB0.o.trans (hb.mono sZ))
 clear hb HU HO HB0 HBX
 by_cases hneg:P.place o l<0
 ·have HN:=qh (show P.hasE o l=false by unfold P.hasE;exact decide_eq_false oZ);go_wp2;refine bodyPost_ret (v:=.tuple #[.string (S []),.bool false]) (by simp [results,Tryz.results228,go_sem]) rfl ⟨by rw [P.b1d HN.o,HN.o],HB1.o⟩
 ·have HN:=qh (show P.hasE o l=true by unfold P.hasE;exact decide_eq_true oZ);obtain⟨i,hi⟩:=Int.eq_ofNat_of_zero_le (show 0≤P.place o l by omega);have hil:i<l.length:=by omega
  obtain⟨g,p,rfl,hgl,x,c0,c1,hx⟩:=HU1.o.at i hil;rw [P.a8c hi hil]at c1;rw [hi]at hneg⊢;have i1:(i:Int)<(l.length:Int):=by omega
  clear hl0 hl1 hi c0 hx;go_wp2;refine bodyPost_ret (v:=.tuple #[.string (S (P.a3b o l)),.bool true]) (by simp [results,Tryz.results228,go_sem]) rfl ⟨by rw [HN.o],HB1.o⟩
theorem c4d (dv ov:Value) (l:P.Dic) (o:List Int) (w:World) (hu:EntR w dv l) (ho:IntR w ov o) (hs:Small l) (hE:Env w) :
 Calls Tryz.prog 211 #[.agg #[dv],ov] w fun e w'=>e=.returned (.tuple #[.string (S (P.b5f o l).1),.bool (P.b5f o l).2])∧Below w.heap.size w w':=by
 have hb0:=(Below.refl w.heap.size w).alloc lZ (.cells #[dv] 26)
 have HU:=qh (hu.below hb0);have HO:=qh (ho.below hb0);have HB0:=qh hb0
 have HBX:=qh (Box1.new dv 26 w);have HSM:=qh hs
 have HE:=qh (hE.below hb0 hE.size)
 obtain⟨ad,cap,rfl,hll,_⟩:=hu
 obtain⟨od,oc,rfl,_,_⟩:=ho
 clear hb0 hs
 go_enter Tryz.func211,Tryz.ntmps211
 go_wp2_with fail
 refine (a1k _ l _ HU.o HSM.o.texts HE.o).mono ?_
 rintro e w1 ⟨rfl,hb⟩
 have HU1:=qh (HU.o.below hb);have HO1:=qh (HO.o.below hb)
 obtain⟨b0,_⟩:=HBX.o.below hb
 have HB1:=qh (HB0.o.trans (hb.mono sZ))
 clear hb HU HO HB0 HBX
 cases hd:P.dic l
 ·have HD:=qh (show P.b5f o l=([],false) by unfold P.b5f;rw [hd];rfl);clear hd;go_wp2;refine bodyPost_ret (v:=.tuple #[.string (S []),.bool false]) (by simp [results,Tryz.results211,go_sem]) rfl ⟨by rw [HD.o],HB1.o⟩
 ·have HD:=qh (show P.b5f o l=(P.a3b o l,P.hasE o l) by unfold P.b5f;rw [hd];rfl);clear hd
  go_wp2_with fail
  refine (c2s _ _ l o _ HU1.o HO1.o).mono ?_;rintro e w2 ⟨rfl,hb⟩;have HB2:=bt HB1 hb;clear hb;go_wp2;refine bodyPost_ret (v:=.tuple #[.string (S (P.a3b o l)),.bool (P.hasE o l)]) (by simp [results,Tryz.results211,go_sem]) rfl ⟨by rw [HD.o],HB2.o⟩
namespace P
end P
set_option maxHeartbeats 1000000
theorem d3e:(Tryz.prog.info? 33).map (fun i=>(i.zero,i.size,i.bytes))=some (some (.slice none 0 0),1,24):=by kernel_rfl
end Go.Proofs.YtggfdnopminemaaGreatDoor
