/- Walks: an atom applied. -/
import Derived.Test.YtggfdnopminemaaGreatDoorFmtS2
set_option linter.all false
namespace Go.Proofs.YtggfdnopminemaaGreatDoor
open Go.Proofs.Tryz
open Go Go.RowKit
set_option maxHeartbeats 8000000
set_option maxRecDepth 100000
variable {k:Int} {b:Nat} {s:P.St} {t:Str} {v v' w:Go.World}
def b5f (b:Nat) (k:Int) (t:Str) (v:World):Prop:=v.cell? ⟨b,0,none⟩=some (.int .i64 k)/\v.cell? ⟨b,1,none⟩=some (.string (S t))/\b<v.heap.size
theorem b5f.below (h:b5f b k t v) (hb:Bl v v'):b5f b k t v':=
 ⟨(hb.cell (p:=⟨b,0,none⟩) h.2.2).trans h.1,(hb.cell (p:=⟨b,1,none⟩) h.2.2).trans h.2.1,Nat.lt_of_lt_of_le h.2.2 hb.size⟩
theorem b5f.new (k:Int) (t:Str) (T:TypeId) (v:World):b5f v.heap.size k t (v.alloc (.cells #[.int .i64 k,.string (S t)] T)):=⟨by go_simp,by go_simp,by simp⟩
def SAp (w:World) (s:P.St) (k:Int) (t:Str) (v:World):Prop:=a0t w.heap.size s v/\b5f (w.heap.size+1) k t v/\a0t (w.heap.size+1+1) st0 v/\Bl w v
theorem SAp.below (h:SAp w s k t v) (hb:Bl v v'):SAp w s k t v':=⟨h.1.below hb,h.2.1.below hb,h.2.2.1.below hb,h.2.2.2.trans (hb.mono h.2.2.2.size)⟩
theorem SAp.new (w:World) (s:P.St) (k:Int) (t:Str):SAp w s k t (((w.alloc (a1c s)).alloc (.cells #[.int .i64 k,.string (S t)] 177)).alloc (a1c st0)):=by
 have b1:Bl w (w.alloc (a1c s)):=bZ.alloc lZ _;have b2:=(Below.refl (w.alloc (a1c s)).heap.size (w.alloc (a1c s))).alloc lZ (.cells #[.int .i64 k,.string (S t)] 177);have b3:=(Below.refl ((w.alloc (a1c s)).alloc (.cells #[.int .i64 k,.string (S t)] 177)).heap.size ((w.alloc (a1c s)).alloc (.cells #[.int .i64 k,.string (S t)] 177))).alloc lZ (a1c st0);refine⟨((a0t.new s w).below b2).below b3,?_,?_,?_⟩
 .have h:=(b5f.new k t 177 (w.alloc (a1c s))).below b3;simpa using h
 .have h:=a0t.new st0 ((w.alloc (a1c s)).alloc (.cells #[.int .i64 k,.string (S t)] 177));simpa using h
 .exact ((b1.trans (b2.mono sZ)).trans (b3.mono (by simp;omega)))
theorem b5f.a0b {X:Blk} (h:b5f b k t v) (hc:Chg X v v') (hX:¬X b):b5f b k t v':=
 ⟨(hc.cell (p:=⟨b,0,none⟩) h.2.2 hX).trans h.1,(hc.cell (p:=⟨b,1,none⟩) h.2.2 hX).trans h.2.1,Nat.lt_of_lt_of_le h.2.2 hc.size⟩
theorem SAp.turn {s':P.St} (h:SAp w s k t v) (hc:Chg (λb=>b=w.heap.size) v v') (h1:a0t w.heap.size s' v'):SAp w s' k t v':=
 ⟨h1,h.2.1.a0b hc oZ,h.2.2.1.a0b hc oZ,h.2.2.2.trans (hc.below (Nat.le_of_lt h.1.2.2) (λb e=>by omega))⟩
theorem Chg.put {i:Nat} (h:Chg (λx=>x=b) w v) (x:Value):Chg (λx=>x=b) w (v.setCell ⟨b,i,none⟩ x):=h.setCell (p:=⟨b,i,none⟩) rfl x
theorem SAp.state (h:SAp w s k t v) (tx:Str) (jn gl:Bool) (cp:Int) (wd:Nat) :
 SAp w ⟨tx,jn,gl,cp,wd⟩ k t (((((v.setCell ⟨w.heap.size,0,none⟩ (.string (S tx))).setCell ⟨w.heap.size,1,none⟩ (.bool jn)).setCell ⟨w.heap.size,2,none⟩ (.bool gl)).setCell ⟨w.heap.size,3,none⟩ (.int .i64 cp)).setCell ⟨w.heap.size,4,none⟩ (.int .i64 (wd:Int))):=
 h.turn (((((Chg.put (Chg.refl _ _) _).put _).put _).put _).put _) (((((h.1.text tx).a0u jn).a4j gl).cap cp).word wd)
theorem SAp.jg (h:SAp w s k t v) (jn gl:Bool) :
 SAp w { s with a0u:=jn,a4j:=gl } k t ((v.setCell ⟨w.heap.size,1,none⟩ (.bool jn)).setCell ⟨w.heap.size,2,none⟩ (.bool gl)):=
 h.turn ((Chg.put (Chg.refl _ _) _).put _) ((h.1.a0u jn).a4j gl)
theorem SAp.wd (h:SAp w s k t v) (n:Nat):SAp w { s with word:=n } k t (v.setCell ⟨w.heap.size,4,none⟩ (.int .i64 (n:Int))):=
 h.turn (Chg.put (Chg.refl _ _) _) (h.1.word n)
theorem SAp.tx (h:SAp w s k t v) (x:Str):SAp w { s with text:=x } k t (v.setCell ⟨w.heap.size,0,none⟩ (.string (S x))):=
 h.turn (Chg.put (Chg.refl _ _) _) (h.1.text x)
theorem d6s (tx:Str) (jn gl:Bool) (cp:Int) (wd:Nat) (t:Str) (w:World) (hc:0<=cp/\cp<=2) (hw:wd<=tx.length) (hl:tx.length<=2^29) (ht:t.length<=2^29) :
 Cz 339 #[stV ⟨tx,jn,gl,cp,wd⟩,.agg #[.int .i64 4,.string (S t)]] w λe w'=>e=.returned (stV (P.apply ⟨tx,jn,gl,cp,wd⟩ 4 t))/\Bl w w':=by
 have HN:=qh (SAp.new w ⟨tx,jn,gl,cp,wd⟩ 4 t)
 have j1:¬9223372036854775807<tx.length+t.length:=by omega
 have j2:tx.length+t.length<=9223372036854775807:=by omega
 go_enter func339,ntmps339
 go_wp2
 refine bodyPost_ret (v:=stV (P.apply ⟨tx,jn,gl,cp,wd⟩ 4 t)) (by simp [results,results339,go_sem,P.apply,P.a2h]) rfl ⟨rfl,?_⟩
 repeat (refine Below.setCell ?_ (by first|(simp;done)|(simp;omega)) _)
 exact (((Below.refl w.heap.size w).alloc lZ _).alloc sZ _).alloc (by simp;omega) _
theorem d5a (tx:Str) (jn gl:Bool) (cp:Int) (wd:Nat) (t:Str) (w:World) (hc:0<=cp/\cp<=2) (hw:wd<=tx.length) (hl:tx.length<=2^29) (ht:t.length<=2^29) :
 Cz 339 #[stV ⟨tx,jn,gl,cp,wd⟩,.agg #[.int .i64 6,.string (S t)]] w λe w'=>e=.returned (stV (P.apply ⟨tx,jn,gl,cp,wd⟩ 6 t))/\Bl w w':=by
 have HN:=qh (SAp.new w ⟨tx,jn,gl,cp,wd⟩ 6 t)
 have j1:¬9223372036854775807<tx.length+t.length:=by omega
 have j2:tx.length+t.length<=9223372036854775807:=by omega
 go_enter func339,ntmps339
 go_wp2
 refine bodyPost_ret (v:=stV (P.apply ⟨tx,jn,gl,cp,wd⟩ 6 t)) (by simp [results,results339,go_sem,P.apply,P.a2h]) rfl ⟨rfl,?_⟩
 repeat (refine Below.setCell ?_ (by first|(simp;done)|(simp;omega)) _)
 exact (((Below.refl w.heap.size w).alloc lZ _).alloc sZ _).alloc (by simp;omega) _
theorem d6x (tx:Str) (jn gl:Bool) (cp:Int) (wd:Nat) (t:Str) (w:World) (hc:0<=cp/\cp<=2) (hw:wd<=tx.length) (hl:tx.length<=2^29) (ht:t.length<=2^29) :
 Cz 339 #[stV ⟨tx,jn,gl,cp,wd⟩,.agg #[.int .i64 7,.string (S t)]] w λe w'=>e=.returned (stV (P.apply ⟨tx,jn,gl,cp,wd⟩ 7 t))/\Bl w w':=by
 have HN:=qh (SAp.new w ⟨tx,jn,gl,cp,wd⟩ 7 t)
 have j1:¬9223372036854775807<tx.length+t.length:=by omega
 have j2:tx.length+t.length<=9223372036854775807:=by omega
 go_enter func339,ntmps339
 go_wp2
 refine bodyPost_ret (v:=stV (P.apply ⟨tx,jn,gl,cp,wd⟩ 7 t)) (by simp [results,results339,go_sem,P.apply,P.a2h]) rfl ⟨rfl,?_⟩
 repeat (refine Below.setCell ?_ (by first|(simp;done)|(simp;omega)) _)
 exact (((Below.refl w.heap.size w).alloc lZ _).alloc sZ _).alloc (by simp;omega) _
theorem d2w (tx:Str) (jn gl:Bool) (cp:Int) (wd:Nat) (t:Str) (w:World) (hc:0<=cp/\cp<=2) (hw:wd<=tx.length) (hl:tx.length<=2^29) (ht:t.length<=2^29) :
 Cz 339 #[stV ⟨tx,jn,gl,cp,wd⟩,.agg #[.int .i64 8,.string (S t)]] w λe w'=>e=.returned (stV (P.apply ⟨tx,jn,gl,cp,wd⟩ 8 t))/\Bl w w':=by
 have HN:=qh (SAp.new w ⟨tx,jn,gl,cp,wd⟩ 8 t)
 have j1:¬9223372036854775807<tx.length+t.length:=by omega
 have j2:tx.length+t.length<=9223372036854775807:=by omega
 go_enter func339,ntmps339
 go_wp2
 refine bodyPost_ret (v:=stV (P.apply ⟨tx,jn,gl,cp,wd⟩ 8 t)) (by simp [results,results339,go_sem,P.apply,P.a2h]) rfl ⟨rfl,?_⟩
 repeat (refine Below.setCell ?_ (by first|(simp;done)|(simp;omega)) _)
 exact (((Below.refl w.heap.size w).alloc lZ _).alloc sZ _).alloc (by simp;omega) _
theorem d7c (tx:Str) (jn gl:Bool) (cp:Int) (wd:Nat) (t:Str) (w:World) (hc:0<=cp/\cp<=2) (hw:wd<=tx.length) (hl:tx.length<=2^29) (ht:t.length<=2^29) :
 Cz 339 #[stV ⟨tx,jn,gl,cp,wd⟩,.agg #[.int .i64 9,.string (S t)]] w λe w'=>e=.returned (stV (P.apply ⟨tx,jn,gl,cp,wd⟩ 9 t))/\Bl w w':=by
 have HN:=qh (SAp.new w ⟨tx,jn,gl,cp,wd⟩ 9 t)
 have j1:¬9223372036854775807<tx.length+t.length:=by omega
 have j2:tx.length+t.length<=9223372036854775807:=by omega
 go_enter func339,ntmps339
 go_wp2
 refine bodyPost_ret (v:=stV (P.apply ⟨tx,jn,gl,cp,wd⟩ 9 t)) (by simp [results,results339,go_sem,P.apply,P.a2h]) rfl ⟨rfl,?_⟩
 repeat (refine Below.setCell ?_ (by first|(simp;done)|(simp;omega)) _)
 exact (((Below.refl w.heap.size w).alloc lZ _).alloc sZ _).alloc (by simp;omega) _
theorem d6i (tx:Str) (jn gl:Bool) (cp:Int) (wd:Nat) (t:Str) (w:World) (hc:0<=cp/\cp<=2) (hw:wd<=tx.length) (hl:tx.length<=2^29) (ht:t.length<=2^29) :
 Cz 339 #[stV ⟨tx,jn,gl,cp,wd⟩,.agg #[.int .i64 1,.string (S t)]] w λe w'=>e=.returned (stV (P.apply ⟨tx,jn,gl,cp,wd⟩ 1 t))/\Bl w w':=by
 have HN:=qh (SAp.new w ⟨tx,jn,gl,cp,wd⟩ 1 t)
 go_enter func339,ntmps339
 go_wp2_with fail
 refine (d0c ⟨tx,jn,gl,cp,wd⟩ t _ hc (by simp only;omega) oZ).mono ?_
 rintro e v1 ⟨rfl,hb⟩
 have HS:=qh (HN.o.below hb)
 clear hb HN
 have HA:Hq (P.apply ⟨tx,jn,gl,cp,wd⟩ 1 t=⟨(P.put ⟨tx,jn,gl,cp,wd⟩ t).text,false,false,(P.put ⟨tx,jn,gl,cp,wd⟩ t).cap,(P.put ⟨tx,jn,gl,cp,wd⟩ t).word⟩):=⟨rfl⟩
 generalize P.put ⟨tx,jn,gl,cp,wd⟩ t=r at *
 obtain⟨rt,rj,rg,rc,rw⟩:=r
 obtain⟨⟨⟨a0,a1,a2,a3,a4⟩,⟨f0,f1,f2,f3,f4⟩,hlt⟩,⟨k0,k1,hlk⟩,⟨⟨b0,b1,b2,b3,b4⟩,⟨g0,g1,g2,g3,g4⟩,hlr⟩,_⟩:=HS.o
 simp only at a0 a1 a2 a3 a4 b0 b1 b2 b3 b4
 go_upto_region 5 with fail
 have HS2:=qh (HS.o.state rt rj rg rc rw)
 clear HS
 generalize (World.setCell _ _ _)=v2 at *
 clear a0 a1 a2 a3 a4 hlt f0 f1 f2 f3 f4 k0 k1 hlk b0 b1 b2 b3 b4 hlr g0 g1 g2 g3 g4
 obtain⟨⟨⟨a0,a1,a2,a3,a4⟩,⟨f0,f1,f2,f3,f4⟩,hlt⟩,⟨k0,k1,hlk⟩,⟨⟨b0,b1,b2,b3,b4⟩,⟨g0,g1,g2,g3,g4⟩,hlr⟩,_⟩:=HS2.o
 have HT:=qh (HS2.o.jg false false)
 go_upto_region 41 with fail
 generalize (World.setCell _ _ _)=v9 at *
 clear a0 a1 a2 a3 a4 hlt f0 f1 f2 f3 f4 k0 k1 hlk b0 b1 b2 b3 b4 hlr g0 g1 g2 g3 g4
 obtain⟨⟨⟨a0,a1,a2,a3,a4⟩,⟨f0,f1,f2,f3,f4⟩,hlt⟩,⟨k0,k1,hlk⟩,⟨⟨b0,b1,b2,b3,b4⟩,⟨g0,g1,g2,g3,g4⟩,hlr⟩,_⟩:=HT.o
 simp only at a0 a1 a2 a3 a4 b0 b1 b2 b3 b4
 go_wp2
 refine bodyPost_ret (v:=stV ⟨rt,false,false,rc,rw⟩) (by simp [results,results339,go_sem,b0,b1,b2,b3,b4]) rfl ⟨by rw [HA.o],?_⟩
 repeat (refine Below.setCell ?_ (by first|(simp;done)|(simp;omega)) _)
 exact HT.o.2.2.2
theorem d3x (tx:Str) (jn gl:Bool) (cp:Int) (wd:Nat) (t:Str) (w:World) (hc:0<=cp/\cp<=2) (hw:wd<=tx.length) (hl:tx.length<=2^29) (ht:t.length<=2^29) :
 Cz 339 #[stV ⟨tx,jn,gl,cp,wd⟩,.agg #[.int .i64 3,.string (S t)]] w λe w'=>e=.returned (stV (P.apply ⟨tx,jn,gl,cp,wd⟩ 3 t))/\Bl w w':=by
 have HN:=qh (SAp.new w ⟨tx,jn,gl,cp,wd⟩ 3 t)
 go_enter func339,ntmps339
 go_wp2_with fail
 refine (d0c ⟨tx,jn,gl,cp,wd⟩ t _ hc (by simp only;omega) oZ).mono ?_
 rintro e v1 ⟨rfl,hb⟩
 have HS:=qh (HN.o.below hb)
 clear hb HN
 have HA:Hq (P.apply ⟨tx,jn,gl,cp,wd⟩ 3 t=⟨(P.put ⟨tx,jn,gl,cp,wd⟩ t).text,true,false,(P.put ⟨tx,jn,gl,cp,wd⟩ t).cap,(P.put ⟨tx,jn,gl,cp,wd⟩ t).word⟩):=⟨rfl⟩
 generalize P.put ⟨tx,jn,gl,cp,wd⟩ t=r at *
 obtain⟨rt,rj,rg,rc,rw⟩:=r
 obtain⟨⟨⟨a0,a1,a2,a3,a4⟩,⟨f0,f1,f2,f3,f4⟩,hlt⟩,⟨k0,k1,hlk⟩,⟨⟨b0,b1,b2,b3,b4⟩,⟨g0,g1,g2,g3,g4⟩,hlr⟩,_⟩:=HS.o
 simp only at a0 a1 a2 a3 a4 b0 b1 b2 b3 b4
 go_upto_region 5 with fail
 have HS2:=qh (HS.o.state rt rj rg rc rw)
 clear HS
 generalize (World.setCell _ _ _)=v2 at *
 clear a0 a1 a2 a3 a4 hlt f0 f1 f2 f3 f4 k0 k1 hlk b0 b1 b2 b3 b4 hlr g0 g1 g2 g3 g4
 obtain⟨⟨⟨a0,a1,a2,a3,a4⟩,⟨f0,f1,f2,f3,f4⟩,hlt⟩,⟨k0,k1,hlk⟩,⟨⟨b0,b1,b2,b3,b4⟩,⟨g0,g1,g2,g3,g4⟩,hlr⟩,_⟩:=HS2.o
 have HT:=qh (HS2.o.jg true false)
 go_upto_region 41 with fail
 generalize (World.setCell _ _ _)=v9 at *
 clear a0 a1 a2 a3 a4 hlt f0 f1 f2 f3 f4 k0 k1 hlk b0 b1 b2 b3 b4 hlr g0 g1 g2 g3 g4
 obtain⟨⟨⟨a0,a1,a2,a3,a4⟩,⟨f0,f1,f2,f3,f4⟩,hlt⟩,⟨k0,k1,hlk⟩,⟨⟨b0,b1,b2,b3,b4⟩,⟨g0,g1,g2,g3,g4⟩,hlr⟩,_⟩:=HT.o
 simp only at a0 a1 a2 a3 a4 b0 b1 b2 b3 b4
 go_wp2
 refine bodyPost_ret (v:=stV ⟨rt,true,false,rc,rw⟩) (by simp [results,results339,go_sem,b0,b1,b2,b3,b4]) rfl ⟨by rw [HA.o],?_⟩
 repeat (refine Below.setCell ?_ (by first|(simp;done)|(simp;omega)) _)
 exact HT.o.2.2.2
theorem d4i (tx:Str) (jn gl:Bool) (cp:Int) (wd:Nat) (t:Str) (w:World) (hc:0<=cp/\cp<=2) (hw:wd<=tx.length) (hl:tx.length<=2^29) (ht:t.length<=2^29) :
 Cz 339 #[stV ⟨tx,jn,gl,cp,wd⟩,.agg #[.int .i64 5,.string (S t)]] w λe w'=>e=.returned (stV (P.apply ⟨tx,jn,gl,cp,wd⟩ 5 t))/\Bl w w':=by
 cases gl
 .skip;have HN:=qh (SAp.new w ⟨tx,jn,false,cp,wd⟩ 5 t)
  go_enter func339,ntmps339
  go_wp2_with fail
  refine (d0c ⟨tx,jn,false,cp,wd⟩ t _ hc (by simp only;omega) oZ).mono ?_;rintro e v1 ⟨rfl,hb⟩;have HS:=qh (HN.o.below hb);clear hb HN;have HA:Hq (P.apply ⟨tx,jn,false,cp,wd⟩ 5 t=⟨(P.put ⟨tx,jn,false,cp,wd⟩ t).text,false,true,(P.put ⟨tx,jn,false,cp,wd⟩ t).cap,(P.put ⟨tx,jn,false,cp,wd⟩ t).word⟩):=⟨rfl⟩;generalize P.put ⟨tx,jn,false,cp,wd⟩ t=r at *;obtain⟨rt,rj,rg,rc,rw⟩:=r;obtain⟨⟨⟨a0,a1,a2,a3,a4⟩,⟨f0,f1,f2,f3,f4⟩,hlt⟩,⟨k0,k1,hlk⟩,⟨⟨b0,b1,b2,b3,b4⟩,⟨g0,g1,g2,g3,g4⟩,hlr⟩,_⟩:=HS.o;simp only at a0 a1 a2 a3 a4 b0 b1 b2 b3 b4
  go_upto_region 13 with fail
  have HS2:=qh (HS.o.state rt rj rg rc rw);clear HS;generalize (World.setCell _ _ _)=v2 at *;clear a0 a1 a2 a3 a4 hlt f0 f1 f2 f3 f4 k0 k1 hlk b0 b1 b2 b3 b4 hlr g0 g1 g2 g3 g4;obtain⟨⟨⟨a0,a1,a2,a3,a4⟩,⟨f0,f1,f2,f3,f4⟩,hlt⟩,⟨k0,k1,hlk⟩,⟨⟨b0,b1,b2,b3,b4⟩,⟨g0,g1,g2,g3,g4⟩,hlr⟩,_⟩:=HS2.o;have HT:=qh (HS2.o.jg false true)
  go_upto_region 41 with fail
  generalize (World.setCell _ _ _)=v9 at *;clear a0 a1 a2 a3 a4 hlt f0 f1 f2 f3 f4 k0 k1 hlk b0 b1 b2 b3 b4 hlr g0 g1 g2 g3 g4;obtain⟨⟨⟨a0,a1,a2,a3,a4⟩,⟨f0,f1,f2,f3,f4⟩,hlt⟩,⟨k0,k1,hlk⟩,⟨⟨b0,b1,b2,b3,b4⟩,⟨g0,g1,g2,g3,g4⟩,hlr⟩,_⟩:=HT.o;simp only at a0 a1 a2 a3 a4 b0 b1 b2 b3 b4;go_wp2;refine bodyPost_ret (v:=stV ⟨rt,false,true,rc,rw⟩) (by simp [results,results339,go_sem,b0,b1,b2,b3,b4]) rfl ⟨by rw [HA.o],?_⟩;exact e0i
 .skip;have HN:=qh (SAp.new w ⟨tx,true,true,cp,wd⟩ 5 t)
  go_enter func339,ntmps339
  go_wp2_with fail
  refine (d0c ⟨tx,true,true,cp,wd⟩ t _ hc (by simp only;omega) oZ).mono ?_;rintro e v1 ⟨rfl,hb⟩;have HS:=qh (HN.o.below hb);clear hb HN;have HA:Hq (P.apply ⟨tx,jn,true,cp,wd⟩ 5 t=⟨(P.put ⟨tx,true,true,cp,wd⟩ t).text,false,true,(P.put ⟨tx,true,true,cp,wd⟩ t).cap,wd⟩):=⟨rfl⟩;generalize P.put ⟨tx,true,true,cp,wd⟩ t=r at *;obtain⟨rt,rj,rg,rc,rw⟩:=r;obtain⟨⟨⟨a0,a1,a2,a3,a4⟩,⟨f0,f1,f2,f3,f4⟩,hlt⟩,⟨k0,k1,hlk⟩,⟨⟨b0,b1,b2,b3,b4⟩,⟨g0,g1,g2,g3,g4⟩,hlr⟩,_⟩:=HS.o;simp only at a0 a1 a2 a3 a4 b0 b1 b2 b3 b4
  go_upto_region 13 with fail
  have HS2:=qh (HS.o.state rt rj rg rc rw);clear HS;generalize (World.setCell _ _ _)=v2 at *;clear a0 a1 a2 a3 a4 hlt f0 f1 f2 f3 f4 k0 k1 hlk b0 b1 b2 b3 b4 hlr g0 g1 g2 g3 g4;obtain⟨⟨⟨a0,a1,a2,a3,a4⟩,⟨f0,f1,f2,f3,f4⟩,hlt⟩,⟨k0,k1,hlk⟩,⟨⟨b0,b1,b2,b3,b4⟩,⟨g0,g1,g2,g3,g4⟩,hlr⟩,_⟩:=HS2.o;have HT:=qh ((HS2.o.wd wd).jg false true)
  go_upto_region 41 with fail
  generalize (World.setCell _ _ _)=v9 at *;clear a0 a1 a2 a3 a4 hlt f0 f1 f2 f3 f4 k0 k1 hlk b0 b1 b2 b3 b4 hlr g0 g1 g2 g3 g4;obtain⟨⟨⟨a0,a1,a2,a3,a4⟩,⟨f0,f1,f2,f3,f4⟩,hlt⟩,⟨k0,k1,hlk⟩,⟨⟨b0,b1,b2,b3,b4⟩,⟨g0,g1,g2,g3,g4⟩,hlr⟩,_⟩:=HT.o;simp only at a0 a1 a2 a3 a4 b0 b1 b2 b3 b4;go_wp2;refine bodyPost_ret (v:=stV ⟨rt,false,true,rc,wd⟩) (by simp [results,results339,go_sem,b0,b1,b2,b3,b4]) rfl ⟨by rw [HA.o],?_⟩;exact e0i
theorem d4v (tx:Str) (jn gl:Bool) (cp:Int) (wd:Nat) (t:Str) (w:World) (hc:0<=cp/\cp<=2) (hw:wd<=tx.length) (hl:tx.length<=2^29) (ht:t.length<=2^29) :
 Cz 339 #[stV ⟨tx,jn,gl,cp,wd⟩,.agg #[.int .i64 2,.string (S t)]] w λe w'=>e=.returned (stV (P.apply ⟨tx,jn,gl,cp,wd⟩ 2 t))/\Bl w w':=by
 have HN:=qh (SAp.new w ⟨tx,jn,gl,cp,wd⟩ 2 t)
 have j1:¬9223372036854775807<tx.length+t.length:=by omega
 have j2:tx.length+t.length<=9223372036854775807:=by omega
 have i1:(wd:Int)<=(tx.length:Int):=by omega
 have i0:(0:Int)<=(wd:Int):=by omega
 have HJL:Hq ((P.a2f (tx.drop wd) t).2=true->(P.a2f (tx.drop wd) t).1.length<=24):=⟨λh=>(P.a4m h).1⟩
 obtain⟨js,hjs⟩:∃js,P.a2f (tx.drop wd) t=js:=⟨_,rfl⟩
 obtain⟨jt,jo⟩:=js
 have HJ:=qh hjs
 rw [hjs]at HJL
 have HA:=qh (show P.apply ⟨tx,jn,gl,cp,wd⟩ 2 t=⟨if jo then tx.take wd++jt else tx++t,false,false,cp,wd⟩ by
  have h:P.apply ⟨tx,jn,gl,cp,wd⟩ 2 t=⟨if (P.a2f (tx.drop wd) t).2 then tx.take wd++(P.a2f (tx.drop wd) t).1 else tx++t,false,false,cp,wd⟩:=rfl;rw [h,hjs])
 have HC:=qh (λv=>(a9o (tx.drop wd) t v (by rw [List.length_drop];omega) oZ).mono (R':=λe v'=>e=.returned (.tuple #[.string (S jt),.bool jo])/\v'=v) (by rintro e v' ⟨rfl,rfl⟩;rw [HJ.o];exact⟨rfl,rfl⟩))
 clear hjs
 go_enter func339,ntmps339
 go_upto_region 22 with fail
 go_cut [7,8] (λx y wx=>x=.string (S jt)/\y=.bool jo/\SAp w ⟨tx,jn,gl,cp,wd⟩ 2 t wx)
 case first=>
  go_quiet ((go_at_call 174;exact Calls.quiet_of_same (HC.o _)))
  go_wp2;go_meet;exact⟨rfl,rfl,HN.o.below (below_drewN bZ _)⟩
 case rest=>
 obtain⟨rfl,rfl,hs⟩:=hcut
 have HS2:=qh hs
 clear hs HN HC
 generalize hww:wc=v2 at *
 clear hww
 obtain⟨⟨⟨a0,a1,a2,a3,a4⟩,⟨f0,f1,f2,f3,f4⟩,hlt⟩,⟨k0,k1,hlk⟩,⟨⟨b0,b1,b2,b3,b4⟩,⟨g0,g1,g2,g3,g4⟩,hlr⟩,_⟩:=HS2.o
 cases jo
 .have HT:=qh ((HS2.o.tx (tx++t)).jg false false)
  go_upto_region 41 with fail
  generalize (World.setCell _ _ _)=v9 at *;clear a0 a1 a2 a3 a4 hlt f0 f1 f2 f3 f4 k0 k1 hlk b0 b1 b2 b3 b4 hlr g0 g1 g2 g3 g4;obtain⟨⟨⟨a0,a1,a2,a3,a4⟩,⟨f0,f1,f2,f3,f4⟩,hlt⟩,⟨k0,k1,hlk⟩,⟨⟨b0,b1,b2,b3,b4⟩,⟨g0,g1,g2,g3,g4⟩,hlr⟩,_⟩:=HT.o;simp only at a0 a1 a2 a3 a4 b0 b1 b2 b3 b4;go_wp2;refine bodyPost_ret (v:=stV ⟨tx++t,false,false,cp,wd⟩) (by simp [results,results339,go_sem,b0,b1,b2,b3,b4]) rfl ⟨by rw [HA.o];rfl,?_⟩;exact e0i
 .have hj24:=HJL.o rfl;have j3:¬9223372036854775807<wd+jt.length:=by simp only at hj24;omega
  have j4:wd+jt.length<=9223372036854775807:=by simp only at hj24;omega
  have j5:min wd tx.length=wd:=by omega
  have HT:=qh ((HS2.o.tx (tx.take wd++jt)).jg false false)
  go_upto_region 41 with fail
  generalize (World.setCell _ _ _)=v9 at *;clear a0 a1 a2 a3 a4 hlt f0 f1 f2 f3 f4 k0 k1 hlk b0 b1 b2 b3 b4 hlr g0 g1 g2 g3 g4;obtain⟨⟨⟨a0,a1,a2,a3,a4⟩,⟨f0,f1,f2,f3,f4⟩,hlt⟩,⟨k0,k1,hlk⟩,⟨⟨b0,b1,b2,b3,b4⟩,⟨g0,g1,g2,g3,g4⟩,hlr⟩,_⟩:=HT.o;simp only at a0 a1 a2 a3 a4 b0 b1 b2 b3 b4;go_wp2;refine bodyPost_ret (v:=stV ⟨tx.take wd++jt,false,false,cp,wd⟩) (by simp [results,results339,go_sem,b0,b1,b2,b3,b4]) rfl ⟨by rw [HA.o];rfl,?_⟩;exact e0i
theorem d2j (tx:Str) (jn gl:Bool) (cp:Int) (wd:Nat) (t:Str) (w:World) (hc:0<=cp/\cp<=2) (hw:wd<=tx.length) (hl:tx.length<=2^29) (ht:t.length<=2^29) :
 Cz 339 #[stV ⟨tx,jn,gl,cp,wd⟩,.agg #[.int .i64 10,.string (S t)]] w λe w'=>e=.returned (stV (P.apply ⟨tx,jn,gl,cp,wd⟩ 10 t))/\Bl w w':=by
 have i1:(wd:Int)<=(tx.length:Int):=by omega
 have i0:(0:Int)<=(wd:Int):=by omega
 have HN:=qh (SAp.new w ⟨tx,jn,gl,cp,wd⟩ 10 t);have hcl:(P.a3r (tx.drop wd) 1).length=tx.length-wd:=by rw [P.b3f,List.length_drop]
 have j3:¬9223372036854775807<wd+(P.a3r (tx.drop wd) 1).length:=by omega
 have j4:wd+(P.a3r (tx.drop wd) 1).length<=9223372036854775807:=by omega
 have j5:min wd tx.length=wd:=by omega
 have HDL:=qh (show (tx.drop wd).length<=2^40 by rw [List.length_drop];omega);have HA:Hq (P.apply ⟨tx,jn,gl,cp,wd⟩ 10 t=⟨tx.take wd++P.a3r (tx.drop wd) 1,jn,gl,cp,wd⟩):=⟨rfl⟩;clear hcl;go_enter func339,ntmps339;go_upto_region 40 with fail;refine Left.region [13] (S:=SAp w ⟨tx,jn,gl,cp,wd⟩ 10 t) kZ (HN.o.below bZ.drew) (λhS0=>?_);clear HN;generalize (World.drew _)=v0 at *;have HS0:=qh hS0;refine lk12 0 hS0 ?_;refine lk12 1 hS0 ?_;refine lk12 2 hS0 ?_;refine lk12 3 hS0 ?_;refine lk12 4 hS0 ?_;refine lk12 5 hS0 ?_;refine lk12 6 hS0 ?_;refine lk12 7 hS0 ?_;refine lk12 8 hS0 ?_;refine lk12 9 hS0 ?_;refine lrd 10 λK hK=>?_;go_simp;refine (c6o (tx.drop wd) 1 _ oZ HDL.o).mono ?_;rintro e v1 ⟨rfl,hb⟩;have HS1:=qh (HS0.o.below hb);refine a1r hK dZ HS1.o (λhS1=>?_);clear hK K hb HS0 hS0;refine zm0 ?_;refine lk12 11 hS1 ?_;refine lk12 12 hS1 ?_;refine lrd 13 λK hK=>?_;obtain⟨⟨⟨a0,a1,a2,a3,a4⟩,⟨f0,f1,f2,f3,f4⟩,hlt⟩,⟨k0,k1,hlk⟩,⟨⟨b0,b1,b2,b3,b4⟩,⟨g0,g1,g2,g3,g4⟩,hlr⟩,_⟩:=HS1.o;go_simp;refine a2p hK dZ ?_;clear hK K hS1;refine zm0 ?_;refine Left.done kZ ?_ _;have HT:=qh (HS1.o.tx (tx.take wd++P.a3r (tx.drop wd) 1));go_upto_region 41 with fail;generalize (World.setCell _ _ _)=v9 at *;clear a0 a1 a2 a3 a4 hlt f0 f1 f2 f3 f4 k0 k1 hlk b0 b1 b2 b3 b4 hlr g0 g1 g2 g3 g4;obtain⟨⟨⟨a0,a1,a2,a3,a4⟩,⟨f0,f1,f2,f3,f4⟩,hlt⟩,⟨k0,k1,hlk⟩,⟨⟨b0,b1,b2,b3,b4⟩,⟨g0,g1,g2,g3,g4⟩,hlr⟩,_⟩:=HT.o;simp only at a0 a1 a2 a3 a4 b0 b1 b2 b3 b4;go_wp2;refine bodyPost_ret (v:=stV ⟨tx.take wd++P.a3r (tx.drop wd) 1,jn,gl,cp,wd⟩) (by simp [results,results339,go_sem,b0,b1,b2,b3,b4]) rfl ⟨by rw [HA.o],?_⟩;repeat (refine Below.setCell ?_ (by first|(simp;done)|(simp;omega)) _)
 exact HT.o.2.2.2
end Go.Proofs.YtggfdnopminemaaGreatDoor
