/- Walks: an atom applied to a state in its box (program). -/
import Derived.Test.YtggfdnopminemaaGreatDoorZt
import Derived.Test.YtggfdnopminemaaGreatDoorFmtI2
set_option linter.all false
namespace Go.Proofs.YtggfdnopminemaaGreatDoor
open Go Go.RowKit
set_option maxHeartbeats 8000000
set_option maxRecDepth 100000
theorem stEnd (b:Nat) (tx:Str) (jn gl:Bool) (cp:Int) (wd:Nat) (t:Str) (w:World) (hb:a0u b ⟨tx,jn,gl,cp,wd⟩ w) (hw:wd≤tx.length) (hl:tx.length≤2^29) (ht:t.length≤2^29) :
 Calls Tryz.prog 364 #[.pointer (some ⟨b,0,none⟩),.string (S t)] w (a4m b ⟨P.endS ⟨tx,jn,gl,cp,wd⟩ t,jn,gl,cp,wd⟩ w):=by
 have H0:=qh (show StC b ⟨tx,jn,gl,cp,wd⟩ w w.drew from StC.below ⟨hb,Chg.refl _ _⟩ bZ.drew)
 have j1:¬9223372036854775807<tx.length+t.length:=by omega
 have i1:(wd:Int)≤(tx.length:Int):=by omega
 have i0:(0:Int)≤(wd:Int):=by omega
 have HJL:=qh (show (P.a4k (tx.drop wd) t).2=true→(P.a4k (tx.drop wd) t).1.length≤24 from fun h=>(P.a8a h).1)
 obtain⟨js,hjs⟩:∃js,P.a4k (tx.drop wd) t=js:=⟨_,rfl⟩
 obtain⟨jt,jo⟩:=js
 have HJ:=qh hjs
 rw [hjs]at HJL
 have HA:=qh (show P.endS ⟨tx,jn,gl,cp,wd⟩ t=if jo then tx.take wd++jt else tx++t by
  have h:P.endS ⟨tx,jn,gl,cp,wd⟩ t=if (P.a4k (tx.drop wd) t).2 then tx.take wd++(P.a4k (tx.drop wd) t).1 else tx++t:=rfl;rw [h,hjs])
 have HDL:=qh (show (tx.drop wd).length≤2^30 by rw [List.length_drop];omega)
 clear hjs hb
 go_enter Tryz.func364,Tryz.ntmps364
 go_upto_region 0 with fail
 refine wp_region_held_drew (S:=StC b ⟨tx,jn,gl,cp,wd⟩ w) kZ H0.o (fun hS0=>?_)
 clear H0
 generalize (World.drew _)=v0 at *
 have HS0:=qh hS0
 refine tk7 0 hS0 ?_
 refine tk7 1 hS0 ?_
 refine tk7 2 hS0 ?_
 refine tk7 3 hS0 ?_
 refine tk7 4 hS0 ?_
 refine tk7 5 hS0 ?_
 refine tk7 6 hS0 ?_
 refine tk7 7 hS0 ?_
 refine tk7 8 hS0 ?_
 refine tk7 9 hS0 ?_
 refine trd 10 fun K hK=>?_
 go_simp
 refine (a6m (tx.drop wd) t _ HDL.o oZ).mono ?_
 rintro e v1 ⟨rfl,hb⟩
 rw [HJ.o]
 have HS1:=qh (HS0.o.below hb)
 refine hK.out _ _ HS1.o (fun hS1=>?_)
 clear hK K hb HS0 hS0
 try simp only []
 refine tk7 11 hS1 ?_
 refine tk7 12 hS1 ?_
 refine tk7 13 hS1 ?_
 refine tk7 14 hS1 ?_
 refine tk7 15 hS1 ?_
 refine wpAnyH_done kZ ?_ _
 clear hS1
 obtain⟨⟨a0,a1,a2,a3,a4⟩,⟨f0,f1,f2,f3,f4⟩,hlt⟩:=HS1.o.1
 simp only at a0 a1 a2 a3 a4
 cases jo
 ·have HE:=qh (HS1.o.text (tx++t));go_wp2
  first|go_end0|(refine bodyPost_ret (results_none rfl _ _ _) rfl ?_)
  exact⟨rfl,by rw [HA.o];exact HE.o.1,HE.o.2⟩
 ·have hj24:=HJL.o rfl;have j3:¬9223372036854775807<wd+jt.length:=by simp only at hj24;omega
  have j5:min wd tx.length=wd:=by omega
  have HE:=qh ((HS1.o.text (tx.take wd++jt)).below bZ.drew)
  go_upto_region 2 with fail
  go_region
  all_goals
   go_wp2
   first|go_end0|(refine bodyPost_ret (results_none rfl _ _ _) rfl ?_)
   exact⟨rfl,by rw [HA.o];exact HE.o.1,HE.o.2⟩
def SIn (b:Nat) (s:P.St) (k:Int) (t:Str) (w v:World):Prop:=a0u b s v∧b0y w.heap.size k t v∧Chg (fun x=>x=b) w v∧b<w.heap.size
theorem SIn.turn {b:Nat} {s s':P.St} {k:Int} {t:Str} {w v v':World} (h:SIn b s k t w v) (hc:Chg (fun x=>x=b) v v') (h1:a0u b s' v'):SIn b s' k t w v':=
 ⟨h1,h.2.1.a0c hc (by have:=h.2.2.2;omega),h.2.2.1.trans hc,h.2.2.2⟩
theorem SIn.below {b:Nat} {s:P.St} {k:Int} {t:Str} {w v v':World} (h:SIn b s k t w v) (hb:Below v.heap.size v v'):SIn b s k t w v':=h.turn (Below.chg hb _) (h.1.below hb)
theorem SIn.new {b:Nat} {s:P.St} (k:Int) (t:Str) {w:World} (h:a0u b s w):SIn b s k t w (w.alloc (.cells #[.int .i64 k,.string (S t)] 177)):=
 ⟨h.below (bZ.alloc lZ _),b0y.new k t _ w,(Chg.refl _ _).alloc _,h.2.2⟩
theorem SIn.text {b:Nat} {s:P.St} {k:Int} {t:Str} {w v:World} (h:SIn b s k t w v) (x:Str):SIn b { s with text:=x } k t w (v.setCell ⟨b,0,none⟩ (.string (S x))):=h.turn (Chg.put (Chg.refl _ _) _) (h.1.text x)
theorem SIn.cap {b:Nat} {s:P.St} {k:Int} {t:Str} {w v:World} (h:SIn b s k t w v) (x:Int):SIn b { s with cap:=x } k t w (v.setCell ⟨b,3,none⟩ (.int .i64 x)):=h.turn (Chg.put (Chg.refl _ _) _) (h.1.cap x)
theorem SIn.jg {b:Nat} {s:P.St} {k:Int} {t:Str} {w v:World} (h:SIn b s k t w v) (jn gl:Bool):SIn b { s with a0t:=jn,a3j:=gl } k t w ((v.setCell ⟨b,1,none⟩ (.bool jn)).setCell ⟨b,2,none⟩ (.bool gl)):=
 h.turn ((Chg.put (Chg.refl _ _) _).put _) ((h.1.a0t jn).a3j gl)
theorem d2a (b:Nat) (tx:Str) (jn gl:Bool) (cp:Int) (wd:Nat) (t:Str) (w:World) (hb:a0u b ⟨tx,jn,gl,cp,wd⟩ w) (hc:0≤cp∧cp≤2) (_hw:wd≤tx.length) (hl:tx.length≤2^29) (ht:t.length≤2^29) :
 Calls Tryz.prog 334 #[.pointer (some ⟨b,0,none⟩),.agg #[.int .i64 1,.string (S t)]] w (a4m b (P.apply ⟨tx,jn,gl,cp,wd⟩ 1 t) w):=by
 have H0:=qh (SIn.new 1 t hb)
 clear hb
 obtain⟨⟨⟨a0,a1,a2,a3,a4⟩,⟨f0,f1,f2,f3,f4⟩,hlt⟩,⟨k0,k1,hlk⟩,_,hbl⟩:=H0.o
 simp only at a0 a1 a2 a3 a4
 go_enter Tryz.func334,Tryz.ntmps334
 go_wp2_with fail
 refine (d2s b ⟨tx,jn,gl,cp,wd⟩ t _ H0.o.1 hc (by simp only;omega) oZ).mono ?_
 rintro e v1 ⟨rfl,hb1,hc1⟩
 have H1:=qh (H0.o.turn hc1 hb1)
 clear hb1 hc1 H0
 clear a0 a1 a2 a3 a4 f0 f1 f2 f3 f4 hlt k0 k1 hlk hbl
 have HA:=qh (show P.apply ⟨tx,jn,gl,cp,wd⟩ 1 t={ P.put ⟨tx,jn,gl,cp,wd⟩ t with a0t:=false,a3j:=false } from rfl)
 generalize P.put ⟨tx,jn,gl,cp,wd⟩ t=r at *
 obtain⟨rt,rj,rg,rc,rw⟩:=r
 obtain⟨⟨⟨a0,a1,a2,a3,a4⟩,⟨f0,f1,f2,f3,f4⟩,hlt⟩,⟨k0,k1,hlk⟩,_,hbl⟩:=H1.o
 simp only at a0 a1 a2 a3 a4
 go_wp2
 first|go_end0|(refine bodyPost_ret (results_none rfl _ _ _) rfl ?_)
 have h9:=H1.o.jg false false
 rw [HA.o]
 exact⟨rfl,h9.1,h9.2.2.1⟩
theorem d1f (b:Nat) (tx:Str) (jn gl:Bool) (cp:Int) (wd:Nat) (t:Str) (w:World) (hb:a0u b ⟨tx,jn,gl,cp,wd⟩ w) (hc:0≤cp∧cp≤2) (_hw:wd≤tx.length) (hl:tx.length≤2^29) (ht:t.length≤2^29) :
 Calls Tryz.prog 334 #[.pointer (some ⟨b,0,none⟩),.agg #[.int .i64 3,.string (S t)]] w (a4m b (P.apply ⟨tx,jn,gl,cp,wd⟩ 3 t) w):=by
 have H0:=qh (SIn.new 3 t hb)
 clear hb
 obtain⟨⟨⟨a0,a1,a2,a3,a4⟩,⟨f0,f1,f2,f3,f4⟩,hlt⟩,⟨k0,k1,hlk⟩,_,hbl⟩:=H0.o
 simp only at a0 a1 a2 a3 a4
 go_enter Tryz.func334,Tryz.ntmps334
 go_wp2_with fail
 refine (d2s b ⟨tx,jn,gl,cp,wd⟩ t _ H0.o.1 hc (by simp only;omega) oZ).mono ?_
 rintro e v1 ⟨rfl,hb1,hc1⟩
 have H1:=qh (H0.o.turn hc1 hb1)
 clear hb1 hc1 H0
 clear a0 a1 a2 a3 a4 f0 f1 f2 f3 f4 hlt k0 k1 hlk hbl
 have HA:=qh (show P.apply ⟨tx,jn,gl,cp,wd⟩ 3 t={ P.put ⟨tx,jn,gl,cp,wd⟩ t with a0t:=true,a3j:=false } from rfl)
 generalize P.put ⟨tx,jn,gl,cp,wd⟩ t=r at *
 obtain⟨rt,rj,rg,rc,rw⟩:=r
 obtain⟨⟨⟨a0,a1,a2,a3,a4⟩,⟨f0,f1,f2,f3,f4⟩,hlt⟩,⟨k0,k1,hlk⟩,_,hbl⟩:=H1.o
 simp only at a0 a1 a2 a3 a4
 go_wp2
 first|go_end0|(refine bodyPost_ret (results_none rfl _ _ _) rfl ?_)
 have h9:=H1.o.jg true false
 rw [HA.o]
 exact⟨rfl,h9.1,h9.2.2.1⟩
theorem d2w (b:Nat) (tx:Str) (jn gl:Bool) (cp:Int) (wd:Nat) (t:Str) (w:World) (hb:a0u b ⟨tx,jn,gl,cp,wd⟩ w) (hc:0≤cp∧cp≤2) (_hw:wd≤tx.length) (hl:tx.length≤2^29) (ht:t.length≤2^29) :
 Calls Tryz.prog 334 #[.pointer (some ⟨b,0,none⟩),.agg #[.int .i64 5,.string (S t)]] w (a4m b (P.apply ⟨tx,jn,gl,cp,wd⟩ 5 t) w):=by
 have H0:=qh (SIn.new 5 t hb)
 clear hb
 obtain⟨⟨⟨a0,a1,a2,a3,a4⟩,⟨f0,f1,f2,f3,f4⟩,hlt⟩,⟨k0,k1,hlk⟩,_,hbl⟩:=H0.o
 simp only at a0 a1 a2 a3 a4
 go_enter Tryz.func334,Tryz.ntmps334
 go_wp2_with fail
 refine (stGlue b ⟨tx,jn,gl,cp,wd⟩ t _ H0.o.1 hc (by simp only;omega) oZ).mono ?_
 rintro e v1 ⟨rfl,hb1,hc1⟩
 have H1:=qh (H0.o.turn hc1 hb1)
 clear hb1 hc1 H0
 clear a0 a1 a2 a3 a4 f0 f1 f2 f3 f4 hlt k0 k1 hlk hbl
 have HA:=qh (show P.apply ⟨tx,jn,gl,cp,wd⟩ 5 t={ P.a7j ⟨tx,jn,gl,cp,wd⟩ t with a0t:=false,a3j:=true } from rfl)
 generalize P.a7j ⟨tx,jn,gl,cp,wd⟩ t=r at *
 obtain⟨rt,rj,rg,rc,rw⟩:=r
 obtain⟨⟨⟨a0,a1,a2,a3,a4⟩,⟨f0,f1,f2,f3,f4⟩,hlt⟩,⟨k0,k1,hlk⟩,_,hbl⟩:=H1.o
 simp only at a0 a1 a2 a3 a4
 go_wp2
 first|go_end0|(refine bodyPost_ret (results_none rfl _ _ _) rfl ?_)
 have h9:=H1.o.jg false true
 rw [HA.o]
 exact⟨rfl,h9.1,h9.2.2.1⟩
theorem d2n (b:Nat) (tx:Str) (jn gl:Bool) (cp:Int) (wd:Nat) (t:Str) (w:World) (hb:a0u b ⟨tx,jn,gl,cp,wd⟩ w) (_hc:0≤cp∧cp≤2) (hw:wd≤tx.length) (hl:tx.length≤2^29) (ht:t.length≤2^29) :
 Calls Tryz.prog 334 #[.pointer (some ⟨b,0,none⟩),.agg #[.int .i64 2,.string (S t)]] w (a4m b (P.apply ⟨tx,jn,gl,cp,wd⟩ 2 t) w):=by
 have H0:=qh (SIn.new 2 t hb)
 clear hb
 obtain⟨⟨⟨a0,a1,a2,a3,a4⟩,⟨f0,f1,f2,f3,f4⟩,hlt⟩,⟨k0,k1,hlk⟩,_,hbl⟩:=H0.o
 simp only at a0 a1 a2 a3 a4
 go_enter Tryz.func334,Tryz.ntmps334
 go_wp2_with fail
 refine (stEnd b tx jn gl cp wd t _ H0.o.1 hw hl ht).mono ?_
 rintro e v1 ⟨rfl,hb1,hc1⟩
 have H1:=qh (H0.o.turn hc1 hb1)
 clear hb1 hc1 H0
 clear a0 a1 a2 a3 a4 f0 f1 f2 f3 f4 hlt k0 k1 hlk hbl
 have HA:=qh (show P.apply ⟨tx,jn,gl,cp,wd⟩ 2 t={ (⟨P.endS ⟨tx,jn,gl,cp,wd⟩ t,jn,gl,cp,wd⟩:P.St) with a0t:=false,a3j:=false } from rfl)
 generalize (⟨P.endS ⟨tx,jn,gl,cp,wd⟩ t,jn,gl,cp,wd⟩:P.St)=r at *
 obtain⟨rt,rj,rg,rc,rw⟩:=r
 obtain⟨⟨⟨a0,a1,a2,a3,a4⟩,⟨f0,f1,f2,f3,f4⟩,hlt⟩,⟨k0,k1,hlk⟩,_,hbl⟩:=H1.o
 simp only at a0 a1 a2 a3 a4
 go_wp2
 first|go_end0|(refine bodyPost_ret (results_none rfl _ _ _) rfl ?_)
 have h9:=H1.o.jg false false
 rw [HA.o]
 exact⟨rfl,h9.1,h9.2.2.1⟩
theorem d1u (b:Nat) (tx:Str) (jn gl:Bool) (cp:Int) (wd:Nat) (t:Str) (w:World) (hb:a0u b ⟨tx,jn,gl,cp,wd⟩ w) (_hc:0≤cp∧cp≤2) (_hw:wd≤tx.length) (hl:tx.length≤2^29) (ht:t.length≤2^29) :
 Calls Tryz.prog 334 #[.pointer (some ⟨b,0,none⟩),.agg #[.int .i64 4,.string (S t)]] w (a4m b (P.apply ⟨tx,jn,gl,cp,wd⟩ 4 t) w):=by
 have H0:=qh (SIn.new 4 t hb)
 clear hb
 go_enter Tryz.func334,Tryz.ntmps334
 go_upto_region 1 with fail
 generalize (World.alloc _ _)=va at *
 obtain⟨⟨⟨a0,a1,a2,a3,a4⟩,⟨f0,f1,f2,f3,f4⟩,hlt⟩,⟨k0,k1,hlk⟩,_,hbl⟩:=H0.o
 simp only at a0 a1 a2 a3 a4
 have j1:¬9223372036854775807<tx.length+t.length:=by omega
 have H1:=qh ((H0.o.text (tx++t)).below bZ.drew)
 go_upto_region 9 with fail
 go_region
 all_goals
  clear H0
  clear a0 a1 a2 a3 a4 f0 f1 f2 f3 f4 hlt k0 k1 hlk hbl
  generalize (World.drew _)=v1 at *
  obtain⟨⟨⟨a0,a1,a2,a3,a4⟩,⟨f0,f1,f2,f3,f4⟩,hlt⟩,⟨k0,k1,hlk⟩,_,hbl⟩:=H1.o
  simp only at a0 a1 a2 a3 a4
  go_wp2
  first|go_end0|(refine bodyPost_ret (results_none rfl _ _ _) rfl ?_)
  have h9:=H1.o.jg true false
  have he:P.apply ⟨tx,jn,gl,cp,wd⟩ 4 t=⟨tx++t,true,false,cp,wd⟩:=rfl
  rw [he]
  exact⟨rfl,h9.1,h9.2.2.1⟩
theorem d2v (b:Nat) (tx:Str) (jn gl:Bool) (cp:Int) (wd:Nat) (t:Str) (w:World) (hb:a0u b ⟨tx,jn,gl,cp,wd⟩ w) (_hc:0≤cp∧cp≤2) (_hw:wd≤tx.length) (hl:tx.length≤2^29) (ht:t.length≤2^29) :
 Calls Tryz.prog 334 #[.pointer (some ⟨b,0,none⟩),.agg #[.int .i64 7,.string (S t)]] w (a4m b (P.apply ⟨tx,jn,gl,cp,wd⟩ 7 t) w):=by
 have H0:=qh (SIn.new 7 t hb)
 clear hb
 go_enter Tryz.func334,Tryz.ntmps334
 go_upto_region 1 with fail
 generalize (World.alloc _ _)=va at *
 obtain⟨⟨⟨a0,a1,a2,a3,a4⟩,⟨f0,f1,f2,f3,f4⟩,hlt⟩,⟨k0,k1,hlk⟩,_,hbl⟩:=H0.o
 simp only at a0 a1 a2 a3 a4
 have j1:¬9223372036854775807<tx.length+t.length:=by omega
 have H1:=qh ((H0.o.text (tx++t)).below bZ.drew)
 go_upto_region 9 with fail
 go_region
 all_goals
  clear H0
  clear a0 a1 a2 a3 a4 f0 f1 f2 f3 f4 hlt k0 k1 hlk hbl
  generalize (World.drew _)=v1 at *
  obtain⟨⟨⟨a0,a1,a2,a3,a4⟩,⟨f0,f1,f2,f3,f4⟩,hlt⟩,⟨k0,k1,hlk⟩,_,hbl⟩:=H1.o
  simp only at a0 a1 a2 a3 a4
  go_wp2
  first|go_end0|(refine bodyPost_ret (results_none rfl _ _ _) rfl ?_)
  have h9:=H1.o.jg false false
  have he:P.apply ⟨tx,jn,gl,cp,wd⟩ 7 t=⟨tx++t,false,false,cp,wd⟩:=rfl
  rw [he]
  exact⟨rfl,h9.1,h9.2.2.1⟩
theorem d0n (b:Nat) (tx:Str) (jn gl:Bool) (cp:Int) (wd:Nat) (t:Str) (w:World) (hb:a0u b ⟨tx,jn,gl,cp,wd⟩ w) (_hc:0≤cp∧cp≤2) (_hw:wd≤tx.length) (hl:tx.length≤2^29) (ht:t.length≤2^29) :
 Calls Tryz.prog 334 #[.pointer (some ⟨b,0,none⟩),.agg #[.int .i64 6,.string (S t)]] w (a4m b (P.apply ⟨tx,jn,gl,cp,wd⟩ 6 t) w):=by
 have H0:=qh (SIn.new 6 t hb)
 clear hb
 go_enter Tryz.func334,Tryz.ntmps334
 go_upto_region 1 with fail
 generalize (World.alloc _ _)=va at *
 obtain⟨⟨⟨a0,a1,a2,a3,a4⟩,⟨f0,f1,f2,f3,f4⟩,hlt⟩,⟨k0,k1,hlk⟩,_,hbl⟩:=H0.o
 simp only at a0 a1 a2 a3 a4
 have j1:¬9223372036854775807<tx.length+t.length:=by omega
 have H1:=qh ((H0.o.text (tx++t)).below bZ.drew)
 go_upto_region 13 with fail
 go_region
 all_goals
  clear H0
  clear a0 a1 a2 a3 a4 f0 f1 f2 f3 f4 hlt k0 k1 hlk hbl
  generalize (World.drew _)=v1 at *
  obtain⟨⟨⟨a0,a1,a2,a3,a4⟩,⟨f0,f1,f2,f3,f4⟩,hlt⟩,⟨k0,k1,hlk⟩,_,hbl⟩:=H1.o
  simp only at a0 a1 a2 a3 a4
  go_wp2
  first|go_end0|(refine bodyPost_ret (results_none rfl _ _ _) rfl ?_)
  have h9:=(H1.o.cap 1).jg false false
  have he:P.apply ⟨tx,jn,gl,cp,wd⟩ 6 t=⟨tx++t,false,false,1,wd⟩:=rfl
  rw [he]
  exact⟨rfl,h9.1,h9.2.2.1⟩
theorem d1p (b:Nat) (tx:Str) (jn gl:Bool) (cp:Int) (wd:Nat) (t:Str) (w:World) (hb:a0u b ⟨tx,jn,gl,cp,wd⟩ w) (_hc:0≤cp∧cp≤2) (_hw:wd≤tx.length) (_hl:tx.length≤2^29) (_ht:t.length≤2^29) :
 Calls Tryz.prog 334 #[.pointer (some ⟨b,0,none⟩),.agg #[.int .i64 8,.string (S t)]] w (a4m b (P.apply ⟨tx,jn,gl,cp,wd⟩ 8 t) w):=by
 have H0:=qh (SIn.new 8 t hb)
 clear hb
 go_enter Tryz.func334,Tryz.ntmps334
 go_upto_region 1 with fail
 generalize (World.alloc _ _)=va at *
 obtain⟨⟨⟨a0,a1,a2,a3,a4⟩,⟨f0,f1,f2,f3,f4⟩,hlt⟩,⟨k0,k1,hlk⟩,_,hbl⟩:=H0.o
 simp only at a0 a1 a2 a3 a4
 go_wp2
 first|go_end0|(refine bodyPost_ret (results_none rfl _ _ _) rfl ?_)
 have h9:=H0.o.cap 1
 have he:P.apply ⟨tx,jn,gl,cp,wd⟩ 8 t=⟨tx,jn,gl,1,wd⟩:=rfl
 rw [he]
 exact⟨rfl,h9.1,h9.2.2.1⟩
theorem d0i (b:Nat) (tx:Str) (jn gl:Bool) (cp:Int) (wd:Nat) (t:Str) (w:World) (hb:a0u b ⟨tx,jn,gl,cp,wd⟩ w) (_hc:0≤cp∧cp≤2) (_hw:wd≤tx.length) (_hl:tx.length≤2^29) (_ht:t.length≤2^29) :
 Calls Tryz.prog 334 #[.pointer (some ⟨b,0,none⟩),.agg #[.int .i64 9,.string (S t)]] w (a4m b (P.apply ⟨tx,jn,gl,cp,wd⟩ 9 t) w):=by
 have H0:=qh (SIn.new 9 t hb)
 clear hb
 go_enter Tryz.func334,Tryz.ntmps334
 go_upto_region 1 with fail
 generalize (World.alloc _ _)=va at *
 obtain⟨⟨⟨a0,a1,a2,a3,a4⟩,⟨f0,f1,f2,f3,f4⟩,hlt⟩,⟨k0,k1,hlk⟩,_,hbl⟩:=H0.o
 simp only at a0 a1 a2 a3 a4
 go_wp2
 first|go_end0|(refine bodyPost_ret (results_none rfl _ _ _) rfl ?_)
 have h9:=H0.o.cap 2
 have he:P.apply ⟨tx,jn,gl,cp,wd⟩ 9 t=⟨tx,jn,gl,2,wd⟩:=rfl
 rw [he]
 exact⟨rfl,h9.1,h9.2.2.1⟩
theorem c5r (b:Nat) (tx:Str) (jn gl:Bool) (cp:Int) (wd:Nat) (t:Str) (w:World) (hb:a0u b ⟨tx,jn,gl,cp,wd⟩ w) (_hc:0≤cp∧cp≤2) (hw:wd≤tx.length) (hl:tx.length≤2^29) (_ht:t.length≤2^29) :
 Calls Tryz.prog 334 #[.pointer (some ⟨b,0,none⟩),.agg #[.int .i64 10,.string (S t)]] w (a4m b (P.apply ⟨tx,jn,gl,cp,wd⟩ 10 t) w):=by
 have H0:=qh (SIn.new 10 t hb)
 clear hb
 have HN:=qh (H0.o.below bZ.drew)
 have i1:(wd:Int)≤(tx.length:Int):=by omega
 have i0:(0:Int)≤(wd:Int):=by omega
 have hcl:(P.upper (tx.drop wd)).length=tx.length-wd:=by rw [P.b1x,List.length_drop]
 have j3:¬9223372036854775807<wd+(P.upper (tx.drop wd)).length:=by omega
 have j5:min wd tx.length=wd:=by omega
 have HDL:=qh (show (tx.drop wd).length≤2^40 by rw [List.length_drop];omega)
 clear hcl
 obtain⟨⟨⟨a0,a1,a2,a3,a4⟩,⟨f0,f1,f2,f3,f4⟩,hlt⟩,⟨k0,k1,hlk⟩,_,hbl⟩:=H0.o
 simp only at a0 a1 a2 a3 a4
 clear H0
 go_enter Tryz.func334,Tryz.ntmps334
 go_upto_region 20 with fail
 refine Left.region [23] (S:=SIn b ⟨tx,jn,gl,cp,wd⟩ 10 t w) kZ HN.o (fun hS0=>?_)
 clear HN
 clear a0 a1 a2 a3 a4 f0 f1 f2 f3 f4 hlt k0 k1 hlk hbl
 generalize (World.drew _)=v0 at *
 have HS0:=qh hS0
 refine lk4 0 hS0 ?_
 refine lk4 1 hS0 ?_
 refine lk4 2 hS0 ?_
 refine lk4 3 hS0 ?_
 refine lk4 4 hS0 ?_
 refine lk4 5 hS0 ?_
 refine lk4 6 hS0 ?_
 refine lk4 7 hS0 ?_
 refine lk4 8 hS0 ?_
 refine lk4 9 hS0 ?_
 refine lk4 10 hS0 ?_
 refine lk4 11 hS0 ?_
 refine lk4 12 hS0 ?_
 refine lk4 13 hS0 ?_
 refine lk4 14 hS0 ?_
 refine lk4 15 hS0 ?_
 refine lk4 16 hS0 ?_
 refine lk4 17 hS0 ?_
 refine lk4 18 hS0 ?_
 refine lrd 19 fun K hK=>?_
 go_simp
 refine (c6q (tx.drop wd) _ HDL.o).mono ?_
 rintro e v1 ⟨rfl,n,hn⟩
 have hbn:Below v0.heap.size v0 v1:=by rw [hn];exact below_drewN bZ _
 have HS1:=qh (HS0.o.below hbn)
 refine a3i hK dZ HS1.o (fun hS1=>?_)
 clear hK K hn hbn HS0 hS0
 try simp only [qA,qB,qC,Act.put,qD,qE,qF]
 refine lk4 20 hS1 ?_
 refine lk4 21 hS1 ?_
 refine lk4 22 hS1 ?_
 refine lrd 23 fun K hK=>?_
 obtain⟨⟨⟨a0,a1,a2,a3,a4⟩,⟨f0,f1,f2,f3,f4⟩,hlt⟩,⟨k0,k1,hlk⟩,_,hbl⟩:=HS1.o
 go_simp
 refine a8g hK dZ ?_
 clear hK K hS1
 try simp only [qA,qB,qC,Act.put,qD,qE,qF]
 refine Left.done kZ ?_ _
 have H9:=qh (HS1.o.text (tx.take wd++P.upper (tx.drop wd)))
 go_wp2
 first|go_end0|(refine bodyPost_ret (results_none rfl _ _ _) rfl ?_)
 have he:P.apply ⟨tx,jn,gl,cp,wd⟩ 10 t=⟨tx.take wd++P.upper (tx.drop wd),jn,gl,cp,wd⟩:=rfl
 rw [he]
 exact⟨rfl,H9.o.1,H9.o.2.2.1⟩
end Go.Proofs.YtggfdnopminemaaGreatDoor
