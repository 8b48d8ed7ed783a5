/- Walks: an atom applied. -/
import Derived.Test.YtggfdnopminemaaGreatDoorFmtI2
set_option linter.all false
namespace Go.Proofs.YtggfdnopminemaaGreatDoor
open Go.Proofs.Tryz
open Go Go.RowKit
set_option maxHeartbeats 8000000
set_option maxRecDepth 100000
variable {k:Int} {b:Nat} {s:P.St} {t:Str} {v v' w:Go.World}
theorem stEnd (b:Nat) (tx:Str) (jn gl:Bool) (cp:Int) (wd:Nat) (t:Str) (w:World) (hb:a0t b ⟨tx,jn,gl,cp,wd⟩ w) (hw:wd<=tx.length) (hl:tx.length<=2^29) (ht:t.length<=2^29) :
 Cz 364 #[.pointer (some ⟨b,0,none⟩),.string (S t)] w (a6c b ⟨P.endS ⟨tx,jn,gl,cp,wd⟩ t,jn,gl,cp,wd⟩ w):=by
 have H0:Hq (StC b ⟨tx,jn,gl,cp,wd⟩ w w.drew):=⟨StC.below ⟨hb,Chg.refl _ _⟩ bZ.drew⟩
 have j1:¬9223372036854775807<tx.length+t.length:=by omega
 have i1:(wd:Int)<=(tx.length:Int):=by omega
 have i0:(0:Int)<=(wd:Int):=by omega
 have HJL:Hq ((P.a2f (tx.drop wd) t).2=true->(P.a2f (tx.drop wd) t).1.length<=24):=⟨λh=>(P.a4m h).1⟩
 obtain⟨js,hjs⟩:∃js,P.a2f (tx.drop wd) t=js:=⟨_,rfl⟩
 obtain⟨jt,jo⟩:=js
 have HJ:=qh hjs
 rw [hjs]at HJL
 have HA:=qh (show P.endS ⟨tx,jn,gl,cp,wd⟩ t=if jo then tx.take wd++jt else tx++t by
  have h:P.endS ⟨tx,jn,gl,cp,wd⟩ t=if (P.a2f (tx.drop wd) t).2 then tx.take wd++(P.a2f (tx.drop wd) t).1 else tx++t:=rfl;rw [h,hjs])
 have HDL:=qh (show (tx.drop wd).length<=2^30 by rw [List.length_drop];omega);clear hjs hb;go_enter func364,ntmps364;go_upto_region 0 with fail;refine wp_region_held_drew (S:=StC b ⟨tx,jn,gl,cp,wd⟩ w) kZ H0.o (λhS0=>?_);clear H0;generalize (World.drew _)=v0 at *;have HS0:=qh hS0;refine tk9 0 hS0 ?_;refine tk9 1 hS0 ?_;refine tk9 2 hS0 ?_;refine tk9 3 hS0 ?_;refine tk9 4 hS0 ?_;refine tk9 5 hS0 ?_;refine tk9 6 hS0 ?_;refine tk9 7 hS0 ?_;refine tk9 8 hS0 ?_;refine tk9 9 hS0 ?_;refine trd 10 λK hK=>?_;go_simp;refine (a9d (tx.drop wd) t _ HDL.o oZ).mono ?_;rintro e v1 ⟨rfl,hb⟩;rw [HJ.o];have HS1:=qh (HS0.o.below hb);refine hK.out _ _ HS1.o (λhS1=>?_);clear hK K hb HS0 hS0;refine zm0 ?_;refine tk9 11 hS1 ?_;refine tk9 12 hS1 ?_;refine tk9 13 hS1 ?_;refine tk9 14 hS1 ?_;refine tk9 15 hS1 ?_;refine wpAnyH_done kZ ?_ _;clear hS1;obtain⟨⟨a0,a1,a2,a3,a4⟩,⟨f0,f1,f2,f3,f4⟩,hlt⟩:=HS1.o.1;simp only at a0 a1 a2 a3 a4
 cases jo
 .have HE:=qh (HS1.o.text (tx++t));go_wp2
  first|go_end0|(refine bodyPost_ret (results_none rfl _ _ _) rfl ?_)
  exact⟨rfl,by rw [HA.o];exact HE.o.1,HE.o.2⟩
 .have hj24:=HJL.o rfl;have j3:¬9223372036854775807<wd+jt.length:=by simp only at hj24;omega
  have j5:min wd tx.length=wd:=by omega
  have HE:=qh ((HS1.o.text (tx.take wd++jt)).below bZ.drew)
  go_upto_region 2 with fail
  go_region
  all_goals
   go_wp2
   first|go_end0|(refine bodyPost_ret (results_none rfl _ _ _) rfl ?_)
   exact⟨rfl,by rw [HA.o];exact HE.o.1,HE.o.2⟩
def SIn (b:Nat) (s:P.St) (k:Int) (t:Str) (w v:World):Prop:=a0t b s v/\b5f w.heap.size k t v/\Chg (λx=>x=b) w v/\b<w.heap.size
theorem SIn.turn {s':P.St} (h:SIn b s k t w v) (hc:Chg (λx=>x=b) v v') (h1:a0t b s' v'):SIn b s' k t w v':=
 ⟨h1,h.2.1.a0b hc (by have:=h.2.2.2;omega),h.2.2.1.trans hc,h.2.2.2⟩
theorem SIn.below (h:SIn b s k t w v) (hb:Bl v v'):SIn b s k t w v':=h.turn (Below.chg hb _) (h.1.below hb)
theorem SIn.new (k:Int) (t:Str) (h:a0t b s w):SIn b s k t w (w.alloc (.cells #[.int .i64 k,.string (S t)] 177)):=
 ⟨h.below (bZ.alloc lZ _),b5f.new k t _ w,(Chg.refl _ _).alloc _,h.2.2⟩
theorem SIn.text (h:SIn b s k t w v) (x:Str):SIn b { s with text:=x } k t w (v.setCell ⟨b,0,none⟩ (.string (S x))):=h.turn (Chg.put (Chg.refl _ _) _) (h.1.text x)
theorem SIn.cap (h:SIn b s k t w v) (x:Int):SIn b { s with cap:=x } k t w (v.setCell ⟨b,3,none⟩ (.int .i64 x)):=h.turn (Chg.put (Chg.refl _ _) _) (h.1.cap x)
theorem SIn.jg (h:SIn b s k t w v) (jn gl:Bool):SIn b { s with a0u:=jn,a4j:=gl } k t w ((v.setCell ⟨b,1,none⟩ (.bool jn)).setCell ⟨b,2,none⟩ (.bool gl)):=
 h.turn ((Chg.put (Chg.refl _ _) _).put _) ((h.1.a0u jn).a4j gl)
theorem d9q (b:Nat) (tx:Str) (jn gl:Bool) (cp:Int) (wd:Nat) (t:Str) (w:World) (hb:a0t b ⟨tx,jn,gl,cp,wd⟩ w) (hc:0<=cp/\cp<=2) (hw:wd<=tx.length) (hl:tx.length<=2^29) (ht:t.length<=2^29) :
 Cz 334 #[.pointer (some ⟨b,0,none⟩),.agg #[.int .i64 1,.string (S t)]] w (a6c b (P.apply ⟨tx,jn,gl,cp,wd⟩ 1 t) w):=by
 have H0:=qh (SIn.new 1 t hb)
 clear hb
 obtain⟨⟨⟨a0,a1,a2,a3,a4⟩,⟨f0,f1,f2,f3,f4⟩,hlt⟩,⟨k0,k1,hlk⟩,_,hbl⟩:=H0.o
 simp only at a0 a1 a2 a3 a4
 go_enter func334,ntmps334
 go_wp2_with fail
 refine (d8x b ⟨tx,jn,gl,cp,wd⟩ t _ H0.o.1 hc (by simp only;omega) oZ).mono ?_
 rintro e v1 ⟨rfl,hb1,hc1⟩
 have H1:=qh (H0.o.turn hc1 hb1)
 clear hb1 hc1 H0
 clear a0 a1 a2 a3 a4 f0 f1 f2 f3 f4 hlt k0 k1 hlk hbl
 have HA:Hq (P.apply ⟨tx,jn,gl,cp,wd⟩ 1 t={ P.put ⟨tx,jn,gl,cp,wd⟩ t with a0u:=false,a4j:=false }):=⟨rfl⟩
 generalize P.put ⟨tx,jn,gl,cp,wd⟩ t=r at *
 obtain⟨rt,rj,rg,rc,rw⟩:=r
 obtain⟨⟨⟨a0,a1,a2,a3,a4⟩,⟨f0,f1,f2,f3,f4⟩,hlt⟩,⟨k0,k1,hlk⟩,_,hbl⟩:=H1.o
 simp only at a0 a1 a2 a3 a4
 go_wp2
 first|go_end0|(refine bodyPost_ret (results_none rfl _ _ _) rfl ?_)
 have h9:=H1.o.jg false false
 rw [HA.o]
 exact⟨rfl,h9.1,h9.2.2.1⟩
theorem e1a (b:Nat) (tx:Str) (jn gl:Bool) (cp:Int) (wd:Nat) (t:Str) (w:World) (hb:a0t b ⟨tx,jn,gl,cp,wd⟩ w) (hc:0<=cp/\cp<=2) (hw:wd<=tx.length) (hl:tx.length<=2^29) (ht:t.length<=2^29) :
 Cz 334 #[.pointer (some ⟨b,0,none⟩),.agg #[.int .i64 3,.string (S t)]] w (a6c b (P.apply ⟨tx,jn,gl,cp,wd⟩ 3 t) w):=by
 have H0:=qh (SIn.new 3 t hb)
 clear hb
 obtain⟨⟨⟨a0,a1,a2,a3,a4⟩,⟨f0,f1,f2,f3,f4⟩,hlt⟩,⟨k0,k1,hlk⟩,_,hbl⟩:=H0.o
 simp only at a0 a1 a2 a3 a4
 go_enter func334,ntmps334
 go_wp2_with fail
 refine (d8x b ⟨tx,jn,gl,cp,wd⟩ t _ H0.o.1 hc (by simp only;omega) oZ).mono ?_
 rintro e v1 ⟨rfl,hb1,hc1⟩
 have H1:=qh (H0.o.turn hc1 hb1)
 clear hb1 hc1 H0
 clear a0 a1 a2 a3 a4 f0 f1 f2 f3 f4 hlt k0 k1 hlk hbl
 have HA:Hq (P.apply ⟨tx,jn,gl,cp,wd⟩ 3 t={ P.put ⟨tx,jn,gl,cp,wd⟩ t with a0u:=true,a4j:=false }):=⟨rfl⟩
 generalize P.put ⟨tx,jn,gl,cp,wd⟩ t=r at *
 obtain⟨rt,rj,rg,rc,rw⟩:=r
 obtain⟨⟨⟨a0,a1,a2,a3,a4⟩,⟨f0,f1,f2,f3,f4⟩,hlt⟩,⟨k0,k1,hlk⟩,_,hbl⟩:=H1.o
 simp only at a0 a1 a2 a3 a4
 go_wp2
 first|go_end0|(refine bodyPost_ret (results_none rfl _ _ _) rfl ?_)
 have h9:=H1.o.jg true false
 rw [HA.o]
 exact⟨rfl,h9.1,h9.2.2.1⟩
theorem e0z (b:Nat) (tx:Str) (jn gl:Bool) (cp:Int) (wd:Nat) (t:Str) (w:World) (hb:a0t b ⟨tx,jn,gl,cp,wd⟩ w) (hc:0<=cp/\cp<=2) (hw:wd<=tx.length) (hl:tx.length<=2^29) (ht:t.length<=2^29) :
 Cz 334 #[.pointer (some ⟨b,0,none⟩),.agg #[.int .i64 5,.string (S t)]] w (a6c b (P.apply ⟨tx,jn,gl,cp,wd⟩ 5 t) w):=by
 have H0:=qh (SIn.new 5 t hb)
 clear hb
 obtain⟨⟨⟨a0,a1,a2,a3,a4⟩,⟨f0,f1,f2,f3,f4⟩,hlt⟩,⟨k0,k1,hlk⟩,_,hbl⟩:=H0.o
 simp only at a0 a1 a2 a3 a4
 go_enter func334,ntmps334
 go_wp2_with fail
 refine (stGlue b ⟨tx,jn,gl,cp,wd⟩ t _ H0.o.1 hc (by simp only;omega) oZ).mono ?_
 rintro e v1 ⟨rfl,hb1,hc1⟩
 have H1:=qh (H0.o.turn hc1 hb1)
 clear hb1 hc1 H0
 clear a0 a1 a2 a3 a4 f0 f1 f2 f3 f4 hlt k0 k1 hlk hbl
 have HA:Hq (P.apply ⟨tx,jn,gl,cp,wd⟩ 5 t={ P.a2h ⟨tx,jn,gl,cp,wd⟩ t with a0u:=false,a4j:=true }):=⟨rfl⟩
 generalize P.a2h ⟨tx,jn,gl,cp,wd⟩ t=r at *
 obtain⟨rt,rj,rg,rc,rw⟩:=r
 obtain⟨⟨⟨a0,a1,a2,a3,a4⟩,⟨f0,f1,f2,f3,f4⟩,hlt⟩,⟨k0,k1,hlk⟩,_,hbl⟩:=H1.o
 simp only at a0 a1 a2 a3 a4
 go_wp2
 first|go_end0|(refine bodyPost_ret (results_none rfl _ _ _) rfl ?_)
 have h9:=H1.o.jg false true
 rw [HA.o]
 exact⟨rfl,h9.1,h9.2.2.1⟩
theorem d8i (b:Nat) (tx:Str) (jn gl:Bool) (cp:Int) (wd:Nat) (t:Str) (w:World) (hb:a0t b ⟨tx,jn,gl,cp,wd⟩ w) (hc:0<=cp/\cp<=2) (hw:wd<=tx.length) (hl:tx.length<=2^29) (ht:t.length<=2^29) :
 Cz 334 #[.pointer (some ⟨b,0,none⟩),.agg #[.int .i64 2,.string (S t)]] w (a6c b (P.apply ⟨tx,jn,gl,cp,wd⟩ 2 t) w):=by
 have H0:=qh (SIn.new 2 t hb)
 clear hb
 obtain⟨⟨⟨a0,a1,a2,a3,a4⟩,⟨f0,f1,f2,f3,f4⟩,hlt⟩,⟨k0,k1,hlk⟩,_,hbl⟩:=H0.o
 simp only at a0 a1 a2 a3 a4
 go_enter func334,ntmps334
 go_wp2_with fail
 refine (stEnd b tx jn gl cp wd t _ H0.o.1 hw hl ht).mono ?_
 rintro e v1 ⟨rfl,hb1,hc1⟩
 have H1:=qh (H0.o.turn hc1 hb1)
 clear hb1 hc1 H0
 clear a0 a1 a2 a3 a4 f0 f1 f2 f3 f4 hlt k0 k1 hlk hbl
 have HA:Hq (P.apply ⟨tx,jn,gl,cp,wd⟩ 2 t={ (⟨P.endS ⟨tx,jn,gl,cp,wd⟩ t,jn,gl,cp,wd⟩:P.St) with a0u:=false,a4j:=false }):=⟨rfl⟩
 generalize (⟨P.endS ⟨tx,jn,gl,cp,wd⟩ t,jn,gl,cp,wd⟩:P.St)=r at *
 obtain⟨rt,rj,rg,rc,rw⟩:=r
 obtain⟨⟨⟨a0,a1,a2,a3,a4⟩,⟨f0,f1,f2,f3,f4⟩,hlt⟩,⟨k0,k1,hlk⟩,_,hbl⟩:=H1.o
 simp only at a0 a1 a2 a3 a4
 go_wp2
 first|go_end0|(refine bodyPost_ret (results_none rfl _ _ _) rfl ?_)
 have h9:=H1.o.jg false false
 rw [HA.o]
 exact⟨rfl,h9.1,h9.2.2.1⟩
theorem e1g (b:Nat) (tx:Str) (jn gl:Bool) (cp:Int) (wd:Nat) (t:Str) (w:World) (hb:a0t b ⟨tx,jn,gl,cp,wd⟩ w) (hc:0<=cp/\cp<=2) (hw:wd<=tx.length) (hl:tx.length<=2^29) (ht:t.length<=2^29) :
 Cz 334 #[.pointer (some ⟨b,0,none⟩),.agg #[.int .i64 4,.string (S t)]] w (a6c b (P.apply ⟨tx,jn,gl,cp,wd⟩ 4 t) w):=by
 have H0:=qh (SIn.new 4 t hb)
 clear hb
 go_enter func334,ntmps334
 go_upto_region 1 with fail
 generalize (World.alloc _ _)=va at *
 obtain⟨⟨⟨a0,a1,a2,a3,a4⟩,⟨f0,f1,f2,f3,f4⟩,hlt⟩,⟨k0,k1,hlk⟩,_,hbl⟩:=H0.o
 simp only at a0 a1 a2 a3 a4
 have j1:¬9223372036854775807<tx.length+t.length:=by omega
 have H1:=qh ((H0.o.text (tx++t)).below bZ.drew)
 go_upto_region 9 with fail
 go_region
 all_goals
  clear H0
  clear a0 a1 a2 a3 a4 f0 f1 f2 f3 f4 hlt k0 k1 hlk hbl
  generalize (World.drew _)=v1 at *
  obtain⟨⟨⟨a0,a1,a2,a3,a4⟩,⟨f0,f1,f2,f3,f4⟩,hlt⟩,⟨k0,k1,hlk⟩,_,hbl⟩:=H1.o
  simp only at a0 a1 a2 a3 a4
  go_wp2
  first|go_end0|(refine bodyPost_ret (results_none rfl _ _ _) rfl ?_)
  have h9:=H1.o.jg true false
  have he:P.apply ⟨tx,jn,gl,cp,wd⟩ 4 t=⟨tx++t,true,false,cp,wd⟩:=rfl
  rw [he]
  exact⟨rfl,h9.1,h9.2.2.1⟩
theorem d9v (b:Nat) (tx:Str) (jn gl:Bool) (cp:Int) (wd:Nat) (t:Str) (w:World) (hb:a0t b ⟨tx,jn,gl,cp,wd⟩ w) (hc:0<=cp/\cp<=2) (hw:wd<=tx.length) (hl:tx.length<=2^29) (ht:t.length<=2^29) :
 Cz 334 #[.pointer (some ⟨b,0,none⟩),.agg #[.int .i64 7,.string (S t)]] w (a6c b (P.apply ⟨tx,jn,gl,cp,wd⟩ 7 t) w):=by
 have H0:=qh (SIn.new 7 t hb)
 clear hb
 go_enter func334,ntmps334
 go_upto_region 1 with fail
 generalize (World.alloc _ _)=va at *
 obtain⟨⟨⟨a0,a1,a2,a3,a4⟩,⟨f0,f1,f2,f3,f4⟩,hlt⟩,⟨k0,k1,hlk⟩,_,hbl⟩:=H0.o
 simp only at a0 a1 a2 a3 a4
 have j1:¬9223372036854775807<tx.length+t.length:=by omega
 have H1:=qh ((H0.o.text (tx++t)).below bZ.drew)
 go_upto_region 9 with fail
 go_region
 all_goals
  clear H0
  clear a0 a1 a2 a3 a4 f0 f1 f2 f3 f4 hlt k0 k1 hlk hbl
  generalize (World.drew _)=v1 at *
  obtain⟨⟨⟨a0,a1,a2,a3,a4⟩,⟨f0,f1,f2,f3,f4⟩,hlt⟩,⟨k0,k1,hlk⟩,_,hbl⟩:=H1.o
  simp only at a0 a1 a2 a3 a4
  go_wp2
  first|go_end0|(refine bodyPost_ret (results_none rfl _ _ _) rfl ?_)
  have h9:=H1.o.jg false false
  have he:P.apply ⟨tx,jn,gl,cp,wd⟩ 7 t=⟨tx++t,false,false,cp,wd⟩:=rfl
  rw [he]
  exact⟨rfl,h9.1,h9.2.2.1⟩
theorem e0d (b:Nat) (tx:Str) (jn gl:Bool) (cp:Int) (wd:Nat) (t:Str) (w:World) (hb:a0t b ⟨tx,jn,gl,cp,wd⟩ w) (hc:0<=cp/\cp<=2) (hw:wd<=tx.length) (hl:tx.length<=2^29) (ht:t.length<=2^29) :
 Cz 334 #[.pointer (some ⟨b,0,none⟩),.agg #[.int .i64 6,.string (S t)]] w (a6c b (P.apply ⟨tx,jn,gl,cp,wd⟩ 6 t) w):=by
 have H0:=qh (SIn.new 6 t hb)
 clear hb
 go_enter func334,ntmps334
 go_upto_region 1 with fail
 generalize (World.alloc _ _)=va at *
 obtain⟨⟨⟨a0,a1,a2,a3,a4⟩,⟨f0,f1,f2,f3,f4⟩,hlt⟩,⟨k0,k1,hlk⟩,_,hbl⟩:=H0.o
 simp only at a0 a1 a2 a3 a4
 have j1:¬9223372036854775807<tx.length+t.length:=by omega
 have H1:=qh ((H0.o.text (tx++t)).below bZ.drew)
 go_upto_region 13 with fail
 go_region
 all_goals
  clear H0
  clear a0 a1 a2 a3 a4 f0 f1 f2 f3 f4 hlt k0 k1 hlk hbl
  generalize (World.drew _)=v1 at *
  obtain⟨⟨⟨a0,a1,a2,a3,a4⟩,⟨f0,f1,f2,f3,f4⟩,hlt⟩,⟨k0,k1,hlk⟩,_,hbl⟩:=H1.o
  simp only at a0 a1 a2 a3 a4
  go_wp2
  first|go_end0|(refine bodyPost_ret (results_none rfl _ _ _) rfl ?_)
  have h9:=(H1.o.cap 1).jg false false
  have he:P.apply ⟨tx,jn,gl,cp,wd⟩ 6 t=⟨tx++t,false,false,1,wd⟩:=rfl
  rw [he]
  exact⟨rfl,h9.1,h9.2.2.1⟩
theorem e0k (b:Nat) (tx:Str) (jn gl:Bool) (cp:Int) (wd:Nat) (t:Str) (w:World) (hb:a0t b ⟨tx,jn,gl,cp,wd⟩ w) (hc:0<=cp/\cp<=2) (hw:wd<=tx.length) (hl:tx.length<=2^29) (ht:t.length<=2^29) :
 Cz 334 #[.pointer (some ⟨b,0,none⟩),.agg #[.int .i64 8,.string (S t)]] w (a6c b (P.apply ⟨tx,jn,gl,cp,wd⟩ 8 t) w):=by
 have H0:=qh (SIn.new 8 t hb)
 clear hb
 go_enter func334,ntmps334
 go_upto_region 1 with fail
 generalize (World.alloc _ _)=va at *
 obtain⟨⟨⟨a0,a1,a2,a3,a4⟩,⟨f0,f1,f2,f3,f4⟩,hlt⟩,⟨k0,k1,hlk⟩,_,hbl⟩:=H0.o
 simp only at a0 a1 a2 a3 a4
 go_wp2
 first|go_end0|(refine bodyPost_ret (results_none rfl _ _ _) rfl ?_)
 have h9:=H0.o.cap 1
 have he:P.apply ⟨tx,jn,gl,cp,wd⟩ 8 t=⟨tx,jn,gl,1,wd⟩:=rfl
 rw [he]
 exact⟨rfl,h9.1,h9.2.2.1⟩
theorem d8w (b:Nat) (tx:Str) (jn gl:Bool) (cp:Int) (wd:Nat) (t:Str) (w:World) (hb:a0t b ⟨tx,jn,gl,cp,wd⟩ w) (hc:0<=cp/\cp<=2) (hw:wd<=tx.length) (hl:tx.length<=2^29) (ht:t.length<=2^29) :
 Cz 334 #[.pointer (some ⟨b,0,none⟩),.agg #[.int .i64 9,.string (S t)]] w (a6c b (P.apply ⟨tx,jn,gl,cp,wd⟩ 9 t) w):=by
 have H0:=qh (SIn.new 9 t hb)
 clear hb
 go_enter func334,ntmps334
 go_upto_region 1 with fail
 generalize (World.alloc _ _)=va at *
 obtain⟨⟨⟨a0,a1,a2,a3,a4⟩,⟨f0,f1,f2,f3,f4⟩,hlt⟩,⟨k0,k1,hlk⟩,_,hbl⟩:=H0.o
 simp only at a0 a1 a2 a3 a4
 go_wp2
 first|go_end0|(refine bodyPost_ret (results_none rfl _ _ _) rfl ?_)
 have h9:=H0.o.cap 2
 have he:P.apply ⟨tx,jn,gl,cp,wd⟩ 9 t=⟨tx,jn,gl,2,wd⟩:=rfl
 rw [he]
 exact⟨rfl,h9.1,h9.2.2.1⟩
theorem d7f (b:Nat) (tx:Str) (jn gl:Bool) (cp:Int) (wd:Nat) (t:Str) (w:World) (hb:a0t b ⟨tx,jn,gl,cp,wd⟩ w) (hc:0<=cp/\cp<=2) (hw:wd<=tx.length) (hl:tx.length<=2^29) (ht:t.length<=2^29) :
 Cz 334 #[.pointer (some ⟨b,0,none⟩),.agg #[.int .i64 10,.string (S t)]] w (a6c b (P.apply ⟨tx,jn,gl,cp,wd⟩ 10 t) w):=by
 have H0:=qh (SIn.new 10 t hb);clear hb;have HN:=qh (H0.o.below bZ.drew);have i1:(wd:Int)<=(tx.length:Int):=by omega
 have i0:(0:Int)<=(wd:Int):=by omega
 have hcl:(P.upper (tx.drop wd)).length=tx.length-wd:=by rw [P.a9m,List.length_drop]
 have j3:¬9223372036854775807<wd+(P.upper (tx.drop wd)).length:=by omega
 have j5:min wd tx.length=wd:=by omega
 have HDL:=qh (show (tx.drop wd).length<=2^40 by rw [List.length_drop];omega);clear hcl;obtain⟨⟨⟨a0,a1,a2,a3,a4⟩,⟨f0,f1,f2,f3,f4⟩,hlt⟩,⟨k0,k1,hlk⟩,_,hbl⟩:=H0.o;simp only at a0 a1 a2 a3 a4;clear H0;go_enter func334,ntmps334;go_upto_region 20 with fail;refine Left.region [23] (S:=SIn b ⟨tx,jn,gl,cp,wd⟩ 10 t w) kZ HN.o (λhS0=>?_);clear HN;clear a0 a1 a2 a3 a4 f0 f1 f2 f3 f4 hlt k0 k1 hlk hbl;generalize (World.drew _)=v0 at *;have HS0:=qh hS0;refine lk8 0 hS0 ?_;refine lk8 1 hS0 ?_;refine lk8 2 hS0 ?_;refine lk8 3 hS0 ?_;refine lk8 4 hS0 ?_;refine lk8 5 hS0 ?_;refine lk8 6 hS0 ?_;refine lk8 7 hS0 ?_;refine lk8 8 hS0 ?_;refine lk8 9 hS0 ?_;refine lk8 10 hS0 ?_;refine lk8 11 hS0 ?_;refine lk8 12 hS0 ?_;refine lk8 13 hS0 ?_;refine lk8 14 hS0 ?_;refine lk8 15 hS0 ?_;refine lk8 16 hS0 ?_;refine lk8 17 hS0 ?_;refine lk8 18 hS0 ?_;refine lrd 19 λK hK=>?_;go_simp;refine (d5p (tx.drop wd) _ HDL.o).mono ?_;rintro e v1 ⟨rfl,n,hn⟩;have hbn:Bl v0 v1:=by rw [hn];exact below_drewN bZ _
 have HS1:=qh (HS0.o.below hbn);refine a1r hK dZ HS1.o (λhS1=>?_);clear hK K hn hbn HS0 hS0;refine zm0 ?_;refine lk8 20 hS1 ?_;refine lk8 21 hS1 ?_;refine lk8 22 hS1 ?_;refine lrd 23 λK hK=>?_;obtain⟨⟨⟨a0,a1,a2,a3,a4⟩,⟨f0,f1,f2,f3,f4⟩,hlt⟩,⟨k0,k1,hlk⟩,_,hbl⟩:=HS1.o;go_simp;refine a2p hK dZ ?_;clear hK K hS1;refine zm0 ?_;refine Left.done kZ ?_ _;have H9:=qh (HS1.o.text (tx.take wd++P.upper (tx.drop wd)));go_wp2;first|go_end0|(refine bodyPost_ret (results_none rfl _ _ _) rfl ?_)
 have he:P.apply ⟨tx,jn,gl,cp,wd⟩ 10 t=⟨tx.take wd++P.upper (tx.drop wd),jn,gl,cp,wd⟩:=rfl;rw [he];exact⟨rfl,H9.o.1,H9.o.2.2.1⟩
end Go.Proofs.YtggfdnopminemaaGreatDoor
