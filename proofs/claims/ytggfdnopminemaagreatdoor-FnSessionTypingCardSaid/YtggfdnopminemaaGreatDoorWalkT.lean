/- Walks: lists of atoms applied (program). -/
import Derived.Test.YtggfdnopminemaaGreatDoorZt
import Derived.Test.YtggfdnopminemaaGreatDoorFmtI3
set_option linter.all false
namespace Go.Proofs.YtggfdnopminemaaGreatDoor
namespace P
def a5e (s:St) (k:Int) (t:Bs):St×Bool:=if atom k t then (if 2000<(apply s k t).text.length then (⟨[],false,false,0,0⟩,false) else (apply s k t,true)) else (⟨[],false,false,0,0⟩,false)
theorem c7x {s:St} {a:Int×Bs} {l:List (Int×Bs)} (hg:a2y s) (hl:s.text.length≤2000):runA s (a::l)=if (a5e s a.1 a.2).2 then runA (a5e s a.1 a.2).1 l else none:=by
 conv=>lhs;unfold runA
 rw [b1b.2 ⟨hg,hl⟩,Bool.true_and];unfold a5e
 split
 ·split
  ·rfl
  ·rfl
 ·rfl
theorem c0g {s:St} {k:Int} {t:Bs} (hg:a2y s) (h:(a5e s k t).2=true):a2y (a5e s k t).1∧(a5e s k t).1.text.length≤2000:=by
 unfold a5e at h⊢
 split at h
 ·rename_i ha
  rw [if_pos ha]
  split at h
  ·cases h
  ·rename_i hl
   rw [if_neg hl];exact⟨b0b hg ha,by simp only;omega⟩
 ·cases h
theorem c7a {k:Int} {t:Bs} (h:atom k t=true):1≤k∧k≤10:=by
 have h2:=(a8v h).2.2;exact h2
end P
open Go Go.RowKit
set_option maxHeartbeats 8000000
set_option maxRecDepth 100000
theorem d5b (b:Nat) (s:P.St) (k:Int) (t:Str) (w:World) (hb:a0u b s w) (hg:P.a2y s) (hl:s.text.length≤2^29) (ha:P.atom k t=true) :
 Calls Tryz.prog 334 #[.pointer (some ⟨b,0,none⟩),.agg #[.int .i64 k,.string (S t)]] w (a4m b (P.apply s k t) w):=by
 obtain⟨tx,jn,gl,cp,wd⟩:=s
 have hk:=P.c7a ha
 have ht:t.length≤2^29:=by have:=(P.b3h ha).2;omega
 have h1:=hg.2.1
 have h2:=hg.2.2
 simp only at hl h1 h2
 have hk10:k=1∨k=2∨k=3∨k=4∨k=5∨k=6∨k=7∨k=8∨k=9∨k=10:=by omega
 rcases hk10 with rfl|rfl|rfl|rfl|rfl|rfl|rfl|rfl|rfl|rfl
 ·exact d2a b tx jn gl cp wd t w hb h1 h2 hl ht
 ·exact d2n b tx jn gl cp wd t w hb h1 h2 hl ht
 ·exact d1f b tx jn gl cp wd t w hb h1 h2 hl ht
 ·exact d1u b tx jn gl cp wd t w hb h1 h2 hl ht
 ·exact d2w b tx jn gl cp wd t w hb h1 h2 hl ht
 ·exact d0n b tx jn gl cp wd t w hb h1 h2 hl ht
 ·exact d2v b tx jn gl cp wd t w hb h1 h2 hl ht
 ·exact d1p b tx jn gl cp wd t w hb h1 h2 hl ht
 ·exact d0i b tx jn gl cp wd t w hb h1 h2 hl ht
 ·exact c5r b tx jn gl cp wd t w hb h1 h2 hl ht
theorem b0u (s:P.St) (w:World) (hs:s.text.length≤2^40) :
 Calls Tryz.prog 287 #[stV s] w fun e w'=>e=.returned (.bool (P.stOk s))∧Below w.heap.size w w':=by
 obtain⟨t,jn,gl,cp,wd⟩:=s
 simp only at hs
 have HB0:=qh ((Below.refl w.heap.size w).alloc lZ (.cells #[.string (S t),.bool jn,.bool gl,.int .i64 cp,.int .i64 (wd:Int)] 225))
 have hf:P.stOk ⟨t,jn,gl,cp,wd⟩=(decide ((t.length:Int)≤2000)&&(t.all P.prn&&(decide (0≤cp∧cp≤2)&&decide (0≤(wd:Int)∧(wd:Int)≤(t.length:Int))))):=rfl
 obtain⟨q1,hq1⟩:∃q,t.all P.prn=q:=⟨_,rfl⟩
 obtain⟨q2,hq2⟩:∃q,decide (0≤cp∧cp≤2)=q:=⟨_,rfl⟩
 have HQ1:=qh hq1;have HQ2:=qh hq2
 by_cases h0:(t.length:Int)≤2000
 ·rw [decide_eq_true h0,hq1,hq2]at hf;have HF:=qh hf;clear hf hq1 hq2
  cases q1
  ·go_enter Tryz.func287,Tryz.ntmps287
   go_wp2_with (first|(go_at_call 134;refine (a2w _ _ hs).mono ?_;rintro e w' ⟨rfl,rfl⟩;rw [HQ1.o])|(go_at_call 74;refine (a1k _ _ _ _).mono ?_;rintro e w' ⟨rfl,rfl⟩))
   go_ret;exact⟨a0b (by rw [HF.o];rfl),HB0.o⟩
  ·cases q2
   ·go_enter Tryz.func287,Tryz.ntmps287
    go_wp2_with (first|(go_at_call 134;refine (a2w _ _ hs).mono ?_;rintro e w' ⟨rfl,rfl⟩;rw [HQ1.o])|(go_at_call 74;refine (a1k _ _ _ _).mono ?_;rintro e w' ⟨rfl,rfl⟩;try rw [HQ2.o]))
    go_ret;exact⟨a0b (by rw [HF.o];rfl),HB0.o⟩
   ·go_enter Tryz.func287,Tryz.ntmps287
    go_wp2_with (first|(go_at_call 134;refine (a2w _ _ hs).mono ?_;rintro e w' ⟨rfl,rfl⟩;rw [HQ1.o])|(go_at_call 74;refine (a1k _ _ _ _).mono ?_;rintro e w' ⟨rfl,rfl⟩;try rw [HQ2.o]))
    go_ret;exact⟨a0b (by rw [HF.o];simp),HB0.o⟩
 ·rw [decide_eq_false h0]at hf;have HF:=qh hf;clear hf hq1 hq2
  go_enter Tryz.func287,Tryz.ntmps287
  go_wp2;go_ret;exact⟨a0b (by rw [HF.o];rfl),HB0.o⟩
def ApPost (r:P.St×Bool) (w:World) (e:Ending) (w':World):Prop:=e=.returned (.tuple #[stV r.1,.bool r.2])∧Below w.heap.size w w'
theorem c7p (s:P.St) (k:Int) (t:Str) (w:World) (hg:P.a2y s) (hl:s.text.length≤2000) (ht:t.length≤2^29) :
 Calls Tryz.prog 288 #[stV s,.agg #[.int .i64 k,.string (S t)]] w (ApPost (P.a5e s k t) w):=by
 have HG:=qh hg
 have HSO:=qh (P.b1b.2 ⟨hg,hl⟩)
 have HN:=qh (SAp.new w s k t)
 obtain⟨tx,jn,gl,cp,wd⟩:=s
 simp only at hl
 clear hg
 go_enter Tryz.func288,Tryz.ntmps288
 go_wp2_with fail
 refine (b0u ⟨tx,jn,gl,cp,wd⟩ _ (by simp only;omega)).mono ?_
 rintro e w1 ⟨rfl,hb⟩
 rw [HSO.o]
 have H1:=qh (HN.o.below hb)
 clear hb HN
 obtain⟨⟨⟨a0,a1,a2,a3,a4⟩,⟨f0,f1,f2,f3,f4⟩,hlt⟩,⟨k0,k1,hlk⟩,⟨⟨b0,b1,b2,b3,b4⟩,⟨g0,g1,g2,g3,g4⟩,hlr⟩,_⟩:=H1.o
 simp only at a0 a1 a2 a3 a4 b0 b1 b2 b3 b4
 go_wp2_with fail
 refine (isValidAtom k t _ (by unfold maxLen;omega)).mono ?_
 rintro e w2 ⟨rfl,hb⟩
 have H2:=qh (H1.o.below hb)
 clear hb H1
 clear a0 a1 a2 a3 a4 hlt f0 f1 f2 f3 f4 k0 k1 hlk b0 b1 b2 b3 b4 hlr g0 g1 g2 g3 g4
 obtain⟨⟨⟨a0,a1,a2,a3,a4⟩,⟨f0,f1,f2,f3,f4⟩,hlt⟩,⟨k0,k1,hlk⟩,⟨⟨b0,b1,b2,b3,b4⟩,⟨g0,g1,g2,g3,g4⟩,hlr⟩,_⟩:=H2.o
 simp only at a0 a1 a2 a3 a4 b0 b1 b2 b3 b4
 obtain⟨q,hq⟩:∃q,P.atom k t=q:=⟨_,rfl⟩
 have HQ:=qh hq
 rw [hq]
 clear hq
 cases q
 ·have HA:=qh (show P.a5e ⟨tx,jn,gl,cp,wd⟩ k t=(⟨[],false,false,0,0⟩,false) by unfold P.a5e;rw [HQ.o];rfl);go_wp2;refine bodyPost_ret (v:=.tuple #[stV st0,.bool false]) (by simp [results,Tryz.results288,go_sem,b0,b1,b2,b3,b4]) rfl ⟨by rw [HA.o],?_⟩
  repeat (refine Below.setCell ?_ (by first|(simp;done)|(simp;omega)) _)
  exact H2.o.2.2.2
 ·have HA:=qh (show P.a5e ⟨tx,jn,gl,cp,wd⟩ k t=if 2000<(P.apply ⟨tx,jn,gl,cp,wd⟩ k t).text.length then (⟨[],false,false,0,0⟩,false) else (P.apply ⟨tx,jn,gl,cp,wd⟩ k t,true) by unfold P.a5e;rw [HQ.o];rfl)
  go_wp2_with fail
  refine (d5b w.heap.size ⟨tx,jn,gl,cp,wd⟩ k t _ H2.o.1 HG.o (by simp only;omega) HQ.o).mono ?_;rintro e w3 ⟨rfl,hb3,hc3⟩;have H3:=qh (H2.o.turn hc3 hb3);clear hb3 hc3 H2;clear a0 a1 a2 a3 a4 hlt f0 f1 f2 f3 f4 k0 k1 hlk b0 b1 b2 b3 b4 hlr g0 g1 g2 g3 g4;generalize P.apply ⟨tx,jn,gl,cp,wd⟩ k t=r at *;obtain⟨rt,rj,rg,rc,rw⟩:=r;obtain⟨⟨⟨a0,a1,a2,a3,a4⟩,⟨f0,f1,f2,f3,f4⟩,hlt⟩,⟨k0,k1,hlk⟩,⟨⟨b0,b1,b2,b3,b4⟩,⟨g0,g1,g2,g3,g4⟩,hlr⟩,_⟩:=H3.o;simp only at a0 a1 a2 a3 a4 b0 b1 b2 b3 b4
  by_cases h2:2000<rt.length
  ·have i1:(2000:Int)<(rt.length:Int):=by omega
   have HE:=qh (HA.o.trans (if_pos h2));clear h2;go_wp2;refine bodyPost_ret (v:=.tuple #[stV st0,.bool false]) (by simp [results,Tryz.results288,go_sem,b0,b1,b2,b3,b4]) rfl ⟨by rw [HE.o],?_⟩
   repeat (refine Below.setCell ?_ (by first|(simp;done)|(simp;omega)) _)
   exact H3.o.2.2.2
  ·have i1:¬(2000:Int)<(rt.length:Int):=by omega
   have HE:=qh (HA.o.trans (if_neg h2));clear h2;go_wp2;refine bodyPost_ret (v:=.tuple #[stV ⟨rt,rj,rg,rc,rw⟩,.bool true]) (by simp [results,Tryz.results288,go_sem,b0,b1,b2,b3,b4]) rfl ⟨by rw [HE.o],?_⟩
   repeat (refine Below.setCell ?_ (by first|(simp;done)|(simp;omega)) _)
   exact H3.o.2.2.2
theorem b4y.below {g:Nat} {l:List (Int×Str)} {v v':World} (h:b4y g l v) (hg:g<v.heap.size) (hb:Below v.heap.size v v'):b4y g l v':=
 fun j hj=>⟨(hb.cell (p:=⟨g,_,none⟩) hg).trans (h j hj).1,(hb.cell (p:=⟨g,_,none⟩) hg).trans (h j hj).2⟩
theorem b3w.below {v v':World} {u:Value} {l:List (Int×Str)} (h:b3w v u l) (hb:Below v.heap.size v v'):b3w v' u l:=by
 obtain⟨ad,cap,h1,h2⟩:=h;refine⟨ad,cap,h1,h2.imp id ?_⟩;rintro⟨g,h3,h4,h5⟩;exact⟨g,h3,Nat.lt_of_lt_of_le h4 hb.size,h5.below h4 hb⟩
def b5l (w:World) (s:P.St) (v:World):Prop:=a0u w.heap.size s v∧a0u (w.heap.size+1) st0 v∧Below w.heap.size w v
theorem b5l.below {w v v':World} {s:P.St} (h:b5l w s v) (hb:Below v.heap.size v v'):b5l w s v':=⟨h.1.below hb,h.2.1.below hb,h.2.2.trans (hb.mono h.2.2.size)⟩
theorem b5l.state {w v:World} {s:P.St} (h:b5l w s v) (tx:Str) (jn gl:Bool) (cp:Int) (wd:Nat) :
 b5l w ⟨tx,jn,gl,cp,wd⟩ (((((v.setCell ⟨w.heap.size,0,none⟩ (.string (S tx))).setCell ⟨w.heap.size,1,none⟩ (.bool jn)).setCell ⟨w.heap.size,2,none⟩ (.bool gl)).setCell ⟨w.heap.size,3,none⟩ (.int .i64 cp)).setCell ⟨w.heap.size,4,none⟩ (.int .i64 (wd:Int))):=by
 have hc:Chg (fun b=>b=w.heap.size) v (((((v.setCell ⟨w.heap.size,0,none⟩ (.string (S tx))).setCell ⟨w.heap.size,1,none⟩ (.bool jn)).setCell ⟨w.heap.size,2,none⟩ (.bool gl)).setCell ⟨w.heap.size,3,none⟩ (.int .i64 cp)).setCell ⟨w.heap.size,4,none⟩ (.int .i64 (wd:Int))):=(((((Chg.put (Chg.refl _ _) _).put _).put _).put _).put _)
 exact⟨(((((h.1.text tx).a0t jn).a3j gl).cap cp).word wd),h.2.1.a0c hc oZ,h.2.2.trans (hc.below (Nat.le_of_lt h.1.2.2) (fun b e=>by omega))⟩
def d3t (o:Option P.St) (w:World) (e:Ending) (w':World):Prop:=e=.returned (.tuple #[stV (o.getD st0),.bool o.isSome])∧Below w.heap.size w w'
theorem c4j (s:P.St) (u:Value) (l:List (Int×Str)) (w:World) (hg:P.a2y s) (hl:s.text.length≤2000) (hu:b3w w u l) (h6:l.length≤600) (ht:∀x∈l,x.2.length≤2^29) :
 Calls Tryz.prog 227 #[stV s,u] w (d3t (P.runA s l) w):=by
 have hb0:Below w.heap.size w ((w.alloc (a2d s)).alloc (a2d st0)):=((Below.refl w.heap.size w).alloc lZ _).alloc sZ _
 have HN:=qh (show b5l w s ((w.alloc (a2d s)).alloc (a2d st0)) from⟨(a0u.new s w).below (bZ.alloc lZ (a2d st0)),by have h:=a0u.new st0 (w.alloc (a2d s));simpa using h,hb0⟩)
 have HU:=qh hu;have HT:=qh ht
 have HG:=qh hg;have HL:=qh hl
 have HSO:=qh (P.b1b.2 ⟨hg,hl⟩)
 obtain⟨ad,cap,rfl,hr⟩:=hu
 have HR:=qh hr
 obtain⟨tx,jn,gl,cp,wd⟩:=s
 simp only at hl
 have i6:¬(600:Int)<(l.length:Int):=by omega
 clear hb0 hg ht hr
 go_enter Tryz.func227,Tryz.ntmps227
 go_wp2_with fail
 refine (b0u ⟨tx,jn,gl,cp,wd⟩ _ (by simp only;omega)).mono ?_
 rintro e w1 ⟨rfl,hb⟩
 rw [HSO.o]
 have H1:=qh (HN.o.below hb)
 clear hb HN HSO hl
 go_wp2_with fail
 go_loopw [21] (fun i wr=>∃(j:Nat) (s':P.St),j≤l.length∧i=.int .i64 j∧P.a2y s'∧s'.text.length≤2000∧P.runA ⟨tx,jn,gl,cp,wd⟩ l=P.runA s' (l.drop j)∧b5l w s' wr) (fun i _=>l.length-(intOf i).toNat)
 case atStart=>exact⟨0,_,Nat.zero_le _,rfl,HG.o,HL.o,rfl,H1.o⟩
 case round=>
  clear H1 HG HL;obtain⟨j,s',hj,rfl,hg,hl,hrun,hs⟩:=hrel;have HG:=qh hg;have HL:=qh hl;have HRUN:=qh hrun;have HS:=qh hs;clear hg hl hrun
  by_cases hlt:j<l.length
  ·obtain⟨g,hga,hgl,hat⟩:=HR.o.resolve_left (by intro e;rw [e]at hlt;simp at hlt);subst hga;obtain⟨c0',c1'⟩:=hat j hlt;have c0:=(hs.2.2.cell (p:=⟨g,j*2,none⟩) hgl).trans c0';have c1:=(hs.2.2.cell (p:=⟨g,j*2+1,none⟩) hgl).trans c1';have hxt:=HT.o _ (List.getElem_mem hlt);have HD:=qh (List.drop_eq_getElem_cons hlt);have hgr:g<wr.heap.size:=Nat.lt_of_lt_of_le hgl hs.2.2.size;obtain⟨⟨⟨a0,a1,a2,a3,a4⟩,⟨f0,f1,f2,f3,f4⟩,hlb⟩,⟨⟨b0,b1,b2,b3,b4⟩,⟨g0,g1,g2,g3,g4⟩,hlr⟩,hbw⟩:=hs;generalize l[j]=x at *;obtain⟨k,t⟩:=x;obtain⟨stx,sjn,sgl,scp,swd⟩:=s';simp only at a0 a1 a2 a3 a4 c0 c1 hxt;have i1:(j:Int)<(l.length:Int):=by omega
   clear hbw hat c0' c1'
   go_wp2_with fail
   refine (c7p ⟨stx,sjn,sgl,scp,swd⟩ k t _ HG.o HL.o hxt).mono ?_;rintro e w2 ⟨rfl,hb⟩;have hb2:Below wr.heap.size wr w2:=(bZ.alloc lZ _).trans (hb.mono sZ);have H2:=qh (HS.o.below hb2);clear hb hb2 a0 a1 a2 a3 a4 f0 f1 f2 f3 f4 hlb b0 b1 b2 b3 b4 g0 g1 g2 g3 g4 hlr c0 c1;have HST:=qh (P.c7x (s:=⟨stx,sjn,sgl,scp,swd⟩) (a:=(k,t)) (l:=l.drop (j+1)) HG.o HL.o);have HGO:=qh (P.c0g (s:=⟨stx,sjn,sgl,scp,swd⟩) (k:=k) (t:=t) HG.o);simp only at HST;obtain⟨r,hr⟩:∃r,P.a5e ⟨stx,sjn,sgl,scp,swd⟩ k t=r:=⟨_,rfl⟩;rw [hr]at HST HGO;rw [hr];clear hr HS;obtain⟨⟨rt,rj,rg,rc,rw⟩,q⟩:=r
   go_upto_region 7 with fail
   have H3:=qh (show b5l w ⟨stx,sjn,sgl,scp,swd⟩ (w2.alloc (.cells #[.string (S rt),.bool rj,.bool rg,.int .i64 rc,.int .i64 (rw:Int)] 225)) from H2.o.below (bZ.alloc lZ _));have HNX:=qh (show a0u w2.heap.size ⟨rt,rj,rg,rc,rw⟩ (w2.alloc (.cells #[.string (S rt),.bool rj,.bool rg,.int .i64 rc,.int .i64 (rw:Int)] 225)) from a0u.new ⟨rt,rj,rg,rc,rw⟩ w2);generalize (World.alloc _ _)=w3 at *;obtain⟨⟨⟨a0,a1,a2,a3,a4⟩,⟨f0,f1,f2,f3,f4⟩,hlb⟩,⟨⟨b0,b1,b2,b3,b4⟩,⟨g0,g1,g2,g3,g4⟩,hlr⟩,_⟩:=H3.o;simp only at a0 a1 a2 a3 a4 b0 b1 b2 b3 b4;clear H2
   cases q
   ·have HE:=qh (show P.runA ⟨tx,jn,gl,cp,wd⟩ l=none by rw [HRUN.o,HD.o,HST.o];rfl);go_wp2;refine bodyPost_ret (v:=.tuple #[stV st0,.bool false]) (by simp [results,Tryz.results227,go_sem,b0,b1,b2,b3,b4]) rfl ⟨by rw [HE.o];rfl,?_⟩
    repeat (refine Below.setCell ?_ (by first|(simp;done)|(simp;omega)) _)
    exact H3.o.2.2
   ·obtain⟨hgn,hln⟩:=HGO.o rfl;have HGN:=qh hgn;have HLN:=qh hln;have HE:=qh (show P.runA ⟨tx,jn,gl,cp,wd⟩ l=P.runA ⟨rt,rj,rg,rc,rw⟩ (l.drop (j+1)) by rw [HRUN.o,HD.o,HST.o];rfl);have H4:=qh (H3.o.state rt rj rg rc rw);obtain⟨⟨d0,d1,d2,d3,d4⟩,_,_⟩:=HNX.o;simp only at d0 d1 d2 d3 d4;clear hgn hln;go_wp2
    go_roundw
    case rel=>exact⟨j+1,⟨rt,rj,rg,rc,rw⟩,by omega,by go_num,HGN.o,HLN.o,HE.o,H4.o⟩
    case measure=>simp [intOf];omega
  ·have HE:=qh (show P.runA ⟨tx,jn,gl,cp,wd⟩ l=some s' by rw [HRUN.o,List.drop_of_length_le oZ];rfl);obtain⟨stx,sjn,sgl,scp,swd⟩:=s';obtain⟨⟨⟨a0,a1,a2,a3,a4⟩,⟨f0,f1,f2,f3,f4⟩,hlb⟩,⟨⟨b0,b1,b2,b3,b4⟩,⟨g0,g1,g2,g3,g4⟩,hlr⟩,_⟩:=hs;simp only at a0 a1 a2 a3 a4 b0 b1 b2 b3 b4;have i1:¬(j:Int)<(l.length:Int):=by omega
   go_wp2;refine bodyPost_ret (v:=.tuple #[stV ⟨stx,sjn,sgl,scp,swd⟩,.bool true]) (by simp [results,Tryz.results227,go_sem,b0,b1,b2,b3,b4]) rfl ⟨by rw [HE.o];rfl,?_⟩
   repeat (refine Below.setCell ?_ (by first|(simp;done)|(simp;omega)) _)
   exact HS.o.2.2
def b0h (r:Str×Bool) (w:World) (e:Ending) (w':World):Prop:=e=.returned (.tuple #[.string (S r.1),.bool r.2])∧Below w.heap.size w w'
theorem c0o (u:Value) (l:List (Int×Str)) (w:World) (hu:b3w w u l) (h6:l.length≤600) (ht:∀x∈l,x.2.length≤2^29) :
 Calls Tryz.prog 157 #[u] w (b0h (P.render l) w):=by
 have HR:=qh (show P.render l=(P.a9v (P.runA P.init l),(P.runA P.init l).isSome) by unfold P.render;rw [if_neg oZ])
 have HU:=qh hu
 obtain⟨ad,cap,rfl,_⟩:=hu
 go_enter Tryz.func157,Tryz.ntmps157
 go_wp2_with fail
 refine (c4j P.init _ l _ P.b3f dZ HU.o h6 ht).mono ?_
 rintro e w1 ⟨rfl,hb⟩
 have HB:=qh hb
 clear hb
 generalize P.runA P.init l=o at *
 cases o with
 |none=>
  go_wp2;go_ret2;exact⟨by rw [HR.o];rfl,HB.o.alloc HB.o.size _⟩
 |some s=>
  obtain⟨tx,jn,gl,cp,wd⟩:=s;go_wp2;go_ret2;exact⟨by rw [HR.o];rfl,HB.o.alloc HB.o.size _⟩
namespace P
def a4v (s:Int) (n:Nat):List Int:=List.map (fun k:Nat=>(k:Int)) (a1l s n)
theorem c6d {s:Int} {n:Nat} (h:hasK s (n:Int)=true):a4v s (n+1)=a4v s n++[(n:Int)]:=by
 unfold a4v a1l;rw [List.range_succ,List.filter_append,List.map_append];simp [h]
theorem d0w {s:Int} {n:Nat} (h:hasK s (n:Int)=false):a4v s (n+1)=a4v s n:=by
 unfold a4v a1l;rw [List.range_succ,List.filter_append,List.map_append];simp [h]
theorem b7z (s:Int) (n:Nat):(a4v s n).length≤n:=by
 unfold a4v a1l;rw [List.length_map];exact Nat.le_trans (List.length_filter_le _ _) sZ
theorem c9p {s:Int} {n j:Nat} (h:j<(a4v s n).length):∃k:Nat,k<n∧(a4v s n)[j]=(k:Int)∧(a1l s n).drop j=k::(a1l s n).drop (j+1):=by
 have h':j<(a1l s n).length:=by unfold a4v at h;rwa [List.length_map]at h
 refine⟨(a1l s n)[j],b1g (List.getElem_mem h'),?_,List.drop_eq_getElem_cons h'⟩;simp only [a4v,List.getElem_map]
theorem d1q {k:Nat} (h:k<23):(labels.drop k).take 1=[lab k]:=by
 have:∀j<23,(labels.drop j).take 1=[lab j]:=by decide
 exact this k h
end P
abbrev OwnK (B:Nat) (v:World) (u:Value) (l:List Int):Prop:=v.ownsRow B 3 1 u l.length (ints l)
theorem b9o (w:World):OwnK w.heap.size (w.alloc (.cells #[] 3)) (.slice (some ⟨w.heap.size,0,none⟩) 0 0) []:=by
 have h:=World.ownsRow_lit (base:=w.heap.size) (e:=3) (size:=1) w #[] 0 lZ (Nat.zero_le _) sZ;have h2:(w.alloc (.cells #[] 3)).ownsRow w.heap.size 3 1 (.slice (some ⟨w.heap.size,0,none⟩) 0 0) 0 []:=by simpa using h
 exact h2
theorem a0j {B:Nat} {v:World} {u:Value} {l:List Int} (h:OwnK B v u l):∃a c,u=.slice a l.length c:=by
 exact zq83
theorem c0h {w v v':World} {u u':Value} {l:List Int} {x:Int} (h:OwnK w.heap.size v u l) (hb:Below w.heap.size w v) (t:TypeId)
 (hown:v'.ownsRow w.heap.size 3 1 u' (l.length+1) (ints l++[.int .i64 x])) (hgr:(v.alloc (.cells #[.int .i64 x] t)).grownBy v' u.ownBlock):OwnK w.heap.size v' u' (l++[x])∧Below w.heap.size w v':=by
 refine⟨?_,(hb.alloc hb.size _).grown hgr (by have:=hb.size;simp;omega) (fun k hk=>(World.ownsRow.lt h k hk).1)⟩
 unfold OwnK
 rw [List.length_append]
 simpa [ints] using hown
def d0z (m:Nat) (w:World) (e:Ending) (w':World):Prop:=∃u,e=.returned u∧OwnK w.heap.size w' u (P.a4v m 23)∧Below w.heap.size w w'
theorem keysOf (m:Nat) (w:World) (hm:m<2^23) :
 Calls Tryz.prog 79 #[.int .i64 (m:Int)] w (d0z m w):=by
 obtain⟨i0,hi,hz0,hz1,hz2⟩:=info_parts a1z
 have HM:=qh hm
 have HOW:=qh (b9o w)
 have HB0:=qh ((Below.refl w.heap.size w).alloc lZ (.cells #[] 3))
 clear hm
 go_enter Tryz.func79,Tryz.ntmps79
 go_wp2
 go_loopw [3,4,6] (fun u _ i wr=>∃k:Nat,k≤23∧i=.int .i64 k∧OwnK w.heap.size wr u (P.a4v m k)∧Below w.heap.size w wr) (fun _ _ i _=>23-(intOf i).toNat)
 case atStart=>exact⟨0,by omega,rfl,HOW.o,HB0.o⟩
 case round=>
  obtain⟨k,hk,rfl,ho,hb⟩:=hrel;have HO:=qh ho;have HB:=qh hb;have hlen:=P.b7z m k;have HY:=qh (P.c6d (s:=m) (n:=k));have HN:=qh (P.d0w (s:=m) (n:=k));obtain⟨ua,uc,rfl⟩:=a0j ho;clear HOW HB0
  by_cases hlt:k<23
  ·have E1:=and_one (k:=k) HM.o;have i1:(k:Int)<23:=by omega
   have i2:(0:Int)≤(k:Int):=by omega
   have HK:=qh (show P.hasK (m:Int) (k:Int)=m.testBit k from rfl)
   cases hbk:m.testBit k
   ·rw [hbk]at E1 HK;have E2:bits .and .i64 ((m:Int) / 2^k) 1=0:=E1;have HZ:=qh (HN.o HK.o);clear E1 hbk ho hb HY HN;go_wp2
    go_roundw
    case rel=>exact⟨k+1,by omega,by go_num,by rw [HZ.o];exact HO.o,HB.o⟩
    case measure=>simp [intOf];omega
   ·rw [hbk]at E1 HK;have E2:bits .and .i64 ((m:Int) / 2^k) 1=1:=E1;have HZ:=qh (HY.o HK.o);have HOA:=qh (ho.alloc (.cells #[.int .i64 (k:Int)] 3));have HSZ:=qh hb.size;clear E1 hbk ho hb HY HN;generalize P.a4v m k=l at *
    go_wp2_with (at_builtin;refine wpList_append_own _ rfl _ _ 33 rfl w.heap.size 3 i0 (.int .i64 0) 1 8 Tryz.underlying33 hi hz0 hz1 hz2 rfl dZ (.slice ua l.length uc) l.length (ints l) rfl HOA.o ⟨wr.heap.size,0,none⟩ 1 1 [.int .i64 (k:Int)] rfl rfl ?_ ?_ ?_ ?_ ?_ ?_)
    all_goals first|exact⟨rfl,rfl⟩|(intro z hz;simp only [List.mem_cons,List.not_mem_nil,or_false]at hz;subst hz;rfl)|(unfold maxLen;omega)|omega|(have h1:=HSZ.o;simp;omega)|(intro i z hz;rcases i with _|i;(injection hz with hz;subst hz;rw [add0];go_simp);cases hz)|skip
    intro u4 w4 hown hgr _;have H6:=qh (c0h HO.o HB.o 3 hown hgr);clear hown hgr;go_wp2
    go_roundw
    case rel=>exact⟨k+1,by omega,by go_num,by rw [HZ.o];exact H6.o.1,H6.o.2⟩
    case measure=>simp [intOf];omega
  ·have hk23:k=23:=by omega
   subst hk23;clear ho hb;go_wp2;go_ret;exact⟨_,rfl,HO.o,HB.o⟩
namespace P
theorem c6h {k:Nat} {l:List Nat} (h1:13≤k):fmtL false (k::l)=45::lab k::fmtL true l:=by
 conv=>lhs;unfold fmtL
 rw [decide_eq_true h1];rfl
theorem b5d {m:Bool} {k:Nat} {l:List Nat} (h1:k≤12∨m=true):fmtL m (k::l)=lab k::fmtL m l:=by
 conv=>lhs;unfold fmtL
 rw [if_neg];rintro hc;simp only [Bool.and_eq_true,decide_eq_true_eq,Bool.not_eq_true']at hc
 rcases h1 with h1|h1
 ·omega
 ·rw [hc.2]at h1;cases h1
end P
theorem d0h {B:Nat} {v:World} {ad:Option Addr} {n cap:Nat} {l:List Int} (h:OwnK B v (.slice ad n cap) l) (j:Nat) (hj:j<l.length):∃g,ad=some ⟨g,0,none⟩∧B≤g∧g<v.heap.size∧v.cell? ⟨g,j,none⟩=some (.int .i64 (l[j]'hj)):=by
 rcases id h.2 with⟨_,h0⟩|⟨g,c,cur,hv,hg,_⟩
 ·omega
 ·have hob:(Value.slice ad n cap).ownBlock=some g:=by rw [hv];rfl
  injection hv with e1 e2 e3;have hc:=World.ownsRow.cells h hob j (.int .i64 l[j]) (by simp [ints,List.getElem?_eq_getElem hj]);rw [add0]at hc;exact⟨g,e1,hg,(World.ownsRow.lt h g hob).2,hc⟩
theorem a1j (m:Nat) (w:World) (hm:P.a0m (m:Int)=true) :
 Calls Tryz.prog 23 #[.int .i64 (m:Int)] w fun e w'=>e=.returned (.tuple #[.string (S (P.fmt m)),.bool true])∧Below w.heap.size w w':=by
 have HS:=qh hm
 have hm23:m<2^23:=by unfold P.a0m at hm;simp only [decide_eq_true_eq]at hm;omega
 have HM:=qh hm23
 have HF:=qh (show P.fmt (m:Int)=P.fmtL (P.midK m) (P.a1l (m:Int) 23) from rfl);have HFL:=qh (P.a9q (m:Int))
 have E0:bits .and .i64 ((m:Int) / 256) 31=((m / 256 % 32:Nat):Int):=by
  have e:((m:Int) / 256)=((m / 256:Nat):Int):=by simp
  have h:=(bits_nat .i64 40 dZ b2q (m / 256) 31 oZ dZ).1;rw [e];have h':bits .and .i64 ((m / 256:Nat):Int) 31=((m / 256 &&& 31:Nat):Int):=h;rw [h',show (31:Nat)=2^5-1 from rfl,Nat.and_two_pow_sub_one_eq_mod]
 have E1:(((m / 256 % 32:Nat):Int) != 0)=P.midK m:=by
  rw [P.d0f,Bool.eq_iff_iff];simp;omega
 generalize hz:((m / 256 % 32:Nat):Int)=z at *
 obtain⟨mk,hmk⟩:∃q,P.midK (m:Int)=q:=⟨_,rfl⟩
 rw [hmk]at E1 HF
 clear hm hm23 hmk hz
 go_enter Tryz.func23,Tryz.ntmps23
 go_wp2_with fail
 refine (a3z _ _).mono ?_
 rintro e w0 ⟨rfl,rfl⟩
 rw [HS.o]
 go_wp2_with fail
 refine (keysOf m _ HM.o).mono ?_
 rintro e w1 ⟨u,rfl,ho,hb⟩
 have HO:=qh ho;have HB:=qh hb
 obtain⟨ua,uc,rfl⟩:=a0j ho
 have hkl:=P.b7z (m:Int) 23
 clear ho hb E0
 go_wp2
 go_loopw [4,5,7,18] (fun o md _ i wr=>∃(j:Nat) (out:Str) (mb:Bool),j≤(P.a4v (m:Int) 23).length∧i=.int .i64 j∧o=.string (S out)∧md=.bool mb∧P.fmt m=out++P.fmtL mb ((P.a1l (m:Int) 23).drop j)∧wr=w1) (fun _ _ _ i _=>(P.a4v (m:Int) 23).length-(intOf i).toNat)
 case atStart=>exact⟨0,[],mk,Nat.zero_le _,rfl,rfl,by first|rfl|(rw [E1]),HF.o,rfl⟩
 case round=>
  clear E1;obtain⟨j,out,mb,hj,rfl,rfl,rfl,hinv,rfl⟩:=hrel;have HI:=qh hinv;have hol:out.length≤46:=by have h:=HFL.o;rw [hinv,List.length_append]at h;omega
  clear hinv
  by_cases hlt:j<(P.a4v (m:Int) 23).length
  ·obtain⟨g,rfl,_,hgl,c0⟩:=d0h HO.o j hlt;obtain⟨k,hk,he,hd⟩:=P.c9p hlt;rw [he]at c0;have HD:=qh hd;have HLT:=qh (P.d1q hk);clear he hd;generalize (P.a4v (m:Int) 23).length=n at *;have i1:(j:Int)<(n:Int):=by omega
   have i2:(k:Int)≤22:=by omega
   by_cases h13:13≤(k:Int)
   ·cases mb
    ·have HZ:=qh (show P.fmt m=((out++[45])++(P.labels.drop k).take 1)++P.fmtL true ((P.a1l (m:Int) 23).drop (j+1)) by rw [HI.o,HD.o,P.c6h oZ,HLT.o];simp);exact zq53
    ·have HZ:=qh (show P.fmt m=(out++(P.labels.drop k).take 1)++P.fmtL true ((P.a1l (m:Int) 23).drop (j+1)) by rw [HI.o,HD.o,P.b5d (.inr rfl),HLT.o];simp);exact zq53
   ·have HZ:=qh (show P.fmt m=(out++(P.labels.drop k).take 1)++P.fmtL mb ((P.a1l (m:Int) 23).drop (j+1)) by rw [HI.o,HD.o,P.b5d (.inl oZ),HLT.o];simp);go_wp2
    go_roundw
    case rel=>exact⟨j+1,_,mb,by omega,by go_num,by first|rfl|(simp;rfl),rfl,HZ.o,by first|trivial|rfl⟩
    case measure=>simp [intOf];omega
  ·have HE:=qh (show P.fmt m=out by
    have h:=HI.o;rw [List.drop_of_length_le (by unfold P.a4v at hlt;rw [List.length_map]at hlt;omega)]at h;rw [h];simp [P.fmtL])
   have i1:¬(j:Int)<((P.a4v (m:Int) 23).length:Int):=by omega
   go_wp2;go_ret2;exact⟨by rw [HE.o];rfl,HB.o⟩
section
section
namespace P
end P
end
end
section
section
variable {P:Program} {w:World}
theorem b3g {ops:Array Oper} {o:Oper} {a:Act} {K:Act→World→Prop} {Q:Exit→Act→World→Prop} {E:Prop} (hgd:o.guard=none) (s x:Operand) (t:TypeId)
 (ho:o.op=.call { callee:=.builtin .append,args:=#[s,x],argTypes:=#[t,t] })
 (base:Nat) (e:TypeId) (i:TypeInfo) (z:Value) (size bytes:Nat) (ht:P.underlying t=some (.slice e)) (hi:P.info? e=some i) (hz:i.zero=some z)
 (hsize:i.size=size) (hby:i.bytes=bytes) (hzs:z.cells.size=size) (hsz:0<size)
 (v:Value) (n:Nat) (xs:List Value) (hs:a.eval s=v) (hown:w.ownsRow base e size v n xs)
 (u:Value) (m:Nat) (news:List Value) (hx:a.eval x=u) (hsrc:b5r w size u m news)
 (h63:n+m≤maxLen) (hbytes:(n+m)*bytes≤140737488355328) (hbase:base≤w.heap.size)
 (h:∀v' w',w'.ownsRow base e size v' (n+m) (xs++news)→w.grownBy w' v.ownBlock→K (a.put o.dst v') w') :
 if Region.wanted o (yielded ops a.tmps)=true then Oper.wp P o a w K Q else E:=by
 have hw:Region.wanted o (yielded ops a.tmps)=true:=by simp [Region.wanted,hgd]
 rw [if_pos hw]
 obtain⟨v',w',hr,h2,h3,_⟩:=a4u (P:=P) w base t o.type e i z size bytes ht hi hz hsize hby hzs hsz v n xs hown u m news hsrc h63 hbytes hbase
 unfold Oper.wp execOp
 simp only [ho,resolve,invoke,builtin,Sem.run_bind,Sem.run_pure,Result.andThen_ok,List.map_toArray,List.map_cons,List.map_nil,hs,hx,hr]
 exact h v' w' h2 h3
end
section
namespace P
end P
variable {w:World} {D:Nat} {tv u x y:Value} {tt:Bool} {ss:Str} {u1:Value} {es1:P.Dic} {xs1:List Value} {v v':World}
end
end
section
end
section
def P.seg (D:P.Dic) (lo hi:Nat):P.Dic:=(D.drop lo).take (hi-lo)
end
section
end
section
section
namespace P
end P
end
end
section
section
namespace P
end P
end
theorem c7o {l:P.Dic} (h:P.dic l=true) (ht:∀e∈l,e.2.length≤2^30):Small l:=
 ⟨by have:=(P.a5g h).1;omega,fun e he=>by have:=(P.a8c ((P.a5g h).2.1 e he)).2.1;omega,ht⟩
end
section
namespace P
end P
end
theorem IntR.front {v:World} {ad:Option Addr} {cap k:Nat} {l:List Int} (h:IntR v (.slice ad l.length cap) l) (hk:k≤l.length):IntR v (.slice ad k cap) (l.take k):=by
 exact zq24
theorem b8d (u:Value) (l:List Int) (w:World) (hu:IntR w u l) :
 Calls Tryz.prog 155 #[u] w fun e w'=>e=.returned (.bool (P.a1t l))∧Below w.heap.size w w':=by
 have HU:=qh hu
 obtain⟨ad,cap,rfl,hl,_⟩:=hu
 by_cases h:l.length≤60
 ·have HF:=qh (show P.a1t l=l.all P.a0m by unfold P.a1t;rw [decide_eq_true h];rfl);have i1:(l.length:Int)≤60:=by omega
  clear h
  go_enter Tryz.func155,Tryz.ntmps155
  go_wp2_with fail
  refine (b4d _ l _ HU.o).mono ?_;rintro e w1 ⟨rfl,hb⟩;have HB:=qh hb;clear hb;generalize l.all P.a0m=q at *;go_wp2;go_ret;exact⟨a0b HF.o.symm,HB.o⟩
 ·have HF:=qh (show P.a1t l=false by unfold P.a1t;rw [decide_eq_false h];rfl);have i1:¬(l.length:Int)≤60:=by omega
  clear h
  go_enter Tryz.func155,Tryz.ntmps155
  go_wp2;go_ret;exact⟨a0b HF.o.symm,Below.refl _ _⟩
end Go.Proofs.YtggfdnopminemaaGreatDoor
