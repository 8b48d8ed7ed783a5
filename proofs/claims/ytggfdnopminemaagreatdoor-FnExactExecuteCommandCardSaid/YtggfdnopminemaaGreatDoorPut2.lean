/- Walks: lists of atoms applied (program). -/
import Derived.Test.YtggfdnopminemaaGreatDoorZt
import Derived.Test.YtggfdnopminemaaGreatDoorFmtI3
namespace Go.Proofs.YtggfdnopminemaaGreatDoor
namespace P
def a5r (s:St) (k:Int) (t:Bs):St×Bool:=if atom k t then (if 2000<(apply s k t).text.length then (⟨[],false,false,0,0⟩,false) else (apply s k t,true)) else (⟨[],false,false,0,0⟩,false)
theorem d3p {s:St} {a:Int×Bs} {l:List (Int×Bs)} (hg:a2u s) (hl:s.text.length≤2000):runA s (a::l)=if (a5r s a.1 a.2).2 then runA (a5r s a.1 a.2).1 l else none:=by
 conv=>lhs;unfold runA
 rw [a8g.2 ⟨hg,hl⟩,Bool.true_and];unfold a5r
 split
 ·split
  ·rfl
  ·rfl
 ·rfl
theorem c4u {s:St} {k:Int} {t:Bs} (hg:a2u s) (h:(a5r s k t).2=true):a2u (a5r s k t).1∧(a5r s k t).1.text.length≤2000:=by
 unfold a5r at h⊢
 split at h
 ·rename_i ha
  rw [if_pos ha]
  split at h
  ·cases h
  ·rename_i hl
   rw [if_neg hl];exact⟨a8n hg ha,by simp only;omega⟩
 ·cases h
theorem c0h {k:Int} {t:Bs} (h:atom k t=true):1≤k∧k≤10:=by
 have h2:=(b0d h).2.2;exact h2
end P
open Go Go.RowKit
set_option maxHeartbeats 4000000
set_option maxRecDepth 100000
theorem d8h (b:Nat) (s:P.St) (k:Int) (t:Str) (w:World) (hb:a0t b s w) (hg:P.a2u s) (hl:s.text.length≤2^29) (ha:P.atom k t=true) :
 Calls Tryz.prog 334 #[.pointer (some ⟨b,0,none⟩),.agg #[.int .i64 k,.string (S t)]] w (a5a b (P.apply s k t) w):=by
 obtain⟨tx,jn,gl,cp,wd⟩:=s
 have hk:=P.c0h ha
 have ht:t.length≤2^29:=by have:=(P.a7n ha).2;omega
 have h1:=hg.2.1
 have h2:=hg.2.2
 simp only at hl h1 h2
 have hk10:k=1∨k=2∨k=3∨k=4∨k=5∨k=6∨k=7∨k=8∨k=9∨k=10:=by omega
 rcases hk10 with rfl|rfl|rfl|rfl|rfl|rfl|rfl|rfl|rfl|rfl
 ·exact d5k b tx jn gl cp wd t w hb h1 h2 hl ht
 ·exact d5t b tx jn gl cp wd t w hb h1 h2 hl ht
 ·exact d6b b tx jn gl cp wd t w hb h1 h2 hl ht
 ·exact d4b b tx jn gl cp wd t w hb h1 h2 hl ht
 ·exact d5e b tx jn gl cp wd t w hb h1 h2 hl ht
 ·exact d5p b tx jn gl cp wd t w hb h1 h2 hl ht
 ·exact d5a b tx jn gl cp wd t w hb h1 h2 hl ht
 ·exact d5y b tx jn gl cp wd t w hb h1 h2 hl ht
 ·exact d4w b tx jn gl cp wd t w hb h1 h2 hl ht
 ·exact d0f b tx jn gl cp wd t w hb h1 h2 hl ht
theorem b2p (s:P.St) (w:World) (hs:s.text.length≤2^40) :
 Calls Tryz.prog 287 #[stV s] w fun e w'=>e=.returned (.bool (P.stOk s))∧Below w.heap.size w w':=by
 obtain⟨t,jn,gl,cp,wd⟩:=s
 simp only at hs
 have HB0:=qh ((Below.refl w.heap.size w).alloc lZ (.cells #[.string (S t),.bool jn,.bool gl,.int .i64 cp,.int .i64 (wd:Int)] 225))
 have hf:P.stOk ⟨t,jn,gl,cp,wd⟩=(decide ((t.length:Int)≤2000)&&(t.all P.prn&&(decide (0≤cp∧cp≤2)&&decide (0≤(wd:Int)∧(wd:Int)≤(t.length:Int))))):=rfl
 obtain⟨q1,hq1⟩:∃q,t.all P.prn=q:=⟨_,rfl⟩
 obtain⟨q2,hq2⟩:∃q,decide (0≤cp∧cp≤2)=q:=⟨_,rfl⟩
 have HQ1:=qh hq1;have HQ2:=qh hq2
 by_cases h0:(t.length:Int)≤2000
 ·rw [decide_eq_true h0,hq1,hq2]at hf;have HF:=qh hf;clear hf hq1 hq2
  cases q1
  ·go_enter Tryz.func287,Tryz.ntmps287
   go_wp2_with (first|(go_at_call 134;refine (a3c _ _ hs).mono ?_;rintro e w' ⟨rfl,rfl⟩;rw [HQ1.o])|(go_at_call 74;refine (a2a _ _ _ _).mono ?_;rintro e w' ⟨rfl,rfl⟩))
   go_ret;exact⟨a0a (by rw [HF.o];rfl),HB0.o⟩
  ·cases q2
   ·go_enter Tryz.func287,Tryz.ntmps287
    go_wp2_with (first|(go_at_call 134;refine (a3c _ _ hs).mono ?_;rintro e w' ⟨rfl,rfl⟩;rw [HQ1.o])|(go_at_call 74;refine (a2a _ _ _ _).mono ?_;rintro e w' ⟨rfl,rfl⟩;try rw [HQ2.o]))
    go_ret;exact⟨a0a (by rw [HF.o];rfl),HB0.o⟩
   ·go_enter Tryz.func287,Tryz.ntmps287
    go_wp2_with (first|(go_at_call 134;refine (a3c _ _ hs).mono ?_;rintro e w' ⟨rfl,rfl⟩;rw [HQ1.o])|(go_at_call 74;refine (a2a _ _ _ _).mono ?_;rintro e w' ⟨rfl,rfl⟩;try rw [HQ2.o]))
    go_ret;exact⟨a0a (by rw [HF.o];simp),HB0.o⟩
 ·rw [decide_eq_false h0]at hf;have HF:=qh hf;clear hf hq1 hq2
  go_enter Tryz.func287,Tryz.ntmps287
  go_wp2;go_ret;exact⟨a0a (by rw [HF.o];rfl),HB0.o⟩
def ApPost (r:P.St×Bool) (w:World) (e:Ending) (w':World):Prop:=e=.returned (.tuple #[stV r.1,.bool r.2])∧Below w.heap.size w w'
theorem d0k (s:P.St) (k:Int) (t:Str) (w:World) (hg:P.a2u s) (hl:s.text.length≤2000) (ht:t.length≤2^29) :
 Calls Tryz.prog 288 #[stV s,.agg #[.int .i64 k,.string (S t)]] w (ApPost (P.a5r s k t) w):=by
 have HG:=qh hg
 have HSO:=qh (P.a8g.2 ⟨hg,hl⟩)
 have HN:=qh (SAp.new w s k t)
 obtain⟨tx,jn,gl,cp,wd⟩:=s
 simp only at hl
 clear hg
 go_enter Tryz.func288,Tryz.ntmps288
 go_wp2_with fail
 refine (b2p ⟨tx,jn,gl,cp,wd⟩ _ (by simp only;omega)).mono ?_
 rintro e w1 ⟨rfl,hb⟩
 rw [HSO.o]
 have H1:=qh (HN.o.below hb)
 clear hb HN
 obtain⟨⟨⟨a0,a1,a2,a3,a4⟩,⟨f0,f1,f2,f3,f4⟩,hlt⟩,⟨k0,k1,hlk⟩,⟨⟨b0,b1,b2,b3,b4⟩,⟨g0,g1,g2,g3,g4⟩,hlr⟩,_⟩:=H1.o
 simp only at a0 a1 a2 a3 a4 b0 b1 b2 b3 b4
 go_wp2_with fail
 refine (isValidAtom k t _ (by unfold maxLen;omega)).mono ?_
 rintro e w2 ⟨rfl,hb⟩
 have H2:=qh (H1.o.below hb)
 clear hb H1
 clear a0 a1 a2 a3 a4 hlt f0 f1 f2 f3 f4 k0 k1 hlk b0 b1 b2 b3 b4 hlr g0 g1 g2 g3 g4
 obtain⟨⟨⟨a0,a1,a2,a3,a4⟩,⟨f0,f1,f2,f3,f4⟩,hlt⟩,⟨k0,k1,hlk⟩,⟨⟨b0,b1,b2,b3,b4⟩,⟨g0,g1,g2,g3,g4⟩,hlr⟩,_⟩:=H2.o
 simp only at a0 a1 a2 a3 a4 b0 b1 b2 b3 b4
 obtain⟨q,hq⟩:∃q,P.atom k t=q:=⟨_,rfl⟩
 have HQ:=qh hq
 rw [hq]
 clear hq
 cases q
 ·have HA:=qh (show P.a5r ⟨tx,jn,gl,cp,wd⟩ k t=(⟨[],false,false,0,0⟩,false) by unfold P.a5r;rw [HQ.o];rfl);go_wp2;refine bodyPost_ret (v:=.tuple #[stV st0,.bool false]) (by simp [results,Tryz.results288,go_sem,b0,b1,b2,b3,b4]) rfl ⟨by rw [HA.o],?_⟩
  repeat (refine Below.setCell ?_ (by first|(simp;done)|(simp;omega)) _)
  exact H2.o.2.2.2
 ·have HA:=qh (show P.a5r ⟨tx,jn,gl,cp,wd⟩ k t=if 2000<(P.apply ⟨tx,jn,gl,cp,wd⟩ k t).text.length then (⟨[],false,false,0,0⟩,false) else (P.apply ⟨tx,jn,gl,cp,wd⟩ k t,true) by unfold P.a5r;rw [HQ.o];rfl)
  go_wp2_with fail
  refine (d8h w.heap.size ⟨tx,jn,gl,cp,wd⟩ k t _ H2.o.1 HG.o (by simp only;omega) HQ.o).mono ?_;rintro e w3 ⟨rfl,hb3,hc3⟩;have H3:=qh (H2.o.turn hc3 hb3);clear hb3 hc3 H2;clear a0 a1 a2 a3 a4 hlt f0 f1 f2 f3 f4 k0 k1 hlk b0 b1 b2 b3 b4 hlr g0 g1 g2 g3 g4;generalize P.apply ⟨tx,jn,gl,cp,wd⟩ k t=r at *;obtain⟨rt,rj,rg,rc,rw⟩:=r;obtain⟨⟨⟨a0,a1,a2,a3,a4⟩,⟨f0,f1,f2,f3,f4⟩,hlt⟩,⟨k0,k1,hlk⟩,⟨⟨b0,b1,b2,b3,b4⟩,⟨g0,g1,g2,g3,g4⟩,hlr⟩,_⟩:=H3.o;simp only at a0 a1 a2 a3 a4 b0 b1 b2 b3 b4
  by_cases h2:2000<rt.length
  ·have i1:(2000:Int)<(rt.length:Int):=by omega
   have HE:=qh (HA.o.trans (if_pos h2));clear h2;go_wp2;refine bodyPost_ret (v:=.tuple #[stV st0,.bool false]) (by simp [results,Tryz.results288,go_sem,b0,b1,b2,b3,b4]) rfl ⟨by rw [HE.o],?_⟩
   repeat (refine Below.setCell ?_ (by first|(simp;done)|(simp;omega)) _)
   exact H3.o.2.2.2
  ·have i1:¬(2000:Int)<(rt.length:Int):=by omega
   have HE:=qh (HA.o.trans (if_neg h2));clear h2;go_wp2;refine bodyPost_ret (v:=.tuple #[stV ⟨rt,rj,rg,rc,rw⟩,.bool true]) (by simp [results,Tryz.results288,go_sem,b0,b1,b2,b3,b4]) rfl ⟨by rw [HE.o],?_⟩
   repeat (refine Below.setCell ?_ (by first|(simp;done)|(simp;omega)) _)
   exact H3.o.2.2.2
theorem c0v.below {g:Nat} {l:List (Int×Str)} {v v':World} (h:c0v g l v) (hg:g<v.heap.size) (hb:Below v.heap.size v v'):c0v g l v':=
 fun j hj=>⟨(hb.cell (p:=⟨g,_,none⟩) hg).trans (h j hj).1,(hb.cell (p:=⟨g,_,none⟩) hg).trans (h j hj).2⟩
theorem c2p.below {v v':World} {u:Value} {l:List (Int×Str)} (h:c2p v u l) (hb:Below v.heap.size v v'):c2p v' u l:=by
 obtain⟨ad,cap,h1,h2⟩:=h;refine⟨ad,cap,h1,h2.imp id ?_⟩;rintro⟨g,h3,h4,h5⟩;exact⟨g,h3,Nat.lt_of_lt_of_le h4 hb.size,h5.below h4 hb⟩
def b8y (w:World) (s:P.St) (v:World):Prop:=a0t w.heap.size s v∧a0t (w.heap.size+1) st0 v∧Below w.heap.size w v
theorem b8y.below {w v v':World} {s:P.St} (h:b8y w s v) (hb:Below v.heap.size v v'):b8y w s v':=⟨h.1.below hb,h.2.1.below hb,h.2.2.trans (hb.mono h.2.2.size)⟩
theorem b8y.state {w v:World} {s:P.St} (h:b8y w s v) (tx:Str) (jn gl:Bool) (cp:Int) (wd:Nat) :
 b8y w ⟨tx,jn,gl,cp,wd⟩ (((((v.setCell ⟨w.heap.size,0,none⟩ (.string (S tx))).setCell ⟨w.heap.size,1,none⟩ (.bool jn)).setCell ⟨w.heap.size,2,none⟩ (.bool gl)).setCell ⟨w.heap.size,3,none⟩ (.int .i64 cp)).setCell ⟨w.heap.size,4,none⟩ (.int .i64 (wd:Int))):=by
 have hc:Chg (fun b=>b=w.heap.size) v (((((v.setCell ⟨w.heap.size,0,none⟩ (.string (S tx))).setCell ⟨w.heap.size,1,none⟩ (.bool jn)).setCell ⟨w.heap.size,2,none⟩ (.bool gl)).setCell ⟨w.heap.size,3,none⟩ (.int .i64 cp)).setCell ⟨w.heap.size,4,none⟩ (.int .i64 (wd:Int))):=(((((Chg.put (Chg.refl _ _) _).put _).put _).put _).put _)
 exact⟨(((((h.1.text tx).a0w jn).a3p gl).cap cp).word wd),h.2.1.a0e hc oZ,h.2.2.trans (hc.below (Nat.le_of_lt h.1.2.2) (fun b e=>by omega))⟩
def d7u (o:Option P.St) (w:World) (e:Ending) (w':World):Prop:=e=.returned (.tuple #[stV (o.getD st0),.bool o.isSome])∧Below w.heap.size w w'
theorem c8y (s:P.St) (u:Value) (l:List (Int×Str)) (w:World) (hg:P.a2u s) (hl:s.text.length≤2000) (hu:c2p w u l) (h6:l.length≤600) (ht:∀x∈l,x.2.length≤2^29) :
 Calls Tryz.prog 227 #[stV s,u] w (d7u (P.runA s l) w):=by
 have hb0:Below w.heap.size w ((w.alloc (a1b s)).alloc (a1b st0)):=((Below.refl w.heap.size w).alloc lZ _).alloc sZ _
 have HN:=qh (show b8y w s ((w.alloc (a1b s)).alloc (a1b st0)) from⟨(a0t.new s w).below (bZ.alloc lZ (a1b st0)),by have h:=a0t.new st0 (w.alloc (a1b s));simpa using h,hb0⟩)
 have HU:=qh hu;have HT:=qh ht
 have HG:=qh hg;have HL:=qh hl
 have HSO:=qh (P.a8g.2 ⟨hg,hl⟩)
 obtain⟨ad,cap,rfl,hr⟩:=hu
 have HR:=qh hr
 obtain⟨tx,jn,gl,cp,wd⟩:=s
 simp only at hl
 have i6:¬(600:Int)<(l.length:Int):=by omega
 clear hb0 hg ht hr
 go_enter Tryz.func227,Tryz.ntmps227
 go_wp2_with fail
 refine (b2p ⟨tx,jn,gl,cp,wd⟩ _ (by simp only;omega)).mono ?_
 rintro e w1 ⟨rfl,hb⟩
 rw [HSO.o]
 have H1:=qh (HN.o.below hb)
 clear hb HN HSO hl
 go_wp2_with fail
 go_loopw [21] (fun i wr=>∃(j:Nat) (s':P.St),j≤l.length∧i=.int .i64 j∧P.a2u s'∧s'.text.length≤2000∧P.runA ⟨tx,jn,gl,cp,wd⟩ l=P.runA s' (l.drop j)∧b8y w s' wr) (fun i _=>l.length-(intOf i).toNat)
 case atStart=>exact⟨0,_,Nat.zero_le _,rfl,HG.o,HL.o,rfl,H1.o⟩
 case round=>
  clear H1 HG HL;obtain⟨j,s',hj,rfl,hg,hl,hrun,hs⟩:=hrel;have HG:=qh hg;have HL:=qh hl;have HRUN:=qh hrun;have HS:=qh hs;clear hg hl hrun
  by_cases hlt:j<l.length
  ·obtain⟨g,hga,hgl,hat⟩:=HR.o.resolve_left (by intro e;rw [e]at hlt;simp at hlt);subst hga;obtain⟨c0',c1'⟩:=hat j hlt;have c0:=(hs.2.2.cell (p:=⟨g,j*2,none⟩) hgl).trans c0';have c1:=(hs.2.2.cell (p:=⟨g,j*2+1,none⟩) hgl).trans c1';have hxt:=HT.o _ (List.getElem_mem hlt);have HD:=qh (List.drop_eq_getElem_cons hlt);have hgr:g<wr.heap.size:=Nat.lt_of_lt_of_le hgl hs.2.2.size;obtain⟨⟨⟨a0,a1,a2,a3,a4⟩,⟨f0,f1,f2,f3,f4⟩,hlb⟩,⟨⟨b0,b1,b2,b3,b4⟩,⟨g0,g1,g2,g3,g4⟩,hlr⟩,hbw⟩:=hs;generalize l[j]=x at *;obtain⟨k,t⟩:=x;obtain⟨stx,sjn,sgl,scp,swd⟩:=s';simp only at a0 a1 a2 a3 a4 c0 c1 hxt;have i1:(j:Int)<(l.length:Int):=by omega
   clear hbw hat c0' c1'
   go_wp2_with fail
   refine (d0k ⟨stx,sjn,sgl,scp,swd⟩ k t _ HG.o HL.o hxt).mono ?_;rintro e w2 ⟨rfl,hb⟩;have hb2:Below wr.heap.size wr w2:=(bZ.alloc lZ _).trans (hb.mono sZ);have H2:=qh (HS.o.below hb2);clear hb hb2 a0 a1 a2 a3 a4 f0 f1 f2 f3 f4 hlb b0 b1 b2 b3 b4 g0 g1 g2 g3 g4 hlr c0 c1;have HST:=qh (P.d3p (s:=⟨stx,sjn,sgl,scp,swd⟩) (a:=(k,t)) (l:=l.drop (j+1)) HG.o HL.o);have HGO:=qh (P.c4u (s:=⟨stx,sjn,sgl,scp,swd⟩) (k:=k) (t:=t) HG.o);simp only at HST;obtain⟨r,hr⟩:∃r,P.a5r ⟨stx,sjn,sgl,scp,swd⟩ k t=r:=⟨_,rfl⟩;rw [hr]at HST HGO;rw [hr];clear hr HS;obtain⟨⟨rt,rj,rg,rc,rw⟩,q⟩:=r
   go_upto_region 7 with fail
   have H3:=qh (show b8y w ⟨stx,sjn,sgl,scp,swd⟩ (w2.alloc (.cells #[.string (S rt),.bool rj,.bool rg,.int .i64 rc,.int .i64 (rw:Int)] 225)) from H2.o.below (bZ.alloc lZ _));have HNX:=qh (show a0t w2.heap.size ⟨rt,rj,rg,rc,rw⟩ (w2.alloc (.cells #[.string (S rt),.bool rj,.bool rg,.int .i64 rc,.int .i64 (rw:Int)] 225)) from a0t.new ⟨rt,rj,rg,rc,rw⟩ w2);generalize (World.alloc _ _)=w3 at *;obtain⟨⟨⟨a0,a1,a2,a3,a4⟩,⟨f0,f1,f2,f3,f4⟩,hlb⟩,⟨⟨b0,b1,b2,b3,b4⟩,⟨g0,g1,g2,g3,g4⟩,hlr⟩,_⟩:=H3.o;simp only at a0 a1 a2 a3 a4 b0 b1 b2 b3 b4;clear H2
   cases q
   ·have HE:=qh (show P.runA ⟨tx,jn,gl,cp,wd⟩ l=none by rw [HRUN.o,HD.o,HST.o];rfl);go_wp2;refine bodyPost_ret (v:=.tuple #[stV st0,.bool false]) (by simp [results,Tryz.results227,go_sem,b0,b1,b2,b3,b4]) rfl ⟨by rw [HE.o];rfl,?_⟩
    repeat (refine Below.setCell ?_ (by first|(simp;done)|(simp;omega)) _)
    exact H3.o.2.2
   ·obtain⟨hgn,hln⟩:=HGO.o rfl;have HGN:=qh hgn;have HLN:=qh hln;have HE:=qh (show P.runA ⟨tx,jn,gl,cp,wd⟩ l=P.runA ⟨rt,rj,rg,rc,rw⟩ (l.drop (j+1)) by rw [HRUN.o,HD.o,HST.o];rfl);have H4:=qh (H3.o.state rt rj rg rc rw);obtain⟨⟨d0,d1,d2,d3,d4⟩,_,_⟩:=HNX.o;simp only at d0 d1 d2 d3 d4;clear hgn hln;go_wp2
    go_roundw
    case rel=>exact⟨j+1,⟨rt,rj,rg,rc,rw⟩,by omega,by go_num,HGN.o,HLN.o,HE.o,H4.o⟩
    case measure=>simp [intOf];omega
  ·have HE:=qh (show P.runA ⟨tx,jn,gl,cp,wd⟩ l=some s' by rw [HRUN.o,List.drop_of_length_le oZ];rfl);obtain⟨stx,sjn,sgl,scp,swd⟩:=s';obtain⟨⟨⟨a0,a1,a2,a3,a4⟩,⟨f0,f1,f2,f3,f4⟩,hlb⟩,⟨⟨b0,b1,b2,b3,b4⟩,⟨g0,g1,g2,g3,g4⟩,hlr⟩,_⟩:=hs;simp only at a0 a1 a2 a3 a4 b0 b1 b2 b3 b4;have i1:¬(j:Int)<(l.length:Int):=by omega
   go_wp2;refine bodyPost_ret (v:=.tuple #[stV ⟨stx,sjn,sgl,scp,swd⟩,.bool true]) (by simp [results,Tryz.results227,go_sem,b0,b1,b2,b3,b4]) rfl ⟨by rw [HE.o];rfl,?_⟩
   repeat (refine Below.setCell ?_ (by first|(simp;done)|(simp;omega)) _)
   exact HS.o.2.2
def a7x (r:Str×Bool) (w:World) (e:Ending) (w':World):Prop:=e=.returned (.tuple #[.string (S r.1),.bool r.2])∧Below w.heap.size w w'
theorem c4s (u:Value) (l:List (Int×Str)) (w:World) (hu:c2p w u l) (h6:l.length≤600) (ht:∀x∈l,x.2.length≤2^29) :
 Calls Tryz.prog 157 #[u] w (a7x (P.render l) w):=by
 have HR:=qh (show P.render l=(P.a6f (P.runA P.init l),(P.runA P.init l).isSome) by unfold P.render;rw [if_neg oZ])
 have HU:=qh hu
 obtain⟨ad,cap,rfl,_⟩:=hu
 go_enter Tryz.func157,Tryz.ntmps157
 go_wp2_with fail
 refine (c8y P.init _ l _ P.a5z dZ HU.o h6 ht).mono ?_
 rintro e w1 ⟨rfl,hb⟩
 have HB:=qh hb
 clear hb
 generalize P.runA P.init l=o at *
 cases o with
 |none=>
  go_wp2;go_ret2;exact⟨by rw [HR.o];rfl,HB.o.alloc HB.o.size _⟩
 |some s=>
  obtain⟨tx,jn,gl,cp,wd⟩:=s;go_wp2;go_ret2;exact⟨by rw [HR.o];rfl,HB.o.alloc HB.o.size _⟩
namespace P
def a3r (s:Int) (n:Nat):List Int:=List.map (fun k:Nat=>(k:Int)) (a3i s n)
theorem d0t {s:Int} {n:Nat} (h:hasK s (n:Int)=true):a3r s (n+1)=a3r s n++[(n:Int)]:=by
 unfold a3r a3i;rw [List.range_succ,List.filter_append,List.map_append];simp [h]
theorem d5w {s:Int} {n:Nat} (h:hasK s (n:Int)=false):a3r s (n+1)=a3r s n:=by
 unfold a3r a3i;rw [List.range_succ,List.filter_append,List.map_append];simp [h]
theorem b3p (s:Int) (n:Nat):(a3r s n).length≤n:=by
 unfold a3r a3i;rw [List.length_map];exact Nat.le_trans (List.length_filter_le _ _) sZ
theorem c0w {s:Int} {n j:Nat} (h:j<(a3r s n).length):∃k:Nat,k<n∧(a3r s n)[j]=(k:Int)∧(a3i s n).drop j=k::(a3i s n).drop (j+1):=by
 have h':j<(a3i s n).length:=by unfold a3r at h;rwa [List.length_map]at h
 refine⟨(a3i s n)[j],b8e (List.getElem_mem h'),?_,List.drop_eq_getElem_cons h'⟩;simp only [a3r,List.getElem_map]
theorem c6s {k:Nat} (h:k<23):(labels.drop k).take 1=[lab k]:=by
 have:∀j<23,(labels.drop j).take 1=[lab j]:=by decide
 exact this k h
end P
set_option maxHeartbeats 2000000
abbrev OwnK (B:Nat) (v:World) (u:Value) (l:List Int):Prop:=v.ownsRow B 3 1 u l.length (ints l)
theorem b5c (w:World):OwnK w.heap.size (w.alloc (.cells #[] 3)) (.slice (some ⟨w.heap.size,0,none⟩) 0 0) []:=by
 have h:=World.ownsRow_lit (base:=w.heap.size) (e:=3) (size:=1) w #[] 0 lZ (Nat.zero_le _) sZ;have h2:(w.alloc (.cells #[] 3)).ownsRow w.heap.size 3 1 (.slice (some ⟨w.heap.size,0,none⟩) 0 0) 0 []:=by simpa using h
 exact h2
theorem a0i {B:Nat} {v:World} {u:Value} {l:List Int} (h:OwnK B v u l):∃a c,u=.slice a l.length c:=by
 rcases h.2 with⟨rfl,h0⟩|⟨g,cap,cur,rfl,_⟩
 ·exact⟨none,0,by rw [h0]⟩
 ·exact⟨_,_,rfl⟩
theorem b5r {w v v':World} {u u':Value} {l:List Int} {x:Int} (h:OwnK w.heap.size v u l) (hb:Below w.heap.size w v) (t:TypeId)
 (hown:v'.ownsRow w.heap.size 3 1 u' (l.length+1) (ints l++[.int .i64 x])) (hgr:(v.alloc (.cells #[.int .i64 x] t)).grownBy v' u.ownBlock):OwnK w.heap.size v' u' (l++[x])∧Below w.heap.size w v':=by
 refine⟨?_,(hb.alloc hb.size _).grown hgr (by have:=hb.size;simp;omega) (fun k hk=>(World.ownsRow.lt h k hk).1)⟩
 unfold OwnK
 rw [List.length_append]
 simpa [ints] using hown
def c5t (m:Nat) (w:World) (e:Ending) (w':World):Prop:=∃u,e=.returned u∧OwnK w.heap.size w' u (P.a3r m 23)∧Below w.heap.size w w'
theorem l2Keys (m:Nat) (w:World) (hm:m<2^23) :
 Calls Tryz.prog 186 #[.int .i64 (m:Int)] w (c5t m w):=by
 obtain⟨i0,hi,hz0,hz1,hz2⟩:=info_parts a2k
 have HM:=qh hm
 have HOW:=qh (b5c w)
 have HB0:=qh ((Below.refl w.heap.size w).alloc lZ (.cells #[] 3))
 clear hm
 go_enter Tryz.func186,Tryz.ntmps186
 go_wp2
 go_loopw [3,4] (fun u i wr=>∃k:Nat,k≤23∧i=.int .i64 k∧OwnK w.heap.size wr u (P.a3r m k)∧Below w.heap.size w wr) (fun _ i _=>23-(intOf i).toNat)
 case atStart=>exact⟨0,by omega,rfl,HOW.o,HB0.o⟩
 case round=>
  exact zq14
theorem keysOf (m:Nat) (w:World) (hm:m<2^23) :
 Calls Tryz.prog 79 #[.int .i64 (m:Int)] w (c5t m w):=by
 obtain⟨i0,hi,hz0,hz1,hz2⟩:=info_parts a2k
 have HM:=qh hm
 have HOW:=qh (b5c w)
 have HB0:=qh ((Below.refl w.heap.size w).alloc lZ (.cells #[] 3))
 clear hm
 go_enter Tryz.func79,Tryz.ntmps79
 go_wp2
 go_loopw [3,4,6] (fun u _ i wr=>∃k:Nat,k≤23∧i=.int .i64 k∧OwnK w.heap.size wr u (P.a3r m k)∧Below w.heap.size w wr) (fun _ _ i _=>23-(intOf i).toNat)
 case atStart=>exact⟨0,by omega,rfl,HOW.o,HB0.o⟩
 case round=>
  exact zq14
namespace P
theorem d3f {m h:Bool} {k:Nat} {l:List Nat} (h1:12<k) (h2:(m||a2m k)=false) (h3:h=false):fmtM m h (k::l)=45::lab k::fmtM (m||a2m k) true l:=by
 conv=>lhs;unfold fmtM
 rw [decide_eq_true h1,h2,h3];rfl
theorem a8e {m h:Bool} {k:Nat} {l:List Nat} (h1:k≤12∨(m||a2m k)=true∨h=true):fmtM m h (k::l)=lab k::fmtM (m||a2m k) h l:=by
 conv=>lhs;unfold fmtM
 rw [if_neg];rintro hc;simp only [Bool.and_eq_true,decide_eq_true_eq,Bool.not_eq_true']at hc
 rcases h1 with h1|h1|h1
 ·omega
 ·rw [hc.2.1]at h1;cases h1
 ·rw [hc.2.2]at h1;cases h1
theorem d0d {k:Nat} {l:List Nat} (h1:13≤k):fmtL false (k::l)=45::lab k::fmtL true l:=by
 conv=>lhs;unfold fmtL
 rw [decide_eq_true h1];rfl
theorem b6w {m:Bool} {k:Nat} {l:List Nat} (h1:k≤12∨m=true):fmtL m (k::l)=lab k::fmtL m l:=by
 conv=>lhs;unfold fmtL
 rw [if_neg];rintro hc;simp only [Bool.and_eq_true,decide_eq_true_eq,Bool.not_eq_true']at hc
 rcases h1 with h1|h1
 ·omega
 ·rw [hc.2]at h1;cases h1
end P
theorem c5y {B:Nat} {v:World} {ad:Option Addr} {n cap:Nat} {l:List Int} (h:OwnK B v (.slice ad n cap) l) (j:Nat) (hj:j<l.length):∃g,ad=some ⟨g,0,none⟩∧B≤g∧g<v.heap.size∧v.cell? ⟨g,j,none⟩=some (.int .i64 (l[j]'hj)):=by
 rcases id h.2 with⟨_,h0⟩|⟨g,c,cur,hv,hg,_⟩
 ·omega
 ·have hob:(Value.slice ad n cap).ownBlock=some g:=by rw [hv];rfl
  injection hv with e1 e2 e3;have hc:=World.ownsRow.cells h hob j (.int .i64 l[j]) (by simp [ints,List.getElem?_eq_getElem hj]);rw [add0]at hc;exact⟨g,e1,hg,(World.ownsRow.lt h g hob).2,hc⟩
theorem b0r (m:Nat) (w:World) (hm:m<2^23) :
 Calls Tryz.prog 109 #[.int .i64 (m:Int)] w fun e w'=>e=.returned (.string (S (P.fmt m)))∧Below w.heap.size w w':=by
 have HM:=qh hm
 have HF:=qh (P.fmt_eq (m:Int));have HFL:=qh (P.a7p (m:Int))
 clear hm
 go_enter Tryz.func109,Tryz.ntmps109
 go_wp2_with fail
 refine (l2Keys m w HM.o).mono ?_
 rintro e w1 ⟨u,rfl,ho,hb⟩
 have HO:=qh ho;have HB:=qh hb
 obtain⟨ua,uc,rfl⟩:=a0i ho
 have hkl:=P.b3p (m:Int) 23
 clear ho hb
 go_wp2
 go_loopw [3,5,6,7,8] (fun o md hy i _ wr=>∃(j:Nat) (out:Str) (mb hb:Bool),j≤(P.a3r (m:Int) 23).length∧i=.int .i64 j∧o=.string (S out)∧md=.bool mb∧hy=.bool hb∧P.fmt m=out++P.fmtM mb hb ((P.a3i (m:Int) 23).drop j)∧wr=w1) (fun _ _ _ i _ _=>(P.a3r (m:Int) 23).length-(intOf i).toNat)
 case atStart=>exact⟨0,[],false,false,Nat.zero_le _,rfl,rfl,rfl,rfl,by rw [←HF.o];rfl,rfl⟩
 case round=>
  obtain⟨j,out,mb,hy,hj,rfl,rfl,rfl,rfl,hinv,rfl⟩:=hrel;have HI:=qh hinv;have hol:out.length≤46:=by have h:=HFL.o;rw [hinv,List.length_append]at h;omega
  clear hinv
  by_cases hlt:j<(P.a3r (m:Int) 23).length
  ·obtain⟨g,rfl,_,hgl,c0⟩:=c5y HO.o j hlt;obtain⟨k,hk,he,hd⟩:=P.c0w hlt;rw [he]at c0;have HD:=qh hd;have HLT:=qh (P.c6s hk);clear he hd;generalize (P.a3r (m:Int) 23).length=n at *;have i1:(j:Int)<(n:Int):=by omega
   have i2:(k:Int)≤22:=by omega
   have hdm:decide (8≤(k:Int)∧(k:Int)≤12)=P.a2m k:=by unfold P.a2m;exact decide_eq_decide.2 oZ
   have HDM:=qh hdm;clear hdm;obtain⟨q,hq⟩:∃q,P.a2m k=q:=⟨_,rfl⟩;have HQ:=qh hq;have HDQ:=qh (HDM.o.trans hq);clear hq
   by_cases h12:12<(k:Int)
   ·cases mb
    ·cases q
     ·cases hy
      ·have HZ:=qh (show P.fmt m=((out++[45])++(P.labels.drop k).take 1)++P.fmtM (false||P.a2m k) true ((P.a3i (m:Int) 23).drop (j+1)) by rw [HI.o,HD.o,P.d3f oZ (by rw [HQ.o];rfl) rfl,HLT.o];simp);exact zq92
      ·have HZ:=qh (show P.fmt m=(out++(P.labels.drop k).take 1)++P.fmtM (false||P.a2m k) true ((P.a3i (m:Int) 23).drop (j+1)) by rw [HI.o,HD.o,P.a8e (.inr (.inr rfl)),HLT.o];simp);exact zq92
     ·have HZ:=qh (show P.fmt m=(out++(P.labels.drop k).take 1)++P.fmtM (false||P.a2m k) hy ((P.a3i (m:Int) 23).drop (j+1)) by rw [HI.o,HD.o,P.a8e (.inr (.inl (by rw [HQ.o];rfl))),HLT.o];simp);rw [HQ.o]at HZ;exact zq52
    ·exact zq181
   ·cases mb
    ·have HZ:=qh (show P.fmt m=(out++(P.labels.drop k).take 1)++P.fmtM (false||P.a2m k) hy ((P.a3i (m:Int) 23).drop (j+1)) by rw [HI.o,HD.o,P.a8e (.inl oZ),HLT.o];simp);rw [HQ.o]at HZ
     go_wp2_with (go_at_call 187;refine (l1In _ _ _ _).mono ?_;rintro e w' ⟨rfl,rfl⟩;rw [HDQ.o])
     go_roundw
     case rel=>exact⟨j+1,_,q,hy,by omega,by go_num,by first|rfl|(simp;rfl),rfl,rfl,HZ.o,by first|trivial|rfl⟩
     case measure=>simp [intOf];omega
    ·exact zq181
  ·have HE:=qh (show P.fmt m=out by
    have h:=HI.o;rw [List.drop_of_length_le (by unfold P.a3r at hlt;rw [List.length_map]at hlt;omega)]at h;rw [h];simp [P.fmtM])
   go_wp2;go_ret;exact⟨a1p HE.o.symm,HB.o⟩
theorem a2t (m:Nat) (w:World) (hm:P.a0p (m:Int)=true) :
 Calls Tryz.prog 23 #[.int .i64 (m:Int)] w fun e w'=>e=.returned (.tuple #[.string (S (P.fmt m)),.bool true])∧Below w.heap.size w w':=by
 have HS:=qh hm
 have hm23:m<2^23:=by unfold P.a0p at hm;simp only [decide_eq_true_eq]at hm;omega
 have HM:=qh hm23
 have HF:=qh (show P.fmt (m:Int)=P.fmtL (P.midK m) (P.a3i (m:Int) 23) from rfl);have HFL:=qh (P.a7p (m:Int))
 have E0:bits .and .i64 ((m:Int) / 256) 31=((m / 256 % 32:Nat):Int):=by
  have e:((m:Int) / 256)=((m / 256:Nat):Int):=by simp
  have h:=(bits_nat .i64 40 dZ b3q (m / 256) 31 oZ dZ).1;rw [e];have h':bits .and .i64 ((m / 256:Nat):Int) 31=((m / 256 &&& 31:Nat):Int):=h;rw [h',show (31:Nat)=2^5-1 from rfl,Nat.and_two_pow_sub_one_eq_mod]
 have E1:(((m / 256 % 32:Nat):Int) != 0)=P.midK m:=by
  rw [P.d4r,Bool.eq_iff_iff];simp;omega
 generalize hz:((m / 256 % 32:Nat):Int)=z at *
 obtain⟨mk,hmk⟩:∃q,P.midK (m:Int)=q:=⟨_,rfl⟩
 rw [hmk]at E1 HF
 clear hm hm23 hmk hz
 go_enter Tryz.func23,Tryz.ntmps23
 go_wp2_with fail
 refine (a4j _ _).mono ?_
 rintro e w0 ⟨rfl,rfl⟩
 rw [HS.o]
 go_wp2_with fail
 refine (keysOf m _ HM.o).mono ?_
 rintro e w1 ⟨u,rfl,ho,hb⟩
 have HO:=qh ho;have HB:=qh hb
 obtain⟨ua,uc,rfl⟩:=a0i ho
 have hkl:=P.b3p (m:Int) 23
 clear ho hb E0
 go_wp2
 go_loopw [4,5,7,18] (fun o md _ i wr=>∃(j:Nat) (out:Str) (mb:Bool),j≤(P.a3r (m:Int) 23).length∧i=.int .i64 j∧o=.string (S out)∧md=.bool mb∧P.fmt m=out++P.fmtL mb ((P.a3i (m:Int) 23).drop j)∧wr=w1) (fun _ _ _ i _=>(P.a3r (m:Int) 23).length-(intOf i).toNat)
 case atStart=>exact⟨0,[],mk,Nat.zero_le _,rfl,rfl,by first|rfl|(rw [E1]),HF.o,rfl⟩
 case round=>
  clear E1;obtain⟨j,out,mb,hj,rfl,rfl,rfl,hinv,rfl⟩:=hrel;have HI:=qh hinv;have hol:out.length≤46:=by have h:=HFL.o;rw [hinv,List.length_append]at h;omega
  clear hinv
  by_cases hlt:j<(P.a3r (m:Int) 23).length
  ·obtain⟨g,rfl,_,hgl,c0⟩:=c5y HO.o j hlt;obtain⟨k,hk,he,hd⟩:=P.c0w hlt;rw [he]at c0;have HD:=qh hd;have HLT:=qh (P.c6s hk);clear he hd;generalize (P.a3r (m:Int) 23).length=n at *;have i1:(j:Int)<(n:Int):=by omega
   have i2:(k:Int)≤22:=by omega
   by_cases h13:13≤(k:Int)
   ·cases mb
    ·have HZ:=qh (show P.fmt m=((out++[45])++(P.labels.drop k).take 1)++P.fmtL true ((P.a3i (m:Int) 23).drop (j+1)) by rw [HI.o,HD.o,P.d0d oZ,HLT.o];simp);exact zq127
    ·have HZ:=qh (show P.fmt m=(out++(P.labels.drop k).take 1)++P.fmtL true ((P.a3i (m:Int) 23).drop (j+1)) by rw [HI.o,HD.o,P.b6w (.inr rfl),HLT.o];simp);exact zq127
   ·have HZ:=qh (show P.fmt m=(out++(P.labels.drop k).take 1)++P.fmtL mb ((P.a3i (m:Int) 23).drop (j+1)) by rw [HI.o,HD.o,P.b6w (.inl oZ),HLT.o];simp);go_wp2
    go_roundw
    case rel=>exact⟨j+1,_,mb,by omega,by go_num,by first|rfl|(simp;rfl),rfl,HZ.o,by first|trivial|rfl⟩
    case measure=>simp [intOf];omega
  ·have HE:=qh (show P.fmt m=out by
    have h:=HI.o;rw [List.drop_of_length_le (by unfold P.a3r at hlt;rw [List.length_map]at hlt;omega)]at h;rw [h];simp [P.fmtL])
   have i1:¬(j:Int)<((P.a3r (m:Int) 23).length:Int):=by omega
   go_wp2;go_ret2;exact⟨by rw [HE.o];rfl,HB.o⟩
section
set_option maxHeartbeats 8000000
end
section
set_option maxHeartbeats 8000000
def P.seg (D:P.Dic) (lo hi:Nat):P.Dic:=(D.drop lo).take (hi-lo)
end
section
end
section
section
namespace P
end P
end
set_option maxHeartbeats 4000000
end
section
section
namespace P
end P
end
set_option maxHeartbeats 4000000
theorem d2l {l:P.Dic} (h:P.dic l=true) (ht:∀e∈l,e.2.length≤2^30):Small l:=
 ⟨by have:=(P.a5w h).1;omega,fun e he=>by have:=(P.a9g ((P.a5w h).2.1 e he)).2.1;omega,ht⟩
end
section
namespace P
end P
end
set_option maxHeartbeats 4000000
theorem c1n (u:Value) (l:List Int) (w:World) (hu:IntR w u l) :
 Calls Tryz.prog 155 #[u] w fun e w'=>e=.returned (.bool (P.a2z l))∧Below w.heap.size w w':=by
 have HU:=qh hu
 obtain⟨ad,cap,rfl,hl,_⟩:=hu
 by_cases h:l.length≤60
 ·have HF:=qh (show P.a2z l=l.all P.a0p by unfold P.a2z;rw [decide_eq_true h];rfl);have i1:(l.length:Int)≤60:=by omega
  clear h
  go_enter Tryz.func155,Tryz.ntmps155
  go_wp2_with fail
  refine (b6z _ l _ HU.o).mono ?_;rintro e w1 ⟨rfl,hb⟩;have HB:=qh hb;clear hb;generalize l.all P.a0p=q at *;go_wp2;go_ret;exact⟨a0a HF.o.symm,HB.o⟩
 ·have HF:=qh (show P.a2z l=false by unfold P.a2z;rw [decide_eq_false h];rfl);have i1:¬(l.length:Int)≤60:=by omega
  clear h
  go_enter Tryz.func155,Tryz.ntmps155
  go_wp2;go_ret;exact⟨a0a HF.o.symm,Below.refl _ _⟩
def PBx (W:Nat) (dv x:Value) (t:Str) (u:Value) (v:World):Prop:=
 v.cell? ⟨W,0,none⟩=some dv∧v.cell? ⟨W+1,0,none⟩=some x∧v.cell? ⟨W+1,1,none⟩=some (.string (S t))∧v.cell? ⟨W+2,0,none⟩=some (.slice none 0 0)∧v.cell? ⟨W+3,0,none⟩=some u∧v.frozen? ⟨W+2,0,none⟩=false∧v.frozen? ⟨W+3,0,none⟩=false
theorem PBx.step {W:Nat} {dv x u:Value} {t:Str} {v v':World} (h:PBx W dv x t u v) (hb:Below (W+4) v v'):PBx W dv x t u v':=by
 obtain⟨h1,h2,h3,h4,h5,h6,h7⟩:=h
 exact⟨(hb.cell (p:=⟨W,0,none⟩) (by show W<W+4;omega)).trans h1,(hb.cell (p:=⟨W+1,0,none⟩) (by show W+1<W+4;omega)).trans h2,(hb.cell (p:=⟨W+1,1,none⟩) (by show W+1<W+4;omega)).trans h3,(hb.cell (p:=⟨W+2,0,none⟩) (by show W+2<W+4;omega)).trans h4,(hb.cell (p:=⟨W+3,0,none⟩) (by show W+3<W+4;omega)).trans h5,
  (hb.frozen (p:=⟨W+2,0,none⟩) (by show W+2<W+4;omega)).trans h6,(hb.frozen (p:=⟨W+3,0,none⟩) (by show W+3<W+4;omega)).trans h7⟩
theorem PBx.put {W:Nat} {dv x u u':Value} {t:Str} {v:World} (h:PBx W dv x t u v):PBx W dv x t u' (v.setCell ⟨W+3,0,none⟩ u'):=by
 obtain⟨h1,h2,h3,h4,h5,h6,h7⟩:=h;have e:∀b o,b≠W+3→(v.setCell ⟨W+3,0,none⟩ u').cell? ⟨b,o,none⟩=v.cell? ⟨b,o,none⟩:=fun b o hb=>World.cell?_setCell_other _ _ _ _ (by intro e;injection e;omega);exact⟨(e _ _ oZ).trans h1,(e _ _ oZ).trans h2,(e _ _ oZ).trans h3,(e _ _ oZ).trans h4,World.cell?_setCell_same _ _ _ h5,by simpa using h6,by simpa using h7⟩
def OBx (C:Nat) (y:Value) (t:Str) (v:World):Prop:=v.cell? ⟨C,0,none⟩=some y∧v.cell? ⟨C,1,none⟩=some (.string (S t))∧C<v.heap.size
theorem OBx.step {C B:Nat} {y:Value} {t:Str} {v v':World} (h:OBx C y t v) (hb:Below B v v') (hC:C<B):OBx C y t v':=
 ⟨(hb.cell (p:=⟨C,0,none⟩) hC).trans h.1,(hb.cell (p:=⟨C,1,none⟩) hC).trans h.2.1,Nat.lt_of_lt_of_le h.2.2 hb.size⟩
def RP (put:Bool) (F:Blk):Blk:=fun b=>put=true∧F b
structure PFix (W C B1:Nat) (F:Blk):Prop where
 b1:W+4≤B1
 c0:W+4≤C
 c1:C<B1
 f:∀b,F b→W+4≤b∧b<B1∧b≠C
def PInv (w:World) (dv x:Value) (o:List Int) (t:Str) (C:Nat) (y:Value) (F:Blk) (B1:Nat) (put:Bool) (row:P.Dic) (u:Value) (xs:List Value) (v:World):Prop:=
 PBx w.heap.size dv x t u v∧OBx C y t v∧(put=false→Ints v F y o)∧AccR 119 2 entE B1 (RP put F) v u row xs∧Below w.heap.size w v
section
variable {w v v1 v2 v3:World} {dv x y u:Value} {o:List Int} {t:Str} {C B1:Nat} {F:Blk} {put put':Bool} {row:P.Dic} {xs:List Value}
theorem PInv.size (h:PInv w dv x o t C y F B1 put row u xs v):B1≤v.heap.size:=h.2.2.2.1.size
theorem PInv.below (h:PInv w dv x o t C y F B1 put row u xs v) (hf:PFix w.heap.size C B1 F) (hb:Below v.heap.size v v1):PInv w dv x o t C y F B1 put row u xs v1:=by
 have hz:=h.size;have h1:=hf.b1;have h2:=hf.c1;obtain⟨p1,p2,p3,p4,p5⟩:=h;exact⟨p1.step (hb.mono oZ),p2.step hb oZ,fun e=>(p3 e).below a0g hb,p4.keep a0b hb,p5.trans (hb.mono oZ)⟩
theorem PInv.done (h:PInv w dv x o t C y F B1 put row u xs v) (hf:PFix w.heap.size C B1 F) (z:Value) (hl:row.length≤2^30):Ents (v.setCell ⟨w.heap.size+2,0,none⟩ z) (Bet w.heap.size (v.setCell ⟨w.heap.size+2,0,none⟩ z).heap.size) u row∧Below w.heap.size w (v.setCell ⟨w.heap.size+2,0,none⟩ z):=by
 have h1:=hf.b1;refine⟨b5y (w.heap.size+2) (h.2.2.2.1.row hl) fun b hb=>?_,h.2.2.2.2.setCell sZ _⟩
 rcases hb.1 with h2|h2
 ·have:=hb.2;omega
 ·have:=(hf.f b h2.2).1;have:=hb.2;omega
theorem PInv.app (h:PInv w dv x o t C y F B1 put row u xs v) (hf:PFix w.heap.size C B1 F) {F':Blk} {cs:List Value} {a:P.Ent} {g cap:Nat} (hb1:Below v.heap.size v v1) (hF':∀b,F' b→(v.heap.size≤b∨(RP put' F b∧¬RP put F b))∧b<v1.heap.size) (hpp:put=true→put'=true)
 (ha:entE v1 F' cs a) (hw:cs.length=2) (hb2:Below v1.heap.size v1 v2)
 (hown:v3.ownsRow B1 119 2 (.slice (some ⟨g,0,none⟩) (row.length+1) cap) (row.length+1) (xs++cs)) (hgr:v2.grownBy v3 u.ownBlock) (hat:u.ownBlock=some g∨g=v2.heap.size) :
 PInv w dv x o t C y F B1 put' (row++[a]) (.slice (some ⟨g,0,none⟩) (row.length+1) cap) (xs++cs) (v3.setCell ⟨w.heap.size+3,0,none⟩ (.slice (some ⟨g,0,none⟩) (row.length+1) cap)):=by
 have hz:=h.size
 have f1:=hf.b1;have f2:=hf.c1;have f3:=hf.c0
 obtain⟨p1,p2,p3,p4,p5⟩:=h
 have hRb:∀q b,RP q F b→b<B1:=fun q b hb=>(hf.f b hb.2).2.1
 have hac:=p4.snoc (R':=RP put' F) (a:=a) a0b hb1 hF' (fun b hb=>⟨hpp hb.1,hb.2⟩) (hRb put') ha hw hb2 hown hgr hat
 have hz1:=hb1.size;have hz2:=hb2.size
 have hb3:Below B1 v2 v3:=bZ.grown hgr oZ (fun k hk=>(World.ownsRow.lt p4.owns k hk).1)
 have hbv:Below B1 v v3:=(hb1.mono hz).trans ((hb2.mono oZ).trans hb3)
 have hc:Chg (fun b=>b=w.heap.size+3) v3 (v3.setCell ⟨w.heap.size+3,0,none⟩ (.slice (some ⟨g,0,none⟩) (row.length+1) cap)):=(Chg.refl (fun b=>b=w.heap.size+3) v3).setCell (p:=⟨w.heap.size+3,0,none⟩) rfl _
 refine⟨(p1.step (hbv.mono f1)).put,?_,fun e=>?_,?_,(p5.trans (hbv.mono oZ)).setCell sZ _⟩
 ·have h2:=p2.step hbv f2;exact⟨(hc.cell (p:=⟨C,0,none⟩) h2.2.2 (by show C≠_;omega)).trans h2.1,(hc.cell (p:=⟨C,1,none⟩) h2.2.2 (by show C≠_;omega)).trans h2.2.1,by simpa [World.setCell] using h2.2.2⟩
 ·have e0:put=false:=by
   cases hp:put with
   |false=>rfl
   |true=>rw [hpp hp]at e;cases e
  have q:=p3 e0;have q3:Ints v3 F y o:=q.keep a0g ⟨hbv.size,fun b hb=>hbv.block b (hf.f b hb).2.1⟩;exact q3.a0e a0g hc (fun b hb e=>by have:=(hf.f b hb).1;omega)
 ·exact hac.a0e a0b hc (fun b hb=>⟨by rw [hb];omega,fun hr=>by have:=(hf.f b hr.2).1;rw [hb]at this;omega⟩)
end
def KR3 (W:Nat) (x:Value) (t:Str) (v:World):Prop:=v.cell? ⟨W+1,0,none⟩=some x∧v.cell? ⟨W+1,1,none⟩=some (.string (S t))
theorem KR3.step {W:Nat} {x:Value} {t:Str} {v v':World} (h:KR3 W x t v) (hb:Below (W+4) v v'):KR3 W x t v':=
 ⟨(hb.cell (p:=⟨W+1,0,none⟩) (by show W+1<W+4;omega)).trans h.1,(hb.cell (p:=⟨W+1,1,none⟩) (by show W+1<W+4;omega)).trans h.2⟩
def KR7 (W:Nat) (dv x:Value) (g p:Nat) (xe:Value) (v:World):Prop:=v.cell? ⟨W,0,none⟩=some dv∧v.cell? ⟨W+1,0,none⟩=some x∧v.cell? ⟨g,p,none⟩=some xe∧g<W
theorem KR7.step {W:Nat} {dv x:Value} {g p:Nat} {xe:Value} {v v':World} (h:KR7 W dv x g p xe v) (hb:Below (W+4) v v'):KR7 W dv x g p xe v':=by
 obtain⟨h1,h2,h3,h4⟩:=h;exact⟨(hb.cell (p:=⟨W,0,none⟩) (by show W<W+4;omega)).trans h1,(hb.cell (p:=⟨W+1,0,none⟩) (by show W+1<W+4;omega)).trans h2,(hb.cell (p:=⟨g,p,none⟩) (by show g<W+4;omega)).trans h3,h4⟩
def KRP (W:Nat) (dv u:Value) (g p:Nat) (x:Value) (et:Str) (v:World):Prop:=
 v.cell? ⟨W,0,none⟩=some dv∧v.cell? ⟨W+3,0,none⟩=some u∧v.cell? ⟨g,p,none⟩=some x∧v.cell? ⟨g,p+1,none⟩=some (.string (S et))∧v.frozen? ⟨W+3,0,none⟩=false∧g<W
theorem KRP.step {W:Nat} {dv u:Value} {g p:Nat} {x:Value} {et:Str} {v v':World} (h:KRP W dv u g p x et v) (hb:Below (W+4) v v'):KRP W dv u g p x et v':=by
 obtain⟨h1,h2,h3,h4,h5,h6⟩:=h
 exact⟨(hb.cell (p:=⟨W,0,none⟩) (by show W<W+4;omega)).trans h1,(hb.cell (p:=⟨W+3,0,none⟩) (by show W+3<W+4;omega)).trans h2,(hb.cell (p:=⟨g,p,none⟩) (by show g<W+4;omega)).trans h3,
  (hb.cell (p:=⟨g,p+1,none⟩) (by show g<W+4;omega)).trans h4,(hb.frozen (p:=⟨W+3,0,none⟩) (by show W+3<W+4;omega)).trans h5,h6⟩
end Go.Proofs.YtggfdnopminemaaGreatDoor
