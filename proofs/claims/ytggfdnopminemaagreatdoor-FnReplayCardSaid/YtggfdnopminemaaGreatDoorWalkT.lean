/- Walks: lists of atoms. -/
import Derived.Test.YtggfdnopminemaaGreatDoorFmtI3
set_option linter.all false
namespace Go.Proofs.YtggfdnopminemaaGreatDoor
open Go.Proofs.Tryz
variable {l:List Int} {B:Nat} {s:P.St} {u:Go.Value} {v v' w:Go.World}
namespace P
def a7k (s:St) (k:Int) (t:Bs):St×Bool:=if atom k t then (if 2000<(apply s k t).text.length then (⟨[],false,false,0,0⟩,false) else (apply s k t,true)) else (⟨[],false,false,0,0⟩,false)
theorem d7n {s:St} {a:Int×Bs} {l:List (Int×Bs)} (hg:a3k s) (hl:s.text.length<=2000):runA s (a::l)=if (a7k s a.1 a.2).2 then runA (a7k s a.1 a.2).1 l else none:=by
 conv=>lhs;unfold runA
 rw [b0e.2 ⟨hg,hl⟩,Bool.true_and];unfold a7k
 split
 .split
  .rfl
  .rfl
 .rfl
theorem c7u {s:St} {k:Int} {t:Bs} (hg:a3k s) (h:(a7k s k t).2=true):a3k (a7k s k t).1/\(a7k s k t).1.text.length<=2000:=by
 unfold a7k at h⊢
 split at h
 .rename_i ha
  rw [if_pos ha]
  split at h
  .cases h
  .rename_i hl
   rw [if_neg hl];exact⟨b0d hg ha,by simp only;omega⟩
 .cases h
theorem c2u {k:Int} {t:Bs} (h:atom k t=true):1<=k/\k<=10:=by
 have h2:=(b3i h).2.2;exact h2
end P
open Go Go.RowKit
set_option maxHeartbeats 8000000
set_option maxRecDepth 100000
theorem e3h (b:Nat) (s:P.St) (k:Int) (t:Str) (w:World) (hb:a0t b s w) (hg:P.a3k s) (hl:s.text.length<=2^29) (ha:P.atom k t=true) :
 Cz 334 #[.pointer (some ⟨b,0,none⟩),.agg #[.int .i64 k,.string (S t)]] w (a6c b (P.apply s k t) w):=by
 obtain⟨tx,jn,gl,cp,wd⟩:=s
 have hk:=P.c2u ha
 have ht:t.length<=2^29:=by have:=(P.a6p ha).2;omega
 have h1:=hg.2.1
 have h2:=hg.2.2
 simp only at hl h1 h2
 have hk10:k=1\/k=2\/k=3\/k=4\/k=5\/k=6\/k=7\/k=8\/k=9\/k=10:=by omega
 rcases hk10 with rfl|rfl|rfl|rfl|rfl|rfl|rfl|rfl|rfl|rfl
 .exact d9q b tx jn gl cp wd t w hb h1 h2 hl ht
 .exact d8i b tx jn gl cp wd t w hb h1 h2 hl ht
 .exact e1a b tx jn gl cp wd t w hb h1 h2 hl ht
 .exact e1g b tx jn gl cp wd t w hb h1 h2 hl ht
 .exact e0z b tx jn gl cp wd t w hb h1 h2 hl ht
 .exact e0d b tx jn gl cp wd t w hb h1 h2 hl ht
 .exact d9v b tx jn gl cp wd t w hb h1 h2 hl ht
 .exact e0k b tx jn gl cp wd t w hb h1 h2 hl ht
 .exact d8w b tx jn gl cp wd t w hb h1 h2 hl ht
 .exact d7f b tx jn gl cp wd t w hb h1 h2 hl ht
theorem b4m (s:P.St) (w:World) (hs:s.text.length<=2^40) :
 Cz 287 #[stV s] w λe w'=>e=.returned (.bool (P.stOk s))/\Bl w w':=by
 obtain⟨t,jn,gl,cp,wd⟩:=s;simp only at hs;refine zm42 ?_;intro HB0 hf;obtain⟨q1,hq1⟩:∃q,t.all P.prn=q:=⟨_,rfl⟩;obtain⟨q2,hq2⟩:∃q,decide (0<=cp/\cp<=2)=q:=⟨_,rfl⟩;have HQ1:=qh hq1;have HQ2:=qh hq2;by_cases h0:(t.length:Int)<=2000
 .rw [decide_eq_true h0,hq1,hq2]at hf;have HF:=qh hf;clear hf hq1 hq2
  cases q1
  .go_enter func287,ntmps287
   go_wp2_with (first|(go_at_call 134;refine (a3q _ _ hs).mono ?_;rintro e w' ⟨rfl,rfl⟩;rw [HQ1.o])|(go_at_call 74;refine (a1x _ _ _ _).mono ?_;rintro e w' ⟨rfl,rfl⟩))
   go_ret;exact⟨a0a (by rw [HF.o];rfl),HB0.o⟩
  .cases q2
   .go_enter func287,ntmps287
    go_wp2_with (first|(go_at_call 134;refine (a3q _ _ hs).mono ?_;rintro e w' ⟨rfl,rfl⟩;rw [HQ1.o])|(go_at_call 74;refine (a1x _ _ _ _).mono ?_;rintro e w' ⟨rfl,rfl⟩;try rw [HQ2.o]))
    go_ret;exact⟨a0a (by rw [HF.o];rfl),HB0.o⟩
   .go_enter func287,ntmps287
    go_wp2_with (first|(go_at_call 134;refine (a3q _ _ hs).mono ?_;rintro e w' ⟨rfl,rfl⟩;rw [HQ1.o])|(go_at_call 74;refine (a1x _ _ _ _).mono ?_;rintro e w' ⟨rfl,rfl⟩;try rw [HQ2.o]))
    go_ret;exact⟨a0a (by rw [HF.o];simp),HB0.o⟩
 .rw [decide_eq_false h0]at hf;have HF:=qh hf;clear hf hq1 hq2
  go_enter func287,ntmps287
  go_wp2;go_ret;exact⟨a0a (by rw [HF.o];rfl),HB0.o⟩
def ApPost (r:P.St×Bool) (w:World) (e:Ending) (w':World):Prop:=e=.returned (.tuple #[stV r.1,.bool r.2])/\Bl w w'
theorem d3j (s:P.St) (k:Int) (t:Str) (w:World) (hg:P.a3k s) (hl:s.text.length<=2000) (ht:t.length<=2^29) :
 Cz 288 #[stV s,.agg #[.int .i64 k,.string (S t)]] w (ApPost (P.a7k s k t) w):=by
 have HG:=qh hg
 have HSO:=qh (P.b0e.2 ⟨hg,hl⟩)
 have HN:=qh (SAp.new w s k t)
 obtain⟨tx,jn,gl,cp,wd⟩:=s
 simp only at hl
 clear hg
 go_enter func288,ntmps288
 go_wp2_with fail
 refine (b4m ⟨tx,jn,gl,cp,wd⟩ _ (by simp only;omega)).mono ?_
 rintro e w1 ⟨rfl,hb⟩
 rw [HSO.o]
 have H1:=qh (HN.o.below hb)
 clear hb HN
 obtain⟨⟨⟨a0,a1,a2,a3,a4⟩,⟨f0,f1,f2,f3,f4⟩,hlt⟩,⟨k0,k1,hlk⟩,⟨⟨b0,b1,b2,b3,b4⟩,⟨g0,g1,g2,g3,g4⟩,hlr⟩,_⟩:=H1.o
 simp only at a0 a1 a2 a3 a4 b0 b1 b2 b3 b4
 go_wp2_with fail
 refine (isValidAtom k t _ (by unfold maxLen;omega)).mono ?_
 rintro e w2 ⟨rfl,hb⟩
 have H2:=qh (H1.o.below hb)
 clear hb H1
 clear a0 a1 a2 a3 a4 hlt f0 f1 f2 f3 f4 k0 k1 hlk b0 b1 b2 b3 b4 hlr g0 g1 g2 g3 g4
 obtain⟨⟨⟨a0,a1,a2,a3,a4⟩,⟨f0,f1,f2,f3,f4⟩,hlt⟩,⟨k0,k1,hlk⟩,⟨⟨b0,b1,b2,b3,b4⟩,⟨g0,g1,g2,g3,g4⟩,hlr⟩,_⟩:=H2.o
 simp only at a0 a1 a2 a3 a4 b0 b1 b2 b3 b4
 obtain⟨q,hq⟩:∃q,P.atom k t=q:=⟨_,rfl⟩
 have HQ:=qh hq
 rw [hq]
 clear hq
 cases q
 .have HA:=qh (show P.a7k ⟨tx,jn,gl,cp,wd⟩ k t=(⟨[],false,false,0,0⟩,false) by unfold P.a7k;rw [HQ.o];rfl);go_wp2;refine bodyPost_ret (v:=.tuple #[stV st0,.bool false]) (by simp [results,results288,go_sem,b0,b1,b2,b3,b4]) rfl ⟨by rw [HA.o],?_⟩
  repeat (refine Below.setCell ?_ (by first|(simp;done)|(simp;omega)) _)
  exact H2.o.2.2.2
 .have HA:=qh (show P.a7k ⟨tx,jn,gl,cp,wd⟩ k t=if 2000<(P.apply ⟨tx,jn,gl,cp,wd⟩ k t).text.length then (⟨[],false,false,0,0⟩,false) else (P.apply ⟨tx,jn,gl,cp,wd⟩ k t,true) by unfold P.a7k;rw [HQ.o];rfl)
  go_wp2_with fail
  refine (e3h w.heap.size ⟨tx,jn,gl,cp,wd⟩ k t _ H2.o.1 HG.o (by simp only;omega) HQ.o).mono ?_;rintro e w3 ⟨rfl,hb3,hc3⟩;have H3:=qh (H2.o.turn hc3 hb3);clear hb3 hc3 H2;clear a0 a1 a2 a3 a4 hlt f0 f1 f2 f3 f4 k0 k1 hlk b0 b1 b2 b3 b4 hlr g0 g1 g2 g3 g4;generalize P.apply ⟨tx,jn,gl,cp,wd⟩ k t=r at *;obtain⟨rt,rj,rg,rc,rw⟩:=r;obtain⟨⟨⟨a0,a1,a2,a3,a4⟩,⟨f0,f1,f2,f3,f4⟩,hlt⟩,⟨k0,k1,hlk⟩,⟨⟨b0,b1,b2,b3,b4⟩,⟨g0,g1,g2,g3,g4⟩,hlr⟩,_⟩:=H3.o;simp only at a0 a1 a2 a3 a4 b0 b1 b2 b3 b4
  by_cases h2:2000<rt.length
  .have i1:(2000:Int)<(rt.length:Int):=by omega
   have HE:=qh (HA.o.trans (if_pos h2));clear h2;go_wp2;refine bodyPost_ret (v:=.tuple #[stV st0,.bool false]) (by simp [results,results288,go_sem,b0,b1,b2,b3,b4]) rfl ⟨by rw [HE.o],?_⟩
   repeat (refine Below.setCell ?_ (by first|(simp;done)|(simp;omega)) _)
   exact H3.o.2.2.2
  .have i1:¬(2000:Int)<(rt.length:Int):=by omega
   have HE:=qh (HA.o.trans (if_neg h2));clear h2;go_wp2;refine bodyPost_ret (v:=.tuple #[stV ⟨rt,rj,rg,rc,rw⟩,.bool true]) (by simp [results,results288,go_sem,b0,b1,b2,b3,b4]) rfl ⟨by rw [HE.o],?_⟩
   repeat (refine Below.setCell ?_ (by first|(simp;done)|(simp;omega)) _)
   exact H3.o.2.2.2
theorem b9n.below {g:Nat} {l:List (Int×Str)} (h:b9n g l v) (hg:g<v.heap.size) (hb:Bl v v'):b9n g l v':=
 λj hj=>⟨(hb.cell (p:=⟨g,_,none⟩) hg).trans (h j hj).1,(hb.cell (p:=⟨g,_,none⟩) hg).trans (h j hj).2⟩
theorem b8n.below {l:List (Int×Str)} (h:b8n v u l) (hb:Bl v v'):b8n v' u l:=by
 obtain⟨ad,cap,h1,h2⟩:=h;refine⟨ad,cap,h1,h2.imp id ?_⟩;rintro⟨g,h3,h4,h5⟩;exact⟨g,h3,Nat.lt_of_lt_of_le h4 hb.size,h5.below h4 hb⟩
def c2a (w:World) (s:P.St) (v:World):Prop:=a0t w.heap.size s v/\a0t (w.heap.size+1) st0 v/\Bl w v
theorem c2a.below (h:c2a w s v) (hb:Bl v v'):c2a w s v':=⟨h.1.below hb,h.2.1.below hb,h.2.2.trans (hb.mono h.2.2.size)⟩
theorem c2a.state (h:c2a w s v) (tx:Str) (jn gl:Bool) (cp:Int) (wd:Nat) :
 c2a w ⟨tx,jn,gl,cp,wd⟩ (((((v.setCell ⟨w.heap.size,0,none⟩ (.string (S tx))).setCell ⟨w.heap.size,1,none⟩ (.bool jn)).setCell ⟨w.heap.size,2,none⟩ (.bool gl)).setCell ⟨w.heap.size,3,none⟩ (.int .i64 cp)).setCell ⟨w.heap.size,4,none⟩ (.int .i64 (wd:Int))):=by
 have hc:Chg (λb=>b=w.heap.size) v (((((v.setCell ⟨w.heap.size,0,none⟩ (.string (S tx))).setCell ⟨w.heap.size,1,none⟩ (.bool jn)).setCell ⟨w.heap.size,2,none⟩ (.bool gl)).setCell ⟨w.heap.size,3,none⟩ (.int .i64 cp)).setCell ⟨w.heap.size,4,none⟩ (.int .i64 (wd:Int))):=(((((Chg.put (Chg.refl _ _) _).put _).put _).put _).put _)
 exact⟨(((((h.1.text tx).a0u jn).a4j gl).cap cp).word wd),h.2.1.a0b hc oZ,h.2.2.trans (hc.below (Nat.le_of_lt h.1.2.2) (λb e=>by omega))⟩
def e4w (o:Option P.St) (w:World) (e:Ending) (w':World):Prop:=e=.returned (.tuple #[stV (o.getD st0),.bool o.isSome])/\Bl w w'
theorem d1c (s:P.St) (u:Value) (l:List (Int×Str)) (w:World) (hg:P.a3k s) (hl:s.text.length<=2000) (hu:b8n w u l) (h6:l.length<=600) (ht:∀x∈l,x.2.length<=2^29) :
 Cz 227 #[stV s,u] w (e4w (P.runA s l) w):=by
 have hb0:Bl w ((w.alloc (a1c s)).alloc (a1c st0)):=((Below.refl w.heap.size w).alloc lZ _).alloc sZ _
 have HN:=qh (show c2a w s ((w.alloc (a1c s)).alloc (a1c st0)) from⟨(a0t.new s w).below (bZ.alloc lZ (a1c st0)),by have h:=a0t.new st0 (w.alloc (a1c s));simpa using h,hb0⟩)
 have HU:=qh hu;have HT:=qh ht
 have HG:=qh hg;have HL:=qh hl
 have HSO:=qh (P.b0e.2 ⟨hg,hl⟩)
 obtain⟨ad,cap,rfl,hr⟩:=hu
 have HR:=qh hr
 obtain⟨tx,jn,gl,cp,wd⟩:=s
 simp only at hl
 have i6:¬(600:Int)<(l.length:Int):=by omega
 clear hb0 hg ht hr
 go_enter func227,ntmps227
 go_wp2_with fail
 refine (b4m ⟨tx,jn,gl,cp,wd⟩ _ (by simp only;omega)).mono ?_
 rintro e w1 ⟨rfl,hb⟩
 rw [HSO.o]
 have H1:=qh (HN.o.below hb)
 clear hb HN HSO hl
 go_wp2_with fail
 go_loopw [21] (λi wr=>∃(j:Nat) (s':P.St),j<=l.length/\i=.int .i64 j/\P.a3k s'/\s'.text.length<=2000/\P.runA ⟨tx,jn,gl,cp,wd⟩ l=P.runA s' (l.drop j)/\c2a w s' wr) (λi _=>l.length-(intOf i).toNat)
 case atStart=>exact⟨0,_,Nat.zero_le _,rfl,HG.o,HL.o,rfl,H1.o⟩
 case round=>
  clear H1 HG HL;obtain⟨j,s',hj,rfl,hg,hl,hrun,hs⟩:=hrel;have HG:=qh hg;have HL:=qh hl;have HRUN:=qh hrun;have HS:=qh hs;clear hg hl hrun
  by_cases hlt:j<l.length
  .obtain⟨g,hga,hgl,hat⟩:=HR.o.resolve_left (by intro e;rw [e]at hlt;simp at hlt);subst hga;obtain⟨c0',c1'⟩:=hat j hlt;have c0:=(hs.2.2.cell (p:=⟨g,j*2,none⟩) hgl).trans c0';have c1:=(hs.2.2.cell (p:=⟨g,j*2+1,none⟩) hgl).trans c1';have hxt:=HT.o _ (List.getElem_mem hlt);have HD:=qh (List.drop_eq_getElem_cons hlt);have hgr:g<wr.heap.size:=Nat.lt_of_lt_of_le hgl hs.2.2.size;obtain⟨⟨⟨a0,a1,a2,a3,a4⟩,⟨f0,f1,f2,f3,f4⟩,hlb⟩,⟨⟨b0,b1,b2,b3,b4⟩,⟨g0,g1,g2,g3,g4⟩,hlr⟩,hbw⟩:=hs;generalize l[j]=x at *;obtain⟨k,t⟩:=x;obtain⟨stx,sjn,sgl,scp,swd⟩:=s';simp only at a0 a1 a2 a3 a4 c0 c1 hxt;have i1:(j:Int)<(l.length:Int):=by omega
   clear hbw hat c0' c1'
   go_wp2_with fail
   refine (d3j ⟨stx,sjn,sgl,scp,swd⟩ k t _ HG.o HL.o hxt).mono ?_;rintro e w2 ⟨rfl,hb⟩;have hb2:Bl wr w2:=(bZ.alloc lZ _).trans (hb.mono sZ);have H2:=qh (HS.o.below hb2);clear hb hb2 a0 a1 a2 a3 a4 f0 f1 f2 f3 f4 hlb b0 b1 b2 b3 b4 g0 g1 g2 g3 g4 hlr c0 c1;have HST:=qh (P.d7n (s:=⟨stx,sjn,sgl,scp,swd⟩) (a:=(k,t)) (l:=l.drop (j+1)) HG.o HL.o);have HGO:=qh (P.c7u (s:=⟨stx,sjn,sgl,scp,swd⟩) (k:=k) (t:=t) HG.o);simp only at HST;obtain⟨r,hr⟩:∃r,P.a7k ⟨stx,sjn,sgl,scp,swd⟩ k t=r:=⟨_,rfl⟩;rw [hr]at HST HGO;rw [hr];clear hr HS;obtain⟨⟨rt,rj,rg,rc,rw⟩,q⟩:=r
   go_upto_region 7 with fail
   have H3:Hq (c2a w ⟨stx,sjn,sgl,scp,swd⟩ (w2.alloc (.cells #[.string (S rt),.bool rj,.bool rg,.int .i64 rc,.int .i64 (rw:Int)] 225))):=⟨H2.o.below (bZ.alloc lZ _)⟩;have HNX:Hq (a0t w2.heap.size ⟨rt,rj,rg,rc,rw⟩ (w2.alloc (.cells #[.string (S rt),.bool rj,.bool rg,.int .i64 rc,.int .i64 (rw:Int)] 225))):=⟨a0t.new ⟨rt,rj,rg,rc,rw⟩ w2⟩;generalize (World.alloc _ _)=w3 at *;obtain⟨⟨⟨a0,a1,a2,a3,a4⟩,⟨f0,f1,f2,f3,f4⟩,hlb⟩,⟨⟨b0,b1,b2,b3,b4⟩,⟨g0,g1,g2,g3,g4⟩,hlr⟩,_⟩:=H3.o;simp only at a0 a1 a2 a3 a4 b0 b1 b2 b3 b4;clear H2
   cases q
   .have HE:=qh (show P.runA ⟨tx,jn,gl,cp,wd⟩ l=none by rw [HRUN.o,HD.o,HST.o];rfl);go_wp2;refine bodyPost_ret (v:=.tuple #[stV st0,.bool false]) (by simp [results,results227,go_sem,b0,b1,b2,b3,b4]) rfl ⟨by rw [HE.o];rfl,?_⟩
    repeat (refine Below.setCell ?_ (by first|(simp;done)|(simp;omega)) _)
    exact H3.o.2.2
   .obtain⟨hgn,hln⟩:=HGO.o rfl;have HGN:=qh hgn;have HLN:=qh hln;have HE:=qh (show P.runA ⟨tx,jn,gl,cp,wd⟩ l=P.runA ⟨rt,rj,rg,rc,rw⟩ (l.drop (j+1)) by rw [HRUN.o,HD.o,HST.o];rfl);have H4:=qh (H3.o.state rt rj rg rc rw);obtain⟨⟨d0,d1,d2,d3,d4⟩,_,_⟩:=HNX.o;simp only at d0 d1 d2 d3 d4;clear hgn hln;go_wp2
    go_roundw
    case rel=>exact⟨j+1,⟨rt,rj,rg,rc,rw⟩,by omega,by go_num,HGN.o,HLN.o,HE.o,H4.o⟩
    case measure=>exact zq
  .have HE:=qh (show P.runA ⟨tx,jn,gl,cp,wd⟩ l=some s' by rw [HRUN.o,List.drop_of_length_le oZ];rfl);obtain⟨stx,sjn,sgl,scp,swd⟩:=s';obtain⟨⟨⟨a0,a1,a2,a3,a4⟩,⟨f0,f1,f2,f3,f4⟩,hlb⟩,⟨⟨b0,b1,b2,b3,b4⟩,⟨g0,g1,g2,g3,g4⟩,hlr⟩,_⟩:=hs;simp only at a0 a1 a2 a3 a4 b0 b1 b2 b3 b4;have i1:¬(j:Int)<(l.length:Int):=by omega
   go_wp2;refine bodyPost_ret (v:=.tuple #[stV ⟨stx,sjn,sgl,scp,swd⟩,.bool true]) (by simp [results,results227,go_sem,b0,b1,b2,b3,b4]) rfl ⟨by rw [HE.o];rfl,?_⟩
   repeat (refine Below.setCell ?_ (by first|(simp;done)|(simp;omega)) _)
   exact HS.o.2.2
def a9u (r:Str×Bool) (w:World) (e:Ending) (w':World):Prop:=e=.returned (.tuple #[.string (S r.1),.bool r.2])/\Bl w w'
theorem c6z (u:Value) (l:List (Int×Str)) (w:World) (hu:b8n w u l) (h6:l.length<=600) (ht:∀x∈l,x.2.length<=2^29) :
 Cz 157 #[u] w (a9u (P.render l) w):=by
 have HR:=qh (show P.render l=(P.a6l (P.runA P.init l),(P.runA P.init l).isSome) by unfold P.render;rw [if_neg oZ])
 have HU:=qh hu
 obtain⟨ad,cap,rfl,_⟩:=hu
 go_enter func157,ntmps157
 go_wp2_with fail
 refine (d1c P.init _ l _ P.a7e dZ HU.o h6 ht).mono ?_
 rintro e w1 ⟨rfl,hb⟩
 have HB:=qh hb
 clear hb
 generalize P.runA P.init l=o at *
 cases o with
 |none=>
  go_wp2;go_ret2;exact⟨by rw [HR.o];rfl,HB.o.alloc HB.o.size _⟩
 |some s=>
  obtain⟨tx,jn,gl,cp,wd⟩:=s;go_wp2;go_ret2;exact⟨by rw [HR.o];rfl,HB.o.alloc HB.o.size _⟩
namespace P
def a4p (s:Int) (n:Nat):List Int:=List.map (λk:Nat=>(k:Int)) (a3p s n)
theorem d7w {s:Int} {n:Nat} (h:hasK s (n:Int)=true):a4p s (n+1)=a4p s n++[(n:Int)]:=by
 unfold a4p a3p;rw [List.range_succ,List.filter_append,List.map_append];simp [h]
theorem d9l {s:Int} {n:Nat} (h:hasK s (n:Int)=false):a4p s (n+1)=a4p s n:=by
 unfold a4p a3p;rw [List.range_succ,List.filter_append,List.map_append];simp [h]
theorem b6q (s:Int) (n:Nat):(a4p s n).length<=n:=by
 unfold a4p a3p;rw [List.length_map];exact Nat.le_trans (List.length_filter_le _ _) sZ
theorem c3z {s:Int} {n j:Nat} (h:j<(a4p s n).length):∃k:Nat,k<n/\(a4p s n)[j]=(k:Int)/\(a3p s n).drop j=k::(a3p s n).drop (j+1):=by
 have h':j<(a3p s n).length:=by unfold a4p at h;rwa [List.length_map]at h
 refine⟨(a3p s n)[j],b3c (List.getElem_mem h'),?_,List.drop_eq_getElem_cons h'⟩;simp only [a4p,List.getElem_map]
theorem c9f {k:Nat} (h:k<23):(labels.drop k).take 1=[lab k]:=by
 have:∀j<23,(labels.drop j).take 1=[lab j]:=by decide
 exact this k h
end P
abbrev OwnK (B:Nat) (v:World) (u:Value) (l:List Int):Prop:=v.ownsRow B 3 1 u l.length (ints l)
theorem b6i (w:World):OwnK w.heap.size (w.alloc (.cells #[] 3)) (.slice (some ⟨w.heap.size,0,none⟩) 0 0) []:=by
 have h:=World.ownsRow_lit (base:=w.heap.size) (e:=3) (size:=1) w #[] 0 lZ (Nat.zero_le _) sZ;have h2:(w.alloc (.cells #[] 3)).ownsRow w.heap.size 3 1 (.slice (some ⟨w.heap.size,0,none⟩) 0 0) 0 []:=by simpa using h
 exact h2
theorem a0h (h:OwnK B v u l):∃a c,u=.slice a l.length c:=by
 rcases h.2 with⟨rfl,h0⟩|⟨g,cap,cur,rfl,_⟩
 .exact⟨none,0,by rw [h0]⟩
 .exact⟨_,_,rfl⟩
theorem b6n {u':Value} {x:Int} (h:OwnK w.heap.size v u l) (hb:Bl w v) (t:TypeId)
 (hown:v'.ownsRow w.heap.size 3 1 u' (l.length+1) (ints l++[.int .i64 x])) (hgr:(v.alloc (.cells #[.int .i64 x] t)).grownBy v' u.ownBlock):OwnK w.heap.size v' u' (l++[x])/\Bl w v':=by
 refine⟨?_,(hb.alloc hb.size _).grown hgr (by have:=hb.size;simp;omega) (λk hk=>(World.ownsRow.lt h k hk).1)⟩
 unfold OwnK
 rw [List.length_append]
 simpa [ints] using hown
def c8r (m:Nat) (w:World) (e:Ending) (w':World):Prop:=∃u,e=.returned u/\OwnK w.heap.size w' u (P.a4p m 23)/\Bl w w'
theorem l2Keys (m:Nat) (w:World) (hm:m<2^23) :
 Cz 186 #[.int .i64 (m:Int)] w (c8r m w):=by
 obtain⟨i0,hi,hz0,hz1,hz2⟩:=info_parts a2i
 have HM:=qh hm
 have HOW:=qh (b6i w)
 have HB0:=qh ((Below.refl w.heap.size w).alloc lZ (.cells #[] 3))
 clear hm
 go_enter func186,ntmps186
 go_wp2
 go_loopw [3,4] (λu i wr=>∃k:Nat,k<=23/\i=.int .i64 k/\OwnK w.heap.size wr u (P.a4p m k)/\Bl w wr) (λ_ i _=>23-(intOf i).toNat)
 case atStart=>exact⟨0,by omega,rfl,HOW.o,HB0.o⟩
 case round=>
  exact zq12
theorem keysOf (m:Nat) (w:World) (hm:m<2^23) :
 Cz 79 #[.int .i64 (m:Int)] w (c8r m w):=by
 obtain⟨i0,hi,hz0,hz1,hz2⟩:=info_parts a2i
 have HM:=qh hm
 have HOW:=qh (b6i w)
 have HB0:=qh ((Below.refl w.heap.size w).alloc lZ (.cells #[] 3))
 clear hm
 go_enter func79,ntmps79
 go_wp2
 go_loopw [3,4,6] (λu _ i wr=>∃k:Nat,k<=23/\i=.int .i64 k/\OwnK w.heap.size wr u (P.a4p m k)/\Bl w wr) (λ_ _ i _=>23-(intOf i).toNat)
 case atStart=>exact⟨0,by omega,rfl,HOW.o,HB0.o⟩
 case round=>
  exact zq12
namespace P
theorem d4s {m h:Bool} {k:Nat} {l:List Nat} (h1:12<k) (h2:(m||a3e k)=false) (h3:h=false):fmtM m h (k::l)=45::lab k::fmtM (m||a3e k) true l:=by
 conv=>lhs;unfold fmtM
 rw [decide_eq_true h1,h2,h3];rfl
theorem b0h {m h:Bool} {k:Nat} {l:List Nat} (h1:k<=12\/(m||a3e k)=true\/h=true):fmtM m h (k::l)=lab k::fmtM (m||a3e k) h l:=by
 conv=>lhs;unfold fmtM
 rw [if_neg];rintro hc;simp only [Bool.and_eq_true,decide_eq_true_eq,Bool.not_eq_true']at hc
 rcases h1 with h1|h1|h1
 .omega
 .rw [hc.2.1]at h1;cases h1
 .rw [hc.2.2]at h1;cases h1
theorem d6u {k:Nat} {l:List Nat} (h1:13<=k):fmtL false (k::l)=45::lab k::fmtL true l:=by
 conv=>lhs;unfold fmtL
 rw [decide_eq_true h1];rfl
theorem b8q {m:Bool} {k:Nat} {l:List Nat} (h1:k<=12\/m=true):fmtL m (k::l)=lab k::fmtL m l:=by
 conv=>lhs;unfold fmtL
 rw [if_neg];rintro hc;simp only [Bool.and_eq_true,decide_eq_true_eq,Bool.not_eq_true']at hc
 rcases h1 with h1|h1
 .omega
 .rw [hc.2]at h1;cases h1
end P
theorem c8n {ad:Option Addr} {n cap:Nat} (h:OwnK B v (.slice ad n cap) l) (j:Nat) (hj:j<l.length):∃g,ad=some ⟨g,0,none⟩/\B<=g/\g<v.heap.size/\v.cell? ⟨g,j,none⟩=some (.int .i64 (l[j]'hj)):=by
 rcases id h.2 with⟨_,h0⟩|⟨g,c,cur,hv,hg,_⟩
 .omega
 .have hob:(Value.slice ad n cap).ownBlock=some g:=by rw [hv];rfl
  injection hv with e1 e2 e3;have hc:=World.ownsRow.cells h hob j (.int .i64 l[j]) (by simp [ints,List.getElem?_eq_getElem hj]);rw [add0]at hc;exact⟨g,e1,hg,(World.ownsRow.lt h g hob).2,hc⟩
theorem b0g (m:Nat) (w:World) (hm:m<2^23) :
 Cz 109 #[.int .i64 (m:Int)] w λe w'=>e=.returned (.string (S (P.fmt m)))/\Bl w w':=by
 have HM:=qh hm
 have HF:=qh (P.fmt_eq (m:Int));have HFL:=qh (P.a8o (m:Int))
 clear hm
 go_enter func109,ntmps109
 go_wp2_with fail
 refine (l2Keys m w HM.o).mono ?_
 rintro e w1 ⟨u,rfl,ho,hb⟩
 have HO:=qh ho;have HB:=qh hb
 obtain⟨ua,uc,rfl⟩:=a0h ho
 have hkl:=P.b6q (m:Int) 23
 clear ho hb
 go_wp2
 go_loopw [3,5,6,7,8] (λo md hy i _ wr=>∃(j:Nat) (out:Str) (mb hb:Bool),j<=(P.a4p (m:Int) 23).length/\i=.int .i64 j/\o=.string (S out)/\md=.bool mb/\hy=.bool hb/\P.fmt m=out++P.fmtM mb hb ((P.a3p (m:Int) 23).drop j)/\wr=w1) (λ_ _ _ i _ _=>(P.a4p (m:Int) 23).length-(intOf i).toNat)
 case atStart=>exact⟨0,[],false,false,Nat.zero_le _,rfl,rfl,rfl,rfl,by rw [<-HF.o];rfl,rfl⟩
 case round=>
  obtain⟨j,out,mb,hy,hj,rfl,rfl,rfl,rfl,hinv,rfl⟩:=hrel;have HI:=qh hinv;have hol:out.length<=46:=by have h:=HFL.o;rw [hinv,List.length_append]at h;omega
  clear hinv
  by_cases hlt:j<(P.a4p (m:Int) 23).length
  .obtain⟨g,rfl,_,hgl,c0⟩:=c8n HO.o j hlt;obtain⟨k,hk,he,hd⟩:=P.c3z hlt;rw [he]at c0;have HD:=qh hd;have HLT:=qh (P.c9f hk);clear he hd;generalize (P.a4p (m:Int) 23).length=n at *;have i1:(j:Int)<(n:Int):=by omega
   have i2:(k:Int)<=22:=by omega
   have hdm:decide (8<=(k:Int)/\(k:Int)<=12)=P.a3e k:=by unfold P.a3e;exact decide_eq_decide.2 oZ
   have HDM:=qh hdm;clear hdm;obtain⟨q,hq⟩:∃q,P.a3e k=q:=⟨_,rfl⟩;have HQ:=qh hq;have HDQ:=qh (HDM.o.trans hq);clear hq
   by_cases h12:12<(k:Int)
   .cases mb
    .cases q
     .cases hy
      .have HZ:=qh (show P.fmt m=((out++[45])++(P.labels.drop k).take 1)++P.fmtM (false||P.a3e k) true ((P.a3p (m:Int) 23).drop (j+1)) by rw [HI.o,HD.o,P.d4s oZ (by rw [HQ.o];rfl) rfl,HLT.o];simp);exact zq99
      .have HZ:=qh (show P.fmt m=(out++(P.labels.drop k).take 1)++P.fmtM (false||P.a3e k) true ((P.a3p (m:Int) 23).drop (j+1)) by rw [HI.o,HD.o,P.b0h (.inr (.inr rfl)),HLT.o];simp);exact zq99
     .have HZ:=qh (show P.fmt m=(out++(P.labels.drop k).take 1)++P.fmtM (false||P.a3e k) hy ((P.a3p (m:Int) 23).drop (j+1)) by rw [HI.o,HD.o,P.b0h (.inr (.inl (by rw [HQ.o];rfl))),HLT.o];simp);rw [HQ.o]at HZ;exact zq53
    .exact zq193
   .cases mb
    .have HZ:=qh (show P.fmt m=(out++(P.labels.drop k).take 1)++P.fmtM (false||P.a3e k) hy ((P.a3p (m:Int) 23).drop (j+1)) by rw [HI.o,HD.o,P.b0h (.inl oZ),HLT.o];simp);rw [HQ.o]at HZ
     go_wp2_with (go_at_call 187;refine (l1In _ _ _ _).mono ?_;rintro e w' ⟨rfl,rfl⟩;rw [HDQ.o])
     go_roundw
     case rel=>exact⟨j+1,_,q,hy,by omega,by go_num,by first|rfl|(simp;rfl),rfl,rfl,HZ.o,by first|trivial|rfl⟩
     case measure=>exact zq
    .exact zq193
  .have HE:=qh (show P.fmt m=out by
    have h:=HI.o;rw [List.drop_of_length_le (by unfold P.a4p at hlt;rw [List.length_map]at hlt;omega)]at h;rw [h];simp [P.fmtM])
   go_wp2;go_ret;exact⟨a1v HE.o.symm,HB.o⟩
theorem a3i (m:Nat) (w:World) (hm:P.a0q (m:Int)=true) :
 Cz 23 #[.int .i64 (m:Int)] w λe w'=>e=.returned (.tuple #[.string (S (P.fmt m)),.bool true])/\Bl w w':=by
 have HS:=qh hm
 have hm23:m<2^23:=by unfold P.a0q at hm;simp only [decide_eq_true_eq]at hm;omega
 have HM:=qh hm23
 have HF:Hq (P.fmt (m:Int)=P.fmtL (P.midK m) (P.a3p (m:Int) 23)):=⟨rfl⟩;have HFL:=qh (P.a8o (m:Int))
 have E0:bits .and .i64 ((m:Int) / 256) 31=((m / 256 % 32:Nat):Int):=by
  have e:((m:Int) / 256)=((m / 256:Nat):Int):=by simp
  have h:=(bits_nat .i64 40 dZ b6g (m / 256) 31 oZ dZ).1;rw [e];have h':bits .and .i64 ((m / 256:Nat):Int) 31=((m / 256 &&& 31:Nat):Int):=h;rw [h',show (31:Nat)=2^5-1 from rfl,Nat.and_two_pow_sub_one_eq_mod]
 have E1:(((m / 256 % 32:Nat):Int) != 0)=P.midK m:=by
  rw [P.d9g,Bool.eq_iff_iff];simp;omega
 generalize hz:((m / 256 % 32:Nat):Int)=z at *
 obtain⟨mk,hmk⟩:∃q,P.midK (m:Int)=q:=⟨_,rfl⟩
 rw [hmk]at E1 HF
 clear hm hm23 hmk hz
 go_enter func23,ntmps23
 go_wp2_with fail
 refine (a5e _ _).mono ?_
 rintro e w0 ⟨rfl,rfl⟩
 rw [HS.o]
 go_wp2_with fail
 refine (keysOf m _ HM.o).mono ?_
 rintro e w1 ⟨u,rfl,ho,hb⟩
 have HO:=qh ho;have HB:=qh hb
 obtain⟨ua,uc,rfl⟩:=a0h ho
 have hkl:=P.b6q (m:Int) 23
 clear ho hb E0
 go_wp2
 go_loopw [4,5,7,18] (λo md _ i wr=>∃(j:Nat) (out:Str) (mb:Bool),j<=(P.a4p (m:Int) 23).length/\i=.int .i64 j/\o=.string (S out)/\md=.bool mb/\P.fmt m=out++P.fmtL mb ((P.a3p (m:Int) 23).drop j)/\wr=w1) (λ_ _ _ i _=>(P.a4p (m:Int) 23).length-(intOf i).toNat)
 case atStart=>exact⟨0,[],mk,Nat.zero_le _,rfl,rfl,by first|rfl|(rw [E1]),HF.o,rfl⟩
 case round=>
  clear E1;obtain⟨j,out,mb,hj,rfl,rfl,rfl,hinv,rfl⟩:=hrel;have HI:=qh hinv;have hol:out.length<=46:=by have h:=HFL.o;rw [hinv,List.length_append]at h;omega
  clear hinv
  by_cases hlt:j<(P.a4p (m:Int) 23).length
  .obtain⟨g,rfl,_,hgl,c0⟩:=c8n HO.o j hlt;obtain⟨k,hk,he,hd⟩:=P.c3z hlt;rw [he]at c0;have HD:=qh hd;have HLT:=qh (P.c9f hk);clear he hd;generalize (P.a4p (m:Int) 23).length=n at *;have i1:(j:Int)<(n:Int):=by omega
   have i2:(k:Int)<=22:=by omega
   by_cases h13:13<=(k:Int)
   .cases mb
    .have HZ:=qh (show P.fmt m=((out++[45])++(P.labels.drop k).take 1)++P.fmtL true ((P.a3p (m:Int) 23).drop (j+1)) by rw [HI.o,HD.o,P.d6u oZ,HLT.o];simp);exact zq133
    .have HZ:=qh (show P.fmt m=(out++(P.labels.drop k).take 1)++P.fmtL true ((P.a3p (m:Int) 23).drop (j+1)) by rw [HI.o,HD.o,P.b8q (.inr rfl),HLT.o];simp);exact zq133
   .have HZ:=qh (show P.fmt m=(out++(P.labels.drop k).take 1)++P.fmtL mb ((P.a3p (m:Int) 23).drop (j+1)) by rw [HI.o,HD.o,P.b8q (.inl oZ),HLT.o];simp);go_wp2
    go_roundw
    case rel=>exact⟨j+1,_,mb,by omega,by go_num,by first|rfl|(simp;rfl),rfl,HZ.o,by first|trivial|rfl⟩
    case measure=>exact zq
  .have HE:=qh (show P.fmt m=out by
    have h:=HI.o;rw [List.drop_of_length_le (by unfold P.a4p at hlt;rw [List.length_map]at hlt;omega)]at h;rw [h];simp [P.fmtL])
   have i1:¬(j:Int)<((P.a4p (m:Int) 23).length:Int):=by omega
   go_wp2;go_ret2;exact⟨by rw [HE.o];rfl,HB.o⟩
def P.seg (D:P.Dic) (lo hi:Nat):P.Dic:=(D.drop lo).take (hi-lo)
theorem d3v {l:P.Dic} (h:P.dic l=true) (ht:∀e∈l,e.2.length<=2^30):Small l:=
 ⟨by have:=(P.a4d h).1;omega,λe he=>by have:=(P.a7y ((P.a4d h).2.1 e he)).2.1;omega,ht⟩
theorem c5c (u:Value) (l:List Int) (w:World) (hu:IntR w u l) :
 Cz 155 #[u] w λe w'=>e=.returned (.bool (P.a3n l))/\Bl w w':=by
 have HU:=qh hu
 obtain⟨ad,cap,rfl,hl,_⟩:=hu
 by_cases h:l.length<=60
 .have HF:=qh (show P.a3n l=l.all P.a0q by unfold P.a3n;rw [decide_eq_true h];rfl);have i1:(l.length:Int)<=60:=by omega
  clear h
  go_enter func155,ntmps155
  go_wp2_with fail
  refine (c0c _ l _ HU.o).mono ?_;rintro e w1 ⟨rfl,hb⟩;have HB:=qh hb;clear hb;generalize l.all P.a0q=q at *;go_wp2;go_ret;exact⟨a0a HF.o.symm,HB.o⟩
 .have HF:=qh (show P.a3n l=false by unfold P.a3n;rw [decide_eq_false h];rfl);have i1:¬(l.length:Int)<=60:=by omega
  clear h
  go_enter func155,ntmps155
  go_wp2;go_ret;exact⟨a0a HF.o.symm,Below.refl _ _⟩
end Go.Proofs.YtggfdnopminemaaGreatDoor
