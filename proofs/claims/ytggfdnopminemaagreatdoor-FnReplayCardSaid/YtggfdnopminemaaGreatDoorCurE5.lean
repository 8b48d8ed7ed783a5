/- Walks: a dictionary. -/
import Derived.Test.YtggfdnopminemaaGreatDoorEItems
set_option linter.all false
namespace Go.Proofs.YtggfdnopminemaaGreatDoor
open Go.Proofs.Tryz
open Go Go.RowKit
set_option maxHeartbeats 8000000
set_option maxRecDepth 100000
variable {F:Blk} {hi lo:Nat} {l:P.Dic} {u:Go.Value} {v:Go.World}
def a5q (lo hi:Nat) (v:World) (u:Value) (l:P.Dic):Prop:=hi<=v.heap.size/\∀v',Kept (Bet lo hi) v v'->EntR v' u l
theorem a5q.now (h:a5q lo hi v u l):EntR v u l:=h.2 v ⟨Nat.le_refl _,λ_ _=>rfl⟩
theorem a5q.chg {v':World} {X:Blk} (h:a5q lo hi v u l) (hc:Chg X v v') (hX:∀b,lo<=b->b<hi->¬X b):a5q lo hi v' u l:=
 ⟨Nat.le_trans h.1 hc.size,λv2 hk=>h.2 v2 ⟨Nat.le_trans hc.size hk.1,λb hb=>(hk.2 b hb).trans (hc.block b (Nat.lt_of_lt_of_le hb.2 h.1) (hX b hb.1 hb.2))⟩⟩
theorem a5q.wide {lo' hi':Nat} (h:a5q lo hi v u l) (h1:lo'<=lo) (h2:hi<=hi') (h3:hi'<=v.heap.size):a5q lo' hi' v u l:=
 ⟨h3,λv2 hk=>h.2 v2 (hk.mono λ_ hb=>⟨Nat.le_trans h1 hb.1,Nat.lt_of_lt_of_le hb.2 h2⟩)⟩
theorem Ents.c4t (h:Ents v F u l) (hF:∀b,F b->lo<=b/\b<hi) (hh:hi<=v.heap.size):a5q lo hi v u l:=
 ⟨hh,λ_ hk=>Ents.read (h.keep a0f (hk.mono hF))⟩
theorem d7l (lo:Nat) (v:World):a5q lo v.heap.size v (.slice none 0 0) []:=Ents.c4t (F:=λ_=>False) (RowO.nil v _) (λ_ h=>h.elim) lZ
theorem EOk.snoc {G:Blk} {its:List EIt} {e:EIt} (h:EOk v F its) (he:Ints v e.2 e.1.1 e.1.2.1) (hG:∀b,e.2 b->G b) (hd:∀b,F b->G b->False):EOk v (λb=>F b\/G b) (its++[e]):=by
 refine⟨?_,?_,?_⟩
 .intro t ht
  rcases List.mem_append.1 ht with ht|ht
  .exact h.ent t ht
  .simp only [List.mem_cons,List.not_mem_nil,or_false]at ht;subst ht;exact he
 .intro t ht b hb
  rcases List.mem_append.1 ht with ht|ht
  .exact .inl (h.sub t ht b hb)
  .simp only [List.mem_cons,List.not_mem_nil,or_false]at ht;subst ht;exact .inr (hG b hb)
 .rw [List.pairwise_append];refine⟨h.apart,by simp,λa ha b hb x h1 h2=>?_⟩;simp only [List.mem_cons,List.not_mem_nil,or_false]at hb;subst hb;exact hd x (h.sub a ha x h1) (hG x h2)
def ARun (B C K D:Nat) (w v:World):Prop:=∃(l:P.Dic) (u:Value),a8p l/\a5q (w.heap.size+1) v.heap.size v u l/\(∃a c,u=.slice a l.length c)/\DBx D u v/\DBx w.heap.size (.slice none 0 0) v/\a0e B C K w v
def d9p (B C K:Nat) (w:World) (e:Ending) (w':World):Prop:=∃(l:P.Dic) (u:Value),e=.returned (.agg #[u])/\a8p l/\a5q w.heap.size w'.heap.size w' u l/\a0e B C K w w'
theorem a6v (B C N:Nat) (w:World) (hN:N<2^32) (h:a1o B C N w) :
 Cz 50 #[.pointer (some ⟨C,0,none⟩)] w (d9p B C (N+2000) w):=by
 obtain⟨i0,hi,hz0',hz1,hz2'⟩:=info_parts a5i
 have hlt:=h.lt
 have HC:=qh ((a0e.refl h (Nat.le_refl N)).alloc (.cells #[.slice none 0 0] 26))
 have HD0:=qh (DBx.new (.slice none 0 0) 26 w)
 clear h
 go_enter func50,ntmps50
 go_wp2_with fail
 refine (b0p B C N _ oZ HC.o.1).mono ?_
 rintro e w1 ⟨l,u,rfl,hdr,hl9,hpos,hen,hwh,hc⟩
 have hz1':w.heap.size<w1.heap.size:=by have:=hc.2.size;simp at this;omega
 have hba:=(Below.refl w1.heap.size w1).alloc lZ (.cells #[u] 26)
 have HC1:=qh ((HC.o.trans hc).below hba)
 have HD1:=qh ((HD0.o.a0b hc.2 oZ).below hba)
 have HDX:=qh (DBx.new u 26 w1)
 have HEN:Hq (Ents (w1.alloc (.cells #[u] 26)) (Bet (w.heap.size+1) w1.heap.size) u l):=⟨(by simpa using hen:Ents w1 (Bet (w.heap.size+1) w1.heap.size) u l).below a0f hba⟩
 have HWH:Hq (b3m (w.heap.size+1) (w1.alloc (.cells #[u] 26)) u l.length):=⟨(by simpa using hwh:b3m (w.heap.size+1) w1 u l.length).a0b (X:=λ_=>False) (Below.chg hba _) (λ_ _ _ h=>h)⟩
 have HDR:=qh hdr;have HPS:=qh hpos
 obtain⟨ua,uc,rfl,_,_⟩:=id hen
 clear hc hen hwh hba HC HD0 hdr hpos
 go_wp2_with fail
 refine (a0r B C (N+1000) 20 _ oZ dZ HC1.o.1).mono ?_
 rintro e w2 ⟨x,hx,rfl,hc⟩
 have HC2:=qh (HC1.o.trans hc)
 have HD2:=qh (HD1.o.a0b hc.2 oZ)
 have HDX2:=qh (HDX.o.a0b hc.2 oZ)
 have HEN2:=qh (HEN.o.a0b a0f hc.2 (λb hb e=>by have h1:=hb.1;omega))
 have HWH2:=qh (HWH.o.a0b hc.2 (λk h1 h2 e=>by omega))
 clear hc hx HC1 HD1 HDX HEN HWH
 go_upto_block 0 with fail
 go_cut [] (λwx=>ARun B C (N+1200) w1.heap.size w wx)
 case first=>
  have hw12:w1.heap.size<w2.heap.size:=HDX2.o.2.2
  by_cases h0:x=0
  .subst h0;refine zm36 ?_;intro HS;go_upto_region 4 with fail;refine Left.region [7] (S:=λv=>v.cell? ⟨w1.heap.size,0,none⟩=some (.slice ua l.length uc)/\v.frozen? ⟨w1.heap.size,0,none⟩=false) kZ HS.o (λhS0=>?_);refine zm49 ?_;intro hdd HC3 HD3 HDX3 HEN3;have HWH3:=qh (HWH2.o.a0b (X:=λ_=>False) (Below.chg hdd _) (λ_ _ _ h=>h));have hsd:w2.drew.heap.size=w2.heap.size:=rfl;have HSD:=qh hsd;clear HC2 HD2 HDX2 HEN2 HWH2 HS hdd hsd;generalize w2.drew=v0 at *;refine zm84 ?_;refine lrd 3 λK hK=>?_;go_simp;refine (c4k B C (N+1002) _ oZ HC3.o.1).mono ?_;rintro e v1 ⟨o,t,y,rfl,ho,ht,hI,hc⟩;have hz0:w1.heap.size<v0.heap.size:=HDX3.o.2.2;have hz1v:v0.heap.size<=v1.heap.size:=hc.2.size;have HEN4:=qh (HEN3.o.a0b a0f hc.2 (λb hb e=>by have h1:=hb.1;omega));have HWH4:=qh (HWH3.o.a0b hc.2 (λk h1 h2 e=>by omega));have HDX4:=qh (HDX3.o.a0b hc.2 oZ);have HD4:=qh (HD3.o.a0b hc.2 oZ);have HC4:=qh (HC3.o.trans hc);have HI:=qh hI;refine a1r hK dZ ⟨HDX4.o.1,HDX4.o.2.1⟩ (λhS1=>?_);clear hK K hc hI HEN3 HWH3 HDX3 HD3 HC3;obtain⟨yd,yc,rfl,_,_⟩:=id HI.o;refine zm0 ?_;refine lrd 4 λK hK=>?_;go_simp;have hbl:Bl v1 (v1.alloc (.cells #[.slice yd o.length yc,.string (S t)] 119)):=bZ.alloc lZ _;have HBL:=qh hbl;refine a1r hK dZ ⟨(HDX4.o.below hbl).1,(HDX4.o.below hbl).2.1⟩ (λhS2=>?_);clear hK K hbl;refine zm0 ?_;refine lrd 5 λK hK=>?_;obtain⟨B1,xs,hB1,hown0⟩:=HWH4.o;obtain⟨g,gc,its,hug,hBg,hg,hFg,hits,rfl,hok⟩:=Ents.b1e HEN4.o hown0 HPS.o;injection hug with hug1 _ hug3;subst hug1 hug3;have HOW:=qh (hown0.alloc (.cells #[.slice yd o.length yc,.string (S t)] 119));refine step_append_lies _ rfl _ _ 24 rfl B1 119 i0 (.agg #[.slice none 0 0,.string ⟨#[]⟩]) 2 40 underlying24 hi hz0' hz1 hz2' rfl dZ (.slice (some ⟨g,0,none⟩) l.length uc) l.length (a7h its) rfl HOW.o ⟨v1.heap.size,0,none⟩ 1 1 [.slice yd o.length yc,.string (S t)] rfl rfl ?_ ?_ (Nat.zero_lt_one) ?_ ?_ ?_ _ rfl ?_
   .intro i y hy
    rcases i with _|_|i
    .injection hy with hy;subst hy;rw [add0];go_simp
    .injection hy with hy;subst hy;rw [add0];go_simp
    .cases hy
   .intro y hy;exact zq38
   .unfold maxLen;omega
   .omega
   .have h1:=HBL.o.size;omega
   intro g' cap' v3 hown hgr hat hlt3;have hgr2:Chg (λb=>(some g:Option Nat)=some b) (v1.alloc (.cells #[.slice yd o.length yc,.string (S t)] 119)) v3:=Chg.grown hgr;have hat2:g'=g\/g'=v1.heap.size+1:=by rcases hat with h|h;(left;cases h;rfl);(right;simpa using h)
   have HDX5:=qh ((HDX4.o.below HBL.o).a0b hgr2 (by rintro⟨⟩;have:=hFg.2;omega));have HD5:=qh ((HD4.o.below HBL.o).a0b hgr2 (by rintro⟨⟩;have:=hFg.1;omega));have HC5:=qh ((HC4.o.below HBL.o).new hgr2 (by rintro b ⟨⟩;have:=hFg.1;omega) hlt.2 oZ);have hk13:∀b,b<v1.heap.size->b≠g->v3.heap[b]?=v1.heap[b]?:=λb hb hne=>(hgr2.block b (by simp;omega) (by rintro⟨⟩;exact hne rfl)).trans (HBL.o.block b hb);have hsz3:v1.heap.size<v3.heap.size:=by have h1:=hgr.size;simp at h1;omega
   have hok3:EOk v3 (λb=>Bet (w.heap.size+1) w1.heap.size b/\b≠g) its:=hok.keep ⟨by omega,λb hb=>hk13 b (by have:=hb.1.2;omega) hb.2⟩;have hI3:Ints v3 (λb=>Bet (v0.heap.size+1) v1.heap.size b) (.slice yd o.length yc) o:=HI.o.keep a1l ⟨by omega,λb hb=>hk13 b hb.2 (by have:=hFg.2;have:=hb.1;omega)⟩;have hok4:=hok3.snoc (e:=((.slice yd o.length yc,(o,t)),λb=>Bet (v0.heap.size+1) v1.heap.size b)) (G:=λb=>Bet (v0.heap.size+1) v1.heap.size b) hI3 (λb hb=>hb) (λb h1 h2=>by have:=h1.1.2;have:=h2.1;omega);have hlenI:(its++[(((.slice yd o.length yc,(o,t)),λb=>Bet (v0.heap.size+1) v1.heap.size b):EIt)]).length=l.length+1:=by rw [List.length_append,<-hits,List.length_map];rfl
   have hents:=c1n (c:=cap') (by rw [hlenI,c1b];exact hown) hok4 (by rintro b (hb|hb);(have:=hb.1.2;omega);(have:=hb.2;omega)) (by rintro (hb|hb);(rcases hat2 with h|h;exact hb.2 h;have:=hb.1.2;omega);(have h1:=hb.1;have h2:=hb.2;have:=hFg.2;omega)) (by rw [hlenI];omega);rw [hlenI,List.map_append,hits]at hents;have HFIN:=qh (hents.a0b (X:=λb=>b=w1.heap.size) a0f ((Chg.refl (λb=>b=w1.heap.size) v3).setCell (p:=⟨w1.heap.size,0,none⟩) rfl (.slice (some ⟨g',0,none⟩) (l.length+1) cap')) (by rintro b ((hb|hb)|rfl) e;(have:=hb.1.2;omega);(have:=hb.1;omega);(have:=hFg.2;omega)));have HG':=qh (show g'<v3.heap.size/\w.heap.size+1<=g' from⟨hlt3,by have:=hFg.1;omega⟩);refine a1r hK dZ ⟨HDX5.o.1,HDX5.o.2.1⟩ (λhS3=>?_);clear hK K hown hgr hat hlt3 hents hok4 hI3 hok3 hk13 hgr2 hat2 hok hits hown0 HOW;refine zm0 ?_;refine lk7 6 hS3 ?_;refine lrd 7 λK hK=>?_;obtain⟨k0,k1,_⟩:=HDX5.o;go_simp;refine a2p hK dZ ?_;clear hK K;refine zm0 ?_;refine Left.done kZ ?_ _;clear hS0 hS1 hS2 hS3;go_wp2_with fail;go_meet;refine⟨l++[(o,t)],_,⟨?_,?_,?_⟩,?_,⟨_,cap',by rw [List.length_append];rfl⟩,HDX5.o.put,HD5.o.a0b ((Chg.refl (λb=>b=w1.heap.size) v3).setCell (p:=⟨w1.heap.size,0,none⟩) rfl _) oZ,(HC5.o.set (g:=w1.heap.size) (i:=0) oZ hlt.2 oZ _).mono oZ⟩
   .rw [List.length_append];simp;omega
   .intro e he
    rcases List.mem_append.1 he with he|he
    .exact HDR.o.outs e he
    .simp at he;subst he;show o.length<=8;omega
   .intro e he
    rcases List.mem_append.1 he with he|he
    .exact HDR.o.texts e he
    .simp at he;subst he;exact ht
   .have h:=HFIN.o;refine Ents.c4t h (λb hb=>?_) lZ;have hs:(v3.setCell ⟨w1.heap.size,0,none⟩ (.slice (some ⟨g',0,none⟩) (l.length+1) cap')).heap.size=v3.heap.size:=by simp [World.setCell]
    rw [hs]
    rcases hb with (hb|hb)|rfl
    .have:=hb.1;exact⟨this.1,by have:=this.2;omega⟩
    .exact⟨by have:=hb.1;omega,by have:=hb.2;omega⟩
    .exact⟨HG'.o.2,HG'.o.1⟩
  have h0':¬(x:Int)=0:=by omega
  by_cases h1:x=1
  .subst h1;refine zm36 ?_;intro HS;obtain⟨B1,xs,hB1,hown0⟩:=HWH2.o;obtain⟨g,gc,its,hug,hBg,hg,hFg,hits,_,_⟩:=Ents.b1e HEN2.o hown0 HPS.o;injection hug with hug1 _ hug3;subst hug1 hug3;clear hown0 hits;go_upto_region 6 with fail;refine Left.region [7] (S:=λv=>v.cell? ⟨w1.heap.size,0,none⟩=some (.slice (some ⟨g,0,none⟩) l.length uc)/\v.frozen? ⟨w1.heap.size,0,none⟩=false) kZ HS.o (λhS0=>?_);refine zm49 ?_;intro hdd HC3 HD3 HDX3 HEN3;have hg0:g<w2.drew.heap.size:=hg;clear HC2 HD2 HDX2 HEN2 HWH2 HS hdd hg;generalize w2.drew=v0 at *;refine zm84 ?_;refine lrd 3 λK hK=>?_;go_simp;have hbl:Bl v0 (v0.alloc (.cells #[.string (S []),.string (S [123]),.string (S [97,32,32,98])] 9)):=bZ.alloc lZ _;have HL:=qh (a1n [[],[123],[97,32,32,98]] v0 9);have HC4:=qh (HC3.o.below hbl);have HD4:=qh (HD3.o.below hbl);have HDX4:=qh (HDX3.o.below hbl);have HEN4:=qh (HEN3.o.below a0f hbl);refine a1r hK dZ ⟨(HDX3.o.below hbl).1,(HDX3.o.below hbl).2.1⟩ (λhS1=>?_);clear hK K hbl;refine zm0 ?_;refine lrd 4 λK hK=>?_;have hlt0:C<v0.heap.size:=by have:=HDX3.o.2.2;omega
   clear HC3 HD3 HDX3 HEN3;go_simp;refine (a4h B C (N+1002) v0.heap.size 3 [[],[123],[97,32,32,98]] _ oZ dZ dZ sZ oZ HL.o HC4.o.1).mono ?_;rintro e v1 ⟨s,hs,rfl,hc⟩;have HSL:Hq (s.length<=300):=⟨Nat.le_trans ((by decide:∀s∈([[],[123],[97,32,32,98]]:List Str),s.length<=4) s hs) dZ⟩;have HC5:=qh (HC4.o.trans hc);have HD5:=qh (HD4.o.a0b hc.2 oZ);have HDX5:=qh (HDX4.o.a0b hc.2 oZ);have HEN5:=qh (HEN4.o.a0b a0f hc.2 (λb hb e=>by have h1:=hb.1;omega));have hz1v:v0.heap.size<v1.heap.size:=by have h:=hc.2.size;simp at h;omega
   refine a1r hK dZ ⟨HDX5.o.1,HDX5.o.2.1⟩ (λhS2=>?_);clear hK K hc hs HC4 HD4 HDX4 HEN4 HL;obtain⟨adq,cpq,heq,hl30,hcp,hrow⟩:=HEN5.o;injection heq with heq1 _ heq3;obtain⟨gq,oq,Gq,Cq,hq1,hr⟩:=hrow.resolve_left (by intro e;have:=HPS.o;rw [e]at this;exact absurd this (Nat.lt_irrefl _));rw [hq1]at heq1;injection heq1 with heq1;injection heq1 with hq2 hq3;subst hq2 hq3;obtain⟨xx,hCC,hII⟩:=hr.el 0 HPS.o;have hcl0:=hr.cel 0 HPS.o;have e1:=hcl0 1 (by rw [hCC];simp);simp only [hCC,List.getElem_cons_zero,List.getElem_cons_succ,Nat.zero_mul,Nat.add_zero,Nat.zero_add]at e1;have hset:Chg (λb=>b=g) v1 (v1.setCell ⟨g,1,none⟩ (.string (S s))):=(Chg.refl (λb=>b=g) v1).setCell (p:=⟨g,1,none⟩) rfl _;have hput:=hr.d8s a0f 0 HPS.o 1 dZ (.string (S s)) ((l[0]'HPS.o).1,s) (by rw [hCC];exact⟨xx,rfl,hII.a0b a1l (by simpa using hset) (λb hb e=>(hr.sub 0 HPS.o b hb).2 e)⟩);simp only [Nat.zero_mul,Nat.zero_add,Nat.add_zero]at hput;have HPUT:=qh (show Ents (v1.setCell ⟨g,1,none⟩ (.string (S s))) (Bet (w.heap.size+1) w1.heap.size) (.slice (some ⟨g,0,none⟩) (l.set 0 ((l[0]'HPS.o).1,s)).length uc) (l.set 0 ((l[0]'HPS.o).1,s)) from⟨_,uc,rfl,by rw [List.length_set];omega,⟨(λh=>by cases h),by rw [List.length_set];omega⟩,.inr ⟨g,0,_,_,rfl,hput⟩⟩);have HD6:=qh (HD5.o.a0b hset (by have:=hFg.1;omega));have HDX6:=qh (HDX5.o.a0b hset (by have:=hFg.2;omega));have HC6:=qh (HC5.o.set (g:=g) (i:=1) (by have:=hFg.1;omega) hlt.2 oZ (.string (S s)));have f1:=e1.2;have c1:=e1.1;have p1:(0:Int)<(l.length:Int):=by have:=HPS.o;omega
   have p2:0<l.length:=HPS.o;clear hput hset hII hcl0 hr hrow e1 hCC;refine zm0 ?_;refine lk7 5 hS2 ?_;refine lk7 6 hS2 ?_;refine lrd 7 λK hK=>?_;go_simp;refine a2p hK dZ ?_;clear hK K;refine zm0 ?_;refine Left.done kZ ?_ _;clear hS0 hS1 hS2;go_wp2_with fail;go_meet;have hl':(l.set 0 ((l[0]'HPS.o).1,s)).length=l.length:=by rw [List.length_set]
   refine⟨l.set 0 ((l[0]'HPS.o).1,s),_,⟨?_,?_,?_⟩,?_,⟨some ⟨g,0,none⟩,uc,rfl⟩,by rw [hl'];exact HDX6.o,HD6.o,HC6.o.mono oZ⟩
   .rw [hl'];omega
   .intro e he
    rcases List.mem_or_eq_of_mem_set he with he|rfl
    .exact HDR.o.outs e he
    .exact HDR.o.outs (l[0]'HPS.o) (List.getElem_mem HPS.o)
   .intro e he
    rcases List.mem_or_eq_of_mem_set he with he|rfl
    .exact HDR.o.texts e he
    .exact HSL.o
   .refine Ents.c4t HPUT.o (λb hb=>⟨hb.1,?_⟩) lZ;have:=hb.2;have:=HDX6.o.2.2;omega
  have h1':¬(x:Int)=1:=by omega
  by_cases h2:x=2
  .subst h2;refine zm36 ?_;intro HS;obtain⟨B1,xs,hB1,hown0⟩:=HWH2.o;obtain⟨g,gc,its,hug,hBg,hg,hFg,hits,_,_⟩:=Ents.b1e HEN2.o hown0 HPS.o;injection hug with hug1 _ hug3;subst hug1 hug3;clear hown0 hits;go_upto_region 8 with fail;refine Left.region [6] (S:=λv=>v.cell? ⟨w1.heap.size,0,none⟩=some (.slice (some ⟨g,0,none⟩) l.length uc)/\v.frozen? ⟨w1.heap.size,0,none⟩=false) kZ HS.o (λhS0=>?_);refine zm49 ?_;intro hdd HC3 HD3 HDX3 HEN3;have hg0:g<w2.drew.heap.size:=hg;clear HC2 HD2 HDX2 HEN2 HWH2 HS hdd hg;generalize w2.drew=v0 at *;refine zm84 ?_;refine lrd 3 λK hK=>?_;go_simp;refine (a6i B C (N+1002) _ oZ HC3.o.1).mono ?_;rintro e v1 ⟨o,y,rfl,ho,hown,hc⟩;have hI:Ints v1 (Bet v0.heap.size v1.heap.size) y o:=a2m hown oZ;have HI:=qh hI;have HC5:=qh (HC3.o.trans hc);have HD5:=qh (HD3.o.a0b hc.2 oZ);have HDX5:=qh (HDX3.o.a0b hc.2 oZ);have HEN5:=qh (HEN3.o.a0b a0f hc.2 (λb hb e=>by have h1:=hb.1;omega));have hz0v:w1.heap.size<v0.heap.size:=HDX3.o.2.2;have hz1v:v0.heap.size<=v1.heap.size:=hc.2.size;refine a1r hK dZ ⟨HDX5.o.1,HDX5.o.2.1⟩ (λhS2=>?_);clear hK K hc hown HC3 HD3 HDX3 HEN3;obtain⟨yd,yc,rfl,_,_⟩:=hI;obtain⟨adq,cpq,heq,hl30,hcp,hrow⟩:=HEN5.o;injection heq with heq1 _ heq3;obtain⟨gq,oq,Gq,Cq,hq1,hr⟩:=hrow.resolve_left (by intro e;have:=HPS.o;rw [e]at this;exact absurd this (Nat.lt_irrefl _));rw [hq1]at heq1;injection heq1 with heq1;injection heq1 with hq2 hq3;subst hq2 hq3;obtain⟨xx,hCC,hII⟩:=hr.el 0 HPS.o;have hcl0:=hr.cel 0 HPS.o;have e0:=hcl0 0 (by rw [hCC];simp);simp only [hCC,List.getElem_cons_zero,Nat.zero_mul,Nat.add_zero]at e0;have hsz:(v1.setCell ⟨g,0,none⟩ (.slice yd o.length yc)).heap.size=v1.heap.size:=by simp [World.setCell]
   have hset:Chg (λb=>b=g) v1 (v1.setCell ⟨g,0,none⟩ (.slice yd o.length yc)):=(Chg.refl (λb=>b=g) v1).setCell (p:=⟨g,0,none⟩) rfl _;have hput:=hr.put a0f (v':=v1.setCell ⟨g,0,none⟩ (.slice yd o.length yc)) 0 HPS.o (λb=>Bet (w.heap.size+1) w1.heap.size b\/Bet v0.heap.size v1.heap.size b) (Bet v0.heap.size v1.heap.size) [.slice yd o.length yc,.string (S (l[0]'HPS.o).2)] (o,(l[0]'HPS.o).2)
    (λb hb=>.inl hb) (λb hb=>by rw [hsz];rcases hb with hb|hb;(have:=hb.2;omega);exact hb.2) (by rw [hsz];exact Nat.le_refl _)
    (by
     have e:=hcl0.c9g 0 (by rw [hCC];simp) (.slice yd o.length yc)
     rw [hCC]at e
     simpa using e) rfl ⟨_,rfl,HI.o.a0b a1l hset (λb hb e=>by have:=hb.1;have:=hFg.2;omega)⟩ (λb hb=>⟨.inr hb,by have:=hb.1;have:=hFg.2;omega⟩)
    (λi hi hij b h1 h2=>by have h3:=(hr.sub i hi b h1).1.2;have h4:=h2.1;omega)
    (λi hi hij=>(hr.cel i hi).b1z (by have:=hr.wid i hi;omega) _)
    (λi hi hij b hb=>Below.heap_setCell _ _ _ _ (hr.sub i hi b hb).2)
   have HPUT:=qh (show Ents (v1.setCell ⟨g,0,none⟩ (.slice yd o.length yc)) (λb=>Bet (w.heap.size+1) w1.heap.size b\/Bet v0.heap.size v1.heap.size b) (.slice (some ⟨g,0,none⟩) (l.set 0 (o,(l[0]'HPS.o).2)).length uc) (l.set 0 (o,(l[0]'HPS.o).2)) from⟨_,uc,rfl,by rw [List.length_set];omega,⟨(λh=>by cases h),by rw [List.length_set];omega⟩,.inr ⟨g,0,_,_,rfl,hput⟩⟩);have HD6:=qh (HD5.o.a0b hset (by have:=hFg.1;omega));have HDX6:=qh (HDX5.o.a0b hset (by have:=hFg.2;omega));have HC6:=qh (HC5.o.set (g:=g) (i:=0) (by have:=hFg.1;omega) hlt.2 oZ (.slice yd o.length yc));have f1:=e0.2;have c1:=e0.1;have p1:(0:Int)<(l.length:Int):=by have:=HPS.o;omega
   have p2:0<l.length:=HPS.o;have HSZ:=qh hsz;clear hput hset hII hcl0 hr hrow e0 hCC hsz;refine zm0 ?_;refine lk7 4 hS2 ?_;refine lk7 5 hS2 ?_;refine lrd 6 λK hK=>?_;go_simp;refine a2p hK dZ ?_;clear hK K;refine zm0 ?_;refine Left.done kZ ?_ _;clear hS0 hS2;go_wp2_with fail;go_meet;have hl':(l.set 0 (o,(l[0]'HPS.o).2)).length=l.length:=by rw [List.length_set]
   refine⟨l.set 0 (o,(l[0]'HPS.o).2),_,⟨?_,?_,?_⟩,?_,⟨some ⟨g,0,none⟩,uc,rfl⟩,by rw [hl'];exact HDX6.o,HD6.o,HC6.o.mono oZ⟩
   .rw [hl'];omega
   .intro e he
    rcases List.mem_or_eq_of_mem_set he with he|rfl
    .exact HDR.o.outs e he
    .exact ho
   .intro e he
    rcases List.mem_or_eq_of_mem_set he with he|rfl
    .exact HDR.o.texts e he
    .exact HDR.o.texts (l[0]'HPS.o) (List.getElem_mem HPS.o)
   .refine Ents.c4t HPUT.o (λb hb=>?_) lZ;rw [HSZ.o]
    rcases hb with hb|hb
    .exact⟨hb.1,by have:=hb.2;omega⟩
    .exact⟨by have:=hb.1;omega,hb.2⟩
  have h2':¬(x:Int)=2:=by omega
  by_cases h3:x=3
  .subst h3;obtain⟨k0,k1,_⟩:=HDX2.o;go_wp2;go_meet;have hsz:(w2.setCell ⟨w1.heap.size,0,none⟩ (.slice none 0 0)).heap.size=w2.heap.size:=by simp [World.setCell]
   refine⟨[],.slice none 0 0,⟨by simp,(λe h=>by cases h),(λe h=>by cases h)⟩,?_,⟨none,0,rfl⟩,HDX2.o.put,HD2.o.a0b ((Chg.refl (λb=>b=w1.heap.size) w2).setCell (p:=⟨w1.heap.size,0,none⟩) rfl _) oZ,(HC2.o.set (g:=w1.heap.size) (i:=0) oZ hlt.2 oZ _).mono oZ⟩;exact d7l _ _
  have h3':¬(x:Int)=3:=by omega
  go_wp2;go_meet;exact⟨l,_,HDR.o,Ents.c4t HEN2.o (λb hb=>⟨hb.1,by have:=hb.2;omega⟩) lZ,⟨_,_,rfl⟩,HDX2.o,HD2.o,HC2.o.mono oZ⟩
 case rest=>
  clear HEN2 HWH2 HDX2 HD2 HC2 HDR;obtain⟨l',u',hdr',hre,⟨ua',uc',rfl⟩,hdx,hd0,hcp⟩:=hcut;have HDR':=qh hdr';have HRE:=qh hre;have HDX':=qh hdx;have HD':=qh hd0;have HCP:=qh hcp;clear hdr' hre hdx hd0 hcp
  go_wp2_with fail
  refine (a9t B C (N+1200) 40 _ oZ dZ HCP.o.1).mono ?_;rintro e w3 ⟨b,rfl,hc⟩;have HCP3:=qh (HCP.o.trans hc);have hzD:w1.heap.size<w3.heap.size:=by have h1:=HDX'.o.2.2;have h2:=hc.2.size;omega
  have HDX3:=qh (HDX'.o.a0b hc.2 oZ);have HD3:=qh (HD'.o.a0b hc.2 oZ);have HRE3:=qh (HRE.o.chg hc.2 (λb h1 h2 e=>by omega));have hzc:wc.heap.size<=w3.heap.size:=hc.2.size;clear hc HDX' HD' HRE HCP
  cases b
  .obtain⟨k0,k1,_⟩:=HDX3.o;obtain⟨r0,r1,_⟩:=HD3.o;go_wp2;have HSET:=qh ((Chg.refl (λb=>b=w.heap.size) w3).setCell (p:=⟨w.heap.size,0,none⟩) rfl (.slice ua' l'.length uc'));refine bodyPost_ret (v:=.agg #[(.slice ua' l'.length uc')]) (by simp [results,results50,go_sem,r0]) rfl ⟨l',_,rfl,HDR'.o,?_,(HCP3.o.set (g:=w.heap.size) (i:=0) lZ hlt.2 oZ _).mono oZ⟩;exact ((HRE3.o).chg HSET.o (λb h1 h2 e=>by omega)).wide oZ (by simp [World.setCell];omega) lZ
  .have hst:Chg (λb=>b=w1.heap.size) w3 (w3.setCell ⟨w1.heap.size,0,none⟩ (.slice none 0 0)):=(Chg.refl (λb=>b=w1.heap.size) w3).setCell (p:=⟨w1.heap.size,0,none⟩) rfl _;have hss:(w3.setCell ⟨w1.heap.size,0,none⟩ (.slice none 0 0)).heap.size=w3.heap.size:=by simp [World.setCell]
   have HDX4:Hq (DBx w1.heap.size (.slice none 0 0) (w3.setCell ⟨w1.heap.size,0,none⟩ (.slice none 0 0))):=⟨HDX3.o.put⟩;have HD4:=qh (HD3.o.a0b hst oZ);have HCP4:=qh (HCP3.o.set (g:=w1.heap.size) (i:=0) oZ hlt.2 oZ (.slice none 0 0));have HAC:Hq (Acc 119 2 entE (w1.heap.size+1) (w3.setCell ⟨w1.heap.size,0,none⟩ (.slice none 0 0)) (.slice none 0 0) [] []):=⟨Acc.nil (World.ownsRow_nil _ _ _ _) (by rw [hss];omega)⟩;obtain⟨k0,k1,_⟩:=HDX3.o;clear hst hss HRE3 HDR'
   go_upto_block 1 with fail
   generalize w3.setCell ⟨w1.heap.size,0,none⟩ (.slice none 0 0)=w4 at *;clear k0 k1 HDX3 HD3 HCP3
   go_wp2_with fail
   go_loopw [4] (λn wr=>∃(k:Nat) (l:P.Dic) (u:Value) (xs:List Value),1<=k/\l.length+1=k/\k<=42/\(∀e∈l,e.1.length<=8/\e.2.length<=300)/\n=.int .i64 k/\Acc 119 2 entE (w1.heap.size+1) wr u l xs/\DBx w1.heap.size u wr/\DBx w.heap.size (.slice none 0 0) wr/\a0e B C (N+1300+2*k) w wr) (λn _=>50-(intOf n).toNat)
   case atStart=>exact⟨1,[],_,[],by omega,rfl,by omega,(λe h=>by cases h),rfl,HAC.o,HDX4.o,HD4.o,HCP4.o.mono oZ⟩
   case round=>
    clear HAC HDX4 HD4 HCP4;obtain⟨k,l2,u2,xs,hk1,hlk,hk2,hall,rfl,hacc,hdx,hd0,hcp⟩:=hrel;have HACC:=qh hacc;have HDX5:=qh hdx;have HD5:=qh hd0;have HCP5:=qh hcp;have HALL:=qh hall;obtain⟨u2a,u2c,rfl⟩:=hacc.form;have hla:l2.length+1<=k:=by omega
    have hlb:k<=l2.length+1:=by omega
    clear hacc hdx hd0 hcp hall hlk
    go_wp2_with fail
    refine (a0r B C (N+1300+2*k) 2 _ oZ dZ HCP5.o.1).mono ?_;rintro e w5 ⟨z,hz,rfl,hc⟩;have hz2:z<2:=by omega
    have hwz:w1.heap.size<wr.heap.size:=HDX5.o.2.2;have hwz5:wr.heap.size<=w5.heap.size:=hc.2.size;have HDX6:=qh (HDX5.o.a0b hc.2 oZ);have HD6:=qh (HD5.o.a0b hc.2 oZ);have HCP6:=qh (HCP5.o.trans hc);have HACC6:=qh (HACC.o.a0b a0f hc.2 (λb e=>by omega));clear hc hz HDX5 HD5 HCP5 HACC
    by_cases hle:k<=40+z
    .have hle':(k:Int)<=40+(z:Int):=by omega
     have hb1:Bl w5 (w5.alloc (.cells #[.int .i64 k] 3)):=bZ.alloc lZ _;have hb2:Below (w5.alloc (.cells #[.int .i64 k] 3)).heap.size (w5.alloc (.cells #[.int .i64 k] 3)) ((w5.alloc (.cells #[.int .i64 k] 3)).alloc (.cells #[.slice (some ⟨w5.heap.size,0,none⟩) 1 1,.string (S [97])] 119)):=bZ.alloc lZ _;have HB1:=qh hb1;have HB2:=qh hb2;have HII:Hq (Ints (w5.alloc (.cells #[.int .i64 k] 3)) (Bet w5.heap.size (w5.alloc (.cells #[.int .i64 k] 3)).heap.size) (.slice (some ⟨w5.heap.size,0,none⟩) 1 1) [(k:Int)]):=⟨a2m (l:=[(k:Int)]) (by have h:=World.ownsRow_lit (base:=w5.heap.size) (e:=3) (size:=1) w5 #[.int .i64 k] 1 lZ dZ sZ;simpa [ints] using h) sZ⟩;have HACC7:=qh ((HACC6.o.keep a0f hb1).keep a0f hb2);have HOW7:=qh HACC7.o.owns;have HWZ:=qh (show w1.heap.size+1<=w5.heap.size by omega);obtain⟨k0,k1,_⟩:=HDX6.o;have hllen:l2.length<=41:=by omega
     clear hb1 hb2
     go_wp2_with (at_builtin;refine wpList_append_lies _ rfl _ _ 24 rfl (w1.heap.size+1) 119 i0 (.agg #[.slice none 0 0,.string ⟨#[]⟩]) 2 40 underlying24 hi hz0' hz1 hz2' rfl dZ (.slice u2a l2.length u2c) l2.length xs rfl HOW7.o ⟨w5.heap.size+1,0,none⟩ 1 1 [.slice (some ⟨w5.heap.size,0,none⟩) 1 1,.string (S [97])] rfl rfl ?_ ?_ (Nat.zero_lt_one) ?_ ?_ ?_ _ rfl ?_)
     all_goals first|exact⟨rfl,rfl⟩|(intro y hy;simp only [List.mem_cons,List.not_mem_nil,or_false]at hy;rcases hy with rfl|rfl<;>rfl)|(unfold maxLen;omega)|omega|(have h1:=HWZ.o;simp;omega)|(intro i y hy;rcases i with _|_|i;(injection hy with hy;subst hy;rw [add0];go_simp);(injection hy with hy;subst hy;rw [add0];go_simp);cases hy)|skip
     intro g' cap' v3 hown hgr hat hlt3;have hgrc:=Chg.grown hgr;have hown7:=World.ownsRow.lt HACC7.o.owns;have HAC8:=qh (HACC6.o.snoc (a:=([(k:Int)],[97])) (cs:=[.slice (some ⟨w5.heap.size,0,none⟩) 1 1,.string (S [97])]) (v1:=w5.alloc (.cells #[.int .i64 k] 3)) (v3:=v3) (g:=g') (cap:=cap') (F:=Bet w5.heap.size (w5.alloc (.cells #[.int .i64 k] 3)).heap.size) a0f HB1.o (λb hb=>hb) (b1d HII.o) rfl HB2.o hown hgr (by simpa using hat));have HDX8:=qh (((HDX6.o.below HB1.o).below HB2.o).a0b hgrc (λe=>by have:=hown7 _ e;omega));have HD8:=qh (((HD6.o.below HB1.o).below HB2.o).a0b hgrc (λe=>by have:=hown7 _ e;omega));have HCP8:=qh (((HCP6.o.below HB1.o).below HB2.o).new hgrc (λb e=>by have:=hown7 _ e;omega) hlt.2 oZ);obtain⟨k0',k1',_⟩:=HDX8.o;have hst:Chg (λb=>b=w1.heap.size) v3 (v3.setCell ⟨w1.heap.size,0,none⟩ (.slice (some ⟨g',0,none⟩) (l2.length+1) cap')):=(Chg.refl (λb=>b=w1.heap.size) v3).setCell (p:=⟨w1.heap.size,0,none⟩) rfl _;have HAC9:=qh (HAC8.o.a0b a0f hst (λb e=>by omega));have HD9:=qh (HD8.o.a0b hst oZ);have HDX9:Hq (DBx w1.heap.size (.slice (some ⟨g',0,none⟩) (l2.length+1) cap') (v3.setCell ⟨w1.heap.size,0,none⟩ (.slice (some ⟨g',0,none⟩) (l2.length+1) cap'))):=⟨HDX8.o.put⟩;have HCP9:=qh (HCP8.o.set (g:=w1.heap.size) (i:=0) oZ hlt.2 oZ (.slice (some ⟨g',0,none⟩) (l2.length+1) cap'));clear hown hgr hat hlt3 hgrc hown7 hst HAC8 HD8 HDX8 HCP8 k0 k1;go_wp2
     go_roundw
     case rel=>exact⟨k+1,l2++[([(k:Int)],[97])],_,_,by omega,by rw [List.length_append];simp;omega,by omega,(λe he=>by rcases List.mem_append.1 he with he|he;exact HALL.o e he;simp at he;subst he;exact⟨by simp,by simp⟩),by go_num,HAC9.o,HDX9.o,HD9.o,HCP9.o.mono oZ⟩
     case measure=>exact zq
    .have hle':¬(k:Int)<=40+(z:Int):=by omega
     obtain⟨k0,k1,_⟩:=HDX6.o;obtain⟨r0,r1,_⟩:=HD6.o;have HROW:=qh (HACC6.o.row oZ);go_wp2;have HSET:=qh ((Chg.refl (λb=>b=w.heap.size) w5).setCell (p:=⟨w.heap.size,0,none⟩) rfl (.slice u2a l2.length u2c));refine bodyPost_ret (v:=.agg #[(.slice u2a l2.length u2c)]) (by simp [results,results50,go_sem,r0]) rfl ⟨l2,_,rfl,⟨by omega,λe he=>(HALL.o e he).1,λe he=>(HALL.o e he).2⟩,?_,(HCP6.o.set (g:=w.heap.size) (i:=0) lZ hlt.2 oZ _).mono oZ⟩;exact ((Ents.c4t (lo:=w1.heap.size+1) (hi:=w5.heap.size) HROW.o (λb hb=>hb) lZ).chg HSET.o (λb h1 h2 e=>by omega)).wide oZ (by simp [World.setCell]) lZ
def d4h (B C K m:Nat) (w:World) (e:Ending) (w':World):Prop:=∃(l:List Int) (u:Value),e=.returned u/\l.length<=m/\Ints w' (Bet w.heap.size w'.heap.size) u l/\a0e B C K w w'
theorem d7x (B C N lo hi:Nat) (u:Value) (l:P.Dic) (w:World) (hN:N<2^31) (h:a1o B C N w) (hr:a5q lo hi w u l) (hlo:C<lo) (hd:a8p l) :
 Cz 115 #[.pointer (some ⟨C,0,none⟩),.agg #[u]] w (d4h B C (N+200) 8 w):=by
 have hlt:=h.lt
 have hba:=(Below.refl w.heap.size w).alloc lZ (.cells #[u] 26)
 have HC:=qh ((a0e.refl h (Nat.le_refl N)).below hba)
 have HD:=qh (DBx.new u 26 w)
 have HR:=qh (hr.chg (Below.chg hba (λ_=>False)) (λ_ _ _ h=>h))
 have HDR:=qh hd
 have hl60:=hd.len
 obtain⟨ad,cap,rfl,_,_⟩:=hr.now
 clear h hr hba hd
 go_enter func115,ntmps115
 by_cases hpos:0<l.length
 .obtain⟨b0,_⟩:=HD.o;have hpi:(0:Int)<(l.length:Int):=by omega
  go_wp2_with fail
  refine (a9t B C N 3 _ oZ dZ HC.o.1).mono ?_;rintro e w1 ⟨b,rfl,hc⟩;have HC1:=qh (HC.o.trans hc);have HD1:=qh (HD.o.a0b hc.2 oZ);have HR1:=qh (HR.o.chg hc.2 (λb h1 h2 e=>by omega));have hz1:w.heap.size<w1.heap.size:=HD1.o.2.2;clear hc HC HD HR b0
  cases b
  .have HS:Hq (DBx w.heap.size (.slice ad l.length cap) w1.drew):=⟨HD1.o.below bZ.drew⟩;go_upto_region 2 with fail;refine wp_region_held_drew (S:=DBx w.heap.size (.slice ad l.length cap)) kZ HS.o (λhS0=>?_);have hdd:Bl w1 w1.drew:=bZ.drew;have HC2:=qh (HC1.o.below hdd);have HR2:=qh (HR1.o.chg (Below.chg hdd (λ_=>False)) (λ_ _ _ h=>h));have hz1':w.heap.size<w1.drew.heap.size:=hz1;clear HC1 HD1 HR1 HS hdd;generalize w1.drew=v0 at *;refine zm51 ?_;refine trd 6 λK hK=>?_;go_simp;refine (a0r B C (N+2) l.length _ oZ oZ HC2.o.1).mono ?_;rintro e v1 ⟨i,hi',rfl,hc⟩;have hil:i<l.length:=by omega
   have HC3:=qh (HC2.o.trans hc);have HR3:=qh (HR2.o.chg hc.2 (λb h1 h2 e=>by omega));refine hK.out _ _ (hS0.a0b hc.2 oZ) (λhS1=>?_);clear hK K hc hi' HC2 HR2;obtain⟨g,o,rfl,hg,x,c0,c1,hx⟩:=HR3.o.now.at i hil;have HX:=qh hx;obtain⟨xd,xc,rfl,_,_⟩:=hx;have hol:=HDR.o.outs _ (List.getElem_mem hil);have i1:(i:Int)<(l.length:Int):=by omega
   generalize l[i]=en at *;obtain⟨eo,et⟩:=en;simp only at HX c0 hol;refine zm0 ?_;refine tk5 7 (v:=.pointer (some ⟨g,o+i*2,none⟩)) hS1 ?_;refine tk5 8 (v:=.pointer (some ⟨g,o+i*2,none⟩)) hS1 ?_;refine trd 9 λK hK=>?_;go_simp;refine hK.out _ _ hS1 (λhS2=>?_);clear hK K;refine zm0 ?_;refine trd 10 λK hK=>?_;go_simp;refine (d2n _ eo _ HX.o oZ).mono ?_;rintro e v2 ⟨y,rfl,hI,hb⟩;have HC4:=qh (HC3.o.below hb);have HI:Hq (Ints v2 (Bet w.heap.size v2.heap.size) y eo):=⟨hI.wide (λb hb'=>⟨by have h1:=hb'.1;have h2:=HC3.o.2.size;omega,hb'.2⟩) (λb hb'=>hb'.2)⟩;refine hK.out _ _ (hS2.below hb) (λhS3=>?_);clear hK K hb hI;obtain⟨yd,yc,rfl,_,_⟩:=id HI.o;refine zm0 ?_;refine tk5 11 hS3 ?_;refine wpAnyH_done kZ ?_ _;clear hS0 hS1 hS2 hS3;go_wp2;go_ret;exact⟨eo,_,rfl,hol,HI.o,HC4.o.mono oZ⟩
  .go_wp2_with fail
   refine (a6i B C (N+2) _ oZ HC1.o.1).mono ?_;rintro e w2 ⟨o,y,rfl,ho,hown,hc⟩;have HC2:=qh (HC1.o.trans hc);have HI:Hq (Ints w2 (Bet w.heap.size w2.heap.size) y o):=⟨(a2m hown oZ).wide (λb hb=>⟨by have:=hb.1;omega,hb.2⟩) (λb hb=>hb.2)⟩;clear hc hown;go_wp2;go_ret;exact⟨o,_,rfl,ho,HI.o,HC2.o.mono oZ⟩
 .obtain⟨b0,_⟩:=HD.o;have hpi:¬(0:Int)<(l.length:Int):=by omega
  go_wp2_with fail
  refine (a6i B C N _ oZ HC.o.1).mono ?_;rintro e w2 ⟨o,y,rfl,ho,hown,hc⟩;have HC2:=qh (HC.o.trans hc);have HI:Hq (Ints w2 (Bet w.heap.size w2.heap.size) y o):=⟨(a2m hown oZ).wide (λb hb=>⟨by have:=hb.1;simp at this;omega,hb.2⟩) (λb hb=>hb.2)⟩;clear hc hown;go_wp2;go_ret;exact⟨o,_,rfl,ho,HI.o,HC2.o.mono oZ⟩
end Go.Proofs.YtggfdnopminemaaGreatDoor
