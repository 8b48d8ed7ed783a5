/- From a law's contract. -/
import Derived.Test.YtggfdnopminemaaGreatDoorCards
import Derived.Test.YtggfdnopminemaaGreatDoorTie
import Derived.Test.YtggfdnopminemaaGreatDoorCurE5
set_option linter.all false
namespace Go.Proofs.YtggfdnopminemaaGreatDoor
open Go.Proofs.Tryz
variable {F:Blk} {l:List Int} {cap hi k lo:Nat} {ad:Option Go.Addr} {u:Go.Value} {W' v v':Go.World}
section
open Go Go.RowKit Go.ChangeShapes Go.WideShapes Go.ChangeAt
section
variable {H:Type} {enc:TypeId×Value->H} {P:Program}
theorem b2n (hl:laidOutB P=true) {W:World} (hb:Bl W W'):∀(ts:List TypeId) (vs:List Value) (ds:List (DataW H)) (ps:List MemPlace),
 (∀t∈ts,P.readableRec t=true/\t<P.types.size)->DataW.TrodAll enc P W 0 (λ_=>true) true ts vs ds ps->(∀x∈ps,x.block<W.heap.size) ->
 DataW.TrodAll enc P W' 0 (λb=>decide (b<W.heap.size)) true ts vs ds ps
 |[],[],[],_,_,h,_=>h
 |t::ts,v::vs,d::ds,ps,hr,h,hlt=>by
  obtain⟨p,q,h1,h2,rfl⟩:=h
  exact⟨p,q,Below.trod hl (hr t sZ).1 (hr t sZ).2 h1 hb (λx hx=>hlt x (by simp [hx])),
   b2n hl hb ts vs ds q (λt ht=>hr t (by simp [ht])) h2 (λx hx=>hlt x (by simp [hx])),rfl⟩
 |[],_::_,_,_,_,h,_=>h.elim
 |[],[],_::_,_,_,h,_=>h.elim
 |_::_,[],_,_,_,h,_=>h.elim
 |_::_,_::_,[],_,_,h,_=>h.elim
theorem e0c {f:Func} {s:ChangeSpec} {W:World} {args:Array Value} {ds gs:List (DataW H)} {before:List MemPlace} {tb:TypeId}
 (hl:laidOutB P=true) (hr:∀t∈f.params.toList,P.readableRec t=true/\t<P.types.size) (hres:f.resultTypes=#[tb]) (htb:P.underlying tb=some .bool)
 (hvars:s.vars=[]) (hfn:s.fn H (ds++[])={ results:=[.lit (.bool true)],args:=ds })
 (hW:DataW.Whole enc P f.params.toList s.vars false W args.toList ds gs before) (hb:Bl W W') :
 s.post enc P f false true false false W args (.bool true) W':=by
 have hW':=hW
 obtain⟨p,q,hA,hV,rfl,hfz,hnd⟩:=hW
 have hlt:∀x∈p,x.block<W.heap.size:=λx hx=>hW'.lt x (by simp [hx])
 have hA2:=b2n hl hb _ _ _ _ hr hA hlt
 rw [hvars]at hV
 have hg:gs=[]/\q=[]:=by
  cases gs with
  |nil=>exact⟨rfl,hV⟩
  |cons _ _=>exact hV.elim
 obtain⟨rfl,rfl⟩:=hg
 refine⟨ds,[],_,[],p,[],hW',?_,?_,?_,hb.frame _,λh=>by cases h⟩
 .rw [hfn,hres];exact trodAll_cons_mk (shut_bool htb true) trodAll_mk0
 .rw [hfn];exact hA2
 .rw [hfn,hvars];rfl
end
theorem boolT:Tryz.prog.underlying 4=some .bool:=underlying4
theorem laidOut:laidOutB Tryz.prog=true:=by kernel_rfl
end
section
open Go Go.RowKit
theorem env_of {α:Prop} {W:World} (hsh:W.ShapedOpen Tryz.prog) (_:α):Env W:=by
 obtain⟨m,hc⟩:∃m,W.cell? ⟨0,0,none⟩=some (.int .i64 m):=
  Go.Proofs.cell_of_shapedOpen_int (zero:=#[.int .i64 0]) (t:=3) hsh (of_decide_eq_true kZ) kZ rfl kZ kZ underlying3
 have h1:0<W.heap.size:=World.block_lt_of_cell? W _ hc;exact⟨by unfold EB;omega,m,hc⟩
def ranges:List Int:=[128,191,160,191,128,159,144,191,128,143,0,0,0,0,0,0,0,0,0,0,0,0,0,0,0,0,0,0,0,0,0,0]
def c4v (g:Nat) (k:IntKind) (l:List Int) (h:Array Obj):Array Obj:=h.modify g fun
 |.cells _ t frozen=>.cells (l.map λz=>Value.int k z).toArray t frozen
 |o=>o
noncomputable def laidWorld (os:Os):World:=
 { World.holding Tryz.prog os ⟨#[],#[],[]⟩ with heap:=c4v 3 .u8 (Go.Pinned.utf8FirstZ.map Int.ofNat) (c4v 4 .u8 ranges (World.holding Tryz.prog os ⟨#[],#[],[]⟩).heap) }
theorem own:ownKnob Tryz.prog.godebug=none:=by kernel_rfl
end
open Go Go.RowKit Go.ChangeShapes Go.WideShapes Go.ChangeAt
set_option maxRecDepth 100000
def d4d (w:World) (v:Value):Prop:=
 ∃(ad:Option Addr) (n cap:Nat),v=.slice ad n cap/\n<=maxLen/\(n=0\/∃g o,ad=some ⟨g,o,none⟩/\g<w.heap.size/\∀j,j<n->∃b:Nat,b<256/\w.cell? ⟨g,o+j,none⟩=some (.int .u8 b))
theorem e4b {H:Type} {enc:TypeId×Value->H} {W:World} {base:Nat} {held:Bool} {v:Value} {d:DataW H} {ps:List MemPlace}
 (hval:Value.okWide Tryz.prog W .any base 22 v) (hd:DataW.Trod enc Tryz.prog W 0 (λ_=>true) held 22 v d ps):d4d W v:=by
 obtain⟨a0,len,cap,rfl⟩:=okWide_slice underlying22 hval
 obtain⟨fuel,hf⟩:=hd
 rcases open_ints underlying22 underlying5 kZ hf with⟨hcs,hx⟩|⟨a,len',cap',zs,hcs,_,hl,hm,hz,hx,hcell,hwz⟩
 .have hcs':Value.slice a0 len cap=.slice none 0 0:=by simpa [Value.cells] using hcs
  injection hcs' with h1 h2 h3;exact⟨a0,len,cap,rfl,by omega,.inl h2⟩
 .have hcs':Value.slice a0 len cap=.slice (some a) len' cap':=by simpa [Value.cells] using hcs
  injection hcs' with h1 h2 h3;subst h1 h2 h3;refine⟨_,_,_,rfl,Nat.le_trans hl hm,?_⟩
  rcases Nat.eq_zero_or_pos len with h0|h0
  .exact .inl h0
  .right
   have hzl:zs.length=cap:=by simpa using hz
   have c0:=hcell 0 oZ;rw [show a.add 0=a from rfl]at c0;have hlt:=World.block_lt_of_cell? W a c0
   have hsp:a.spot=none:=by
    cases hs:a.spot with
    |none=>rfl
    |some x=>
     exfalso
     unfold World.cell? at c0;rw [hs]at c0
     split at c0
     .simp at c0
     .cases c0
   obtain⟨g,o,sp⟩:=a;simp only at hsp hlt;subst hsp;refine⟨g,o,rfl,hlt,λj hj=>?_⟩;have cj:=hcell j oZ;have hwf:=hwz (zs.getD j 0) (by rw [List.getD_eq_getElem?_getD,List.getElem?_eq_getElem oZ];exact List.getElem_mem _);simp only [Lit.wf,Bool.and_eq_true,decide_eq_true_eq]at hwf;simp [IntKind.min,IntKind.max,IntKind.signed,IntKind.bits]at hwf;obtain⟨b,hb⟩:=Int.eq_ofNat_of_zero_le hwf.1;refine⟨b,by omega,?_⟩;rw [<-hb,<-List.getD_eq_getElem?_getD,<-cj];unfold Addr.add
   split
   .rename_i h;rw [h];rfl
   .rfl
def b8e (w:World) (v:Value):Prop:=
 ∃(ad:Option Addr) (n cap:Nat),v=.slice ad n cap/\n<=65536/\(n=0\/∃g o,ad=some ⟨g,o,none⟩/\g<w.heap.size/\∀j,j<n->∃b:Nat,b<256/\w.cell? ⟨g,o+j,none⟩=some (.int .u8 b))
theorem b8e.fresh {w u:World} {v:Value} {t:TypeId} (h:b8e w v) (hb:Bl w u):a1o w.heap.size u.heap.size 0 (u.alloc (.cells #[v,.int .i64 0,.int .u64 0] t)):=by
 obtain⟨ad,n,cap,rfl,hn,hc⟩:=h;refine⟨ad,n,cap,0,0,by go_simp,by go_simp,by go_simp,by go_simp,by go_simp,Nat.le_refl _,hn,by decide,by decide,hb.size,by simp,hc.imp id ?_⟩;rintro⟨g,o,h1,h2,h3⟩;refine⟨g,o,h1,h2,λj hj=>?_⟩;obtain⟨b,hb1,hb2⟩:=h3 j hj;have hbb:=hb.trans ((Below.refl w.heap.size u).alloc hb.size (.cells #[.slice ad n cap,.int .i64 0,.int .u64 0] t));exact⟨b,hb1,(hbb.cell (p:=⟨g,o+j,none⟩) h2).trans hb2⟩
section
abbrev P.Lay:=P.Dic×Bool
abbrev P.Lays:=List P.Lay
set_option maxHeartbeats 8000000
def LayR (v:World) (u:Value) (l:P.Lays):Prop:=
 ∃(ad:Option Addr) (cap:Nat),u=.slice ad l.length cap/\(l.length<=2^45/\l.length<=cap)/\(ad=none->cap=0)/\(l=[]\/∃g o,ad=some ⟨g,o,none⟩/\g<v.heap.size/\∀(j:Nat) (h:j<l.length),∃x,v.cell? ⟨g,o+j*2,none⟩=some x/\v.cell? ⟨g,o+j*2+1,none⟩=some (.bool (l[j]'h).2)/\EntR v x (l[j]'h).1)
theorem LayR.below {l:P.Lays} (h:LayR v u l) (hb:Bl v v'):LayR v' u l:=by
 exact zq93
theorem LayR.at {n:Nat} {l:P.Lays} (h:LayR v (.slice ad n cap) l) (j:Nat) (hj:j<l.length):∃g o,ad=some ⟨g,o,none⟩/\g<v.heap.size/\∃x,v.cell? ⟨g,o+j*2,none⟩=some x/\v.cell? ⟨g,o+j*2+1,none⟩=some (.bool (l[j]'hj).2)/\EntR v x (l[j]'hj).1:=by
 obtain⟨ad',cap',he,_,_,h3⟩:=h;exact zq58
def layE:ElT P.Lay:=λv F cs e=>∃x,cs=[x,.bool e.2]/\RowO 2 entE v F x e.1
abbrev Lays:=RowO 2 layE
theorem Lays.read {l:P.Lays} (h:Lays v F u l):LayR v u l:=by
 obtain⟨ad,cap,h1,h2,hn,h3⟩:=h;refine⟨ad,cap,h1,by omega,hn.1,h3.imp id ?_⟩;rintro⟨g,o,G,C,h4,h5⟩;refine zm56 ?_;intro j hj x he hx hc hd;simp only [he,List.getElem_cons_zero,List.getElem_cons_succ,Nat.add_zero]at hc hd;exact⟨x,hc,hd,Ents.read hx⟩
end
def P.layers (l:P.Lays):Bool:=l.all λe=>P.dic e.1
def P.stack (l:P.Lays):Bool:=decide ((l.length:Int)<=4)&&P.layers l
namespace P
def a3a (o:List Int):Dic->Bs
 |[]=>[]
 |e::l=>if e.1=o then e.2 else a3a o l
def hasE (o:List Int) (l:Dic):Bool:=decide (0<=place o l)
theorem c5l (o:List Int) (e:Ent) (l:Dic):hasE o (e::l)=(decide (e.1=o)||hasE o l):=by
 have:=a8a o l;unfold hasE;rw [place]
 by_cases h:e.1=o
 .simp [h]
 .rw [if_neg h,decide_eq_false h,Bool.false_or]
  split<;>(apply decide_eq_decide.2;omega)
theorem a9k {o:List Int}:∀{l:Dic} {i:Nat} (_:place o l=i) (hi:i<l.length),(l[i]'hi).2=a3a o l
 |e::l,i,h,hi=>by
  have h0:=a8a o l;unfold place at h;unfold a3a
  by_cases he:e.1=o
  .rw [if_pos he]at h⊢;obtain rfl:i=0:=by omega
   rfl
  .rw [if_neg he]at h⊢
   split at h
   .omega
   .obtain⟨k,rfl⟩:∃k:Nat,i=k+1:=⟨i-1,by omega⟩;exact a9k (l:=l) (i:=k) oZ (by simpa using hi)
theorem b4b {o:List Int}:∀{l:Dic},hasE o l=false->a3a o l=[]
 |[],_=>rfl
 |e::l,h=>by
  rw [c5l,Bool.or_eq_false_iff,decide_eq_false_iff_not]at h;unfold a3a;rw [if_neg h.1];exact b4b h.2
theorem b8u {o:List Int}:∀{l:Dic},hasE o l=true->(o,a3a o l)∈l
 |[],h=>by simp [hasE,place]at h
 |e::l,h=>by
  rw [c5l,Bool.or_eq_true,decide_eq_true_eq]at h;unfold a3a
  by_cases he:e.1=o
  .rw [if_pos he,<-he];simp
  .rw [if_neg he];exact List.mem_cons_of_mem _ (b8u (h.resolve_left he))
end P
namespace P
def b5g (o:List Int) (l:Dic):Bs×Bool:=if dic l then (a3a o l,hasE o l) else ([],false)
end P
set_option maxHeartbeats 8000000
def c9a (o:List Int) (l:P.Dic) (w:World) (e:Ending) (w':World):Prop:=e=.returned (.tuple #[.string (S (P.a3a o l)),.bool (P.hasE o l)])/\Bl w w'
theorem e1m (dv ov:Value) (l:P.Dic) (o:List Int) (w:World) (hu:EntR w dv l) (ho:IntR w ov o) :
 Cz 238 #[.agg #[dv],ov] w (c9a o l w):=by
 refine zm53 ?_;intro hb0;refine zm93 ?_;intro HU HO HB0;have HBX:=qh (Box1.new dv 26 w);have hl0:=P.a8a o l;have hl1:=P.b5v (o:=o) (l:=l);obtain⟨ad,cap,rfl,hll,_⟩:=hu;obtain⟨od,oc,rfl,_,_⟩:=ho;clear hb0;go_enter func238,ntmps238;go_wp2_with fail;refine (l6At _ _ l o _ HU.o HO.o).mono ?_;rintro e w1 ⟨rfl,hb⟩;have HU1:=qh (HU.o.below hb);obtain⟨b0,_⟩:=HBX.o.below hb;have HB1:=qh (HB0.o.trans (hb.mono sZ));clear hb HU HO HB0 HBX;by_cases hneg:P.place o l<0
 .have HN:=qh (show P.hasE o l=false by unfold P.hasE;exact decide_eq_false oZ);go_wp2;refine bodyPost_ret (v:=.tuple #[.string (S []),.bool false]) (by simp [results,results238,go_sem]) rfl ⟨by rw [P.b4b HN.o,HN.o],HB1.o⟩
 .have HN:=qh (show P.hasE o l=true by unfold P.hasE;exact decide_eq_true oZ);obtain⟨i,hi⟩:=Int.eq_ofNat_of_zero_le (show 0<=P.place o l by omega);have hil:i<l.length:=by omega
  obtain⟨g,p,rfl,hgl,x,c0,c1,hx⟩:=HU1.o.at i hil;rw [P.a9k hi hil]at c1;rw [hi]at hneg⊢;have i1:(i:Int)<(l.length:Int):=by omega
  clear hl0 hl1 hi c0 hx;go_wp2;refine bodyPost_ret (v:=.tuple #[.string (S (P.a3a o l)),.bool true]) (by simp [results,results238,go_sem]) rfl ⟨by rw [HN.o],HB1.o⟩
theorem c4y (dv ov:Value) (l:P.Dic) (o:List Int) (w:World) (hu:EntR w dv l) (ho:IntR w ov o) :
 Cz 228 #[.agg #[dv],ov] w (c9a o l w):=by
 refine zm53 ?_;intro hb0;refine zm93 ?_;intro HU HO HB0;have HBX:=qh (Box1.new dv 26 w);have hl0:=P.a8a o l;have hl1:=P.b5v (o:=o) (l:=l);obtain⟨ad,cap,rfl,hll,_⟩:=hu;obtain⟨od,oc,rfl,_,_⟩:=ho;clear hb0;go_enter func228,ntmps228;go_wp2_with fail;refine (d7i _ _ l o _ HU.o HO.o).mono ?_;rintro e w1 ⟨rfl,hb⟩;have HU1:=qh (HU.o.below hb);obtain⟨b0,_⟩:=HBX.o.below hb;have HB1:=qh (HB0.o.trans (hb.mono sZ));clear hb HU HO HB0 HBX;by_cases hneg:P.place o l<0
 .have HN:=qh (show P.hasE o l=false by unfold P.hasE;exact decide_eq_false oZ);go_wp2;refine bodyPost_ret (v:=.tuple #[.string (S []),.bool false]) (by simp [results,results228,go_sem]) rfl ⟨by rw [P.b4b HN.o,HN.o],HB1.o⟩
 .have HN:=qh (show P.hasE o l=true by unfold P.hasE;exact decide_eq_true oZ);obtain⟨i,hi⟩:=Int.eq_ofNat_of_zero_le (show 0<=P.place o l by omega);have hil:i<l.length:=by omega
  obtain⟨g,p,rfl,hgl,x,c0,c1,hx⟩:=HU1.o.at i hil;rw [P.a9k hi hil]at c1;rw [hi]at hneg⊢;have i1:(i:Int)<(l.length:Int):=by omega
  clear hl0 hl1 hi c0 hx;go_wp2;refine bodyPost_ret (v:=.tuple #[.string (S (P.a3a o l)),.bool true]) (by simp [results,results228,go_sem]) rfl ⟨by rw [HN.o],HB1.o⟩
theorem c6w (dv ov:Value) (l:P.Dic) (o:List Int) (w:World) (hu:EntR w dv l) (ho:IntR w ov o) (hs:Small l) (hE:Env w) :
 Cz 211 #[.agg #[dv],ov] w λe w'=>e=.returned (.tuple #[.string (S (P.b5g o l).1),.bool (P.b5g o l).2])/\Bl w w':=by
 refine zm53 ?_;intro hb0;refine zm93 ?_;intro HU HO HB0;have HBX:=qh (Box1.new dv 26 w);have HSM:=qh hs;have HE:=qh (hE.below hb0 hE.size);obtain⟨ad,cap,rfl,hll,_⟩:=hu;obtain⟨od,oc,rfl,_,_⟩:=ho;clear hb0 hs;go_enter func211,ntmps211;go_wp2_with fail;refine (a1e _ l _ HU.o HSM.o.texts HE.o).mono ?_;rintro e w1 ⟨rfl,hb⟩;have HU1:=qh (HU.o.below hb);have HO1:=qh (HO.o.below hb);obtain⟨b0,_⟩:=HBX.o.below hb;have HB1:=qh (HB0.o.trans (hb.mono sZ));clear hb HU HO HB0 HBX
 cases hd:P.dic l
 .have HD:=qh (show P.b5g o l=([],false) by unfold P.b5g;rw [hd];rfl);clear hd;go_wp2;refine bodyPost_ret (v:=.tuple #[.string (S []),.bool false]) (by simp [results,results211,go_sem]) rfl ⟨by rw [HD.o],HB1.o⟩
 .have HD:=qh (show P.b5g o l=(P.a3a o l,P.hasE o l) by unfold P.b5g;rw [hd];rfl);clear hd
  go_wp2_with fail
  refine (c4y _ _ l o _ HU1.o HO1.o).mono ?_;rintro e w2 ⟨rfl,hb⟩;have HB2:=bt HB1 hb;clear hb;go_wp2;refine bodyPost_ret (v:=.tuple #[.string (S (P.a3a o l)),.bool (P.hasE o l)]) (by simp [results,results211,go_sem]) rfl ⟨by rw [HD.o],HB2.o⟩
theorem d3n:(Tryz.prog.info? 33).map (λi=>(i.zero,i.size,i.bytes))=some (some (.slice none 0 0),1,24):=by kernel_rfl
namespace P
def begins (o p:List Int):Bool:=decide (p.length<=o.length)&&decide (o.take p.length=p)
end P
theorem IntR.take (h:IntR v (.slice ad l.length cap) l) (hk:k<=l.length):IntR v (.slice ad k cap) (l.take k):=by
 obtain⟨ad',cap',he,h1,hn,h3⟩:=h;injection he with e1 e2 e3;subst e1 e3;have hlk:(l.take k).length=k:=by rw [List.length_take];omega
 refine⟨ad,cap,by rw [hlk],by omega,hn,?_⟩
 rcases h3 with h3|⟨g,o,h4,h5,h6⟩
 .left;rw [h3];simp
 .refine .inr ⟨g,o,h4,h5,λj hj=>?_⟩;have hj':j<l.length:=by omega
  rw [List.getElem_take];exact h6 j hj'
def a7j (lo hi:Nat) (v:World) (u:Value) (l:List Int):Prop:=hi<=v.heap.size/\∀v',Kept (Bet lo hi) v v'->IntR v' u l
theorem a7j.now (h:a7j lo hi v u l):IntR v u l:=h.2 v ⟨Nat.le_refl _,λ_ _=>rfl⟩
theorem a7j.chg {X:Blk} (h:a7j lo hi v u l) (hc:Chg X v v') (hX:∀b,lo<=b->b<hi->¬X b):a7j lo hi v' u l:=
 ⟨Nat.le_trans h.1 hc.size,λv2 hk=>h.2 v2 ⟨Nat.le_trans hc.size hk.1,λb hb=>(hk.2 b hb).trans (hc.block b (Nat.lt_of_lt_of_le hb.2 h.1) (hX b hb.1 hb.2))⟩⟩
theorem a7j.wide {lo' hi':Nat} (h:a7j lo hi v u l) (h1:lo'<=lo) (h2:hi<=hi') (h3:hi'<=v.heap.size):a7j lo' hi' v u l:=
 ⟨h3,λv2 hk=>h.2 v2 (hk.mono λ_ hb=>⟨Nat.le_trans h1 hb.1,Nat.lt_of_lt_of_le hb.2 h2⟩)⟩
theorem Ints.d9a (h:Ints v F u l) (hF:∀b,F b->lo<=b/\b<hi) (hh:hi<=v.heap.size):a7j lo hi v u l:=
 ⟨hh,λ_ hk=>Ints.read (h.keep a1l (hk.mono hF))⟩
theorem a7j.first (h:a7j lo hi v (.slice ad l.length cap) l) (hk:k<=l.length):a7j lo hi v (.slice ad k cap) (l.take k):=
 ⟨h.1,λv2 h2=>IntR.take (h.2 v2 h2) hk⟩
end Go.Proofs.YtggfdnopminemaaGreatDoor
