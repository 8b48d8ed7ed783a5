/- From a law's contract to its row: what is the same for every law. The library's variables at a row's first world (a dictionary seat); a world for the witnesses. Rows of ints and of entries, out of a row's own reading of its arguments. -/
import Derived.Test.YtggfdnopminemaaGreatDoorZt
import Derived.Test.YtggfdnopminemaaGreatDoorCards
import Derived.Test.YtggfdnopminemaaGreatDoorTie
import Derived.Test.YtggfdnopminemaaGreatDoorSesM
namespace Go.Proofs.YtggfdnopminemaaGreatDoor
section
open Go Go.RowKit Go.ChangeShapes Go.WideShapes Go.ChangeAt
section
variable {H:Type} {enc:TypeId×Value→H} {P:Program}
theorem b0o (hl:laidOutB P=true) {W W':World} (hb:Below W.heap.size W W'):∀(ts:List TypeId) (vs:List Value) (ds:List (DataW H)) (ps:List MemPlace),
 (∀t∈ts,P.readableRec t=true∧t<P.types.size)→DataW.TrodAll enc P W 0 (fun _=>true) true ts vs ds ps→(∀x∈ps,x.block<W.heap.size) →
 DataW.TrodAll enc P W' 0 (fun b=>decide (b<W.heap.size)) true ts vs ds ps
 |[],[],[],_,_,h,_=>h
 |t::ts,v::vs,d::ds,ps,hr,h,hlt=>by
  obtain⟨p,q,h1,h2,rfl⟩:=h
  exact⟨p,q,Below.trod hl (hr t sZ).1 (hr t sZ).2 h1 hb (fun x hx=>hlt x (by simp [hx])),
   b0o hl hb ts vs ds q (fun t ht=>hr t (by simp [ht])) h2 (fun x hx=>hlt x (by simp [hx])),rfl⟩
 |[],_::_,_,_,_,h,_=>h.elim
 |[],[],_::_,_,_,h,_=>h.elim
 |_::_,[],_,_,_,h,_=>h.elim
 |_::_,_::_,[],_,_,h,_=>h.elim
theorem d4y {f:Func} {s:ChangeSpec} {W W':World} {args:Array Value} {ds gs:List (DataW H)} {before:List MemPlace} {tb:TypeId}
 (hl:laidOutB P=true) (hr:∀t∈f.params.toList,P.readableRec t=true∧t<P.types.size) (hres:f.resultTypes=#[tb]) (htb:P.underlying tb=some .bool)
 (hvars:s.vars=[]) (hfn:s.fn H (ds++[])={ results:=[.lit (.bool true)],args:=ds })
 (hW:DataW.Whole enc P f.params.toList s.vars false W args.toList ds gs before) (hb:Below W.heap.size W W') :
 s.post enc P f false true false false W args (.bool true) W':=by
 have hW':=hW
 obtain⟨p,q,hA,hV,rfl,hfz,hnd⟩:=hW
 have hlt:∀x∈p,x.block<W.heap.size:=fun x hx=>hW'.lt x (by simp [hx])
 have hA2:=b0o hl hb _ _ _ _ hr hA hlt
 rw [hvars]at hV
 have hg:gs=[]∧q=[]:=by
  cases gs with
  |nil=>exact⟨rfl,hV⟩
  |cons _ _=>exact hV.elim
 obtain⟨rfl,rfl⟩:=hg
 refine⟨ds,[],_,[],p,[],hW',?_,?_,?_,hb.frame _,fun h=>by cases h⟩
 ·rw [hfn,hres];exact trodAll_cons_mk (shut_bool htb true) trodAll_mk0
 ·rw [hfn];exact hA2
 ·rw [hfn,hvars];rfl
end
theorem boolT:Tryz.prog.underlying 4=some .bool:=Tryz.underlying4
theorem laidOut:laidOutB Tryz.prog=true:=by kernel_rfl
end
section
open Go Go.RowKit
theorem env_of {α:Prop} {W:World} (hsh:W.ShapedOpen Tryz.prog) (_:α):Env W:=by
 obtain⟨m,hc⟩:∃m,W.cell? ⟨0,0,none⟩=some (.int .i64 m):=
  Go.Proofs.cell_of_shapedOpen_int (zero:=#[.int .i64 0]) (t:=3) hsh (of_decide_eq_true kZ) kZ rfl kZ kZ Tryz.underlying3
 have h1:0<W.heap.size:=World.block_lt_of_cell? W _ hc;exact⟨by unfold EB;omega,m,hc⟩
def ranges:List Int:=[128,191,160,191,128,159,144,191,128,143,0,0,0,0,0,0,0,0,0,0,0,0,0,0,0,0,0,0,0,0,0,0]
def c1f (g:Nat) (k:IntKind) (l:List Int) (h:Array Obj):Array Obj:=h.modify g fun
 |.cells _ t frozen=>.cells (l.map fun z=>Value.int k z).toArray t frozen
 |o=>o
noncomputable def laidWorld (os:Os):World:=
 { World.holding Tryz.prog os ⟨#[],#[],[]⟩ with heap:=c1f 3 .u8 (Go.Pinned.utf8FirstZ.map Int.ofNat) (c1f 4 .u8 ranges (World.holding Tryz.prog os ⟨#[],#[],[]⟩).heap) }
theorem own:ownKnob Tryz.prog.godebug=none:=by kernel_rfl
end
section
open Go Go.RowKit Go.ChangeShapes Go.WideShapes Go.ChangeAt Go.Deep
set_option maxRecDepth 100000
section
variable {H:Type} {enc:TypeId×Value→H} {W:World} {held:Bool}
theorem b9i {a:Addr} {c:Value} (h:W.cell? a=some c):∃g o,a=⟨g,o,none⟩∧g<W.heap.size:=by
 have hlt:=World.block_lt_of_cell? W a h
 have hsp:a.spot=none:=by
  cases hs:a.spot with
  |none=>rfl
  |some x=>
   exfalso
   unfold World.cell? at h;rw [hs]at h
   split at h
   ·simp at h
   ·cases h
 obtain⟨g,o,sp⟩:=a;simp only at hsp hlt;subst hsp;exact⟨g,o,rfl,hlt⟩
theorem c6t (g o j:Nat):(⟨g,o,none⟩:Addr).add j=⟨g,o+j,none⟩:=by unfold Addr.add;split<;>simp_all
theorem c9h {fuel:Nat} {c:Value} {x:DataW H×List MemPlace} (h:DataW.trod enc Tryz.prog W 0 (fun _=>true) held fuel 33 [c]=some x):∃l,IntA W c l:=by
 rcases open_ints Tryz.underlying33 Tryz.underlying3 kZ h with⟨hc,_⟩|⟨a,len,cap,zs,hc,_,hl,hm,hz,_,hcell,_⟩
 ·have hc':c=.slice none 0 0:=by simpa using hc
  subst hc';exact⟨[],none,0,rfl,by simp,fun _=>rfl,.inl rfl⟩
 ·have hc':c=.slice (some a) len cap:=by simpa using hc
  subst hc';have hzl:zs.length=cap:=by simpa using hz
  have htl:(zs.take len).length=len:=by rw [List.length_take];omega
  unfold maxLen at hm;refine⟨zs.take len,some a,cap,by rw [htl],by omega,(fun h=>by cases h),?_⟩
  rcases Nat.eq_zero_or_pos len with h0|h0
  ·left;rw [h0];rfl
  ·right
   have c0:=hcell 0 oZ;rw [show a.add 0=a from rfl]at c0;obtain⟨g,o,rfl,hlt⟩:=b9i c0;refine⟨g,o,rfl,hlt,fun j hj=>?_⟩;rw [htl]at hj;have cj:=hcell j oZ;rw [c6t]at cj;rw [cj,List.getElem_take,List.getD_eq_getElem?_getD,List.getElem?_eq_getElem oZ];rfl
theorem d8m {fuel:Nat} {c:Value} {x:DataW H×List MemPlace} (h:DataW.trod enc Tryz.prog W 0 (fun _=>true) held fuel 61 [c]=some x):∃l,EntA W c l∧∀e∈l,e.2.length≤9223372036854775807:=by
 rcases open_slice Tryz.underlying61 h with⟨hc,_⟩|⟨a,len,cap,m,n,D,Pl,hc,_,hl,hm,hmm,_,hi⟩
 ·have hc':c=.slice none 0 0:=by simpa using hc
  subst hc';exact⟨[],⟨none,0,rfl,by simp,fun _=>rfl,.inl rfl⟩,fun _ h=>by cases h⟩
 ·have hc':c=.slice (some a) len cap:=by simpa using hc
  subst hc';have hmc:m=cap:=by simpa using hmm
  subst hmc;unfold maxLen at hm
  have each:∀i,i<len→∃e:P.Ent,∃x,W.cell? (a.add (i*2))=some x∧W.cell? (a.add (i*2+1))=some (.string (S e.2))∧IntA W x e.1∧e.2.length≤9223372036854775807:=by
   intro i hil;obtain⟨cs,hcs,ht⟩:=hi i oZ;rw [show Tryz.prog.cellsOf 181=2 by kernel_rfl]at hcs;obtain⟨_,hcl,hat⟩:=World.cells?_some hcs;obtain⟨xs,n',_,_,_,hxl,hf⟩:=DataW.trod_struct Tryz.underlying181 ht
   match cs,hcl with
   |[c0,c1],_=>
    have a0:=hat 0 oZ;have a1:=hat 1 oZ;rw [add_add]at a0 a1;have f0:=hf 0 _ rfl;have f1:=hf 1 _ rfl;simp only [List.getElem_toArray,List.getElem_cons_zero,List.getElem_cons_succ]at f0 f1;rw [show Tryz.prog.cellsOf 33=1 by kernel_rfl]at f0;rw [show Tryz.prog.cellsOf 9=1 by kernel_rfl]at f1;have hx2:xs.length=2:=hxl;rw [List.getElem?_eq_getElem oZ]at f0 f1;obtain⟨l,hl'⟩:=c9h (show DataW.trod enc Tryz.prog W 0 (fun _=>true) held n' 33 [c0]=some _ from f0);obtain⟨s,hs,_,hw⟩:=DataW.trod_string Tryz.underlying9 (show DataW.trod enc Tryz.prog W 0 (fun _=>true) held n' 9 [c1]=some _ from f1);obtain⟨t,rfl⟩:=b0h s;have hs':c1=.string (S t):=by simpa using hs
    subst hs';rw [S_size]at hw;unfold maxLen at hw;exact⟨(l,t),c0,by simpa using a0,by simpa using a1,hl',hw⟩
  obtain⟨f,hf⟩:=choose_lt each;have htl:((List.range len).map f).length=len:=by simp
  refine⟨(List.range len).map f,⟨some a,m,by rw [htl],by omega,(fun h=>by cases h),?_⟩,fun e he=>?_⟩
  ·rcases Nat.eq_zero_or_pos len with h0|h0
   ·left;rw [h0];rfl
   ·right
    obtain⟨x,c0,_⟩:=hf 0 h0;rw [Nat.zero_mul,show a.add 0=a from rfl]at c0;obtain⟨g,o,rfl,hlt⟩:=b9i c0;refine⟨g,o,rfl,hlt,fun j hj=>?_⟩;rw [htl]at hj;obtain⟨x,d0,d1,d2,_⟩:=hf j hj;rw [c6t]at d0 d1;simp only [List.getElem_map,List.getElem_range];exact⟨x,d0,d1,d2⟩
  ·obtain⟨i,hi',rfl⟩:=List.mem_map.1 he;obtain⟨_,_,_,_,hw⟩:=hf i (List.mem_range.1 hi');exact hw
end
end
open Go Go.RowKit Go.ChangeShapes Go.WideShapes Go.ChangeAt Go.Deep
set_option maxRecDepth 100000
theorem b2d {P:Program} {W:World} {name:String} {k:IntKind} {zs:List Int} {g:Nat} {t e:TypeId} {n:Nat}
 (hg:P.globalNamed name=some g) (hty:(P.globals[g]?).map (·.type)=some t) (ht:P.underlying t=some (.array n e)) (he:P.underlying e=some (.int k)) (hce:P.cellsOf e=1) (hct:P.cellsOf t=n) :
 ∀(laid:List (String×DataW Unit)) (ps:List MemPlace),(name,Lib.tabData k zs)∈laid→DataW.LaidVars P W laid ps→Lib.TabIs P W name k zs
 |[],_,h,_=>by cases h
 |(m,d)::r,ps,h,hl=>by
  obtain⟨g',t',cs,fuel,p,q,hg',ht',hvar,hd,hrest,_⟩:=hl
  rcases List.mem_cons.1 h with h|h
  ·injection h with h1 h2;subst h1 h2;obtain rfl:=Option.some.inj (hg.symm.trans hg');obtain rfl:=Option.some.inj (hty.symm.trans ht');unfold Lib.TabIs;rw [hvar,←Lib.cells_of_tab ht he hce hct hd]
  ·exact b2d hg hty ht he hce hct r _ h hrest
theorem d7p {W:World} (hsh:W.ShapedOpen Tryz.prog) (h:laidMetH Tryz.prog [("math/bits.deBruijn32tab",Rows.laid_math_bits_deBruijn32tab),("math/bits.deBruijn64tab",Rows.laid_math_bits_deBruijn64tab),("internal/strconv.uint64pow10",Rows.laid_internal_strconv_uint64pow10),("unicode/utf8.acceptRanges",Rows.laid_unicode_utf8_acceptRanges),("unicode/utf8.first",Rows.laid_unicode_utf8_first)] W):L.Env W:=by
 have hm:laidMet Tryz.prog [("math/bits.deBruijn32tab",Rows.laid_math_bits_deBruijn32tab),("math/bits.deBruijn64tab",Rows.laid_math_bits_deBruijn64tab),("internal/strconv.uint64pow10",Rows.laid_internal_strconv_uint64pow10),("unicode/utf8.acceptRanges",Rows.laid_unicode_utf8_acceptRanges),("unicode/utf8.first",Rows.laid_unicode_utf8_first)] W:=h;obtain⟨ps,hv,_⟩:=hm
 have htab:Lib.TabIs Tryz.prog W "internal/strconv.uint64pow10" .u64 Lib.pow10Tab:=
  b2d (t:=302) (e:=89) (n:=20) L.c3d kZ Tryz.underlying302 Tryz.underlying89 kZ kZ _ _ (List.mem_cons_of_mem _ (List.mem_cons_of_mem _ (List.mem_cons_self ..))) hv
 obtain⟨_,m,hc⟩:=env_of hsh trivial;have h1:0<W.heap.size:=World.block_lt_of_cell? W _ hc;have h2:5<W.heap.size:=World.block_lt_of_cell? W _ (htab.cell L.c3d 0 dZ);exact⟨by unfold L.EB;omega,⟨m,hc⟩,htab⟩
def tab32Q:List Int:=[0,1,28,2,29,14,24,3,30,22,20,15,25,17,4,8,31,27,13,23,21,19,16,7,26,12,18,6,11,5,10,9]
def tab64Q:List Int:=[0,1,56,2,57,49,28,3,61,58,42,50,38,29,17,4,62,47,59,36,45,43,51,22,53,39,33,30,24,18,12,5,63,55,48,27,60,41,37,16,46,35,44,21,52,32,23,11,54,26,40,15,34,20,31,10,25,14,19,9,13,8,7,6]
noncomputable def laidWorldQ (os:Os):World:=
 { laidWorld os with heap:=c1f 5 .u64 Lib.pow10Tab (c1f 7 .u8 tab64Q (c1f 6 .u8 tab32Q (laidWorld os).heap)) }
section
variable {H:Type} {enc:TypeId×Value→H} {W:World} {held:Bool}
theorem d7v {base:Nat} {v:Value} {d:DataW H} {ps:List MemPlace} (hval:Value.okWide Tryz.prog W .any base 73 v) (hd:DataW.Trod enc Tryz.prog W 0 (fun _=>true) held 73 v d ps) :
 ∃u us l st sc dd pp n,v=a1e u us sc dd pp n∧EntA W u l∧(∀e∈l,e.2.length≤9223372036854775807)∧IntA W us st∧sc.length≤9223372036854775807∧dd.length≤maxLen∧pp.length≤maxLen:=by
 obtain⟨cs,rfl,hsz⟩:=okWide_struct Tryz.underlying73 hval
 rw [show Tryz.prog.cellsOf 73=6 by kernel_rfl]at hsz
 obtain⟨cl⟩:=cs
 match cl,hsz with
 |[c0,c1,c2,c3,c4,c5],_=>
  obtain⟨fuel,hf⟩:=hd;obtain⟨xs,n',_,_,_,hxl,hg⟩:=DataW.trod_struct Tryz.underlying73 hf;have f0:=hg 0 _ rfl;have f1:=hg 1 _ rfl;have f2:=hg 2 _ rfl;simp only [List.getElem_toArray,List.getElem_cons_zero,List.getElem_cons_succ]at f0 f1 f2;rw [show Tryz.prog.cellsOf 63=1 by kernel_rfl]at f0;rw [show Tryz.prog.cellsOf 71=2 by kernel_rfl]at f1;rw [show Tryz.prog.cellsOf 64=3 by kernel_rfl]at f2;have hx3:xs.length=3:=hxl;rw [List.getElem?_eq_getElem oZ]at f0 f1 f2;obtain⟨xs0,n0,_,_,_,hxl0,hg0⟩:=DataW.trod_struct Tryz.underlying63 (show DataW.trod enc Tryz.prog W 0 (fun _=>true) held n' 63 [c0]=some _ from f0);obtain⟨xs1,n1,_,_,_,hxl1,hg1⟩:=DataW.trod_struct Tryz.underlying71 (show DataW.trod enc Tryz.prog W 0 (fun _=>true) held n' 71 [c1,c2]=some _ from f1);obtain⟨xs2,n2,_,_,_,hxl2,hg2⟩:=DataW.trod_struct Tryz.underlying64 (show DataW.trod enc Tryz.prog W 0 (fun _=>true) held n' 64 [c3,c4,c5]=some _ from f2);have d0:=hg0 0 _ rfl;have t0:=hg1 0 _ rfl;have t1:=hg1 1 _ rfl;have l0:=hg2 0 _ rfl;have l1:=hg2 1 _ rfl;have l2:=hg2 2 _ rfl;simp only [List.getElem_toArray,List.getElem_cons_zero,List.getElem_cons_succ]at d0 t0 t1 l0 l1 l2;rw [show Tryz.prog.cellsOf 61=1 by kernel_rfl]at d0;rw [show Tryz.prog.cellsOf 33=1 by kernel_rfl]at t0;rw [show Tryz.prog.cellsOf 9=1 by kernel_rfl]at t1 l0 l1;rw [show Tryz.prog.cellsOf 3=1 by kernel_rfl]at l2;have hx0:xs0.length=1:=hxl0;have hx1:xs1.length=2:=hxl1;have hx2:xs2.length=3:=hxl2;rw [List.getElem?_eq_getElem oZ]at d0 t0 t1 l0 l1 l2;obtain⟨l,hl,hw⟩:=d8m (show DataW.trod enc Tryz.prog W 0 (fun _=>true) held n0 61 [c0]=some _ from d0);obtain⟨st,hst⟩:=c9h (show DataW.trod enc Tryz.prog W 0 (fun _=>true) held n1 33 [c1]=some _ from t0);obtain⟨s1,e1,_,w1⟩:=DataW.trod_string Tryz.underlying9 (show DataW.trod enc Tryz.prog W 0 (fun _=>true) held n1 9 [c2]=some _ from t1);obtain⟨s2,e2,_,w2⟩:=DataW.trod_string Tryz.underlying9 (show DataW.trod enc Tryz.prog W 0 (fun _=>true) held n2 9 [c3]=some _ from l0);obtain⟨s3,e3,_,w3⟩:=DataW.trod_string Tryz.underlying9 (show DataW.trod enc Tryz.prog W 0 (fun _=>true) held n2 9 [c4]=some _ from l1);obtain⟨z,e4,_,_⟩:=DataW.trod_int Tryz.underlying3 (show DataW.trod enc Tryz.prog W 0 (fun _=>true) held n2 3 [c5]=some _ from l2);obtain⟨sc,rfl⟩:=b0h s1;obtain⟨dd,rfl⟩:=b0h s2;obtain⟨pp,rfl⟩:=b0h s3;have e1':c2=.string (S sc):=by simpa using e1
  have e2':c3=.string (S dd):=by simpa using e2
  have e3':c4=.string (S pp):=by simpa using e3
  have e4':c5=.int .i64 z:=by simpa using e4
  subst e1' e2' e3' e4';rw [S_size]at w1 w2 w3;exact⟨c0,c1,l,st,sc,dd,pp,z,rfl,hl,hw,hst,by unfold maxLen at w1;exact w1,w2,w3⟩
end
end Go.Proofs.YtggfdnopminemaaGreatDoor
