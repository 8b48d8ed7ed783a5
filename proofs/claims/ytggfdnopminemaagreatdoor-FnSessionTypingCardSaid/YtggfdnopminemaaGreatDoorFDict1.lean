/- From a law's contract to its row: what is the same for every law. The library's variables at a row's first world (a dictionary seat); a world for the witnesses. Rows of ints and of entries, out of a row's own reading of its arguments. -/
import Derived.Test.YtggfdnopminemaaGreatDoorZt
import Derived.Test.YtggfdnopminemaaGreatDoorCards
import Derived.Test.YtggfdnopminemaaGreatDoorTie
import Derived.Test.YtggfdnopminemaaGreatDoorCurA
set_option linter.all false
namespace Go.Proofs.YtggfdnopminemaaGreatDoor
section
open Go Go.RowKit Go.ChangeShapes Go.WideShapes Go.ChangeAt
section
variable {H:Type} {enc:TypeId×Value→H} {P:Program}
theorem a9j (hl:laidOutB P=true) {W W':World} (hb:Below W.heap.size W W'):∀(ts:List TypeId) (vs:List Value) (ds:List (DataW H)) (ps:List MemPlace),
 (∀t∈ts,P.readableRec t=true∧t<P.types.size)→DataW.TrodAll enc P W 0 (fun _=>true) true ts vs ds ps→(∀x∈ps,x.block<W.heap.size) →
 DataW.TrodAll enc P W' 0 (fun b=>decide (b<W.heap.size)) true ts vs ds ps
 |[],[],[],_,_,h,_=>h
 |t::ts,v::vs,d::ds,ps,hr,h,hlt=>by
  obtain⟨p,q,h1,h2,rfl⟩:=h
  exact⟨p,q,Below.trod hl (hr t sZ).1 (hr t sZ).2 h1 hb (fun x hx=>hlt x (by simp [hx])),
   a9j hl hb ts vs ds q (fun t ht=>hr t (by simp [ht])) h2 (fun x hx=>hlt x (by simp [hx])),rfl⟩
 |[],_::_,_,_,_,h,_=>h.elim
 |[],[],_::_,_,_,h,_=>h.elim
 |_::_,[],_,_,_,h,_=>h.elim
 |_::_,_::_,[],_,_,h,_=>h.elim
theorem d1s {f:Func} {s:ChangeSpec} {W W':World} {args:Array Value} {ds gs:List (DataW H)} {before:List MemPlace} {tb:TypeId}
 (hl:laidOutB P=true) (hr:∀t∈f.params.toList,P.readableRec t=true∧t<P.types.size) (hres:f.resultTypes=#[tb]) (htb:P.underlying tb=some .bool)
 (hvars:s.vars=[]) (hfn:s.fn H (ds++[])={ results:=[.lit (.bool true)],args:=ds })
 (hW:DataW.Whole enc P f.params.toList s.vars false W args.toList ds gs before) (hb:Below W.heap.size W W') :
 s.post enc P f false true false false W args (.bool true) W':=by
 have hW':=hW
 obtain⟨p,q,hA,hV,rfl,hfz,hnd⟩:=hW
 have hlt:∀x∈p,x.block<W.heap.size:=fun x hx=>hW'.lt x (by simp [hx])
 have hA2:=a9j hl hb _ _ _ _ hr hA hlt
 rw [hvars]at hV
 have hg:gs=[]∧q=[]:=by
  cases gs with
  |nil=>exact⟨rfl,hV⟩
  |cons _ _=>exact hV.elim
 obtain⟨rfl,rfl⟩:=hg
 refine⟨ds,[],_,[],p,[],hW',?_,?_,?_,hb.frame _,fun h=>by cases h⟩
 ·rw [hfn,hres];exact trodAll_cons_mk (shut_bool htb true) trodAll_mk0
 ·rw [hfn];exact hA2
 ·rw [hfn,hvars];rfl
end
theorem boolT:Tryz.prog.underlying 4=some .bool:=Tryz.underlying4
theorem laidOut:laidOutB Tryz.prog=true:=by kernel_rfl
end
section
open Go Go.RowKit
theorem env_of {α:Prop} {W:World} (hsh:W.ShapedOpen Tryz.prog) (_:α):Env W:=by
 obtain⟨m,hc⟩:∃m,W.cell? ⟨0,0,none⟩=some (.int .i64 m):=
  Go.Proofs.cell_of_shapedOpen_int (zero:=#[.int .i64 0]) (t:=3) hsh (of_decide_eq_true kZ) kZ rfl kZ kZ Tryz.underlying3
 have h1:0<W.heap.size:=World.block_lt_of_cell? W _ hc;exact⟨by unfold EB;omega,m,hc⟩
def ranges:List Int:=[128,191,160,191,128,159,144,191,128,143,0,0,0,0,0,0,0,0,0,0,0,0,0,0,0,0,0,0,0,0,0,0]
def b8y (g:Nat) (k:IntKind) (l:List Int) (h:Array Obj):Array Obj:=h.modify g fun
 |.cells _ t frozen=>.cells (l.map fun z=>Value.int k z).toArray t frozen
 |o=>o
noncomputable def laidWorld (os:Os):World:=
 { World.holding Tryz.prog os ⟨#[],#[],[]⟩ with heap:=b8y 3 .u8 (Go.Pinned.utf8FirstZ.map Int.ofNat) (b8y 4 .u8 ranges (World.holding Tryz.prog os ⟨#[],#[],[]⟩).heap) }
theorem own:ownKnob Tryz.prog.godebug=none:=by kernel_rfl
end
section
open Go Go.RowKit Go.ChangeShapes Go.WideShapes Go.ChangeAt Go.Deep
set_option maxRecDepth 100000
section
variable {H:Type} {enc:TypeId×Value→H} {W:World} {held:Bool}
end
end
open Go Go.RowKit Go.ChangeShapes Go.WideShapes Go.ChangeAt
set_option maxRecDepth 100000
def c9t (w:World) (v:Value):Prop:=
 ∃(ad:Option Addr) (n cap:Nat),v=.slice ad n cap∧n≤maxLen∧(n=0∨∃g o,ad=some ⟨g,o,none⟩∧g<w.heap.size∧∀j,j<n→∃b:Nat,b<256∧w.cell? ⟨g,o+j,none⟩=some (.int .u8 b))
theorem d3r {H:Type} {enc:TypeId×Value→H} {W:World} {base:Nat} {held:Bool} {v:Value} {d:DataW H} {ps:List MemPlace}
 (hval:Value.okWide Tryz.prog W .any base 22 v) (hd:DataW.Trod enc Tryz.prog W 0 (fun _=>true) held 22 v d ps):c9t W v:=by
 obtain⟨a0,len,cap,rfl⟩:=okWide_slice Tryz.underlying22 hval
 obtain⟨fuel,hf⟩:=hd
 rcases open_ints Tryz.underlying22 Tryz.underlying5 kZ hf with⟨hcs,hx⟩|⟨a,len',cap',zs,hcs,_,hl,hm,hz,hx,hcell,hwz⟩
 ·have hcs':Value.slice a0 len cap=.slice none 0 0:=by simpa [Value.cells] using hcs
  injection hcs' with h1 h2 h3;exact⟨a0,len,cap,rfl,by omega,.inl h2⟩
 ·have hcs':Value.slice a0 len cap=.slice (some a) len' cap':=by simpa [Value.cells] using hcs
  injection hcs' with h1 h2 h3;subst h1 h2 h3;refine⟨_,_,_,rfl,Nat.le_trans hl hm,?_⟩
  rcases Nat.eq_zero_or_pos len with h0|h0
  ·exact .inl h0
  ·right
   have hzl:zs.length=cap:=by simpa using hz
   have c0:=hcell 0 oZ;rw [show a.add 0=a from rfl]at c0;have hlt:=World.block_lt_of_cell? W a c0
   have hsp:a.spot=none:=by
    cases hs:a.spot with
    |none=>rfl
    |some x=>
     exfalso
     unfold World.cell? at c0;rw [hs]at c0
     split at c0
     ·simp at c0
     ·cases c0
   obtain⟨g,o,sp⟩:=a;simp only at hsp hlt;subst hsp;refine⟨g,o,rfl,hlt,fun j hj=>?_⟩;have cj:=hcell j oZ;have hwf:=hwz (zs.getD j 0) (by rw [List.getD_eq_getElem?_getD,List.getElem?_eq_getElem oZ];exact List.getElem_mem _);simp only [Lit.wf,Bool.and_eq_true,decide_eq_true_eq]at hwf;simp [IntKind.min,IntKind.max,IntKind.signed,IntKind.bits]at hwf;obtain⟨b,hb⟩:=Int.eq_ofNat_of_zero_le hwf.1;refine⟨b,by omega,?_⟩;rw [←hb,←List.getD_eq_getElem?_getD,←cj];unfold Addr.add
   split
   ·rename_i h;rw [h];rfl
   ·rfl
def b1j (w:World) (v:Value):Prop:=
 ∃(ad:Option Addr) (n cap:Nat),v=.slice ad n cap∧n≤65536∧(n=0∨∃g o,ad=some ⟨g,o,none⟩∧g<w.heap.size∧∀j,j<n→∃b:Nat,b<256∧w.cell? ⟨g,o+j,none⟩=some (.int .u8 b))
theorem b1j.fresh {w u:World} {v:Value} {t:TypeId} (h:b1j w v) (hb:Below w.heap.size w u):a1r w.heap.size u.heap.size 0 (u.alloc (.cells #[v,.int .i64 0,.int .u64 0] t)):=by
 obtain⟨ad,n,cap,rfl,hn,hc⟩:=h;refine⟨ad,n,cap,0,0,by go_simp,by go_simp,by go_simp,by go_simp,by go_simp,Nat.le_refl _,hn,by decide,by decide,hb.size,by simp,hc.imp id ?_⟩;rintro⟨g,o,h1,h2,h3⟩;refine⟨g,o,h1,h2,fun j hj=>?_⟩;obtain⟨b,hb1,hb2⟩:=h3 j hj;have hbb:=hb.trans ((Below.refl w.heap.size u).alloc hb.size (.cells #[.slice ad n cap,.int .i64 0,.int .u64 0] t));exact⟨b,hb1,(hbb.cell (p:=⟨g,o+j,none⟩) h2).trans hb2⟩
set_option maxHeartbeats 8000000
theorem c0r {w w':World} {v:Value} (h:b1j w v) (hb:Below w.heap.size w w'):b1j w' v:=by
 obtain⟨ad,n,cap,rfl,hn,hc⟩:=h;refine⟨ad,n,cap,rfl,hn,hc.imp id ?_⟩;rintro⟨g,o,h1,h2,h3⟩;refine⟨g,o,h1,Nat.lt_of_lt_of_le h2 hb.size,fun j hj=>?_⟩;obtain⟨b,hb1,hb2⟩:=h3 j hj;exact⟨b,hb1,(hb.cell (p:=⟨g,o+j,none⟩) h2).trans hb2⟩
def d4z (w:World) (e:Ending) (w':World):Prop:=
 ∃(l:P.Dic) (u:Value) (st:List Int) (us:Value),e=.returned (.tuple #[.agg #[u],us])∧b3y l∧a6t w.heap.size w'.heap.size w' u l∧OwnK w.heap.size w' us st∧st.length≤62∧Below w.heap.size w w'
theorem c1b (v:Value) (w:World) (hv:b1j w v) :
 Calls Tryz.prog 76 #[v] w (d4z w):=by
 obtain⟨ad,n,cap,rfl,_,_⟩:=id hv
 have hb0:Below w.heap.size w (w.alloc (.cells #[.slice none 0 0] 26)):=(Below.refl w.heap.size w).alloc lZ _
 have hz0:w.heap.size<(w.alloc (.cells #[.slice none 0 0] 26)).heap.size:=by simp
 have HN:=qh (NBx.new w 26)
 have HV:=qh hv
 have HB0:=qh hb0
 clear hb0 hv
 go_enter Tryz.func76,Tryz.ntmps76
 go_upto_region 1 with fail
 generalize w.alloc (.cells #[.slice none 0 0] 26)=V0 at *
 have HC:=qh (HV.o.fresh (t:=91) HB0.o)
 have hba:=(Below.refl V0.heap.size V0).alloc lZ (.cells #[.slice ad n cap,.int .i64 0,.int .u64 0] 91)
 have HN1:=qh (HN.o.below hba);have HB1:=bt HB0 hba
 have hz1:V0.heap.size<(V0.alloc (.cells #[.slice ad n cap,.int .i64 0,.int .u64 0] 91)).heap.size:=by simp
 clear hba HB0 HV HN
 go_upto_region 2 with fail
 generalize V0.alloc (.cells #[.slice ad n cap,.int .i64 0,.int .u64 0] 91)=v1 at *
 generalize V0.heap.size=C at *
 go_wp2_with fail
 refine (b0e w.heap.size C 0 _ dZ HC.o).mono ?_
 rintro e w1 ⟨l,u,rfl,hd,hr,hc⟩
 obtain⟨ua,uc,rfl,_,_⟩:=hr.now
 have hz2:v1.heap.size≤w1.heap.size:=hc.2.size
 have hba:=(Below.refl w1.heap.size w1).alloc lZ (.cells #[.slice ua l.length uc] 26)
 have HN2:=qh ((HN1.o.a0c hc.2 oZ).below hba)
 have HB2:=qh ((Chg.a0x HB1.o hc.2 HB1.o.size (fun b h=>by omega)).trans (hba.mono oZ))
 have HC2:=qh ((a0d.refl hc.1 lZ).below hba)
 have HR2:=qh (hr.chg (Below.chg hba (fun _=>False)) (fun _ _ _ h=>h))
 have HDB:=qh (DBx.new (.slice ua l.length uc) 26 w1)
 have hz3:w1.heap.size<(w1.alloc (.cells #[.slice ua l.length uc] 26)).heap.size:=by simp
 have HDR:=qh hd
 clear hc hr hba hd HN1 HB1 HC
 go_upto_region 3 with fail
 generalize w1.alloc (.cells #[.slice ua l.length uc] 26)=w2 at *
 have hdd:Below w2.heap.size w2 w2.drew:=bZ.drew
 have HN3:=qh (HN2.o.below hdd);have HB3:=bt HB2 hdd;have HC3:=qh (HC2.o.drew.1);have HR3:=qh (HR2.o.chg (Below.chg hdd (fun _=>False)) (fun _ _ _ h=>h));have HDB3:=qh (HDB.o.below hdd)
 have hz4:w1.heap.size<w2.drew.heap.size:=hz3
 clear hdd HN2 HB2 HC2 HR2 HDB
 refine wp_region_held_drew (S:=DBx w1.heap.size (.slice ua l.length uc)) kZ HDB3.o (fun hS0=>?_)
 generalize w2.drew=y0 at *
 refine tk3 0 hS0 ?_
 refine tk3 1 hS0 ?_
 refine tk3 2 hS0 ?_
 refine trd 3 fun K hK=>?_
 go_simp
 refine (b3q w.heap.size C 2000 v1.heap.size w1.heap.size _ l _ dZ HC3.o HR3.o hz1 HDR.o).mono ?_
 rintro e y1 ⟨st,us,rfl,hst,hown,hc⟩
 obtain⟨va,vc,rfl⟩:=b1c hown
 have HN4:=qh (HN3.o.a0c hc.2 oZ);have HB4:=qh (Chg.a0x HB3.o hc.2 HB3.o.size (fun b h=>by omega));have HR4:=qh (HR3.o.chg hc.2 (fun b h1 h2 e=>by omega))
 have hz5:y0.heap.size≤y1.heap.size:=hc.2.size
 have HOW:=qh hown
 refine hK.out _ _ (hS0.a0c hc.2 oZ) (fun hS1=>?_)
 clear hK K hc hS0 HN3 HB3 HC3 HR3 hown
 try simp only [qA,qB,qC,Act.put,qD,qE,qF]
 obtain⟨r0,r1,r2⟩:=HN4.o
 have hset:Chg (fun k=>k=w.heap.size) y1 (y1.setCell ⟨w.heap.size,0,none⟩ (.slice ua l.length uc)):=(Chg.refl (fun k=>k=w.heap.size) y1).setCell (p:=⟨w.heap.size,0,none⟩) rfl _
 have e0:(y1.setCell ⟨w.heap.size,0,none⟩ (.slice ua l.length uc)).cell? ⟨w.heap.size,0,none⟩=some (.slice ua l.length uc):=by go_simp
 have HRD:=qh (show a6t w.heap.size (y1.setCell ⟨w.heap.size,0,none⟩ (.slice ua l.length uc)).heap.size (y1.setCell ⟨w.heap.size,0,none⟩ (.slice ua l.length uc)) (.slice ua l.length uc) l from (HR4.o.chg hset (fun b h1 h2 h3=>by omega)).wide oZ (by have:=hset.size;omega) lZ)
 have HRW:=qh (show OwnK w.heap.size (y1.setCell ⟨w.heap.size,0,none⟩ (.slice ua l.length uc)) (.slice va st.length vc) st from a1n (a0g HOW.o hset (fun k hk h3=>by have h4:=(World.ownsRow.lt HOW.o k hk).1;omega)) oZ)
 have HBL:=qh (show Below w.heap.size w (y1.setCell ⟨w.heap.size,0,none⟩ (.slice ua l.length uc)) from Chg.a0x HB4.o hset HB4.o.size (fun k h3=>by omega))
 refine trd 4 fun K hK=>?_
 go_simp
 refine hK.out _ _ (hS1.a0c hset oZ) (fun hS2=>?_)
 clear hK K
 try simp only [qA,qB,qC,Act.put,qD,qE,qF]
 refine tk3 5 hS2 ?_
 refine wpAnyH_done kZ ?_ _
 clear hS1 hS2 r0 r1 r2
 go_wp2
 refine bodyPost_ret (v:=.tuple #[.agg #[.slice ua l.length uc],.slice va st.length vc]) (by simp [e0,results,Tryz.results76,go_sem]) rfl ⟨l,_,st,_,rfl,HDR.o,HRD.o,HRW.o,hst,HBL.o⟩
def a9o (b:Bool) (w:World) (e:Ending) (w':World):Prop:=(∃v,e=.returned (.tuple #[v,.bool b]))∧Below w.heap.size w w'
theorem a9o.mk {b c:Bool} {w w':World} (h:c=b) (v:Value) (hb:Below w.heap.size w w'):a9o c w (.returned (.tuple #[v,.bool b])) w':=⟨⟨v,by rw [h]⟩,hb⟩
theorem b7o (dv sv:Value) (l:P.Dic) (st:List Int) (w:World) (hu:EntR w dv l) (hs:IntR w sv st) (hm:Small l) :
 Calls Tryz.prog 77 #[.agg #[dv],sv] w (a9o (P.dic l&&P.a1t st) w):=by
 obtain⟨ad,cap,rfl,_,_⟩:=id hu
 obtain⟨sd,sap,rfl,_,_⟩:=id hs
 have hba:=(Below.refl w.heap.size w).alloc lZ (.cells #[.slice ad l.length cap] 26)
 have HB0:=qh hba;have HU:=qh hu;have HS:=qh hs
 clear hu hs hba
 go_enter Tryz.func77,Tryz.ntmps77
 go_wp2_with fail
 refine (l6Good _ l _ (HU.o.below HB0.o) hm.texts).mono ?_
 rintro e w1 ⟨rfl,hb⟩
 have HB1:=bt HB0 hb
 have c0:w1.cell? ⟨w.heap.size,0,none⟩=some (.slice ad l.length cap):=(hb.cell (p:=⟨w.heap.size,0,none⟩) sZ).trans (by go_simp)
 clear hb
 cases h1:P.dic l
 ·go_wp2;go_ret2;exact a9o.mk (by rw [h1];rfl) _ (HB1.o.alloc HB1.o.size _)
 ·go_wp2_with fail
  refine (c3x _ st _ (HS.o.below HB1.o)).mono ?_;rintro e w2 ⟨rfl,rfl⟩
  cases h2:P.a1t st
  ·go_wp2;go_ret2;exact a9o.mk (by rw [h1,h2];rfl) _ (HB1.o.alloc HB1.o.size _)
  ·go_wp2_with fail
   refine (c4u _ _ l st _ (HU.o.below HB1.o) (HS.o.below HB1.o) (P.a4f h2)).mono ?_;rintro e w3 hpost;obtain⟨x,rfl,hx,hb⟩:=hpost;have HB3:=bt HB1 hb;go_wp2;go_ret2;exact a9o.mk (by rw [h1,h2];rfl) _ HB3.o
theorem d5m {w:World} {g:Nat} {x:Value} {o:List Int} {t:Str} (hg:g<w.heap.size) (h0:w.cell? ⟨g,0,none⟩=some x) (h1:w.cell? ⟨g,1,none⟩=some (.string (S t))) (hx:IntR w x o):EntR w (.slice (some ⟨g,0,none⟩) 1 1) [(o,t)]:=by
 refine⟨some ⟨g,0,none⟩,1,rfl,⟨by simp,by simp⟩,(fun h=>by cases h),.inr ⟨g,0,rfl,hg,fun j hj=>?_⟩⟩;have hj0:j=0:=by simpa using hj
 subst hj0;exact⟨x,h0,h1,hx⟩
theorem c7c {w:World} {g:Nat} {l:List Int} (hg:g<w.heap.size) (hl:l.length≤2^20) (h:∀(j:Nat) (hj:j<l.length),w.cell? ⟨g,j,none⟩=some (.int .i64 (l[j]'hj))):IntR w (.slice (some ⟨g,0,none⟩) l.length l.length) l:=
 ⟨some ⟨g,0,none⟩,l.length,rfl,⟨Nat.le_trans hl dZ,Nat.le_refl _⟩,(fun h=>by cases h),.inr ⟨g,0,rfl,hg,fun j hj=>by rw [Nat.zero_add];exact h j hj⟩⟩
theorem d1y:P.dic [([1048576],[123,94,115,125])]=true:=by decide
theorem d1l:P.a1t [1048576,262144]=true:=by decide
def d2d (w:World) (e:Ending) (w':World):Prop:=
 ∃(l:P.Dic) (u:Value) (st:List Int) (us:Value),e=.returned (.tuple #[.agg #[u],us])∧EntR w' u l∧IntR w' us st∧P.dic l=true∧P.a1t st=true∧Below w.heap.size w w'
theorem vBook (v:Value) (w:World) (hv:b1j w v) :
 Calls Tryz.prog 22 #[v] w (d2d w):=by
 obtain⟨ad,n,cap,rfl,_,_⟩:=id hv
 have hb0:Below w.heap.size w (w.alloc (.cells #[.slice none 0 0] 26)):=(Below.refl w.heap.size w).alloc lZ _
 have HN:=qh (NBx.new w 26)
 have HV:=qh (c0r hv hb0)
 have HB0:=qh hb0
 have hvz:w.heap.size<(w.alloc (.cells #[.slice none 0 0] 26)).heap.size:=by simp
 clear hb0 hv
 go_enter Tryz.func22,Tryz.ntmps22
 go_upto_region 1 with fail
 generalize w.alloc (.cells #[.slice none 0 0] 26)=V0 at *
 go_wp2_with fail
 refine (c1b _ _ HV.o).mono ?_
 rintro e w1 ⟨l,u,st,us,rfl,hd,hr,hrow,hst,hb⟩
 obtain⟨ua,uc,rfl,_,_⟩:=hr.now
 obtain⟨va,vc,rfl⟩:=a0j hrow
 have hba:=(Below.refl w1.heap.size w1).alloc lZ (.cells #[.slice ua l.length uc] 26)
 have HN2:=qh ((HN.o.below hb).below hba);have HB2:=qh ((HB0.o.trans (hb.mono HB0.o.size)).trans (hba.mono (Nat.le_trans HB0.o.size hb.size)))
 have HR2:=qh (hr.now.below hba);have HI2:=qh ((a1i hrow oZ).below hba);have HE2:=qh (hr.chg (Below.chg hba (fun _=>False)) (fun _ _ _ h=>h));have HK2:=qh (a0k hrow hba lZ);have hzV:w.heap.size<V0.heap.size:=hvz;have HDB:=qh (DBx.new (.slice ua l.length uc) 26 w1)
 have HSM:=qh (show Small l from⟨by have:=hd.len;omega,fun e he=>by have:=hd.outs e he;omega,fun e he=>by have:=hd.texts e he;omega⟩)
 clear hb hba hr hrow hd HN HB0 HV
 go_upto_region 2 with fail
 generalize w1.alloc (.cells #[.slice ua l.length uc] 26)=w2 at *
 generalize w1.heap.size=b at *
 obtain⟨d0,d1,d2⟩:=HDB.o
 go_wp2_with fail
 refine (b7o _ _ l st _ HR2.o HI2.o HSM.o).mono ?_
 rintro e w3 ⟨⟨pv,rfl⟩,hb⟩
 have HN3:=qh (HN2.o.below hb);have HB3:=bt HB2 hb;have HR3:=qh (HR2.o.below hb);have HI3:=qh (HI2.o.below hb);have HE3:=qh (HE2.o.chg (Below.chg hb (fun _=>False)) (fun _ _ _ h=>h));have HK3:=qh (a0k HK2.o hb lZ);have HDB3:=qh (HDB.o.below hb)
 clear hb HN2 HB2 HR2 HI2 HDB d0 d1 d2
 obtain⟨r0,r1,r2⟩:=HN3.o
 obtain⟨d0,d1,d2⟩:=HDB3.o
 cases hq:(P.dic l&&P.a1t st)
 ·obtain⟨W3,hW3⟩:∃v,(((w3.alloc (.cells #[.int .i64 1048576] 3)).alloc (.cells #[.slice (some ⟨w3.heap.size,0,none⟩) 1 1,.string (S [123,94,115,125])] 119)).alloc (.cells #[.int .i64 1048576,.int .i64 262144] 3))=v:=⟨_,rfl⟩;have hbl:Below w3.heap.size w3 W3:=by rw [←hW3];exact ((bZ.alloc lZ _).alloc sZ _).alloc (by simp;omega) _
  have hz3:w3.heap.size+3≤W3.heap.size:=by rw [←hW3];simp
  have q0:W3.cell? ⟨w3.heap.size,0,none⟩=some (.int .i64 1048576):=by subst hW3;go_simp
  have q1:W3.cell? ⟨w3.heap.size+1,0,none⟩=some (.slice (some ⟨w3.heap.size,0,none⟩) 1 1):=by subst hW3;go_simp
  have q2:W3.cell? ⟨w3.heap.size+1,1,none⟩=some (.string (S [123,94,115,125])):=by subst hW3;go_simp
  have q3:W3.cell? ⟨w3.heap.size+2,0,none⟩=some (.int .i64 1048576):=by subst hW3;go_simp
  have q4:W3.cell? ⟨w3.heap.size+2,1,none⟩=some (.int .i64 262144):=by subst hW3;go_simp
  have r0':=(hbl.cell (p:=⟨w.heap.size,0,none⟩) r2).trans r0;have r1':=(hbl.frozen (p:=⟨w.heap.size,0,none⟩) r2).trans r1;obtain⟨W4,hW4⟩:∃v,W3.setCell ⟨w.heap.size,0,none⟩ (.slice (some ⟨w3.heap.size+1,0,none⟩) 1 1)=v:=⟨_,rfl⟩;have hset:Chg (fun k=>k=w.heap.size) W3 W4:=by rw [←hW4];exact (Chg.refl (fun k=>k=w.heap.size) W3).setCell (p:=⟨w.heap.size,0,none⟩) rfl _
  have hz4:w3.heap.size+3≤W4.heap.size:=Nat.le_trans hz3 hset.size;have HBW:=qh (Chg.a0x (HB3.o.trans (hbl.mono HB3.o.size)) hset (by have:=HB3.o.size;omega) (fun k h3=>by omega));have k0:=(hset.cell (p:=⟨w3.heap.size,0,none⟩) (by show w3.heap.size<_;omega) (fun e=>by have h9:w3.heap.size=w.heap.size:=e;omega)).trans q0;have k1:=(hset.cell (p:=⟨w3.heap.size+1,0,none⟩) (by show w3.heap.size+1<_;omega) (fun e=>by have h9:w3.heap.size+1=w.heap.size:=e;omega)).trans q1;have k2:=(hset.cell (p:=⟨w3.heap.size+1,1,none⟩) (by show w3.heap.size+1<_;omega) (fun e=>by have h9:w3.heap.size+1=w.heap.size:=e;omega)).trans q2;have k3:=(hset.cell (p:=⟨w3.heap.size+2,0,none⟩) (by show w3.heap.size+2<_;omega) (fun e=>by have h9:w3.heap.size+2=w.heap.size:=e;omega)).trans q3;have k4:=(hset.cell (p:=⟨w3.heap.size+2,1,none⟩) (by show w3.heap.size+2<_;omega) (fun e=>by have h9:w3.heap.size+2=w.heap.size:=e;omega)).trans q4;have e0:W4.cell? ⟨w.heap.size,0,none⟩=some (.slice (some ⟨w3.heap.size+1,0,none⟩) 1 1):=by rw [←hW4];exact World.cell?_setCell_same _ _ _ r0'
  clear hbl q0 q1 q2 q3 q4 hset
  have HX:=qh (c7c (w:=W4) (g:=w3.heap.size) (l:=[1048576]) oZ dZ (fun j hj=>by
   match j,hj with
   |0,_=>exact k0))
  have HY:=qh (c7c (w:=W4) (g:=w3.heap.size+2) (l:=[1048576,262144]) oZ dZ (fun j hj=>by
   match j,hj with
   |0,_=>exact k3
   |1,_=>exact k4))
  have HZ:=qh (d5m (w:=W4) oZ k1 k2 HX.o);clear k0 k1 k2 k3 k4;go_wp2
  try rw [hW3]
  try rw [hW4]
  refine bodyPost_ret (v:=.tuple #[.agg #[.slice (some ⟨w3.heap.size+1,0,none⟩) 1 1],.slice (some ⟨w3.heap.size+2,0,none⟩) 2 2]) (by simp [e0,results,Tryz.results22,go_sem]) rfl ⟨_,_,_,_,rfl,HZ.o,HY.o,d1y,d1l,HBW.o⟩
 ·simp only [Bool.and_eq_true]at hq;have hset:Chg (fun k=>k=w.heap.size) w3 (w3.setCell ⟨w.heap.size,0,none⟩ (.slice ua l.length uc)):=(Chg.refl (fun k=>k=w.heap.size) w3).setCell (p:=⟨w.heap.size,0,none⟩) rfl _;have e0:(w3.setCell ⟨w.heap.size,0,none⟩ (.slice ua l.length uc)).cell? ⟨w.heap.size,0,none⟩=some (.slice ua l.length uc):=by go_simp
  have HBW:=qh (Chg.a0x HB3.o hset HB3.o.size (fun k h3=>by omega));have HRW:=qh ((HE3.o.chg hset (fun b h1 h2 h3=>by omega)).now);have HIW:=qh (a1i (a0g HK3.o hset (fun k hk h3=>by have h4:=(World.ownsRow.lt HK3.o k hk).1;omega)) oZ);go_wp2;refine bodyPost_ret (v:=.tuple #[.agg #[.slice ua l.length uc],.slice va st.length vc]) (by simp [e0,results,Tryz.results22,go_sem]) rfl ⟨l,_,st,_,rfl,HRW.o,HIW.o,hq.1,hq.2,HBW.o⟩
namespace P
end P
theorem vBig (v:Value) (n:Nat) (ad:Option Addr) (cap:Nat) (hv:v=.slice ad n cap) (hn:n≤maxLen) (w:World) :
 Calls Tryz.prog 10 #[v] w fun e w'=>e=.returned (.bool (decide (65536<n)))∧w=w':=by
 subst hv
 unfold maxLen at hn
 go_enter Tryz.func10,Tryz.ntmps10
 by_cases h:65536<n
 ·have h1:(65536:Int)<(n:Int):=by omega
  go_wp2;go_ret;exact⟨by simp [h],rfl⟩
 ·have h1:¬(65536:Int)<(n:Int):=by omega
  go_wp2;go_ret;exact⟨by simp [],rfl⟩
theorem vInts (u v:Value) (l m:List Int) (w:World) (hu:IntR w u l) (hv:IntR w v m) :
 Calls Tryz.prog 27 #[u,v] w fun e w'=>e=.returned (.bool (decide (l=m)))∧Below w.heap.size w w':=by
 have HU:=qh hu;have HV:=qh hv
 obtain⟨ad,cap,rfl,hla,_⟩:=hu
 obtain⟨bd,dap,rfl,hlb,_⟩:=hv
 go_enter Tryz.func27,Tryz.ntmps27
 by_cases hlen:l.length=m.length
 ·have hli:(l.length:Int)=(m.length:Int):=by omega
  go_wp2
  go_loopw [5] (fun i wr=>∃j:Nat,j≤l.length∧i=.int .i64 j∧(∀k (h:k<j) (h1:k<l.length) (h2:k<m.length),l[k]=m[k])∧Below w.heap.size w wr) (fun i _=>l.length-(intOf i).toNat)
  case atStart=>exact⟨0,Nat.zero_le _,rfl,fun k h=>absurd h (Nat.not_lt_zero _),Below.refl _ _⟩
  case round=>
   obtain⟨j,hj,rfl,hsame,hb⟩:=hrel;have HB:=qh hb;have HS:=qh hsame;clear hsame
   by_cases hlt:j<l.length
   ·obtain⟨g,o,hga,hgl,c0⟩:=(HU.o.below hb).at j hlt;obtain⟨g',o',hgb,hgl',d0⟩:=(HV.o.below hb).at j oZ;subst hga hgb;clear hb;have i1:(j:Int)<(l.length:Int):=by omega
    have i2:(j:Int)<(m.length:Int):=by omega
    have hjm:j<m.length:=by omega
    by_cases hx:l[j]=m[j]
    ·have HX:=qh hx;rw [hx]at c0
     go_wp2_with fail
     go_quiet (fail)
     go_wp2
     go_roundw
     case rel=>
      refine⟨j+1,by omega,by go_num,fun k hk h1 h2=>?_,below_drewN HB.o _⟩
      by_cases e:k=j
      ·subst e;exact HX.o
      ·exact HS.o k oZ h1 h2
     case measure=>simp [intOf];omega
    ·have hne:¬l=m:=fun e=>hx (by subst e;rfl)
     go_wp2_with fail
     go_quiet (fail)
     go_wp2;go_ret;exact⟨by rw [decide_eq_false hne];rfl,below_drewN HB.o _⟩
   ·clear hb;have he:l=m:=List.ext_getElem hlen fun k h1 h2=>HS.o k oZ h1 h2;go_wp2;go_ret;exact⟨by rw [decide_eq_true he];rfl,HB.o⟩
 ·have hli:¬(l.length:Int)=(m.length:Int):=by omega
  have hne:¬l=m:=fun e=>hlen (by rw [e]);go_wp2;go_ret;exact⟨by rw [decide_eq_false hne];rfl,Below.refl _ _⟩
end Go.Proofs.YtggfdnopminemaaGreatDoor
