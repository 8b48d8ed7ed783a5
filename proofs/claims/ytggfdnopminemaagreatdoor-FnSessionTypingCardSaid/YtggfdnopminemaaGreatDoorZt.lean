/- Steps of walks that come up again: each lemma closes a goal by the tactic that it bears. -/
import Derived.WalkKit
import Derived.LoopTactic
import Derived.Lib.Hide
import Derived.WalkSpells
import Derived.WalkLawsBesides
import Derived.Deep.QuietTactic
import Derived.BigQuiet
import Derived.Deep.RegionHeld3
import Derived.Deep.DeepCutAuto
import Derived.Laws.IdiomStrings
import Derived.Shelf.Strings.SlTrimAscii
import Derived.Deep.RegionHeld
import Derived.Deep.AppendLies
import Derived.Deep.RegionLaw
import Derived.IntWalk
import Derived.RegionTactic
import Derived.BigRegion
import Derived.Laws.OwnMore
import Derived.Laws.BitsLemmas
import Derived.Laws.Bits64b
import Derived.Deep.CutBlock
import Derived.Lib.ItoaLen
import Derived.Lib.AtoiTie
import Derived.Lib.Strings
import Derived.Shelf.LaysC
import Derived.Shelf.Strconv.AtoiAll
import Derived.Ground.Names2Prog
import Derived.ProofKit
import Derived.OpenShut
import Derived.Deep.DeepHandedRow
import Derived.Lib.LaidTab
import Derived.Lib.SmallJoins
import Derived.ChangeSlices
import Derived.Deep.Slices
import Derived.Deep.Fields
import Derived.LaidLaws
import Derived.Test.YtggfdnopminemaaGreatDoorProg
set_option linter.all false
namespace Go.Proofs.YtggfdnopminemaaGreatDoor
open Go Go.RowKit
structure Hq (p:Prop):Prop where
 o:p
theorem qh {p:Prop} (h:p):Hq p:=⟨h⟩
theorem qA {α:Type} {xs:List α} {i:Nat} (h:i<xs.toArray.size):xs.toArray[i]=xs[i]'(by simpa using h):=List.getElem_toArray h
theorem qB {α:Type} (a:α) (l:List α) (h:0<(a::l).length):getElem (a::l) 0 h=a:=rfl
theorem qC {α:Type} (a:α) (l:List α) (i:Nat) (h:i+1<(a::l).length):getElem (a::l) (i+1) h=getElem l i (Nat.lt_of_succ_lt_succ h):=rfl
theorem qD {α:Type} (l:List α) (i:Nat) (a:α):l.toArray.setIfInBounds i a=(l.set i a).toArray:=List.setIfInBounds_toArray ..
theorem qE {α:Type} (x:α) (xs:List α) (a:α):(x::xs).set 0 a=a::xs:=rfl
theorem qF {α:Type} (x:α) (xs:List α) (i:Nat) (a:α):(x::xs).set (i+1) a=x::xs.set i a:=rfl
theorem oZ {p:Prop} (h:p:=by omega):p:=h
theorem sZ {p:Prop} (h:p:=by simp):p:=h
theorem dZ {p:Prop} (h:p:=by decide):p:=h
theorem kZ {p:Prop} (h:p:=by kernel_rfl):p:=h
theorem lZ {n:Nat}:n≤n:=Nat.le_refl n
theorem bZ {n:Nat} {w:World}:Below n w w:=Below.refl n w
theorem bt {w v v':World} (h:Hq (Below w.heap.size w v)) (hb:Below v.heap.size v v'):Hq (Below w.heap.size w v'):=⟨h.o.trans (hb.mono h.o.size)⟩
section
variable {P:Program} {ops:Array Oper} {Q:Exit→Act→World→Prop} {md:Region.Mode} {S:World→Prop}
theorem tk0 (i:Nat) {v:Value} {o:Oper} {f:Nat} {b b':Array Bool} {a a':Act} {w:World} (hS:S w) (h:wpAnyH P md ops Q S f b' a' w) (hi:ops[i]?=some o:=by rfl) (hs:Region.noSelect ops=true:=by kernel_rfl) (hf:Region.free md ops b i=true:=by kernel_rfl) (hr:(Region.ready md ops b).contains i=true:=by kernel_rfl) (hg:Region.wanted o (yielded ops a.tmps)=true:=by rfl) (hy:∀z,S z→(execOp a.eval o).run P z=.ok (.value v) z:=by (intro z hz;obtain⟨z1,z2,z3,z4,z5,z6⟩:=hz;first|(go_simp;rfl)|(go_simp;repeat rw [if_pos (by first|omega|assumption)];rfl)|(go_simp;done))) (hQ:∀c a w,Q (.panic c) (a.put o.dst v) w→Q (.panic c) a w:=by exact fun _ _ _ h=>h) (eb:b.setIfInBounds i true=b':=by first|(simp only [qA,qB,qC,Act.put,qD,qE,qF];rfl)|rfl) (ea:a.put o.dst v=a':=by first|(simp only [qA,qB,qC,Act.put,qD,qE,qF];rfl)|rfl):wpAnyH P md ops Q S (f+1) b a w:=by subst eb ea;exact wpAnyH_take hi hs hf hr hQ (Or.inl ⟨hg,hy⟩) hS h
theorem tk1 (i:Nat) {v:Value} {o:Oper} {f:Nat} {b b':Array Bool} {a a':Act} {w:World} (hS:S w) (h:wpAnyH P md ops Q S f b' a' w) (hi:ops[i]?=some o:=by rfl) (hs:Region.noSelect ops=true:=by kernel_rfl) (hf:Region.free md ops b i=true:=by kernel_rfl) (hr:(Region.ready md ops b).contains i=true:=by kernel_rfl) (hg:Region.wanted o (yielded ops a.tmps)=true:=by rfl) (hy:∀z,S z→(execOp a.eval o).run P z=.ok (.value v) z:=by (intro z hz;obtain⟨z1,z2,z3,z4⟩:=hz;first|(go_simp;rfl)|(go_simp;repeat rw [if_pos (by first|omega|assumption)];rfl)|(go_simp;done))) (hQ:∀c a w,Q (.panic c) (a.put o.dst v) w→Q (.panic c) a w:=by exact fun _ _ _ h=>h) (eb:b.setIfInBounds i true=b':=by first|(simp only [qA,qB,qC,Act.put,qD,qE,qF];rfl)|rfl) (ea:a.put o.dst v=a':=by first|(simp only [qA,qB,qC,Act.put,qD,qE,qF];rfl)|rfl):wpAnyH P md ops Q S (f+1) b a w:=by subst eb ea;exact wpAnyH_take hi hs hf hr hQ (Or.inl ⟨hg,hy⟩) hS h
theorem tk2 (i:Nat) {v:Value} {o:Oper} {f:Nat} {b b':Array Bool} {a a':Act} {w:World} (hS:S w) (h:wpAnyH P md ops Q S f b' a' w) (hi:ops[i]?=some o:=by rfl) (hs:Region.noSelect ops=true:=by kernel_rfl) (hf:Region.free md ops b i=true:=by kernel_rfl) (hr:(Region.ready md ops b).contains i=true:=by kernel_rfl) (hg:Region.wanted o (yielded ops a.tmps)=true:=by rfl) (hy:∀z,S z→(execOp a.eval o).run P z=.ok (.value v) z:=by (intro z hz;obtain⟨z1,z2⟩:=hz;first|(go_simp;rfl)|(go_simp;repeat rw [if_pos (by first|omega|assumption)];rfl)|(go_simp;done))) (hQ:∀c a w,Q (.panic c) (a.put o.dst v) w→Q (.panic c) a w:=by exact fun _ _ _ h=>h) (eb:b.setIfInBounds i true=b':=by first|(simp only [qA,qB,qC,Act.put,qD,qE,qF];rfl)|rfl) (ea:a.put o.dst v=a':=by first|(simp only [qA,qB,qC,Act.put,qD,qE,qF];rfl)|rfl):wpAnyH P md ops Q S (f+1) b a w:=by subst eb ea;exact wpAnyH_take hi hs hf hr hQ (Or.inl ⟨hg,hy⟩) hS h
theorem tk3 (i:Nat) {v:Value} {o:Oper} {f:Nat} {b b':Array Bool} {a a':Act} {w:World} (hS:S w) (h:wpAnyH P md ops Q S f b' a' w) (hi:ops[i]?=some o:=by rfl) (hs:Region.noSelect ops=true:=by kernel_rfl) (hf:Region.free md ops b i=true:=by kernel_rfl) (hr:(Region.ready md ops b).contains i=true:=by kernel_rfl) (hg:Region.wanted o (yielded ops a.tmps)=true:=by rfl) (hy:∀z,S z→(execOp a.eval o).run P z=.ok (.value v) z:=by (intro z hz;obtain⟨z1,z2,z3⟩:=hz;first|(go_simp;rfl)|(go_simp;repeat rw [if_pos (by first|omega|assumption)];rfl)|(go_simp;done))) (hQ:∀c a w,Q (.panic c) (a.put o.dst v) w→Q (.panic c) a w:=by exact fun _ _ _ h=>h) (eb:b.setIfInBounds i true=b':=by first|(simp only [qA,qB,qC,Act.put,qD,qE,qF];rfl)|rfl) (ea:a.put o.dst v=a':=by first|(simp only [qA,qB,qC,Act.put,qD,qE,qF];rfl)|rfl):wpAnyH P md ops Q S (f+1) b a w:=by subst eb ea;exact wpAnyH_take hi hs hf hr hQ (Or.inl ⟨hg,hy⟩) hS h
theorem tk7 (i:Nat) {v:Value} {o:Oper} {f:Nat} {b b':Array Bool} {a a':Act} {w:World} (hS:S w) (h:wpAnyH P md ops Q S f b' a' w) (hi:ops[i]?=some o:=by rfl) (hs:Region.noSelect ops=true:=by kernel_rfl) (hf:Region.free md ops b i=true:=by kernel_rfl) (hr:(Region.ready md ops b).contains i=true:=by kernel_rfl) (hg:Region.wanted o (yielded ops a.tmps)=true:=by rfl) (hy:∀z,S z→(execOp a.eval o).run P z=.ok (.value v) z:=by (intro z hz;obtain⟨⟨⟨z0,z1,z2,z3,z4⟩,⟨y0,y1,y2,y3,y4⟩,yl⟩,_⟩:=hz;first|(go_simp;rfl)|(go_simp;repeat rw [if_pos (by first|omega|assumption)];rfl)|(go_simp;done))) (hQ:∀c a w,Q (.panic c) (a.put o.dst v) w→Q (.panic c) a w:=by exact fun _ _ _ h=>h) (eb:b.setIfInBounds i true=b':=by first|(simp only [qA,qB,qC,Act.put,qD,qE,qF];rfl)|rfl) (ea:a.put o.dst v=a':=by first|(simp only [qA,qB,qC,Act.put,qD,qE,qF];rfl)|rfl):wpAnyH P md ops Q S (f+1) b a w:=by subst eb ea;exact wpAnyH_take hi hs hf hr hQ (Or.inl ⟨hg,hy⟩) hS h
theorem tk8 (i:Nat) {v:Value} {o:Oper} {f:Nat} {b b':Array Bool} {a a':Act} {w:World} (hS:S w) (h:wpAnyH P md ops Q S f b' a' w) (hi:ops[i]?=some o:=by rfl) (hs:Region.noSelect ops=true:=by kernel_rfl) (hf:Region.free md ops b i=true:=by kernel_rfl) (hr:(Region.ready md ops b).contains i=true:=by kernel_rfl) (hg:Region.wanted o (yielded ops a.tmps)=true:=by rfl) (hy:∀z,S z→(execOp a.eval o).run P z=.ok (.value v) z:=by (intro z hz;obtain⟨⟨z0,z1,z2,z3,z4,z5,z6⟩,_⟩:=hz;first|(go_simp;rfl)|(go_simp;repeat rw [if_pos (by first|omega|assumption)];rfl)|(go_simp;done))) (hQ:∀c a w,Q (.panic c) (a.put o.dst v) w→Q (.panic c) a w:=by exact fun _ _ _ h=>h) (eb:b.setIfInBounds i true=b':=by first|(simp only [qA,qB,qC,Act.put,qD,qE,qF];rfl)|rfl) (ea:a.put o.dst v=a':=by first|(simp only [qA,qB,qC,Act.put,qD,qE,qF];rfl)|rfl):wpAnyH P md ops Q S (f+1) b a w:=by subst eb ea;exact wpAnyH_take hi hs hf hr hQ (Or.inl ⟨hg,hy⟩) hS h
theorem tk9 (i:Nat) {v:Value} {o:Oper} {f:Nat} {b b':Array Bool} {a a':Act} {w:World} (hS:S w) (h:wpAnyH P md ops Q S f b' a' w) (hi:ops[i]?=some o:=by rfl) (hs:Region.noSelect ops=true:=by kernel_rfl) (hf:Region.free md ops b i=true:=by kernel_rfl) (hr:(Region.ready md ops b).contains i=true:=by kernel_rfl) (hg:Region.wanted o (yielded ops a.tmps)=true:=by rfl) (hy:∀z,S z→(execOp a.eval o).run P z=.ok (.value v) z:=by (intro z hz;obtain⟨⟨z1,z2⟩,z3,z4,z5⟩:=hz;first|(go_simp;rfl)|(go_simp;repeat rw [if_pos (by first|omega|assumption)];rfl)|(go_simp;done))) (hQ:∀c a w,Q (.panic c) (a.put o.dst v) w→Q (.panic c) a w:=by exact fun _ _ _ h=>h) (eb:b.setIfInBounds i true=b':=by first|(simp only [qA,qB,qC,Act.put,qD,qE,qF];rfl)|rfl) (ea:a.put o.dst v=a':=by first|(simp only [qA,qB,qC,Act.put,qD,qE,qF];rfl)|rfl):wpAnyH P md ops Q S (f+1) b a w:=by subst eb ea;exact wpAnyH_take hi hs hf hr hQ (Or.inl ⟨hg,hy⟩) hS h
theorem tk10 (i:Nat) {v:Value} {o:Oper} {f:Nat} {b b':Array Bool} {a a':Act} {w:World} (hS:S w) (h:wpAnyH P md ops Q S f b' a' w) (hi:ops[i]?=some o:=by rfl) (hs:Region.noSelect ops=true:=by kernel_rfl) (hf:Region.free md ops b i=true:=by kernel_rfl) (hr:(Region.ready md ops b).contains i=true:=by kernel_rfl) (hg:Region.wanted o (yielded ops a.tmps)=true:=by rfl) (hy:∀z,S z→(execOp a.eval o).run P z=.ok (.value v) z:=by (intro z hz;obtain z1:=hz;first|(go_simp;rfl)|(go_simp;repeat rw [if_pos (by first|omega|assumption)];rfl)|(go_simp;done))) (hQ:∀c a w,Q (.panic c) (a.put o.dst v) w→Q (.panic c) a w:=by exact fun _ _ _ h=>h) (eb:b.setIfInBounds i true=b':=by first|(simp only [qA,qB,qC,Act.put,qD,qE,qF];rfl)|rfl) (ea:a.put o.dst v=a':=by first|(simp only [qA,qB,qC,Act.put,qD,qE,qF];rfl)|rfl):wpAnyH P md ops Q S (f+1) b a w:=by subst eb ea;exact wpAnyH_take hi hs hf hr hQ (Or.inl ⟨hg,hy⟩) hS h
theorem tks (i:Nat) {o:Oper} {f:Nat} {b b':Array Bool} {a a':Act} {w:World} (hS:S w) (h:wpAnyH P md ops Q S f b' a' w) (hi:ops[i]?=some o:=by rfl) (hs:Region.noSelect ops=true:=by kernel_rfl) (hf:Region.free md ops b i=true:=by kernel_rfl) (hr:(Region.ready md ops b).contains i=true:=by kernel_rfl) (hQ:∀c a w,Q (.panic c) (a.put o.dst undef) w→Q (.panic c) a w:=by exact fun _ _ _ h=>h) (hg:Region.wanted o (yielded ops a.tmps)=false:=by rfl) (eb:b.setIfInBounds i true=b':=by first|(simp only [qA,qB,qC,Act.put,qD,qE,qF];rfl)|rfl) (ea:a.put o.dst undef=a':=by first|(simp only [qA,qB,qC,Act.put,qD,qE,qF];rfl)|rfl):wpAnyH P md ops Q S (f+1) b a w:=by subst eb ea;exact wpAnyH_take hi hs hf hr hQ (Or.inr ⟨hg,rfl⟩) hS h
theorem trd (i:Nat) {o:Oper} {f:Nat} {b:Array Bool} {a:Act} {w:World} (h:∀K:Act→World→Prop,Shut (∀a w,S w→(S w→wpAnyH P md ops Q S f (b.setIfInBounds i true) a w)→K a w)→if Region.wanted o (yielded ops a.tmps)=true then Oper.wp P o a w K Q else K (a.put o.dst undef) w) (ho:ops[i]?=some o:=by rfl) (hr:Region.ready md ops b=[i]:=by kernel_rfl):wpAnyH P md ops Q S (f+1) b a w:=wpAnyH_ready hr sZ (AllReadyH.cons ho h AllReadyH.nil)
theorem tk (i:Nat) (v:Value) {o:Oper} {f:Nat} {b b':Array Bool} {a a':Act} {w:World} (hy:∀z,S z→∀o,ops[i]?=some o→(execOp a.eval o).run P z=.ok (.value v) z) (hS:S w) (h:wpAnyH P md ops Q S f b' a' w) (hi:ops[i]?=some o:=by rfl) (hs:Region.noSelect ops=true:=by kernel_rfl) (hf:Region.free md ops b i=true:=by kernel_rfl) (hr:(Region.ready md ops b).contains i=true:=by kernel_rfl) (hg:Region.wanted o (yielded ops a.tmps)=true:=by rfl) (hQ:∀c a w,Q (.panic c) (a.put o.dst v) w→Q (.panic c) a w:=by exact fun _ _ _ h=>h) (eb:b.setIfInBounds i true=b':=by first|(simp only [qA,qB,qC,Act.put,qD,qE,qF];rfl)|rfl) (ea:a.put o.dst v=a':=by first|(simp only [qA,qB,qC,Act.put,qD,qE,qF];rfl)|rfl):wpAnyH P md ops Q S (f+1) b a w:=by subst eb ea;exact wpAnyH_take hi hs hf hr hQ (Or.inl ⟨hg,fun z hz=>hy z hz o hi⟩) hS h
end
theorem zq0 {p:Prop} (h:p:=by
 have HBL:=qh (show c-a≤n∧b-c≤n by omega);clear hen HBI HS1 HS2
 by_cases u1:r<m
 ·by_cases u2:m<en
  ·skip;have ua:(r:Int)<(m:Int):=by omega
   have ub:(m:Int)<(en:Int):=by omega
   by_cases v1:a<r
   ·by_cases v2:r<c
    ·skip;have va:(a:Int)<(r:Int):=by omega
     have vb:(r:Int)<(c:Int):=by omega
     by_cases x1:c<en
     ·by_cases x2:en<b
      ·skip;have xa:(c:Int)<(en:Int):=by omega
       have xb:(en:Int)<(b:Int):=by omega
       have HCALL:=qh (a1p its F g o cap r m en wr HR.o hl u1 u2 oZ)
       go_wp2_with fail
       refine HCALL.o.mono ?_;rintro e w1 ⟨rfl,n1,hm1,hrr,hcc⟩;have HR1:=qh hrr;have HC1:=qh (HC.o.trans hcc);have HM1:=qh hm1;clear hrr hcc HCALL;have hln1:n1.length=its.length:=hm1.len;clear hm1;obtain⟨hp1,hsp,hsa,hsb,hsc,hsd⟩:=HDONE.o _ HM1.o;have HP1:=qh hp1;have HSP:=qh hsp;have HSA:=qh hsa;have HSB:=qh hsb;have HSC:=qh hsc;have HSD:=qh hsd;clear hp1 hsp hsa hsb hsc hsd;have hcall:=HI.o n1 F g o cap a r c w1 HBL.o.1 HR1.o oZ v1 v2 oZ HSA.o HSB.o;rw [hln1]at hcall;have HCALL2:=qh hcall;clear hcall
       go_wp2_with fail
       refine HCALL2.o.mono ?_;rintro e w2 ⟨rfl,n2,hp2,hs2,hrr,hcc⟩;have HR2:=qh hrr;have HC2:=qh (HC1.o.trans hcc);have HP2:=qh hp2;have HT2:=qh hs2;have hln2:n2.length=its.length:=hp2.len.trans hln1;clear hrr hcc hp2 hs2 HCALL2;have hcall:=HI.o n2 F g o cap c en b w2 HBL.o.2 HR2.o oZ x1 x2 oZ (HSC.o.same HP2.o (.inr lZ)) (HSD.o.same HP2.o (.inr oZ));rw [hln2]at hcall;exact zq86
      ·skip;have xa:(c:Int)<(en:Int):=by omega
       have xb:¬(en:Int)<(b:Int):=by omega
       have HCALL:=qh (a1p its F g o cap r m en wr HR.o hl u1 u2 oZ)
       go_wp2_with fail
       refine HCALL.o.mono ?_;rintro e w1 ⟨rfl,n1,hm1,hrr,hcc⟩;have HR1:=qh hrr;have HC1:=qh (HC.o.trans hcc);have HM1:=qh hm1;clear hrr hcc HCALL;have hln1:n1.length=its.length:=hm1.len;clear hm1;obtain⟨hp1,hsp,hsa,hsb,hsc,hsd⟩:=HDONE.o _ HM1.o;have HP1:=qh hp1;have HSP:=qh hsp;have HSA:=qh hsa;have HSB:=qh hsb;have HSC:=qh hsc;have HSD:=qh hsd;clear hp1 hsp hsa hsb hsc hsd;have hcall:=HI.o n1 F g o cap a r c w1 HBL.o.1 HR1.o oZ v1 v2 oZ HSA.o HSB.o;rw [hln1]at hcall;have HCALL2:=qh hcall;clear hcall
       go_wp2_with fail
       refine HCALL2.o.mono ?_;rintro e w2 ⟨rfl,n2,hp2,hs2,hrr,hcc⟩;have HR2:=qh hrr;have HC2:=qh (HC1.o.trans hcc);have HP2:=qh hp2;have HT2:=qh hs2;have hln2:n2.length=its.length:=hp2.len.trans hln1;clear hrr hcc hp2 hs2 HCALL2;have HP3:=qh (a0i.refl c b n2)
       have HT3:=qh (show a0a c b n2 from by
        have e1:en=b:=by omega
        have k:=HSC.o.same HP2.o (.inr lZ);rw [e1]at k;exact k)
       exact zq87
     ·skip;have xa:¬(c:Int)<(en:Int):=by omega
      have HCALL:=qh (a1p its F g o cap r m en wr HR.o hl u1 u2 oZ)
      go_wp2_with fail
      refine HCALL.o.mono ?_;rintro e w1 ⟨rfl,n1,hm1,hrr,hcc⟩;have HR1:=qh hrr;have HC1:=qh (HC.o.trans hcc);have HM1:=qh hm1;clear hrr hcc HCALL;have hln1:n1.length=its.length:=hm1.len;clear hm1;obtain⟨hp1,hsp,hsa,hsb,hsc,hsd⟩:=HDONE.o _ HM1.o;have HP1:=qh hp1;have HSP:=qh hsp;have HSA:=qh hsa;have HSB:=qh hsb;have HSC:=qh hsc;have HSD:=qh hsd;clear hp1 hsp hsa hsb hsc hsd;have hcall:=HI.o n1 F g o cap a r c w1 HBL.o.1 HR1.o oZ v1 v2 oZ HSA.o HSB.o;rw [hln1]at hcall;have HCALL2:=qh hcall;clear hcall
      go_wp2_with fail
      refine HCALL2.o.mono ?_;rintro e w2 ⟨rfl,n2,hp2,hs2,hrr,hcc⟩;have HR2:=qh hrr;have HC2:=qh (HC1.o.trans hcc);have HP2:=qh hp2;have HT2:=qh hs2;have hln2:n2.length=its.length:=hp2.len.trans hln1;clear hrr hcc hp2 hs2 HCALL2;have HP3:=qh (a0i.refl c b n2)
      have HT3:=qh (show a0a c b n2 from by
       have e1:en=c:=by omega
       have k:=HSD.o.same HP2.o (.inr oZ);rw [e1]at k;exact k)
      exact zq87
    ·skip;have va:(a:Int)<(r:Int):=by omega
     have vb:¬(r:Int)<(c:Int):=by omega
     by_cases x1:c<en
     ·by_cases x2:en<b
      ·skip;have xa:(c:Int)<(en:Int):=by omega
       have xb:(en:Int)<(b:Int):=by omega
       have HCALL:=qh (a1p its F g o cap r m en wr HR.o hl u1 u2 oZ)
       go_wp2_with fail
       refine HCALL.o.mono ?_;rintro e w1 ⟨rfl,n1,hm1,hrr,hcc⟩;have HR1:=qh hrr;have HC1:=qh (HC.o.trans hcc);have HM1:=qh hm1;clear hrr hcc HCALL;have hln1:n1.length=its.length:=hm1.len;clear hm1;obtain⟨hp1,hsp,hsa,hsb,hsc,hsd⟩:=HDONE.o _ HM1.o;have HP1:=qh hp1;have HSP:=qh hsp;have HSA:=qh hsa;have HSB:=qh hsb;have HSC:=qh hsc;have HSD:=qh hsd;clear hp1 hsp hsa hsb hsc hsd;have HP2:=qh (a0i.refl a c n1)
       have HT2:=qh (show a0a a c n1 from by
        have e1:r=c:=by omega
        rw [e1]at HSA;exact HSA.o)
       exact zq100
      ·skip;have xa:(c:Int)<(en:Int):=by omega
       have xb:¬(en:Int)<(b:Int):=by omega
       have HCALL:=qh (a1p its F g o cap r m en wr HR.o hl u1 u2 oZ)
       go_wp2_with fail
       refine HCALL.o.mono ?_;rintro e w1 ⟨rfl,n1,hm1,hrr,hcc⟩;have HR1:=qh hrr;have HC1:=qh (HC.o.trans hcc);have HM1:=qh hm1;clear hrr hcc HCALL;have hln1:n1.length=its.length:=hm1.len;clear hm1;obtain⟨hp1,hsp,hsa,hsb,hsc,hsd⟩:=HDONE.o _ HM1.o;have HP1:=qh hp1;have HSP:=qh hsp;have HSA:=qh hsa;have HSB:=qh hsb;have HSC:=qh hsc;have HSD:=qh hsd;clear hp1 hsp hsa hsb hsc hsd;have HP2:=qh (a0i.refl a c n1)
       have HT2:=qh (show a0a a c n1 from by
        have e1:r=c:=by omega
        rw [e1]at HSA;exact HSA.o)
       exact zq98
     ·skip;have xa:¬(c:Int)<(en:Int):=by omega
      have HCALL:=qh (a1p its F g o cap r m en wr HR.o hl u1 u2 oZ)
      go_wp2_with fail
      refine HCALL.o.mono ?_;rintro e w1 ⟨rfl,n1,hm1,hrr,hcc⟩;have HR1:=qh hrr;have HC1:=qh (HC.o.trans hcc);have HM1:=qh hm1;clear hrr hcc HCALL;have hln1:n1.length=its.length:=hm1.len;clear hm1;obtain⟨hp1,hsp,hsa,hsb,hsc,hsd⟩:=HDONE.o _ HM1.o;have HP1:=qh hp1;have HSP:=qh hsp;have HSA:=qh hsa;have HSB:=qh hsb;have HSC:=qh hsc;have HSD:=qh hsd;clear hp1 hsp hsa hsb hsc hsd;have HP2:=qh (a0i.refl a c n1)
      have HT2:=qh (show a0a a c n1 from by
       have e1:r=c:=by omega
       rw [e1]at HSA;exact HSA.o)
      exact zq99
   ·skip;have va:¬(a:Int)<(r:Int):=by omega
    by_cases x1:c<en
    ·by_cases x2:en<b
     ·skip;have xa:(c:Int)<(en:Int):=by omega
      have xb:(en:Int)<(b:Int):=by omega
      have HCALL:=qh (a1p its F g o cap r m en wr HR.o hl u1 u2 oZ)
      go_wp2_with fail
      refine HCALL.o.mono ?_;rintro e w1 ⟨rfl,n1,hm1,hrr,hcc⟩;have HR1:=qh hrr;have HC1:=qh (HC.o.trans hcc);have HM1:=qh hm1;clear hrr hcc HCALL;have hln1:n1.length=its.length:=hm1.len;clear hm1;obtain⟨hp1,hsp,hsa,hsb,hsc,hsd⟩:=HDONE.o _ HM1.o;have HP1:=qh hp1;have HSP:=qh hsp;have HSA:=qh hsa;have HSB:=qh hsb;have HSC:=qh hsc;have HSD:=qh hsd;clear hp1 hsp hsa hsb hsc hsd;have HP2:=qh (a0i.refl a c n1)
      have HT2:=qh (show a0a a c n1 from by
       have e1:r=a:=by omega
       rw [e1]at HSB;exact HSB.o)
      exact zq100
     ·skip;have xa:(c:Int)<(en:Int):=by omega
      have xb:¬(en:Int)<(b:Int):=by omega
      have HCALL:=qh (a1p its F g o cap r m en wr HR.o hl u1 u2 oZ)
      go_wp2_with fail
      refine HCALL.o.mono ?_;rintro e w1 ⟨rfl,n1,hm1,hrr,hcc⟩;have HR1:=qh hrr;have HC1:=qh (HC.o.trans hcc);have HM1:=qh hm1;clear hrr hcc HCALL;have hln1:n1.length=its.length:=hm1.len;clear hm1;obtain⟨hp1,hsp,hsa,hsb,hsc,hsd⟩:=HDONE.o _ HM1.o;have HP1:=qh hp1;have HSP:=qh hsp;have HSA:=qh hsa;have HSB:=qh hsb;have HSC:=qh hsc;have HSD:=qh hsd;clear hp1 hsp hsa hsb hsc hsd;have HP2:=qh (a0i.refl a c n1)
      have HT2:=qh (show a0a a c n1 from by
       have e1:r=a:=by omega
       rw [e1]at HSB;exact HSB.o)
      exact zq98
    ·skip;have xa:¬(c:Int)<(en:Int):=by omega
     have HCALL:=qh (a1p its F g o cap r m en wr HR.o hl u1 u2 oZ)
     go_wp2_with fail
     refine HCALL.o.mono ?_;rintro e w1 ⟨rfl,n1,hm1,hrr,hcc⟩;have HR1:=qh hrr;have HC1:=qh (HC.o.trans hcc);have HM1:=qh hm1;clear hrr hcc HCALL;have hln1:n1.length=its.length:=hm1.len;clear hm1;obtain⟨hp1,hsp,hsa,hsb,hsc,hsd⟩:=HDONE.o _ HM1.o;have HP1:=qh hp1;have HSP:=qh hsp;have HSA:=qh hsa;have HSB:=qh hsb;have HSC:=qh hsc;have HSD:=qh hsd;clear hp1 hsp hsa hsb hsc hsd;have HP2:=qh (a0i.refl a c n1)
     have HT2:=qh (show a0a a c n1 from by
      have e1:r=a:=by omega
      rw [e1]at HSB;exact HSB.o)
     exact zq99
  ·skip;have ua:(r:Int)<(m:Int):=by omega
   have ub:¬(m:Int)<(en:Int):=by omega
   exact zq85
 ·skip;have ua:¬(r:Int)<(m:Int):=by omega
  exact zq85):p:=h
theorem zq1 {p:Prop} (h:p:=by
 obtain⟨g,o,hga,hgs,x,c0,c1,hx⟩:=(HU.o.below hb).at j hlt;have HEN:=qh (a0h l j hlt);have hll:=HLE.o _ (List.getElem_mem hlt);have hba:=(Below.refl wr.heap.size wr).alloc lZ (.cells #[x,.string (S l[j].2)] 119);have HX:=qh (hx.below hba);have HBA:=qh hba;have HR:=qh ((hba.cell (p:=⟨w.heap.size,0,none⟩) (by have:=HBZ.o;show w.heap.size<_;omega)).trans r0);have HSF:=qh ((hba.frozen (p:=⟨w.heap.size,0,none⟩) (by have:=HBZ.o;show w.heap.size<_;omega)).trans s0);obtain⟨xd,xc,rfl,_,_⟩:=hx;subst hga;generalize l[j]=en at *;obtain⟨eo,et⟩:=en;simp only at hll HX HBA HR HSF c1;have i1:(j:Int)<(l.length:Int):=by omega
 clear hb hba r0 s0
 go_wp2_with fail
 refine (copied _ eo et _ HX.o oZ).mono ?_;rintro e v1 ⟨x1,rfl,hI,hb1⟩;have hzz:wr.heap.size+1≤v1.heap.size:=by have:=hb1.size;simp at this;omega
 have HZ1:=qh hzz;have HB1:=qh (show Below wr.heap.size wr v1 from HBA.o.trans (hb1.mono sZ));have HI:=qh hI;have HR1:=qh ((hb1.cell (p:=⟨w.heap.size,0,none⟩) (by have:=HBZ.o;simp;omega)).trans HR.o);have HF1:=qh ((hb1.frozen (p:=⟨w.heap.size,0,none⟩) (by have:=HBZ.o;simp;omega)).trans HSF.o);obtain⟨x1d,x1c,rfl,_,_⟩:=hI;clear hb1;have HA2:=qh ((HA.o.keep a0e HB1.o).keep a0e ((Below.refl v1.heap.size v1).alloc lZ (.cells #[.slice x1d eo.length x1c,.string (S et)] 119)));have HOW:=qh (show (v1.alloc (.cells #[.slice x1d eo.length x1c,.string (S et)] 119)).ownsRow (w.heap.size+1) 119 2 (.slice uad j ucap) j xs by have:=HA2.o.owns;rwa [HL0.o]at this)
 go_wp2_with (at_builtin;refine wpList_append_lies _ rfl _ _ 24 rfl (w.heap.size+1) 119 i0 (.agg #[.slice none 0 0,.string ⟨#[]⟩]) 2 40 Tryz.underlying24 hi hz0 hz1 hz2 rfl dZ (.slice uad j ucap) j xs rfl HOW.o ⟨v1.heap.size,0,none⟩ 1 1 [.slice x1d eo.length x1c,.string (S et)] rfl rfl ?_ ?_ (Nat.zero_lt_one) ?_ ?_ ?_ _ rfl ?_)
 ·exact zq91
 ·exact zq92
 ·unfold maxLen;omega
 ·omega
 ·have h1:=HZ1.o;have h2:=HBZ.o;simp;omega
 intro g1 cap1 v3 hown hgr hat hlt3
 have HB3:=qh (show Below (w.heap.size+1) (v1.alloc (.cells #[.slice x1d eo.length x1c,.string (S et)] 119)) v3 from
  bZ.grown hgr (by have h1:=HZ1.o;have h2:=HBZ.o;simp;omega) (fun k hk=>(World.ownsRow.lt HA2.o.owns k hk).1))
 have HAC:=qh (HA.o.snoc (a:=(eo,et)) (cs:=[.slice x1d eo.length x1c,.string (S et)]) (v1:=v1) (v2:=v1.alloc (.cells #[.slice x1d eo.length x1c,.string (S et)] 119)) (v3:=v3) (g:=g1) (cap:=cap1) (F:=Bet (wr.heap.size+1) v1.heap.size) a0e HB1.o (fun b hb=>⟨by have:=hb.1;omega,hb.2⟩) (a9t (by have:=HI.o;simpa using this)) rfl (bZ.alloc lZ _) (by rw [HL0.o];exact hown) hgr (by simpa using hat));have hb2:Below w.heap.size w v3:=((HB.o.trans (HB1.o.mono (by have:=HBZ.o;omega))).trans ((Below.refl w.heap.size v1).alloc (by have h1:=HZ1.o;have h2:=HBZ.o;omega) _)).trans (HB3.o.mono oZ);have HBW:=qh hb2
 have HR3:=qh (show v3.cell? ⟨w.heap.size,0,none⟩=some (.slice none 0 0) from
  (HB3.o.cell (p:=⟨w.heap.size,0,none⟩) (by show w.heap.size<w.heap.size+1;omega)).trans ((((Below.refl (w.heap.size+1) v1).alloc (by have h1:=HZ1.o;have h2:=HBZ.o;omega) _).cell (p:=⟨w.heap.size,0,none⟩) (by show w.heap.size<w.heap.size+1;omega)).trans HR1.o))
 have HF3:=qh (show v3.frozen? ⟨w.heap.size,0,none⟩=false from
  (HB3.o.frozen (p:=⟨w.heap.size,0,none⟩) (by show w.heap.size<w.heap.size+1;omega)).trans ((((Below.refl (w.heap.size+1) v1).alloc (by have h1:=HZ1.o;have h2:=HBZ.o;omega) _).frozen (p:=⟨w.heap.size,0,none⟩) (by show w.heap.size<w.heap.size+1;omega)).trans HF1.o))
 clear hown hgr hat hlt3 hb2 hzz;go_wp2
 go_roundw
 case rel=>exact⟨j+1,_,by omega,by go_num,HR3.o,HF3.o,by rw [HEN.o];have h:=HAC.o;rw [HL0.o]at h;exact h,HBW.o⟩
 case measure=>simp [intOf];omega):p:=h
theorem zq2 {p:Prop} (h:p:=by
 obtain⟨h,hh⟩:∃h:Nat,(j+r) / 2=h:=⟨_,rfl⟩;have hhi:((j:Int)+(r:Int)) / 2=(h:Int):=by omega
 have hh1:j≤h:=by omega
 have hh2:h<r:=by omega
 clear hh;obtain⟨q,hq⟩:∃q:Nat,c+m-1-h=q:=⟨_,rfl⟩;have hqi:(c:Int)+(m:Int)-1-(h:Int)=(q:Int):=by omega
 have hw1:IntKind.i64.wrap (q:Int)=(q:Int):=IntWalk.i64_in _ oZ;have hq2:q<b:=by omega
 have hhl:h<its.length:=by omega
 have hql:q<its.length:=by omega
 have h1i:(j:Int)<(r:Int):=by omega
 have HLOW:=qh (fun (hc:¬P.cmp (its[c+m-1-h]'(by omega)).e.1 (its[h]'hhl).e.1<0)=>HBI.o.low HS1.o HS2.o oZ oZ oZ oZ oZ oZ hhl oZ hc);have HHIGH:=qh (fun (hc:P.cmp (its[c+m-1-h]'(by omega)).e.1 (its[h]'hhl).e.1<0)=>HBI.o.high HS1.o HS2.o oZ oZ oZ oZ oZ oZ hhl oZ hc);subst hq
 go_upto_region 35 with fail
 try rw [hhi]
 clear hhi;obtain⟨xd,xc,yd,yc,hx,hy,hkc⟩:=HR.o.two (c+m-1-h) h hql hhl;generalize (its[c+m-1-h]'hql)=en at *;generalize (its[h]'hhl)=fn at *;obtain⟨q,hq⟩:∃q:Nat,c+m-1-h=q:=⟨_,rfl⟩;rw [hq]at hqi hw1 hq2 hql hkc;obtain⟨x,Gx,eo,et⟩:=en;obtain⟨y,Gy,fo,ft⟩:=fn;simp only at hx hy hkc HLOW HHIGH;subst hx hy;have HK0:=qh (hkc.step bZ.drew);clear hkc;have hnp:¬its.length≤q:=by omega
 have hnq:¬its.length≤h:=by omega
 refine wp_region_held_drew (S:=KC wr.heap.size wr g (o+q*2) (.slice xd eo.length xc) eo et (o+h*2) (.slice yd fo.length yc) fo ft) kZ HK0.o (fun hS0=>?_);refine tk0 0 hS0 ?_;refine tk0 1 hS0 ?_;refine tk0 2 hS0 ?_;refine tk0 3 hS0 ?_;refine tk0 4 hS0 ?_;refine tk0 5 (v:=.pointer (some ⟨g,o+q*2,none⟩)) hS0 ?_;refine tk0 6 hS0 ?_;refine tk0 7 hS0 ?_;refine tk0 8 hS0 ?_;refine tk0 9 (v:=.pointer (some ⟨g,o+h*2,none⟩)) hS0 ?_;refine tk0 10 hS0 ?_;refine trd 11 fun K hK=>?_;have HX:=qh hS0.2.2.2.2.2.1;have HY:=qh hS0.2.2.2.2.2.2.1;have HSK:=qh hS0;go_simp;refine (a3p _ _ eo fo et ft _ HX.o HY.o).mono ?_;rintro e v ⟨rfl,hb⟩;refine hK.out _ _ (HSK.o.step hb) (fun hS1=>?_);clear hK K hb
 try simp only [qA,qB,qC,Act.put,qD,qE,qF]
 have HBV:=qh hS1.2.2.2.2.2.2.2.2;have HRV:=qh (HR.o.below HBV.o);have HCV:=qh (HC.o.trans (Below.chg HBV.o _))
 by_cases hcmp:P.cmp eo fo<0
 ·have HQ:=qh (HHIGH.o hcmp);refine tk0 12 hS1 ?_;refine tk0 13 hS1 ?_;refine wpAnyH_done kZ ?_ _;clear hS0 HSK hS1 HLOW HHIGH hcmp HX HY HK0 HR HC HBV hnp hnq hw1 hqi;go_wp2
  go_roundw
  case rel=>exact⟨j,h,hj1,hh1,by omega,rfl,rfl,HQ.o,HRV.o,HCV.o⟩
  case measure=>simp [intOf];omega
 ·have HQ:=qh (HLOW.o hcmp);refine tk0 12 hS1 ?_;refine tk0 13 hS1 ?_;refine wpAnyH_done kZ ?_ _;clear hS0 HSK hS1 HLOW HHIGH hcmp HX HY HK0 HR HC HBV hnp hnq hw1 hqi;go_wp2
  go_roundw
  case rel=>exact⟨h+1,r,by omega,by omega,hr1,by go_num,rfl,HQ.o,HRV.o,HCV.o⟩
  case measure=>simp [intOf];omega):p:=h
theorem zq3 {p:Prop} (h:p:=by
 rintro e v1 ⟨rfl,hb1⟩;have hzz:wr.heap.size+1≤v1.heap.size:=by have:=hb1.size;simp at this;omega
 have HB1:=qh (show Below wr.heap.size wr v1 from HBA.o.trans (hb1.mono sZ));have e0:=(hb1.cell (p:=⟨wr.heap.size,0,none⟩) sZ).trans (show (wr.alloc (.cells #[.slice xd eo.length xc,.string (S et)] 119)).cell? ⟨wr.heap.size,0,none⟩=some (.slice xd eo.length xc) by go_simp);have e1:=(hb1.cell (p:=⟨wr.heap.size,1,none⟩) sZ).trans (show (wr.alloc (.cells #[.slice xd eo.length xc,.string (S et)] 119)).cell? ⟨wr.heap.size,1,none⟩=some (.string (S et)) by go_simp);have HZ1:=qh hzz;clear hb1 hzz HX HC2 HO2 HBA
 by_cases heo:eo=o
 ·have HEN2:=qh (HEN.o.trans (if_pos heo));rw [decide_eq_true heo];clear heo HEN e0 e1;go_wp2
  go_roundw
  case rel=>exact⟨j+1,xs,by omega,by go_num,by rw [HEN2.o];exact HA.o.keep (b0f w) HB1.o,HB.o.trans (HB1.o.mono HBZ.o)⟩
  case measure=>simp [intOf];omega
 ·have HEN2:=qh (HEN.o.trans (if_neg heo));rw [decide_eq_false heo];clear heo HEN;have HA2:=qh ((HA.o.keep (b0f w) HB1.o).keep (b0f w) ((Below.refl v1.heap.size v1).alloc lZ (.cells #[.slice xd eo.length xc,.string (S et)] 119)));have HOW:=qh HA2.o.owns;have HWV:=qh (Nat.le_trans HBZ.o HB1.o.size)
  go_wp2_with (at_builtin;refine wpList_append_lies _ rfl _ _ 24 rfl w.heap.size 119 i0 (.agg #[.slice none 0 0,.string ⟨#[]⟩]) 2 40 Tryz.underlying24 hi hz0 hz1 hz2 rfl dZ (.slice uad dl.length ucap) dl.length xs rfl HOW.o ⟨v1.heap.size,0,none⟩ 1 1 [.slice xd eo.length xc,.string (S et)] rfl rfl ?_ ?_ (Nat.zero_lt_one) ?_ ?_ ?_ _ rfl ?_)
  ·exact zq91
  ·exact zq92
  ·unfold maxLen;omega
  ·omega
  ·have h1:=HWV.o;simp;omega
  intro g1 cap1 v3 hown hgr hat hlt3
  have HB3:=qh (show Below w.heap.size (v1.alloc (.cells #[.slice xd eo.length xc,.string (S et)] 119)) v3 from
   bZ.grown hgr (by have h1:=HWV.o;simp;omega) (fun k hk=>(World.ownsRow.lt HA2.o.owns k hk).1))
  have HAC:=qh (HA.o.snoc (a:=(eo,et)) (cs:=[.slice xd eo.length xc,.string (S et)]) (v1:=v1) (v2:=v1.alloc (.cells #[.slice xd eo.length xc,.string (S et)] 119)) (v3:=v3) (g:=g1) (cap:=cap1) (F:=fun _=>False) (b0f w) HB1.o (fun b hb=>hb.elim) ⟨_,rfl,HXW.o⟩ rfl (bZ.alloc lZ _) hown hgr (by simpa using hat));have HBW:=qh (((HB.o.trans (HB1.o.mono HBZ.o)).trans ((Below.refl w.heap.size v1).alloc HWV.o _)).trans HB3.o);clear hown hgr hat hlt3 e0 e1;go_wp2
  go_roundw
  case rel=>exact⟨j+1,_,by omega,by go_num,by rw [HEN2.o];exact HAC.o,HBW.o⟩
  case measure=>simp [intOf];omega):p:=h
theorem zq4 {p:Prop} (h:p:=by
 obtain⟨k,f,init,hk,hf,rfl,rfl,hil,hsp,hown,hbel⟩:=hrel;have HSP:=qh hsp;clear hsp;have HOWN:=qh hown;clear hown;have HBEL:=qh hbel;clear hbel;have hsz:=HBEL.o.size
 by_cases hlt:k<s.length
 ·by_cases he:(s[k]==c)=true
  ·have HH:=qh (P.c8n c s f k init hlt he HSP.o);clear HSP
   go_wp2_with (at_builtin;refine wpList_append_own _ rfl _ _ 43 rfl w.heap.size 9 i0 (.string ⟨#[]⟩) 1 16 Tryz.underlying43 hi hz0 hz1 hz2 rfl dZ _ _ _ rfl (HOWN.o.alloc _) ⟨wr.heap.size,0,none⟩ 1 1 [.string (S ((s.drop f).take (k-f)))] rfl rfl ?c1 ?c2 ?c3 ?c4 ?c5 ?_)
   case c1=>intro j u hj;match j,hj with|0,hj=>(simp at hj;subst hj;simp [Addr.add])
   case c2=>intro u hu;simp at hu;subst hu;rfl
   case c3=>unfold maxLen;omega
   case c4=>omega
   case c5=>simp;omega
   intro v' w1 hown' hgrow _;have R:=qh (a8r hsz HOWN.o HBEL.o hown' hgrow);clear hown' hgrow HOWN HBEL;go_wp2
   go_roundw
   case rel=>exact⟨k+1,k+1,init++[(s.drop f).take (k-f)],by omega,by omega,by go_num,by go_num,by simp;omega,HH.o,R.o.1,R.o.2⟩
   case measure=>simp [intOf];omega
  ·have he':(s[k]==c)=false:=by simpa using he
   clear he;have HH:=qh (P.c3n c s f k init hlt hf he' HSP.o);clear HSP;go_wp2
   go_roundw
   case rel=>exact⟨k+1,f,init,by omega,by omega,by go_num,rfl,by omega,HH.o,HOWN.o,HBEL.o⟩
   case measure=>simp [intOf];omega
 ·have HH:=qh (P.c6l c s f k init oZ HSP.o);clear HSP
  go_wp2_with (at_builtin;refine wpList_append_own _ rfl _ _ 43 rfl w.heap.size 9 i0 (.string ⟨#[]⟩) 1 16 Tryz.underlying43 hi hz0 hz1 hz2 rfl dZ _ _ _ rfl (HOWN.o.alloc _) ⟨wr.heap.size,0,none⟩ 1 1 [.string (S (s.drop f))] rfl rfl ?d1 ?d2 ?d3 ?d4 ?d5 ?_)
  case d1=>intro j u hj;match j,hj with|0,hj=>(simp at hj;subst hj;simp [Addr.add])
  case d2=>intro u hu;simp at hu;subst hu;rfl
  case d3=>unfold maxLen;omega
  case d4=>omega
  case d5=>simp;omega
  intro v' w1 hown' hgrow _;have R:=qh (a8r hsz HOWN.o HBEL.o hown' hgrow);clear hown' hgrow HOWN HBEL;go_wp2;go_ret;exact⟨v',rfl,by rw [HH.o];exact R.o.1,R.o.2⟩):p:=h
theorem zq5 {p:Prop} (h:p:=by
 by_cases h24:24<z.length
 ·have HF:=qh (HJS.o.trans (if_pos h24));have i7:(24:Int)<(z.length:Int):=by omega
  clear h24;go_wp2;go_ret2;exact⟨by rw [HF.o];rfl,HB.o⟩
 ·have HF:=qh (HJS.o.trans (if_neg h24));have i7:¬(24:Int)<(z.length:Int):=by omega
  clear h24;go_wp2;go_ret2;exact⟨by rw [HF.o]<;>rfl,HB.o⟩):p:=h
theorem zq6 {p:Prop} (h:p:=by
 rintro e v ⟨rfl,hb⟩;rw [hok];generalize hpa:(P.a0n x).1=pa at *;obtain⟨pk,pt⟩:=pa;have HO:=qh (a0k HOWN.o hb lZ);have HS2:=qh (HST.o.below hb);have HB:=qh (HBEL.o.trans (hb.mono hsz));have hvz:w.heap.size≤v.heap.size:=Nat.le_trans hsz hb.size;have hjj:j≤100:=by omega
 clear hb;simp only
 go_wp2_with (at_builtin;refine wpList_append_own _ rfl _ _ 171 rfl w.heap.size 177 i0 (.agg #[.int .i64 0,.string ⟨#[]⟩]) 2 24 Tryz.underlying171 hi hz0 hz1 hz2 rfl dZ _ _ _ rfl ((HO.o.alloc _).alloc _) ⟨v.heap.size+1,0,none⟩ 1 1 [.int .i64 pk,.string (S pt)] rfl rfl ?c1 ?c2 ?c3 ?c4 ?c5 ?_)
 case c1=>intro j u hj;match j,hj with|0,hj=>(simp at hj;subst hj;simp [Addr.add])|1,hj=>(simp at hj;subst hj;simp [Addr.add])
 case c2=>intro u hu;simp at hu;rcases hu with rfl|rfl<;>rfl
 case c3=>unfold maxLen;omega
 case c4=>omega
 case c5=>simp;omega
 intro v' w3 hown' hgrow _;have R:=qh (b7x (x:=(pk,pt)) (w1:=v.alloc (.cells #[.int .i64 pk,.string (S pt)] 177)) (o:=(.cells #[.int .i64 pk,.string (S pt)] 177)) (v:=.slice ad out.length cp) (by simp;omega) (HO.o.alloc _) (HB.o.alloc hvz _) (by first|exact hown'|(rw [hoj];exact hown')) (by rw [hoj];exact hgrow));have hS2a:=(HS2.o.below (bZ.alloc lZ (.cells #[.int .i64 pk,.string (S pt)] 177))).below (bZ.alloc lZ (.cells #[.int .i64 pk,.string (S pt)] 177));have hap:=c0e ((HO.o.alloc (.cells #[.int .i64 pk,.string (S pt)] 177)).alloc (.cells #[.int .i64 pk,.string (S pt)] 177)) hS2a;rw [hoj]at hap;have hS3:=hS2a.grown hgrow hap;have HS3:=qh hS3;have HPA:=qh hpa;have HOK:=qh hok;clear hown' hgrow HOWN HBEL HO HB hS3 hS2a hap hpa hok;go_wp2
 go_roundw
 case rel=>
  refine⟨j+1,by omega,by go_num,?_,?_,HS3.o,R.o.2⟩
  ·rw [HSN.o];intro y hy
   rcases List.mem_append.1 hy with hy|hy
   ·exact HALL.o y hy
   ·rw [List.mem_singleton]at hy;rw [hy];exact HOK.o
  ·rw [HSN.o,List.map_append,←HOUT.o,List.map_cons,List.map_nil,HPA.o];exact R.o.1
 case measure=>simp [intOf];omega):p:=h
theorem zq7 {p:Prop} (h:p:=by
 clear hh;obtain⟨q,hq⟩:∃q:Nat,mid+m-1-h=q:=⟨_,rfl⟩;have hqi:(mid:Int)+(m:Int)-1-(h:Int)=(q:Int):=by omega
 have hw1:IntKind.i64.wrap (q:Int)=(q:Int):=IntWalk.i64_in _ oZ;have hq1:h<q:=by omega
 have hq2:q<b:=by omega
 clear hq
 go_upto_region 35 with fail
 try rw [hhi]
 clear hhi;obtain⟨g,o,rfl,_⟩:=HU.o.at (q) oZ;obtain⟨x,xd,xc,y,yd,yc,rfl,rfl,HKC⟩:=HU.o.two lZ HB.o HBZ.o (q) (h) oZ oZ;have HCM:=qh (HS.o (h) (q) oZ oZ);have HK0:=qh (HKC.step bZ.drew);clear HKC;generalize (l[q]'(by omega))=en at *;generalize (l[h]'(by omega))=fn at *;obtain⟨eo,et⟩:=en;obtain⟨fo,ft⟩:=fn;simp only at HK0 HCM;have hc:¬P.cmp eo fo<0:=by have:=HCM.o;omega
 have hnp:¬l.length≤q:=by omega
 have hnq:¬l.length≤h:=by omega
 refine wp_region_held_drew (S:=KC w.heap.size w g (o+q*2) (.slice xd eo.length xc) eo et (o+h*2) (.slice yd fo.length yc) fo ft) kZ HK0.o (fun hS0=>?_);refine tk0 0 hS0 ?_;refine tk0 1 hS0 ?_;refine tk0 2 hS0 ?_;refine tk0 3 hS0 ?_;refine tk0 4 hS0 ?_;refine tk0 5 (v:=.pointer (some ⟨g,o+q*2,none⟩)) hS0 ?_;refine tk0 6 hS0 ?_;refine tk0 7 hS0 ?_;refine tk0 8 hS0 ?_;refine tk0 9 (v:=.pointer (some ⟨g,o+h*2,none⟩)) hS0 ?_;refine tk0 10 hS0 ?_;refine trd 11 fun K hK=>?_;have HX:=qh hS0.2.2.2.2.2.1;have HY:=qh hS0.2.2.2.2.2.2.1;have HS1:=qh hS0;go_simp;refine (a3p _ _ eo fo et ft _ HX.o HY.o).mono ?_;rintro e v ⟨rfl,hb⟩;refine hK.out _ _ (HS1.o.step hb) (fun hS1=>?_);clear hK K hb
 try simp only [qA,qB,qC,Act.put,qD,qE,qF]
 refine tk0 12 hS1 ?_;refine tk0 13 hS1 ?_;refine wpAnyH_done kZ ?_ _;have HB2:=qh hS1.2.2.2.2.2.2.2.2;clear hS0 hS1 HS1 HX HY HK0 hc HCM hnp hnq;clear hw1 hqi;exact zq94):p:=h
theorem zq8 {p:Prop} (h:p:=by
 have HOW2:=qh (H5.o.2.1.alloc (.cells #[.int .i64 y] 3));have HZ3:=qh H5.o.2.2.2.size;clear hc
 go_wp2_with (at_builtin;refine wpList_append_own _ rfl _ _ 33 rfl W0.heap.size 3 i0 (.int .i64 0) 1 8 Tryz.underlying33 hi' hy0 hy1 hy2 rfl dZ (.slice ua un uc) o.length (ints o) rfl HOW2.o ⟨w3.heap.size,0,none⟩ 1 1 [.int .i64 y] rfl rfl ?_ ?_ ?_ ?_ ?_ ?_)
 all_goals first|exact⟨rfl,rfl⟩|(intro z hz;simp only [List.mem_cons,List.not_mem_nil,or_false]at hz;subst hz;rfl)|(unfold maxLen;omega)|omega|(have h1:=HZ3.o;simp;omega)|(intro i z hz;rcases i with _|i;(injection hz with hz;subst hz;rw [add0];go_simp);cases hz)|skip
 intro u4 w4 hown hgr _;have H6:=qh (H5.o.app HC0.o 3 hown hgr);have hlo4:∀k,(Value.slice ua un uc).ownBlock=some k→W0.heap.size≤k:=fun k hk=>(World.ownsRow.lt H5.o.2.1 k hk).1;have hba:=(Below.refl w3.heap.size w3).alloc lZ (.cells #[.int .i64 y] 3);have HD6:=qh ((HD5.o.below hba).a0c (Chg.grown hgr) (fun e=>by have:=hlo4 _ e;omega));have HR6:=qh ((HR5.o.chg (Below.chg hba (fun _=>False)) (fun _ _ _ h=>h)).chg (Chg.grown hgr) (fun b h1 h2 e=>by have:=hlo4 _ e;omega));clear hown hgr hlo4 hba;go_wp2
 go_roundw
 case rel=>exact⟨_,k-1,by rw [List.length_append];simp;omega,by go_num,⟨H6.o.1,H6.o.2.1,H6.o.2.2.mono oZ⟩,HD6.o,HR6.o⟩
 case measure=>simp [intOf];omega):p:=h
theorem zq9 {p:Prop} (h:p:=by
 have HC2:=qh (H1.o.alloc (.cells #[.string (S [105,110,103]),.string (S [115]),.string (S [101,100]),.string (S [110,101,115,115]),.string (S [101,114]),.string (S [108,121])] 9));have HL:=qh (a2k [[105,110,103],[115],[101,100],[110,101,115,115],[101,114],[108,121]] w1 9);have HA2:=qh (HA1.o.alloc (.cells #[.string (S [105,110,103]),.string (S [115]),.string (S [101,100]),.string (S [110,101,115,115]),.string (S [101,114]),.string (S [108,121])] 9));clear HA1
 go_wp2_with fail
 refine (b0x B C (K+2) w1.heap.size 6 [[105,110,103],[115],[101,100],[110,101,115,115],[101,114],[108,121]] _ oZ dZ dZ sZ oZ HL.o HC2.o.1).mono ?_;rintro e w2 ⟨s,hs,rfl,hc⟩;have H2:=qh (HC2.o.trans hc);have HS:=qh (show s.length≤20 from (by decide:∀s∈([[105,110,103],[115],[101,100],[110,101,115,115],[101,114],[108,121]]:List Str),s.length≤20) s hs);have HA3:=qh (HA2.o.a0c hc.2 oZ);clear hc hs HA2 HC2 H1 HL;obtain⟨b0,b1,f0,f1,_⟩:=HA3.o;go_wp2;refine bodyPost_ret (v:=a3r 2 s) (by simp [results,Tryz.results252,go_sem,b0,b1]) rfl ⟨2,s,rfl,HS.o,?_⟩;exact zq93):p:=h
theorem zq10 {p:Prop} (h:p:=by
 exact zq93):p:=h
theorem zq11 {p:Prop} (h:p:=by
 rintro e w2 hmp;obtain⟨x,ok,rfl,hx,hs,hc⟩:=hmp;have HX:=qh hx;have HS:=qh hs;have HC:=qh hc;clear hx hs hc;go_wp2;go_ret2;exact⟨x,ok,rfl,by rw [HP.o];exact HX.o,by rw [HP.o];exact HS.o,HC.o⟩):p:=h
theorem zq12 {p:Prop} (h:p:=by
 exact zq91):p:=h
theorem zq13 {p:Prop} (h:p:=by
 go_wp2;go_ret2;exact⟨x,ok,rfl,by rw [HP.o];exact HX.o,by rw [HP.o];exact HS.o,HC.o⟩):p:=h
theorem zq14 {p:Prop} (h:p:=by
 obtain⟨⟨h0,h1,h2,h3,h4,h5,h6⟩,f0,f1,f2,f3,f4,f5⟩:=h;exact⟨⟨by go_simp,by go_simp,by go_simp,by go_simp,by go_simp,by go_simp,by simpa [World.setCell] using h6⟩,by go_simp,by go_simp,by go_simp,by go_simp,by go_simp,by go_simp⟩):p:=h
theorem zq15 {p:Prop} (h:p:=by
 obtain⟨_,_,_,⟨k3,k4,_⟩,⟨_,k5,k6,k7,k8⟩,⟨_,k9,k10,k11,k12⟩⟩:=HX4.o;go_wp2;refine bodyPost_ret (v:=.tuple #[.agg #[.slice none 0 0],a1v (.slice none 0 0) [],a2j (0,[]),.bool false]) (by simp [a1v,a2j,k3,k5,k6,k9,k10,results,Tryz.results212,go_sem]) rfl ⟨.slice none 0 0,.slice none 0 0,w.heap.size,by rw [HP.o];rfl,by rw [HP.o];exact RowO.nil _ _,by rw [HP.o];exact World.ownsRow_nil _ _ _ _,Nat.le_refl _,?_,?_⟩
 ·have h9:=HB4.o.size;simp only [World.setCell,Array.size_modify];omega
 ·exact (((((HB4.o.setCell (by simp<;>omega) _).setCell (by simp<;>omega) _).setCell (by simp<;>omega) _).setCell (by simp<;>omega) _).setCell (by simp<;>omega) _)):p:=h
theorem zq16 {p:Prop} (h:p:=by
 exact zq92):p:=h
theorem zq17 {p:Prop} (h:p:=by
 go_wp2_with fail
 go_quiet (fail)
 go_wp2;refine bodyPost_ret (v:=.agg #[.int .i64 (P.least a b).1,.string (S (P.least a b).2)]) (by simp [P.least,HL.o,results,Tryz.results208,go_sem,HSB.o]) rfl ⟨rfl,((below_drewN (bZ.alloc lZ _) _).setCell lZ _).setCell lZ _⟩):p:=h
theorem zq18 {p:Prop} (h:p:=by
 rcases h.2 with⟨rfl,h0⟩|⟨g,cap,cur,hv,_⟩
 ·exact⟨none,0,by rw [h0]⟩
 ·exact⟨_,cap,hv⟩):p:=h
theorem zq19 {p:Prop} (h:p:=by
 have hn:news=[]:=List.eq_nil_of_length_eq_zero (by simpa using hl);subst hn;subst hsize;refine⟨v,w,?_,by simpa using hown,⟨rfl,rfl,rfl,Nat.le_refl _,fun _ _ _=>rfl⟩,by simp⟩
 rcases hown.2 with⟨rfl,rfl⟩|⟨g,cap,cur,rfl,hbg,hg,hnc,hcm,hcs,htake⟩
 ·simp [Builtin.append_,run_underlying ht,sizeOf,typeInfo,hi,Builtin.lenOf,Builtin.firstCells]
 ·simp [Builtin.append_,run_underlying ht,sizeOf,typeInfo,hi,Builtin.lenOf,Builtin.firstCells,loadCells,hnc,storeCells]):p:=h
theorem zq20 {p:Prop} (h:p:=by
 injection he with h1 h2 h4
 rcases h3 with h3|⟨g,o,h5,h6,h7⟩
 ·rw [h3]at hj;exact absurd hj (Nat.not_lt_zero _)
 ·exact⟨g,o,h1.trans h5,h6,h7 j hj⟩):p:=h
theorem zq21 {p:Prop} (h:p:=by
 go_enter Tryz.func219,Tryz.ntmps219
 go_wp2_with (first|(go_at_call 277;refine (b6f _ _ hs').mono ?_;rintro e w' ⟨rfl,rfl⟩;rw [if_pos h1,HD1.o])|(go_at_call 145;refine (a4s _ _ oZ oZ HE.o).mono ?_;rintro e w' ⟨rfl,hb⟩;have HB:=qh hb;clear hb;rw [Int.toNat_natCast])|(go_at_call 136;refine (contains_one _ 35 _).mono ?_;rintro e w' ⟨rfl,rfl⟩))
 go_ret2;exact⟨by rw [HF.o];rfl,HB.o⟩):p:=h
theorem zq22 {p:Prop} (h:p:=by
 go_wp2;refine bodyPost_ret (v:=.tuple #[a1v (.slice none 0 0) [],a2j (0,[]),.bool false]) (by simp [a1v,a2j,k3,k4,k5,k6,results,Tryz.results207,go_sem]) rfl ⟨.slice none 0 0,by rw [HP.o];rfl,by rw [HP.o];exact World.ownsRow_nil _ _ _ _,?_⟩;exact (((((HB0.o.trans (HB1.o.mono HB0.o.size)).setCell (by simp<;>omega) _).setCell (by simp<;>omega) _).setCell (by simp<;>omega) _).setCell (by simp<;>omega) _)):p:=h
theorem zq23 {p:Prop} (h:p:=by
 by_cases h2:n<10
 ·unfold num;rw [Go.Lib.decDigits_one h2];simp
 ·by_cases h3:n<100
  ·unfold num;rw [Go.Lib.decDigits_two h2 h3];simp
  ·unfold num;rw [Go.Lib.decDigits,dif_neg h2]
   by_cases h4:n / 10<100
   ·rw [Go.Lib.decDigits_two oZ h4];simp
   ·rw [Go.Lib.decDigits,dif_neg oZ,Go.Lib.decDigits_two oZ oZ];simp):p:=h
theorem zq24 {p:Prop} (h:p:=by
 obtain⟨ad',cap',he,h1,hn,h3⟩:=h;injection he with e1 e2 e3;subst e1 e3;have hlk:(l.take k).length=k:=by rw [List.length_take];omega
 refine⟨ad,cap,by rw [hlk],by omega,hn,?_⟩
 rcases h3 with h3|⟨g,o,h4,h5,h6⟩
 ·left;rw [h3];simp
 ·refine .inr ⟨g,o,h4,h5,fun j hj=>?_⟩;have hj':j<l.length:=by omega
  rw [List.getElem_take];exact h6 j hj'):p:=h
theorem zq25 {p:Prop} (h:p:=by
 go_enter Tryz.func296,Tryz.ntmps296
 go_wp2;refine bodyPost_ret (v:=a3r 1 s) (by simp [results,Tryz.results296,go_sem]) rfl ⟨by rw [HF.o],bZ.alloc lZ _⟩):p:=h
theorem zq26 {p:Prop} (h:p:=by
 obtain⟨v',w',hr,h2,h3,h4⟩:=a4u (P:=P) w base t o.type e i z size bytes ht hi hz hsize hby hzs hsz v n xs hown u m news hsrc h63 hbytes hbase;unfold Oper.wp execOp;simp only [ho,resolve,invoke,builtin,Sem.run_bind,Sem.run_pure,Result.andThen_ok,List.map_toArray,List.map_cons,List.map_nil,hs,hx,hr];exact hK _ _ (h v' w' h2 h3 h4)):p:=h
theorem zq27 {p:Prop} (h:p:=by
 have hr2:=HR.o;exact (hr2.a0c a0e (X:=fun b=>b=w.heap.size) ((Chg.refl (fun b=>b=w.heap.size) v1).setCell (p:=⟨w.heap.size,0,none⟩) rfl (.slice uad j ucap)) (by intro b hb;have:=hb.1;omega)).wide (fun b hb=>⟨by have:=hb.1;omega,by have h1:=hb.2;have h2:=HZ.o;simp [World.setCell];omega⟩) (fun b hb=>hb.2)):p:=h
theorem zq28 {p:Prop} (h:p:=by
 subst hv;rw [Nat.zero_add];have hw:=(h2 j hj).1
 have hlt2:j*wd+i<l.length*wd:=by
  have:=Nat.mul_le_mul_right wd (show j+1≤l.length by omega);rw [Nat.add_mul]at this;omega
 refine⟨(World.ownsRow.cellAt h1 (j*wd+i) hlt2).trans ?_,World.ownsRow.frozenAt h1 _⟩;rw [h0];exact b5q (fun j hj=>(h2 j hj).1) j i hj hi):p:=h
theorem zq29 {p:Prop} (h:p:=by
 intro hy
 rcases h1.2 with⟨rfl,_⟩|⟨g,cap,cur,rfl,_,hh,_⟩
 ·simp [Value.ownBlock]at hk
 rcases h2.2 with⟨rfl,_⟩|⟨g2,cap2,cur2,rfl,_,hh2,_⟩
 ·simp [Value.ownBlock]at hy
 simp [Value.ownBlock]at hy hk;subst hy;subst hk;rw [hh]at hh2;injection hh2 with hh2;injection hh2 with _ e2 _;exact absurd e2 dZ):p:=h
theorem zq30 {p:Prop} (h:p:=by
 obtain⟨ad,cap,h1,h2,hn,h3⟩:=h;refine⟨ad,cap,h1,h2,hn,h3.imp id ?_⟩;rintro⟨g,o,h4,h5,h6⟩;refine⟨g,o,h4,Nat.lt_of_lt_of_le h5 hb.size,fun j hj=>?_⟩;obtain⟨x,a,b,c⟩:=h6 j hj;exact⟨x,(hb.cell (p:=⟨g,_,none⟩) h5).trans a,(hb.cell (p:=⟨g,_,none⟩) h5).trans b,c.below hb⟩):p:=h
theorem zq31 {p:Prop} (h:p:=by
 go_ret;exact⟨(by first|(rw [HF.o];done)|(rw [HF.o];rfl)),rfl⟩):p:=h
theorem zq32 {p:Prop} (h:p:=by
 go_wp2_with (go_at_call 273;refine (a6s _ _).mono ?_;rintro e w' ⟨rfl,rfl⟩)
 go_meet;exact⟨_,rfl,by rw [HCL.o];rfl,Below.refl _ _⟩):p:=h
theorem zq33 {p:Prop} (h:p:=by
 have HK:=qh hok;clear hok;go_wp2;go_ret;exact⟨a0b (by rw [HK.o];rfl),HB1.o⟩):p:=h
theorem zq34 {p:Prop} (h:p:=by
 go_wp2;refine bodyPost_ret (v:=.tuple #[.agg #[.string (S []),.string (S [])],.int .i64 0,.bool false]) (by simp [results,Tryz.results148,go_sem]) rfl ⟨by rw [HF.o];rfl,?_⟩;exact ((below_drewN (bZ.alloc lZ _) _).setCell sZ _).setCell sZ _):p:=h
theorem zq35 {p:Prop} (h:p:=by
 simp only [if_neg e];have hj':j<l.length:=by simp at hj;omega
 refine⟨(h2 j hj').1,?_⟩;rw [List.getElem_append_left hj'];refine hE.keep (h2 j hj').2 ⟨by omega,fun b hb=>?_⟩;have h5:=h3 j hj' b hb;rw [hgB b oZ h5.2.2,hb2.block b oZ,hb1.block b oZ]):p:=h
theorem zq36 {p:Prop} (h:p:=by
 obtain⟨h1,h2,h3,h4,h5⟩:=h;exact⟨Nat.lt_of_lt_of_le h1 hc.size,(hc.cell (p:=⟨b,0,none⟩) h1 hX).trans h2,(hc.cell (p:=⟨b,1,none⟩) h1 hX).trans h3,(hc.frozen (p:=⟨b,0,none⟩) h1 hX).trans h4,(hc.frozen (p:=⟨b,1,none⟩) h1 hX).trans h5⟩):p:=h
theorem zq37 {p:Prop} (h:p:=by
 obtain⟨h1,h2,h3,h4,h5⟩:=h;exact⟨Nat.lt_of_lt_of_le h1 hb.size,(hb.cell (p:=⟨b,0,none⟩) h1).trans h2,(hb.cell (p:=⟨b,1,none⟩) h1).trans h3,(hb.frozen (p:=⟨b,0,none⟩) h1).trans h4,(hb.frozen (p:=⟨b,1,none⟩) h1).trans h5⟩):p:=h
theorem zq38 {p:Prop} (h:p:=by
 go_wp2_with (go_at_call 275;refine (b9i _ _ hx).mono ?_;rintro e w' ⟨rfl,rfl⟩)
 go_meet;exact⟨by simp [*],HB5.o⟩):p:=h
theorem zq39 {p:Prop} (h:p:=by
 subst hW0;refine⟨⟨by simp<;>omega,by go_simp⟩,⟨by simp<;>omega,by go_simp,by go_simp,by go_simp,by go_simp⟩,⟨by simp<;>omega,by go_simp,by go_simp,by go_simp,by go_simp⟩,⟨by simp,by go_simp,by go_simp,by go_simp,by go_simp⟩⟩):p:=h
theorem zq40 {p:Prop} (h:p:=by
 refine wpAnyH_done kZ ?_ _;clear hS0 HS1 hS1 HLOW HHIGH hcmp HX HY HK0 HR HC HBV hnp hnq;go_wp2
 go_roundw
 case rel=>exact⟨h+1,j,by omega,by omega,hjb,by go_num,rfl,HQ.o,HRV.o,HCV.o⟩
 case measure=>simp [intOf];omega):p:=h
theorem zq41 {p:Prop} (h:p:=by
 have HZ:=qh (HN.o rfl);clear HY HN
 go_wp2_with (go_at_call 273;refine (a6s _ _).mono ?_;rintro e w' ⟨rfl,rfl⟩)
 go_round
 case rel=>exact⟨m+1+1,by omega,by go_num,by rw [HZ.o]⟩
 case measure=>simp [intOf];omega):p:=h
theorem zq42 {p:Prop} (h:p:=by
 refine wpAnyH_done kZ ?_ _;clear hS0 HS1 hS1 HLOW HHIGH hcmp HX HY HK0 HR HC HBV hnp hnq;go_wp2
 go_roundw
 case rel=>exact⟨i,h,hi1,hh1,by omega,rfl,rfl,HQ.o,HRV.o,HCV.o⟩
 case measure=>simp [intOf];omega):p:=h
theorem zq43 {p:Prop} (h:p:=by
 clear hown' hgrow;go_wp2
 go_roundw
 case rel=>
  repeat apply Exists.intro
  refine⟨?_,rfl⟩;exact⟨j+1,by omega,by go_num,by rw [HSN.o,HPA.o];exact R.o.1,R.o.2⟩
 case measure=>simp [intOf];omega):p:=h
theorem zq44 {p:Prop} (h:p:=by
 left
 have:=P.c0n (l:=l) (j:=j-1) oZ (by rw [show j-1+1=j by omega];exact HR.o) (by simpa [show j-1+1=j by omega] using hc)
 rwa [show j-1+2=j+1 by omega]at this):p:=h
theorem zq45 {p:Prop} (h:p:=by
 revert HRn;revert HLn;revert yc;revert ya;revert xc;revert xa;revert b3;revert b2;revert v9;exact k1011):p:=h
theorem zq46 {p:Prop} (h:p:=by
 revert HRn;revert HLn;revert yc;revert ya;revert xc;revert xa;revert b3;revert b1;revert v9;exact k1101):p:=h
theorem zq47 {p:Prop} (h:p:=by
 revert HRn;revert HLn;revert yc;revert ya;revert xc;revert xa;revert b2;revert b1;revert v9;exact k1110):p:=h
theorem zq48 {p:Prop} (h:p:=by
 obtain⟨ad,cap,h1,_,hn,h3⟩:=h
 cases ad with
 |none=>
  left
  rcases h3 with rfl|⟨_,_,h,_⟩
  ·rw [h1,hn rfl];rfl
  ·cases h
 |some a=>exact .inr ⟨a,_,_,h1⟩):p:=h
theorem zq49 {p:Prop} (h:p:=by
 clear hj
 go_enter Tryz.func143,Tryz.ntmps143
 go_wp2_with (go_at_call 214;refine (c9s _ _ oZ).mono ?_;rintro e w' ⟨rfl,rfl⟩)
 go_ret2;exact⟨by rw [HJ.o];rfl,Below.refl _ _⟩):p:=h
theorem zq50 {p:Prop} (h:p:=by
 have hj':j<l.length:=by simpa using hj
 have e:=World.ownsRow.cellAt h j oZ;rw [List.getElem?_eq_getElem hj]at e;rw [Nat.zero_add];exact⟨e,World.ownsRow.frozenAt h j⟩):p:=h
theorem zq51 {p:Prop} (h:p:=by
 subst h';go_wp2
 go_roundw
 case rel=>exact⟨j+1,st,sc,d,p,n,_,_,by omega,by go_num,rfl,HOK.o,by have:=HNJ.o;omega,HI5.o⟩
 case measure=>simp [intOf];omega):p:=h
theorem zq52 {p:Prop} (h:p:=by
 rw [List.length_append]
 show _=flat _ l.length++(if l.length=l.length then cs else C l.length)
 rw [if_pos rfl,h0]
 congr 1
 exact b4l fun j hj=>(if_neg oZ).symm):p:=h
theorem zq53 {p:Prop} (h:p:=by
 go_wp2
 go_roundw
 case rel=>exact⟨j+1,_,true,by omega,by go_num,by first|rfl|(simp;rfl),rfl,HZ.o,by first|trivial|rfl⟩
 case measure=>simp [intOf];omega):p:=h
theorem zq54 {p:Prop} (h:p:=by
 obtain⟨h1,_⟩:=a2u h;unfold scr at h1
 cases q:(dic d&&a1t t.1)
 ·rw [q]at h1;exact absurd h1 sZ
 ·simp only [Bool.and_eq_true]at q;exact q.1):p:=h
theorem zq55 {p:Prop} (h:p:=by
 go_wp2;go_ret;exact⟨a0b HF.o.symm,bZ.alloc lZ _⟩):p:=h
theorem zq56 {p:Prop} (h:p:=by
 go_wp2;go_ret;exact⟨(by first|(rw [HF.o];done)|(rw [HF.o];rfl)),HB.o⟩):p:=h
theorem zq57 {p:Prop} (h:p:=by
 rw [hq]at HO9 HD hc4 hst60;have HST0:=qh hq;clear hq;go_wp2;go_meet;rw [HNN.o,HNL.o,HST0.o];exact⟨a4,c4,rfl,HO9.o.2,fun k h=>(HD.o k h).2,rfl⟩):p:=h
theorem zq58 {p:Prop} (h:p:=by
 intro j
 by_cases hj:j<l.length
 ·obtain⟨x,h1,h2⟩:=hr.el j hj;exact⟨x,fun _=>⟨h1,h2⟩⟩
 ·exact⟨.int .i64 0,fun h=>absurd h hj⟩):p:=h
theorem zq59 {p:Prop} (h:p:=by
 go_enter Tryz.func253,Tryz.ntmps253
 go_wp2
 all_goals
  go_ret
  exact⟨a0b (by simp [P.atom, *,Bool.or_assoc]),bZ.alloc lZ _⟩):p:=h
theorem zq60 {p:Prop} (h:p:=by
 have hlb:=HRL.o
 cases lb
 ·obtain⟨rfl,rfl,rfl⟩:=HLL2.o rfl;go_wp2;go_meet;exact⟨rfl,rfl⟩
 ·go_wp2;go_meet;exact⟨rfl,rfl⟩):p:=h
theorem zq61 {p:Prop} (h:p:=by
 go_wp2
 go_roundw
 case rel=>exact⟨j+1,m2,by omega,.inl oZ,by go_num,HP.o,HSO.o,HRV.o,HCV.o⟩
 case measure=>simp [intOf];omega):p:=h
theorem zq62 {p:Prop} (h:p:=by
 have HP:=qh (show P.place o l = -1 from P.b0a fun k hk=>HN.o k oZ hk);clear hb;go_wp2;go_ret;exact⟨a4c HP.o.symm,HB.o⟩):p:=h
theorem zq63 {p:Prop} (h:p:=by
 clear hown hgr hf' hse HOW HLT HK HKE HPE HG HB1;go_wp2
 go_roundw
 case rel=>exact⟨_,a+k,f',by go_num,HG4.o⟩
 case measure=>simp [intOf];omega):p:=h
theorem zq64 {p:Prop} (h:p:=by
 go_wp2
 go_roundw
 case rel=>exact⟨0+1,by decide,rfl,fun _=>NE.o,fun h=>absurd h dZ,HTV.o,HRV.o,HV.o⟩
 case measure=>decide):p:=h
theorem zq65 {p:Prop} (h:p:=by
 go_wp2
 go_roundw
 case rel=>exact⟨1+1,by decide,rfl,fun _=>hb0 dZ,fun _=>NE.o,HTV.o,HRV.o,HV.o⟩
 case measure=>decide):p:=h
theorem zq66 {p:Prop} (h:p:=by
 go_round
 case rel=>exact⟨j+1,by omega,by go_num,by rw [HSN.o,List.all_append,HA.o];simp [HX.o]⟩
 case measure=>simp [intOf];omega):p:=h
theorem zq67 {p:Prop} (h:p:=by
 have HX:=qh hx;have HS:=qh hs;have HC:=qh hc;clear hx hs hc;go_wp2;go_meet;exact⟨r,ok,rfl,rfl,HX.o,HS.o,HC.o⟩):p:=h
theorem zq68 {p:Prop} (h:p:=by
 rw [List.pairwise_iff_getElem];intro i j hi hj hij x h1 h2;simp only [List.getElem_ofFn]at h1 h2;exact hr.apart i j hij (by simpa using hj) x h1 h2):p:=h
theorem zq69 {p:Prop} (h:p:=by
 by_cases h:a=b
 ·subst h;simp
 ·rw [beq_eq_false_iff_ne.2 h,beq_eq_false_iff_ne];intro e;exact h (UInt8.toNat_inj.1 oZ)):p:=h
theorem zq70 {p:Prop} (h:p:=by
 refine Nat.le_of_not_lt fun hlt=>h ?_;have:=Nat.mul_le_mul_right t (show i+1≤q from hlt);rw [Nat.add_mul,Nat.one_mul]at this;omega):p:=h
theorem zq71 {p:Prop} (h:p:=by
 go_wp2_with (go_at_call 273;refine (a6s _ _).mono ?_;rintro e w' ⟨rfl,rfl⟩)
 go_meet;exact⟨_,rfl,by rw [HCY.o];rfl,rfl⟩):p:=h
theorem zq72 {p:Prop} (h:p:=by
 exact run_append_own (P:=P) w base t ty e i z size bytes ht hi hz hsize hby hzs hsz v n xs hown ad m c news hl hnews h1 h63 hbytes hbase):p:=h
theorem zq73 {p:Prop} (h:p:=by
 go_wp2
 first|go_end0|(refine bodyPost_ret (results_none rfl _ _ _) rfl ?_)
 exact⟨rfl,n,HSO.o.1,HSO.o.2,HR2.o,HC2.o⟩):p:=h
theorem zq74 {p:Prop} (h:p:=by
 rintro e w2 ⟨s,_,rfl,hc⟩;have H2:=qh (HC2.o.trans hc);clear hc;go_wp2;go_ret;exact⟨s,rfl,H2.o.mono oZ⟩):p:=h
theorem zq75 {p:Prop} (h:p:=by
 obtain⟨rfl,rfl⟩:=hrel;go_wp2
 first|go_end0|(refine bodyPost_ret (results_none rfl _ _ _) rfl ?_)
 exact⟨rfl,HB.o⟩):p:=h
theorem zq76 {p:Prop} (h:p:=by
 go_wp2
 go_round
 case rel=>exact⟨k+1,by omega,by go_num,a8k k hlt HA.o HL.o⟩
 case measure=>simp [intOf];omega):p:=h
theorem zq77 {p:Prop} (h:p:=by
 rintro e w2 ⟨rfl,hb2⟩;have HBF:=qh (HB.o.trans (hb2.mono HBZ.o));clear hb2;go_wp2
 go_end0
 exact⟨rfl,HBF.o⟩):p:=h
theorem zq78 {p:Prop} (h:p:=by
 go_wp2;go_ret;exact⟨a0b (by rw [HF.o];rfl),HB.o⟩):p:=h
theorem zq79 {p:Prop} (h:p:=by
 rcases h.owns.2 with⟨rfl,h0⟩|⟨g,cap,cur,hv,_⟩
 ·exact⟨none,0,by rw [h0]⟩
 ·exact⟨_,cap,hv⟩):p:=h
theorem zq80 {p:Prop} (h:p:=by
 refine (Tryz.slices_Equal_int_empty _ _ _ _ _ w sZ).mono ?_;rintro e w' ⟨rfl,rfl⟩;exact⟨rfl,Below.refl _ _⟩):p:=h
theorem zq81 {p:Prop} (h:p:=by
 go_wp2
 go_round
 case rel=>exact⟨k+1,by omega,by go_num,by rw [HSN.o];rfl⟩
 case measure=>simp [intOf];omega):p:=h
theorem zq82 {p:Prop} (h:p:=by
 have HPP:=qh (HP.o heo);rw [decide_eq_true heo];clear heo;go_wp2;go_ret;exact⟨a4c HPP.o.symm,HB1.o⟩):p:=h
theorem zq83 {p:Prop} (h:p:=by
 rcases h.2 with⟨rfl,h0⟩|⟨g,cap,cur,rfl,_⟩
 ·exact⟨none,0,by rw [h0]⟩
 ·exact⟨_,_,rfl⟩):p:=h
theorem zq84 {p:Prop} (h:p:=by
 simp only [Value.ownBlock,Option.some.injEq]at h';subst h'
 rcases hat with h''|h''
 ·exact h5.2.2 h''
 ·omega):p:=h
theorem zq85 {p:Prop} (h:p:=by
 by_cases v1:a<r
 ·by_cases v2:r<c
  ·skip;have va:(a:Int)<(r:Int):=by omega
   have vb:(r:Int)<(c:Int):=by omega
   by_cases x1:c<en
   ·by_cases x2:en<b
    ·skip;have xa:(c:Int)<(en:Int):=by omega
     have xb:(en:Int)<(b:Int):=by omega
     have HM1:=qh ((a1g.refl its).congr (h:=roIx r m en) fun k=>(a6c oZ hr4 hr3 k).symm);have HR1:=qh HR.o;have HC1:=qh HC.o;obtain⟨hp1,hsp,hsa,hsb,hsc,hsd⟩:=HDONE.o _ HM1.o;have HP1:=qh hp1;have HSP:=qh hsp;have HSA:=qh hsa;have HSB:=qh hsb;have HSC:=qh hsc;have HSD:=qh hsd;clear hp1 hsp hsa hsb hsc hsd;have hcall:=HI.o its F g o cap a r c wr HBL.o.1 HR1.o oZ v1 v2 oZ HSA.o HSB.o;have HCALL2:=qh hcall;clear hcall
     go_wp2_with fail
     refine HCALL2.o.mono ?_;rintro e w2 ⟨rfl,n2,hp2,hs2,hrr,hcc⟩;have HR2:=qh hrr;have HC2:=qh (HC1.o.trans hcc);have HP2:=qh hp2;have HT2:=qh hs2;have hln2:n2.length=its.length:=hp2.len;clear hrr hcc hp2 hs2 HCALL2;have hcall:=HI.o n2 F g o cap c en b w2 HBL.o.2 HR2.o oZ x1 x2 oZ (HSC.o.same HP2.o (.inr lZ)) (HSD.o.same HP2.o (.inr oZ));rw [hln2]at hcall;exact zq95
    ·skip;have xa:(c:Int)<(en:Int):=by omega
     have xb:¬(en:Int)<(b:Int):=by omega
     have HM1:=qh ((a1g.refl its).congr (h:=roIx r m en) fun k=>(a6c oZ hr4 hr3 k).symm);have HR1:=qh HR.o;have HC1:=qh HC.o;obtain⟨hp1,hsp,hsa,hsb,hsc,hsd⟩:=HDONE.o _ HM1.o;have HP1:=qh hp1;have HSP:=qh hsp;have HSA:=qh hsa;have HSB:=qh hsb;have HSC:=qh hsc;have HSD:=qh hsd;clear hp1 hsp hsa hsb hsc hsd;have hcall:=HI.o its F g o cap a r c wr HBL.o.1 HR1.o oZ v1 v2 oZ HSA.o HSB.o;have HCALL2:=qh hcall;clear hcall
     go_wp2_with fail
     refine HCALL2.o.mono ?_;rintro e w2 ⟨rfl,n2,hp2,hs2,hrr,hcc⟩;have HR2:=qh hrr;have HC2:=qh (HC1.o.trans hcc);have HP2:=qh hp2;have HT2:=qh hs2;have hln2:n2.length=its.length:=hp2.len;clear hrr hcc hp2 hs2 HCALL2;have HP3:=qh (a0i.refl c b n2)
     have HT3:=qh (show a0a c b n2 from by
      have e1:en=b:=by omega
      have k:=HSC.o.same HP2.o (.inr lZ);rw [e1]at k;exact k)
     exact zq97
   ·skip;have xa:¬(c:Int)<(en:Int):=by omega
    have HM1:=qh ((a1g.refl its).congr (h:=roIx r m en) fun k=>(a6c oZ hr4 hr3 k).symm);have HR1:=qh HR.o;have HC1:=qh HC.o;obtain⟨hp1,hsp,hsa,hsb,hsc,hsd⟩:=HDONE.o _ HM1.o;have HP1:=qh hp1;have HSP:=qh hsp;have HSA:=qh hsa;have HSB:=qh hsb;have HSC:=qh hsc;have HSD:=qh hsd;clear hp1 hsp hsa hsb hsc hsd;have hcall:=HI.o its F g o cap a r c wr HBL.o.1 HR1.o oZ v1 v2 oZ HSA.o HSB.o;have HCALL2:=qh hcall;clear hcall
    go_wp2_with fail
    refine HCALL2.o.mono ?_;rintro e w2 ⟨rfl,n2,hp2,hs2,hrr,hcc⟩;have HR2:=qh hrr;have HC2:=qh (HC1.o.trans hcc);have HP2:=qh hp2;have HT2:=qh hs2;have hln2:n2.length=its.length:=hp2.len;clear hrr hcc hp2 hs2 HCALL2;have HP3:=qh (a0i.refl c b n2)
    have HT3:=qh (show a0a c b n2 from by
     have e1:en=c:=by omega
     have k:=HSD.o.same HP2.o (.inr oZ);rw [e1]at k;exact k)
    exact zq97
  ·skip;have va:(a:Int)<(r:Int):=by omega
   have vb:¬(r:Int)<(c:Int):=by omega
   by_cases x1:c<en
   ·by_cases x2:en<b
    ·skip;have xa:(c:Int)<(en:Int):=by omega
     have xb:(en:Int)<(b:Int):=by omega
     have HM1:=qh ((a1g.refl its).congr (h:=roIx r m en) fun k=>(a6c oZ hr4 hr3 k).symm);have HR1:=qh HR.o;have HC1:=qh HC.o;obtain⟨hp1,hsp,hsa,hsb,hsc,hsd⟩:=HDONE.o _ HM1.o;have HP1:=qh hp1;have HSP:=qh hsp;have HSA:=qh hsa;have HSB:=qh hsb;have HSC:=qh hsc;have HSD:=qh hsd;clear hp1 hsp hsa hsb hsc hsd;have HP2:=qh (a0i.refl a c its)
     have HT2:=qh (show a0a a c its from by
      have e1:r=c:=by omega
      rw [e1]at HSA;exact HSA.o)
     exact zq103
    ·skip;have xa:(c:Int)<(en:Int):=by omega
     have xb:¬(en:Int)<(b:Int):=by omega
     have HM1:=qh ((a1g.refl its).congr (h:=roIx r m en) fun k=>(a6c oZ hr4 hr3 k).symm);have HR1:=qh HR.o;have HC1:=qh HC.o;obtain⟨hp1,hsp,hsa,hsb,hsc,hsd⟩:=HDONE.o _ HM1.o;have HP1:=qh hp1;have HSP:=qh hsp;have HSA:=qh hsa;have HSB:=qh hsb;have HSC:=qh hsc;have HSD:=qh hsd;clear hp1 hsp hsa hsb hsc hsd;have HP2:=qh (a0i.refl a c its)
     have HT2:=qh (show a0a a c its from by
      have e1:r=c:=by omega
      rw [e1]at HSA;exact HSA.o)
     exact zq101
   ·skip;have xa:¬(c:Int)<(en:Int):=by omega
    have HM1:=qh ((a1g.refl its).congr (h:=roIx r m en) fun k=>(a6c oZ hr4 hr3 k).symm);have HR1:=qh HR.o;have HC1:=qh HC.o;obtain⟨hp1,hsp,hsa,hsb,hsc,hsd⟩:=HDONE.o _ HM1.o;have HP1:=qh hp1;have HSP:=qh hsp;have HSA:=qh hsa;have HSB:=qh hsb;have HSC:=qh hsc;have HSD:=qh hsd;clear hp1 hsp hsa hsb hsc hsd;have HP2:=qh (a0i.refl a c its)
    have HT2:=qh (show a0a a c its from by
     have e1:r=c:=by omega
     rw [e1]at HSA;exact HSA.o)
    exact zq102
 ·skip;have va:¬(a:Int)<(r:Int):=by omega
  by_cases x1:c<en
  ·by_cases x2:en<b
   ·skip;have xa:(c:Int)<(en:Int):=by omega
    have xb:(en:Int)<(b:Int):=by omega
    have HM1:=qh ((a1g.refl its).congr (h:=roIx r m en) fun k=>(a6c oZ hr4 hr3 k).symm);have HR1:=qh HR.o;have HC1:=qh HC.o;obtain⟨hp1,hsp,hsa,hsb,hsc,hsd⟩:=HDONE.o _ HM1.o;have HP1:=qh hp1;have HSP:=qh hsp;have HSA:=qh hsa;have HSB:=qh hsb;have HSC:=qh hsc;have HSD:=qh hsd;clear hp1 hsp hsa hsb hsc hsd;have HP2:=qh (a0i.refl a c its)
    have HT2:=qh (show a0a a c its from by
     have e1:r=a:=by omega
     rw [e1]at HSB;exact HSB.o)
    exact zq103
   ·skip;have xa:(c:Int)<(en:Int):=by omega
    have xb:¬(en:Int)<(b:Int):=by omega
    have HM1:=qh ((a1g.refl its).congr (h:=roIx r m en) fun k=>(a6c oZ hr4 hr3 k).symm);have HR1:=qh HR.o;have HC1:=qh HC.o;obtain⟨hp1,hsp,hsa,hsb,hsc,hsd⟩:=HDONE.o _ HM1.o;have HP1:=qh hp1;have HSP:=qh hsp;have HSA:=qh hsa;have HSB:=qh hsb;have HSC:=qh hsc;have HSD:=qh hsd;clear hp1 hsp hsa hsb hsc hsd;have HP2:=qh (a0i.refl a c its)
    have HT2:=qh (show a0a a c its from by
     have e1:r=a:=by omega
     rw [e1]at HSB;exact HSB.o)
    exact zq101
  ·skip;have xa:¬(c:Int)<(en:Int):=by omega
   have HM1:=qh ((a1g.refl its).congr (h:=roIx r m en) fun k=>(a6c oZ hr4 hr3 k).symm);have HR1:=qh HR.o;have HC1:=qh HC.o;obtain⟨hp1,hsp,hsa,hsb,hsc,hsd⟩:=HDONE.o _ HM1.o;have HP1:=qh hp1;have HSP:=qh hsp;have HSA:=qh hsa;have HSB:=qh hsb;have HSC:=qh hsc;have HSD:=qh hsd;clear hp1 hsp hsa hsb hsc hsd;have HP2:=qh (a0i.refl a c its)
   have HT2:=qh (show a0a a c its from by
    have e1:r=a:=by omega
    rw [e1]at HSB;exact HSB.o)
   exact zq102):p:=h
theorem zq86 {p:Prop} (h:p:=by
 exact zq95):p:=h
theorem zq87 {p:Prop} (h:p:=by
 exact zq97):p:=h
theorem zq88 {p:Prop} (h:p:=by
 have HR3:=qh HR2.o;have HC3:=qh HC2.o;have HJ:=qh (merge_join HP1.o HSP.o HP2.o HT2.o HP3.o HT3.o (Nat.le_of_lt hmd1) (Nat.le_of_lt hmd2));go_wp2
 first|go_end0|(refine bodyPost_ret (results_none rfl _ _ _) rfl ?_)
 exact⟨rfl,n1,HJ.o.1,HJ.o.2,HR3.o,HC3.o⟩):p:=h
theorem zq89 {p:Prop} (h:p:=by
 rintro e w2 hmp;obtain⟨x,ok,rfl,hx,hs,hc⟩:=hmp.after HB1.o;have HX:=qh hx;have HS:=qh hs;have HC:=qh hc;clear hmp hx hs hc;exact zq13):p:=h
theorem zq90 {p:Prop} (h:p:=by
 go_enter Tryz.func70,Tryz.ntmps70
 go_wp2_with fail
 refine (b0i lo B l st sc d p n word more _ HSM.o hm HT.o hl HE.o).mono ?_;exact zq11):p:=h
theorem zq91 {p:Prop} (h:p:=by
 intro i y hy
 match i,hy with
 |0,hy=>injection hy with hy;subst hy;rw [add0];go_simp
 |1,hy=>injection hy with hy;subst hy;rw [add0];go_simp):p:=h
theorem zq92 {p:Prop} (h:p:=by
 intro y hy;simp only [List.mem_cons,List.not_mem_nil,or_false]at hy
 rcases hy with rfl|rfl<;>rfl):p:=h
theorem zq93 {p:Prop} (h:p:=by
 exact ((H2.o.set (g:=w.heap.size) (i:=0) lZ hlt.2 oZ _).set (g:=w.heap.size) (i:=1) lZ hlt.2 oZ _).mono oZ):p:=h
theorem zq94 {p:Prop} (h:p:=by
 go_wp2
 go_roundw
 case rel=>exact⟨h+1,by omega,by omega,by go_num,rfl,HB2.o⟩
 case measure=>simp [intOf];omega):p:=h
theorem zq95 {p:Prop} (h:p:=by
 have HCALL3:=qh hcall;clear hcall
 go_wp2_with fail
 refine HCALL3.o.mono ?_;rintro e w3 ⟨rfl,n3,hp3,hs3,hrr,hcc⟩;have HR3:=qh hrr;have HC3:=qh (HC2.o.trans hcc);have HP3:=qh hp3;have HT3:=qh hs3;clear hrr hcc hp3 hs3 HCALL3;have HJ:=qh (merge_join HP1.o HSP.o HP2.o HT2.o HP3.o HT3.o (Nat.le_of_lt hmd1) (Nat.le_of_lt hmd2));go_wp2
 first|go_end0|(refine bodyPost_ret (results_none rfl _ _ _) rfl ?_)
 exact⟨rfl,n3,HJ.o.1,HJ.o.2,HR3.o,HC3.o⟩):p:=h
theorem zq96 {p:Prop} (h:p:=by
 have HR3:=qh HR2.o;have HC3:=qh HC2.o;have HJ:=qh (merge_join HP1.o HSP.o HP2.o HT2.o HP3.o HT3.o (Nat.le_of_lt hmd1) (Nat.le_of_lt hmd2));go_wp2
 first|go_end0|(refine bodyPost_ret (results_none rfl _ _ _) rfl ?_)
 exact⟨rfl,its,HJ.o.1,HJ.o.2,HR3.o,HC3.o⟩):p:=h
theorem zq97 {p:Prop} (h:p:=by
 have HR3:=qh HR2.o;have HC3:=qh HC2.o;have HJ:=qh (merge_join HP1.o HSP.o HP2.o HT2.o HP3.o HT3.o (Nat.le_of_lt hmd1) (Nat.le_of_lt hmd2));go_wp2
 first|go_end0|(refine bodyPost_ret (results_none rfl _ _ _) rfl ?_)
 exact⟨rfl,n2,HJ.o.1,HJ.o.2,HR3.o,HC3.o⟩):p:=h
theorem zq98 {p:Prop} (h:p:=by
 have HR2:=qh HR1.o;have HC2:=qh HC1.o;have hln2:n1.length=its.length:=hln1;have HP3:=qh (a0i.refl c b n1)
 have HT3:=qh (show a0a c b n1 from by
  have e1:en=b:=by omega
  have k:=HSC.o.same HP2.o (.inr lZ);rw [e1]at k;exact k)
 exact zq88):p:=h
theorem zq99 {p:Prop} (h:p:=by
 have HR2:=qh HR1.o;have HC2:=qh HC1.o;have hln2:n1.length=its.length:=hln1;have HP3:=qh (a0i.refl c b n1)
 have HT3:=qh (show a0a c b n1 from by
  have e1:en=c:=by omega
  have k:=HSD.o.same HP2.o (.inr oZ);rw [e1]at k;exact k)
 exact zq88):p:=h
theorem zq100 {p:Prop} (h:p:=by
 have HR2:=qh HR1.o;have HC2:=qh HC1.o;have hln2:n1.length=its.length:=hln1;have hcall:=HI.o n1 F g o cap c en b w1 HBL.o.2 HR2.o oZ x1 x2 oZ (HSC.o.same HP2.o (.inr lZ)) (HSD.o.same HP2.o (.inr oZ));rw [hln2]at hcall;exact zq86):p:=h
theorem zq101 {p:Prop} (h:p:=by
 have HR2:=qh HR1.o;have HC2:=qh HC1.o;have HP3:=qh (a0i.refl c b its)
 have HT3:=qh (show a0a c b its from by
  have e1:en=b:=by omega
  have k:=HSC.o.same HP2.o (.inr lZ);rw [e1]at k;exact k)
 exact zq96):p:=h
theorem zq102 {p:Prop} (h:p:=by
 have HR2:=qh HR1.o;have HC2:=qh HC1.o;have HP3:=qh (a0i.refl c b its)
 have HT3:=qh (show a0a c b its from by
  have e1:en=c:=by omega
  have k:=HSD.o.same HP2.o (.inr oZ);rw [e1]at k;exact k)
 exact zq96):p:=h
theorem zq103 {p:Prop} (h:p:=by
 have HR2:=qh HR1.o;have HC2:=qh HC1.o;have hcall:=HI.o its F g o cap c en b wr HBL.o.2 HR2.o oZ x1 x2 oZ (HSC.o.same HP2.o (.inr lZ)) (HSD.o.same HP2.o (.inr oZ));exact zq95):p:=h
end Go.Proofs.YtggfdnopminemaaGreatDoor
