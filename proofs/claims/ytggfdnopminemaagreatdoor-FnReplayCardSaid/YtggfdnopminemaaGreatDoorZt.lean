/- Steps of walks that. -/
import Derived.WalkKit
import Derived.LoopTactic
import Derived.Lib.Hide
import Derived.WalkSpells
import Derived.WalkLawsBesides
import Derived.Deep.QuietTactic
import Derived.BigQuiet
import Derived.Deep.RegionHeld3
import Derived.Lib.SlTrimSet
import Derived.Lib.Bytealg
import Derived.Lib.Split
import Derived.Deep.DeepCutAuto
import Derived.Laws.IdiomStrings
import Derived.Shelf.Strings.SlTrimAscii
import Derived.Deep.RegionHeld
import Derived.Deep.AppendLies
import Derived.Deep.RegionLaw
import Derived.IntWalk
import Derived.Laws.Bits64b
import Derived.BigRegion
import Derived.ProofKit
import Derived.OpenShut
import Derived.Deep.DeepHandedRow
import Derived.Lib.LaidTab
import Derived.Lib.SmallJoins
import Derived.ChangeSlices
import Derived.Deep.Slices
import Derived.Deep.Fields
import Derived.RegionTactic
import Derived.Lib.Join
import Derived.Lib.Replace
import Derived.Laws.OwnMore
import Derived.Laws.BitsLemmas
import Derived.Deep.CutBlock
import Derived.Lib.ItoaLen
import Derived.Lib.AtoiTie
import Derived.Lib.Strings
import Derived.Test.YtggfdnopminemaaGreatDoorProg
set_option linter.all false
namespace Go.Proofs.YtggfdnopminemaaGreatDoor
open Go.Proofs.Tryz
open Go Go.RowKit
variable {a a':Go.Act} {f n:Nat} {p q:Prop} {v:Go.Value} {w:Go.World}
abbrev Bl (w:World):=Below w.heap.size w
abbrev Cz:=Calls Tryz.prog
theorem kc {α:Type _} {a b:α} (h:a=b:=by kernel_rfl):some a=some b:=congrArg some h
theorem zq {p:Prop} (h:p:=by simp [intOf];omega):p:=h
structure Hq (p:Prop):Prop where
 o:p
theorem qh (h:p):Hq p:=⟨h⟩
theorem qA {α:Type} {xs:List α} {i:Nat} (h:i<xs.toArray.size):xs.toArray[i]=xs[i]'(by simpa using h):=List.getElem_toArray h
theorem qB {α:Type} (a:α) (l:List α) (h:0<(a::l).length):getElem (a::l) 0 h=a:=rfl
theorem qC {α:Type} (a:α) (l:List α) (i:Nat) (h:i+1<(a::l).length):getElem (a::l) (i+1) h=getElem l i (Nat.lt_of_succ_lt_succ h):=rfl
theorem qD {α:Type} (l:List α) (i:Nat) (a:α):l.toArray.setIfInBounds i a=(l.set i a).toArray:=List.setIfInBounds_toArray ..
theorem qE {α:Type} (x:α) (xs:List α) (a:α):(x::xs).set 0 a=a::xs:=rfl
theorem qF {α:Type} (x:α) (xs:List α) (i:Nat) (a:α):(x::xs).set (i+1) a=x::xs.set i a:=rfl
theorem zE {α:Type _} {a b:α} (h:a=b:=by first|(simp only [qA,qB,qC,Act.put,qD,qE,qF];rfl)|rfl):a=b:=h
theorem zg {p:Prop} (h:p:=by first|(go_simp;rfl)|(go_simp;repeat rw [if_pos (by first|omega|assumption)];rfl)|(go_simp;done)):p:=h
abbrev Qp (Q:Exit->Act->World->Prop) (o:Oper) (v:Value):=∀c a w,Q (.panic c) (a.put o.dst v) w->Q (.panic c) a w
abbrev Rg (md:Region.Mode) (ops:Array Oper) (b:Array Bool) (i:Nat):=Region.noSelect ops=true/\Region.free md ops b i=true/\(Region.ready md ops b).contains i=true
theorem rG {ops:Array Oper} {b:Array Bool} {md:Region.Mode} {i:Nat} (hs:Region.noSelect ops=true:=by kernel_rfl) (hf:Region.free md ops b i=true:=by kernel_rfl) (hr:(Region.ready md ops b).contains i=true:=by kernel_rfl):Rg md ops b i:=⟨hs,hf,hr⟩
theorem oZ (h:p:=by omega):p:=h
theorem sZ (h:p:=by simp):p:=h
theorem dZ (h:p:=by decide):p:=h
theorem kZ (h:p:=by kernel_rfl):p:=h
theorem lZ:n<=n:=Nat.le_refl n
theorem bZ:Below n w w:=Below.refl n w
theorem bt {v v':World} (h:Hq (Bl w v)) (hb:Bl v v'):Hq (Bl w v'):=⟨h.o.trans (hb.mono h.o.size)⟩
section
variable {P:Program} {ops:Array Oper} {Q:Exit->Act->World->Prop} {md:Region.Mode} {S:World->Prop}
theorem tk0 (i:Nat) {o:Oper} {b b':Array Bool} (hS:S w) (h:wpAnyH P md ops Q S f b' a' w) (hi:ops[i]?=some o:=by rfl) (hs:Rg md ops b i:=by exact rG) (hg:Region.wanted o (yielded ops a.tmps)=true:=by rfl) (hy:∀z,S z->(execOp a.eval o).run P z=.ok (.value v) z:=by (intro z hz;obtain⟨z1,z2,z3,z4⟩:=hz;exact zg)) (hQ:Qp Q o v:=by exact λ_ _ _ h=>h) (eb:b.setIfInBounds i true=b':=by exact zE) (ea:a.put o.dst v=a':=by exact zE):wpAnyH P md ops Q S (f+1) b a w:=by subst eb ea;exact wpAnyH_take hi hs.1 hs.2.1 hs.2.2 hQ (Or.inl ⟨hg,hy⟩) hS h
theorem tk1 (i:Nat) {o:Oper} {b b':Array Bool} (hS:S w) (h:wpAnyH P md ops Q S f b' a' w) (hi:ops[i]?=some o:=by rfl) (hs:Rg md ops b i:=by exact rG) (hg:Region.wanted o (yielded ops a.tmps)=true:=by rfl) (hy:∀z,S z->(execOp a.eval o).run P z=.ok (.value v) z:=by (intro z hz;obtain⟨z1,z2,z3,z4,z5,z6⟩:=hz;exact zg)) (hQ:Qp Q o v:=by exact λ_ _ _ h=>h) (eb:b.setIfInBounds i true=b':=by exact zE) (ea:a.put o.dst v=a':=by exact zE):wpAnyH P md ops Q S (f+1) b a w:=by subst eb ea;exact wpAnyH_take hi hs.1 hs.2.1 hs.2.2 hQ (Or.inl ⟨hg,hy⟩) hS h
theorem tk2 (i:Nat) {o:Oper} {b b':Array Bool} (hS:S w) (h:wpAnyH P md ops Q S f b' a' w) (hi:ops[i]?=some o:=by rfl) (hs:Rg md ops b i:=by exact rG) (hg:Region.wanted o (yielded ops a.tmps)=true:=by rfl) (hy:∀z,S z->(execOp a.eval o).run P z=.ok (.value v) z:=by (intro z hz;obtain⟨⟨z0,z1,z2,z3,z4,z5,z6⟩,_⟩:=hz;exact zg)) (hQ:Qp Q o v:=by exact λ_ _ _ h=>h) (eb:b.setIfInBounds i true=b':=by exact zE) (ea:a.put o.dst v=a':=by exact zE):wpAnyH P md ops Q S (f+1) b a w:=by subst eb ea;exact wpAnyH_take hi hs.1 hs.2.1 hs.2.2 hQ (Or.inl ⟨hg,hy⟩) hS h
theorem tk3 (i:Nat) {o:Oper} {b b':Array Bool} (hS:S w) (h:wpAnyH P md ops Q S f b' a' w) (hi:ops[i]?=some o:=by rfl) (hs:Rg md ops b i:=by exact rG) (hg:Region.wanted o (yielded ops a.tmps)=true:=by rfl) (hy:∀z,S z->(execOp a.eval o).run P z=.ok (.value v) z:=by (intro z hz;obtain⟨z1,z2⟩:=hz;exact zg)) (hQ:Qp Q o v:=by exact λ_ _ _ h=>h) (eb:b.setIfInBounds i true=b':=by exact zE) (ea:a.put o.dst v=a':=by exact zE):wpAnyH P md ops Q S (f+1) b a w:=by subst eb ea;exact wpAnyH_take hi hs.1 hs.2.1 hs.2.2 hQ (Or.inl ⟨hg,hy⟩) hS h
theorem tk5 (i:Nat) {o:Oper} {b b':Array Bool} (hS:S w) (h:wpAnyH P md ops Q S f b' a' w) (hi:ops[i]?=some o:=by rfl) (hs:Rg md ops b i:=by exact rG) (hg:Region.wanted o (yielded ops a.tmps)=true:=by rfl) (hy:∀z,S z->(execOp a.eval o).run P z=.ok (.value v) z:=by (intro z hz;obtain⟨z1,z2,z3⟩:=hz;exact zg)) (hQ:Qp Q o v:=by exact λ_ _ _ h=>h) (eb:b.setIfInBounds i true=b':=by exact zE) (ea:a.put o.dst v=a':=by exact zE):wpAnyH P md ops Q S (f+1) b a w:=by subst eb ea;exact wpAnyH_take hi hs.1 hs.2.1 hs.2.2 hQ (Or.inl ⟨hg,hy⟩) hS h
theorem tk6 (i:Nat) {o:Oper} {b b':Array Bool} (hS:S w) (h:wpAnyH P md ops Q S f b' a' w) (hi:ops[i]?=some o:=by rfl) (hs:Rg md ops b i:=by exact rG) (hg:Region.wanted o (yielded ops a.tmps)=true:=by rfl) (hy:∀z,S z->(execOp a.eval o).run P z=.ok (.value v) z:=by (intro z hz;obtain⟨z1,z2,z3,z4,z5,z6,z7,z8,z9⟩:=hz;exact zg)) (hQ:Qp Q o v:=by exact λ_ _ _ h=>h) (eb:b.setIfInBounds i true=b':=by exact zE) (ea:a.put o.dst v=a':=by exact zE):wpAnyH P md ops Q S (f+1) b a w:=by subst eb ea;exact wpAnyH_take hi hs.1 hs.2.1 hs.2.2 hQ (Or.inl ⟨hg,hy⟩) hS h
theorem tk9 (i:Nat) {o:Oper} {b b':Array Bool} (hS:S w) (h:wpAnyH P md ops Q S f b' a' w) (hi:ops[i]?=some o:=by rfl) (hs:Rg md ops b i:=by exact rG) (hg:Region.wanted o (yielded ops a.tmps)=true:=by rfl) (hy:∀z,S z->(execOp a.eval o).run P z=.ok (.value v) z:=by (intro z hz;obtain⟨⟨⟨z0,z1,z2,z3,z4⟩,⟨y0,y1,y2,y3,y4⟩,yl⟩,_⟩:=hz;exact zg)) (hQ:Qp Q o v:=by exact λ_ _ _ h=>h) (eb:b.setIfInBounds i true=b':=by exact zE) (ea:a.put o.dst v=a':=by exact zE):wpAnyH P md ops Q S (f+1) b a w:=by subst eb ea;exact wpAnyH_take hi hs.1 hs.2.1 hs.2.2 hQ (Or.inl ⟨hg,hy⟩) hS h
theorem tk11 (i:Nat) {o:Oper} {b b':Array Bool} (hS:S w) (h:wpAnyH P md ops Q S f b' a' w) (hi:ops[i]?=some o:=by rfl) (hs:Rg md ops b i:=by exact rG) (hg:Region.wanted o (yielded ops a.tmps)=true:=by rfl) (hy:∀z,S z->(execOp a.eval o).run P z=.ok (.value v) z:=by (intro z hz;obtain⟨⟨b0,b1,b2,b3,b4⟩,_,_⟩:=hz;exact zg)) (hQ:Qp Q o v:=by exact λ_ _ _ h=>h) (eb:b.setIfInBounds i true=b':=by exact zE) (ea:a.put o.dst v=a':=by exact zE):wpAnyH P md ops Q S (f+1) b a w:=by subst eb ea;exact wpAnyH_take hi hs.1 hs.2.1 hs.2.2 hQ (Or.inl ⟨hg,hy⟩) hS h
theorem tk13 (i:Nat) {o:Oper} {b b':Array Bool} (hS:S w) (h:wpAnyH P md ops Q S f b' a' w) (hi:ops[i]?=some o:=by rfl) (hs:Rg md ops b i:=by exact rG) (hg:Region.wanted o (yielded ops a.tmps)=true:=by rfl) (hy:∀z,S z->(execOp a.eval o).run P z=.ok (.value v) z:=by (intro z hz;obtain⟨⟨⟨z0,z1,z2,z3,z4,z5,z6⟩,_⟩,za,zb,zc⟩:=hz;exact zg)) (hQ:Qp Q o v:=by exact λ_ _ _ h=>h) (eb:b.setIfInBounds i true=b':=by exact zE) (ea:a.put o.dst v=a':=by exact zE):wpAnyH P md ops Q S (f+1) b a w:=by subst eb ea;exact wpAnyH_take hi hs.1 hs.2.1 hs.2.2 hQ (Or.inl ⟨hg,hy⟩) hS h
theorem tk14 (i:Nat) {o:Oper} {b b':Array Bool} (hS:S w) (h:wpAnyH P md ops Q S f b' a' w) (hi:ops[i]?=some o:=by rfl) (hs:Rg md ops b i:=by exact rG) (hg:Region.wanted o (yielded ops a.tmps)=true:=by rfl) (hy:∀z,S z->(execOp a.eval o).run P z=.ok (.value v) z:=by (intro z hz;obtain⟨⟨⟨z0,z1,z2,z3,z4,z5,z6⟩,_⟩,z7,z8,z9⟩:=hz;exact zg)) (hQ:Qp Q o v:=by exact λ_ _ _ h=>h) (eb:b.setIfInBounds i true=b':=by exact zE) (ea:a.put o.dst v=a':=by exact zE):wpAnyH P md ops Q S (f+1) b a w:=by subst eb ea;exact wpAnyH_take hi hs.1 hs.2.1 hs.2.2 hQ (Or.inl ⟨hg,hy⟩) hS h
theorem tk15 (i:Nat) {o:Oper} {b b':Array Bool} (hS:S w) (h:wpAnyH P md ops Q S f b' a' w) (hi:ops[i]?=some o:=by rfl) (hs:Rg md ops b i:=by exact rG) (hg:Region.wanted o (yielded ops a.tmps)=true:=by rfl) (hy:∀z,S z->(execOp a.eval o).run P z=.ok (.value v) z:=by (intro z hz;obtain⟨_,b1,b2,_,_⟩:=hz;exact zg)) (hQ:Qp Q o v:=by exact λ_ _ _ h=>h) (eb:b.setIfInBounds i true=b':=by exact zE) (ea:a.put o.dst v=a':=by exact zE):wpAnyH P md ops Q S (f+1) b a w:=by subst eb ea;exact wpAnyH_take hi hs.1 hs.2.1 hs.2.2 hQ (Or.inl ⟨hg,hy⟩) hS h
theorem tk16 (i:Nat) {o:Oper} {b b':Array Bool} (hS:S w) (h:wpAnyH P md ops Q S f b' a' w) (hi:ops[i]?=some o:=by rfl) (hs:Rg md ops b i:=by exact rG) (hg:Region.wanted o (yielded ops a.tmps)=true:=by rfl) (hy:∀z,S z->(execOp a.eval o).run P z=.ok (.value v) z:=by (intro z hz;obtain⟨⟨z1,z2⟩,z3,z4,z5⟩:=hz;exact zg)) (hQ:Qp Q o v:=by exact λ_ _ _ h=>h) (eb:b.setIfInBounds i true=b':=by exact zE) (ea:a.put o.dst v=a':=by exact zE):wpAnyH P md ops Q S (f+1) b a w:=by subst eb ea;exact wpAnyH_take hi hs.1 hs.2.1 hs.2.2 hQ (Or.inl ⟨hg,hy⟩) hS h
theorem tk18 (i:Nat) {o:Oper} {b b':Array Bool} (hS:S w) (h:wpAnyH P md ops Q S f b' a' w) (hi:ops[i]?=some o:=by rfl) (hs:Rg md ops b i:=by exact rG) (hg:Region.wanted o (yielded ops a.tmps)=true:=by rfl) (hy:∀z,S z->(execOp a.eval o).run P z=.ok (.value v) z:=by (intro z hz;obtain z1:=hz;exact zg)) (hQ:Qp Q o v:=by exact λ_ _ _ h=>h) (eb:b.setIfInBounds i true=b':=by exact zE) (ea:a.put o.dst v=a':=by exact zE):wpAnyH P md ops Q S (f+1) b a w:=by subst eb ea;exact wpAnyH_take hi hs.1 hs.2.1 hs.2.2 hQ (Or.inl ⟨hg,hy⟩) hS h
theorem tks (i:Nat) {o:Oper} {b b':Array Bool} (hS:S w) (h:wpAnyH P md ops Q S f b' a' w) (hi:ops[i]?=some o:=by rfl) (hs:Rg md ops b i:=by exact rG) (hQ:∀c a w,Q (.panic c) (a.put o.dst undef) w->Q (.panic c) a w:=by exact λ_ _ _ h=>h) (hg:Region.wanted o (yielded ops a.tmps)=false:=by rfl) (eb:b.setIfInBounds i true=b':=by exact zE) (ea:a.put o.dst undef=a':=by exact zE):wpAnyH P md ops Q S (f+1) b a w:=by subst eb ea;exact wpAnyH_take hi hs.1 hs.2.1 hs.2.2 hQ (Or.inr ⟨hg,rfl⟩) hS h
theorem trd (i:Nat) {o:Oper} {b:Array Bool} (h:∀K:Act->World->Prop,Shut (∀a w,S w->(S w->wpAnyH P md ops Q S f (b.setIfInBounds i true) a w)->K a w)->if Region.wanted o (yielded ops a.tmps)=true then Oper.wp P o a w K Q else K (a.put o.dst undef) w) (ho:ops[i]?=some o:=by rfl) (hr:Region.ready md ops b=[i]:=by kernel_rfl):wpAnyH P md ops Q S (f+1) b a w:=wpAnyH_ready hr sZ (AllReadyH.cons ho h AllReadyH.nil)
theorem tk (i:Nat) (v:Value) {o:Oper} {b b':Array Bool} (hy:∀z,S z->∀o,ops[i]?=some o->(execOp a.eval o).run P z=.ok (.value v) z) (hS:S w) (h:wpAnyH P md ops Q S f b' a' w) (hi:ops[i]?=some o:=by rfl) (hs:Rg md ops b i:=by exact rG) (hg:Region.wanted o (yielded ops a.tmps)=true:=by rfl) (hQ:Qp Q o v:=by exact λ_ _ _ h=>h) (eb:b.setIfInBounds i true=b':=by exact zE) (ea:a.put o.dst v=a':=by exact zE):wpAnyH P md ops Q S (f+1) b a w:=by subst eb ea;exact wpAnyH_take hi hs.1 hs.2.1 hs.2.2 hQ (Or.inl ⟨hg,λz hz=>hy z hz o hi⟩) hS h
end
theorem zq0 (h:p:=by
 have HBL:=qh (show c-a<=n/\b-c<=n by omega);clear hen HBI HS1 HS2
 by_cases u1:r<m
 .by_cases u2:m<en
  .skip;have ua:(r:Int)<(m:Int):=by omega
   have ub:(m:Int)<(en:Int):=by omega
   by_cases v1:a<r
   .by_cases v2:r<c
    .skip;have va:(a:Int)<(r:Int):=by omega
     have vb:(r:Int)<(c:Int):=by omega
     by_cases x1:c<en
     .by_cases x2:en<b
      .skip;have xa:(c:Int)<(en:Int):=by omega
       have xb:(en:Int)<(b:Int):=by omega
       have HCALL:=qh (a2o its F g o cap r m en wr HR.o hl u1 u2 oZ)
       go_wp2_with fail
       refine HCALL.o.mono ?_;rintro e w1 ⟨rfl,n1,hm1,hrr,hcc⟩;have HR1:=qh hrr;have HC1:=qh (HC.o.trans hcc);have HM1:=qh hm1;clear hrr hcc HCALL;have hln1:n1.length=its.length:=hm1.len;clear hm1;obtain⟨hp1,hsp,hsa,hsb,hsc,hsd⟩:=HDONE.o _ HM1.o;have HP1:=qh hp1;have HSP:=qh hsp;have HSA:=qh hsa;have HSB:=qh hsb;have HSC:=qh hsc;have HSD:=qh hsd;clear hp1 hsp hsa hsb hsc hsd;have hcall:=HI.o n1 F g o cap a r c w1 HBL.o.1 HR1.o oZ v1 v2 oZ HSA.o HSB.o;rw [hln1]at hcall;have HCALL2:=qh hcall;clear hcall
       go_wp2_with fail
       refine HCALL2.o.mono ?_;rintro e w2 ⟨rfl,n2,hp2,hs2,hrr,hcc⟩;have HR2:=qh hrr;have HC2:=qh (HC1.o.trans hcc);have HP2:=qh hp2;have HT2:=qh hs2;have hln2:n2.length=its.length:=hp2.len.trans hln1;clear hrr hcc hp2 hs2 HCALL2;have hcall:=HI.o n2 F g o cap c en b w2 HBL.o.2 HR2.o oZ x1 x2 oZ (HSC.o.same HP2.o (.inr lZ)) (HSD.o.same HP2.o (.inr oZ));rw [hln2]at hcall;exact zq181
      .skip;have xa:(c:Int)<(en:Int):=by omega
       have xb:¬(en:Int)<(b:Int):=by omega
       have HCALL:=qh (a2o its F g o cap r m en wr HR.o hl u1 u2 oZ)
       go_wp2_with fail
       refine HCALL.o.mono ?_;rintro e w1 ⟨rfl,n1,hm1,hrr,hcc⟩;have HR1:=qh hrr;have HC1:=qh (HC.o.trans hcc);have HM1:=qh hm1;clear hrr hcc HCALL;have hln1:n1.length=its.length:=hm1.len;clear hm1;obtain⟨hp1,hsp,hsa,hsb,hsc,hsd⟩:=HDONE.o _ HM1.o;have HP1:=qh hp1;have HSP:=qh hsp;have HSA:=qh hsa;have HSB:=qh hsb;have HSC:=qh hsc;have HSD:=qh hsd;clear hp1 hsp hsa hsb hsc hsd;have hcall:=HI.o n1 F g o cap a r c w1 HBL.o.1 HR1.o oZ v1 v2 oZ HSA.o HSB.o;rw [hln1]at hcall;have HCALL2:=qh hcall;clear hcall
       go_wp2_with fail
       refine HCALL2.o.mono ?_;rintro e w2 ⟨rfl,n2,hp2,hs2,hrr,hcc⟩;have HR2:=qh hrr;have HC2:=qh (HC1.o.trans hcc);have HP2:=qh hp2;have HT2:=qh hs2;have hln2:n2.length=its.length:=hp2.len.trans hln1;clear hrr hcc hp2 hs2 HCALL2;have HP3:=qh (a0l.refl c b n2)
       have HT3:=qh (show a0c c b n2 from by
        have e1:en=b:=by omega
        have k:=HSC.o.same HP2.o (.inr lZ);rw [e1]at k;exact k)
       exact zq183
     .skip;have xa:¬(c:Int)<(en:Int):=by omega
      have HCALL:=qh (a2o its F g o cap r m en wr HR.o hl u1 u2 oZ)
      go_wp2_with fail
      refine HCALL.o.mono ?_;rintro e w1 ⟨rfl,n1,hm1,hrr,hcc⟩;have HR1:=qh hrr;have HC1:=qh (HC.o.trans hcc);have HM1:=qh hm1;clear hrr hcc HCALL;have hln1:n1.length=its.length:=hm1.len;clear hm1;obtain⟨hp1,hsp,hsa,hsb,hsc,hsd⟩:=HDONE.o _ HM1.o;have HP1:=qh hp1;have HSP:=qh hsp;have HSA:=qh hsa;have HSB:=qh hsb;have HSC:=qh hsc;have HSD:=qh hsd;clear hp1 hsp hsa hsb hsc hsd;have hcall:=HI.o n1 F g o cap a r c w1 HBL.o.1 HR1.o oZ v1 v2 oZ HSA.o HSB.o;rw [hln1]at hcall;have HCALL2:=qh hcall;clear hcall
      go_wp2_with fail
      refine HCALL2.o.mono ?_;rintro e w2 ⟨rfl,n2,hp2,hs2,hrr,hcc⟩;have HR2:=qh hrr;have HC2:=qh (HC1.o.trans hcc);have HP2:=qh hp2;have HT2:=qh hs2;have hln2:n2.length=its.length:=hp2.len.trans hln1;clear hrr hcc hp2 hs2 HCALL2;have HP3:=qh (a0l.refl c b n2)
      have HT3:=qh (show a0c c b n2 from by
       have e1:en=c:=by omega
       have k:=HSD.o.same HP2.o (.inr oZ);rw [e1]at k;exact k)
      exact zq183
    .skip;have va:(a:Int)<(r:Int):=by omega
     have vb:¬(r:Int)<(c:Int):=by omega
     by_cases x1:c<en
     .by_cases x2:en<b
      .skip;have xa:(c:Int)<(en:Int):=by omega
       have xb:(en:Int)<(b:Int):=by omega
       have HCALL:=qh (a2o its F g o cap r m en wr HR.o hl u1 u2 oZ)
       go_wp2_with fail
       refine HCALL.o.mono ?_;rintro e w1 ⟨rfl,n1,hm1,hrr,hcc⟩;have HR1:=qh hrr;have HC1:=qh (HC.o.trans hcc);have HM1:=qh hm1;clear hrr hcc HCALL;have hln1:n1.length=its.length:=hm1.len;clear hm1;obtain⟨hp1,hsp,hsa,hsb,hsc,hsd⟩:=HDONE.o _ HM1.o;have HP1:=qh hp1;have HSP:=qh hsp;have HSA:=qh hsa;have HSB:=qh hsb;have HSC:=qh hsc;have HSD:=qh hsd;clear hp1 hsp hsa hsb hsc hsd;have HP2:=qh (a0l.refl a c n1)
       have HT2:=qh (show a0c a c n1 from by
        have e1:r=c:=by omega
        rw [e1]at HSA;exact HSA.o)
       exact zq211
      .skip;have xa:(c:Int)<(en:Int):=by omega
       have xb:¬(en:Int)<(b:Int):=by omega
       have HCALL:=qh (a2o its F g o cap r m en wr HR.o hl u1 u2 oZ)
       go_wp2_with fail
       refine HCALL.o.mono ?_;rintro e w1 ⟨rfl,n1,hm1,hrr,hcc⟩;have HR1:=qh hrr;have HC1:=qh (HC.o.trans hcc);have HM1:=qh hm1;clear hrr hcc HCALL;have hln1:n1.length=its.length:=hm1.len;clear hm1;obtain⟨hp1,hsp,hsa,hsb,hsc,hsd⟩:=HDONE.o _ HM1.o;have HP1:=qh hp1;have HSP:=qh hsp;have HSA:=qh hsa;have HSB:=qh hsb;have HSC:=qh hsc;have HSD:=qh hsd;clear hp1 hsp hsa hsb hsc hsd;have HP2:=qh (a0l.refl a c n1)
       have HT2:=qh (show a0c a c n1 from by
        have e1:r=c:=by omega
        rw [e1]at HSA;exact HSA.o)
       exact zq209
     .skip;have xa:¬(c:Int)<(en:Int):=by omega
      have HCALL:=qh (a2o its F g o cap r m en wr HR.o hl u1 u2 oZ)
      go_wp2_with fail
      refine HCALL.o.mono ?_;rintro e w1 ⟨rfl,n1,hm1,hrr,hcc⟩;have HR1:=qh hrr;have HC1:=qh (HC.o.trans hcc);have HM1:=qh hm1;clear hrr hcc HCALL;have hln1:n1.length=its.length:=hm1.len;clear hm1;obtain⟨hp1,hsp,hsa,hsb,hsc,hsd⟩:=HDONE.o _ HM1.o;have HP1:=qh hp1;have HSP:=qh hsp;have HSA:=qh hsa;have HSB:=qh hsb;have HSC:=qh hsc;have HSD:=qh hsd;clear hp1 hsp hsa hsb hsc hsd;have HP2:=qh (a0l.refl a c n1)
      have HT2:=qh (show a0c a c n1 from by
       have e1:r=c:=by omega
       rw [e1]at HSA;exact HSA.o)
      exact zq210
   .skip;have va:¬(a:Int)<(r:Int):=by omega
    by_cases x1:c<en
    .by_cases x2:en<b
     .skip;have xa:(c:Int)<(en:Int):=by omega
      have xb:(en:Int)<(b:Int):=by omega
      have HCALL:=qh (a2o its F g o cap r m en wr HR.o hl u1 u2 oZ)
      go_wp2_with fail
      refine HCALL.o.mono ?_;rintro e w1 ⟨rfl,n1,hm1,hrr,hcc⟩;have HR1:=qh hrr;have HC1:=qh (HC.o.trans hcc);have HM1:=qh hm1;clear hrr hcc HCALL;have hln1:n1.length=its.length:=hm1.len;clear hm1;obtain⟨hp1,hsp,hsa,hsb,hsc,hsd⟩:=HDONE.o _ HM1.o;have HP1:=qh hp1;have HSP:=qh hsp;have HSA:=qh hsa;have HSB:=qh hsb;have HSC:=qh hsc;have HSD:=qh hsd;clear hp1 hsp hsa hsb hsc hsd;have HP2:=qh (a0l.refl a c n1)
      have HT2:=qh (show a0c a c n1 from by
       have e1:r=a:=by omega
       rw [e1]at HSB;exact HSB.o)
      exact zq211
     .skip;have xa:(c:Int)<(en:Int):=by omega
      have xb:¬(en:Int)<(b:Int):=by omega
      have HCALL:=qh (a2o its F g o cap r m en wr HR.o hl u1 u2 oZ)
      go_wp2_with fail
      refine HCALL.o.mono ?_;rintro e w1 ⟨rfl,n1,hm1,hrr,hcc⟩;have HR1:=qh hrr;have HC1:=qh (HC.o.trans hcc);have HM1:=qh hm1;clear hrr hcc HCALL;have hln1:n1.length=its.length:=hm1.len;clear hm1;obtain⟨hp1,hsp,hsa,hsb,hsc,hsd⟩:=HDONE.o _ HM1.o;have HP1:=qh hp1;have HSP:=qh hsp;have HSA:=qh hsa;have HSB:=qh hsb;have HSC:=qh hsc;have HSD:=qh hsd;clear hp1 hsp hsa hsb hsc hsd;have HP2:=qh (a0l.refl a c n1)
      have HT2:=qh (show a0c a c n1 from by
       have e1:r=a:=by omega
       rw [e1]at HSB;exact HSB.o)
      exact zq209
    .skip;have xa:¬(c:Int)<(en:Int):=by omega
     have HCALL:=qh (a2o its F g o cap r m en wr HR.o hl u1 u2 oZ)
     go_wp2_with fail
     refine HCALL.o.mono ?_;rintro e w1 ⟨rfl,n1,hm1,hrr,hcc⟩;have HR1:=qh hrr;have HC1:=qh (HC.o.trans hcc);have HM1:=qh hm1;clear hrr hcc HCALL;have hln1:n1.length=its.length:=hm1.len;clear hm1;obtain⟨hp1,hsp,hsa,hsb,hsc,hsd⟩:=HDONE.o _ HM1.o;have HP1:=qh hp1;have HSP:=qh hsp;have HSA:=qh hsa;have HSB:=qh hsb;have HSC:=qh hsc;have HSD:=qh hsd;clear hp1 hsp hsa hsb hsc hsd;have HP2:=qh (a0l.refl a c n1)
     have HT2:=qh (show a0c a c n1 from by
      have e1:r=a:=by omega
      rw [e1]at HSB;exact HSB.o)
     exact zq210
  .skip;have ua:(r:Int)<(m:Int):=by omega
   have ub:¬(m:Int)<(en:Int):=by omega
   exact zq180
 .skip;have ua:¬(r:Int)<(m:Int):=by omega
  exact zq180):p:=h
theorem zq1 (h:p:=by
 clear hb hfe hfi;obtain⟨⟨r0,r1,r2,r3,r4,r5,r6⟩,f0,f1,f2,f3,f4,f5⟩:=HR9.o;obtain⟨V,hV⟩:∃v,((((((x2.setCell ⟨w.heap.size+1,0,none⟩ (.slice na l2.length nc)).setCell ⟨w.heap.size+1,1,none⟩ (.slice ma st2.length mc)).setCell ⟨w.heap.size+1,2,none⟩ (.string (S sc2))).setCell ⟨w.heap.size+1,3,none⟩ (.string (S d))).setCell ⟨w.heap.size+1,4,none⟩ (.string (S p))).setCell ⟨w.heap.size+1,5,none⟩ (.int .i64 n))=v:=⟨_,rfl⟩;have hset:Chg (λb=>b=w.heap.size+1) x2 V:=by rw [<-hV];exact (((((((Chg.refl (λb=>b=w.heap.size+1) x2).setCell (p:=⟨w.heap.size+1,0,none⟩) rfl _).setCell (p:=⟨w.heap.size+1,1,none⟩) rfl _).setCell (p:=⟨w.heap.size+1,2,none⟩) rfl _).setCell (p:=⟨w.heap.size+1,3,none⟩) rfl _).setCell (p:=⟨w.heap.size+1,4,none⟩) rfl _).setCell (p:=⟨w.heap.size+1,5,none⟩) rfl _)
 have HRV:Hq (SOut (w.heap.size+1) (.slice na l2.length nc) (.slice ma st2.length mc) sc2 d p n V):=⟨by rw [<-hV];exact ((HR9.o.set0 (x:=.slice na l2.length nc)).set1 (x:=.slice ma st2.length mc) (r:=sc2)).set3 (d':=d) (p':=p) (n':=n)⟩;have HBV:=qh (Chg.a0n HB9.o hset HB9.o.size (λb h=>by have h9:b=w.heap.size+1:=h;omega));have HFE2:=qh (HFE.o.after (w:=w) oZ hset (λb h=>by have h9:b=w.heap.size+1:=h;omega));have HFI2:=qh (HFI.o.after (w:=w) oZ hset (λb h=>by have h9:b=w.heap.size+1:=h;omega));go_wp2
 try rw [hV]
 clear hset hV;obtain⟨q0,q1,q2,q3,q4,q5,q6⟩:=HRV.o.1;refine bodyPost_ret (v:=.tuple #[a1a (.slice na l2.length nc) (.slice ma st2.length mc) sc2 d p n,.string (S (txtB rep))]) (by simp [results,results95,go_sem,q0,q1,q2,q3,q4,q5]) rfl ⟨.slice na l2.length nc,.slice ma st2.length mc,by rw [HP.o],by rw [HP.o];exact HFE2.o,by rw [HP.o];exact HFI2.o,HBV.o⟩):p:=h
theorem zq2 (h:p:=by
 obtain⟨⟨o0,o1,o2,o3,o4,o5,o6⟩,_⟩:=HX2.o;obtain⟨⟨r0,r1,r2,r3,r4,r5,r6⟩,f0,f1,f2,f3,f4,f5⟩:=HR2.o;obtain⟨V,hV⟩:∃v,((((((w2.setCell ⟨w.heap.size+1,0,none⟩ ((.slice ad l.length cap))).setCell ⟨w.heap.size+1,1,none⟩ ((.slice sd st.length sap))).setCell ⟨w.heap.size+1,2,none⟩ (.string (S sc))).setCell ⟨w.heap.size+1,3,none⟩ (.string (S d))).setCell ⟨w.heap.size+1,4,none⟩ (.string (S p))).setCell ⟨w.heap.size+1,5,none⟩ (.int .i64 n))=v:=⟨_,rfl⟩;have hset:Chg (λb=>b=w.heap.size+1) w2 V:=by rw [<-hV];exact (((((((Chg.refl (λb=>b=w.heap.size+1) w2).setCell (p:=⟨w.heap.size+1,0,none⟩) rfl _).setCell (p:=⟨w.heap.size+1,1,none⟩) rfl _).setCell (p:=⟨w.heap.size+1,2,none⟩) rfl _).setCell (p:=⟨w.heap.size+1,3,none⟩) rfl _).setCell (p:=⟨w.heap.size+1,4,none⟩) rfl _).setCell (p:=⟨w.heap.size+1,5,none⟩) rfl _)
 have HRV:Hq (SOut (w.heap.size+1) ((.slice ad l.length cap)) ((.slice sd st.length sap)) sc d p n V):=⟨by rw [<-hV];exact ((HR2.o.set0 (x:=(.slice ad l.length cap))).set1 (x:=(.slice sd st.length sap)) (r:=sc)).set3 (d':=d) (p':=p) (n':=n)⟩;have HBV:=qh (Chg.a0n HB2.o hset HB2.o.size (λb h=>by have h9:b=w.heap.size+1:=h;omega));go_wp2
 try rw [hV]
 clear hset hV;obtain⟨q0,q1,q2,q3,q4,q5,q6⟩:=HRV.o.1;refine bodyPost_ret (v:=.tuple #[a1a ((.slice ad l.length cap)) ((.slice sd st.length sap)) sc d p n,.string (S [63])]) (by simp [results,results95,go_sem,q0,q1,q2,q3,q4,q5]) rfl ⟨(.slice ad l.length cap),(.slice sd st.length sap),by rw [HP.o]<;>rfl,by rw [HP.o];exact .inl ⟨rfl,rfl⟩,by rw [HP.o];exact .inl ⟨rfl,rfl⟩,HBV.o⟩):p:=h
theorem zq3 (h:p:=by
 intro v b1 b2 b3 xa xc ya yc HL HR;obtain⟨⟨hd1,hd2⟩,hd3,hd4⟩:=HL.o.d b1 rfl;obtain⟨ht0,ht⟩:=HL.o.t b2 rfl;obtain⟨he0,he⟩:=HL.o.e b3 rfl;have n12:=HL.o.n12 b1 b2 rfl rfl;have n13:=HL.o.n13 b1 b3 rfl rfl;have n23:=HL.o.n23 b2 b3 rfl rfl;have hBw:=HL.o.hB;have HBW:=qh HL.o.bw;have hS:=HL.o.s;refine trd 20 λK hK=>?_;go_simp;obtain⟨y1,hy1⟩:∃y,v.setCell ⟨b1,0,none⟩ (.slice xa D.length xc)=y:=⟨_,rfl⟩;have hc1:Chg (λk=>k=b1) v y1:=by rw [<-hy1];exact (Chg.refl (λk=>k=b1) v).setCell (p:=⟨b1,0,none⟩) rfl _
 have hx1:Box1 b1 (.slice xa D.length xc) y1:=by rw [<-hy1];exact Box1.set1 hd3 hd2
 have hw1:Bl wr y1:=Chg.a0n HBW.o hc1 HBW.o.size (λk h=>by have h9:k=b1:=h;omega);refine hK.out _ _ (by (try rw [hy1]);exact hS.a0b hc1 oZ) (λhS1=>?_);clear hK K
 try rw [hy1]at hS1⊢
 try simp only [qA,qB,qC,Act.put,qD,qE,qF]
 have ht1:=ht.a0b hc1 oZ;have he1:=he.a0b hc1 oZ;have HR1:=qh (HR.o.a0b hc1 (λb h _=>.inl (by have h9:b=b1:=h;rw [h9])));clear hd3 hd4 ht he hy1 HR;obtain⟨zb,cb0,cb1,fb0,fb1⟩:=ht1;refine trd 21 λK hK=>?_;go_simp;obtain⟨y2,hy2⟩:∃y,((y1.setCell ⟨b2,0,none⟩ (.slice ya ns.length yc)).setCell ⟨b2,1,none⟩ (.string (S nsc)))=y:=⟨_,rfl⟩;have hc2:Chg (λk=>k=b2) y1 y2:=by rw [<-hy2];exact ((Chg.refl (λk=>k=b2) y1).setCell (p:=⟨b2,0,none⟩) rfl _).setCell (p:=⟨b2,1,none⟩) rfl _
 have hx2:a1z b2 (.slice ya ns.length yc) nsc y2:=by rw [<-hy2];exact a1z.set2 cb0 cb1 zb
 have hw2:Bl wr y2:=Chg.a0n hw1 hc2 hw1.size (λk h=>by have h9:k=b2:=h;omega);refine hK.out _ _ (by (try rw [hy2]);exact hS1.a0b hc2 oZ) (λhS2=>?_);clear hK K
 try rw [hy2]at hS2⊢
 try simp only [qA,qB,qC,Act.put,qD,qE,qF]
 have he2:=he1.a0b hc2 oZ;have hx1':=hx1.a0b hc2 oZ;have HR2:=qh (HR1.o.a0b hc2 (λb h _=>.inr (.inl (by have h9:b=b2:=h;rw [h9]))));clear zb cb0 cb1 fb0 fb1 he1 hx1 hy2 HR1;obtain⟨zb,cb0,cb1,fb0,fb1⟩:=he2;refine trd 22 λK hK=>?_;go_simp;obtain⟨y3,hy3⟩:∃y,((y2.setCell ⟨b3,0,none⟩ (.int .i64 en)).setCell ⟨b3,1,none⟩ (.string (S et)))=y:=⟨_,rfl⟩;have hc3:Chg (λk=>k=b3) y2 y3:=by rw [<-hy3];exact ((Chg.refl (λk=>k=b3) y2).setCell (p:=⟨b3,0,none⟩) rfl _).setCell (p:=⟨b3,1,none⟩) rfl _
 have hx3:a1z b3 (.int .i64 en) et y3:=by rw [<-hy3];exact a1z.set2 cb0 cb1 zb
 have hw3:Bl wr y3:=Chg.a0n hw2 hc3 hw2.size (λk h=>by have h9:k=b3:=h;omega);refine hK.out _ _ (by (try rw [hy3]);exact hS2.a0b hc3 oZ) (λhS3=>?_);clear hK K
 try rw [hy3]at hS3⊢
 try simp only [qA,qB,qC,Act.put,qD,qE,qF]
 have HR3:=qh (HR2.o.a0b hc3 (λb h _=>.inr (.inr (by have h9:b=b3:=h;rw [h9]))));have hx1'':=hx1'.a0b hc3 oZ;have hx2':=hx2.a0b hc3 oZ;clear zb cb0 cb1 fb0 fb1 hy3;refine tk0 23 hS3 ?_;refine wpAnyH_done kZ ?_ _
 go_wp2_with fail
 go_meet;exact⟨b1,b2,b3,xa,xc,ya,yc,rfl,rfl,rfl,rfl,hx1'',hx2',hx3,HR3.o,hw3,hd1,ht0,he0⟩):p:=h
theorem zq4 (h:p:=by
 go_wp2_with (first|(go_at_call 343;refine (a4x _ _).mono ?_;rintro e w' ⟨rfl,rfl⟩)|(go_at_call 344;refine (a3s _ _ oZ).mono ?_;rintro e w' ⟨rfl,rfl⟩)|(go_at_call 345;refine (b9u _ _ _ oZ).mono ?_;rintro e w' ⟨rfl,rfl⟩)|(go_at_call 346;refine (a7g _ _ hx).mono ?_;rintro e w' ⟨rfl,rfl⟩))
 go_meet;exact⟨by simp [g4],rfl⟩):p:=h
theorem zq5 (h:p:=by
 obtain⟨h,hh⟩:∃h:Nat,(j+r) / 2=h:=⟨_,rfl⟩;have hhi:((j:Int)+(r:Int)) / 2=(h:Int):=by omega
 have hh1:j<=h:=by omega
 have hh2:h<r:=by omega
 clear hh;obtain⟨q,hq⟩:∃q:Nat,c+m-1-h=q:=⟨_,rfl⟩;have hqi:(c:Int)+(m:Int)-1-(h:Int)=(q:Int):=by omega
 have hw1:IntKind.i64.wrap (q:Int)=(q:Int):=IntWalk.i64_in _ oZ;have hq2:q<b:=by omega
 have hhl:h<its.length:=by omega
 have hql:q<its.length:=by omega
 have h1i:(j:Int)<(r:Int):=by omega
 have HLOW:=qh (λ(hc:¬P.cmp (its[c+m-1-h]'(by omega)).e.1 (its[h]'hhl).e.1<0)=>HBI.o.low HS1.o HS2.o oZ oZ oZ oZ oZ oZ hhl oZ hc);have HHIGH:=qh (λ(hc:P.cmp (its[c+m-1-h]'(by omega)).e.1 (its[h]'hhl).e.1<0)=>HBI.o.high HS1.o HS2.o oZ oZ oZ oZ oZ oZ hhl oZ hc);subst hq
 go_upto_region 35 with fail
 try rw [hhi]
 clear hhi;obtain⟨xd,xc,yd,yc,hx,hy,hkc⟩:=HR.o.two (c+m-1-h) h hql hhl;generalize (its[c+m-1-h]'hql)=en at *;generalize (its[h]'hhl)=fn at *;obtain⟨q,hq⟩:∃q:Nat,c+m-1-h=q:=⟨_,rfl⟩;rw [hq]at hqi hw1 hq2 hql hkc;obtain⟨x,Gx,eo,et⟩:=en;obtain⟨y,Gy,fo,ft⟩:=fn;simp only at hx hy hkc HLOW HHIGH;subst hx hy;have HK0:=qh (hkc.step bZ.drew);clear hkc;have hnp:¬its.length<=q:=by omega
 have hnq:¬its.length<=h:=by omega
 refine wp_region_held_drew (S:=KC wr.heap.size wr g (o+q*2) (.slice xd eo.length xc) eo et (o+h*2) (.slice yd fo.length yc) fo ft) kZ HK0.o (λhS0=>?_);refine tk1 0 hS0 ?_;refine tk1 1 hS0 ?_;refine tk1 2 hS0 ?_;refine tk1 3 hS0 ?_;refine tk1 4 hS0 ?_;refine tk1 5 (v:=.pointer (some ⟨g,o+q*2,none⟩)) hS0 ?_;refine tk1 6 hS0 ?_;refine tk1 7 hS0 ?_;refine tk1 8 hS0 ?_;refine tk1 9 (v:=.pointer (some ⟨g,o+h*2,none⟩)) hS0 ?_;refine tk1 10 hS0 ?_;refine trd 11 λK hK=>?_;have HX:=qh hS0.2.2.2.2.2.1;have HY:=qh hS0.2.2.2.2.2.2.1;have HSK:=qh hS0;go_simp;refine (b2z _ _ eo fo et ft _ HX.o HY.o).mono ?_;rintro e v ⟨rfl,hb⟩;refine hK.out _ _ (HSK.o.step hb) (λhS1=>?_);clear hK K hb
 try simp only [qA,qB,qC,Act.put,qD,qE,qF]
 have HBV:=qh hS1.2.2.2.2.2.2.2.2;have HRV:=qh (HR.o.below HBV.o);have HCV:=qh (HC.o.trans (Below.chg HBV.o _))
 by_cases hcmp:P.cmp eo fo<0
 .have HQ:=qh (HHIGH.o hcmp);refine tk1 12 hS1 ?_;refine tk1 13 hS1 ?_;refine wpAnyH_done kZ ?_ _;clear hS0 HSK hS1 HLOW HHIGH hcmp HX HY HK0 HR HC HBV hnp hnq hw1 hqi;go_wp2
  go_roundw
  case rel=>exact⟨j,h,hj1,hh1,by omega,rfl,rfl,HQ.o,HRV.o,HCV.o⟩
  case measure=>simp [intOf];omega
 .have HQ:=qh (HLOW.o hcmp);refine tk1 12 hS1 ?_;refine tk1 13 hS1 ?_;refine wpAnyH_done kZ ?_ _;clear hS0 HSK hS1 HLOW HHIGH hcmp HX HY HK0 HR HC HBV hnp hnq hw1 hqi;go_wp2
  go_roundw
  case rel=>exact⟨h+1,r,by omega,by omega,hr1,by go_num,rfl,HQ.o,HRV.o,HCV.o⟩
  case measure=>simp [intOf];omega):p:=h
theorem zq6 (h:p:=by
 rintro e v1 ⟨rfl,hb1⟩;have hzz:wr.heap.size+1<=v1.heap.size:=by have:=hb1.size;simp at this;omega
 have HB1:Hq (Bl wr v1):=⟨HBA.o.trans (hb1.mono sZ)⟩;have e0:=(hb1.cell (p:=⟨wr.heap.size,0,none⟩) sZ).trans (show (wr.alloc (.cells #[.slice xd eo.length xc,.string (S et)] 119)).cell? ⟨wr.heap.size,0,none⟩=some (.slice xd eo.length xc) by go_simp);have e1:=(hb1.cell (p:=⟨wr.heap.size,1,none⟩) sZ).trans (show (wr.alloc (.cells #[.slice xd eo.length xc,.string (S et)] 119)).cell? ⟨wr.heap.size,1,none⟩=some (.string (S et)) by go_simp);have HZ1:=qh hzz;clear hb1 hzz HX HC2 HO2 HBA
 by_cases heo:eo=o
 .have HEN2:=qh (HEN.o.trans (if_pos heo));rw [decide_eq_true heo];clear heo HEN e0 e1;go_wp2
  go_roundw
  case rel=>exact⟨j+1,xs,by omega,by go_num,by rw [HEN2.o];exact HA.o.keep (b4g w) HB1.o,HB.o.trans (HB1.o.mono HBZ.o)⟩
  case measure=>simp [intOf];omega
 .have HEN2:=qh (HEN.o.trans (if_neg heo));rw [decide_eq_false heo];clear heo HEN;have HA2:=qh ((HA.o.keep (b4g w) HB1.o).keep (b4g w) ((Below.refl v1.heap.size v1).alloc lZ (.cells #[.slice xd eo.length xc,.string (S et)] 119)));have HOW:=qh HA2.o.owns;have HWV:=qh (Nat.le_trans HBZ.o HB1.o.size)
  go_wp2_with (at_builtin;refine wpList_append_lies _ rfl _ _ 24 rfl w.heap.size 119 i0 (.agg #[.slice none 0 0,.string ⟨#[]⟩]) 2 40 underlying24 hi hz0 hz1 hz2 rfl dZ (.slice uad dl.length ucap) dl.length xs rfl HOW.o ⟨v1.heap.size,0,none⟩ 1 1 [.slice xd eo.length xc,.string (S et)] rfl rfl ?_ ?_ (Nat.zero_lt_one) ?_ ?_ ?_ _ rfl ?_)
  .exact zq199
  .intro y hy;simp only [List.mem_cons,List.not_mem_nil,or_false]at hy
   rcases hy with rfl|rfl<;>rfl
  .unfold maxLen;omega
  .omega
  .have h1:=HWV.o;simp;omega
  intro g1 cap1 v3 hown hgr hat hlt3
  have HB3:=qh (show Below w.heap.size (v1.alloc (.cells #[.slice xd eo.length xc,.string (S et)] 119)) v3 from
   bZ.grown hgr (by have h1:=HWV.o;simp;omega) (λk hk=>(World.ownsRow.lt HA2.o.owns k hk).1))
  have HAC:=qh (HA.o.snoc (a:=(eo,et)) (cs:=[.slice xd eo.length xc,.string (S et)]) (v1:=v1) (v2:=v1.alloc (.cells #[.slice xd eo.length xc,.string (S et)] 119)) (v3:=v3) (g:=g1) (cap:=cap1) (F:=λ_=>False) (b4g w) HB1.o (λb hb=>hb.elim) ⟨_,rfl,HXW.o⟩ rfl (bZ.alloc lZ _) hown hgr (by simpa using hat));have HBW:=qh (((HB.o.trans (HB1.o.mono HBZ.o)).trans ((Below.refl w.heap.size v1).alloc HWV.o _)).trans HB3.o);clear hown hgr hat hlt3 e0 e1;go_wp2
  go_roundw
  case rel=>exact⟨j+1,_,by omega,by go_num,by rw [HEN2.o];exact HAC.o,HBW.o⟩
  case measure=>simp [intOf];omega):p:=h
theorem zq7 (h:p:=by
 obtain⟨k,f,init,hk,hf,rfl,rfl,hil,hsp,hown,hbel⟩:=hrel;have HSP:=qh hsp;clear hsp;have HOWN:=qh hown;clear hown;have HBEL:=qh hbel;clear hbel;have hsz:=HBEL.o.size
 by_cases hlt:k<s.length
 .by_cases he:(s[k]==c)=true
  .have HH:=qh (P.d4r c s f k init hlt he HSP.o);clear HSP
   go_wp2_with (at_builtin;refine wpList_append_own _ rfl _ _ 43 rfl w.heap.size 9 i0 (.string ⟨#[]⟩) 1 16 underlying43 hi hz0 hz1 hz2 rfl dZ _ _ _ rfl (HOWN.o.alloc _) ⟨wr.heap.size,0,none⟩ 1 1 [.string (S ((s.drop f).take (k-f)))] rfl rfl ?c1 ?c2 ?c3 ?c4 ?c5 ?_)
   case c1=>intro j u hj;match j,hj with|0,hj=>(simp at hj;subst hj;simp [Addr.add])
   case c2=>intro u hu;simp at hu;subst hu;rfl
   case c3=>unfold maxLen;omega
   case c4=>omega
   case c5=>simp;omega
   intro v' w1 hown' hgrow _;have R:=qh (b3j hsz HOWN.o HBEL.o hown' hgrow);clear hown' hgrow HOWN HBEL;go_wp2
   go_roundw
   case rel=>exact⟨k+1,k+1,init++[(s.drop f).take (k-f)],by omega,by omega,by go_num,by go_num,by simp;omega,HH.o,R.o.1,R.o.2⟩
   case measure=>simp [intOf];omega
  .have he':(s[k]==c)=false:=by simpa using he
   clear he;have HH:=qh (P.d2e c s f k init hlt hf he' HSP.o);clear HSP;go_wp2
   go_roundw
   case rel=>exact⟨k+1,f,init,by omega,by omega,by go_num,rfl,by omega,HH.o,HOWN.o,HBEL.o⟩
   case measure=>simp [intOf];omega
 .have HH:=qh (P.d5j c s f k init oZ HSP.o);clear HSP
  go_wp2_with (at_builtin;refine wpList_append_own _ rfl _ _ 43 rfl w.heap.size 9 i0 (.string ⟨#[]⟩) 1 16 underlying43 hi hz0 hz1 hz2 rfl dZ _ _ _ rfl (HOWN.o.alloc _) ⟨wr.heap.size,0,none⟩ 1 1 [.string (S (s.drop f))] rfl rfl ?d1 ?d2 ?d3 ?d4 ?d5 ?_)
  case d1=>intro j u hj;match j,hj with|0,hj=>(simp at hj;subst hj;simp [Addr.add])
  case d2=>intro u hu;simp at hu;subst hu;rfl
  case d3=>unfold maxLen;omega
  case d4=>omega
  case d5=>simp;omega
  intro v' w1 hown' hgrow _;have R:=qh (b3j hsz HOWN.o HBEL.o hown' hgrow);clear hown' hgrow HOWN HBEL;go_wp2;go_ret;exact⟨v',rfl,by rw [HH.o];exact R.o.1,R.o.2⟩):p:=h
theorem zq8 (h:p:=by
 by_cases h24:24<z.length
 .have HF:=qh (HJS.o.trans (if_pos h24));have i7:(24:Int)<(z.length:Int):=by omega
  clear h24;go_wp2;go_ret2;exact⟨by rw [HF.o];rfl,HB.o⟩
 .have HF:=qh (HJS.o.trans (if_neg h24));have i7:¬(24:Int)<(z.length:Int):=by omega
  clear h24;go_wp2;go_ret2;exact⟨by rw [HF.o]<;>rfl,HB.o⟩):p:=h
theorem zq9 (h:p:=by
 rw [ha]at HP hfe hfi HEN HIN⊢;simp only at hfe hfi HEN HIN⊢;clear ha;obtain⟨na,nc,rfl,_,_⟩:=id HEN.o;obtain⟨ma,mc,rfl,_,_⟩:=id HIN.o;have HR9:=qh (HR1.o.below hb);have HB9:=bt HB1 hb;have HFE:=qh hfe;have HFI:=qh hfi;clear hb hfe hfi;obtain⟨⟨r0,r1,r2,r3,r4,r5,r6⟩,f0,f1,f2,f3,f4,f5⟩:=HR9.o;obtain⟨V,hV⟩:∃v,((((((x2.setCell ⟨w.heap.size+1,0,none⟩ (.slice na l2.length nc)).setCell ⟨w.heap.size+1,1,none⟩ (.slice ma st2.length mc)).setCell ⟨w.heap.size+1,2,none⟩ (.string (S sc2))).setCell ⟨w.heap.size+1,3,none⟩ (.string (S d))).setCell ⟨w.heap.size+1,4,none⟩ (.string (S p))).setCell ⟨w.heap.size+1,5,none⟩ (.int .i64 n))=v:=⟨_,rfl⟩;have hset:Chg (λb=>b=w.heap.size+1) x2 V:=by rw [<-hV];exact (((((((Chg.refl (λb=>b=w.heap.size+1) x2).setCell (p:=⟨w.heap.size+1,0,none⟩) rfl _).setCell (p:=⟨w.heap.size+1,1,none⟩) rfl _).setCell (p:=⟨w.heap.size+1,2,none⟩) rfl _).setCell (p:=⟨w.heap.size+1,3,none⟩) rfl _).setCell (p:=⟨w.heap.size+1,4,none⟩) rfl _).setCell (p:=⟨w.heap.size+1,5,none⟩) rfl _)
 have HRV:Hq (SOut (w.heap.size+1) (.slice na l2.length nc) (.slice ma st2.length mc) sc2 d p n V):=⟨by rw [<-hV];exact ((HR9.o.set0 (x:=.slice na l2.length nc)).set1 (x:=.slice ma st2.length mc) (r:=sc2)).set3 (d':=d) (p':=p) (n':=n)⟩;have HBV:=qh (Chg.a0n HB9.o hset HB9.o.size (λb h=>by have h9:b=w.heap.size+1:=h;omega));have HFE2:=qh (HFE.o.after (w:=w) oZ hset (λb h=>by have h9:b=w.heap.size+1:=h;omega));have HFI2:=qh (HFI.o.after (w:=w) oZ hset (λb h=>by have h9:b=w.heap.size+1:=h;omega));go_wp2
 try rw [hV]
 clear hset hV;obtain⟨q0,q1,q2,q3,q4,q5,q6⟩:=HRV.o.1;refine bodyPost_ret (v:=.tuple #[a1a (.slice na l2.length nc) (.slice ma st2.length mc) sc2 d p n,.string (S (txtB rep))]) (by simp [results,results169,go_sem,q0,q1,q2,q3,q4,q5]) rfl ⟨.slice na l2.length nc,.slice ma st2.length mc,by rw [HP.o],by rw [HP.o];exact HFE2.o,by rw [HP.o];exact HFI2.o,HBV.o⟩):p:=h
theorem zq10 (h:p:=by
 rintro e v ⟨rfl,hb⟩;rw [hok];generalize hpa:(P.a0s x).1=pa at *;obtain⟨pk,pt⟩:=pa;have HO:=qh (a0i HOWN.o hb lZ);have HS2:=qh (HST.o.below hb);have HB:=qh (HBEL.o.trans (hb.mono hsz));have hvz:w.heap.size<=v.heap.size:=Nat.le_trans hsz hb.size;have hjj:j<=100:=by omega
 clear hb;simp only
 go_wp2_with (at_builtin;refine wpList_append_own _ rfl _ _ 171 rfl w.heap.size 177 i0 (.agg #[.int .i64 0,.string ⟨#[]⟩]) 2 24 underlying171 hi hz0 hz1 hz2 rfl dZ _ _ _ rfl ((HO.o.alloc _).alloc _) ⟨v.heap.size+1,0,none⟩ 1 1 [.int .i64 pk,.string (S pt)] rfl rfl ?c1 ?c2 ?c3 ?c4 ?c5 ?_)
 case c1=>intro j u hj;match j,hj with|0,hj=>(simp at hj;subst hj;simp [Addr.add])|1,hj=>(simp at hj;subst hj;simp [Addr.add])
 case c2=>intro u hu;simp at hu;rcases hu with rfl|rfl<;>rfl
 case c3=>unfold maxLen;omega
 case c4=>omega
 case c5=>simp;omega
 intro v' w3 hown' hgrow _;have R:=qh (b6y (x:=(pk,pt)) (w1:=v.alloc (.cells #[.int .i64 pk,.string (S pt)] 177)) (o:=(.cells #[.int .i64 pk,.string (S pt)] 177)) (v:=.slice ad out.length cp) (by simp;omega) (HO.o.alloc _) (HB.o.alloc hvz _) (by first|exact hown'|(rw [hoj];exact hown')) (by rw [hoj];exact hgrow));have hS2a:=(HS2.o.below (bZ.alloc lZ (.cells #[.int .i64 pk,.string (S pt)] 177))).below (bZ.alloc lZ (.cells #[.int .i64 pk,.string (S pt)] 177));have hap:=c6q ((HO.o.alloc (.cells #[.int .i64 pk,.string (S pt)] 177)).alloc (.cells #[.int .i64 pk,.string (S pt)] 177)) hS2a;rw [hoj]at hap;have hS3:=hS2a.grown hgrow hap;have HS3:=qh hS3;have HPA:=qh hpa;have HOK:=qh hok;clear hown' hgrow HOWN HBEL HO HB hS3 hS2a hap hpa hok;go_wp2
 go_roundw
 case rel=>
  refine⟨j+1,by omega,by go_num,?_,?_,HS3.o,R.o.2⟩
  .rw [HSN.o];intro y hy
   rcases List.mem_append.1 hy with hy|hy
   .exact HALL.o y hy
   .rw [List.mem_singleton]at hy;rw [hy];exact HOK.o
  .rw [HSN.o,List.map_append,<-HOUT.o,List.map_cons,List.map_nil,HPA.o];exact R.o.1
 case measure=>simp [intOf];omega):p:=h
theorem zq11 (h:p:=by
 go_enter func368,ntmps368
 have hback:=run_convert_bytes_back (P:=Tryz.prog) ((w.alloc (.cells #[.int .u8 ((b).toNat:Int)] 5)).drew) 22 9 5 ⟨w.heap.size,0,none⟩ 1 [b] underlying22 underlying5 underlying9 (by
  intro j hj
  have:j=0:=by simpa using hj
  subst this
  rw [add0]
  go_simp)
 exact zq192):p:=h
theorem zq12 (h:p:=by
 obtain⟨k,hk,rfl,ho,hb⟩:=hrel;have HO:=qh ho;have HB:=qh hb;have hlen:=P.b6q m k;have HY:=qh (P.d7w (s:=m) (n:=k));have HN:=qh (P.d9l (s:=m) (n:=k));obtain⟨ua,uc,rfl⟩:=a0h ho;clear HOW HB0
 by_cases hlt:k<23
 .have E1:=and_one (k:=k) HM.o;have i1:(k:Int)<23:=by omega
  have i2:(0:Int)<=(k:Int):=by omega
  have HK:Hq (P.hasK (m:Int) (k:Int)=m.testBit k):=⟨rfl⟩
  cases hbk:m.testBit k
  .rw [hbk]at E1 HK;have E2:bits .and .i64 ((m:Int) / 2^k) 1=0:=E1;have HZ:=qh (HN.o HK.o);clear E1 hbk ho hb HY HN;go_wp2
   go_roundw
   case rel=>exact⟨k+1,by omega,by go_num,by rw [HZ.o];exact HO.o,HB.o⟩
   case measure=>simp [intOf];omega
  .rw [hbk]at E1 HK;have E2:bits .and .i64 ((m:Int) / 2^k) 1=1:=E1;have HZ:=qh (HY.o HK.o);have HOA:=qh (ho.alloc (.cells #[.int .i64 (k:Int)] 3));have HSZ:=qh hb.size;clear E1 hbk ho hb HY HN;generalize P.a4p m k=l at *
   go_wp2_with (at_builtin;refine wpList_append_own _ rfl _ _ 33 rfl w.heap.size 3 i0 (.int .i64 0) 1 8 underlying33 hi hz0 hz1 hz2 rfl dZ (.slice ua l.length uc) l.length (ints l) rfl HOA.o ⟨wr.heap.size,0,none⟩ 1 1 [.int .i64 (k:Int)] rfl rfl ?_ ?_ ?_ ?_ ?_ ?_)
   all_goals first|exact⟨rfl,rfl⟩|(intro z hz;simp only [List.mem_cons,List.not_mem_nil,or_false]at hz;subst hz;rfl)|(unfold maxLen;omega)|omega|(have h1:=HSZ.o;simp;omega)|(intro i z hz;rcases i with _|i;(injection hz with hz;subst hz;rw [add0];go_simp);cases hz)|skip
   intro u4 w4 hown hgr _;have H6:=qh (b6n HO.o HB.o 3 hown hgr);clear hown hgr;go_wp2
   go_roundw
   case rel=>exact⟨k+1,by omega,by go_num,by rw [HZ.o];exact H6.o.1,H6.o.2⟩
   case measure=>simp [intOf];omega
 .have hk23:k=23:=by omega
  subst hk23;clear ho hb;go_wp2;go_ret;exact⟨_,rfl,HO.o,HB.o⟩):p:=h
theorem zq13 (h:p:=by
 clear hp;obtain⟨⟨o0,o1,o2,o3,o4,o5,o6⟩,_⟩:=HX2.o;obtain⟨⟨r0,r1,r2,r3,r4,r5,r6⟩,f0,f1,f2,f3,f4,f5⟩:=HR2.o;obtain⟨V,hV⟩:∃v,((((((w2.setCell ⟨w.heap.size+1,0,none⟩ ((.slice ad l.length cap))).setCell ⟨w.heap.size+1,1,none⟩ ((.slice sd st.length sap))).setCell ⟨w.heap.size+1,2,none⟩ (.string (S sc))).setCell ⟨w.heap.size+1,3,none⟩ (.string (S d))).setCell ⟨w.heap.size+1,4,none⟩ (.string (S p))).setCell ⟨w.heap.size+1,5,none⟩ (.int .i64 n))=v:=⟨_,rfl⟩;have hset:Chg (λb=>b=w.heap.size+1) w2 V:=by rw [<-hV];exact (((((((Chg.refl (λb=>b=w.heap.size+1) w2).setCell (p:=⟨w.heap.size+1,0,none⟩) rfl _).setCell (p:=⟨w.heap.size+1,1,none⟩) rfl _).setCell (p:=⟨w.heap.size+1,2,none⟩) rfl _).setCell (p:=⟨w.heap.size+1,3,none⟩) rfl _).setCell (p:=⟨w.heap.size+1,4,none⟩) rfl _).setCell (p:=⟨w.heap.size+1,5,none⟩) rfl _)
 have HRV:Hq (SOut (w.heap.size+1) ((.slice ad l.length cap)) ((.slice sd st.length sap)) sc d p n V):=⟨by rw [<-hV];exact ((HR2.o.set0 (x:=(.slice ad l.length cap))).set1 (x:=(.slice sd st.length sap)) (r:=sc)).set3 (d':=d) (p':=p) (n':=n)⟩;have HBV:=qh (Chg.a0n HB2.o hset HB2.o.size (λb h=>by have h9:b=w.heap.size+1:=h;omega));exact zq186):p:=h
theorem zq14 (h:p:=by
 obtain⟨⟨o0,o1,o2,o3,o4,o5,o6⟩,_⟩:=HX3.o;obtain⟨⟨r0,r1,r2,r3,r4,r5,r6⟩,f0,f1,f2,f3,f4,f5⟩:=HR3.o;obtain⟨V,hV⟩:∃v,((((((w3.setCell ⟨w.heap.size+1,0,none⟩ ((.slice ad l.length cap))).setCell ⟨w.heap.size+1,1,none⟩ ((.slice sd st.length sap))).setCell ⟨w.heap.size+1,2,none⟩ (.string (S sc))).setCell ⟨w.heap.size+1,3,none⟩ (.string (S d))).setCell ⟨w.heap.size+1,4,none⟩ (.string (S p))).setCell ⟨w.heap.size+1,5,none⟩ (.int .i64 n))=v:=⟨_,rfl⟩;have hset:Chg (λb=>b=w.heap.size+1) w3 V:=by rw [<-hV];exact (((((((Chg.refl (λb=>b=w.heap.size+1) w3).setCell (p:=⟨w.heap.size+1,0,none⟩) rfl _).setCell (p:=⟨w.heap.size+1,1,none⟩) rfl _).setCell (p:=⟨w.heap.size+1,2,none⟩) rfl _).setCell (p:=⟨w.heap.size+1,3,none⟩) rfl _).setCell (p:=⟨w.heap.size+1,4,none⟩) rfl _).setCell (p:=⟨w.heap.size+1,5,none⟩) rfl _)
 have HRV:Hq (SOut (w.heap.size+1) ((.slice ad l.length cap)) ((.slice sd st.length sap)) sc d p n V):=⟨by rw [<-hV];exact ((HR3.o.set0 (x:=(.slice ad l.length cap))).set1 (x:=(.slice sd st.length sap)) (r:=sc)).set3 (d':=d) (p':=p) (n':=n)⟩;have HBV:=qh (Chg.a0n HB3.o hset HB3.o.size (λb h=>by have h9:b=w.heap.size+1:=h;omega));go_wp2
 try rw [hV]
 clear hset hV;obtain⟨q0,q1,q2,q3,q4,q5,q6⟩:=HRV.o.1;refine bodyPost_ret (v:=.tuple #[a1a ((.slice ad l.length cap)) ((.slice sd st.length sap)) sc d p n,.string (S [63])]) (by simp [results,results237,go_sem,q0,q1,q2,q3,q4,q5]) rfl ⟨(.slice ad l.length cap),(.slice sd st.length sap),by rw [HP.o];rfl,by rw [HP.o];exact .inl ⟨rfl,rfl⟩,by rw [HP.o];exact .inl ⟨rfl,rfl⟩,HBV.o⟩):p:=h
theorem zq15 (h:p:=by
 go_enter func346,ntmps346
 go_wp2_with (first|(go_at_call 343;refine (a4x _ _).mono ?_;rintro e w' ⟨rfl,rfl⟩)|(go_at_call 371;refine (e0l _ _ hs).mono ?_;rintro e w' ⟨rfl,rfl⟩))
 go_ret;exact⟨a0a (by rw [FIN.o _ rfl,HC.o];simp),rfl⟩):p:=h
theorem zq16 (h:p:=by
 have HC2:=qh (H1.o.alloc (.cells #[.string (S [105,110,103]),.string (S [115]),.string (S [101,100]),.string (S [110,101,115,115]),.string (S [101,114]),.string (S [108,121])] 9));have HL:=qh (a1n [[105,110,103],[115],[101,100],[110,101,115,115],[101,114],[108,121]] w1 9);have HA2:=qh (HA1.o.alloc (.cells #[.string (S [105,110,103]),.string (S [115]),.string (S [101,100]),.string (S [110,101,115,115]),.string (S [101,114]),.string (S [108,121])] 9));clear HA1
 go_wp2_with fail
 refine (a4h B C (K+2) w1.heap.size 6 [[105,110,103],[115],[101,100],[110,101,115,115],[101,114],[108,121]] _ oZ dZ dZ sZ oZ HL.o HC2.o.1).mono ?_;rintro e w2 ⟨s,hs,rfl,hc⟩;have H2:=qh (HC2.o.trans hc);have HS:Hq (s.length<=20):=⟨(by decide:∀s∈([[105,110,103],[115],[101,100],[110,101,115,115],[101,114],[108,121]]:List Str),s.length<=20) s hs⟩;have HA3:=qh (HA2.o.a0b hc.2 oZ);clear hc hs HA2 HC2 H1 HL;obtain⟨b0,b1,f0,f1,_⟩:=HA3.o;go_wp2;refine bodyPost_ret (v:=a4z 2 s) (by simp [results,results252,go_sem,b0,b1]) rfl ⟨2,s,rfl,HS.o,?_⟩;exact zq198):p:=h
theorem zq17 (h:p:=by
 exact zq198):p:=h
theorem zq18 (h:p:=by
 exact zq192):p:=h
theorem zq19 (h:p:=by
 go_wp2_with (first|(go_at_call 343;refine (a4x _ _).mono ?_;rintro e w' ⟨rfl,rfl⟩)|(go_at_call 344;refine (a3s _ _ oZ).mono ?_;rintro e w' ⟨rfl,rfl⟩)|(go_at_call 345;refine (b9u _ _ _ oZ).mono ?_;rintro e w' ⟨rfl,rfl⟩)|(go_at_call 346;refine (a7g _ _ hx).mono ?_;rintro e w' ⟨rfl,rfl⟩))
 go_meet;exact⟨by simp [g4,g6,g8,g10,g12],rfl⟩):p:=h
theorem zq20 (h:p:=by
 rw [<-hW0];have h:=SOut.new (.slice none 0 0) (.slice none 0 0) [] [] [] 0 (w.alloc (a0d (.slice ad l.length cap) (.slice sd st.length sap) sc d p n))
 simpa using h):p:=h
theorem zq21 (h:p:=by
 try simp only [qA,qB,qC,Act.put,qD,qE,qF]
 refine lrd 11 λK hK=>?_;go_simp;refine a2p hK dZ ?_;clear hK K
 try simp only [qA,qB,qC,Act.put,qD,qE,qF]
 refine Left.done kZ ?_ _
 go_wp2_with fail
 go_meet;exact⟨rfl,HS7.o,HROW7.o,HB7.o,HC1.o⟩):p:=h
theorem zq22 (h:p:=by
 have f1:(((t[k].toNat:Nat):Int)==45)=true:=by rw [hd];rfl
 cases dh
 .by_cases h13:13<nx
  .have i2:13<(nx:Int):=by omega
   have HN:=qh (P.a5m (HR.o.trans (P.b4k (q:=(sn,nx,false)) hlt hd (.inr h13))));go_wp2;go_ret2;exact⟨by rw [HN.o];rfl,HB.o⟩
  .have i2:¬13<(nx:Int):=by omega
   have HN:=qh (HR.o.trans (P.d0w (q:=(sn,nx,false)) hlt hd rfl (by show nx<=13;omega)));have HI2:=qh (P.a7x (b:=45) (q':=(sn,13,true)) HI.o (by unfold P.a3g;rw [if_pos rfl,if_neg (by simp;omega)]));go_wp2
   go_roundw
   case rel=>
    exact⟨k+1,(sn,13,true),by omega,by go_num,rfl,rfl,rfl,HI2.o,HN.o,HB.o⟩
   case measure=>simp [intOf];omega
 .have HN:=qh (P.a5m (HR.o.trans (P.b4k (q:=(sn,nx,true)) hlt hd (.inl rfl))));go_wp2;go_ret2;exact⟨by rw [HN.o];rfl,HB.o⟩):p:=h
theorem zq23 (h:p:=by
 rintro e w2 hmp;obtain⟨x,ok,rfl,hx,hs,hc⟩:=hmp;have HX:=qh hx;have HS:=qh hs;have HC:=qh hc;clear hx hs hc;go_wp2;go_ret2;exact⟨x,ok,rfl,by rw [HP.o];exact HX.o,by rw [HP.o];exact HS.o,HC.o⟩):p:=h
theorem zq24 (h:p:=by
 exact zq199):p:=h
theorem zq25 (h:p:=by
 rw [<-hW0];exact (SOut.new (.slice ad l.length cap) (.slice sd st.length sap) sc d p n w).below (bZ.alloc lZ _)):p:=h
theorem zq26 (h:p:=by
 go_wp2;go_ret2;exact⟨x,ok,rfl,by rw [HP.o];exact HX.o,by rw [HP.o];exact HS.o,HC.o⟩):p:=h
theorem zq27 (h:p:=by
 go_wp2_with fail
 rw [<-HREST.o]
 go_wp2_with (first|(go_at_call 66;refine (b2i _ _ oZ).mono ?_;rintro e w1 ⟨v,rfl,hown1,hb1⟩;obtain⟨g,cap,rfl,hg,hgl,hcell,hl1⟩:=a8h hown1;clear hown1;have hz1':=hb1.size;have HB1:=qh hb1;clear hb1)|(go_at_call 198;refine (d3h _ _ _ oZ oZ oZ).mono ?_;rintro e w2 ⟨rfl,hb2⟩;rw [Int.toNat_natCast];obtain⟨hcc2,hff2⟩:=a6a hb2;have hz2':=hb2.size;have HB2:=qh hb2;clear hb2))
 go_ret2;exact⟨.slice ad out.length cp,by rw [<-HRUN.o,HST.o];rfl,by rw [<-HRUN.o,HST.o];exact (a2a (a2a HOWN.o HB1.o lZ) HB2.o lZ).alloc _,((HBEL.o.trans (HB1.o.mono hsz)).trans (HB2.o.mono oZ)).alloc oZ _⟩):p:=h
theorem zq28 (h:p:=by
 obtain⟨⟨h0,h1,h2,h3,h4,h5,h6⟩,f0,f1,f2,f3,f4,f5⟩:=h;exact⟨⟨by go_simp,by go_simp,by go_simp,by go_simp,by go_simp,by go_simp,by simpa [World.setCell] using h6⟩,by go_simp,by go_simp,by go_simp,by go_simp,by go_simp,by go_simp⟩):p:=h
theorem zq29 (h:p:=by
 rintro e v9 ⟨x,y,m,rfl,hd,ho,hm1,hm2,hb⟩;rw [HRR.o]at hd ho⊢;simp only at hd ho⊢;unfold a1d;have HLn:=qh (HL.o.below hb);have HRn:=qh (DfR.called HL.o hd ho hm1 hm2 HNL.o);obtain⟨xa,xc,rfl,-,-⟩:=hd;obtain⟨ya,yc,rfl⟩:=a0h ho;refine hK.out _ _ HLn.o.s (λhS9=>?_);clear hK K ho hm1 hm2 hb hS9
 try simp only [qA,qB,qC,Act.put,qD,qE,qF]
 refine tk0 12 HLn.o.s ?_;refine tk0 13 HLn.o.s ?_;refine tk0 14 HLn.o.s ?_;refine tk0 15 HLn.o.s ?_;refine tk0 16 HLn.o.s ?_;clear HL;exact e4q):p:=h
theorem zq30 (h:p:=by
 rintro e v9 ⟨x,y,m,rfl,hd,ho,hm1,hm2,hb⟩;rw [HRR.o]at hd ho⊢;simp only at hd ho⊢;unfold a1d;have HLn:=qh (HL.o.below hb);have HRn:=qh (DfR.called HL.o hd ho hm1 hm2 HNL.o);obtain⟨xa,xc,rfl,-,-⟩:=hd;obtain⟨ya,yc,rfl⟩:=a0h ho;refine hK.out _ _ HLn.o.s (λhS9=>?_);clear hK K ho hm1 hm2 hb hS9
 try simp only [qA,qB,qC,Act.put,qD,qE,qF]
 refine tk0 12 HLn.o.s ?_;refine tk0 13 HLn.o.s ?_;refine tk0 14 HLn.o.s ?_;refine tk0 15 HLn.o.s ?_;refine tk0 16 HLn.o.s ?_;clear HL;exact e2j):p:=h
theorem zq31 (h:p:=by
 rintro e v9 ⟨x,y,m,rfl,hd,ho,hm1,hm2,hb⟩;rw [HRR.o]at hd ho⊢;simp only at hd ho⊢;unfold a1d;have HLn:=qh (HL.o.below hb);have HRn:=qh (DfR.called HL.o hd ho hm1 hm2 HNL.o);obtain⟨xa,xc,rfl,-,-⟩:=hd;obtain⟨ya,yc,rfl⟩:=a0h ho;refine hK.out _ _ HLn.o.s (λhS9=>?_);clear hK K ho hm1 hm2 hb hS9
 try simp only [qA,qB,qC,Act.put,qD,qE,qF]
 refine tk0 12 HLn.o.s ?_;refine tk0 13 HLn.o.s ?_;refine tk0 14 HLn.o.s ?_;refine tk0 15 HLn.o.s ?_;refine tk0 16 HLn.o.s ?_;clear HL;exact e4v):p:=h
theorem zq32 (h:p:=by
 rintro e v9 ⟨x,y,m,rfl,hd,ho,hm1,hm2,hb⟩;rw [HRR.o]at hd ho⊢;simp only at hd ho⊢;unfold a1d;have HLn:=qh (HL.o.below hb);have HRn:=qh (DfR.called HL.o hd ho hm1 hm2 HNL.o);obtain⟨xa,xc,rfl,-,-⟩:=hd;obtain⟨ya,yc,rfl⟩:=a0h ho;refine hK.out _ _ HLn.o.s (λhS9=>?_);clear hK K ho hm1 hm2 hb hS9
 try simp only [qA,qB,qC,Act.put,qD,qE,qF]
 refine tk0 12 HLn.o.s ?_;refine tk0 13 HLn.o.s ?_;refine tk0 14 HLn.o.s ?_;refine tk0 15 HLn.o.s ?_;refine tk0 16 HLn.o.s ?_;clear HL;revert HRn;revert HLn;revert yc;revert ya;revert xc;revert xa;revert b3;revert v9;exact k1001):p:=h
theorem zq33 (h:p:=by
 rintro e v9 ⟨x,y,m,rfl,hd,ho,hm1,hm2,hb⟩;rw [HRR.o]at hd ho⊢;simp only at hd ho⊢;unfold a1d;have HLn:=qh (HL.o.below hb);have HRn:=qh (DfR.called HL.o hd ho hm1 hm2 HNL.o);obtain⟨xa,xc,rfl,-,-⟩:=hd;obtain⟨ya,yc,rfl⟩:=a0h ho;refine hK.out _ _ HLn.o.s (λhS9=>?_);clear hK K ho hm1 hm2 hb hS9
 try simp only [qA,qB,qC,Act.put,qD,qE,qF]
 refine tk0 12 HLn.o.s ?_;refine tk0 13 HLn.o.s ?_;refine tk0 14 HLn.o.s ?_;refine tk0 15 HLn.o.s ?_;refine tk0 16 HLn.o.s ?_;clear HL;revert HRn;revert HLn;revert yc;revert ya;revert xc;revert xa;revert b2;revert v9;exact k1010):p:=h
theorem zq34 (h:p:=by
 rintro e v9 ⟨x,y,m,rfl,hd,ho,hm1,hm2,hb⟩;rw [HRR.o]at hd ho⊢;simp only at hd ho⊢;unfold a1d;have HLn:=qh (HL.o.below hb);have HRn:=qh (DfR.called HL.o hd ho hm1 hm2 HNL.o);obtain⟨xa,xc,rfl,-,-⟩:=hd;obtain⟨ya,yc,rfl⟩:=a0h ho;refine hK.out _ _ HLn.o.s (λhS9=>?_);clear hK K ho hm1 hm2 hb hS9
 try simp only [qA,qB,qC,Act.put,qD,qE,qF]
 refine tk0 12 HLn.o.s ?_;refine tk0 13 HLn.o.s ?_;refine tk0 14 HLn.o.s ?_;refine tk0 15 HLn.o.s ?_;refine tk0 16 HLn.o.s ?_;clear HL;revert HRn;revert HLn;revert yc;revert ya;revert xc;revert xa;revert b1;revert v9;exact k1100):p:=h
theorem zq35 (h:p:=by
 rintro e v9 ⟨x,y,m,rfl,hd,ho,hm1,hm2,hb⟩;rw [HRR.o]at hd ho⊢;simp only at hd ho⊢;unfold a1d;have HLn:=qh (HL.o.below hb);have HRn:=qh (DfR.called HL.o hd ho hm1 hm2 HNL.o);obtain⟨xa,xc,rfl,-,-⟩:=hd;obtain⟨ya,yc,rfl⟩:=a0h ho;refine hK.out _ _ HLn.o.s (λhS9=>?_);clear hK K ho hm1 hm2 hb hS9
 try simp only [qA,qB,qC,Act.put,qD,qE,qF]
 refine tk0 12 HLn.o.s ?_;refine tk0 13 HLn.o.s ?_;refine tk0 14 HLn.o.s ?_;refine tk0 15 HLn.o.s ?_;refine tk0 16 HLn.o.s ?_;clear HL;revert HRn;revert HLn;revert yc;revert ya;revert xc;revert xa;revert v9;exact k1000):p:=h
theorem zq36 (h:p:=by
 obtain⟨_,_,_,⟨k3,k4,_⟩,⟨_,k5,k6,k7,k8⟩,⟨_,k9,k10,k11,k12⟩⟩:=HX4.o;go_wp2;refine bodyPost_ret (v:=.tuple #[.agg #[.slice none 0 0],a0y (.slice none 0 0) [],a1d (0,[]),.bool false]) (by simp [a0y,a1d,k3,k5,k6,k9,k10,results,results212,go_sem]) rfl ⟨.slice none 0 0,.slice none 0 0,w.heap.size,by rw [HP.o];rfl,by rw [HP.o];exact RowO.nil _ _,by rw [HP.o];exact World.ownsRow_nil _ _ _ _,Nat.le_refl _,?_,?_⟩
 .have h9:=HB4.o.size;simp only [World.setCell,Array.size_modify];omega
 .exact zq197):p:=h
theorem zq37 (h:p:=by
 go_enter func198,ntmps198
 go_wp2_with (first|(go_at_call 197;refine (c1a _ _ oZ oZ).mono ?_;rintro e w' ⟨rfl,n1,rfl⟩)|(go_at_call 66;((with_reducible refine (b1w _ _ oZ).mono ?_);rintro e w1 ⟨v,rfl,hown,hb⟩;obtain⟨g,cap,rfl,hg,hgl,hcell,hl1⟩:=a8h hown;clear hown;obtain⟨hcc,hff⟩:=a6a hb;have hz:=grew hb;have HB:=qh hb;clear hb)))
 refine bodyPost_ret (v:=.tuple #[.agg #[.string (S []),.string (S [])],.bool false]) (by simp [results,results198,go_sem,hcc]) rfl ⟨by rw [HF.o],?_⟩;exact ((below_drewN (bZ.alloc lZ _) _).trans (HB.o.mono sZ)).setCell sZ _ |>.setCell sZ _):p:=h
theorem zq38 (h:p:=by
 simp only [List.mem_cons,List.not_mem_nil,or_false]at hy
 rcases hy with rfl|rfl<;>rfl):p:=h
theorem zq39 (h:p:=by
 have HN:=qh (HR.o.trans (P.d8b (q:=(sn,nx,dh)) hlt HD.o (by show P.keyOf t[k] nx<23;rw [HKJ.o];exact hj23)));have HI2:=qh (P.a7x (b:=t[k]) (q':=(sn+2^P.keyOf t[k] nx,P.keyOf t[k] nx+1,dh)) HI.o (by unfold P.a3g;rw [if_neg HD.o,if_pos (by show P.keyOf t[k] nx<23;rw [HKJ.o];exact hj23)]));simp only [HKJ.o]at HN HI2;have e3:bits .or .i64 (sn:Int) (wrap64 (2^j))=((sn+2^j:Nat):Int):=by rw [e1];exact e2
 clear e1 e2
 go_wp2_with fail
 go_quiet (fail)
 go_wp2
 go_roundw
 case rel=>exact⟨k+1,(sn+2^j,j+1,dh),by omega,by go_num,by simp,by go_num,rfl,HI2.o,HN.o,below_drewN HB1.o _⟩
 case measure=>simp [intOf];omega):p:=h
theorem zq40 (h:p:=by
 go_wp2_with fail
 go_quiet (fail)
 go_wp2;refine bodyPost_ret (v:=.agg #[.int .i64 (P.least a b).1,.string (S (P.least a b).2)]) (by simp [P.least,HL.o,results,results208,go_sem,HSB.o]) rfl ⟨rfl,((below_drewN (bZ.alloc lZ _) _).setCell lZ _).setCell lZ _⟩):p:=h
theorem zq41 (h:p:=by
 go_wp2_with fail
 go_quiet (fail)
 go_wp2;refine bodyPost_ret (v:=.agg #[.int .i64 (P.least a b).1,.string (S (P.least a b).2)]) (by simp [P.least,HL.o,results,results234,go_sem,HSB.o]) rfl ⟨rfl,((below_drewN (bZ.alloc lZ _) _).setCell lZ _).setCell lZ _⟩):p:=h
theorem zq42 (h:p:=by
 skip;go_simp;have HLn:=qh (HL.o.a5u);have HRn:=qh (HR.o.alloc (.cells #[.slice none 0 0,.string (S [])] 35) (.inl rfl) (.inr rfl) (.inl rfl));refine hK.out _ _ HLn.o.s (λ_=>?_);clear hK K
 try simp only [qA,qB,qC,Act.put,qD,qE,qF]
 clear HL HR;generalize v.alloc (.cells #[.slice none 0 0,.string (S [])] 35)=v9 at HLn HRn⊢;generalize v.heap.size=b2 at HLn HRn⊢;exact e4q):p:=h
theorem zq43 (h:p:=by
 skip;go_simp;have HLn:=qh (HL.o.a5u);have HRn:=qh (HR.o.alloc (.cells #[.slice none 0 0,.string (S [])] 35) (.inl rfl) (.inr rfl) (.inl rfl));refine hK.out _ _ HLn.o.s (λ_=>?_);clear hK K
 try simp only [qA,qB,qC,Act.put,qD,qE,qF]
 clear HL HR;generalize v.alloc (.cells #[.slice none 0 0,.string (S [])] 35)=v9 at HLn HRn⊢;generalize v.heap.size=b2 at HLn HRn⊢;exact e4v):p:=h
theorem zq44 (h:p:=by
 skip;go_simp;have HLn:=qh (HL.o.b2y);have HRn:=qh (HR.o.alloc (.cells #[.int .i64 0,.string (S [])] 55) (.inl rfl) (.inl rfl) (.inr rfl));refine hK.out _ _ HLn.o.s (λ_=>?_);clear hK K
 try simp only [qA,qB,qC,Act.put,qD,qE,qF]
 clear HL HR;generalize v.alloc (.cells #[.int .i64 0,.string (S [])] 55)=v9 at HLn HRn⊢;generalize v.heap.size=b3 at HLn HRn⊢;exact e4q):p:=h
theorem zq45 (h:p:=by
 skip;go_simp;have HLn:=qh (HL.o.b2y);have HRn:=qh (HR.o.alloc (.cells #[.int .i64 0,.string (S [])] 55) (.inl rfl) (.inl rfl) (.inr rfl));refine hK.out _ _ HLn.o.s (λ_=>?_);clear hK K
 try simp only [qA,qB,qC,Act.put,qD,qE,qF]
 clear HL HR;generalize v.alloc (.cells #[.int .i64 0,.string (S [])] 55)=v9 at HLn HRn⊢;generalize v.heap.size=b3 at HLn HRn⊢;exact e2j):p:=h
theorem zq46 (h:p:=by
 skip;go_simp;have HLn:=qh (HL.o.a5u);have HRn:=qh (HR.o.alloc (.cells #[.slice none 0 0,.string (S [])] 35) (.inl rfl) (.inr rfl) (.inl rfl));refine hK.out _ _ HLn.o.s (λ_=>?_);clear hK K
 try simp only [qA,qB,qC,Act.put,qD,qE,qF]
 clear HL HR;generalize v.alloc (.cells #[.slice none 0 0,.string (S [])] 35)=v9 at HLn HRn⊢;generalize v.heap.size=b2 at HLn HRn⊢;revert HRn;revert HLn;revert yc;revert ya;revert xc;revert xa;revert b2;revert v9;exact k1010):p:=h
theorem zq47 (h:p:=by
 skip;go_simp;have HLn:=qh (HL.o.b2y);have HRn:=qh (HR.o.alloc (.cells #[.int .i64 0,.string (S [])] 55) (.inl rfl) (.inl rfl) (.inr rfl));refine hK.out _ _ HLn.o.s (λ_=>?_);clear hK K
 try simp only [qA,qB,qC,Act.put,qD,qE,qF]
 clear HL HR;generalize v.alloc (.cells #[.int .i64 0,.string (S [])] 55)=v9 at HLn HRn⊢;generalize v.heap.size=b3 at HLn HRn⊢;revert HRn;revert HLn;revert yc;revert ya;revert xc;revert xa;revert b3;revert v9;exact k1001):p:=h
theorem zq48 (h:p:=by
 skip;go_simp;have HLn:=qh (HL.o.a5s);have HRn:=qh (HR.o.alloc (.cells #[.slice none 0 0] 26) (.inr rfl) (.inl rfl) (.inl rfl));refine hK.out _ _ HLn.o.s (λ_=>?_);clear hK K
 try simp only [qA,qB,qC,Act.put,qD,qE,qF]
 clear HL HR;generalize v.alloc (.cells #[.slice none 0 0] 26)=v9 at HLn HRn⊢;generalize v.heap.size=b1 at HLn HRn⊢;exact e2j):p:=h
theorem zq49 (h:p:=by
 skip;go_simp;have HLn:=qh (HL.o.a5s);have HRn:=qh (HR.o.alloc (.cells #[.slice none 0 0] 26) (.inr rfl) (.inl rfl) (.inl rfl));refine hK.out _ _ HLn.o.s (λ_=>?_);clear hK K
 try simp only [qA,qB,qC,Act.put,qD,qE,qF]
 clear HL HR;generalize v.alloc (.cells #[.slice none 0 0] 26)=v9 at HLn HRn⊢;generalize v.heap.size=b1 at HLn HRn⊢;exact e4v):p:=h
theorem zq50 (h:p:=by
 skip;go_simp;have HLn:=qh (HL.o.a5s);have HRn:=qh (HR.o.alloc (.cells #[.slice none 0 0,.string (S [])] 35) (.inr rfl) (.inl rfl));refine hK.out _ _ HLn.o.s (λ_=>?_);clear hK K
 try simp only [qA,qB,qC,Act.put,qD,qE,qF]
 clear HL HR;generalize v.alloc (.cells #[.slice none 0 0,.string (S [])] 35)=v9 at HLn HRn⊢;generalize v.heap.size=b1 at HLn HRn⊢;exact e3c):p:=h
theorem zq51 (h:p:=by
 skip;go_simp;have HLn:=qh (HL.o.a5s);have HRn:=qh (HR.o.alloc (.cells #[.slice none 0 0] 26) (.inr rfl) (.inl rfl) (.inl rfl));refine hK.out _ _ HLn.o.s (λ_=>?_);clear hK K
 try simp only [qA,qB,qC,Act.put,qD,qE,qF]
 clear HL HR;generalize v.alloc (.cells #[.slice none 0 0] 26)=v9 at HLn HRn⊢;generalize v.heap.size=b1 at HLn HRn⊢;revert HRn;revert HLn;revert yc;revert ya;revert xc;revert xa;revert b1;revert v9;exact k1100):p:=h
theorem zq52 (h:p:=by
 skip;go_simp;have HLn:=qh (HL.o.a5u);have HRn:=qh (HR.o.alloc (.cells #[.int .i64 0,.string (S [])] 55) (.inl rfl) (.inr rfl));refine hK.out _ _ HLn.o.s (λ_=>?_);clear hK K
 try simp only [qA,qB,qC,Act.put,qD,qE,qF]
 clear HL HR;generalize v.alloc (.cells #[.int .i64 0,.string (S [])] 55)=v9 at HLn HRn⊢;generalize v.heap.size=b2 at HLn HRn⊢;exact e3e):p:=h
theorem zq53 (h:p:=by
 go_wp2_with (go_at_call 187;refine (l1In _ _ _ _).mono ?_;rintro e w' ⟨rfl,rfl⟩;rw [HDQ.o])
 go_roundw
 case rel=>exact⟨j+1,_,true,hy,by omega,by go_num,by first|rfl|(simp;rfl),rfl,rfl,HZ.o,by first|trivial|rfl⟩
 case measure=>simp [intOf];omega):p:=h
theorem zq54 (h:p:=by
 have i1:(x.length:Int)-1=((x.length-1:Nat):Int):=by omega
 have i2:x.length-1<=x.length:=by omega
 go_wp2;go_ret;exact⟨a1v (by rw [HJ.o]<;>simp),rfl⟩):p:=h
theorem zq55 (h:p:=by
 subst hW0;refine⟨⟨by simp<;>omega,by go_simp⟩,⟨by simp<;>omega,by go_simp,by go_simp,by go_simp,by go_simp⟩,⟨by simp<;>omega,by go_simp,by go_simp,by go_simp,by go_simp⟩,⟨by simp,by go_simp,by go_simp,by go_simp,by go_simp⟩⟩):p:=h
theorem zq56 (h:p:=by
 exact (((((HB0.o.trans (HB1.o.mono HB0.o.size)).setCell (by simp<;>omega) _).setCell (by simp<;>omega) _).setCell (by simp<;>omega) _).setCell (by simp<;>omega) _)):p:=h
theorem zq57 (h:p:=by
 have hn:news=[]:=List.eq_nil_of_length_eq_zero (by simpa using hl);subst hn;subst hsize;refine⟨v,w,?_,by simpa using hown,⟨rfl,rfl,rfl,Nat.le_refl _,λ_ _ _=>rfl⟩,by simp⟩
 rcases hown.2 with⟨rfl,rfl⟩|⟨g,cap,cur,rfl,hbg,hg,hnc,hcm,hcs,htake⟩
 .simp [Builtin.append_,run_underlying ht,sizeOf,typeInfo,hi,Builtin.lenOf,Builtin.firstCells]
 .simp [Builtin.append_,run_underlying ht,sizeOf,typeInfo,hi,Builtin.lenOf,Builtin.firstCells,loadCells,hnc,storeCells]):p:=h
theorem zq58 (h:p:=by
 injection he with h1 h2 h4
 rcases h3 with h3|⟨g,o,h5,h6,h7⟩
 .rw [h3]at hj;exact absurd hj (Nat.not_lt_zero _)
 .exact⟨g,o,h1.trans h5,h6,h7 j hj⟩):p:=h
theorem zq59 (h:p:=by
 rcases h.2 with⟨rfl,h0⟩|⟨g,cap,cur,hv,_⟩
 .exact⟨none,0,by rw [h0]⟩
 .exact⟨_,cap,hv⟩):p:=h
theorem zq60 (h:p:=by
 have hkl:k=t.length:=by omega
 subst hkl;have HN:=qh (P.b0i (HR.o.trans (by rw [List.drop_length];rfl)));simp only at HN
 by_cases h0:sn=0
 .have f0:((sn:Int) != 0)=false:=by subst h0;rfl
  go_wp2;go_ret2;exact⟨by rw [HN.o];simp [h0],HB.o⟩
 .have f0:((sn:Int) != 0)=true:=by
   show (!_)=true
   rw [beq_eq_false_iff_ne.2 oZ];rfl
  go_wp2;go_ret2;exact⟨by rw [HN.o];simp [h0],HB.o⟩):p:=h
theorem zq61 (h:p:=by
 go_enter func219,ntmps219
 go_wp2_with (first|(go_at_call 277;refine (c1p _ _ hs').mono ?_;rintro e w' ⟨rfl,rfl⟩;rw [if_pos h1,HD1.o])|(go_at_call 145;refine (a6d _ _ oZ oZ HE.o).mono ?_;rintro e w' ⟨rfl,hb⟩;have HB:=qh hb;clear hb;rw [Int.toNat_natCast])|(go_at_call 136;refine (contains_one _ 35 _).mono ?_;rintro e w' ⟨rfl,rfl⟩))
 go_ret2;exact⟨by rw [HF.o];rfl,HB.o⟩):p:=h
theorem zq62 (h:p:=by
 skip;go_simp;have HLn:=qh (HL.o.a5u);refine hK.out _ _ HLn.o.s (λ_=>?_);clear hK K
 try simp only [qA,qB,qC,Act.put,qD,qE,qF]
 clear HL;generalize v.alloc (.cells #[.slice none 0 0,.string (S [])] 35)=v9 at HLn⊢;generalize v.heap.size=b2 at HLn⊢;revert HLn;revert b3;revert b2;revert b1;revert v9;exact k0111):p:=h
theorem zq63 (h:p:=by
 skip;go_simp;have HLn:=qh (HL.o.b2y);refine hK.out _ _ HLn.o.s (λ_=>?_);clear hK K
 try simp only [qA,qB,qC,Act.put,qD,qE,qF]
 clear HL;generalize v.alloc (.cells #[.int .i64 0,.string (S [])] 55)=v9 at HLn⊢;generalize v.heap.size=b3 at HLn⊢;revert HLn;revert b3;revert b2;revert b1;revert v9;exact k0111):p:=h
theorem zq64 (h:p:=by
 skip;go_simp;have HLn:=qh (HL.o.a5u);refine hK.out _ _ HLn.o.s (λ_=>?_);clear hK K
 try simp only [qA,qB,qC,Act.put,qD,qE,qF]
 clear HL;generalize v.alloc (.cells #[.slice none 0 0,.string (S [])] 35)=v9 at HLn⊢;generalize v.heap.size=b2 at HLn⊢;revert HLn;revert b3;revert b2;revert v9;exact k0011):p:=h
theorem zq65 (h:p:=by
 skip;go_simp;have HLn:=qh (HL.o.a5u);refine hK.out _ _ HLn.o.s (λ_=>?_);clear hK K
 try simp only [qA,qB,qC,Act.put,qD,qE,qF]
 clear HL;generalize v.alloc (.cells #[.slice none 0 0,.string (S [])] 35)=v9 at HLn⊢;generalize v.heap.size=b2 at HLn⊢;revert HLn;revert b2;revert b1;revert v9;exact k0110):p:=h
theorem zq66 (h:p:=by
 skip;go_simp;have HLn:=qh (HL.o.a5s);refine hK.out _ _ HLn.o.s (λ_=>?_);clear hK K
 try simp only [qA,qB,qC,Act.put,qD,qE,qF]
 clear HL;generalize v.alloc (.cells #[.slice none 0 0,.string (S [])] 35)=v9 at HLn⊢;generalize v.heap.size=b1 at HLn⊢;revert HLn;revert b2;revert b1;revert v9;exact k011):p:=h
theorem zq67 (h:p:=by
 skip;go_simp;have HLn:=qh (HL.o.b2y);refine hK.out _ _ HLn.o.s (λ_=>?_);clear hK K
 try simp only [qA,qB,qC,Act.put,qD,qE,qF]
 clear HL;generalize v.alloc (.cells #[.int .i64 0,.string (S [])] 55)=v9 at HLn⊢;generalize v.heap.size=b3 at HLn⊢;revert HLn;revert b3;revert b2;revert v9;exact k0011):p:=h
theorem zq68 (h:p:=by
 skip;go_simp;have HLn:=qh (HL.o.b2y);refine hK.out _ _ HLn.o.s (λ_=>?_);clear hK K
 try simp only [qA,qB,qC,Act.put,qD,qE,qF]
 clear HL;generalize v.alloc (.cells #[.int .i64 0,.string (S [])] 55)=v9 at HLn⊢;generalize v.heap.size=b3 at HLn⊢;revert HLn;revert b3;revert b1;revert v9;exact k0101):p:=h
theorem zq69 (h:p:=by
 skip;go_simp;have HLn:=qh (HL.o.a5u);refine hK.out _ _ HLn.o.s (λ_=>?_);clear hK K
 try simp only [qA,qB,qC,Act.put,qD,qE,qF]
 clear HL;generalize v.alloc (.cells #[.int .i64 0,.string (S [])] 55)=v9 at HLn⊢;generalize v.heap.size=b2 at HLn⊢;revert HLn;revert b2;revert b1;revert v9;exact k011):p:=h
theorem zq70 (h:p:=by
 skip;go_simp;have HLn:=qh (HL.o.a5s);refine hK.out _ _ HLn.o.s (λ_=>?_);clear hK K
 try simp only [qA,qB,qC,Act.put,qD,qE,qF]
 clear HL;generalize v.alloc (.cells #[.slice none 0 0] 26)=v9 at HLn⊢;generalize v.heap.size=b1 at HLn⊢;revert HLn;revert b3;revert b2;revert b1;revert v9;exact k0111):p:=h
theorem zq71 (h:p:=by
 skip;go_simp;have HLn:=qh (HL.o.a5u);refine hK.out _ _ HLn.o.s (λ_=>?_);clear hK K
 try simp only [qA,qB,qC,Act.put,qD,qE,qF]
 clear HL;generalize v.alloc (.cells #[.slice none 0 0,.string (S [])] 35)=v9 at HLn⊢;generalize v.heap.size=b2 at HLn⊢;revert HLn;revert b2;revert v9;exact k0010):p:=h
theorem zq72 (h:p:=by
 skip;go_simp;have HLn:=qh (HL.o.a5s);refine hK.out _ _ HLn.o.s (λ_=>?_);clear hK K
 try simp only [qA,qB,qC,Act.put,qD,qE,qF]
 clear HL;generalize v.alloc (.cells #[.slice none 0 0,.string (S [])] 35)=v9 at HLn⊢;generalize v.heap.size=b1 at HLn⊢;revert HLn;revert b1;revert v9;exact k010):p:=h
theorem zq73 (h:p:=by
 clear hml
 go_wp2_with fail
 refine (d3z _ acc _ (a2j HOWN.o oZ)).mono ?_;rintro e w2 ⟨rfl,rfl⟩;rw [HOQ.o]at HQ⊢
 cases q
 .go_wp2;go_ret2;exact⟨.slice (some ⟨wr.heap.size,0,none⟩) 0 0,by rw [HQ.o];rfl,by rw [HQ.o];exact c2n _ _ HBEL.o.size,HBEL.o.alloc HBEL.o.size _⟩
 .go_wp2;go_ret2;exact⟨_,by rw [HQ.o];rfl,by rw [HQ.o];exact HOWN.o,HBEL.o⟩):p:=h
theorem zq74 (h:p:=by
 skip;go_simp;have HLn:=qh (HL.o.b2y);refine hK.out _ _ HLn.o.s (λ_=>?_);clear hK K
 try simp only [qA,qB,qC,Act.put,qD,qE,qF]
 clear HL;generalize v.alloc (.cells #[.int .i64 0,.string (S [])] 55)=v9 at HLn⊢;generalize v.heap.size=b3 at HLn⊢;revert HLn;revert b3;revert v9;exact k0001):p:=h
theorem zq75 (h:p:=by
 skip;go_simp;have HLn:=qh (HL.o.a5u);refine hK.out _ _ HLn.o.s (λ_=>?_);clear hK K
 try simp only [qA,qB,qC,Act.put,qD,qE,qF]
 clear HL;generalize v.alloc (.cells #[.int .i64 0,.string (S [])] 55)=v9 at HLn⊢;generalize v.heap.size=b2 at HLn⊢;revert HLn;revert b2;revert v9;exact k001):p:=h
theorem zq76 (h:p:=by
 skip;go_simp;have HLn:=qh (HL.o.a5s);refine hK.out _ _ HLn.o.s (λ_=>?_);clear hK K
 try simp only [qA,qB,qC,Act.put,qD,qE,qF]
 clear HL;generalize v.alloc (.cells #[.slice none 0 0] 26)=v9 at HLn⊢;generalize v.heap.size=b1 at HLn⊢;revert HLn;revert b3;revert b1;revert v9;exact k0101):p:=h
theorem zq77 (h:p:=by
 skip;go_simp;have HLn:=qh (HL.o.a5s);refine hK.out _ _ HLn.o.s (λ_=>?_);clear hK K
 try simp only [qA,qB,qC,Act.put,qD,qE,qF]
 clear HL;generalize v.alloc (.cells #[.slice none 0 0] 26)=v9 at HLn⊢;generalize v.heap.size=b1 at HLn⊢;revert HLn;revert b2;revert b1;revert v9;exact k0110):p:=h
theorem zq78 (h:p:=by
 skip;go_simp;have HLn:=qh (HL.o.a5s);refine hK.out _ _ HLn.o.s (λ_=>?_);clear hK K
 try simp only [qA,qB,qC,Act.put,qD,qE,qF]
 clear HL;generalize v.alloc (.cells #[.slice none 0 0] 26)=v9 at HLn⊢;generalize v.heap.size=b1 at HLn⊢;revert HLn;revert b1;revert v9;exact k0100):p:=h
theorem zq79 (h:p:=by
 rw [HD.o]
 show Ents _ _ _ l
 refine (HI.o.a0b (X:=λb=>b=w.heap.size+1) a0f ((((((((Chg.refl _ w2).setCell ?_ _).setCell ?_ _).setCell ?_ _).setCell ?_ _).setCell ?_ _).setCell ?_ _)) ?_).wide ?_ ?_
 all_goals first|rfl|skip
 .intro b hb;have:=hb.1;omega
 .intro b hb;have h1:=hb.1;have h2:=hb.2;exact⟨by omega,by simp [World.setCell];exact h2⟩
 .intro b hb;exact hb.2):p:=h
theorem zq80 (h:p:=by
 go_wp2_with (first|(go_at_call 343;refine (a4x _ _).mono ?_;rintro e w' ⟨rfl,rfl⟩)|(go_at_call 344;refine (a3s _ _ oZ).mono ?_;rintro e w' ⟨rfl,rfl⟩)|(go_at_call 345;refine (b9u _ _ _ oZ).mono ?_;rintro e w' ⟨rfl,rfl⟩)|(go_at_call 346;refine (a7g _ _ hx).mono ?_;rintro e w' ⟨rfl,rfl⟩))
 go_meet;exact⟨by simp [g4,g6,g8,g10],rfl⟩):p:=h
theorem zq81 (h:p:=by
 go_wp2_with (first|(go_at_call 343;refine (a4x _ _).mono ?_;rintro e w' ⟨rfl,rfl⟩)|(go_at_call 344;refine (a3s _ _ oZ).mono ?_;rintro e w' ⟨rfl,rfl⟩)|(go_at_call 345;refine (b9u _ _ _ oZ).mono ?_;rintro e w' ⟨rfl,rfl⟩)|(go_at_call 346;refine (a7g _ _ hx).mono ?_;rintro e w' ⟨rfl,rfl⟩))
 go_meet;exact⟨by simp [g4,g6,g8],rfl⟩):p:=h
theorem zq82 (h:p:=by
 go_wp2_with (first|(go_at_call 343;refine (a4x _ _).mono ?_;rintro e w' ⟨rfl,rfl⟩)|(go_at_call 344;refine (a3s _ _ oZ).mono ?_;rintro e w' ⟨rfl,rfl⟩)|(go_at_call 345;refine (b9u _ _ _ oZ).mono ?_;rintro e w' ⟨rfl,rfl⟩)|(go_at_call 346;refine (a7g _ _ hx).mono ?_;rintro e w' ⟨rfl,rfl⟩))
 go_meet;exact⟨by simp [g4,g6],rfl⟩):p:=h
theorem zq83 (h:p:=by
 go_enter func343,ntmps343
 go_wp2;go_ret;exact⟨a0a (by rw [HV.o];rfl),rfl⟩):p:=h
theorem zq84 (h:p:=by
 go_wp2_with fail
 refine (e0f B C (N+202) _ oZ H3.o.cur.1).mono ?_;rintro e w4 ⟨m,hm,rfl,hc⟩;have H4:=qh (H3.o.draw hc);clear hc
 go_wp2_with fail
 refine (b0g m _ hm).mono ?_;rintro e w5 ⟨rfl,hb⟩;have H5:=qh (H4.o.call hb);have hfl:=P.a8o (m:Int);clear hb;go_wp2;go_ret;exact⟨_,rfl,by simp;omega,H5.o.cur.mono oZ⟩):p:=h
theorem zq85 (h:p:=by
 go_enter func296,ntmps296
 go_wp2;refine bodyPost_ret (v:=a4z 1 s) (by simp [results,results296,go_sem]) rfl ⟨by rw [HF.o],bZ.alloc lZ _⟩):p:=h
theorem zq86 (h:p:=by
 go_wp2;go_ret;exact⟨a1v (by rw [HJ.o]<;>simp),rfl⟩):p:=h
theorem zq87 (h:p:=by
 have f3:((((a[j]'h1).toNat:Nat):Int)==(((b[j]'h2).toNat:Nat):Int))=true:=by rw [h3];simp
 have HT:=qh (show a.take (j+1)=b.take (j+1) by rw [a0g a j h1,a0g b j h2,HPRE.o,h3])
 go_wp2_with fail
 go_quiet (fail)
 go_wp2
 go_roundw
 case rel=>exact⟨j+1,by omega,by omega,by go_num,HT.o,_,rfl⟩
 case measure=>simp [intOf];omega):p:=h
theorem zq88 (h:p:=by
 obtain⟨v',w',hr,h2,h3,h4⟩:=b0q (P:=P) w base t o.type e i z size bytes ht hi hz hsize hby hzs hsz v n xs hown u m news hsrc h63 hbytes hbase;unfold Oper.wp execOp;simp only [ho,resolve,invoke,builtin,Sem.run_bind,Sem.run_pure,Result.andThen_ok,List.map_toArray,List.map_cons,List.map_nil,hs,hx,hr];exact hK _ _ (h v' w' h2 h3 h4)):p:=h
theorem zq89 (h:p:=by
 by_cases ht1:200<t1.length
 .have i5:(200:Int)<(t1.length:Int):=by omega
  have HR:=qh (HRP.o.trans (if_pos ht1));go_wp2;go_meet;exact⟨by rw [HR.o];rfl,rfl⟩
 .have i5:¬(200:Int)<(t1.length:Int):=by omega
  have HR:=qh (HRP.o.trans (if_neg ht1));go_wp2;go_meet;exact⟨by rw [HR.o],rfl⟩):p:=h
theorem zq90 (h:p:=by
 subst hv;rw [Nat.zero_add];have hw:=(h2 j hj).1
 have hlt2:j*wd+i<l.length*wd:=by
  have:=Nat.mul_le_mul_right wd (show j+1<=l.length by omega);rw [Nat.add_mul]at this;omega
 refine⟨(World.ownsRow.cellAt h1 (j*wd+i) hlt2).trans ?_,World.ownsRow.frozenAt h1 _⟩;rw [h0];exact b5m (λj hj=>(h2 j hj).1) j i hj hi):p:=h
theorem zq91 (h:p:=by
 intro hy
 rcases h1.2 with⟨rfl,_⟩|⟨g,cap,cur,rfl,_,hh,_⟩
 .simp [Value.ownBlock]at hk
 rcases h2.2 with⟨rfl,_⟩|⟨g2,cap2,cur2,rfl,_,hh2,_⟩
 .simp [Value.ownBlock]at hy
 simp [Value.ownBlock]at hy hk;subst hy;subst hk;rw [hh]at hh2;injection hh2 with hh2;injection hh2 with _ e2 _;exact absurd e2 dZ):p:=h
theorem zq92 (h:p:=by
 go_round
 case rel=>exact⟨m+1+1,by omega,by go_num,by rw [HZ.o]⟩
 case measure=>simp [intOf];omega):p:=h
theorem zq93 (h:p:=by
 obtain⟨ad,cap,h1,h2,hn,h3⟩:=h;refine⟨ad,cap,h1,h2,hn,h3.imp id ?_⟩;rintro⟨g,o,h4,h5,h6⟩;refine⟨g,o,h4,Nat.lt_of_lt_of_le h5 hb.size,λj hj=>?_⟩;obtain⟨x,a,b,c⟩:=h6 j hj;exact⟨x,(hb.cell (p:=⟨g,_,none⟩) h5).trans a,(hb.cell (p:=⟨g,_,none⟩) h5).trans b,c.below hb⟩):p:=h
theorem zq94 (h:p:=by
 obtain⟨a1,a2,a3,b1,b2,b3,hz⟩:=h;exact⟨by go_simp,by go_simp,by go_simp,by simpa using b1,by simpa using b2,by simpa using b3,by simpa using hz⟩):p:=h
theorem zq95 (h:p:=by
 go_wp2_with fail
 refine (b3e _ o _ HR3.o.now HOK.o).mono ?_;rintro e w4 ⟨rfl,hb⟩;have H4:=qh (H3.o.call hb);have hfl:=P.a5h 47 o;clear hb;have f1:¬9223372036854775807<5+(P.fmtS 47 o).length:=by omega
 exact e4l):p:=h
theorem zq96 (h:p:=by
 rw [<-hW0];exact⟨(SOut.new (.slice ad l.length cap) (.slice sd st.length sap) sc d p n w).below (bZ.alloc lZ _),by have h:=SOut.new (.slice none 0 0) (.slice none 0 0) [] [] [] 0 (w.alloc (a0d (.slice ad l.length cap) (.slice sd st.length sap) sc d p n));simpa using h⟩):p:=h
theorem zq97 (h:p:=by
 exact ((A3.o.below.setCell (by simp;omega) _).setCell (by simp;omega) _).setCell (by simp;omega) _):p:=h
theorem zq98 (h:p:=by
 go_ret;exact⟨(by first|(rw [HF.o];done)|(rw [HF.o];rfl)),rfl⟩):p:=h
theorem zq99 (h:p:=by
 rw [HQ.o]at HZ
 go_wp2_with (go_at_call 187;refine (l1In _ _ _ _).mono ?_;rintro e w' ⟨rfl,rfl⟩;rw [HDQ.o])
 go_roundw
 case rel=>exact⟨j+1,_,false,true,by omega,by go_num,by first|rfl|(simp;rfl),rfl,rfl,HZ.o,by first|trivial|rfl⟩
 case measure=>simp [intOf];omega):p:=h
theorem e3l (h:p:=by
 go_wp2;go_ret;exact⟨_,rfl,by simp;omega,H5.o.cur.mono oZ⟩):p:=h
theorem e2t (h:p:=by
 go_wp2_with (go_at_call 273;refine (a8y _ _).mono ?_;rintro e w' ⟨rfl,rfl⟩)
 go_meet;exact⟨_,rfl,by rw [HCL.o];rfl,Below.refl _ _⟩):p:=h
theorem zq102 (h:p:=by
 have HN:=qh (P.a5m (HR.o.trans (P.c5y (q:=(sn,nx,dh)) hlt HD.o (by show 23<=P.keyOf t[k] nx;rw [<-HK.o,P.d4k lZ];exact Nat.le_refl _))))
 go_wp2_with fail
 go_quiet (fail)
 go_wp2;go_ret2;exact⟨by rw [HN.o];rfl,below_drewN HB1.o _⟩):p:=h
theorem d9y (h:p:=by
 have HK:=qh hok;clear hok;go_wp2;go_ret;exact⟨a0a (by rw [HK.o];rfl),HB1.o⟩):p:=h
theorem zq104 (h:p:=by
 go_wp2;refine bodyPost_ret (v:=.tuple #[.agg #[.string (S []),.string (S [])],.int .i64 0,.bool false]) (by simp [results,results148,go_sem]) rfl ⟨by rw [HF.o];rfl,?_⟩;exact ((below_drewN (bZ.alloc lZ _) _).setCell sZ _).setCell sZ _):p:=h
theorem zq105 (h:p:=by
 clear hd3 h3
 have hback:=run_convert_bytes_back (P:=Tryz.prog) w3 22 9 5 ⟨w1.heap.size,0,none⟩ cap l underlying22 underlying5 underlying9 (by
  intro j hj
  rw [add0]
  exact hcell' j hj)
 clear hcell' hfz' hc0 hc1;go_wp2;go_ret2;exact⟨by rw [HF.o];rfl,HBB.o⟩):p:=h
theorem zq106 (h:p:=by
 simp only [if_neg e];have hj':j<l.length:=by simp at hj;omega
 refine⟨(h2 j hj').1,?_⟩;rw [List.getElem_append_left hj'];refine hE.keep (h2 j hj').2 ⟨by omega,λb hb=>?_⟩;have h5:=h3 j hj' b hb;rw [hgB b oZ h5.2.2,hb2.block b oZ,hb1.block b oZ]):p:=h
theorem zq107 (h:p:=by
 have hsn:=d9e s k hlt;have HS:=qh hsn;clear hsn;have hc:=s[k].toNat_lt;generalize hg:P.sum (List.take k s)=g at *;have HG:=qh hg;clear hg;go_wp2
 go_round
 case rel=>exact⟨k+1,by omega,by go_num,by rw [HS.o];go_num⟩
 case measure=>simp [intOf];omega):p:=h
theorem zq108 (h:p:=by
 have hjl:j=rs.length:=by omega
 subst hjl;have HEND:Hq (b1k (P.a4a l (d,p,n)) w (.returned (.tuple #[.int .i64 (rs.length:Int),.bool true])) wr):=⟨by rw [HP.o,HFB.o,List.drop_length];exact⟨rfl,HBR.o⟩⟩;clear hrow;go_wp2;go_ret2;exact HEND.o):p:=h
theorem zq109 (h:p:=by
 clear hj
 go_enter func174,ntmps174
 go_wp2_with (first|(go_at_call 242;refine (e1v _ _ oZ).mono ?_;rintro e w' ⟨rfl,rfl⟩)|(go_at_call 243;refine (l9Join _ _ _ hx hyl hy0).mono ?_;rintro e w' ⟨rfl,rfl⟩))
 go_ret2;exact⟨by rw [HJ.o];rfl,rfl⟩):p:=h
theorem e0i (h:p:=by
 repeat (refine Below.setCell ?_ (by first|(simp;done)|(simp;omega)) _)
 exact HT.o.2.2.2):p:=h
theorem zq111 (h:p:=by
 obtain⟨h1,h2,h3,h4,h5⟩:=h;exact⟨Nat.lt_of_lt_of_le h1 hc.size,(hc.cell (p:=⟨b,0,none⟩) h1 hX).trans h2,(hc.cell (p:=⟨b,1,none⟩) h1 hX).trans h3,(hc.frozen (p:=⟨b,0,none⟩) h1 hX).trans h4,(hc.frozen (p:=⟨b,1,none⟩) h1 hX).trans h5⟩):p:=h
theorem zq112 (h:p:=by
 obtain⟨h1,h2,h3,h4,h5⟩:=h;exact⟨Nat.lt_of_lt_of_le h1 hb.size,(hb.cell (p:=⟨b,0,none⟩) h1).trans h2,(hb.cell (p:=⟨b,1,none⟩) h1).trans h3,(hb.frozen (p:=⟨b,0,none⟩) h1).trans h4,(hb.frozen (p:=⟨b,1,none⟩) h1).trans h5⟩):p:=h
theorem e4m (h:p:=by
 go_wp2_with (go_at_call 275;refine (c7c _ _ hx).mono ?_;rintro e w' ⟨rfl,rfl⟩)
 go_meet;exact⟨by simp [*],HB5.o⟩):p:=h
theorem zq114 (h:p:=by
 have f2:=e3w hj23 hl;have HK2:=qh ((P.d1q hj23 hl).symm.trans HK.o)
 go_wp2_with fail
 go_quiet (fail)
 go_wp2
 go_roundw
 case rel=>exact⟨j+1,by go_num,by omega,by omega,HK2.o,below_drewN HB1.o _⟩
 case measure=>simp [intOf];omega):p:=h
theorem zq115 (h:p:=by
 refine wpAnyH_done kZ ?_ _;clear hS0 HS1 hS1 HLOW HHIGH hcmp HX HY HK0 HR HC HBV hnp hnq;go_wp2
 go_roundw
 case rel=>exact⟨h+1,j,by omega,by omega,hjb,by go_num,rfl,HQ.o,HRV.o,HCV.o⟩
 case measure=>simp [intOf];omega):p:=h
theorem e3m (h:p:=by
 go_round
 case rel=>exact⟨k+1,by omega,by go_num,a8d k hlt HA.o HL.o⟩
 case measure=>simp [intOf];omega):p:=h
theorem zq117 (h:p:=by
 refine wpAnyH_done kZ ?_ _;clear hS0 HS1 hS1 HLOW HHIGH hcmp HX HY HK0 HR HC HBV hnp hnq;go_wp2
 go_roundw
 case rel=>exact⟨i,h,hi1,hh1,by omega,rfl,rfl,HQ.o,HRV.o,HCV.o⟩
 case measure=>simp [intOf];omega):p:=h
theorem e5b (h:p:=by
 intro j hj
 match j,hj with|0,_=>go_simp|1,_=>go_simp|2,_=>go_simp|3,_=>go_simp|4,_=>go_simp):p:=h
theorem zq119 (h:p:=by
 have hjl:j=l.length:=by omega
 subst hjl;have HM2:=qh (show its.map (·.2)=P.a2e t l by rw [HM.o,List.take_length]);go_wp2;go_ret2;exact⟨_,its,_,by rw [HD.o];rfl,by rw [HD.o];exact HM2.o,HI.o⟩):p:=h
theorem e3j (h:p:=by
 go_ret2;exact⟨by rw [HF.o];rfl,(bZ.alloc lZ _).trans (HB.o.mono sZ)⟩):p:=h
theorem zq121 (h:p:=by
 clear hown' hgrow;go_wp2
 go_roundw
 case rel=>
  repeat apply Exists.intro
  refine⟨?_,rfl⟩;exact⟨j+1,by omega,by go_num,by rw [HSN.o,HPA.o];exact R.o.1,R.o.2⟩
 case measure=>simp [intOf];omega):p:=h
theorem zq122 (h:p:=by
 have i1:¬(k:Int)<(s.length:Int):=by omega
 have HE:=qh (show P.a1j s=P.a2n s k by unfold P.a1j;rw [show s.length=k by omega]);go_wp2;go_ret;exact⟨a2t (by rw [HE.o]),rfl⟩):p:=h
theorem zq123 (h:p:=by
 exact a2g (ownsRow_setCell_below (ownsRow_setCell_below (ownsRow_setCell_below (ownsRow_setCell_below HO6.o (by simp<;>omega) _) (by simp<;>omega) _) (by simp<;>omega) _) (by simp<;>omega) _) oZ):p:=h
theorem zq124 (h:p:=by
 rcases h with h|h
 .exact .inl (h.chg hc λb h1 h2 hx=>by have:=hX b hx;omega)
 .exact .inr ((h.chg hc λb h1 h2 hx=>by have:=hX b hx;omega).wide lZ hc.size lZ)):p:=h
theorem zq125 (h:p:=by
 left
 have:=P.c6n (l:=l) (j:=j-1) oZ (by rw [show j-1+1=j by omega];exact HR.o) (by simpa [show j-1+1=j by omega] using hc)
 rwa [show j-1+2=j+1 by omega]at this):p:=h
theorem zq126 (h:p:=by
 obtain⟨ad,cap,h1,_,hn,h3⟩:=h
 cases ad with
 |none=>
  left
  rcases h3 with rfl|⟨_,_,h,_⟩
  .rw [h1,hn rfl];rfl
  .cases h
 |some a=>exact .inr ⟨a,_,_,h1⟩):p:=h
theorem zq127 (h:p:=by
 clear hj
 go_enter func143,ntmps143
 go_wp2_with (go_at_call 214;refine (d5v _ _ oZ).mono ?_;rintro e w' ⟨rfl,rfl⟩)
 go_ret2;exact⟨by rw [HJ.o];rfl,Below.refl _ _⟩):p:=h
theorem zq128 (h:p:=by
 rcases List.mem_cons.1 h with e|h
 .exact .inr ⟨k,List.mem_cons_self ..,e⟩
 rcases ih _ h with e|⟨j,h1,h2⟩
 .exact .inl e
 .exact .inr ⟨j,List.mem_cons_of_mem _ h1,h2⟩):p:=h
theorem zq129 (h:p:=by
 have hj':j<l.length:=by simpa using hj
 have e:=World.ownsRow.cellAt h j oZ;rw [List.getElem?_eq_getElem hj]at e;rw [Nat.zero_add];exact⟨e,World.ownsRow.frozenAt h j⟩):p:=h
theorem zq130 (h:p:=by
 clear hj
 go_enter func174,ntmps174
 go_wp2_with (go_at_call 242;refine (e1v _ _ oZ).mono ?_;rintro e w' ⟨rfl,rfl⟩)
 go_ret2;exact⟨by rw [HJ.o];rfl,rfl⟩):p:=h
theorem zq131 (h:p:=by
 clear hown' hgrow;go_wp2
 go_roundw
 case rel=>
  exact⟨j+1,by omega,by go_num,by rw [HSN.o,HPA.o];exact R.o.1,HPC3.o,R.o.2⟩
 case measure=>simp [intOf];omega):p:=h
theorem zq132 (h:p:=by
 rw [List.length_append]
 show _=flat _ l.length++(if l.length=l.length then cs else C l.length)
 rw [if_pos rfl,h0]
 congr 1
 exact c0a λj hj=>(if_neg oZ).symm):p:=h
theorem zq133 (h:p:=by
 go_wp2
 go_roundw
 case rel=>exact⟨j+1,_,true,by omega,by go_num,by first|rfl|(simp;rfl),rfl,HZ.o,by first|trivial|rfl⟩
 case measure=>simp [intOf];omega):p:=h
theorem zq134 (h:p:=by
 go_enter func344,ntmps344
 go_wp2_with (go_at_call 343;refine (a4x _ _).mono ?_;rintro e w' ⟨rfl,rfl⟩)
 go_ret;exact⟨a0a (by rw [HC.o];rfl),rfl⟩):p:=h
theorem zq135 (h:p:=by
 obtain⟨h1,_⟩:=a2c h;unfold scr at h1
 cases q:(dic d&&a3n t.1)
 .rw [q]at h1;exact absurd h1 sZ
 .simp only [Bool.and_eq_true]at q;exact q.1):p:=h
theorem zq136 (h:p:=by
 refine tk11 8 hS1 ?_;refine tk11 9 hS1 ?_;refine tk11 10 hS1 ?_;refine wpAnyH_done kZ ?_ _;clear hS1;go_wp2;go_ret2;exact⟨by rw [HLE.o,HR.o];rfl,HB5.o⟩):p:=h
theorem zq137 (h:p:=by
 go_wp2
 go_roundw
 case rel=>exact⟨j+1,(nx,scr),.slice va nx.length vc,by omega,by go_num,by rw [HN1.o,HRR.o];rfl,HT4.o⟩
 case measure=>simp [intOf];omega):p:=h
theorem e3z (h:p:=by
 go_wp2;go_ret;exact⟨a0a HF.o.symm,bZ.alloc lZ _⟩):p:=h
theorem e2m (h:p:=by
 go_wp2;go_ret;exact⟨(by first|(rw [HF.o];done)|(rw [HF.o];rfl)),HB.o⟩):p:=h
theorem zq140 (h:p:=by
 have HT:=qh (show s.all P.prn=true by rw [<-List.take_of_length_le (l:=s) (i:=k) oZ];exact HA.o);go_wp2;go_ret;exact⟨a0a HT.o.symm,rfl⟩):p:=h
theorem zq141 (h:p:=by
 unfold P.c2v P.eoy
 cases decide (2<=x.length)<;>cases P.ends x [101]<;>cases P.ends x [101,101]<;>cases P.ends x [111,101]<;>cases P.ends x [121,101]<;>rfl):p:=h
theorem zq142 (h:p:=by
 exact (((((HB1.o.setCell (by simp<;>omega) _).setCell (by simp<;>omega) _).setCell (by simp<;>omega) _).setCell (by simp<;>omega) _).setCell (by simp<;>omega) _)):p:=h
theorem zq143 (h:p:=by
 have HP:=qh (HN2.o he);have f1:(P.fmt ((P.loose t).1:Int)==t)=false:=by simpa using he
 clear hok;go_wp2;go_ret2;exact⟨by rw [HP.o];rfl,HB2.o⟩):p:=h
theorem zq144 (h:p:=by
 have f1:¬S r1=S t:=λhx=>h (S_inj hx);have f2:decide (S r1=S t)=false:=decide_eq_false f1;go_wp2;go_ret;exact⟨by rw [HP.o];simp [h],HB1.o⟩):p:=h
theorem zq145 (h:p:=by
 exact (((((bZ.alloc lZ _).alloc sZ _).trans (hb.mono (by simp;omega))).setCell sZ _).setCell sZ _).setCell sZ _):p:=h
theorem zq146 (h:p:=by
 intro j
 by_cases hj:j<l.length
 .obtain⟨x,h1,h2⟩:=hr.el j hj;exact⟨x,λ_=>⟨h1,h2⟩⟩
 .exact⟨.int .i64 0,λh=>absurd h hj⟩):p:=h
theorem zq147 (h:p:=by
 go_enter func253,ntmps253
 go_wp2
 all_goals
  go_ret
  exact⟨a0a (by simp [P.atom, *,Bool.or_assoc]),bZ.alloc lZ _⟩):p:=h
theorem zq148 (h:p:=by
 rename_i hk;subst hk
 simp only [Bool.or_eq_true,beq_iff_eq]at h
 rcases h with rfl|rfl|rfl<;>exact⟨.inl dZ,by decide,by decide,by decide⟩):p:=h
theorem zq149 (h:p:=by
 go_wp2
 go_roundw
 case rel=>exact⟨j+1,m2,by omega,.inl oZ,by go_num,HP.o,HSO.o,HRV.o,HCV.o⟩
 case measure=>simp [intOf];omega):p:=h
theorem zq150 (h:p:=by
 have HP:Hq (P.place o l = -1):=⟨P.b4h λk hk=>HN.o k oZ hk⟩;clear hb;go_wp2;go_ret;exact⟨a2t HP.o.symm,HB.o⟩):p:=h
theorem zq151 (h:p:=by
 clear hown hgr hf' hse HOW HLT HK HKE HPE HG HB1;go_wp2
 go_roundw
 case rel=>exact⟨_,a+k,f',by go_num,HG4.o⟩
 case measure=>simp [intOf];omega):p:=h
theorem zq152 (h:p:=by
 go_wp2
 go_roundw
 case rel=>exact⟨0+1,by decide,rfl,λ_=>NE.o,λh=>absurd h dZ,HTV.o,HRV.o,HV.o⟩
 case measure=>decide):p:=h
theorem zq153 (h:p:=by
 go_wp2
 go_roundw
 case rel=>exact⟨1+1,by decide,rfl,λ_=>hb0 dZ,λ_=>NE.o,HTV.o,HRV.o,HV.o⟩
 case measure=>decide):p:=h
theorem zq154 (h:p:=by
 go_round
 case rel=>exact⟨j+1,by omega,by go_num,by rw [HSN.o,List.all_append,HA.o];simp [HX.o]⟩
 case measure=>simp [intOf];omega):p:=h
theorem zq155 (h:p:=by
 have HX:=qh hx;have HS:=qh hs;have HC:=qh hc;clear hx hs hc;go_wp2;go_meet;exact⟨r,ok,rfl,rfl,HX.o,HS.o,HC.o⟩):p:=h
theorem zq156 (h:p:=by
 rw [List.pairwise_iff_getElem];intro i j hi hj hij x h1 h2;simp only [List.getElem_ofFn]at h1 h2;exact hr.apart i j hij (by simpa using hj) x h1 h2):p:=h
theorem zq157 (h:p:=by
 go_round
 case rel=>exact⟨1,by omega,by go_num,by rw [show (1:Nat)=0+1 from rfl,HZ.o];go_num⟩
 case measure=>simp [intOf];omega):p:=h
theorem zq158 (h:p:=by
 refine wpAnyH_done kZ ?_ _
 go_wp2_with fail
 go_meet;exact⟨b1,b2,va,vc,rfl,rfl,rfl,hx1',hx2,HR2.o.1,HB2.o,ht0,he0⟩):p:=h
theorem zq159 (h:p:=by
 have H4:=qh (HCA.o.draw hc);clear hc hs HL HCA;have hsl:=HS.o;go_wp2;go_ret;exact⟨_,rfl,by omega,H4.o.cur.mono oZ⟩):p:=h
theorem zq160 (h:p:=by
 exact (((((HB1.o.setCell sZ _).setCell sZ _).setCell sZ _).setCell sZ _).setCell sZ _).setCell sZ _):p:=h
theorem zq161 (h:p:=by
 exact (((((HB2.o.setCell sZ _).setCell sZ _).setCell sZ _).setCell sZ _).setCell sZ _).setCell sZ _):p:=h
theorem zq162 (h:p:=by
 go_wp2;go_ret2;exact⟨.slice ad out.length cp,by rw [<-HRUN.o,HST.o];rfl,by rw [<-HRUN.o,HST.o];exact HOWN.o,HBEL.o⟩):p:=h
theorem zq163 (h:p:=by
 by_cases h:a=b
 .subst h;simp
 .rw [beq_eq_false_iff_ne.2 h,beq_eq_false_iff_ne];intro e;exact h (UInt8.toNat_inj.1 oZ)):p:=h
theorem zq164 (h:p:=by
 refine Nat.le_of_not_lt λhlt=>h ?_;have:=Nat.mul_le_mul_right t (show i+1<=q from hlt);rw [Nat.add_mul,Nat.one_mul]at this;omega):p:=h
theorem zq165 (h:p:=by
 go_round
 case rel=>exact⟨1,by omega,by go_num,by rw [show (1:Nat)=0+1 from rfl,HZ.o]⟩
 case measure=>simp [intOf];omega):p:=h
theorem zq166 (h:p:=by
 go_wp2_with (go_at_call 273;refine (a8y _ _).mono ?_;rintro e w' ⟨rfl,rfl⟩)
 go_meet;exact⟨_,rfl,by rw [HCY.o];rfl,rfl⟩):p:=h
theorem zq167 (h:p:=by
 exact run_append_own (P:=P) w base t ty e i z size bytes ht hi hz hsize hby hzs hsz v n xs hown ad m c news hl hnews h1 h63 hbytes hbase):p:=h
theorem zq168 (h:p:=by
 go_wp2
 first|go_end0|(refine bodyPost_ret (results_none rfl _ _ _) rfl ?_)
 exact⟨rfl,n,HSO.o.1,HSO.o.2,HR2.o,HC2.o⟩):p:=h
theorem zq169 (h:p:=by
 rintro e w2 ⟨rfl,rfl⟩;rw [Bool.true_and]at HP;generalize P.a3u t=q at *;go_wp2;go_ret;exact⟨by rw [HP.o];rfl,HB.o⟩):p:=h
theorem zq170 (h:p:=by
 rintro e w2 ⟨s,_,rfl,hc⟩;have H2:=qh (HC2.o.trans hc);clear hc;go_wp2;go_ret;exact⟨s,rfl,H2.o.mono oZ⟩):p:=h
theorem zq171 (h:p:=by
 exact ((P4.o.set oZ oZ oZ _).set oZ oZ oZ _).set oZ oZ oZ _):p:=h
theorem e2u (h:p:=by
 clear hok;go_wp2;go_ret2;exact⟨by rw [HP.o];rfl,HB1.o⟩):p:=h
theorem e4f (h:p:=by
 go_wp2;go_ret;exact⟨a0a (by rw [HF.o];rfl),HB.o⟩):p:=h
theorem zq174 (h:p:=by
 rcases h.owns.2 with⟨rfl,h0⟩|⟨g,cap,cur,hv,_⟩
 .exact⟨none,0,by rw [h0]⟩
 .exact⟨_,cap,hv⟩):p:=h
theorem zq175 (h:p:=by
 refine (Tryz.slices_Equal_int_empty _ _ _ _ _ w sZ).mono ?_;rintro e w' ⟨rfl,rfl⟩;exact⟨rfl,Below.refl _ _⟩):p:=h
theorem zq176 (h:p:=by
 go_wp2
 go_round
 case rel=>exact⟨k+1,by omega,by go_num,by rw [HSN.o];rfl⟩
 case measure=>simp [intOf];omega):p:=h
theorem zq177 (h:p:=by
 go_round
 case rel=>exact⟨m+1+1,by omega,by go_num,by rw [HZ.o];go_num⟩
 case measure=>simp [intOf];omega):p:=h
theorem zq178 (h:p:=by
 have HPP:=qh (HP.o heo);rw [decide_eq_true heo];clear heo;go_wp2;go_ret;exact⟨a2t HPP.o.symm,HB1.o⟩):p:=h
theorem zq179 (h:p:=by
 simp only [Value.ownBlock,Option.some.injEq]at h';subst h'
 rcases hat with h''|h''
 .exact h5.2.2 h''
 .omega):p:=h
theorem zq180 (h:p:=by
 by_cases v1:a<r
 .by_cases v2:r<c
  .skip;have va:(a:Int)<(r:Int):=by omega
   have vb:(r:Int)<(c:Int):=by omega
   by_cases x1:c<en
   .by_cases x2:en<b
    .skip;have xa:(c:Int)<(en:Int):=by omega
     have xb:(en:Int)<(b:Int):=by omega
     have HM1:=qh ((a2d.refl its).congr (h:=roIx r m en) λk=>(a8n oZ hr4 hr3 k).symm);have HR1:=qh HR.o;have HC1:=qh HC.o;obtain⟨hp1,hsp,hsa,hsb,hsc,hsd⟩:=HDONE.o _ HM1.o;have HP1:=qh hp1;have HSP:=qh hsp;have HSA:=qh hsa;have HSB:=qh hsb;have HSC:=qh hsc;have HSD:=qh hsd;clear hp1 hsp hsa hsb hsc hsd;have hcall:=HI.o its F g o cap a r c wr HBL.o.1 HR1.o oZ v1 v2 oZ HSA.o HSB.o;have HCALL2:=qh hcall;clear hcall
     go_wp2_with fail
     refine HCALL2.o.mono ?_;rintro e w2 ⟨rfl,n2,hp2,hs2,hrr,hcc⟩;have HR2:=qh hrr;have HC2:=qh (HC1.o.trans hcc);have HP2:=qh hp2;have HT2:=qh hs2;have hln2:n2.length=its.length:=hp2.len;clear hrr hcc hp2 hs2 HCALL2;have hcall:=HI.o n2 F g o cap c en b w2 HBL.o.2 HR2.o oZ x1 x2 oZ (HSC.o.same HP2.o (.inr lZ)) (HSD.o.same HP2.o (.inr oZ));rw [hln2]at hcall;exact e4d
    .skip;have xa:(c:Int)<(en:Int):=by omega
     have xb:¬(en:Int)<(b:Int):=by omega
     have HM1:=qh ((a2d.refl its).congr (h:=roIx r m en) λk=>(a8n oZ hr4 hr3 k).symm);have HR1:=qh HR.o;have HC1:=qh HC.o;obtain⟨hp1,hsp,hsa,hsb,hsc,hsd⟩:=HDONE.o _ HM1.o;have HP1:=qh hp1;have HSP:=qh hsp;have HSA:=qh hsa;have HSB:=qh hsb;have HSC:=qh hsc;have HSD:=qh hsd;clear hp1 hsp hsa hsb hsc hsd;have hcall:=HI.o its F g o cap a r c wr HBL.o.1 HR1.o oZ v1 v2 oZ HSA.o HSB.o;have HCALL2:=qh hcall;clear hcall
     go_wp2_with fail
     refine HCALL2.o.mono ?_;rintro e w2 ⟨rfl,n2,hp2,hs2,hrr,hcc⟩;have HR2:=qh hrr;have HC2:=qh (HC1.o.trans hcc);have HP2:=qh hp2;have HT2:=qh hs2;have hln2:n2.length=its.length:=hp2.len;clear hrr hcc hp2 hs2 HCALL2;have HP3:=qh (a0l.refl c b n2)
     have HT3:=qh (show a0c c b n2 from by
      have e1:en=b:=by omega
      have k:=HSC.o.same HP2.o (.inr lZ);rw [e1]at k;exact k)
     exact e3s
   .skip;have xa:¬(c:Int)<(en:Int):=by omega
    have HM1:=qh ((a2d.refl its).congr (h:=roIx r m en) λk=>(a8n oZ hr4 hr3 k).symm);have HR1:=qh HR.o;have HC1:=qh HC.o;obtain⟨hp1,hsp,hsa,hsb,hsc,hsd⟩:=HDONE.o _ HM1.o;have HP1:=qh hp1;have HSP:=qh hsp;have HSA:=qh hsa;have HSB:=qh hsb;have HSC:=qh hsc;have HSD:=qh hsd;clear hp1 hsp hsa hsb hsc hsd;have hcall:=HI.o its F g o cap a r c wr HBL.o.1 HR1.o oZ v1 v2 oZ HSA.o HSB.o;have HCALL2:=qh hcall;clear hcall
    go_wp2_with fail
    refine HCALL2.o.mono ?_;rintro e w2 ⟨rfl,n2,hp2,hs2,hrr,hcc⟩;have HR2:=qh hrr;have HC2:=qh (HC1.o.trans hcc);have HP2:=qh hp2;have HT2:=qh hs2;have hln2:n2.length=its.length:=hp2.len;clear hrr hcc hp2 hs2 HCALL2;have HP3:=qh (a0l.refl c b n2)
    have HT3:=qh (show a0c c b n2 from by
     have e1:en=c:=by omega
     have k:=HSD.o.same HP2.o (.inr oZ);rw [e1]at k;exact k)
    exact e3s
  .skip;have va:(a:Int)<(r:Int):=by omega
   have vb:¬(r:Int)<(c:Int):=by omega
   by_cases x1:c<en
   .by_cases x2:en<b
    .skip;have xa:(c:Int)<(en:Int):=by omega
     have xb:(en:Int)<(b:Int):=by omega
     have HM1:=qh ((a2d.refl its).congr (h:=roIx r m en) λk=>(a8n oZ hr4 hr3 k).symm);have HR1:=qh HR.o;have HC1:=qh HC.o;obtain⟨hp1,hsp,hsa,hsb,hsc,hsd⟩:=HDONE.o _ HM1.o;have HP1:=qh hp1;have HSP:=qh hsp;have HSA:=qh hsa;have HSB:=qh hsb;have HSC:=qh hsc;have HSD:=qh hsd;clear hp1 hsp hsa hsb hsc hsd;have HP2:=qh (a0l.refl a c its)
     have HT2:=qh (show a0c a c its from by
      have e1:r=c:=by omega
      rw [e1]at HSA;exact HSA.o)
     exact zq214
    .skip;have xa:(c:Int)<(en:Int):=by omega
     have xb:¬(en:Int)<(b:Int):=by omega
     have HM1:=qh ((a2d.refl its).congr (h:=roIx r m en) λk=>(a8n oZ hr4 hr3 k).symm);have HR1:=qh HR.o;have HC1:=qh HC.o;obtain⟨hp1,hsp,hsa,hsb,hsc,hsd⟩:=HDONE.o _ HM1.o;have HP1:=qh hp1;have HSP:=qh hsp;have HSA:=qh hsa;have HSB:=qh hsb;have HSC:=qh hsc;have HSD:=qh hsd;clear hp1 hsp hsa hsb hsc hsd;have HP2:=qh (a0l.refl a c its)
     have HT2:=qh (show a0c a c its from by
      have e1:r=c:=by omega
      rw [e1]at HSA;exact HSA.o)
     exact zq212
   .skip;have xa:¬(c:Int)<(en:Int):=by omega
    have HM1:=qh ((a2d.refl its).congr (h:=roIx r m en) λk=>(a8n oZ hr4 hr3 k).symm);have HR1:=qh HR.o;have HC1:=qh HC.o;obtain⟨hp1,hsp,hsa,hsb,hsc,hsd⟩:=HDONE.o _ HM1.o;have HP1:=qh hp1;have HSP:=qh hsp;have HSA:=qh hsa;have HSB:=qh hsb;have HSC:=qh hsc;have HSD:=qh hsd;clear hp1 hsp hsa hsb hsc hsd;have HP2:=qh (a0l.refl a c its)
    have HT2:=qh (show a0c a c its from by
     have e1:r=c:=by omega
     rw [e1]at HSA;exact HSA.o)
    exact zq213
 .skip;have va:¬(a:Int)<(r:Int):=by omega
  by_cases x1:c<en
  .by_cases x2:en<b
   .skip;have xa:(c:Int)<(en:Int):=by omega
    have xb:(en:Int)<(b:Int):=by omega
    have HM1:=qh ((a2d.refl its).congr (h:=roIx r m en) λk=>(a8n oZ hr4 hr3 k).symm);have HR1:=qh HR.o;have HC1:=qh HC.o;obtain⟨hp1,hsp,hsa,hsb,hsc,hsd⟩:=HDONE.o _ HM1.o;have HP1:=qh hp1;have HSP:=qh hsp;have HSA:=qh hsa;have HSB:=qh hsb;have HSC:=qh hsc;have HSD:=qh hsd;clear hp1 hsp hsa hsb hsc hsd;have HP2:=qh (a0l.refl a c its)
    have HT2:=qh (show a0c a c its from by
     have e1:r=a:=by omega
     rw [e1]at HSB;exact HSB.o)
    exact zq214
   .skip;have xa:(c:Int)<(en:Int):=by omega
    have xb:¬(en:Int)<(b:Int):=by omega
    have HM1:=qh ((a2d.refl its).congr (h:=roIx r m en) λk=>(a8n oZ hr4 hr3 k).symm);have HR1:=qh HR.o;have HC1:=qh HC.o;obtain⟨hp1,hsp,hsa,hsb,hsc,hsd⟩:=HDONE.o _ HM1.o;have HP1:=qh hp1;have HSP:=qh hsp;have HSA:=qh hsa;have HSB:=qh hsb;have HSC:=qh hsc;have HSD:=qh hsd;clear hp1 hsp hsa hsb hsc hsd;have HP2:=qh (a0l.refl a c its)
    have HT2:=qh (show a0c a c its from by
     have e1:r=a:=by omega
     rw [e1]at HSB;exact HSB.o)
    exact zq212
  .skip;have xa:¬(c:Int)<(en:Int):=by omega
   have HM1:=qh ((a2d.refl its).congr (h:=roIx r m en) λk=>(a8n oZ hr4 hr3 k).symm);have HR1:=qh HR.o;have HC1:=qh HC.o;obtain⟨hp1,hsp,hsa,hsb,hsc,hsd⟩:=HDONE.o _ HM1.o;have HP1:=qh hp1;have HSP:=qh hsp;have HSA:=qh hsa;have HSB:=qh hsb;have HSC:=qh hsc;have HSD:=qh hsd;clear hp1 hsp hsa hsb hsc hsd;have HP2:=qh (a0l.refl a c its)
   have HT2:=qh (show a0c a c its from by
    have e1:r=a:=by omega
    rw [e1]at HSB;exact HSB.o)
   exact zq213):p:=h
theorem zq181 (h:p:=by
 exact e4d):p:=h
theorem e3i (h:p:=by
 obtain⟨⟨o0,o1,o2,o3,o4,o5,o6⟩,_⟩:=HX1.o
 go_wp2_with fail
 refine (d1b _ _ l st sc d p n word more _ (HU.o.below HB1.o) (HUS.o.below HB1.o) hm HT.o hml).mono ?_;rintro e x2 ⟨nu,nus,rfl,hfe,hfi,hb⟩;have HEN:=qh (hfe.read (HU.o.below HB1.o) hb);have HIN:=qh (hfi.read (HUS.o.below HB1.o) hb);obtain⟨⟨⟨l2,⟨st2,sc2⟩⟩,rep⟩,ha⟩:∃a,P.a6b (l,(st,sc)) word more=a:=⟨_,rfl⟩;exact zq208):p:=h
theorem zq183 (h:p:=by
 exact e3s):p:=h
theorem zq184 (h:p:=by
 exact zq208):p:=h
theorem zq185 (h:p:=by
 have HR3:=qh HR2.o;have HC3:=qh HC2.o;have HJ:=qh (merge_join HP1.o HSP.o HP2.o HT2.o HP3.o HT3.o (Nat.le_of_lt hmd1) (Nat.le_of_lt hmd2));go_wp2
 first|go_end0|(refine bodyPost_ret (results_none rfl _ _ _) rfl ?_)
 exact⟨rfl,n1,HJ.o.1,HJ.o.2,HR3.o,HC3.o⟩):p:=h
theorem zq186 (h:p:=by
 go_wp2
 try rw [hV]
 clear hset hV;obtain⟨q0,q1,q2,q3,q4,q5,q6⟩:=HRV.o.1;refine bodyPost_ret (v:=.tuple #[a1a ((.slice ad l.length cap)) ((.slice sd st.length sap)) sc d p n,.string (S [63])]) (by simp [results,results170,go_sem,q0,q1,q2,q3,q4,q5]) rfl ⟨(.slice ad l.length cap),(.slice sd st.length sap),by rw [HP.o];rfl,by rw [HP.o];exact .inl ⟨rfl,rfl⟩,by rw [HP.o];exact .inl ⟨rfl,rfl⟩,HBV.o⟩):p:=h
theorem e4y (h:p:=by
 rintro e w2 hmp;obtain⟨x,ok,rfl,hx,hs,hc⟩:=hmp.after HB1.o;have HX:=qh hx;have HS:=qh hs;have HC:=qh hc;clear hmp hx hs hc;exact zq26):p:=h
theorem e4u (h:p:=by
 go_enter func70,ntmps70
 go_wp2_with fail
 refine (b3s lo B l st sc d p n word more _ HSM.o hm HT.o hl HE.o).mono ?_;exact zq23):p:=h
theorem zq189 (h:p:=by
 go_wp2;refine bodyPost_ret (v:=.tuple #[a0y (.slice none 0 0) [],a1d (0,[]),.bool false]) (by simp [a0y,a1d,k3,k4,k5,k6,results,results207,go_sem]) rfl ⟨.slice none 0 0,by rw [HP.o];rfl,by rw [HP.o];exact World.ownsRow_nil _ _ _ _,?_⟩;exact zq56):p:=h
theorem zq190 (h:p:=by
 go_wp2;refine bodyPost_ret (v:=.tuple #[a0y (.slice none 0 0) [],a1d (0,[]),.bool false]) (by simp [a0y,a1d,k3,k4,k5,k6,results,results233,go_sem]) rfl ⟨.slice none 0 0,by rw [HP.o];rfl,by rw [HP.o];exact World.ownsRow_nil _ _ _ _,?_⟩;exact zq56):p:=h
theorem zq191 (h:p:=by
 clear hK K
 try simp only [qA,qB,qC,Act.put,qD,qE,qF]
 refine lrd 10 λK hK=>?_;go_simp;refine a2p hK dZ ?_;clear hK K
 try rw [hw7]
 exact zq21):p:=h
theorem zq192 (h:p:=by
 simp only [List.length_cons,List.length_nil,Nat.zero_add]at hback
 go_upto_region 8 with fail
 go_region
 all_goals
  go_wp2
  go_ret
  exact⟨a1v HC.o.symm,(bZ.alloc lZ _).drew⟩):p:=h
theorem zq193 (h:p:=by
 have HZ:=qh (show P.fmt m=(out++(P.labels.drop k).take 1)++P.fmtM true hy ((P.a3p (m:Int) 23).drop (j+1)) by rw [HI.o,HD.o,P.b0h (.inr (.inl rfl)),HLT.o];simp);exact zq53):p:=h
theorem e4q (h:p:=by
 revert HRn;revert HLn;revert yc;revert ya;revert xc;revert xa;revert b3;revert b2;revert v9;exact k1011):p:=h
theorem e2j (h:p:=by
 revert HRn;revert HLn;revert yc;revert ya;revert xc;revert xa;revert b3;revert b1;revert v9;exact k1101):p:=h
theorem e4v (h:p:=by
 revert HRn;revert HLn;revert yc;revert ya;revert xc;revert xa;revert b2;revert b1;revert v9;exact k1110):p:=h
theorem zq197 (h:p:=by
 exact (((((HB4.o.setCell (by simp<;>omega) _).setCell (by simp<;>omega) _).setCell (by simp<;>omega) _).setCell (by simp<;>omega) _).setCell (by simp<;>omega) _)):p:=h
theorem zq198 (h:p:=by
 exact ((H2.o.set (g:=w.heap.size) (i:=0) lZ hlt.2 oZ _).set (g:=w.heap.size) (i:=1) lZ hlt.2 oZ _).mono oZ):p:=h
theorem zq199 (h:p:=by
 intro i y hy
 match i,hy with
 |0,hy=>injection hy with hy;subst hy;rw [add0];go_simp
 |1,hy=>injection hy with hy;subst hy;rw [add0];go_simp):p:=h
theorem e4l (h:p:=by
 go_wp2;go_ret;exact⟨_,rfl,by simp;omega,H4.o.cur.mono oZ⟩):p:=h
theorem e3e (h:p:=by
 revert HRn;revert HLn;revert vc;revert va;revert b2;revert v9;exact k101):p:=h
theorem e3c (h:p:=by
 revert HRn;revert HLn;revert vc;revert va;revert b1;revert v9;exact k110):p:=h
theorem zq203 (h:p:=by
 have HZ:=qh (HN.o rfl);clear HY HN
 go_wp2_with (go_at_call 343;refine (a4x _ _).mono ?_;rintro e w' ⟨rfl,rfl⟩)
 exact zq92):p:=h
theorem zq204 (h:p:=by
 have HZ:=qh (HN.o rfl);clear HY HN
 go_wp2_with (go_at_call 273;refine (a8y _ _).mono ?_;rintro e w' ⟨rfl,rfl⟩)
 exact zq92):p:=h
theorem e4d (h:p:=by
 have HCALL3:=qh hcall;clear hcall
 go_wp2_with fail
 refine HCALL3.o.mono ?_;rintro e w3 ⟨rfl,n3,hp3,hs3,hrr,hcc⟩;have HR3:=qh hrr;have HC3:=qh (HC2.o.trans hcc);have HP3:=qh hp3;have HT3:=qh hs3;clear hrr hcc hp3 hs3 HCALL3;have HJ:=qh (merge_join HP1.o HSP.o HP2.o HT2.o HP3.o HT3.o (Nat.le_of_lt hmd1) (Nat.le_of_lt hmd2));go_wp2
 first|go_end0|(refine bodyPost_ret (results_none rfl _ _ _) rfl ?_)
 exact⟨rfl,n3,HJ.o.1,HJ.o.2,HR3.o,HC3.o⟩):p:=h
theorem zq206 (h:p:=by
 have HR3:=qh HR2.o;have HC3:=qh HC2.o;have HJ:=qh (merge_join HP1.o HSP.o HP2.o HT2.o HP3.o HT3.o (Nat.le_of_lt hmd1) (Nat.le_of_lt hmd2));go_wp2
 first|go_end0|(refine bodyPost_ret (results_none rfl _ _ _) rfl ?_)
 exact⟨rfl,its,HJ.o.1,HJ.o.2,HR3.o,HC3.o⟩):p:=h
theorem e3s (h:p:=by
 have HR3:=qh HR2.o;have HC3:=qh HC2.o;have HJ:=qh (merge_join HP1.o HSP.o HP2.o HT2.o HP3.o HT3.o (Nat.le_of_lt hmd1) (Nat.le_of_lt hmd2));go_wp2
 first|go_end0|(refine bodyPost_ret (results_none rfl _ _ _) rfl ?_)
 exact⟨rfl,n2,HJ.o.1,HJ.o.2,HR3.o,HC3.o⟩):p:=h
theorem zq208 (h:p:=by
 rw [ha]at HP hfe hfi HEN HIN⊢;simp only at hfe hfi HEN HIN⊢;clear ha;obtain⟨na,nc,rfl,_,_⟩:=id HEN.o;obtain⟨ma,mc,rfl,_,_⟩:=id HIN.o;have HR9:=qh (HR1.o.below hb);have HB9:=bt HB1 hb;have HFE:=qh hfe;have HFI:=qh hfi;exact zq1):p:=h
theorem zq209 (h:p:=by
 have HR2:=qh HR1.o;have HC2:=qh HC1.o;have hln2:n1.length=its.length:=hln1;have HP3:=qh (a0l.refl c b n1)
 have HT3:=qh (show a0c c b n1 from by
  have e1:en=b:=by omega
  have k:=HSC.o.same HP2.o (.inr lZ);rw [e1]at k;exact k)
 exact zq185):p:=h
theorem zq210 (h:p:=by
 have HR2:=qh HR1.o;have HC2:=qh HC1.o;have hln2:n1.length=its.length:=hln1;have HP3:=qh (a0l.refl c b n1)
 have HT3:=qh (show a0c c b n1 from by
  have e1:en=c:=by omega
  have k:=HSD.o.same HP2.o (.inr oZ);rw [e1]at k;exact k)
 exact zq185):p:=h
theorem zq211 (h:p:=by
 have HR2:=qh HR1.o;have HC2:=qh HC1.o;have hln2:n1.length=its.length:=hln1;have hcall:=HI.o n1 F g o cap c en b w1 HBL.o.2 HR2.o oZ x1 x2 oZ (HSC.o.same HP2.o (.inr lZ)) (HSD.o.same HP2.o (.inr oZ));rw [hln2]at hcall;exact zq181):p:=h
theorem zq212 (h:p:=by
 have HR2:=qh HR1.o;have HC2:=qh HC1.o;have HP3:=qh (a0l.refl c b its)
 have HT3:=qh (show a0c c b its from by
  have e1:en=b:=by omega
  have k:=HSC.o.same HP2.o (.inr lZ);rw [e1]at k;exact k)
 exact zq206):p:=h
theorem zq213 (h:p:=by
 have HR2:=qh HR1.o;have HC2:=qh HC1.o;have HP3:=qh (a0l.refl c b its)
 have HT3:=qh (show a0c c b its from by
  have e1:en=c:=by omega
  have k:=HSD.o.same HP2.o (.inr oZ);rw [e1]at k;exact k)
 exact zq206):p:=h
theorem zq214 (h:p:=by
 have HR2:=qh HR1.o;have HC2:=qh HC1.o;have hcall:=HI.o its F g o cap c en b wr HBL.o.2 HR2.o oZ x1 x2 oZ (HSC.o.same HP2.o (.inr lZ)) (HSD.o.same HP2.o (.inr oZ));exact e4d):p:=h
theorem zm0 (h:q) (e:Hq q->p:=by intro q0;(try simp only [qA,qB,qC,Act.put,qD,qE,qF]);exact q0.o):p:=e ⟨h⟩
theorem zm1 (h:q) (e:Hq q->p:=by intro q0;have HRV:Hq (SOut (w.heap.size+1) ((.slice ad l.length cap)) ((.slice sd st.length sap)) sc d p n V):=⟨by rw [<-hV];exact ((HR5.o.set0 (x:=(.slice ad l.length cap))).set1 (x:=(.slice sd st.length sap)) (r:=sc)).set3 (d':=d) (p':=p) (n':=n)⟩;have HBV:=qh (Chg.a0n HB5.o hset HB5.o.size (λb h=>by have h9:b=w.heap.size+1:=h;omega));revert HRV HBV;exact q0.o):p:=e ⟨h⟩
theorem zm2 (h:q) (e:Hq q->p:=by intro q0;have HB0:Hq (Bl w ((((((w.alloc (.cells #[.slice ad l.length cap] 26)).alloc (.cells #[.slice sd st.length sc,.string (S t)] 35)).alloc (.cells #[.slice oa o.length oc,.string (S et)] 119)).alloc (.cells #[.slice none 0 0] 26)).alloc (.cells #[.slice none 0 0,.string (S [])] 35)).alloc (.cells #[.int .i64 0,.string (S [])] 55))):=⟨((((((Below.refl w.heap.size w).alloc lZ _).alloc sZ _).alloc (by simp;omega) _).alloc (by simp;omega) _).alloc (by simp;omega) _).alloc (by simp;omega) _⟩;have HX0:=qh (show RxBx w.heap.size (.slice ad l.length cap) (.slice sd st.length sc) (.slice oa o.length oc) t et ((((((w.alloc (.cells #[.slice ad l.length cap] 26)).alloc (.cells #[.slice sd st.length sc,.string (S t)] 35)).alloc (.cells #[.slice oa o.length oc,.string (S et)] 119)).alloc (.cells #[.slice none 0 0] 26)).alloc (.cells #[.slice none 0 0,.string (S [])] 35)).alloc (.cells #[.int .i64 0,.string (S [])] 55)) from⟨by go_simp,⟨by simp<;>omega,by go_simp,by go_simp,by go_simp,by go_simp⟩,⟨by go_simp,by go_simp,by simp<;>omega⟩,⟨by go_simp,by go_simp,by simp<;>omega⟩,⟨by simp<;>omega,by go_simp,by go_simp,by go_simp,by go_simp⟩,⟨by simp,by go_simp,by go_simp,by go_simp,by go_simp⟩⟩);have HZ0:=qh (show ((((((w.alloc (.cells #[.slice ad l.length cap] 26)).alloc (.cells #[.slice sd st.length sc,.string (S t)] 35)).alloc (.cells #[.slice oa o.length oc,.string (S et)] 119)).alloc (.cells #[.slice none 0 0] 26)).alloc (.cells #[.slice none 0 0,.string (S [])] 35)).alloc (.cells #[.int .i64 0,.string (S [])] 55)).heap.size=w.heap.size+6 by simp);unfold a0y;revert HB0 HX0 HZ0;exact q0.o):p:=e ⟨h⟩
theorem zm3 (h:q) (e:Hq q->p:=by intro q0;refine (a2b _ _ _ l st sc o tx _ (HUW.o.below HL.o.bw) (HIW.o.below HL.o.bw) (HOW.o.below HL.o.bw) hm HH1.o HH2.o (HEW.o.below HL.o.bw HEW.o.size)).mono ?_;exact q0.o):p:=e ⟨h⟩
theorem zm4 (h:q) (e:Hq q->p:=by intro q0;have HRV:Hq (SOut (w.heap.size+1) (.slice ba l.length bc) (.slice ia st.length ic) sc d p n V):=⟨by rw [<-hV];exact a5o HQ4.o.2 _ _ _ _ _ _⟩;have HBV:=qh (Chg.a0n HB4.o hset HB4.o.size (λb h=>by have h9:b=w.heap.size+1:=h;omega));have HROW:=qh ((hrows.a7r hset (λb h=>by have h9:b=w.heap.size+1:=h;omega)).lo (lo':=w.heap.size) oZ);revert HRV HBV HROW;exact q0.o):p:=e ⟨h⟩
theorem zm5 (h:q) (e:Hq q->p:=by intro q0;refine (a1y _ _ _ l st sc o tx _ (HUW.o.below HL.o.bw) (HIW.o.below HL.o.bw) (HOW.o.below HL.o.bw) hm HH1.o HH2.o).mono ?_;exact q0.o):p:=e ⟨h⟩
theorem zm6 (h:q) (e:Hq q->p:=by intro q0;refine wp_region_held_drew (S:=SOut w.heap.size (.slice ad l.length cap) (.slice sd st.length sap) sc d p n) kZ HXD.o (λhS0=>?_);revert hS0;exact q0.o):p:=e ⟨h⟩
theorem zm7 (h:q) (e:Hq q->p:=by intro q0;obtain⟨i0,hi,hz0,hz1,hz2⟩:=info_parts a2i;have hb0:=(Below.refl w.heap.size w).alloc lZ (.cells #[] 3);have HSRC:=qh (a7u (hu.below hb0));have HB:=qh hb0;clear hb0;have HOWN:=qh (World.ownsRow_lit (base:=w.heap.size) (e:=3) (size:=1) w #[] 0 lZ (Nat.zero_le _) sZ);revert i0 hi hz0 hz1 hz2 HSRC HB HOWN;exact q0.o):p:=e ⟨h⟩
theorem zm8 (h:q) (e:Hq q->p:=by intro q0;refine tk1 6 hS1 ?_;refine tk1 7 hS1 ?_;refine tk1 8 hS1 ?_;refine tk1 9 hS1 ?_;refine tk1 10 hS1 ?_;refine tk1 11 hS1 ?_;refine tk1 12 hS1 ?_;refine tk1 13 hS1 ?_;refine tk1 14 hS1 ?_;refine tk1 15 (v:=.pointer (some ⟨g,o+(j-1)*2,none⟩)) hS1 ?_;refine tk1 16 (v:=.pointer (some ⟨g,o+(j-1)*2,none⟩)) hS1 ?_;refine tk1 17 hS1 ?_;refine tk1 18 hS1 ?_;refine tk1 19 hS1 ?_;refine tk1 20 hS1 ?_;refine tk1 21 (v:=.pointer (some ⟨g,o+j*2,none⟩)) hS1 ?_;refine tk1 22 (v:=.pointer (some ⟨g,o+j*2,none⟩)) hS1 ?_;refine tk1 23 hS1 ?_;refine trd 24 λK hK=>?_;have HS2:=qh hS1;have HY:=qh hS1.2.2.2.2.1;have HX2:=qh hS1.2.2.2.2.2.2.2.2.2.1;revert K hK HS2 HY HX2;exact q0.o):p:=e ⟨h⟩
theorem zm9 (h:q) (e:Hq q->p:=by intro q0;refine (b0f _ _ l t1 t2 k _ (HU.o.below (HBW.o.trans (HL.o.bw.mono HBW.o.size))) (HT.o.str.below HL.o.bw) hm ((HE.o.below (HBW.o.trans (HL.o.bw.mono HBW.o.size)) HE.o.size).dic) HP1.o HP2.o).mono ?_;exact q0.o):p:=e ⟨h⟩
theorem zm10 (h:q) (e:Hq q->p:=by intro q0;have HAC:=qh (HA.o.snoc (a:=(eo,et)) (cs:=[.slice x1d eo.length x1c,.string (S et)]) (v1:=v1) (v2:=v1.alloc (.cells #[.slice x1d eo.length x1c,.string (S et)] 119)) (v3:=v3) (g:=g1) (cap:=cap1) (F:=Bet (wr.heap.size+1) v1.heap.size) a0f HB1.o (λb hb=>⟨by have:=hb.1;omega,hb.2⟩) (b1d (by have:=HI.o;simpa using this)) rfl (bZ.alloc lZ _) (by rw [HL0.o];exact hown) hgr (by simpa using hat));have hb2:Bl w v3:=((HB.o.trans (HB1.o.mono (by have:=HBZ.o;omega))).trans ((Below.refl w.heap.size v1).alloc (by have h1:=HZ1.o;have h2:=HBZ.o;omega) _)).trans (HB3.o.mono oZ);have HBW:=qh hb2;revert HAC hb2 HBW;exact q0.o):p:=e ⟨h⟩
theorem zm11 (h:q) (e:Hq q->p:=by intro q0;have HLn:=qh (HL.o.below hb);have HRn:=qh (PrR.called HL.o hb ho);refine hK.out _ _ HLn.o.s (λhS9=>?_);clear hK K ho hb hS9;revert HLn HRn;exact q0.o):p:=e ⟨h⟩
theorem zm12 (h:q) (e:Hq q->p:=by intro q0;refine tk0 13 hS5 ?_;refine wpAnyH_done kZ ?_ _;have HEN:Hq (Ents y2 (Bet w.heap.size w4.heap.size) (.slice ua bk.length uc) bk):=⟨(HI6.o.a0b a0f hall2 (λb h1 h2=>by simp only [Bet]at h1;omega)).wide (λb h1=>by simp only [Bet]at h1⊢;omega) (λb h1=>by have h3:=hall2.size;simp only [Bet]at h1;omega)⟩;have HOR:Hq (OwnK w4.heap.size y2 (.slice va st.length vc) st):=⟨a2g (a1f HOW6.o hall2 (λk hk h1=>by have h2:=(World.ownsRow.lt HOW6.o k hk).1;omega)) oZ⟩;have HBL:=qh (Chg.a0n HB6.o hall2 HB6.o.size (λb h1=>by omega));have hz7:v2.heap.size<=y2.heap.size:=hall2.size;revert HEN HOR HBL hz7;exact q0.o):p:=e ⟨h⟩
theorem zm13 (h:q) (e:Hq q->p:=by intro q0;have hcy1:Chg (λk=>w.heap.size+3<=k/\k<w.heap.size+6) y0 ((y0.setCell ⟨w.heap.size+1+1+1+1,0,none⟩ (.slice va st.length vc)).setCell ⟨w.heap.size+1+1+1+1,1,none⟩ (.string (S s1))):=(((Chg.refl (λk=>w.heap.size+3<=k/\k<w.heap.size+6) y0).setCell (p:=⟨w.heap.size+1+1+1+1,0,none⟩) (by show w.heap.size+3<=w.heap.size+1+1+1+1/\w.heap.size+1+1+1+1<w.heap.size+6;omega) (.slice va st.length vc)).setCell (p:=⟨w.heap.size+1+1+1+1,1,none⟩) (by show w.heap.size+3<=w.heap.size+1+1+1+1/\w.heap.size+1+1+1+1<w.heap.size+6;omega) (.string (S s1)));revert hcy1;exact q0.o):p:=e ⟨h⟩
theorem zm14 (h:q) (e:Hq q->p:=by intro q0;have hcy2:Chg (λk=>w.heap.size+3<=k/\k<w.heap.size+6) y1 ((y1.setCell ⟨w.heap.size+1+1+1+1+1,0,none⟩ (.int .i64 en)).setCell ⟨w.heap.size+1+1+1+1+1,1,none⟩ (.string (S ee))):=(((Chg.refl (λk=>w.heap.size+3<=k/\k<w.heap.size+6) y1).setCell (p:=⟨w.heap.size+1+1+1+1+1,0,none⟩) (by show w.heap.size+3<=w.heap.size+1+1+1+1+1/\w.heap.size+1+1+1+1+1<w.heap.size+6;omega) (.int .i64 en)).setCell (p:=⟨w.heap.size+1+1+1+1+1,1,none⟩) (by show w.heap.size+3<=w.heap.size+1+1+1+1+1/\w.heap.size+1+1+1+1+1<w.heap.size+6;omega) (.string (S ee)));revert hcy2;exact q0.o):p:=e ⟨h⟩
theorem zm15 (h:q) (e:Hq q->p:=by intro q0;refine hK.out _ _ (by (try rw [hV]);exact hS1.a0b hset (λh=>by have h9:w.heap.size=w.heap.size+1:=h;omega)) (λhS2=>?_);revert hS2;exact q0.o):p:=e ⟨h⟩
theorem zm16 (h:q) (e:Hq q->p:=by intro q0;have HXW:=qh hx;have c0':=(hb.cell (p:=⟨g,_,none⟩) hgs).trans c0;have c1':=(hb.cell (p:=⟨g,_,none⟩) hgs).trans c1;have HEN:=qh (show P.del o (l.take (j+1))=if l[j].1=o then P.del o (l.take j) else P.del o (l.take j)++[l[j]] by rw [a0g l j hlt,P.c9i]);have hba:=(Below.refl wr.heap.size wr).alloc lZ (.cells #[x,.string (S l[j].2)] 119);have HBA:=qh hba;have HX:=qh ((hx.below hb).below hba);have HO2:=qh ((HO.o.below hb).below hba);have HC2:=qh ((hba.cell (p:=⟨C,0,none⟩) (Nat.lt_of_lt_of_le HCL.o hb.size)).trans ((hb.cell (p:=⟨C,0,none⟩) HCL.o).trans HC.o));revert HXW c0' c1' HEN hba HBA HX HO2 HC2;exact q0.o):p:=e ⟨h⟩
theorem zm17 (h:q) (e:Hq q->p:=by intro q0;have hb0:Bl w ((w.alloc (.cells #[dv] 26)).alloc (.cells #[.int .i64 0,.int .i64 0,.string (S [])] 173)):=((Below.refl w.heap.size w).alloc lZ _).alloc sZ _;have HB0:=qh hb0;have HU:=qh hu;have HST:=qh hs;have HX:=qh ((Box1.new dv 26 w).below (bZ.alloc lZ (.cells #[.int .i64 0,.int .i64 0,.string (S [])] 173)));have HR:=qh (show PcBx (w.heap.size+1) ((w.alloc (.cells #[dv] 26)).alloc (.cells #[.int .i64 0,.int .i64 0,.string (S [])] 173)) by refine⟨?_,?_,?_,⟨?_,?_,?_⟩,?_⟩<;>go_simp);clear hb0;revert HB0 HU HST HX HR;exact q0.o):p:=e ⟨h⟩
theorem zm18 (h:q) (e:Hq q->p:=by intro q0;refine tk0 8 HLn.o.s ?_;refine tk0 9 HLn.o.s ?_;refine tk0 10 HLn.o.s ?_;exact q0.o):p:=e ⟨h⟩
theorem zm19 (h:q) (e:Hq q->p:=by intro q0;have HLE:=qh hle;have HP:=qh (show P.a3j l (st,t) (o,et)=(((bk,(st,s1)),(en,ee)),true) by rw [HYES.o (by first|rfl|trivial) HFI.o];rw [HSC.o,hle]);clear hle;obtain⟨k0,⟨_,k1,k2,_⟩,_⟩:=HX4.o;have HRD:Hq (RdR w.heap.size w2.heap.size (.slice ua bk.length uc) (.slice sd st.length sc) t w4.drew):=⟨RdR.below ⟨HDB.o.1,k1,k2,HDB.o.2,by omega⟩ bZ.drew⟩;have HXD:=qh (HX4.o.below bZ.drew);have HBD:=qh (HB4.o.trans (bZ.drew.mono HB4.o.size));have HID4:=qh (HI4.o.below a0f bZ.drew);have hzd:w4.heap.size<=w4.drew.heap.size:=Nat.le_refl _;clear k0 k1 k2 HX4 HB4 HI4 HDB;revert HLE HP HRD HXD HBD HID4 hzd;exact q0.o):p:=e ⟨h⟩
theorem zm20 (h:q) (e:Hq q->p:=by intro q0;refine tk1 2 hS1 ?_;refine tk1 3 hS1 ?_;refine tk1 4 hS1 ?_;refine tk1 5 hS1 ?_;refine tk1 6 hS1 ?_;refine tk1 7 hS1 ?_;refine tk1 8 hS1 ?_;refine tk1 9 hS1 ?_;refine tk1 10 hS1 ?_;refine tk1 11 (v:=.pointer (some ⟨g,o+(j-1)*2,none⟩)) hS1 ?_;refine tk1 12 (v:=.pointer (some ⟨g,o+(j-1)*2,none⟩)) hS1 ?_;refine tk1 13 hS1 ?_;refine tk1 14 hS1 ?_;refine tk1 15 hS1 ?_;refine trd 16 λK hK=>?_;have HS2:=qh hS1;have HY:=qh hS1.2.2.2.2.2.1;have HX2:=qh hS1.2.2.2.2.2.2.2.2.2.2.1;revert K hK HS2 HY HX2;exact q0.o):p:=e ⟨h⟩
theorem zm21 (h:q) (e:Hq q->p:=by intro q0;refine tks 11 hS1 ?_;refine tks 12 hS1 ?_;refine tks 13 hS1 ?_;refine tks 14 hS1 ?_;refine tks 15 hS1 ?_;refine tks 16 hS1 ?_;refine tks 17 hS1 ?_;exact q0.o):p:=e ⟨h⟩
theorem zm22 (h:q) (e:Hq q->p:=by intro q0;have htl:=P.a4k h2;have HOK:=qh he;have hb0:=(Below.refl w.heap.size w).alloc lZ (.cells #[.int .i64 x,.string (S t)] 55);have HX:=qh (show w.heap.size<(w.alloc (.cells #[.int .i64 x,.string (S t)] 55)).heap.size/\(w.alloc (.cells #[.int .i64 x,.string (S t)] 55)).cell? ⟨w.heap.size,0,none⟩=some (.int .i64 x)/\(w.alloc (.cells #[.int .i64 x,.string (S t)] 55)).cell? ⟨w.heap.size,1,none⟩=some (.string (S t)) from⟨by simp,by go_simp,by go_simp⟩);revert htl HOK hb0 HX;exact q0.o):p:=e ⟨h⟩
theorem zm23 (h:q) (e:Hq q->p:=by intro q0;refine (b0j _ _ l t1 t2 k _ (HU.o.below (HBW.o.trans (HL.o.bw.mono HBW.o.size))) (HT.o.str.below HL.o.bw) hm HP1.o HP2.o).mono ?_;exact q0.o):p:=e ⟨h⟩
theorem zm24 (h:q) (e:Hq q->p:=by intro q0;have hb0:=(Below.refl w.heap.size w).alloc lZ (.cells #[x,.string (S t)] 119);have HX:=qh (hx.below hb0);have HO:=qh (ho.below hb0);have hc':=(hb0.cell (p:=⟨C,0,none⟩) (World.block_lt_of_cell? w _ hc)).trans hc;have HB0:=qh hb0;revert hb0 HX HO hc' HB0;exact q0.o):p:=e ⟨h⟩
theorem zm25 (h:q) (e:Hq q->p:=by intro q0;have A2:=qh (A1.o.carry hb);clear hb A1;obtain⟨⟨a1,a2,a3⟩,⟨b1,b2⟩,⟨c1,c2,c3⟩,⟨d1,d2,d3⟩,⟨e1,e2,e3⟩,hz,_⟩:=A2.o;rw [h1];revert A2 a1 a2 a3 b1 b2 c1 c2 c3 d1 d2 d3 e1 e2 e3 hz;exact q0.o):p:=e ⟨h⟩
theorem zm26 (h:q) (e:Hq q->p:=by intro q0;have HU:=qh hu;have HE:=qh hE;have HX:=qh hx0;have HB:=qh hb0;have HNO:=qh (P.a9v (d:=l) (g:=(d,p,n)));have HYES:=qh (P.a7w (d:=l) (g:=(d,p,n)));have HRG:=qh (P.b4p (d++p));have hrl:=(P.a4o (d++p)).1;have hzW:w.heap.size+1<W0.heap.size:=hx0.2.2.2.2;have HBAD:Hq (∀v:World,Bl w v->(P.dic l&&P.a0j d p n)=false->b1k (P.a4a l (d,p,n)) w (.returned (.tuple #[.int .i64 0,.bool false])) v):=⟨λv hb h=>by rw [P.a9v h];exact⟨rfl,hb⟩⟩;revert HU HE HX HB HNO HYES HRG hrl hzW HBAD;exact q0.o):p:=e ⟨h⟩
theorem zm27 (h:q) (e:Hq q->p:=by intro q0;have HDB:=qh (show (w2.alloc (.cells #[.slice ua bk.length uc] 26)).cell? ⟨w2.heap.size,0,none⟩=some (.slice ua bk.length uc)/\w2.heap.size<(w2.alloc (.cells #[.slice ua bk.length uc] 26)).heap.size from⟨by go_simp,by simp⟩);have hba:=(Below.refl w2.heap.size w2).alloc lZ (.cells #[.slice ua bk.length uc] 26);have HB3:=bt HB2 hba;have HX3:=qh (HX2.o.below hba);have HI3:=qh (HI.o.below a0f hba);revert HDB hba HB3 HX3 HI3;exact q0.o):p:=e ⟨h⟩
theorem zm28 (h:q) (e:Hq q->p:=by intro q0;have hcy0:Chg (λk=>w.heap.size+3<=k/\k<w.heap.size+6) v2 (v2.setCell ⟨w.heap.size+1+1+1,0,none⟩ (.slice ua bk.length uc)):=((Chg.refl (λk=>w.heap.size+3<=k/\k<w.heap.size+6) v2).setCell (p:=⟨w.heap.size+1+1+1,0,none⟩) (by show w.heap.size+3<=w.heap.size+1+1+1/\w.heap.size+1+1+1<w.heap.size+6;omega) (.slice ua bk.length uc));revert hcy0;exact q0.o):p:=e ⟨h⟩
theorem zm29 (h:q) (e:Hq q->p:=by intro q0;have HP0:Hq (P.alone (l,(st,sc)) word=if word=P.e4z then P.typed (l,(st,sc)) [1024] else if word=P.c7f then ((l,(st,sc)),some sc) else if word=P.d5w then ((l,(st,sc)),some (P.num st.length)) else if word=P.c7s then ((l,(st,sc)),some ((P.num (P.segA l st).length++[32])++P.num (P.blank (P.segA l st)))) else ((l,(st,sc)),none)):=⟨rfl⟩;revert HP0;exact q0.o):p:=e ⟨h⟩
theorem zm30 (h:q) (e:Hq q->p:=by intro q0;have HRV:Hq (SOut (w.heap.size+1) ((.slice ad l.length cap)) ((.slice sd st.length sap)) sc d p n V):=⟨by rw [<-hV];exact ((HR1.o.set0 (x:=(.slice ad l.length cap))).set1 (x:=(.slice sd st.length sap)) (r:=sc)).set3 (d':=d) (p':=p) (n':=n)⟩;have HBV:=qh (Chg.a0n HB1.o hset HB1.o.size (λb h=>by have h9:b=w.heap.size+1:=h;omega));revert HRV HBV;exact q0.o):p:=e ⟨h⟩
theorem zm31 (h:q) (e:Hq q->p:=by intro q0;have HRV:Hq (SOut (w.heap.size+1) ((.slice ad l.length cap)) ((.slice sd st.length sap)) sc d p n V):=⟨by rw [<-hV];exact ((HR3.o.set0 (x:=(.slice ad l.length cap))).set1 (x:=(.slice sd st.length sap)) (r:=sc)).set3 (d':=d) (p':=p) (n':=n)⟩;have HBV:=qh (Chg.a0n HB3.o hset HB3.o.size (λb h=>by have h9:b=w.heap.size+1:=h;omega));revert HRV HBV;exact q0.o):p:=e ⟨h⟩
theorem zm32 (h:q) (e:Hq q->p:=by intro q0;rw [World.cell?_setCell_other _ _ _ _ (by intro e;injection e;omega)];exact q0.o):p:=e ⟨h⟩
theorem zm33 (h:q) (e:Hq q->p:=by intro q0;refine wp_region_held_drew (S:=K7 w (.slice (some ⟨g,o,none⟩) l.length cap) l g (o+j*2) x eo et (o+(j-1)*2) y po) kZ HS'.o (λhS0=>?_);refine tk1 0 hS0 ?_;refine tk1 1 hS0 ?_;refine tk1 2 hS0 ?_;refine tk1 3 (v:=.pointer (some ⟨g,o+j*2,none⟩)) hS0 ?_;refine tk1 4 hS0 ?_;refine trd 5 λK hK=>?_;have HS1:=qh hS0;have HX:=qh (hS0.2.2.2.2.2.2.2.2.2.1);revert hS0 K hK HS1 HX;exact q0.o):p:=e ⟨h⟩
theorem zm34 (h:q) (e:Hq q->p:=by intro q0;refine tk0 0 hS0 ?_;refine tk0 1 hS0 ?_;refine tk0 2 hS0 ?_;exact q0.o):p:=e ⟨h⟩
theorem zm35 (h:q) (e:Hq q->p:=by intro q0;have HRV:Hq (SOut (w.heap.size+1) (.slice ba l.length bc) (.slice ia st.length ic) sc d p n V):=⟨by rw [<-hV];exact a5o HQ3.o.2 _ _ _ _ _ _⟩;have HBV:=qh (Chg.a0n HB3.o hset HB3.o.size (λb h=>by have h9:b=w.heap.size+1:=h;omega));have HROW:=qh ((hrows.a7r hset (λb h=>by have h9:b=w.heap.size+1:=h;omega)).lo (lo':=w.heap.size) oZ);revert HRV HBV HROW;exact q0.o):p:=e ⟨h⟩
theorem zm36 (h:q) (e:Hq q->p:=by intro q0;have HS:=qh (show w2.drew.cell? ⟨w1.heap.size,0,none⟩=some (.slice ua l.length uc)/\w2.drew.frozen? ⟨w1.heap.size,0,none⟩=false from⟨HDX2.o.1,HDX2.o.2.1⟩);revert HS;exact q0.o):p:=e ⟨h⟩
theorem zm37 (h:q) (e:Hq q->p:=by intro q0;refine tk2 0 hS0 ?_;refine tk2 1 hS0 ?_;refine tk2 2 hS0 ?_;refine tk2 3 hS0 ?_;exact q0.o):p:=e ⟨h⟩
theorem zm38 (h:q) (e:Hq q->p:=by intro q0;have HEO:Hq (ok=true->P.a4g (en,et)=true):=⟨λh=>by have g:=P.b4n (d:=l) (t:=(st,sc)) (e:=(o,tx)) (by rw [hrr];exact h);rw [hrr]at g;exact g⟩;have HH1:=qh (show o.length<=2^20 by omega);have HH2:=qh (show tx.length<=2^30 by omega);have HUW:=qh (HU.o.below HB2.o);have HIW:=qh (HUS.o.below HB2.o);have HOW:=qh (a2j HO.o (show o.length<=2^45 by omega));revert HEO HH1 HH2 HUW HIW HOW;exact q0.o):p:=e ⟨h⟩
theorem zm39 (h:q) (e:Hq q->p:=by intro q0;refine tk3 0 hS0 ?_;refine tk3 1 hS0 ?_;refine tk3 2 hS0 ?_;refine tk3 3 hS0 ?_;refine tk3 4 hS0 ?_;refine tk3 5 hS0 ?_;refine tk3 6 hS0 ?_;refine trd 7 λK hK=>?_;revert K hK;exact q0.o):p:=e ⟨h⟩
theorem zm40 (h:q) (e:Hq q->p:=by intro q0;have HB2:=qh ((HB.o.trans (hb.mono HB.o.size)).trans (hba.mono oZ));have HQ2:=qh ((HQ.o.below hb).below hba);have HS2:=qh (show SesM (w.heap.size+2) w1.heap.size (l,(st,sc)) (d,p,n) w2 from⟨by have:=HE.o.size;omega,by omega,_,_,by rw [<-hw2];exact SOut.new _ _ _ _ _ _ _,(a3b.of hD hI hzW2 hm2 hm1 (.inl lZ)).below hba⟩);revert HB2 HQ2 HS2;exact q0.o):p:=e ⟨h⟩
theorem zm41 (h:q) (e:Hq q->p:=by intro q0;have HU:=qh (hu.below hb0);have HST:=qh (hs.below hb0);have HB0:=qh hb0;have HE:=qh (hE.below hb0 hE.size);revert HU HST HB0 HE;exact q0.o):p:=e ⟨h⟩
theorem zm42 (h:q) (e:Hq q->p:=by intro q0;have HB0:=qh ((Below.refl w.heap.size w).alloc lZ (.cells #[.string (S t),.bool jn,.bool gl,.int .i64 cp,.int .i64 (wd:Int)] 225));have hf:P.stOk ⟨t,jn,gl,cp,wd⟩=(decide ((t.length:Int)<=2000)&&(t.all P.prn&&(decide (0<=cp/\cp<=2)&&decide (0<=(wd:Int)/\(wd:Int)<=(t.length:Int))))):=rfl;revert HB0 hf;exact q0.o):p:=e ⟨h⟩
theorem zm43 (h:q) (e:Hq q->p:=by intro q0;have HB4:=bt HB3 hb;have HX4:=qh (HX3.o.below hb);have HI4:=qh (HI3.o.below a0f hb);have hz4:w3.heap.size<=w4.heap.size:=hb.size;have HDB:=qh (show w4.cell? ⟨w2.heap.size,0,none⟩=some (.slice ua bk.length uc)/\w2.heap.size<w4.heap.size from⟨(hb.cell (p:=⟨w2.heap.size,0,none⟩) hz3).trans HDB.o.1,by omega⟩);revert HB4 HX4 HI4 hz4 HDB;exact q0.o):p:=e ⟨h⟩
theorem zm44 (h:q) (e:Hq q->p:=by intro q0;have HEN:=qh (hfe.read (HU.o.below HB1.o) hb);have HIN:=qh (hfi.read (HUS.o.below HB1.o) hb);revert HEN HIN;exact q0.o):p:=e ⟨h⟩
theorem zm45 (h:q) (e:Hq q->p:=by intro q0;refine wp_region_held_drew (S:=K9 w (.slice (some ⟨g,o,none⟩) l.length cap) l wr.heap.size (.slice xd eo.length xc) eo et g (o+(j-1)*2) y po) kZ HS'.o (λhS0=>?_);refine tk1 0 hS0 ?_;refine trd 1 λK hK=>?_;have HS1:=qh hS0;have HX:=qh (hS0.2.2.2.2.2.2.2.2.2.2.1);have HE:=qh (hS0.2.2.2.2.2.2.2.2.2.2.2.1);revert hS0 K hK HS1 HX HE;exact q0.o):p:=e ⟨h⟩
theorem zm46 (h:q) (e:Hq q->p:=by intro q0;have HBV:=qh (Chg.a0n HB2.o hset HB2.o.size (λb h=>by have h9:b=w.heap.size+1:=h;omega));have HD3:=qh (HD2.o.a0b a0f hset (λb hb h=>by have h9:b=w.heap.size+1:=h;have h8:=hb.1;omega));have HI3:=qh (HI2.o.a0b a1l hset (λb hb h=>by have h9:b=w.heap.size+1:=h;have h8:=hb.1;omega));revert HBV HD3 HI3;exact q0.o):p:=e ⟨h⟩
theorem zm47 (h:q) (e:Hq q->p:=by intro q0;have HN:=qh (show P.next st 1024=(st++[1024]).take (st.length-1) by unfold P.next;rw [if_pos rfl,List.take_append_of_le_length oZ]);have HL:=qh (show (P.next st 1024).length=st.length-1 by rw [HN.o,List.length_take,List.length_append];omega);have i1:((1024:Int)==1024)=true:=rfl;revert HN HL i1;exact q0.o):p:=e ⟨h⟩
theorem zm48 (h:q) (e:Hq q->p:=by intro q0;refine hK.out _ _ HLn.o.s (λ_=>?_);exact q0.o):p:=e ⟨h⟩
theorem zm49 (h:q) (e:Hq q->p:=by intro q0;have hdd:Bl w2 w2.drew:=bZ.drew;have HC3:=qh (HC2.o.below hdd);have HD3:=qh (HD2.o.below hdd);have HDX3:=qh (HDX2.o.below hdd);have HEN3:=qh (HEN2.o.below a0f hdd);revert hdd HC3 HD3 HDX3 HEN3;exact q0.o):p:=e ⟨h⟩
theorem zm50 (h:q) (e:Hq q->p:=by intro q0;(try rw [hV]);clear hset hV;obtain⟨q0,q1,q2,q3,q4,q5,q6⟩:=HRV.o.1;revert q0 q1 q2 q3 q4 q5 q6;exact q0.o):p:=e ⟨h⟩
theorem zm51 (h:q) (e:Hq q->p:=by intro q0;refine tk5 0 hS0 ?_;refine tk5 1 hS0 ?_;refine tk5 2 hS0 ?_;refine tk5 3 hS0 ?_;refine tk5 4 hS0 ?_;refine tk5 5 hS0 ?_;exact q0.o):p:=e ⟨h⟩
theorem zm52 (h:q) (e:Hq q->p:=by intro q0;have HA2:=qh ((HA.o.keep a0f HB1.o).keep a0f ((Below.refl v1.heap.size v1).alloc lZ (.cells #[.slice x1d eo.length x1c,.string (S et)] 119)));revert HA2;exact q0.o):p:=e ⟨h⟩
theorem zm53 (h:q) (e:Hq q->p:=by intro q0;have hb0:=(Below.refl w.heap.size w).alloc lZ (.cells #[dv] 26);revert hb0;exact q0.o):p:=e ⟨h⟩
theorem zm54 (h:q) (e:Hq q->p:=by intro q0;have hd:=(Below.refl (a8l vv g o k (k-1) ⟨.slice xd eo.length xc,Gx,(eo,et)⟩ ⟨.slice yd fo.length yc,Gy,(fo,ft)⟩).heap.size (a8l vv g o k (k-1) ⟨.slice xd eo.length xc,Gx,(eo,et)⟩ ⟨.slice yd fo.length yc,Gy,(fo,ft)⟩)).drew;have HR3:=qh (hr3.below hd);revert hd HR3;exact q0.o):p:=e ⟨h⟩
theorem zm55 (h:q) (e:Hq q->p:=by intro q0;refine hK.out _ _ (HS1.o.step hb) (λhS1=>?_);revert hS1;exact q0.o):p:=e ⟨h⟩
theorem zm56 (h:q) (e:Hq q->p:=by intro q0;refine⟨g,o,h4,h5.lt _ h5.own,λj hj=>?_⟩;obtain⟨x,he,hx⟩:=h5.el j hj;have hc:=(h5.cel j hj 0 (by rw [he];simp)).1;have hd:=(h5.cel j hj 1 (by rw [he];simp)).1;revert j hj x he hx hc hd;exact q0.o):p:=e ⟨h⟩
theorem zm57 (h:q) (e:Hq q->p:=by intro q0;have HR5:=qh (HRD2.o.below hb);have HB5:=bt HBD hb;have HC5:=qh (HCD.o.trans (Below.chg hb _));refine hK.out _ _ ⟨hS0.1.below hb,hS0.2.below hb⟩ (λhS1=>?_);revert HR5 HB5 HC5 hS1;exact q0.o):p:=e ⟨h⟩
theorem zm58 (h:q) (e:Hq q->p:=by intro q0;have hb0:Bl w (((w.alloc (.cells #[dv] 26)).alloc (.cells #[x,.string (S t)] 119)).alloc (.cells #[.slice none 0 0] 26)):=(((Below.refl w.heap.size w).alloc lZ _).alloc sZ _).alloc (by simp;omega) _;have HU:=qh (hu.below hb0);have HO:=qh (ho.below hb0);revert hb0 HU HO;exact q0.o):p:=e ⟨h⟩
theorem zm59 (h:q) (e:Hq q->p:=by intro q0;have HB1:=qh (HB0.o.trans (hb.mono (by simp;omega)));revert HB1;exact q0.o):p:=e ⟨h⟩
theorem zm60 (h:q) (e:Hq q->p:=by intro q0;have HF:=qh (show P.note k t=123::(t++[125]) by unfold P.note;simp only [show ¬k=1 by omega,show ¬k=2 by omega,show ¬k=3 by omega,show ¬k=4 by omega,show ¬k=5 by omega,show ¬k=8 by omega,show ¬k=9 by omega,show ¬k=10 by omega,if_false]);revert HF;exact q0.o):p:=e ⟨h⟩
theorem zm61 (h:q) (e:Hq q->p:=by intro q0;have f2:=e2b hj23 hl;have e1:wrap64 (2^j)=((2^j:Nat):Int):=shl_k oZ;have HKJ:Hq (P.keyOf t[k] nx=j):=⟨HK.o.symm.trans (P.c4b hj23 hl)⟩;have e2:bits .or .i64 (sn:Int) ((2^j:Nat):Int)=((sn+2^j:Nat):Int):=e1r (Nat.lt_of_lt_of_le HI.o.1 (Nat.pow_le_pow_right dZ hj0)) oZ;revert f2 e1 HKJ e2;exact q0.o):p:=e ⟨h⟩
theorem zm62 (h:q) (e:Hq q->p:=by intro q0;have hb0:Bl w ((w.alloc (.cells #[dv] 26)).alloc (a0d (.slice none 0 0) (.slice none 0 0) [] [] [] 0)):=((Below.refl w.heap.size w).alloc lZ _).alloc sZ _;have HU:=qh (hu.below hb0);have HB0:=qh hb0;clear hb0;have HN:=qh (NBox.new dv w 26);have HSM:=qh hs;revert HU HB0 HN HSM;exact q0.o):p:=e ⟨h⟩
theorem zm63 (h:q) (e:Hq q->p:=by intro q0;have HBV:=qh (Chg.a0n HB5.o hset HB5.o.size (λb h=>by have h9:b=w.heap.size+1:=h;omega));have HCV:=qh (HC5.o.trans hset);refine trd 3 λK hK=>?_;revert HBV HCV K hK;exact q0.o):p:=e ⟨h⟩
theorem zm64 (h:q) (e:Hq q->p:=by intro q0;refine (b3z _ _ _ (by unfold maxLen;omega) (by unfold maxLen;omega)).mono ?_;exact q0.o):p:=e ⟨h⟩
theorem zm65 (h:q) (e:Hq q->p:=by intro q0;refine tk1 0 hS0 ?_;refine tk1 1 hS0 ?_;refine tk1 2 hS0 ?_;exact q0.o):p:=e ⟨h⟩
theorem zm66 (h:q) (e:Hq q->p:=by intro q0;have hz12:v.heap.size<=v1.heap.size:=hb1.size;have hz2:v1.heap.size<=v2.heap.size:=hb2.size;have hz3:v2.heap.size<=v3.heap.size:=hgr.size;have hgB:∀b,b<v2.heap.size->u.ownBlock≠some b->v3.heap[b]?=v2.heap[b]?:=λb hb hne=>hgr.block b hb (λe=>hne e.symm);revert hz12 hz2 hz3 hgB;exact q0.o):p:=e ⟨h⟩
theorem zm67 (h:q) (e:Hq q->p:=by intro q0;have HOW:=qh hown;have HBB:=qh (HB.o.grown hgr sZ (λk hk=>by simp [Value.ownBlock]at hk;omega));revert HOW HBB;exact q0.o):p:=e ⟨h⟩
theorem zm68 (h:q) (e:Hq q->p:=by intro q0;have hj:P.a2f x y=(if P.isWord x&&P.isWord y then (if 24<(P.a4t x y).length then ([],false) else (P.a4t x y,true)) else ([],false)):=rfl;have HYL:Hq (P.isWord y=true->0<y.length):=⟨λh=>by have:=P.b9j h;omega⟩;have HJL:=qh (P.c3d x y);revert hj HYL HJL;exact q0.o):p:=e ⟨h⟩
theorem zm69 (h:q) (e:Hq q->p:=by intro q0;refine wp_region_held_drew (S:=K8 w (.slice (some ⟨g,o,none⟩) l.length cap) l wr.heap.size (.slice xd eo.length xc) eo et) kZ HS.o (λhS0=>?_);refine tk1 0 hS0 ?_;refine trd 1 λK hK=>?_;have HS1:=qh hS0;have HX:=qh (hS0.2.2.2.2.1);have HE:=qh (hS0.2.2.2.2.2.1);revert hS0 K hK HS1 HX HE;exact q0.o):p:=e ⟨h⟩
theorem zm70 (h:q) (e:Hq q->p:=by intro q0;have HN:Hq (P.b4u l (st,t) k=if (P.scr l (P.next st k)).2 then (((P.next st k,(P.scr l (P.next st k)).1),P.least t (P.scr l (P.next st k)).1),true) else ((P.tr0,(0,[])),false)):=⟨rfl⟩;have hnl:=P.d0n st k;have hsl:=P.b7m l (P.next st k);revert HN hnl hsl;exact q0.o):p:=e ⟨h⟩
theorem zm71 (h:q) (e:Hq q->p:=by intro q0;refine hK.out _ _ (hS0.below hb) (λhS1=>?_);revert hS1;exact q0.o):p:=e ⟨h⟩
theorem zm72 (h:q) (e:Hq q->p:=by intro q0;have A3:=qh (A2.o.carry hb);clear hb A2;clear a1 a2 a3 b1 b2 c1 c2 c3 d1 d2 d3 e1 e2 e3 hz;obtain⟨⟨a1,a2,a3⟩,⟨b1,b2⟩,⟨c1,c2,c3⟩,⟨d1,d2,d3⟩,⟨e1,e2,e3⟩,hz,_⟩:=A3.o;rw [h2];revert A3 a1 a2 a3 b1 b2 c1 c2 c3 d1 d2 d3 e1 e2 e3 hz;exact q0.o):p:=e ⟨h⟩
theorem zm73 (h:q) (e:Hq q->p:=by intro q0;have HU:=qh hu;have HUS:=qh hus;have HX:=qh hsx;have HR:=qh hsr;have HB:=qh hb0;revert HU HUS HX HR HB;exact q0.o):p:=e ⟨h⟩
theorem zm74 (h:q) (e:Hq q->p:=by intro q0;have HP0:Hq (P.a6b (l,(st,sc)) word more=(if word=P.d1x then P.typed (l,(st,sc)) o else if word=P.b4e then P.a2x (l,(st,sc)) o else ((l,(st,sc)),P.optB (P.b5g o l)))):=⟨HSO.o o hp⟩;have hov:=(P.a1k (P.a8k hp).1).2;revert HP0 hov;exact q0.o):p:=e ⟨h⟩
theorem zm75 (h:q) (e:Hq q->p:=by intro q0;refine (a4u (.slice xd eo.length xc) eo et _ HX.o htl HE.o).mono ?_;exact q0.o):p:=e ⟨h⟩
theorem zm76 (h:q) (e:Hq q->p:=by intro q0;refine tk0 0 hS ?_;refine tk0 1 hS ?_;refine tk0 2 hS ?_;refine tk0 3 hS ?_;refine tk0 4 hS ?_;refine tk0 5 hS ?_;refine tk0 6 hS ?_;refine tk0 7 hS ?_;refine tk0 8 hS ?_;exact q0.o):p:=e ⟨h⟩
theorem zm77 (h:q) (e:Hq q->p:=by intro q0;have HT0S:=qh ht;have HSP:=qh (P.a1m ht);have HSD:=qh (b7u (ok:=P.a4f o l) (b2b hm o));have HNO:=qh (P.b9w (s:=(l,(st,sc))) (o:=o));have HYES:=qh (P.b6z (s:=(l,(st,sc))) (o:=o));have HDS:Hq (P.b0r (l,(st,sc)) o=P.scr (P.kept (P.a4f o l) (P.del o l)) st):=⟨rfl⟩;revert HT0S HSP HSD HNO HYES HDS;exact q0.o):p:=e ⟨h⟩
theorem zm78 (h:q) (e:Hq q->p:=by intro q0;refine tks 18 hS1 ?_;refine tks 19 hS1 ?_;refine tks 20 hS1 ?_;refine tks 21 hS1 ?_;refine tks 22 hS1 ?_;refine tks 23 hS1 ?_;refine tks 24 hS1 ?_;refine tks 25 hS1 ?_;exact q0.o):p:=e ⟨h⟩
theorem zm79 (h:q) (e:Hq q->p:=by intro q0;have HX2:=qh (HX1.o.below hb);have HR2:=qh (HR1.o.below hb);have HB2:=bt HB1 hb;revert HX2 HR2 HB2;exact q0.o):p:=e ⟨h⟩
theorem zm80 (h:q) (e:Hq q->p:=by intro q0;refine (b0u _ _ _ _ hd hp).mono ?_;exact q0.o):p:=e ⟨h⟩
theorem zm81 (h:q) (e:Hq q->p:=by intro q0;have R:=qh (b6y (x:=(1,rw')) (w1:=w2) (o:=(.cells #[.int .i64 1,.string (S rw')] 177)) (v:=.slice va at0.length vc) hzw2 (a0i HOWN.o HX2.o lZ) (HB.o.trans (HX2.o.mono hbz)) hown' hgrow);revert R;exact q0.o):p:=e ⟨h⟩
theorem zm82 (h:q) (e:Hq q->p:=by intro q0;have HT:=qh (show P.word s=decide (1<=(s.length:Int)/\(s.length:Int)<=20) by unfold P.word;rw [<-List.take_of_length_le (l:=s) (i:=k) oZ,HA.o,List.take_of_length_le oZ,Bool.true_and]);revert HT;exact q0.o):p:=e ⟨h⟩
theorem zm83 (h:q) (e:Hq q->p:=by intro q0;have HXD:=qh (HX2.o.below bZ.drew);have HRD2:=qh (HR2.o.below bZ.drew);have HBD:=qh (HB2.o.trans (bZ.drew.mono HB2.o.size));revert HXD HRD2 HBD;exact q0.o):p:=e ⟨h⟩
theorem zm84 (h:q) (e:Hq q->p:=by intro q0;refine lk7 0 hS0 ?_;refine lk7 1 hS0 ?_;refine lk7 2 hS0 ?_;exact q0.o):p:=e ⟨h⟩
theorem zm85 (h:q) (e:Hq q->p:=by intro q0;have HX1:=qh (HX.o.below hb);have HR1:=qh (HR.o.below hb);have HB1:=bt HB hb;revert HX1 HR1 HB1;exact q0.o):p:=e ⟨h⟩
theorem zm86 (h:q) (e:Hq q->p:=by intro q0;have HX:=qh hx;have HS:=qh (show P.a2e t (l.take (j+1))=P.a2e t (l.take j)++if l[j].2==t then [l[j].1] else [] by rw [a0g l j hlt,P.b7z]);have hol:l[j].1.length<=2^20:=hs.outs _ (List.getElem_mem hlt);revert HX HS hol;exact q0.o):p:=e ⟨h⟩
theorem zm87 (h:q) (e:Hq q->p:=by intro q0;have HD5:=qh ((HD3.o.below a0f hb).below a0f hba);have HDB5:=qh ((HDB3.o.below hb).below hba);have HB4:=bt HB3 hb;have HB5:=bt HB4 hba;have HE5:=qh (a1z.new (.int .i64 x) et 55 w4);have hz4:w1.heap.size<=w4.heap.size:=Nat.le_trans hz3 hb.size;revert HD5 HDB5 HB4 HB5 HE5 hz4;exact q0.o):p:=e ⟨h⟩
theorem zm88 (h:q) (e:Hq q->p:=by intro q0;have hown0:a0v w.heap.size w1 (.slice (some ⟨w.heap.size,0,none⟩) 0 0) []:=a0i (World.ownsRow_made _ _ _ lZ dZ (by rfl)) hb lZ;have hbel0:Bl w w1:=(bZ.alloc lZ _).trans (hb.mono sZ);revert hown0 hbel0;exact q0.o):p:=e ⟨h⟩
theorem zm89 (h:q) (e:Hq q->p:=by intro q0;have hlt:=h.lt;have HC:=qh ((a0e.refl h (Nat.le_refl K)).alloc (.cells #[.int .i64 524552,.int .i64 260,.int .i64 1048576,.int .i64 262144] 3));have HL:=qh (b5w [524552,260,1048576,262144] w 3);revert hlt HC HL;exact q0.o):p:=e ⟨h⟩
theorem zm90 (h:q) (e:Hq q->p:=by intro q0;have HT:Hq (l.take j=l):=⟨List.take_of_length_le oZ⟩;revert HT;exact q0.o):p:=e ⟨h⟩
theorem zm91 (h:q) (e:Hq q->p:=by intro q0;have HU:=qh hu;have HO:=qh ho;have HC:=qh hc;have HCL:=qh (World.block_lt_of_cell? w _ hc);have hB0:Bl w (w.alloc (.cells #[] 119)):=(Below.refl w.heap.size w).alloc lZ _;have HB0:=qh hB0;clear hB0;revert HU HO HC HCL HB0;exact q0.o):p:=e ⟨h⟩
theorem zm92 (h:q) (e:Hq q->p:=by intro q0;have hB:Bl w w2:=((((bZ.alloc lZ _).trans (HB.o.mono sZ)).alloc (Nat.le_of_lt hz) _).grown hgrow (by simp;omega) (λk hk=>by injection hk with hk;omega));revert hB;exact q0.o):p:=e ⟨h⟩
theorem zm93 (h:q) (e:Hq q->p:=by intro q0;have HU:=qh (hu.below hb0);have HO:=qh (ho.below hb0);have HB0:=qh hb0;revert HU HO HB0;exact q0.o):p:=e ⟨h⟩
theorem zm94 (h:q) (e:Hq q->p:=by intro q0;have hw2:Below wr.heap.size y1 y2:=hc2.below HB1.o.size (λk h=>by have h9:k=b2:=h;omega);have HB2:=qh (HB1.o.trans hw2);refine hK.out _ _ (by (try rw [hy2]);exact hkk _ _ hS1 hw2) (λhS2=>?_);revert hw2 HB2 hS2;exact q0.o):p:=e ⟨h⟩
theorem zm95 (h:q) (e:Hq q->p:=by intro q0;have HX:=qh (show TBx (w.heap.size+1) sv t ((w.alloc (.cells #[dv] 26)).alloc (.cells #[sv,.string (S t)] 35)) by simpa using TBx.new sv t (w.alloc (.cells #[dv] 26)));revert HX;exact q0.o):p:=e ⟨h⟩
theorem zm96 (h:q) (e:Hq q->p:=by intro q0;have hw1:Below wr.heap.size v y1:=hc1.below HB0.o.size (λk h=>by have h9:k=b1:=h;omega);have HB1:=qh (HB0.o.trans hw1);refine hK.out _ _ (by (try rw [hy1]);exact hkk _ _ hS hw1) (λhS1=>?_);revert hw1 HB1 hS1;exact q0.o):p:=e ⟨h⟩
end Go.Proofs.YtggfdnopminemaaGreatDoor
