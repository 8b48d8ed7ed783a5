/- Steps of walks that come up again: each lemma closes a goal by the tactic that it bears. -/
import Derived.WalkKit
import Derived.LoopTactic
import Derived.Lib.Hide
import Derived.WalkSpells
import Derived.WalkLawsBesides
import Derived.Deep.QuietTactic
import Derived.BigQuiet
import Derived.Deep.RegionHeld3
import Derived.Lib.SlTrimSet
import Derived.Lib.Bytealg
import Derived.Lib.Split
import Derived.Deep.DeepCutAuto
import Derived.Laws.IdiomStrings
import Derived.Shelf.Strings.SlTrimAscii
import Derived.Deep.RegionHeld
import Derived.Deep.AppendLies
import Derived.Deep.RegionLaw
import Derived.IntWalk
import Derived.Lib.Join
import Derived.Lib.Replace
import Derived.RegionTactic
import Derived.BigRegion
import Derived.Laws.OwnMore
import Derived.Laws.BitsLemmas
import Derived.Laws.Bits64b
import Derived.Deep.CutBlock
import Derived.Lib.ItoaLen
import Derived.ProofKit
import Derived.OpenShut
import Derived.Deep.DeepHandedRow
import Derived.Lib.LaidTab
import Derived.Lib.SmallJoins
import Derived.ChangeSlices
import Derived.Deep.Slices
import Derived.Deep.Fields
import Derived.Test.YtggfdnopminemaaGreatDoorProg
namespace Go.Proofs.YtggfdnopminemaaGreatDoor
open Go Go.RowKit
structure Hq (p:Prop):Prop where
 o:p
theorem qh {p:Prop} (h:p):Hq p:=⟨h⟩
theorem qA {α:Type} {xs:List α} {i:Nat} (h:i<xs.toArray.size):xs.toArray[i]=xs[i]'(by simpa using h):=List.getElem_toArray h
theorem qB {α:Type} (a:α) (l:List α) (h:0<(a::l).length):getElem (a::l) 0 h=a:=rfl
theorem qC {α:Type} (a:α) (l:List α) (i:Nat) (h:i+1<(a::l).length):getElem (a::l) (i+1) h=getElem l i (Nat.lt_of_succ_lt_succ h):=rfl
theorem qD {α:Type} (l:List α) (i:Nat) (a:α):l.toArray.setIfInBounds i a=(l.set i a).toArray:=List.setIfInBounds_toArray ..
theorem qE {α:Type} (x:α) (xs:List α) (a:α):(x::xs).set 0 a=a::xs:=rfl
theorem qF {α:Type} (x:α) (xs:List α) (i:Nat) (a:α):(x::xs).set (i+1) a=x::xs.set i a:=rfl
theorem oZ {p:Prop} (h:p:=by omega):p:=h
theorem sZ {p:Prop} (h:p:=by simp):p:=h
theorem dZ {p:Prop} (h:p:=by decide):p:=h
theorem kZ {p:Prop} (h:p:=by kernel_rfl):p:=h
theorem lZ {n:Nat}:n≤n:=Nat.le_refl n
theorem bZ {n:Nat} {w:World}:Below n w w:=Below.refl n w
theorem bt {w v v':World} (h:Hq (Below w.heap.size w v)) (hb:Below v.heap.size v v'):Hq (Below w.heap.size w v'):=⟨h.o.trans (hb.mono h.o.size)⟩
section
variable {P:Program} {ops:Array Oper} {Q:Exit→Act→World→Prop} {md:Region.Mode} {S:World→Prop}
theorem tk0 (i:Nat) {v:Value} {o:Oper} {f:Nat} {b b':Array Bool} {a a':Act} {w:World} (hS:S w) (h:wpAnyH P md ops Q S f b' a' w) (hi:ops[i]?=some o:=by rfl) (hs:Region.noSelect ops=true:=by kernel_rfl) (hf:Region.free md ops b i=true:=by kernel_rfl) (hr:(Region.ready md ops b).contains i=true:=by kernel_rfl) (hg:Region.wanted o (yielded ops a.tmps)=true:=by rfl) (hy:∀z,S z→(execOp a.eval o).run P z=.ok (.value v) z:=by (intro z hz;obtain⟨z1,z2,z3,z4,z5,z6⟩:=hz;first|(go_simp;rfl)|(go_simp;repeat rw [if_pos (by first|omega|assumption)];rfl)|(go_simp;done))) (hQ:∀c a w,Q (.panic c) (a.put o.dst v) w→Q (.panic c) a w:=by exact fun _ _ _ h=>h) (eb:b.setIfInBounds i true=b':=by first|(simp only [qA,qB,qC,Act.put,qD,qE,qF];rfl)|rfl) (ea:a.put o.dst v=a':=by first|(simp only [qA,qB,qC,Act.put,qD,qE,qF];rfl)|rfl):wpAnyH P md ops Q S (f+1) b a w:=by subst eb ea;exact wpAnyH_take hi hs hf hr hQ (Or.inl ⟨hg,hy⟩) hS h
theorem tk1 (i:Nat) {v:Value} {o:Oper} {f:Nat} {b b':Array Bool} {a a':Act} {w:World} (hS:S w) (h:wpAnyH P md ops Q S f b' a' w) (hi:ops[i]?=some o:=by rfl) (hs:Region.noSelect ops=true:=by kernel_rfl) (hf:Region.free md ops b i=true:=by kernel_rfl) (hr:(Region.ready md ops b).contains i=true:=by kernel_rfl) (hg:Region.wanted o (yielded ops a.tmps)=true:=by rfl) (hy:∀z,S z→(execOp a.eval o).run P z=.ok (.value v) z:=by (intro z hz;obtain⟨z1,z2,z3,z4⟩:=hz;first|(go_simp;rfl)|(go_simp;repeat rw [if_pos (by first|omega|assumption)];rfl)|(go_simp;done))) (hQ:∀c a w,Q (.panic c) (a.put o.dst v) w→Q (.panic c) a w:=by exact fun _ _ _ h=>h) (eb:b.setIfInBounds i true=b':=by first|(simp only [qA,qB,qC,Act.put,qD,qE,qF];rfl)|rfl) (ea:a.put o.dst v=a':=by first|(simp only [qA,qB,qC,Act.put,qD,qE,qF];rfl)|rfl):wpAnyH P md ops Q S (f+1) b a w:=by subst eb ea;exact wpAnyH_take hi hs hf hr hQ (Or.inl ⟨hg,hy⟩) hS h
theorem tk2 (i:Nat) {v:Value} {o:Oper} {f:Nat} {b b':Array Bool} {a a':Act} {w:World} (hS:S w) (h:wpAnyH P md ops Q S f b' a' w) (hi:ops[i]?=some o:=by rfl) (hs:Region.noSelect ops=true:=by kernel_rfl) (hf:Region.free md ops b i=true:=by kernel_rfl) (hr:(Region.ready md ops b).contains i=true:=by kernel_rfl) (hg:Region.wanted o (yielded ops a.tmps)=true:=by rfl) (hy:∀z,S z→(execOp a.eval o).run P z=.ok (.value v) z:=by (intro z hz;obtain⟨⟨z0,z1,z2,z3,z4,z5,z6⟩,_⟩:=hz;first|(go_simp;rfl)|(go_simp;repeat rw [if_pos (by first|omega|assumption)];rfl)|(go_simp;done))) (hQ:∀c a w,Q (.panic c) (a.put o.dst v) w→Q (.panic c) a w:=by exact fun _ _ _ h=>h) (eb:b.setIfInBounds i true=b':=by first|(simp only [qA,qB,qC,Act.put,qD,qE,qF];rfl)|rfl) (ea:a.put o.dst v=a':=by first|(simp only [qA,qB,qC,Act.put,qD,qE,qF];rfl)|rfl):wpAnyH P md ops Q S (f+1) b a w:=by subst eb ea;exact wpAnyH_take hi hs hf hr hQ (Or.inl ⟨hg,hy⟩) hS h
theorem tk4 (i:Nat) {v:Value} {o:Oper} {f:Nat} {b b':Array Bool} {a a':Act} {w:World} (hS:S w) (h:wpAnyH P md ops Q S f b' a' w) (hi:ops[i]?=some o:=by rfl) (hs:Region.noSelect ops=true:=by kernel_rfl) (hf:Region.free md ops b i=true:=by kernel_rfl) (hr:(Region.ready md ops b).contains i=true:=by kernel_rfl) (hg:Region.wanted o (yielded ops a.tmps)=true:=by rfl) (hy:∀z,S z→(execOp a.eval o).run P z=.ok (.value v) z:=by (intro z hz;obtain⟨z1,z2⟩:=hz;first|(go_simp;rfl)|(go_simp;repeat rw [if_pos (by first|omega|assumption)];rfl)|(go_simp;done))) (hQ:∀c a w,Q (.panic c) (a.put o.dst v) w→Q (.panic c) a w:=by exact fun _ _ _ h=>h) (eb:b.setIfInBounds i true=b':=by first|(simp only [qA,qB,qC,Act.put,qD,qE,qF];rfl)|rfl) (ea:a.put o.dst v=a':=by first|(simp only [qA,qB,qC,Act.put,qD,qE,qF];rfl)|rfl):wpAnyH P md ops Q S (f+1) b a w:=by subst eb ea;exact wpAnyH_take hi hs hf hr hQ (Or.inl ⟨hg,hy⟩) hS h
theorem tk6 (i:Nat) {v:Value} {o:Oper} {f:Nat} {b b':Array Bool} {a a':Act} {w:World} (hS:S w) (h:wpAnyH P md ops Q S f b' a' w) (hi:ops[i]?=some o:=by rfl) (hs:Region.noSelect ops=true:=by kernel_rfl) (hf:Region.free md ops b i=true:=by kernel_rfl) (hr:(Region.ready md ops b).contains i=true:=by kernel_rfl) (hg:Region.wanted o (yielded ops a.tmps)=true:=by rfl) (hy:∀z,S z→(execOp a.eval o).run P z=.ok (.value v) z:=by (intro z hz;obtain⟨⟨⟨z0,z1,z2,z3,z4⟩,⟨y0,y1,y2,y3,y4⟩,yl⟩,_⟩:=hz;first|(go_simp;rfl)|(go_simp;repeat rw [if_pos (by first|omega|assumption)];rfl)|(go_simp;done))) (hQ:∀c a w,Q (.panic c) (a.put o.dst v) w→Q (.panic c) a w:=by exact fun _ _ _ h=>h) (eb:b.setIfInBounds i true=b':=by first|(simp only [qA,qB,qC,Act.put,qD,qE,qF];rfl)|rfl) (ea:a.put o.dst v=a':=by first|(simp only [qA,qB,qC,Act.put,qD,qE,qF];rfl)|rfl):wpAnyH P md ops Q S (f+1) b a w:=by subst eb ea;exact wpAnyH_take hi hs hf hr hQ (Or.inl ⟨hg,hy⟩) hS h
theorem tk8 (i:Nat) {v:Value} {o:Oper} {f:Nat} {b b':Array Bool} {a a':Act} {w:World} (hS:S w) (h:wpAnyH P md ops Q S f b' a' w) (hi:ops[i]?=some o:=by rfl) (hs:Region.noSelect ops=true:=by kernel_rfl) (hf:Region.free md ops b i=true:=by kernel_rfl) (hr:(Region.ready md ops b).contains i=true:=by kernel_rfl) (hg:Region.wanted o (yielded ops a.tmps)=true:=by rfl) (hy:∀z,S z→(execOp a.eval o).run P z=.ok (.value v) z:=by (intro z hz;obtain⟨⟨b0,b1,b2,b3,b4⟩,_,_⟩:=hz;first|(go_simp;rfl)|(go_simp;repeat rw [if_pos (by first|omega|assumption)];rfl)|(go_simp;done))) (hQ:∀c a w,Q (.panic c) (a.put o.dst v) w→Q (.panic c) a w:=by exact fun _ _ _ h=>h) (eb:b.setIfInBounds i true=b':=by first|(simp only [qA,qB,qC,Act.put,qD,qE,qF];rfl)|rfl) (ea:a.put o.dst v=a':=by first|(simp only [qA,qB,qC,Act.put,qD,qE,qF];rfl)|rfl):wpAnyH P md ops Q S (f+1) b a w:=by subst eb ea;exact wpAnyH_take hi hs hf hr hQ (Or.inl ⟨hg,hy⟩) hS h
theorem tk11 (i:Nat) {v:Value} {o:Oper} {f:Nat} {b b':Array Bool} {a a':Act} {w:World} (hS:S w) (h:wpAnyH P md ops Q S f b' a' w) (hi:ops[i]?=some o:=by rfl) (hs:Region.noSelect ops=true:=by kernel_rfl) (hf:Region.free md ops b i=true:=by kernel_rfl) (hr:(Region.ready md ops b).contains i=true:=by kernel_rfl) (hg:Region.wanted o (yielded ops a.tmps)=true:=by rfl) (hy:∀z,S z→(execOp a.eval o).run P z=.ok (.value v) z:=by (intro z hz;obtain⟨z1,z2,z3⟩:=hz;first|(go_simp;rfl)|(go_simp;repeat rw [if_pos (by first|omega|assumption)];rfl)|(go_simp;done))) (hQ:∀c a w,Q (.panic c) (a.put o.dst v) w→Q (.panic c) a w:=by exact fun _ _ _ h=>h) (eb:b.setIfInBounds i true=b':=by first|(simp only [qA,qB,qC,Act.put,qD,qE,qF];rfl)|rfl) (ea:a.put o.dst v=a':=by first|(simp only [qA,qB,qC,Act.put,qD,qE,qF];rfl)|rfl):wpAnyH P md ops Q S (f+1) b a w:=by subst eb ea;exact wpAnyH_take hi hs hf hr hQ (Or.inl ⟨hg,hy⟩) hS h
theorem tk12 (i:Nat) {v:Value} {o:Oper} {f:Nat} {b b':Array Bool} {a a':Act} {w:World} (hS:S w) (h:wpAnyH P md ops Q S f b' a' w) (hi:ops[i]?=some o:=by rfl) (hs:Region.noSelect ops=true:=by kernel_rfl) (hf:Region.free md ops b i=true:=by kernel_rfl) (hr:(Region.ready md ops b).contains i=true:=by kernel_rfl) (hg:Region.wanted o (yielded ops a.tmps)=true:=by rfl) (hy:∀z,S z→(execOp a.eval o).run P z=.ok (.value v) z:=by (intro z hz;obtain⟨⟨⟨z0,z1,z2,z3,z4,z5,z6⟩,_⟩,za,zb,zc⟩:=hz;first|(go_simp;rfl)|(go_simp;repeat rw [if_pos (by first|omega|assumption)];rfl)|(go_simp;done))) (hQ:∀c a w,Q (.panic c) (a.put o.dst v) w→Q (.panic c) a w:=by exact fun _ _ _ h=>h) (eb:b.setIfInBounds i true=b':=by first|(simp only [qA,qB,qC,Act.put,qD,qE,qF];rfl)|rfl) (ea:a.put o.dst v=a':=by first|(simp only [qA,qB,qC,Act.put,qD,qE,qF];rfl)|rfl):wpAnyH P md ops Q S (f+1) b a w:=by subst eb ea;exact wpAnyH_take hi hs hf hr hQ (Or.inl ⟨hg,hy⟩) hS h
theorem tk13 (i:Nat) {v:Value} {o:Oper} {f:Nat} {b b':Array Bool} {a a':Act} {w:World} (hS:S w) (h:wpAnyH P md ops Q S f b' a' w) (hi:ops[i]?=some o:=by rfl) (hs:Region.noSelect ops=true:=by kernel_rfl) (hf:Region.free md ops b i=true:=by kernel_rfl) (hr:(Region.ready md ops b).contains i=true:=by kernel_rfl) (hg:Region.wanted o (yielded ops a.tmps)=true:=by rfl) (hy:∀z,S z→(execOp a.eval o).run P z=.ok (.value v) z:=by (intro z hz;obtain⟨⟨⟨z0,z1,z2,z3,z4,z5,z6⟩,_⟩,z7,z8,z9⟩:=hz;first|(go_simp;rfl)|(go_simp;repeat rw [if_pos (by first|omega|assumption)];rfl)|(go_simp;done))) (hQ:∀c a w,Q (.panic c) (a.put o.dst v) w→Q (.panic c) a w:=by exact fun _ _ _ h=>h) (eb:b.setIfInBounds i true=b':=by first|(simp only [qA,qB,qC,Act.put,qD,qE,qF];rfl)|rfl) (ea:a.put o.dst v=a':=by first|(simp only [qA,qB,qC,Act.put,qD,qE,qF];rfl)|rfl):wpAnyH P md ops Q S (f+1) b a w:=by subst eb ea;exact wpAnyH_take hi hs hf hr hQ (Or.inl ⟨hg,hy⟩) hS h
theorem tk14 (i:Nat) {v:Value} {o:Oper} {f:Nat} {b b':Array Bool} {a a':Act} {w:World} (hS:S w) (h:wpAnyH P md ops Q S f b' a' w) (hi:ops[i]?=some o:=by rfl) (hs:Region.noSelect ops=true:=by kernel_rfl) (hf:Region.free md ops b i=true:=by kernel_rfl) (hr:(Region.ready md ops b).contains i=true:=by kernel_rfl) (hg:Region.wanted o (yielded ops a.tmps)=true:=by rfl) (hy:∀z,S z→(execOp a.eval o).run P z=.ok (.value v) z:=by (intro z hz;obtain⟨_,b1,b2,_,_⟩:=hz;first|(go_simp;rfl)|(go_simp;repeat rw [if_pos (by first|omega|assumption)];rfl)|(go_simp;done))) (hQ:∀c a w,Q (.panic c) (a.put o.dst v) w→Q (.panic c) a w:=by exact fun _ _ _ h=>h) (eb:b.setIfInBounds i true=b':=by first|(simp only [qA,qB,qC,Act.put,qD,qE,qF];rfl)|rfl) (ea:a.put o.dst v=a':=by first|(simp only [qA,qB,qC,Act.put,qD,qE,qF];rfl)|rfl):wpAnyH P md ops Q S (f+1) b a w:=by subst eb ea;exact wpAnyH_take hi hs hf hr hQ (Or.inl ⟨hg,hy⟩) hS h
theorem tk15 (i:Nat) {v:Value} {o:Oper} {f:Nat} {b b':Array Bool} {a a':Act} {w:World} (hS:S w) (h:wpAnyH P md ops Q S f b' a' w) (hi:ops[i]?=some o:=by rfl) (hs:Region.noSelect ops=true:=by kernel_rfl) (hf:Region.free md ops b i=true:=by kernel_rfl) (hr:(Region.ready md ops b).contains i=true:=by kernel_rfl) (hg:Region.wanted o (yielded ops a.tmps)=true:=by rfl) (hy:∀z,S z→(execOp a.eval o).run P z=.ok (.value v) z:=by (intro z hz;obtain⟨⟨z1,z2⟩,z3,z4,z5⟩:=hz;first|(go_simp;rfl)|(go_simp;repeat rw [if_pos (by first|omega|assumption)];rfl)|(go_simp;done))) (hQ:∀c a w,Q (.panic c) (a.put o.dst v) w→Q (.panic c) a w:=by exact fun _ _ _ h=>h) (eb:b.setIfInBounds i true=b':=by first|(simp only [qA,qB,qC,Act.put,qD,qE,qF];rfl)|rfl) (ea:a.put o.dst v=a':=by first|(simp only [qA,qB,qC,Act.put,qD,qE,qF];rfl)|rfl):wpAnyH P md ops Q S (f+1) b a w:=by subst eb ea;exact wpAnyH_take hi hs hf hr hQ (Or.inl ⟨hg,hy⟩) hS h
theorem tk16 (i:Nat) {v:Value} {o:Oper} {f:Nat} {b b':Array Bool} {a a':Act} {w:World} (hS:S w) (h:wpAnyH P md ops Q S f b' a' w) (hi:ops[i]?=some o:=by rfl) (hs:Region.noSelect ops=true:=by kernel_rfl) (hf:Region.free md ops b i=true:=by kernel_rfl) (hr:(Region.ready md ops b).contains i=true:=by kernel_rfl) (hg:Region.wanted o (yielded ops a.tmps)=true:=by rfl) (hy:∀z,S z→(execOp a.eval o).run P z=.ok (.value v) z:=by (intro z hz;obtain z1:=hz;first|(go_simp;rfl)|(go_simp;repeat rw [if_pos (by first|omega|assumption)];rfl)|(go_simp;done))) (hQ:∀c a w,Q (.panic c) (a.put o.dst v) w→Q (.panic c) a w:=by exact fun _ _ _ h=>h) (eb:b.setIfInBounds i true=b':=by first|(simp only [qA,qB,qC,Act.put,qD,qE,qF];rfl)|rfl) (ea:a.put o.dst v=a':=by first|(simp only [qA,qB,qC,Act.put,qD,qE,qF];rfl)|rfl):wpAnyH P md ops Q S (f+1) b a w:=by subst eb ea;exact wpAnyH_take hi hs hf hr hQ (Or.inl ⟨hg,hy⟩) hS h
theorem tks (i:Nat) {o:Oper} {f:Nat} {b b':Array Bool} {a a':Act} {w:World} (hS:S w) (h:wpAnyH P md ops Q S f b' a' w) (hi:ops[i]?=some o:=by rfl) (hs:Region.noSelect ops=true:=by kernel_rfl) (hf:Region.free md ops b i=true:=by kernel_rfl) (hr:(Region.ready md ops b).contains i=true:=by kernel_rfl) (hQ:∀c a w,Q (.panic c) (a.put o.dst undef) w→Q (.panic c) a w:=by exact fun _ _ _ h=>h) (hg:Region.wanted o (yielded ops a.tmps)=false:=by rfl) (eb:b.setIfInBounds i true=b':=by first|(simp only [qA,qB,qC,Act.put,qD,qE,qF];rfl)|rfl) (ea:a.put o.dst undef=a':=by first|(simp only [qA,qB,qC,Act.put,qD,qE,qF];rfl)|rfl):wpAnyH P md ops Q S (f+1) b a w:=by subst eb ea;exact wpAnyH_take hi hs hf hr hQ (Or.inr ⟨hg,rfl⟩) hS h
theorem trd (i:Nat) {o:Oper} {f:Nat} {b:Array Bool} {a:Act} {w:World} (h:∀K:Act→World→Prop,Shut (∀a w,S w→(S w→wpAnyH P md ops Q S f (b.setIfInBounds i true) a w)→K a w)→if Region.wanted o (yielded ops a.tmps)=true then Oper.wp P o a w K Q else K (a.put o.dst undef) w) (ho:ops[i]?=some o:=by rfl) (hr:Region.ready md ops b=[i]:=by kernel_rfl):wpAnyH P md ops Q S (f+1) b a w:=wpAnyH_ready hr sZ (AllReadyH.cons ho h AllReadyH.nil)
theorem tk (i:Nat) (v:Value) {o:Oper} {f:Nat} {b b':Array Bool} {a a':Act} {w:World} (hy:∀z,S z→∀o,ops[i]?=some o→(execOp a.eval o).run P z=.ok (.value v) z) (hS:S w) (h:wpAnyH P md ops Q S f b' a' w) (hi:ops[i]?=some o:=by rfl) (hs:Region.noSelect ops=true:=by kernel_rfl) (hf:Region.free md ops b i=true:=by kernel_rfl) (hr:(Region.ready md ops b).contains i=true:=by kernel_rfl) (hg:Region.wanted o (yielded ops a.tmps)=true:=by rfl) (hQ:∀c a w,Q (.panic c) (a.put o.dst v) w→Q (.panic c) a w:=by exact fun _ _ _ h=>h) (eb:b.setIfInBounds i true=b':=by first|(simp only [qA,qB,qC,Act.put,qD,qE,qF];rfl)|rfl) (ea:a.put o.dst v=a':=by first|(simp only [qA,qB,qC,Act.put,qD,qE,qF];rfl)|rfl):wpAnyH P md ops Q S (f+1) b a w:=by subst eb ea;exact wpAnyH_take hi hs hf hr hQ (Or.inl ⟨hg,fun z hz=>hy z hz o hi⟩) hS h
end
theorem zq0 {p:Prop} (h:p:=by
 have HBL:=qh (show c-a≤n∧b-c≤n by omega);clear hen HBI HS1 HS2
 by_cases u1:r<m
 ·by_cases u2:m<en
  ·skip;have ua:(r:Int)<(m:Int):=by omega
   have ub:(m:Int)<(en:Int):=by omega
   by_cases v1:a<r
   ·by_cases v2:r<c
    ·skip;have va:(a:Int)<(r:Int):=by omega
     have vb:(r:Int)<(c:Int):=by omega
     by_cases x1:c<en
     ·by_cases x2:en<b
      ·skip;have xa:(c:Int)<(en:Int):=by omega
       have xb:(en:Int)<(b:Int):=by omega
       have HCALL:=qh (a2e its F g o cap r m en wr HR.o hl u1 u2 oZ)
       go_wp2_with fail
       refine HCALL.o.mono ?_;rintro e w1 ⟨rfl,n1,hm1,hrr,hcc⟩;have HR1:=qh hrr;have HC1:=qh (HC.o.trans hcc);have HM1:=qh hm1;clear hrr hcc HCALL;have hln1:n1.length=its.length:=hm1.len;clear hm1;obtain⟨hp1,hsp,hsa,hsb,hsc,hsd⟩:=HDONE.o _ HM1.o;have HP1:=qh hp1;have HSP:=qh hsp;have HSA:=qh hsa;have HSB:=qh hsb;have HSC:=qh hsc;have HSD:=qh hsd;clear hp1 hsp hsa hsb hsc hsd;have hcall:=HI.o n1 F g o cap a r c w1 HBL.o.1 HR1.o oZ v1 v2 oZ HSA.o HSB.o;rw [hln1]at hcall;have HCALL2:=qh hcall;clear hcall
       go_wp2_with fail
       refine HCALL2.o.mono ?_;rintro e w2 ⟨rfl,n2,hp2,hs2,hrr,hcc⟩;have HR2:=qh hrr;have HC2:=qh (HC1.o.trans hcc);have HP2:=qh hp2;have HT2:=qh hs2;have hln2:n2.length=its.length:=hp2.len.trans hln1;clear hrr hcc hp2 hs2 HCALL2;have hcall:=HI.o n2 F g o cap c en b w2 HBL.o.2 HR2.o oZ x1 x2 oZ (HSC.o.same HP2.o (.inr lZ)) (HSD.o.same HP2.o (.inr oZ));rw [hln2]at hcall;exact zq168
      ·skip;have xa:(c:Int)<(en:Int):=by omega
       have xb:¬(en:Int)<(b:Int):=by omega
       have HCALL:=qh (a2e its F g o cap r m en wr HR.o hl u1 u2 oZ)
       go_wp2_with fail
       refine HCALL.o.mono ?_;rintro e w1 ⟨rfl,n1,hm1,hrr,hcc⟩;have HR1:=qh hrr;have HC1:=qh (HC.o.trans hcc);have HM1:=qh hm1;clear hrr hcc HCALL;have hln1:n1.length=its.length:=hm1.len;clear hm1;obtain⟨hp1,hsp,hsa,hsb,hsc,hsd⟩:=HDONE.o _ HM1.o;have HP1:=qh hp1;have HSP:=qh hsp;have HSA:=qh hsa;have HSB:=qh hsb;have HSC:=qh hsc;have HSD:=qh hsd;clear hp1 hsp hsa hsb hsc hsd;have hcall:=HI.o n1 F g o cap a r c w1 HBL.o.1 HR1.o oZ v1 v2 oZ HSA.o HSB.o;rw [hln1]at hcall;have HCALL2:=qh hcall;clear hcall
       go_wp2_with fail
       refine HCALL2.o.mono ?_;rintro e w2 ⟨rfl,n2,hp2,hs2,hrr,hcc⟩;have HR2:=qh hrr;have HC2:=qh (HC1.o.trans hcc);have HP2:=qh hp2;have HT2:=qh hs2;have hln2:n2.length=its.length:=hp2.len.trans hln1;clear hrr hcc hp2 hs2 HCALL2;have HP3:=qh (a0m.refl c b n2)
       have HT3:=qh (show a0c c b n2 from by
        have e1:en=b:=by omega
        have k:=HSC.o.same HP2.o (.inr lZ);rw [e1]at k;exact k)
       exact zq170
     ·skip;have xa:¬(c:Int)<(en:Int):=by omega
      have HCALL:=qh (a2e its F g o cap r m en wr HR.o hl u1 u2 oZ)
      go_wp2_with fail
      refine HCALL.o.mono ?_;rintro e w1 ⟨rfl,n1,hm1,hrr,hcc⟩;have HR1:=qh hrr;have HC1:=qh (HC.o.trans hcc);have HM1:=qh hm1;clear hrr hcc HCALL;have hln1:n1.length=its.length:=hm1.len;clear hm1;obtain⟨hp1,hsp,hsa,hsb,hsc,hsd⟩:=HDONE.o _ HM1.o;have HP1:=qh hp1;have HSP:=qh hsp;have HSA:=qh hsa;have HSB:=qh hsb;have HSC:=qh hsc;have HSD:=qh hsd;clear hp1 hsp hsa hsb hsc hsd;have hcall:=HI.o n1 F g o cap a r c w1 HBL.o.1 HR1.o oZ v1 v2 oZ HSA.o HSB.o;rw [hln1]at hcall;have HCALL2:=qh hcall;clear hcall
      go_wp2_with fail
      refine HCALL2.o.mono ?_;rintro e w2 ⟨rfl,n2,hp2,hs2,hrr,hcc⟩;have HR2:=qh hrr;have HC2:=qh (HC1.o.trans hcc);have HP2:=qh hp2;have HT2:=qh hs2;have hln2:n2.length=its.length:=hp2.len.trans hln1;clear hrr hcc hp2 hs2 HCALL2;have HP3:=qh (a0m.refl c b n2)
      have HT3:=qh (show a0c c b n2 from by
       have e1:en=c:=by omega
       have k:=HSD.o.same HP2.o (.inr oZ);rw [e1]at k;exact k)
      exact zq170
    ·skip;have va:(a:Int)<(r:Int):=by omega
     have vb:¬(r:Int)<(c:Int):=by omega
     by_cases x1:c<en
     ·by_cases x2:en<b
      ·skip;have xa:(c:Int)<(en:Int):=by omega
       have xb:(en:Int)<(b:Int):=by omega
       have HCALL:=qh (a2e its F g o cap r m en wr HR.o hl u1 u2 oZ)
       go_wp2_with fail
       refine HCALL.o.mono ?_;rintro e w1 ⟨rfl,n1,hm1,hrr,hcc⟩;have HR1:=qh hrr;have HC1:=qh (HC.o.trans hcc);have HM1:=qh hm1;clear hrr hcc HCALL;have hln1:n1.length=its.length:=hm1.len;clear hm1;obtain⟨hp1,hsp,hsa,hsb,hsc,hsd⟩:=HDONE.o _ HM1.o;have HP1:=qh hp1;have HSP:=qh hsp;have HSA:=qh hsa;have HSB:=qh hsb;have HSC:=qh hsc;have HSD:=qh hsd;clear hp1 hsp hsa hsb hsc hsd;have HP2:=qh (a0m.refl a c n1)
       have HT2:=qh (show a0c a c n1 from by
        have e1:r=c:=by omega
        rw [e1]at HSA;exact HSA.o)
       exact zq196
      ·skip;have xa:(c:Int)<(en:Int):=by omega
       have xb:¬(en:Int)<(b:Int):=by omega
       have HCALL:=qh (a2e its F g o cap r m en wr HR.o hl u1 u2 oZ)
       go_wp2_with fail
       refine HCALL.o.mono ?_;rintro e w1 ⟨rfl,n1,hm1,hrr,hcc⟩;have HR1:=qh hrr;have HC1:=qh (HC.o.trans hcc);have HM1:=qh hm1;clear hrr hcc HCALL;have hln1:n1.length=its.length:=hm1.len;clear hm1;obtain⟨hp1,hsp,hsa,hsb,hsc,hsd⟩:=HDONE.o _ HM1.o;have HP1:=qh hp1;have HSP:=qh hsp;have HSA:=qh hsa;have HSB:=qh hsb;have HSC:=qh hsc;have HSD:=qh hsd;clear hp1 hsp hsa hsb hsc hsd;have HP2:=qh (a0m.refl a c n1)
       have HT2:=qh (show a0c a c n1 from by
        have e1:r=c:=by omega
        rw [e1]at HSA;exact HSA.o)
       exact zq194
     ·skip;have xa:¬(c:Int)<(en:Int):=by omega
      have HCALL:=qh (a2e its F g o cap r m en wr HR.o hl u1 u2 oZ)
      go_wp2_with fail
      refine HCALL.o.mono ?_;rintro e w1 ⟨rfl,n1,hm1,hrr,hcc⟩;have HR1:=qh hrr;have HC1:=qh (HC.o.trans hcc);have HM1:=qh hm1;clear hrr hcc HCALL;have hln1:n1.length=its.length:=hm1.len;clear hm1;obtain⟨hp1,hsp,hsa,hsb,hsc,hsd⟩:=HDONE.o _ HM1.o;have HP1:=qh hp1;have HSP:=qh hsp;have HSA:=qh hsa;have HSB:=qh hsb;have HSC:=qh hsc;have HSD:=qh hsd;clear hp1 hsp hsa hsb hsc hsd;have HP2:=qh (a0m.refl a c n1)
      have HT2:=qh (show a0c a c n1 from by
       have e1:r=c:=by omega
       rw [e1]at HSA;exact HSA.o)
      exact zq195
   ·skip;have va:¬(a:Int)<(r:Int):=by omega
    by_cases x1:c<en
    ·by_cases x2:en<b
     ·skip;have xa:(c:Int)<(en:Int):=by omega
      have xb:(en:Int)<(b:Int):=by omega
      have HCALL:=qh (a2e its F g o cap r m en wr HR.o hl u1 u2 oZ)
      go_wp2_with fail
      refine HCALL.o.mono ?_;rintro e w1 ⟨rfl,n1,hm1,hrr,hcc⟩;have HR1:=qh hrr;have HC1:=qh (HC.o.trans hcc);have HM1:=qh hm1;clear hrr hcc HCALL;have hln1:n1.length=its.length:=hm1.len;clear hm1;obtain⟨hp1,hsp,hsa,hsb,hsc,hsd⟩:=HDONE.o _ HM1.o;have HP1:=qh hp1;have HSP:=qh hsp;have HSA:=qh hsa;have HSB:=qh hsb;have HSC:=qh hsc;have HSD:=qh hsd;clear hp1 hsp hsa hsb hsc hsd;have HP2:=qh (a0m.refl a c n1)
      have HT2:=qh (show a0c a c n1 from by
       have e1:r=a:=by omega
       rw [e1]at HSB;exact HSB.o)
      exact zq196
     ·skip;have xa:(c:Int)<(en:Int):=by omega
      have xb:¬(en:Int)<(b:Int):=by omega
      have HCALL:=qh (a2e its F g o cap r m en wr HR.o hl u1 u2 oZ)
      go_wp2_with fail
      refine HCALL.o.mono ?_;rintro e w1 ⟨rfl,n1,hm1,hrr,hcc⟩;have HR1:=qh hrr;have HC1:=qh (HC.o.trans hcc);have HM1:=qh hm1;clear hrr hcc HCALL;have hln1:n1.length=its.length:=hm1.len;clear hm1;obtain⟨hp1,hsp,hsa,hsb,hsc,hsd⟩:=HDONE.o _ HM1.o;have HP1:=qh hp1;have HSP:=qh hsp;have HSA:=qh hsa;have HSB:=qh hsb;have HSC:=qh hsc;have HSD:=qh hsd;clear hp1 hsp hsa hsb hsc hsd;have HP2:=qh (a0m.refl a c n1)
      have HT2:=qh (show a0c a c n1 from by
       have e1:r=a:=by omega
       rw [e1]at HSB;exact HSB.o)
      exact zq194
    ·skip;have xa:¬(c:Int)<(en:Int):=by omega
     have HCALL:=qh (a2e its F g o cap r m en wr HR.o hl u1 u2 oZ)
     go_wp2_with fail
     refine HCALL.o.mono ?_;rintro e w1 ⟨rfl,n1,hm1,hrr,hcc⟩;have HR1:=qh hrr;have HC1:=qh (HC.o.trans hcc);have HM1:=qh hm1;clear hrr hcc HCALL;have hln1:n1.length=its.length:=hm1.len;clear hm1;obtain⟨hp1,hsp,hsa,hsb,hsc,hsd⟩:=HDONE.o _ HM1.o;have HP1:=qh hp1;have HSP:=qh hsp;have HSA:=qh hsa;have HSB:=qh hsb;have HSC:=qh hsc;have HSD:=qh hsd;clear hp1 hsp hsa hsb hsc hsd;have HP2:=qh (a0m.refl a c n1)
     have HT2:=qh (show a0c a c n1 from by
      have e1:r=a:=by omega
      rw [e1]at HSB;exact HSB.o)
     exact zq195
  ·skip;have ua:(r:Int)<(m:Int):=by omega
   have ub:¬(m:Int)<(en:Int):=by omega
   exact zq167
 ·skip;have ua:¬(r:Int)<(m:Int):=by omega
  exact zq167):p:=h
theorem zq1 {p:Prop} (h:p:=by
 clear hb hfe hfi;obtain⟨⟨r0,r1,r2,r3,r4,r5,r6⟩,f0,f1,f2,f3,f4,f5⟩:=HR9.o;obtain⟨V,hV⟩:∃v,((((((x2.setCell ⟨w.heap.size+1,0,none⟩ (.slice na l2.length nc)).setCell ⟨w.heap.size+1,1,none⟩ (.slice ma st2.length mc)).setCell ⟨w.heap.size+1,2,none⟩ (.string (S sc2))).setCell ⟨w.heap.size+1,3,none⟩ (.string (S d))).setCell ⟨w.heap.size+1,4,none⟩ (.string (S p))).setCell ⟨w.heap.size+1,5,none⟩ (.int .i64 n))=v:=⟨_,rfl⟩;have hset:Chg (fun b=>b=w.heap.size+1) x2 V:=by rw [←hV];exact (((((((Chg.refl (fun b=>b=w.heap.size+1) x2).setCell (p:=⟨w.heap.size+1,0,none⟩) rfl _).setCell (p:=⟨w.heap.size+1,1,none⟩) rfl _).setCell (p:=⟨w.heap.size+1,2,none⟩) rfl _).setCell (p:=⟨w.heap.size+1,3,none⟩) rfl _).setCell (p:=⟨w.heap.size+1,4,none⟩) rfl _).setCell (p:=⟨w.heap.size+1,5,none⟩) rfl _)
 have HRV:=qh (show SOut (w.heap.size+1) (.slice na l2.length nc) (.slice ma st2.length mc) sc2 d p n V from by rw [←hV];exact ((HR9.o.set0 (x:=.slice na l2.length nc)).set1 (x:=.slice ma st2.length mc) (r:=sc2)).set3 (d':=d) (p':=p) (n':=n));have HBV:=qh (Chg.a0k HB9.o hset HB9.o.size (fun b h=>by have h9:b=w.heap.size+1:=h;omega));have HFE2:=qh (HFE.o.after (w:=w) oZ hset (fun b h=>by have h9:b=w.heap.size+1:=h;omega));have HFI2:=qh (HFI.o.after (w:=w) oZ hset (fun b h=>by have h9:b=w.heap.size+1:=h;omega));go_wp2
 try rw [hV]
 clear hset hV;obtain⟨q0,q1,q2,q3,q4,q5,q6⟩:=HRV.o.1;refine bodyPost_ret (v:=.tuple #[a1e (.slice na l2.length nc) (.slice ma st2.length mc) sc2 d p n,.string (S (txtB rep))]) (by simp [results,Tryz.results95,go_sem,q0,q1,q2,q3,q4,q5]) rfl ⟨.slice na l2.length nc,.slice ma st2.length mc,by rw [HP.o],by rw [HP.o];exact HFE2.o,by rw [HP.o];exact HFI2.o,HBV.o⟩):p:=h
theorem zq2 {p:Prop} (h:p:=by
 rintro e v9 ⟨x,y,m,rfl,hd,ho,hm1,hm2,hb⟩;rw [HRR.o]at hd ho⊢;simp only at hd ho⊢;unfold a1c;have HLn:=qh (HL.o.below hb);have HRn:=qh (DfR.called HL.o hd ho hm1 hm2 HNL.o);obtain⟨xa,xc,rfl,-,-⟩:=hd;obtain⟨ya,yc,rfl⟩:=a0i ho;refine hK.out _ _ HLn.o.s (fun hS9=>?_);clear hK K ho hm1 hm2 hb hS9
 try simp only [qA,qB,qC,Act.put,qD,qE,qF]
 refine tk1 12 HLn.o.s ?_;refine tk1 13 HLn.o.s ?_;refine tk1 14 HLn.o.s ?_;refine tk1 15 HLn.o.s ?_;refine tk1 16 HLn.o.s ?_;clear HL;revert HRn;revert HLn;revert yc;revert ya;revert xc;revert xa;revert b3;revert b2;revert b1;revert v9;exact k1111;intro v b2 b3 xa xc ya yc HL HR;refine trd 17 fun K hK=>?_;go_simp;have HLn:=qh (HL.o.b2o);have HRn:=qh (HR.o.alloc (.cells #[.slice none 0 0] 26) (.inr rfl) (.inl rfl) (.inl rfl));refine hK.out _ _ HLn.o.s (fun _=>?_);clear hK K
 try simp only [qA,qB,qC,Act.put,qD,qE,qF]
 clear HL HR;generalize v.alloc (.cells #[.slice none 0 0] 26)=v9 at HLn HRn⊢;generalize v.heap.size=b1 at HLn HRn⊢;revert HRn;revert HLn;revert yc;revert ya;revert xc;revert xa;revert b3;revert b2;revert b1;revert v9;exact k1111;intro v b1 b3 xa xc ya yc HL HR;refine trd 18 fun K hK=>?_;go_simp;have HLn:=qh (HL.o.b2m);have HRn:=qh (HR.o.alloc (.cells #[.slice none 0 0,.string (S [])] 35) (.inl rfl) (.inr rfl) (.inl rfl));refine hK.out _ _ HLn.o.s (fun _=>?_);clear hK K
 try simp only [qA,qB,qC,Act.put,qD,qE,qF]
 clear HL HR;generalize v.alloc (.cells #[.slice none 0 0,.string (S [])] 35)=v9 at HLn HRn⊢;generalize v.heap.size=b2 at HLn HRn⊢;revert HRn;revert HLn;revert yc;revert ya;revert xc;revert xa;revert b3;revert b2;revert b1;revert v9;exact k1111;intro v b1 b2 xa xc ya yc HL HR;refine trd 19 fun K hK=>?_;go_simp;have HLn:=qh (HL.o.b2s);have HRn:=qh (HR.o.alloc (.cells #[.int .i64 0,.string (S [])] 55) (.inl rfl) (.inl rfl) (.inr rfl));refine hK.out _ _ HLn.o.s (fun _=>?_);clear hK K
 try simp only [qA,qB,qC,Act.put,qD,qE,qF]
 clear HL HR;generalize v.alloc (.cells #[.int .i64 0,.string (S [])] 55)=v9 at HLn HRn⊢;generalize v.heap.size=b3 at HLn HRn⊢;revert HRn;revert HLn;revert yc;revert ya;revert xc;revert xa;revert b3;revert b2;revert b1;revert v9;exact k1111;intro v b1 b2 b3 xa xc ya yc HL HR;obtain⟨⟨hd1,hd2⟩,hd3,hd4⟩:=HL.o.d b1 rfl;obtain⟨ht0,ht⟩:=HL.o.t b2 rfl;obtain⟨he0,he⟩:=HL.o.e b3 rfl;have n12:=HL.o.n12 b1 b2 rfl rfl;have n13:=HL.o.n13 b1 b3 rfl rfl;have n23:=HL.o.n23 b2 b3 rfl rfl;have hBw:=HL.o.hB;have HBW:=qh HL.o.bw;have hS:=HL.o.s;refine trd 20 fun K hK=>?_;go_simp;obtain⟨y1,hy1⟩:∃y,v.setCell ⟨b1,0,none⟩ (.slice xa D.length xc)=y:=⟨_,rfl⟩;have hc1:Chg (fun k=>k=b1) v y1:=by rw [←hy1];exact (Chg.refl (fun k=>k=b1) v).setCell (p:=⟨b1,0,none⟩) rfl _
 have hx1:Box1 b1 (.slice xa D.length xc) y1:=by rw [←hy1];exact Box1.set1 hd3 hd2
 have hw1:Below wr.heap.size wr y1:=Chg.a0k HBW.o hc1 HBW.o.size (fun k h=>by have h9:k=b1:=h;omega);refine hK.out _ _ (by (try rw [hy1]);exact hS.a0e hc1 oZ) (fun hS1=>?_);clear hK K
 try rw [hy1]at hS1⊢
 try simp only [qA,qB,qC,Act.put,qD,qE,qF]
 have ht1:=ht.a0e hc1 oZ;have he1:=he.a0e hc1 oZ;have HR1:=qh (HR.o.a0e hc1 (fun b h _=>.inl (by have h9:b=b1:=h;rw [h9])));clear hd3 hd4 ht he hy1 HR;obtain⟨zb,cb0,cb1,fb0,fb1⟩:=ht1;refine trd 21 fun K hK=>?_;go_simp;obtain⟨y2,hy2⟩:∃y,((y1.setCell ⟨b2,0,none⟩ (.slice ya ns.length yc)).setCell ⟨b2,1,none⟩ (.string (S nsc)))=y:=⟨_,rfl⟩;have hc2:Chg (fun k=>k=b2) y1 y2:=by rw [←hy2];exact ((Chg.refl (fun k=>k=b2) y1).setCell (p:=⟨b2,0,none⟩) rfl _).setCell (p:=⟨b2,1,none⟩) rfl _
 have hx2:a0n b2 (.slice ya ns.length yc) nsc y2:=by rw [←hy2];exact a0n.set2 cb0 cb1 zb
 have hw2:Below wr.heap.size wr y2:=Chg.a0k hw1 hc2 hw1.size (fun k h=>by have h9:k=b2:=h;omega);refine hK.out _ _ (by (try rw [hy2]);exact hS1.a0e hc2 oZ) (fun hS2=>?_);clear hK K
 try rw [hy2]at hS2⊢
 try simp only [qA,qB,qC,Act.put,qD,qE,qF]
 have he2:=he1.a0e hc2 oZ;have hx1':=hx1.a0e hc2 oZ;have HR2:=qh (HR1.o.a0e hc2 (fun b h _=>.inr (.inl (by have h9:b=b2:=h;rw [h9]))));clear zb cb0 cb1 fb0 fb1 he1 hx1 hy2 HR1;obtain⟨zb,cb0,cb1,fb0,fb1⟩:=he2;refine trd 22 fun K hK=>?_;go_simp;obtain⟨y3,hy3⟩:∃y,((y2.setCell ⟨b3,0,none⟩ (.int .i64 en)).setCell ⟨b3,1,none⟩ (.string (S et)))=y:=⟨_,rfl⟩;have hc3:Chg (fun k=>k=b3) y2 y3:=by rw [←hy3];exact ((Chg.refl (fun k=>k=b3) y2).setCell (p:=⟨b3,0,none⟩) rfl _).setCell (p:=⟨b3,1,none⟩) rfl _
 have hx3:a0n b3 (.int .i64 en) et y3:=by rw [←hy3];exact a0n.set2 cb0 cb1 zb
 have hw3:Below wr.heap.size wr y3:=Chg.a0k hw2 hc3 hw2.size (fun k h=>by have h9:k=b3:=h;omega);refine hK.out _ _ (by (try rw [hy3]);exact hS2.a0e hc3 oZ) (fun hS3=>?_);clear hK K
 try rw [hy3]at hS3⊢
 try simp only [qA,qB,qC,Act.put,qD,qE,qF]
 have HR3:=qh (HR2.o.a0e hc3 (fun b h _=>.inr (.inr (by have h9:b=b3:=h;rw [h9]))));have hx1'':=hx1'.a0e hc3 oZ;have hx2':=hx2.a0e hc3 oZ;clear zb cb0 cb1 fb0 fb1 hy3;refine tk1 23 hS3 ?_;refine wpAnyH_done kZ ?_ _
 go_wp2_with fail
 go_meet;exact⟨b1,b2,b3,xa,xc,ya,yc,rfl,rfl,rfl,rfl,hx1'',hx2',hx3,HR3.o,hw3,hd1,ht0,he0⟩):p:=h
theorem zq3 {p:Prop} (h:p:=by
 obtain⟨⟨o0,o1,o2,o3,o4,o5,o6⟩,_⟩:=HX2.o;obtain⟨⟨r0,r1,r2,r3,r4,r5,r6⟩,f0,f1,f2,f3,f4,f5⟩:=HR2.o;obtain⟨V,hV⟩:∃v,((((((w2.setCell ⟨w.heap.size+1,0,none⟩ ((.slice ad l.length cap))).setCell ⟨w.heap.size+1,1,none⟩ ((.slice sd st.length sap))).setCell ⟨w.heap.size+1,2,none⟩ (.string (S sc))).setCell ⟨w.heap.size+1,3,none⟩ (.string (S d))).setCell ⟨w.heap.size+1,4,none⟩ (.string (S p))).setCell ⟨w.heap.size+1,5,none⟩ (.int .i64 n))=v:=⟨_,rfl⟩;have hset:Chg (fun b=>b=w.heap.size+1) w2 V:=by rw [←hV];exact (((((((Chg.refl (fun b=>b=w.heap.size+1) w2).setCell (p:=⟨w.heap.size+1,0,none⟩) rfl _).setCell (p:=⟨w.heap.size+1,1,none⟩) rfl _).setCell (p:=⟨w.heap.size+1,2,none⟩) rfl _).setCell (p:=⟨w.heap.size+1,3,none⟩) rfl _).setCell (p:=⟨w.heap.size+1,4,none⟩) rfl _).setCell (p:=⟨w.heap.size+1,5,none⟩) rfl _)
 have HRV:=qh (show SOut (w.heap.size+1) ((.slice ad l.length cap)) ((.slice sd st.length sap)) sc d p n V from by rw [←hV];exact ((HR2.o.set0 (x:=(.slice ad l.length cap))).set1 (x:=(.slice sd st.length sap)) (r:=sc)).set3 (d':=d) (p':=p) (n':=n));have HBV:=qh (Chg.a0k HB2.o hset HB2.o.size (fun b h=>by have h9:b=w.heap.size+1:=h;omega));go_wp2
 try rw [hV]
 clear hset hV;obtain⟨q0,q1,q2,q3,q4,q5,q6⟩:=HRV.o.1;refine bodyPost_ret (v:=.tuple #[a1e ((.slice ad l.length cap)) ((.slice sd st.length sap)) sc d p n,.string (S [63])]) (by simp [results,Tryz.results95,go_sem,q0,q1,q2,q3,q4,q5]) rfl ⟨(.slice ad l.length cap),(.slice sd st.length sap),by rw [HP.o]<;>rfl,by rw [HP.o];exact .inl ⟨rfl,rfl⟩,by rw [HP.o];exact .inl ⟨rfl,rfl⟩,HBV.o⟩):p:=h
theorem zq4 {p:Prop} (h:p:=by
 obtain⟨g,o,hga,hgs,x,c0,c1,hx⟩:=(HU.o.below hb).at j hlt;have HEN:=qh (a0f l j hlt);have hll:=HLE.o _ (List.getElem_mem hlt);have hba:=(Below.refl wr.heap.size wr).alloc lZ (.cells #[x,.string (S l[j].2)] 119);have HX:=qh (hx.below hba);have HBA:=qh hba;have HR:=qh ((hba.cell (p:=⟨w.heap.size,0,none⟩) (by have:=HBZ.o;show w.heap.size<_;omega)).trans r0);have HSF:=qh ((hba.frozen (p:=⟨w.heap.size,0,none⟩) (by have:=HBZ.o;show w.heap.size<_;omega)).trans s0);obtain⟨xd,xc,rfl,_,_⟩:=hx;subst hga;generalize l[j]=en at *;obtain⟨eo,et⟩:=en;simp only at hll HX HBA HR HSF c1;have i1:(j:Int)<(l.length:Int):=by omega
 clear hb hba r0 s0
 go_wp2_with fail
 refine (copied _ eo et _ HX.o oZ).mono ?_;rintro e v1 ⟨x1,rfl,hI,hb1⟩;have hzz:wr.heap.size+1≤v1.heap.size:=by have:=hb1.size;simp at this;omega
 have HZ1:=qh hzz;have HB1:=qh (show Below wr.heap.size wr v1 from HBA.o.trans (hb1.mono sZ));have HI:=qh hI;have HR1:=qh ((hb1.cell (p:=⟨w.heap.size,0,none⟩) (by have:=HBZ.o;simp;omega)).trans HR.o);have HF1:=qh ((hb1.frozen (p:=⟨w.heap.size,0,none⟩) (by have:=HBZ.o;simp;omega)).trans HSF.o);obtain⟨x1d,x1c,rfl,_,_⟩:=hI;clear hb1;have HA2:=qh ((HA.o.keep a0b HB1.o).keep a0b ((Below.refl v1.heap.size v1).alloc lZ (.cells #[.slice x1d eo.length x1c,.string (S et)] 119)));have HOW:=qh (show (v1.alloc (.cells #[.slice x1d eo.length x1c,.string (S et)] 119)).ownsRow (w.heap.size+1) 119 2 (.slice uad j ucap) j xs by have:=HA2.o.owns;rwa [HL0.o]at this)
 go_wp2_with (at_builtin;refine wpList_append_lies _ rfl _ _ 24 rfl (w.heap.size+1) 119 i0 (.agg #[.slice none 0 0,.string ⟨#[]⟩]) 2 40 Tryz.underlying24 hi hz0 hz1 hz2 rfl dZ (.slice uad j ucap) j xs rfl HOW.o ⟨v1.heap.size,0,none⟩ 1 1 [.slice x1d eo.length x1c,.string (S et)] rfl rfl ?_ ?_ (Nat.zero_lt_one) ?_ ?_ ?_ _ rfl ?_)
 ·exact d9q
 ·intro y hy;exact d7n
 ·unfold maxLen;omega
 ·omega
 ·have h1:=HZ1.o;have h2:=HBZ.o;simp;omega
 intro g1 cap1 v3 hown hgr hat hlt3
 have HB3:=qh (show Below (w.heap.size+1) (v1.alloc (.cells #[.slice x1d eo.length x1c,.string (S et)] 119)) v3 from
  bZ.grown hgr (by have h1:=HZ1.o;have h2:=HBZ.o;simp;omega) (fun k hk=>(World.ownsRow.lt HA2.o.owns k hk).1))
 have HAC:=qh (HA.o.snoc (a:=(eo,et)) (cs:=[.slice x1d eo.length x1c,.string (S et)]) (v1:=v1) (v2:=v1.alloc (.cells #[.slice x1d eo.length x1c,.string (S et)] 119)) (v3:=v3) (g:=g1) (cap:=cap1) (F:=Bet (wr.heap.size+1) v1.heap.size) a0b HB1.o (fun b hb=>⟨by have:=hb.1;omega,hb.2⟩) (b1o (by have:=HI.o;simpa using this)) rfl (bZ.alloc lZ _) (by rw [HL0.o];exact hown) hgr (by simpa using hat));have hb2:Below w.heap.size w v3:=((HB.o.trans (HB1.o.mono (by have:=HBZ.o;omega))).trans ((Below.refl w.heap.size v1).alloc (by have h1:=HZ1.o;have h2:=HBZ.o;omega) _)).trans (HB3.o.mono oZ);have HBW:=qh hb2
 have HR3:=qh (show v3.cell? ⟨w.heap.size,0,none⟩=some (.slice none 0 0) from
  (HB3.o.cell (p:=⟨w.heap.size,0,none⟩) (by show w.heap.size<w.heap.size+1;omega)).trans ((((Below.refl (w.heap.size+1) v1).alloc (by have h1:=HZ1.o;have h2:=HBZ.o;omega) _).cell (p:=⟨w.heap.size,0,none⟩) (by show w.heap.size<w.heap.size+1;omega)).trans HR1.o))
 have HF3:=qh (show v3.frozen? ⟨w.heap.size,0,none⟩=false from
  (HB3.o.frozen (p:=⟨w.heap.size,0,none⟩) (by show w.heap.size<w.heap.size+1;omega)).trans ((((Below.refl (w.heap.size+1) v1).alloc (by have h1:=HZ1.o;have h2:=HBZ.o;omega) _).frozen (p:=⟨w.heap.size,0,none⟩) (by show w.heap.size<w.heap.size+1;omega)).trans HF1.o))
 clear hown hgr hat hlt3 hb2 hzz;go_wp2
 go_roundw
 case rel=>exact⟨j+1,_,by omega,by go_num,HR3.o,HF3.o,by rw [HEN.o];have h:=HAC.o;rw [HL0.o]at h;exact h,HBW.o⟩
 case measure=>simp [intOf];omega):p:=h
theorem zq5 {p:Prop} (h:p:=by
 go_wp2_with (first|(go_at_call 343;refine (a4d _ _).mono ?_;rintro e w' ⟨rfl,rfl⟩)|(go_at_call 344;refine (a3d _ _ oZ).mono ?_;rintro e w' ⟨rfl,rfl⟩)|(go_at_call 345;refine (b7t _ _ _ oZ).mono ?_;rintro e w' ⟨rfl,rfl⟩)|(go_at_call 346;refine (a6a _ _ hx).mono ?_;rintro e w' ⟨rfl,rfl⟩))
 go_meet;exact⟨by simp [g4],rfl⟩):p:=h
theorem zq6 {p:Prop} (h:p:=by
 obtain⟨h,hh⟩:∃h:Nat,(j+r) / 2=h:=⟨_,rfl⟩;have hhi:((j:Int)+(r:Int)) / 2=(h:Int):=by omega
 have hh1:j≤h:=by omega
 have hh2:h<r:=by omega
 clear hh;obtain⟨q,hq⟩:∃q:Nat,c+m-1-h=q:=⟨_,rfl⟩;have hqi:(c:Int)+(m:Int)-1-(h:Int)=(q:Int):=by omega
 have hw1:IntKind.i64.wrap (q:Int)=(q:Int):=IntWalk.i64_in _ oZ;have hq2:q<b:=by omega
 have hhl:h<its.length:=by omega
 have hql:q<its.length:=by omega
 have h1i:(j:Int)<(r:Int):=by omega
 have HLOW:=qh (fun (hc:¬P.cmp (its[c+m-1-h]'(by omega)).e.1 (its[h]'hhl).e.1<0)=>HBI.o.low HS1.o HS2.o oZ oZ oZ oZ oZ oZ hhl oZ hc);have HHIGH:=qh (fun (hc:P.cmp (its[c+m-1-h]'(by omega)).e.1 (its[h]'hhl).e.1<0)=>HBI.o.high HS1.o HS2.o oZ oZ oZ oZ oZ oZ hhl oZ hc);subst hq
 go_upto_region 35 with fail
 try rw [hhi]
 clear hhi;obtain⟨xd,xc,yd,yc,hx,hy,hkc⟩:=HR.o.two (c+m-1-h) h hql hhl;generalize (its[c+m-1-h]'hql)=en at *;generalize (its[h]'hhl)=fn at *;obtain⟨q,hq⟩:∃q:Nat,c+m-1-h=q:=⟨_,rfl⟩;rw [hq]at hqi hw1 hq2 hql hkc;obtain⟨x,Gx,eo,et⟩:=en;obtain⟨y,Gy,fo,ft⟩:=fn;simp only at hx hy hkc HLOW HHIGH;subst hx hy;have HK0:=qh (hkc.step bZ.drew);clear hkc;have hnp:¬its.length≤q:=by omega
 have hnq:¬its.length≤h:=by omega
 refine wp_region_held_drew (S:=KC wr.heap.size wr g (o+q*2) (.slice xd eo.length xc) eo et (o+h*2) (.slice yd fo.length yc) fo ft) kZ HK0.o (fun hS0=>?_);refine tk0 0 hS0 ?_;refine tk0 1 hS0 ?_;refine tk0 2 hS0 ?_;refine tk0 3 hS0 ?_;refine tk0 4 hS0 ?_;refine tk0 5 (v:=.pointer (some ⟨g,o+q*2,none⟩)) hS0 ?_;refine tk0 6 hS0 ?_;refine tk0 7 hS0 ?_;refine tk0 8 hS0 ?_;refine tk0 9 (v:=.pointer (some ⟨g,o+h*2,none⟩)) hS0 ?_;refine tk0 10 hS0 ?_;refine trd 11 fun K hK=>?_;have HX:=qh hS0.2.2.2.2.2.1;have HY:=qh hS0.2.2.2.2.2.2.1;have HSK:=qh hS0;go_simp;refine (a3y _ _ eo fo et ft _ HX.o HY.o).mono ?_;rintro e v ⟨rfl,hb⟩;refine hK.out _ _ (HSK.o.step hb) (fun hS1=>?_);clear hK K hb
 try simp only [qA,qB,qC,Act.put,qD,qE,qF]
 have HBV:=qh hS1.2.2.2.2.2.2.2.2;have HRV:=qh (HR.o.below HBV.o);have HCV:=qh (HC.o.trans (Below.chg HBV.o _))
 by_cases hcmp:P.cmp eo fo<0
 ·have HQ:=qh (HHIGH.o hcmp);refine tk0 12 hS1 ?_;refine tk0 13 hS1 ?_;refine wpAnyH_done kZ ?_ _;clear hS0 HSK hS1 HLOW HHIGH hcmp HX HY HK0 HR HC HBV hnp hnq hw1 hqi;go_wp2
  go_roundw
  case rel=>exact⟨j,h,hj1,hh1,by omega,rfl,rfl,HQ.o,HRV.o,HCV.o⟩
  case measure=>simp [intOf];omega
 ·have HQ:=qh (HLOW.o hcmp);refine tk0 12 hS1 ?_;refine tk0 13 hS1 ?_;refine wpAnyH_done kZ ?_ _;clear hS0 HSK hS1 HLOW HHIGH hcmp HX HY HK0 HR HC HBV hnp hnq hw1 hqi;go_wp2
  go_roundw
  case rel=>exact⟨h+1,r,by omega,by omega,hr1,by go_num,rfl,HQ.o,HRV.o,HCV.o⟩
  case measure=>simp [intOf];omega):p:=h
theorem zq7 {p:Prop} (h:p:=by
 rintro e v1 ⟨rfl,hb1⟩;have hzz:wr.heap.size+1≤v1.heap.size:=by have:=hb1.size;simp at this;omega
 have HB1:=qh (show Below wr.heap.size wr v1 from HBA.o.trans (hb1.mono sZ));have e0:=(hb1.cell (p:=⟨wr.heap.size,0,none⟩) sZ).trans (show (wr.alloc (.cells #[.slice xd eo.length xc,.string (S et)] 119)).cell? ⟨wr.heap.size,0,none⟩=some (.slice xd eo.length xc) by go_simp);have e1:=(hb1.cell (p:=⟨wr.heap.size,1,none⟩) sZ).trans (show (wr.alloc (.cells #[.slice xd eo.length xc,.string (S et)] 119)).cell? ⟨wr.heap.size,1,none⟩=some (.string (S et)) by go_simp);have HZ1:=qh hzz;clear hb1 hzz HX HC2 HO2 HBA
 by_cases heo:eo=o
 ·have HEN2:=qh (HEN.o.trans (if_pos heo));rw [decide_eq_true heo];clear heo HEN e0 e1;go_wp2
  go_roundw
  case rel=>exact⟨j+1,xs,by omega,by go_num,by rw [HEN2.o];exact HA.o.keep (b1w w) HB1.o,HB.o.trans (HB1.o.mono HBZ.o)⟩
  case measure=>simp [intOf];omega
 ·have HEN2:=qh (HEN.o.trans (if_neg heo));rw [decide_eq_false heo];clear heo HEN;have HA2:=qh ((HA.o.keep (b1w w) HB1.o).keep (b1w w) ((Below.refl v1.heap.size v1).alloc lZ (.cells #[.slice xd eo.length xc,.string (S et)] 119)));have HOW:=qh HA2.o.owns;have HWV:=qh (Nat.le_trans HBZ.o HB1.o.size)
  go_wp2_with (at_builtin;refine wpList_append_lies _ rfl _ _ 24 rfl w.heap.size 119 i0 (.agg #[.slice none 0 0,.string ⟨#[]⟩]) 2 40 Tryz.underlying24 hi hz0 hz1 hz2 rfl dZ (.slice uad dl.length ucap) dl.length xs rfl HOW.o ⟨v1.heap.size,0,none⟩ 1 1 [.slice xd eo.length xc,.string (S et)] rfl rfl ?_ ?_ (Nat.zero_lt_one) ?_ ?_ ?_ _ rfl ?_)
  ·exact d9q
  ·intro y hy;exact d7n
  ·unfold maxLen;omega
  ·omega
  ·have h1:=HWV.o;simp;omega
  intro g1 cap1 v3 hown hgr hat hlt3
  have HB3:=qh (show Below w.heap.size (v1.alloc (.cells #[.slice xd eo.length xc,.string (S et)] 119)) v3 from
   bZ.grown hgr (by have h1:=HWV.o;simp;omega) (fun k hk=>(World.ownsRow.lt HA2.o.owns k hk).1))
  have HAC:=qh (HA.o.snoc (a:=(eo,et)) (cs:=[.slice xd eo.length xc,.string (S et)]) (v1:=v1) (v2:=v1.alloc (.cells #[.slice xd eo.length xc,.string (S et)] 119)) (v3:=v3) (g:=g1) (cap:=cap1) (F:=fun _=>False) (b1w w) HB1.o (fun b hb=>hb.elim) ⟨_,rfl,HXW.o⟩ rfl (bZ.alloc lZ _) hown hgr (by simpa using hat));have HBW:=qh (((HB.o.trans (HB1.o.mono HBZ.o)).trans ((Below.refl w.heap.size v1).alloc HWV.o _)).trans HB3.o);clear hown hgr hat hlt3 e0 e1;go_wp2
  go_roundw
  case rel=>exact⟨j+1,_,by omega,by go_num,by rw [HEN2.o];exact HAC.o,HBW.o⟩
  case measure=>simp [intOf];omega):p:=h
theorem zq8 {p:Prop} (h:p:=by
 obtain⟨k,f,init,hk,hf,rfl,rfl,hil,hsp,hown,hbel⟩:=hrel;have HSP:=qh hsp;clear hsp;have HOWN:=qh hown;clear hown;have HBEL:=qh hbel;clear hbel;have hsz:=HBEL.o.size
 by_cases hlt:k<s.length
 ·by_cases he:(s[k]==c)=true
  ·have HH:=qh (P.d1x c s f k init hlt he HSP.o);clear HSP
   go_wp2_with (at_builtin;refine wpList_append_own _ rfl _ _ 43 rfl w.heap.size 9 i0 (.string ⟨#[]⟩) 1 16 Tryz.underlying43 hi hz0 hz1 hz2 rfl dZ _ _ _ rfl (HOWN.o.alloc _) ⟨wr.heap.size,0,none⟩ 1 1 [.string (S ((s.drop f).take (k-f)))] rfl rfl ?c1 ?c2 ?c3 ?c4 ?c5 ?_)
   case c1=>intro j u hj;match j,hj with|0,hj=>(simp at hj;subst hj;simp [Addr.add])
   case c2=>intro u hu;simp at hu;subst hu;rfl
   case c3=>unfold maxLen;omega
   case c4=>omega
   case c5=>simp;omega
   intro v' w1 hown' hgrow _;have R:=qh (b0u hsz HOWN.o HBEL.o hown' hgrow);clear hown' hgrow HOWN HBEL;go_wp2
   go_roundw
   case rel=>exact⟨k+1,k+1,init++[(s.drop f).take (k-f)],by omega,by omega,by go_num,by go_num,by simp;omega,HH.o,R.o.1,R.o.2⟩
   case measure=>simp [intOf];omega
  ·have he':(s[k]==c)=false:=by simpa using he
   clear he;have HH:=qh (P.c7t c s f k init hlt hf he' HSP.o);clear HSP;go_wp2
   go_roundw
   case rel=>exact⟨k+1,f,init,by omega,by omega,by go_num,rfl,by omega,HH.o,HOWN.o,HBEL.o⟩
   case measure=>simp [intOf];omega
 ·have HH:=qh (P.d1f c s f k init oZ HSP.o);clear HSP
  go_wp2_with (at_builtin;refine wpList_append_own _ rfl _ _ 43 rfl w.heap.size 9 i0 (.string ⟨#[]⟩) 1 16 Tryz.underlying43 hi hz0 hz1 hz2 rfl dZ _ _ _ rfl (HOWN.o.alloc _) ⟨wr.heap.size,0,none⟩ 1 1 [.string (S (s.drop f))] rfl rfl ?d1 ?d2 ?d3 ?d4 ?d5 ?_)
  case d1=>intro j u hj;match j,hj with|0,hj=>(simp at hj;subst hj;simp [Addr.add])
  case d2=>intro u hu;simp at hu;subst hu;rfl
  case d3=>unfold maxLen;omega
  case d4=>omega
  case d5=>simp;omega
  intro v' w1 hown' hgrow _;have R:=qh (b0u hsz HOWN.o HBEL.o hown' hgrow);clear hown' hgrow HOWN HBEL;go_wp2;go_ret;exact⟨v',rfl,by rw [HH.o];exact R.o.1,R.o.2⟩):p:=h
theorem zq9 {p:Prop} (h:p:=by
 by_cases h24:24<z.length
 ·have HF:=qh (HJS.o.trans (if_pos h24));have i7:(24:Int)<(z.length:Int):=by omega
  clear h24;go_wp2;go_ret2;exact⟨by rw [HF.o];rfl,HB.o⟩
 ·have HF:=qh (HJS.o.trans (if_neg h24));have i7:¬(24:Int)<(z.length:Int):=by omega
  clear h24;go_wp2;go_ret2;exact⟨by rw [HF.o]<;>rfl,HB.o⟩):p:=h
theorem zq10 {p:Prop} (h:p:=by
 rw [ha]at HP hfe hfi HEN HIN⊢;simp only at hfe hfi HEN HIN⊢;clear ha;obtain⟨na,nc,rfl,_,_⟩:=id HEN.o;obtain⟨ma,mc,rfl,_,_⟩:=id HIN.o;have HR9:=qh (HR1.o.below hb);have HB9:=bt HB1 hb;have HFE:=qh hfe;have HFI:=qh hfi;clear hb hfe hfi;obtain⟨⟨r0,r1,r2,r3,r4,r5,r6⟩,f0,f1,f2,f3,f4,f5⟩:=HR9.o;obtain⟨V,hV⟩:∃v,((((((x2.setCell ⟨w.heap.size+1,0,none⟩ (.slice na l2.length nc)).setCell ⟨w.heap.size+1,1,none⟩ (.slice ma st2.length mc)).setCell ⟨w.heap.size+1,2,none⟩ (.string (S sc2))).setCell ⟨w.heap.size+1,3,none⟩ (.string (S d))).setCell ⟨w.heap.size+1,4,none⟩ (.string (S p))).setCell ⟨w.heap.size+1,5,none⟩ (.int .i64 n))=v:=⟨_,rfl⟩;have hset:Chg (fun b=>b=w.heap.size+1) x2 V:=by rw [←hV];exact (((((((Chg.refl (fun b=>b=w.heap.size+1) x2).setCell (p:=⟨w.heap.size+1,0,none⟩) rfl _).setCell (p:=⟨w.heap.size+1,1,none⟩) rfl _).setCell (p:=⟨w.heap.size+1,2,none⟩) rfl _).setCell (p:=⟨w.heap.size+1,3,none⟩) rfl _).setCell (p:=⟨w.heap.size+1,4,none⟩) rfl _).setCell (p:=⟨w.heap.size+1,5,none⟩) rfl _)
 have HRV:=qh (show SOut (w.heap.size+1) (.slice na l2.length nc) (.slice ma st2.length mc) sc2 d p n V from by rw [←hV];exact ((HR9.o.set0 (x:=.slice na l2.length nc)).set1 (x:=.slice ma st2.length mc) (r:=sc2)).set3 (d':=d) (p':=p) (n':=n));have HBV:=qh (Chg.a0k HB9.o hset HB9.o.size (fun b h=>by have h9:b=w.heap.size+1:=h;omega));have HFE2:=qh (HFE.o.after (w:=w) oZ hset (fun b h=>by have h9:b=w.heap.size+1:=h;omega));have HFI2:=qh (HFI.o.after (w:=w) oZ hset (fun b h=>by have h9:b=w.heap.size+1:=h;omega));go_wp2
 try rw [hV]
 clear hset hV;obtain⟨q0,q1,q2,q3,q4,q5,q6⟩:=HRV.o.1;refine bodyPost_ret (v:=.tuple #[a1e (.slice na l2.length nc) (.slice ma st2.length mc) sc2 d p n,.string (S (txtB rep))]) (by simp [results,Tryz.results169,go_sem,q0,q1,q2,q3,q4,q5]) rfl ⟨.slice na l2.length nc,.slice ma st2.length mc,by rw [HP.o],by rw [HP.o];exact HFE2.o,by rw [HP.o];exact HFI2.o,HBV.o⟩):p:=h
theorem zq11 {p:Prop} (h:p:=by
 rintro e v ⟨rfl,hb⟩;rw [hok];generalize hpa:(P.a0s x).1=pa at *;obtain⟨pk,pt⟩:=pa;have HO:=qh (a0h HOWN.o hb lZ);have HS2:=qh (HST.o.below hb);have HB:=qh (HBEL.o.trans (hb.mono hsz));have hvz:w.heap.size≤v.heap.size:=Nat.le_trans hsz hb.size;have hjj:j≤100:=by omega
 clear hb;simp only
 go_wp2_with (at_builtin;refine wpList_append_own _ rfl _ _ 171 rfl w.heap.size 177 i0 (.agg #[.int .i64 0,.string ⟨#[]⟩]) 2 24 Tryz.underlying171 hi hz0 hz1 hz2 rfl dZ _ _ _ rfl ((HO.o.alloc _).alloc _) ⟨v.heap.size+1,0,none⟩ 1 1 [.int .i64 pk,.string (S pt)] rfl rfl ?c1 ?c2 ?c3 ?c4 ?c5 ?_)
 case c1=>intro j u hj;match j,hj with|0,hj=>(simp at hj;subst hj;simp [Addr.add])|1,hj=>(simp at hj;subst hj;simp [Addr.add])
 case c2=>intro u hu;simp at hu;rcases hu with rfl|rfl<;>rfl
 case c3=>unfold maxLen;omega
 case c4=>omega
 case c5=>simp;omega
 intro v' w3 hown' hgrow _;have R:=qh (b3z (x:=(pk,pt)) (w1:=v.alloc (.cells #[.int .i64 pk,.string (S pt)] 177)) (o:=(.cells #[.int .i64 pk,.string (S pt)] 177)) (v:=.slice ad out.length cp) (by simp;omega) (HO.o.alloc _) (HB.o.alloc hvz _) (by first|exact hown'|(rw [hoj];exact hown')) (by rw [hoj];exact hgrow));have hS2a:=(HS2.o.below (bZ.alloc lZ (.cells #[.int .i64 pk,.string (S pt)] 177))).below (bZ.alloc lZ (.cells #[.int .i64 pk,.string (S pt)] 177));have hap:=c3e ((HO.o.alloc (.cells #[.int .i64 pk,.string (S pt)] 177)).alloc (.cells #[.int .i64 pk,.string (S pt)] 177)) hS2a;rw [hoj]at hap;have hS3:=hS2a.grown hgrow hap;have HS3:=qh hS3;have HPA:=qh hpa;have HOK:=qh hok;clear hown' hgrow HOWN HBEL HO HB hS3 hS2a hap hpa hok;go_wp2
 go_roundw
 case rel=>
  refine⟨j+1,by omega,by go_num,?_,?_,HS3.o,R.o.2⟩
  ·rw [HSN.o];intro y hy
   rcases List.mem_append.1 hy with hy|hy
   ·exact HALL.o y hy
   ·rw [List.mem_singleton]at hy;rw [hy];exact HOK.o
  ·rw [HSN.o,List.map_append,←HOUT.o,List.map_cons,List.map_nil,HPA.o];exact R.o.1
 case measure=>simp [intOf];omega):p:=h
theorem zq12 {p:Prop} (h:p:=by
 clear hh;obtain⟨q,hq⟩:∃q:Nat,mid+m-1-h=q:=⟨_,rfl⟩;have hqi:(mid:Int)+(m:Int)-1-(h:Int)=(q:Int):=by omega
 have hw1:IntKind.i64.wrap (q:Int)=(q:Int):=IntWalk.i64_in _ oZ;have hq1:h<q:=by omega
 have hq2:q<b:=by omega
 clear hq
 go_upto_region 35 with fail
 try rw [hhi]
 clear hhi;obtain⟨g,o,rfl,_⟩:=HU.o.at (q) oZ;obtain⟨x,xd,xc,y,yd,yc,rfl,rfl,HKC⟩:=HU.o.two lZ HB.o HBZ.o (q) (h) oZ oZ;have HCM:=qh (HS.o (h) (q) oZ oZ);have HK0:=qh (HKC.step bZ.drew);clear HKC;generalize (l[q]'(by omega))=en at *;generalize (l[h]'(by omega))=fn at *;obtain⟨eo,et⟩:=en;obtain⟨fo,ft⟩:=fn;simp only at HK0 HCM;have hc:¬P.cmp eo fo<0:=by have:=HCM.o;omega
 have hnp:¬l.length≤q:=by omega
 have hnq:¬l.length≤h:=by omega
 refine wp_region_held_drew (S:=KC w.heap.size w g (o+q*2) (.slice xd eo.length xc) eo et (o+h*2) (.slice yd fo.length yc) fo ft) kZ HK0.o (fun hS0=>?_);refine tk0 0 hS0 ?_;refine tk0 1 hS0 ?_;refine tk0 2 hS0 ?_;refine tk0 3 hS0 ?_;refine tk0 4 hS0 ?_;refine tk0 5 (v:=.pointer (some ⟨g,o+q*2,none⟩)) hS0 ?_;refine tk0 6 hS0 ?_;refine tk0 7 hS0 ?_;refine tk0 8 hS0 ?_;refine tk0 9 (v:=.pointer (some ⟨g,o+h*2,none⟩)) hS0 ?_;refine tk0 10 hS0 ?_;refine trd 11 fun K hK=>?_;have HX:=qh hS0.2.2.2.2.2.1;have HY:=qh hS0.2.2.2.2.2.2.1;have HS1:=qh hS0;go_simp;refine (a3y _ _ eo fo et ft _ HX.o HY.o).mono ?_;rintro e v ⟨rfl,hb⟩;refine hK.out _ _ (HS1.o.step hb) (fun hS1=>?_);clear hK K hb
 try simp only [qA,qB,qC,Act.put,qD,qE,qF]
 refine tk0 12 hS1 ?_;refine tk0 13 hS1 ?_;refine wpAnyH_done kZ ?_ _;have HB2:=qh hS1.2.2.2.2.2.2.2.2;clear hS0 hS1 HS1 HX HY HK0 hc HCM hnp hnq;clear hw1 hqi;exact zq189):p:=h
theorem zq13 {p:Prop} (h:p:=by
 go_enter Tryz.func368,Tryz.ntmps368
 have hback:=run_convert_bytes_back (P:=Tryz.prog) ((w.alloc (.cells #[.int .u8 ((b).toNat:Int)] 5)).drew) 22 9 5 ⟨w.heap.size,0,none⟩ 1 [b] Tryz.underlying22 Tryz.underlying5 Tryz.underlying9 (by
  intro j hj
  have:j=0:=by simpa using hj
  subst this
  rw [add0]
  go_simp)
 exact zq180):p:=h
theorem zq14 {p:Prop} (h:p:=by
 obtain⟨k,hk,rfl,ho,hb⟩:=hrel;have HO:=qh ho;have HB:=qh hb;have hlen:=P.b3p m k;have HY:=qh (P.d0t (s:=m) (n:=k));have HN:=qh (P.d5w (s:=m) (n:=k));obtain⟨ua,uc,rfl⟩:=a0i ho;clear HOW HB0
 by_cases hlt:k<23
 ·have E1:=and_one (k:=k) HM.o;have i1:(k:Int)<23:=by omega
  have i2:(0:Int)≤(k:Int):=by omega
  have HK:=qh (show P.hasK (m:Int) (k:Int)=m.testBit k from rfl)
  cases hbk:m.testBit k
  ·rw [hbk]at E1 HK;have E2:bits .and .i64 ((m:Int) / 2^k) 1=0:=E1;have HZ:=qh (HN.o HK.o);clear E1 hbk ho hb HY HN;go_wp2
   go_roundw
   case rel=>exact⟨k+1,by omega,by go_num,by rw [HZ.o];exact HO.o,HB.o⟩
   case measure=>simp [intOf];omega
  ·rw [hbk]at E1 HK;have E2:bits .and .i64 ((m:Int) / 2^k) 1=1:=E1;have HZ:=qh (HY.o HK.o);have HOA:=qh (ho.alloc (.cells #[.int .i64 (k:Int)] 3));have HSZ:=qh hb.size;clear E1 hbk ho hb HY HN;generalize P.a3r m k=l at *
   go_wp2_with (at_builtin;refine wpList_append_own _ rfl _ _ 33 rfl w.heap.size 3 i0 (.int .i64 0) 1 8 Tryz.underlying33 hi hz0 hz1 hz2 rfl dZ (.slice ua l.length uc) l.length (ints l) rfl HOA.o ⟨wr.heap.size,0,none⟩ 1 1 [.int .i64 (k:Int)] rfl rfl ?_ ?_ ?_ ?_ ?_ ?_)
   all_goals first|exact⟨rfl,rfl⟩|(intro z hz;simp only [List.mem_cons,List.not_mem_nil,or_false]at hz;subst hz;rfl)|(unfold maxLen;omega)|omega|(have h1:=HSZ.o;simp;omega)|(intro i z hz;rcases i with _|i;(injection hz with hz;subst hz;rw [add0];go_simp);cases hz)|skip
   intro u4 w4 hown hgr _;have H6:=qh (b5r HO.o HB.o 3 hown hgr);clear hown hgr;go_wp2
   go_roundw
   case rel=>exact⟨k+1,by omega,by go_num,by rw [HZ.o];exact H6.o.1,H6.o.2⟩
   case measure=>simp [intOf];omega
 ·have hk23:k=23:=by omega
  subst hk23;clear ho hb;go_wp2;go_ret;exact⟨_,rfl,HO.o,HB.o⟩):p:=h
theorem zq15 {p:Prop} (h:p:=by
 clear hp;obtain⟨⟨o0,o1,o2,o3,o4,o5,o6⟩,_⟩:=HX2.o;obtain⟨⟨r0,r1,r2,r3,r4,r5,r6⟩,f0,f1,f2,f3,f4,f5⟩:=HR2.o;obtain⟨V,hV⟩:∃v,((((((w2.setCell ⟨w.heap.size+1,0,none⟩ ((.slice ad l.length cap))).setCell ⟨w.heap.size+1,1,none⟩ ((.slice sd st.length sap))).setCell ⟨w.heap.size+1,2,none⟩ (.string (S sc))).setCell ⟨w.heap.size+1,3,none⟩ (.string (S d))).setCell ⟨w.heap.size+1,4,none⟩ (.string (S p))).setCell ⟨w.heap.size+1,5,none⟩ (.int .i64 n))=v:=⟨_,rfl⟩;have hset:Chg (fun b=>b=w.heap.size+1) w2 V:=by rw [←hV];exact (((((((Chg.refl (fun b=>b=w.heap.size+1) w2).setCell (p:=⟨w.heap.size+1,0,none⟩) rfl _).setCell (p:=⟨w.heap.size+1,1,none⟩) rfl _).setCell (p:=⟨w.heap.size+1,2,none⟩) rfl _).setCell (p:=⟨w.heap.size+1,3,none⟩) rfl _).setCell (p:=⟨w.heap.size+1,4,none⟩) rfl _).setCell (p:=⟨w.heap.size+1,5,none⟩) rfl _)
 have HRV:=qh (show SOut (w.heap.size+1) ((.slice ad l.length cap)) ((.slice sd st.length sap)) sc d p n V from by rw [←hV];exact ((HR2.o.set0 (x:=(.slice ad l.length cap))).set1 (x:=(.slice sd st.length sap)) (r:=sc)).set3 (d':=d) (p':=p) (n':=n));have HBV:=qh (Chg.a0k HB2.o hset HB2.o.size (fun b h=>by have h9:b=w.heap.size+1:=h;omega));exact zq173):p:=h
theorem zq16 {p:Prop} (h:p:=by
 obtain⟨⟨o0,o1,o2,o3,o4,o5,o6⟩,_⟩:=HX3.o;obtain⟨⟨r0,r1,r2,r3,r4,r5,r6⟩,f0,f1,f2,f3,f4,f5⟩:=HR3.o;obtain⟨V,hV⟩:∃v,((((((w3.setCell ⟨w.heap.size+1,0,none⟩ ((.slice ad l.length cap))).setCell ⟨w.heap.size+1,1,none⟩ ((.slice sd st.length sap))).setCell ⟨w.heap.size+1,2,none⟩ (.string (S sc))).setCell ⟨w.heap.size+1,3,none⟩ (.string (S d))).setCell ⟨w.heap.size+1,4,none⟩ (.string (S p))).setCell ⟨w.heap.size+1,5,none⟩ (.int .i64 n))=v:=⟨_,rfl⟩;have hset:Chg (fun b=>b=w.heap.size+1) w3 V:=by rw [←hV];exact (((((((Chg.refl (fun b=>b=w.heap.size+1) w3).setCell (p:=⟨w.heap.size+1,0,none⟩) rfl _).setCell (p:=⟨w.heap.size+1,1,none⟩) rfl _).setCell (p:=⟨w.heap.size+1,2,none⟩) rfl _).setCell (p:=⟨w.heap.size+1,3,none⟩) rfl _).setCell (p:=⟨w.heap.size+1,4,none⟩) rfl _).setCell (p:=⟨w.heap.size+1,5,none⟩) rfl _)
 have HRV:=qh (show SOut (w.heap.size+1) ((.slice ad l.length cap)) ((.slice sd st.length sap)) sc d p n V from by rw [←hV];exact ((HR3.o.set0 (x:=(.slice ad l.length cap))).set1 (x:=(.slice sd st.length sap)) (r:=sc)).set3 (d':=d) (p':=p) (n':=n));have HBV:=qh (Chg.a0k HB3.o hset HB3.o.size (fun b h=>by have h9:b=w.heap.size+1:=h;omega));go_wp2
 try rw [hV]
 clear hset hV;obtain⟨q0,q1,q2,q3,q4,q5,q6⟩:=HRV.o.1;refine bodyPost_ret (v:=.tuple #[a1e ((.slice ad l.length cap)) ((.slice sd st.length sap)) sc d p n,.string (S [63])]) (by simp [results,Tryz.results237,go_sem,q0,q1,q2,q3,q4,q5]) rfl ⟨(.slice ad l.length cap),(.slice sd st.length sap),by rw [HP.o];rfl,by rw [HP.o];exact .inl ⟨rfl,rfl⟩,by rw [HP.o];exact .inl ⟨rfl,rfl⟩,HBV.o⟩):p:=h
theorem zq17 {p:Prop} (h:p:=by
 go_enter Tryz.func346,Tryz.ntmps346
 go_wp2_with (first|(go_at_call 343;refine (a4d _ _).mono ?_;rintro e w' ⟨rfl,rfl⟩)|(go_at_call 371;refine (d4j _ _ hs).mono ?_;rintro e w' ⟨rfl,rfl⟩))
 go_ret;exact⟨a0a (by rw [FIN.o _ rfl,HC.o];simp),rfl⟩):p:=h
theorem zq18 {p:Prop} (h:p:=by
 exact zq180):p:=h
theorem zq19 {p:Prop} (h:p:=by
 go_wp2_with (first|(go_at_call 343;refine (a4d _ _).mono ?_;rintro e w' ⟨rfl,rfl⟩)|(go_at_call 344;refine (a3d _ _ oZ).mono ?_;rintro e w' ⟨rfl,rfl⟩)|(go_at_call 345;refine (b7t _ _ _ oZ).mono ?_;rintro e w' ⟨rfl,rfl⟩)|(go_at_call 346;refine (a6a _ _ hx).mono ?_;rintro e w' ⟨rfl,rfl⟩))
 go_meet;exact⟨by simp [g4,g6,g8,g10,g12],rfl⟩):p:=h
theorem zq20 {p:Prop} (h:p:=by
 exact d9q):p:=h
theorem zq21 {p:Prop} (h:p:=by
 rw [←hW0];have h:=SOut.new (.slice none 0 0) (.slice none 0 0) [] [] [] 0 (w.alloc (a0d (.slice ad l.length cap) (.slice sd st.length sap) sc d p n))
 simpa using h):p:=h
theorem zq22 {p:Prop} (h:p:=by
 have f1:(((t[k].toNat:Nat):Int)==45)=true:=by rw [hd];rfl
 cases dh
 ·by_cases h13:13<nx
  ·have i2:13<(nx:Int):=by omega
   have HN:=qh (P.a5o (HR.o.trans (P.b2e (q:=(sn,nx,false)) hlt hd (.inr h13))));go_wp2;go_ret2;exact⟨by rw [HN.o];rfl,HB.o⟩
  ·have i2:¬13<(nx:Int):=by omega
   have HN:=qh (HR.o.trans (P.c8c (q:=(sn,nx,false)) hlt hd rfl (by show nx≤13;omega)));have HI2:=qh (P.a6g (b:=45) (q':=(sn,13,true)) HI.o (by unfold P.a3a;rw [if_pos rfl,if_neg (by simp;omega)]));go_wp2
   go_roundw
   case rel=>
    exact⟨k+1,(sn,13,true),by omega,by go_num,rfl,rfl,rfl,HI2.o,HN.o,HB.o⟩
   case measure=>simp [intOf];omega
 ·have HN:=qh (P.a5o (HR.o.trans (P.b2e (q:=(sn,nx,true)) hlt hd (.inl rfl))));go_wp2;go_ret2;exact⟨by rw [HN.o];rfl,HB.o⟩):p:=h
theorem zq23 {p:Prop} (h:p:=by
 rintro e w2 hmp;obtain⟨x,ok,rfl,hx,hs,hc⟩:=hmp;have HX:=qh hx;have HS:=qh hs;have HC:=qh hc;clear hx hs hc;go_wp2;go_ret2;exact⟨x,ok,rfl,by rw [HP.o];exact HX.o,by rw [HP.o];exact HS.o,HC.o⟩):p:=h
theorem zq24 {p:Prop} (h:p:=by
 rw [←hW0];exact (SOut.new (.slice ad l.length cap) (.slice sd st.length sap) sc d p n w).below (bZ.alloc lZ _)):p:=h
theorem zq25 {p:Prop} (h:p:=by
 go_wp2;go_ret2;exact⟨x,ok,rfl,by rw [HP.o];exact HX.o,by rw [HP.o];exact HS.o,HC.o⟩):p:=h
theorem zq26 {p:Prop} (h:p:=by
 go_wp2_with fail
 rw [←HREST.o]
 go_wp2_with (first|(go_at_call 66;refine (b5l _ _ oZ).mono ?_;rintro e w1 ⟨v,rfl,hown1,hb1⟩;obtain⟨g,cap,rfl,hg,hgl,hcell,hl1⟩:=a6u hown1;clear hown1;have hz1':=hb1.size;have HB1:=qh hb1;clear hb1)|(go_at_call 198;refine (d2j _ _ _ oZ oZ oZ).mono ?_;rintro e w2 ⟨rfl,hb2⟩;rw [Int.toNat_natCast];obtain⟨hcc2,hff2⟩:=a4k hb2;have hz2':=hb2.size;have HB2:=qh hb2;clear hb2))
 go_ret2;exact⟨.slice ad out.length cp,by rw [←HRUN.o,HST.o];rfl,by rw [←HRUN.o,HST.o];exact (a1r (a1r HOWN.o HB1.o lZ) HB2.o lZ).alloc _,((HBEL.o.trans (HB1.o.mono hsz)).trans (HB2.o.mono oZ)).alloc oZ _⟩):p:=h
theorem zq27 {p:Prop} (h:p:=by
 obtain⟨⟨h0,h1,h2,h3,h4,h5,h6⟩,f0,f1,f2,f3,f4,f5⟩:=h;exact⟨⟨by go_simp,by go_simp,by go_simp,by go_simp,by go_simp,by go_simp,by simpa [World.setCell] using h6⟩,by go_simp,by go_simp,by go_simp,by go_simp,by go_simp,by go_simp⟩):p:=h
theorem zq28 {p:Prop} (h:p:=by
 rintro e v9 ⟨x,y,m,rfl,hd,ho,hm1,hm2,hb⟩;rw [HRR.o]at hd ho⊢;simp only at hd ho⊢;unfold a1c;have HLn:=qh (HL.o.below hb);have HRn:=qh (DfR.called HL.o hd ho hm1 hm2 HNL.o);obtain⟨xa,xc,rfl,-,-⟩:=hd;obtain⟨ya,yc,rfl⟩:=a0i ho;refine hK.out _ _ HLn.o.s (fun hS9=>?_);clear hK K ho hm1 hm2 hb hS9
 try simp only [qA,qB,qC,Act.put,qD,qE,qF]
 refine tk1 12 HLn.o.s ?_;refine tk1 13 HLn.o.s ?_;refine tk1 14 HLn.o.s ?_;refine tk1 15 HLn.o.s ?_;refine tk1 16 HLn.o.s ?_;clear HL;exact d8g):p:=h
theorem zq29 {p:Prop} (h:p:=by
 rintro e v9 ⟨x,y,m,rfl,hd,ho,hm1,hm2,hb⟩;rw [HRR.o]at hd ho⊢;simp only at hd ho⊢;unfold a1c;have HLn:=qh (HL.o.below hb);have HRn:=qh (DfR.called HL.o hd ho hm1 hm2 HNL.o);obtain⟨xa,xc,rfl,-,-⟩:=hd;obtain⟨ya,yc,rfl⟩:=a0i ho;refine hK.out _ _ HLn.o.s (fun hS9=>?_);clear hK K ho hm1 hm2 hb hS9
 try simp only [qA,qB,qC,Act.put,qD,qE,qF]
 refine tk1 12 HLn.o.s ?_;refine tk1 13 HLn.o.s ?_;refine tk1 14 HLn.o.s ?_;refine tk1 15 HLn.o.s ?_;refine tk1 16 HLn.o.s ?_;clear HL;exact d7y):p:=h
theorem zq30 {p:Prop} (h:p:=by
 rintro e v9 ⟨x,y,m,rfl,hd,ho,hm1,hm2,hb⟩;rw [HRR.o]at hd ho⊢;simp only at hd ho⊢;unfold a1c;have HLn:=qh (HL.o.below hb);have HRn:=qh (DfR.called HL.o hd ho hm1 hm2 HNL.o);obtain⟨xa,xc,rfl,-,-⟩:=hd;obtain⟨ya,yc,rfl⟩:=a0i ho;refine hK.out _ _ HLn.o.s (fun hS9=>?_);clear hK K ho hm1 hm2 hb hS9
 try simp only [qA,qB,qC,Act.put,qD,qE,qF]
 refine tk1 12 HLn.o.s ?_;refine tk1 13 HLn.o.s ?_;refine tk1 14 HLn.o.s ?_;refine tk1 15 HLn.o.s ?_;refine tk1 16 HLn.o.s ?_;clear HL;exact d9f):p:=h
theorem zq31 {p:Prop} (h:p:=by
 rintro e v9 ⟨x,y,m,rfl,hd,ho,hm1,hm2,hb⟩;rw [HRR.o]at hd ho⊢;simp only at hd ho⊢;unfold a1c;have HLn:=qh (HL.o.below hb);have HRn:=qh (DfR.called HL.o hd ho hm1 hm2 HNL.o);obtain⟨xa,xc,rfl,-,-⟩:=hd;obtain⟨ya,yc,rfl⟩:=a0i ho;refine hK.out _ _ HLn.o.s (fun hS9=>?_);clear hK K ho hm1 hm2 hb hS9
 try simp only [qA,qB,qC,Act.put,qD,qE,qF]
 refine tk1 12 HLn.o.s ?_;refine tk1 13 HLn.o.s ?_;refine tk1 14 HLn.o.s ?_;refine tk1 15 HLn.o.s ?_;refine tk1 16 HLn.o.s ?_;clear HL;revert HRn;revert HLn;revert yc;revert ya;revert xc;revert xa;revert b3;revert v9;exact k1001):p:=h
theorem zq32 {p:Prop} (h:p:=by
 rintro e v9 ⟨x,y,m,rfl,hd,ho,hm1,hm2,hb⟩;rw [HRR.o]at hd ho⊢;simp only at hd ho⊢;unfold a1c;have HLn:=qh (HL.o.below hb);have HRn:=qh (DfR.called HL.o hd ho hm1 hm2 HNL.o);obtain⟨xa,xc,rfl,-,-⟩:=hd;obtain⟨ya,yc,rfl⟩:=a0i ho;refine hK.out _ _ HLn.o.s (fun hS9=>?_);clear hK K ho hm1 hm2 hb hS9
 try simp only [qA,qB,qC,Act.put,qD,qE,qF]
 refine tk1 12 HLn.o.s ?_;refine tk1 13 HLn.o.s ?_;refine tk1 14 HLn.o.s ?_;refine tk1 15 HLn.o.s ?_;refine tk1 16 HLn.o.s ?_;clear HL;revert HRn;revert HLn;revert yc;revert ya;revert xc;revert xa;revert b2;revert v9;exact k1010):p:=h
theorem zq33 {p:Prop} (h:p:=by
 rintro e v9 ⟨x,y,m,rfl,hd,ho,hm1,hm2,hb⟩;rw [HRR.o]at hd ho⊢;simp only at hd ho⊢;unfold a1c;have HLn:=qh (HL.o.below hb);have HRn:=qh (DfR.called HL.o hd ho hm1 hm2 HNL.o);obtain⟨xa,xc,rfl,-,-⟩:=hd;obtain⟨ya,yc,rfl⟩:=a0i ho;refine hK.out _ _ HLn.o.s (fun hS9=>?_);clear hK K ho hm1 hm2 hb hS9
 try simp only [qA,qB,qC,Act.put,qD,qE,qF]
 refine tk1 12 HLn.o.s ?_;refine tk1 13 HLn.o.s ?_;refine tk1 14 HLn.o.s ?_;refine tk1 15 HLn.o.s ?_;refine tk1 16 HLn.o.s ?_;clear HL;revert HRn;revert HLn;revert yc;revert ya;revert xc;revert xa;revert b1;revert v9;exact k1100):p:=h
theorem zq34 {p:Prop} (h:p:=by
 rintro e v9 ⟨x,y,m,rfl,hd,ho,hm1,hm2,hb⟩;rw [HRR.o]at hd ho⊢;simp only at hd ho⊢;unfold a1c;have HLn:=qh (HL.o.below hb);have HRn:=qh (DfR.called HL.o hd ho hm1 hm2 HNL.o);obtain⟨xa,xc,rfl,-,-⟩:=hd;obtain⟨ya,yc,rfl⟩:=a0i ho;refine hK.out _ _ HLn.o.s (fun hS9=>?_);clear hK K ho hm1 hm2 hb hS9
 try simp only [qA,qB,qC,Act.put,qD,qE,qF]
 refine tk1 12 HLn.o.s ?_;refine tk1 13 HLn.o.s ?_;refine tk1 14 HLn.o.s ?_;refine tk1 15 HLn.o.s ?_;refine tk1 16 HLn.o.s ?_;clear HL;revert HRn;revert HLn;revert yc;revert ya;revert xc;revert xa;revert v9;exact k1000):p:=h
theorem zq35 {p:Prop} (h:p:=by
 obtain⟨_,_,_,⟨k3,k4,_⟩,⟨_,k5,k6,k7,k8⟩,⟨_,k9,k10,k11,k12⟩⟩:=HX4.o;go_wp2;refine bodyPost_ret (v:=.tuple #[.agg #[.slice none 0 0],a0r (.slice none 0 0) [],a1c (0,[]),.bool false]) (by simp [a0r,a1c,k3,k5,k6,k9,k10,results,Tryz.results212,go_sem]) rfl ⟨.slice none 0 0,.slice none 0 0,w.heap.size,by rw [HP.o];rfl,by rw [HP.o];exact RowO.nil _ _,by rw [HP.o];exact World.ownsRow_nil _ _ _ _,Nat.le_refl _,?_,?_⟩
 ·have h9:=HB4.o.size;simp only [World.setCell,Array.size_modify];omega
 ·exact zq186):p:=h
theorem zq36 {p:Prop} (h:p:=by
 go_enter Tryz.func198,Tryz.ntmps198
 go_wp2_with (first|(go_at_call 197;refine (b8t _ _ oZ oZ).mono ?_;rintro e w' ⟨rfl,n1,rfl⟩)|(go_at_call 66;((with_reducible refine (b0g _ _ oZ).mono ?_);rintro e w1 ⟨v,rfl,hown,hb⟩;obtain⟨g,cap,rfl,hg,hgl,hcell,hl1⟩:=a6u hown;clear hown;obtain⟨hcc,hff⟩:=a4k hb;have hz:=grew hb;have HB:=qh hb;clear hb)))
 refine bodyPost_ret (v:=.tuple #[.agg #[.string (S []),.string (S [])],.bool false]) (by simp [results,Tryz.results198,go_sem,hcc]) rfl ⟨by rw [HF.o],?_⟩;exact ((below_drewN (bZ.alloc lZ _) _).trans (HB.o.mono sZ)).setCell sZ _ |>.setCell sZ _):p:=h
theorem zq37 {p:Prop} (h:p:=by
 exact d7n):p:=h
theorem zq38 {p:Prop} (h:p:=by
 have HN:=qh (HR.o.trans (P.d3m (q:=(sn,nx,dh)) hlt HD.o (by show P.keyOf t[k] nx<23;rw [HKJ.o];exact hj23)));have HI2:=qh (P.a6g (b:=t[k]) (q':=(sn+2^P.keyOf t[k] nx,P.keyOf t[k] nx+1,dh)) HI.o (by unfold P.a3a;rw [if_neg HD.o,if_pos (by show P.keyOf t[k] nx<23;rw [HKJ.o];exact hj23)]));simp only [HKJ.o]at HN HI2;have e3:bits .or .i64 (sn:Int) (wrap64 (2^j))=((sn+2^j:Nat):Int):=by rw [e1];exact e2
 clear e1 e2
 go_wp2_with fail
 go_quiet (fail)
 go_wp2
 go_roundw
 case rel=>exact⟨k+1,(sn+2^j,j+1,dh),by omega,by go_num,by simp,by go_num,rfl,HI2.o,HN.o,below_drewN HB1.o _⟩
 case measure=>simp [intOf];omega):p:=h
theorem zq39 {p:Prop} (h:p:=by
 injection he with h1 h2 h4
 rcases h3 with h3|⟨g,o,h5,h6,h7⟩
 ·rw [h3]at hj;exact absurd hj (Nat.not_lt_zero _)
 ·exact⟨g,o,h1.trans h5,h6,h7 j hj⟩):p:=h
theorem zq40 {p:Prop} (h:p:=by
 obtain⟨ad,cap,h1,h2,hn,h3⟩:=h;refine⟨ad,cap,h1,h2,hn,h3.imp id ?_⟩;rintro⟨g,o,h4,h5,h6⟩;refine⟨g,o,h4,Nat.lt_of_lt_of_le h5 hb.size,fun j hj=>?_⟩;obtain⟨x,a,b,c⟩:=h6 j hj;exact⟨x,(hb.cell (p:=⟨g,_,none⟩) h5).trans a,(hb.cell (p:=⟨g,_,none⟩) h5).trans b,c.below hb⟩):p:=h
theorem zq41 {p:Prop} (h:p:=by
 go_wp2_with fail
 go_quiet (fail)
 go_wp2;refine bodyPost_ret (v:=.agg #[.int .i64 (P.least a b).1,.string (S (P.least a b).2)]) (by simp [P.least,HL.o,results,Tryz.results208,go_sem,HSB.o]) rfl ⟨rfl,((below_drewN (bZ.alloc lZ _) _).setCell lZ _).setCell lZ _⟩):p:=h
theorem zq42 {p:Prop} (h:p:=by
 go_wp2_with fail
 go_quiet (fail)
 go_wp2;refine bodyPost_ret (v:=.agg #[.int .i64 (P.least a b).1,.string (S (P.least a b).2)]) (by simp [P.least,HL.o,results,Tryz.results234,go_sem,HSB.o]) rfl ⟨rfl,((below_drewN (bZ.alloc lZ _) _).setCell lZ _).setCell lZ _⟩):p:=h
theorem zq43 {p:Prop} (h:p:=by
 skip;go_simp;have HLn:=qh (HL.o.b2m);have HRn:=qh (HR.o.alloc (.cells #[.slice none 0 0,.string (S [])] 35) (.inl rfl) (.inr rfl) (.inl rfl));refine hK.out _ _ HLn.o.s (fun _=>?_);clear hK K
 try simp only [qA,qB,qC,Act.put,qD,qE,qF]
 clear HL HR;generalize v.alloc (.cells #[.slice none 0 0,.string (S [])] 35)=v9 at HLn HRn⊢;generalize v.heap.size=b2 at HLn HRn⊢;exact d8g):p:=h
theorem zq44 {p:Prop} (h:p:=by
 skip;go_simp;have HLn:=qh (HL.o.b2m);have HRn:=qh (HR.o.alloc (.cells #[.slice none 0 0,.string (S [])] 35) (.inl rfl) (.inr rfl) (.inl rfl));refine hK.out _ _ HLn.o.s (fun _=>?_);clear hK K
 try simp only [qA,qB,qC,Act.put,qD,qE,qF]
 clear HL HR;generalize v.alloc (.cells #[.slice none 0 0,.string (S [])] 35)=v9 at HLn HRn⊢;generalize v.heap.size=b2 at HLn HRn⊢;exact d9f):p:=h
theorem zq45 {p:Prop} (h:p:=by
 skip;go_simp;have HLn:=qh (HL.o.b2s);have HRn:=qh (HR.o.alloc (.cells #[.int .i64 0,.string (S [])] 55) (.inl rfl) (.inl rfl) (.inr rfl));refine hK.out _ _ HLn.o.s (fun _=>?_);clear hK K
 try simp only [qA,qB,qC,Act.put,qD,qE,qF]
 clear HL HR;generalize v.alloc (.cells #[.int .i64 0,.string (S [])] 55)=v9 at HLn HRn⊢;generalize v.heap.size=b3 at HLn HRn⊢;exact d8g):p:=h
theorem zq46 {p:Prop} (h:p:=by
 skip;go_simp;have HLn:=qh (HL.o.b2s);have HRn:=qh (HR.o.alloc (.cells #[.int .i64 0,.string (S [])] 55) (.inl rfl) (.inl rfl) (.inr rfl));refine hK.out _ _ HLn.o.s (fun _=>?_);clear hK K
 try simp only [qA,qB,qC,Act.put,qD,qE,qF]
 clear HL HR;generalize v.alloc (.cells #[.int .i64 0,.string (S [])] 55)=v9 at HLn HRn⊢;generalize v.heap.size=b3 at HLn HRn⊢;exact d7y):p:=h
theorem zq47 {p:Prop} (h:p:=by
 skip;go_simp;have HLn:=qh (HL.o.b2m);have HRn:=qh (HR.o.alloc (.cells #[.slice none 0 0,.string (S [])] 35) (.inl rfl) (.inr rfl) (.inl rfl));refine hK.out _ _ HLn.o.s (fun _=>?_);clear hK K
 try simp only [qA,qB,qC,Act.put,qD,qE,qF]
 clear HL HR;generalize v.alloc (.cells #[.slice none 0 0,.string (S [])] 35)=v9 at HLn HRn⊢;generalize v.heap.size=b2 at HLn HRn⊢;revert HRn;revert HLn;revert yc;revert ya;revert xc;revert xa;revert b2;revert v9;exact k1010):p:=h
theorem zq48 {p:Prop} (h:p:=by
 skip;go_simp;have HLn:=qh (HL.o.b2s);have HRn:=qh (HR.o.alloc (.cells #[.int .i64 0,.string (S [])] 55) (.inl rfl) (.inl rfl) (.inr rfl));refine hK.out _ _ HLn.o.s (fun _=>?_);clear hK K
 try simp only [qA,qB,qC,Act.put,qD,qE,qF]
 clear HL HR;generalize v.alloc (.cells #[.int .i64 0,.string (S [])] 55)=v9 at HLn HRn⊢;generalize v.heap.size=b3 at HLn HRn⊢;revert HRn;revert HLn;revert yc;revert ya;revert xc;revert xa;revert b3;revert v9;exact k1001):p:=h
theorem zq49 {p:Prop} (h:p:=by
 skip;go_simp;have HLn:=qh (HL.o.b2o);have HRn:=qh (HR.o.alloc (.cells #[.slice none 0 0] 26) (.inr rfl) (.inl rfl) (.inl rfl));refine hK.out _ _ HLn.o.s (fun _=>?_);clear hK K
 try simp only [qA,qB,qC,Act.put,qD,qE,qF]
 clear HL HR;generalize v.alloc (.cells #[.slice none 0 0] 26)=v9 at HLn HRn⊢;generalize v.heap.size=b1 at HLn HRn⊢;exact d7y):p:=h
theorem zq50 {p:Prop} (h:p:=by
 skip;go_simp;have HLn:=qh (HL.o.b2o);have HRn:=qh (HR.o.alloc (.cells #[.slice none 0 0] 26) (.inr rfl) (.inl rfl) (.inl rfl));refine hK.out _ _ HLn.o.s (fun _=>?_);clear hK K
 try simp only [qA,qB,qC,Act.put,qD,qE,qF]
 clear HL HR;generalize v.alloc (.cells #[.slice none 0 0] 26)=v9 at HLn HRn⊢;generalize v.heap.size=b1 at HLn HRn⊢;exact d9f):p:=h
theorem zq51 {p:Prop} (h:p:=by
 skip;go_simp;have HLn:=qh (HL.o.b2o);have HRn:=qh (HR.o.alloc (.cells #[.slice none 0 0] 26) (.inr rfl) (.inl rfl) (.inl rfl));refine hK.out _ _ HLn.o.s (fun _=>?_);clear hK K
 try simp only [qA,qB,qC,Act.put,qD,qE,qF]
 clear HL HR;generalize v.alloc (.cells #[.slice none 0 0] 26)=v9 at HLn HRn⊢;generalize v.heap.size=b1 at HLn HRn⊢;revert HRn;revert HLn;revert yc;revert ya;revert xc;revert xa;revert b1;revert v9;exact k1100):p:=h
theorem zq52 {p:Prop} (h:p:=by
 go_wp2_with (go_at_call 187;refine (l1In _ _ _ _).mono ?_;rintro e w' ⟨rfl,rfl⟩;rw [HDQ.o])
 go_roundw
 case rel=>exact⟨j+1,_,true,hy,by omega,by go_num,by first|rfl|(simp;rfl),rfl,rfl,HZ.o,by first|trivial|rfl⟩
 case measure=>simp [intOf];omega):p:=h
theorem zq53 {p:Prop} (h:p:=by
 have i1:(x.length:Int)-1=((x.length-1:Nat):Int):=by omega
 have i2:x.length-1≤x.length:=by omega
 go_wp2;go_ret;exact⟨a1p (by rw [HJ.o]<;>simp),rfl⟩):p:=h
theorem zq54 {p:Prop} (h:p:=by
 subst hW0;refine⟨⟨by simp<;>omega,by go_simp⟩,⟨by simp<;>omega,by go_simp,by go_simp,by go_simp,by go_simp⟩,⟨by simp<;>omega,by go_simp,by go_simp,by go_simp,by go_simp⟩,⟨by simp,by go_simp,by go_simp,by go_simp,by go_simp⟩⟩):p:=h
theorem zq55 {p:Prop} (h:p:=by
 exact (((((HB0.o.trans (HB1.o.mono HB0.o.size)).setCell (by simp<;>omega) _).setCell (by simp<;>omega) _).setCell (by simp<;>omega) _).setCell (by simp<;>omega) _)):p:=h
theorem zq56 {p:Prop} (h:p:=by
 have hn:news=[]:=List.eq_nil_of_length_eq_zero (by simpa using hl);subst hn;subst hsize;refine⟨v,w,?_,by simpa using hown,⟨rfl,rfl,rfl,Nat.le_refl _,fun _ _ _=>rfl⟩,by simp⟩
 rcases hown.2 with⟨rfl,rfl⟩|⟨g,cap,cur,rfl,hbg,hg,hnc,hcm,hcs,htake⟩
 ·simp [Builtin.append_,run_underlying ht,sizeOf,typeInfo,hi,Builtin.lenOf,Builtin.firstCells]
 ·simp [Builtin.append_,run_underlying ht,sizeOf,typeInfo,hi,Builtin.lenOf,Builtin.firstCells,loadCells,hnc,storeCells]):p:=h
theorem zq57 {p:Prop} (h:p:=by
 rcases h.2 with⟨rfl,h0⟩|⟨g,cap,cur,hv,_⟩
 ·exact⟨none,0,by rw [h0]⟩
 ·exact⟨_,cap,hv⟩):p:=h
theorem zq58 {p:Prop} (h:p:=by
 have hkl:k=t.length:=by omega
 subst hkl;have HN:=qh (P.b1p (HR.o.trans (by rw [List.drop_length];rfl)));simp only at HN
 by_cases h0:sn=0
 ·have f0:((sn:Int) != 0)=false:=by subst h0;rfl
  go_wp2;go_ret2;exact⟨by rw [HN.o];simp [h0],HB.o⟩
 ·have f0:((sn:Int) != 0)=true:=by
   show (!_)=true
   rw [beq_eq_false_iff_ne.2 oZ];rfl
  go_wp2;go_ret2;exact⟨by rw [HN.o];simp [h0],HB.o⟩):p:=h
theorem zq59 {p:Prop} (h:p:=by
 go_enter Tryz.func219,Tryz.ntmps219
 go_wp2_with (first|(go_at_call 277;refine (b8g _ _ hs').mono ?_;rintro e w' ⟨rfl,rfl⟩;rw [if_pos h1,HD1.o])|(go_at_call 145;refine (a5e _ _ oZ oZ HE.o).mono ?_;rintro e w' ⟨rfl,hb⟩;have HB:=qh hb;clear hb;rw [Int.toNat_natCast])|(go_at_call 136;refine (contains_one _ 35 _).mono ?_;rintro e w' ⟨rfl,rfl⟩))
 go_ret2;exact⟨by rw [HF.o];rfl,HB.o⟩):p:=h
theorem zq60 {p:Prop} (h:p:=by
 skip;go_simp;have HLn:=qh (HL.o.b2m);refine hK.out _ _ HLn.o.s (fun _=>?_);clear hK K
 try simp only [qA,qB,qC,Act.put,qD,qE,qF]
 clear HL;generalize v.alloc (.cells #[.slice none 0 0,.string (S [])] 35)=v9 at HLn⊢;generalize v.heap.size=b2 at HLn⊢;revert HLn;revert b3;revert b2;revert b1;revert v9;exact k0111):p:=h
theorem zq61 {p:Prop} (h:p:=by
 skip;go_simp;have HLn:=qh (HL.o.b2s);refine hK.out _ _ HLn.o.s (fun _=>?_);clear hK K
 try simp only [qA,qB,qC,Act.put,qD,qE,qF]
 clear HL;generalize v.alloc (.cells #[.int .i64 0,.string (S [])] 55)=v9 at HLn⊢;generalize v.heap.size=b3 at HLn⊢;revert HLn;revert b3;revert b2;revert b1;revert v9;exact k0111):p:=h
theorem zq62 {p:Prop} (h:p:=by
 skip;go_simp;have HLn:=qh (HL.o.b2m);refine hK.out _ _ HLn.o.s (fun _=>?_);clear hK K
 try simp only [qA,qB,qC,Act.put,qD,qE,qF]
 clear HL;generalize v.alloc (.cells #[.slice none 0 0,.string (S [])] 35)=v9 at HLn⊢;generalize v.heap.size=b2 at HLn⊢;revert HLn;revert b3;revert b2;revert v9;exact k0011):p:=h
theorem zq63 {p:Prop} (h:p:=by
 skip;go_simp;have HLn:=qh (HL.o.b2m);refine hK.out _ _ HLn.o.s (fun _=>?_);clear hK K
 try simp only [qA,qB,qC,Act.put,qD,qE,qF]
 clear HL;generalize v.alloc (.cells #[.slice none 0 0,.string (S [])] 35)=v9 at HLn⊢;generalize v.heap.size=b2 at HLn⊢;revert HLn;revert b2;revert b1;revert v9;exact k0110):p:=h
theorem zq64 {p:Prop} (h:p:=by
 skip;go_simp;have HLn:=qh (HL.o.b2s);refine hK.out _ _ HLn.o.s (fun _=>?_);clear hK K
 try simp only [qA,qB,qC,Act.put,qD,qE,qF]
 clear HL;generalize v.alloc (.cells #[.int .i64 0,.string (S [])] 55)=v9 at HLn⊢;generalize v.heap.size=b3 at HLn⊢;revert HLn;revert b3;revert b2;revert v9;exact k0011):p:=h
theorem zq65 {p:Prop} (h:p:=by
 skip;go_simp;have HLn:=qh (HL.o.b2s);refine hK.out _ _ HLn.o.s (fun _=>?_);clear hK K
 try simp only [qA,qB,qC,Act.put,qD,qE,qF]
 clear HL;generalize v.alloc (.cells #[.int .i64 0,.string (S [])] 55)=v9 at HLn⊢;generalize v.heap.size=b3 at HLn⊢;revert HLn;revert b3;revert b1;revert v9;exact k0101):p:=h
theorem zq66 {p:Prop} (h:p:=by
 skip;go_simp;have HLn:=qh (HL.o.b2o);refine hK.out _ _ HLn.o.s (fun _=>?_);clear hK K
 try simp only [qA,qB,qC,Act.put,qD,qE,qF]
 clear HL;generalize v.alloc (.cells #[.slice none 0 0] 26)=v9 at HLn⊢;generalize v.heap.size=b1 at HLn⊢;revert HLn;revert b3;revert b2;revert b1;revert v9;exact k0111):p:=h
theorem zq67 {p:Prop} (h:p:=by
 skip;go_simp;have HLn:=qh (HL.o.b2m);refine hK.out _ _ HLn.o.s (fun _=>?_);clear hK K
 try simp only [qA,qB,qC,Act.put,qD,qE,qF]
 clear HL;generalize v.alloc (.cells #[.slice none 0 0,.string (S [])] 35)=v9 at HLn⊢;generalize v.heap.size=b2 at HLn⊢;revert HLn;revert b2;revert v9;exact k0010):p:=h
theorem zq68 {p:Prop} (h:p:=by
 clear hml
 go_wp2_with fail
 refine (d6t _ acc _ (a1y HOWN.o oZ)).mono ?_;rintro e w2 ⟨rfl,rfl⟩;rw [HOQ.o]at HQ⊢
 cases q
 ·go_wp2;go_ret2;exact⟨.slice (some ⟨wr.heap.size,0,none⟩) 0 0,by rw [HQ.o];rfl,by rw [HQ.o];exact c2j _ _ HBEL.o.size,HBEL.o.alloc HBEL.o.size _⟩
 ·go_wp2;go_ret2;exact⟨_,by rw [HQ.o];rfl,by rw [HQ.o];exact HOWN.o,HBEL.o⟩):p:=h
theorem zq69 {p:Prop} (h:p:=by
 skip;go_simp;have HLn:=qh (HL.o.b2s);refine hK.out _ _ HLn.o.s (fun _=>?_);clear hK K
 try simp only [qA,qB,qC,Act.put,qD,qE,qF]
 clear HL;generalize v.alloc (.cells #[.int .i64 0,.string (S [])] 55)=v9 at HLn⊢;generalize v.heap.size=b3 at HLn⊢;revert HLn;revert b3;revert v9;exact k0001):p:=h
theorem zq70 {p:Prop} (h:p:=by
 skip;go_simp;have HLn:=qh (HL.o.b2o);refine hK.out _ _ HLn.o.s (fun _=>?_);clear hK K
 try simp only [qA,qB,qC,Act.put,qD,qE,qF]
 clear HL;generalize v.alloc (.cells #[.slice none 0 0] 26)=v9 at HLn⊢;generalize v.heap.size=b1 at HLn⊢;revert HLn;revert b3;revert b1;revert v9;exact k0101):p:=h
theorem zq71 {p:Prop} (h:p:=by
 skip;go_simp;have HLn:=qh (HL.o.b2o);refine hK.out _ _ HLn.o.s (fun _=>?_);clear hK K
 try simp only [qA,qB,qC,Act.put,qD,qE,qF]
 clear HL;generalize v.alloc (.cells #[.slice none 0 0] 26)=v9 at HLn⊢;generalize v.heap.size=b1 at HLn⊢;revert HLn;revert b2;revert b1;revert v9;exact k0110):p:=h
theorem zq72 {p:Prop} (h:p:=by
 skip;go_simp;have HLn:=qh (HL.o.b2o);refine hK.out _ _ HLn.o.s (fun _=>?_);clear hK K
 try simp only [qA,qB,qC,Act.put,qD,qE,qF]
 clear HL;generalize v.alloc (.cells #[.slice none 0 0] 26)=v9 at HLn⊢;generalize v.heap.size=b1 at HLn⊢;revert HLn;revert b1;revert v9;exact k0100):p:=h
theorem zq73 {p:Prop} (h:p:=by
 go_wp2_with (first|(go_at_call 343;refine (a4d _ _).mono ?_;rintro e w' ⟨rfl,rfl⟩)|(go_at_call 344;refine (a3d _ _ oZ).mono ?_;rintro e w' ⟨rfl,rfl⟩)|(go_at_call 345;refine (b7t _ _ _ oZ).mono ?_;rintro e w' ⟨rfl,rfl⟩)|(go_at_call 346;refine (a6a _ _ hx).mono ?_;rintro e w' ⟨rfl,rfl⟩))
 go_meet;exact⟨by simp [g4,g6,g8,g10],rfl⟩):p:=h
theorem zq74 {p:Prop} (h:p:=by
 go_wp2_with (first|(go_at_call 343;refine (a4d _ _).mono ?_;rintro e w' ⟨rfl,rfl⟩)|(go_at_call 344;refine (a3d _ _ oZ).mono ?_;rintro e w' ⟨rfl,rfl⟩)|(go_at_call 345;refine (b7t _ _ _ oZ).mono ?_;rintro e w' ⟨rfl,rfl⟩)|(go_at_call 346;refine (a6a _ _ hx).mono ?_;rintro e w' ⟨rfl,rfl⟩))
 go_meet;exact⟨by simp [g4,g6,g8],rfl⟩):p:=h
theorem zq75 {p:Prop} (h:p:=by
 go_wp2_with (first|(go_at_call 343;refine (a4d _ _).mono ?_;rintro e w' ⟨rfl,rfl⟩)|(go_at_call 344;refine (a3d _ _ oZ).mono ?_;rintro e w' ⟨rfl,rfl⟩)|(go_at_call 345;refine (b7t _ _ _ oZ).mono ?_;rintro e w' ⟨rfl,rfl⟩)|(go_at_call 346;refine (a6a _ _ hx).mono ?_;rintro e w' ⟨rfl,rfl⟩))
 go_meet;exact⟨by simp [g4,g6],rfl⟩):p:=h
theorem zq76 {p:Prop} (h:p:=by
 go_enter Tryz.func343,Tryz.ntmps343
 go_wp2;go_ret;exact⟨a0a (by rw [HV.o];rfl),rfl⟩):p:=h
theorem zq77 {p:Prop} (h:p:=by
 go_enter Tryz.func296,Tryz.ntmps296
 go_wp2;refine bodyPost_ret (v:=a8q 1 s) (by simp [results,Tryz.results296,go_sem]) rfl ⟨by rw [HF.o],bZ.alloc lZ _⟩):p:=h
theorem zq78 {p:Prop} (h:p:=by
 go_wp2;go_ret;exact⟨a1p (by rw [HJ.o]<;>simp),rfl⟩):p:=h
theorem zq79 {p:Prop} (h:p:=by
 have f3:((((a[j]'h1).toNat:Nat):Int)==(((b[j]'h2).toNat:Nat):Int))=true:=by rw [h3];simp
 have HT:=qh (show a.take (j+1)=b.take (j+1) by rw [a0f a j h1,a0f b j h2,HPRE.o,h3])
 go_wp2_with fail
 go_quiet (fail)
 go_wp2
 go_roundw
 case rel=>exact⟨j+1,by omega,by omega,by go_num,HT.o,_,rfl⟩
 case measure=>simp [intOf];omega):p:=h
theorem zq80 {p:Prop} (h:p:=by
 obtain⟨v',w',hr,h2,h3,h4⟩:=a8z (P:=P) w base t o.type e i z size bytes ht hi hz hsize hby hzs hsz v n xs hown u m news hsrc h63 hbytes hbase;unfold Oper.wp execOp;simp only [ho,resolve,invoke,builtin,Sem.run_bind,Sem.run_pure,Result.andThen_ok,List.map_toArray,List.map_cons,List.map_nil,hs,hx,hr];exact hK _ _ (h v' w' h2 h3 h4)):p:=h
theorem zq81 {p:Prop} (h:p:=by
 by_cases ht1:200<t1.length
 ·have i5:(200:Int)<(t1.length:Int):=by omega
  have HR:=qh (HRP.o.trans (if_pos ht1));go_wp2;go_meet;exact⟨by rw [HR.o];rfl,rfl⟩
 ·have i5:¬(200:Int)<(t1.length:Int):=by omega
  have HR:=qh (HRP.o.trans (if_neg ht1));go_wp2;go_meet;exact⟨by rw [HR.o],rfl⟩):p:=h
theorem zq82 {p:Prop} (h:p:=by
 have hr2:=HR.o;exact (hr2.a0e a0b (X:=fun b=>b=w.heap.size) ((Chg.refl (fun b=>b=w.heap.size) v1).setCell (p:=⟨w.heap.size,0,none⟩) rfl (.slice uad j ucap)) (by intro b hb;have:=hb.1;omega)).wide (fun b hb=>⟨by have:=hb.1;omega,by have h1:=hb.2;have h2:=HZ.o;simp [World.setCell];omega⟩) (fun b hb=>hb.2)):p:=h
theorem zq83 {p:Prop} (h:p:=by
 subst hv;rw [Nat.zero_add];have hw:=(h2 j hj).1
 have hlt2:j*wd+i<l.length*wd:=by
  have:=Nat.mul_le_mul_right wd (show j+1≤l.length by omega);rw [Nat.add_mul]at this;omega
 refine⟨(World.ownsRow.cellAt h1 (j*wd+i) hlt2).trans ?_,World.ownsRow.frozenAt h1 _⟩;rw [h0];exact b2y (fun j hj=>(h2 j hj).1) j i hj hi):p:=h
theorem zq84 {p:Prop} (h:p:=by
 intro hy
 rcases h1.2 with⟨rfl,_⟩|⟨g,cap,cur,rfl,_,hh,_⟩
 ·simp [Value.ownBlock]at hk
 rcases h2.2 with⟨rfl,_⟩|⟨g2,cap2,cur2,rfl,_,hh2,_⟩
 ·simp [Value.ownBlock]at hy
 simp [Value.ownBlock]at hy hk;subst hy;subst hk;rw [hh]at hh2;injection hh2 with hh2;injection hh2 with _ e2 _;exact absurd e2 dZ):p:=h
theorem zq85 {p:Prop} (h:p:=by
 go_round
 case rel=>exact⟨m+1+1,by omega,by go_num,by rw [HZ.o]⟩
 case measure=>simp [intOf];omega):p:=h
theorem zq86 {p:Prop} (h:p:=by
 go_wp2;go_ret;exact⟨⟨-1,rfl,by omega,by omega⟩,HB1.o⟩):p:=h
theorem zq87 {p:Prop} (h:p:=by
 refine (HI.o.a0e (X:=fun b=>b<w.heap.size+3) a0g (((((Chg.refl _ w1).setCell ?_ _).setCell ?_ _).setCell ?_ _).setCell ?_ _) ?_).wide ?_ ?_
 ·simp
 ·simp
 ·simp
 ·simp
 ·intro b hb;simp [Bet]at hb⊢;omega
 ·intro b hb;simp [Bet,World.setCell]at hb⊢;omega
 ·intro b hb;exact hb.2):p:=h
theorem zq88 {p:Prop} (h:p:=by
 all_goals (rw [World.cell?_setCell_other _ _ _ _ (far dZ)];assumption)):p:=h
theorem zq89 {p:Prop} (h:p:=by
 rw [←hW0];exact⟨(SOut.new (.slice ad l.length cap) (.slice sd st.length sap) sc d p n w).below (bZ.alloc lZ _),by have h:=SOut.new (.slice none 0 0) (.slice none 0 0) [] [] [] 0 (w.alloc (a0d (.slice ad l.length cap) (.slice sd st.length sap) sc d p n));simpa using h⟩):p:=h
theorem zq90 {p:Prop} (h:p:=by
 exact ((A3.o.below.setCell (by simp;omega) _).setCell (by simp;omega) _).setCell (by simp;omega) _):p:=h
theorem zq91 {p:Prop} (h:p:=by
 go_ret;exact⟨(by first|(rw [HF.o];done)|(rw [HF.o];rfl)),rfl⟩):p:=h
theorem zq92 {p:Prop} (h:p:=by
 rw [HQ.o]at HZ
 go_wp2_with (go_at_call 187;refine (l1In _ _ _ _).mono ?_;rintro e w' ⟨rfl,rfl⟩;rw [HDQ.o])
 go_roundw
 case rel=>exact⟨j+1,_,false,true,by omega,by go_num,by first|rfl|(simp;rfl),rfl,rfl,HZ.o,by first|trivial|rfl⟩
 case measure=>simp [intOf];omega):p:=h
theorem zq93 {p:Prop} (h:p:=by
 go_wp2_with (go_at_call 273;refine (a7l _ _).mono ?_;rintro e w' ⟨rfl,rfl⟩)
 go_meet;exact⟨_,rfl,by rw [HCL.o];rfl,Below.refl _ _⟩):p:=h
theorem zq94 {p:Prop} (h:p:=by
 have HN:=qh (P.a5o (HR.o.trans (P.c4e (q:=(sn,nx,dh)) hlt HD.o (by show 23≤P.keyOf t[k] nx;rw [←HK.o,P.d0w lZ];exact Nat.le_refl _))))
 go_wp2_with fail
 go_quiet (fail)
 go_wp2;go_ret2;exact⟨by rw [HN.o];rfl,below_drewN HB1.o _⟩):p:=h
theorem zq95 {p:Prop} (h:p:=by
 have HK:=qh hok;clear hok;go_wp2;go_ret;exact⟨a0a (by rw [HK.o];rfl),HB1.o⟩):p:=h
theorem zq96 {p:Prop} (h:p:=by
 go_wp2;refine bodyPost_ret (v:=.tuple #[.agg #[.string (S []),.string (S [])],.int .i64 0,.bool false]) (by simp [results,Tryz.results148,go_sem]) rfl ⟨by rw [HF.o];rfl,?_⟩;exact ((below_drewN (bZ.alloc lZ _) _).setCell sZ _).setCell sZ _):p:=h
theorem zq97 {p:Prop} (h:p:=by
 simp only [if_neg e];have hj':j<l.length:=by simp at hj;omega
 refine⟨(h2 j hj').1,?_⟩;rw [List.getElem_append_left hj'];refine hE.keep (h2 j hj').2 ⟨by omega,fun b hb=>?_⟩;have h5:=h3 j hj' b hb;rw [hgB b oZ h5.2.2,hb2.block b oZ,hb1.block b oZ]):p:=h
theorem zq98 {p:Prop} (h:p:=by
 have hsn:=d3w s k hlt;have HS:=qh hsn;clear hsn;have hc:=s[k].toNat_lt;generalize hg:P.sum (List.take k s)=g at *;have HG:=qh hg;clear hg;go_wp2
 go_round
 case rel=>exact⟨k+1,by omega,by go_num,by rw [HS.o];go_num⟩
 case measure=>simp [intOf];omega):p:=h
theorem zq99 {p:Prop} (h:p:=by
 exact⟨by rw [HF.o];rfl,bZ.alloc lZ _⟩):p:=h
theorem zq100 {p:Prop} (h:p:=by
 clear hj
 go_enter Tryz.func174,Tryz.ntmps174
 go_wp2_with (first|(go_at_call 242;refine (d6s _ _ oZ).mono ?_;rintro e w' ⟨rfl,rfl⟩)|(go_at_call 243;refine (l9Join _ _ _ hx hyl hy0).mono ?_;rintro e w' ⟨rfl,rfl⟩))
 go_ret2;exact⟨by rw [HJ.o];rfl,rfl⟩):p:=h
theorem d4t {p:Prop} (h:p:=by
 repeat (refine Below.setCell ?_ (by first|(simp;done)|(simp;omega)) _)
 exact HT.o.2.2.2):p:=h
theorem zq102 {p:Prop} (h:p:=by
 obtain⟨h1,h2,h3,h4,h5⟩:=h;exact⟨Nat.lt_of_lt_of_le h1 hc.size,(hc.cell (p:=⟨b,0,none⟩) h1 hX).trans h2,(hc.cell (p:=⟨b,1,none⟩) h1 hX).trans h3,(hc.frozen (p:=⟨b,0,none⟩) h1 hX).trans h4,(hc.frozen (p:=⟨b,1,none⟩) h1 hX).trans h5⟩):p:=h
theorem zq103 {p:Prop} (h:p:=by
 obtain⟨h1,h2,h3,h4,h5⟩:=h;exact⟨Nat.lt_of_lt_of_le h1 hb.size,(hb.cell (p:=⟨b,0,none⟩) h1).trans h2,(hb.cell (p:=⟨b,1,none⟩) h1).trans h3,(hb.frozen (p:=⟨b,0,none⟩) h1).trans h4,(hb.frozen (p:=⟨b,1,none⟩) h1).trans h5⟩):p:=h
theorem d8p {p:Prop} (h:p:=by
 go_wp2_with (go_at_call 275;refine (c4i _ _ hx).mono ?_;rintro e w' ⟨rfl,rfl⟩)
 go_meet;exact⟨by simp [*],HB5.o⟩):p:=h
theorem zq105 {p:Prop} (h:p:=by
 have f2:=d8l hj23 hl;have HK2:=qh ((P.c8g hj23 hl).symm.trans HK.o)
 go_wp2_with fail
 go_quiet (fail)
 go_wp2
 go_roundw
 case rel=>exact⟨j+1,by go_num,by omega,by omega,HK2.o,below_drewN HB1.o _⟩
 case measure=>simp [intOf];omega):p:=h
theorem zq106 {p:Prop} (h:p:=by
 refine wpAnyH_done kZ ?_ _;clear hS0 HS1 hS1 HLOW HHIGH hcmp HX HY HK0 HR HC HBV hnp hnq;go_wp2
 go_roundw
 case rel=>exact⟨h+1,j,by omega,by omega,hjb,by go_num,rfl,HQ.o,HRV.o,HCV.o⟩
 case measure=>simp [intOf];omega):p:=h
theorem d7r {p:Prop} (h:p:=by
 go_round
 case rel=>exact⟨k+1,by omega,by go_num,a6q k hlt HA.o HL.o⟩
 case measure=>simp [intOf];omega):p:=h
theorem zq108 {p:Prop} (h:p:=by
 refine wpAnyH_done kZ ?_ _;clear hS0 HS1 hS1 HLOW HHIGH hcmp HX HY HK0 HR HC HBV hnp hnq;go_wp2
 go_roundw
 case rel=>exact⟨i,h,hi1,hh1,by omega,rfl,rfl,HQ.o,HRV.o,HCV.o⟩
 case measure=>simp [intOf];omega):p:=h
theorem zq109 {p:Prop} (h:p:=by
 obtain⟨ad,cap,h1,h2,hn,h3⟩:=h;refine⟨ad,cap,h1,h2,hn,h3.imp id ?_⟩;rintro⟨g,o,h4,h5,h6⟩;exact⟨g,o,h4,Nat.lt_of_lt_of_le h5 hb.size,fun j hj=>(hb.cell (p:=⟨g,_,none⟩) h5).trans (h6 j hj)⟩):p:=h
theorem zq110 {p:Prop} (h:p:=by
 have hjl:j=l.length:=by omega
 subst hjl;have HM2:=qh (show its.map (·.2)=P.a1w t l by rw [HM.o,List.take_length]);go_wp2;go_ret2;exact⟨_,its,_,by rw [HD.o];rfl,by rw [HD.o];exact HM2.o,HI.o⟩):p:=h
theorem zq111 {p:Prop} (h:p:=by
 clear hown' hgrow;go_wp2
 go_roundw
 case rel=>
  repeat apply Exists.intro
  refine⟨?_,rfl⟩;exact⟨j+1,by omega,by go_num,by rw [HSN.o,HPA.o];exact R.o.1,R.o.2⟩
 case measure=>simp [intOf];omega):p:=h
theorem zq112 {p:Prop} (h:p:=by
 have i1:¬(k:Int)<(s.length:Int):=by omega
 have HE:=qh (show P.a1g s=P.a2f s k by unfold P.a1g;rw [show s.length=k by omega]);go_wp2;go_ret;exact⟨a1m (by rw [HE.o]),rfl⟩):p:=h
theorem zq113 {p:Prop} (h:p:=by
 exact a0y (ownsRow_setCell_below (ownsRow_setCell_below (ownsRow_setCell_below (ownsRow_setCell_below HO6.o (by simp<;>omega) _) (by simp<;>omega) _) (by simp<;>omega) _) (by simp<;>omega) _) oZ):p:=h
theorem zq114 {p:Prop} (h:p:=by
 left
 have:=P.c4n (l:=l) (j:=j-1) oZ (by rw [show j-1+1=j by omega];exact HR.o) (by simpa [show j-1+1=j by omega] using hc)
 rwa [show j-1+2=j+1 by omega]at this):p:=h
theorem zq115 {p:Prop} (h:p:=by
 obtain⟨ad,cap,h1,_,hn,h3⟩:=h
 cases ad with
 |none=>
  left
  rcases h3 with rfl|⟨_,_,h,_⟩
  ·rw [h1,hn rfl];rfl
  ·cases h
 |some a=>exact .inr ⟨a,_,_,h1⟩):p:=h
theorem zq116 {p:Prop} (h:p:=by
 clear hj
 go_enter Tryz.func143,Tryz.ntmps143
 go_wp2_with (go_at_call 214;refine (c9v _ _ oZ).mono ?_;rintro e w' ⟨rfl,rfl⟩)
 go_ret2;exact⟨by rw [HJ.o];rfl,Below.refl _ _⟩):p:=h
theorem zq117 {p:Prop} (h:p:=by
 have hj':j<l.length:=by simpa using hj
 have e:=World.ownsRow.cellAt h j oZ;rw [List.getElem?_eq_getElem hj]at e;rw [Nat.zero_add];exact⟨e,World.ownsRow.frozenAt h j⟩):p:=h
theorem zq118 {p:Prop} (h:p:=by
 clear hj
 go_enter Tryz.func174,Tryz.ntmps174
 go_wp2_with (go_at_call 242;refine (d6s _ _ oZ).mono ?_;rintro e w' ⟨rfl,rfl⟩)
 go_ret2;exact⟨by rw [HJ.o];rfl,rfl⟩):p:=h
theorem zq119 {p:Prop} (h:p:=by
 refine wpAnyH_done kZ ?_ _
 go_wp2_with fail
 go_meet;exact⟨v101.heap.size,v0.heap.size,va,vc,rfl,rfl,rfl,hbox1z,hbox2,HO_120.o,HBW121.o,by omega,by omega⟩):p:=h
theorem zq120 {p:Prop} (h:p:=by
 refine wpAnyH_done kZ ?_ _
 go_wp2_with fail
 go_meet;exact⟨v96.heap.size,v0.heap.size,va,vc,rfl,rfl,rfl,hbox1z,hbox2,HO_141.o,HBW142.o,by omega,by omega⟩):p:=h
theorem zq121 {p:Prop} (h:p:=by
 refine wpAnyH_done kZ ?_ _
 go_wp2_with fail
 go_meet;exact⟨v27.heap.size,v1.heap.size,va,vc,rfl,rfl,rfl,hbox1z,hbox2,HO_47.o,HBW48.o,by omega,by omega⟩):p:=h
theorem zq122 {p:Prop} (h:p:=by
 refine wpAnyH_done kZ ?_ _
 go_wp2_with fail
 go_meet;exact⟨v0.heap.size,v54.heap.size,va,vc,rfl,rfl,rfl,hbox1z,hbox2,HO_73.o,HBW74.o,by omega,by omega⟩):p:=h
theorem zq123 {p:Prop} (h:p:=by
 refine wpAnyH_done kZ ?_ _
 go_wp2_with fail
 go_meet;exact⟨v0.heap.size,v49.heap.size,va,vc,rfl,rfl,rfl,hbox1z,hbox2,HO_94.o,HBW95.o,by omega,by omega⟩):p:=h
theorem zq124 {p:Prop} (h:p:=by
 clear hown' hgrow;go_wp2
 go_roundw
 case rel=>
  exact⟨j+1,by omega,by go_num,by rw [HSN.o,HPA.o];exact R.o.1,HPC3.o,R.o.2⟩
 case measure=>simp [intOf];omega):p:=h
theorem zq125 {p:Prop} (h:p:=by
 refine wpAnyH_done kZ ?_ _
 go_wp2_with fail
 go_meet;exact⟨v1.heap.size,v5.heap.size,va,vc,rfl,rfl,rfl,hbox1z,hbox2,HO_25.o,HBW26.o,by omega,by omega⟩):p:=h
theorem zq126 {p:Prop} (h:p:=by
 rw [List.length_append]
 show _=flat _ l.length++(if l.length=l.length then cs else C l.length)
 rw [if_pos rfl,h0]
 congr 1
 exact b7g fun j hj=>(if_neg oZ).symm):p:=h
theorem zq127 {p:Prop} (h:p:=by
 go_wp2
 go_roundw
 case rel=>exact⟨j+1,_,true,by omega,by go_num,by first|rfl|(simp;rfl),rfl,HZ.o,by first|trivial|rfl⟩
 case measure=>simp [intOf];omega):p:=h
theorem zq128 {p:Prop} (h:p:=by
 go_enter Tryz.func344,Tryz.ntmps344
 go_wp2_with (go_at_call 343;refine (a4d _ _).mono ?_;rintro e w' ⟨rfl,rfl⟩)
 go_ret;exact⟨a0a (by rw [HC.o];rfl),rfl⟩):p:=h
theorem zq129 {p:Prop} (h:p:=by
 obtain⟨h1,_⟩:=a2o h;unfold scr at h1
 cases q:(dic d&&a2z t.1)
 ·rw [q]at h1;exact absurd h1 sZ
 ·simp only [Bool.and_eq_true]at q;exact q.1):p:=h
theorem zq130 {p:Prop} (h:p:=by
 go_wp2
 go_roundw
 case rel=>exact⟨j+1,(nx,scr),.slice va nx.length vc,by omega,by go_num,by rw [HN1.o,HRR.o];rfl,HT4.o⟩
 case measure=>simp [intOf];omega):p:=h
theorem d8q {p:Prop} (h:p:=by
 go_wp2;go_ret;exact⟨a0a HF.o.symm,bZ.alloc lZ _⟩):p:=h
theorem zq132 {p:Prop} (h:p:=by
 refine tk8 8 hS1 ?_;refine tk8 9 hS1 ?_;refine tk8 10 hS1 ?_;refine wpAnyH_done kZ ?_ _;clear hS1;go_wp2;go_ret2;exact⟨by rw [HLE.o,HR.o];rfl,HB5.o⟩):p:=h
theorem d9j {p:Prop} (h:p:=by
 go_wp2;go_ret;exact⟨(by first|(rw [HF.o];done)|(rw [HF.o];rfl)),HB.o⟩):p:=h
theorem zq134 {p:Prop} (h:p:=by
 have HT:=qh (show s.all P.prn=true by rw [←List.take_of_length_le (l:=s) (i:=k) oZ];exact HA.o);go_wp2;go_ret;exact⟨a0a HT.o.symm,rfl⟩):p:=h
theorem zq135 {p:Prop} (h:p:=by
 unfold P.c0a P.eoy
 cases decide (2≤x.length)<;>cases P.ends x [101]<;>cases P.ends x [101,101]<;>cases P.ends x [111,101]<;>cases P.ends x [121,101]<;>rfl):p:=h
theorem zq136 {p:Prop} (h:p:=by
 exact (((((HB1.o.setCell (by simp<;>omega) _).setCell (by simp<;>omega) _).setCell (by simp<;>omega) _).setCell (by simp<;>omega) _).setCell (by simp<;>omega) _)):p:=h
theorem zq137 {p:Prop} (h:p:=by
 have HP:=qh (HN2.o he);have f1:(P.fmt ((P.loose t).1:Int)==t)=false:=by simpa using he
 clear hok;go_wp2;go_ret2;exact⟨by rw [HP.o];rfl,HB2.o⟩):p:=h
theorem zq138 {p:Prop} (h:p:=by
 have f1:¬S r1=S t:=fun hx=>h (S_inj hx);have f2:decide (S r1=S t)=false:=decide_eq_false f1;go_wp2;go_ret;exact⟨by rw [HP.o];simp [h],HB1.o⟩):p:=h
theorem zq139 {p:Prop} (h:p:=by
 go_enter Tryz.func253,Tryz.ntmps253
 go_wp2
 all_goals
  go_ret
  exact⟨a0a (by simp [P.atom, *,Bool.or_assoc]),bZ.alloc lZ _⟩):p:=h
theorem zq140 {p:Prop} (h:p:=by
 rename_i hk;subst hk
 simp only [Bool.or_eq_true,beq_iff_eq]at h
 rcases h with rfl|rfl|rfl<;>exact⟨.inl dZ,by decide,by decide,by decide⟩):p:=h
theorem zq141 {p:Prop} (h:p:=by
 go_wp2
 go_roundw
 case rel=>exact⟨j+1,m2,by omega,.inl oZ,by go_num,HP.o,HSO.o,HRV.o,HCV.o⟩
 case measure=>simp [intOf];omega):p:=h
theorem zq142 {p:Prop} (h:p:=by
 have HP:=qh (show P.place o l = -1 from P.b1l fun k hk=>HN.o k oZ hk);clear hb;go_wp2;go_ret;exact⟨a1m HP.o.symm,HB.o⟩):p:=h
theorem zq143 {p:Prop} (h:p:=by
 clear hown hgr hf' hse HOW HLT HK HKE HPE HG HB1;go_wp2
 go_roundw
 case rel=>exact⟨_,a+k,f',by go_num,HG4.o⟩
 case measure=>simp [intOf];omega):p:=h
theorem zq144 {p:Prop} (h:p:=by
 go_wp2
 go_roundw
 case rel=>exact⟨0+1,by decide,rfl,fun _=>NE.o,fun h=>absurd h dZ,HTV.o,HRV.o,HV.o⟩
 case measure=>decide):p:=h
theorem zq145 {p:Prop} (h:p:=by
 go_wp2
 go_roundw
 case rel=>exact⟨1+1,by decide,rfl,fun _=>hb0 dZ,fun _=>NE.o,HTV.o,HRV.o,HV.o⟩
 case measure=>decide):p:=h
theorem zq146 {p:Prop} (h:p:=by
 go_round
 case rel=>exact⟨j+1,by omega,by go_num,by rw [HSN.o,List.all_append,HA.o];simp [HX.o]⟩
 case measure=>simp [intOf];omega):p:=h
theorem zq147 {p:Prop} (h:p:=by
 have HX:=qh hx;have HS:=qh hs;have HC:=qh hc;clear hx hs hc;go_wp2;go_meet;exact⟨r,ok,rfl,rfl,HX.o,HS.o,HC.o⟩):p:=h
theorem zq148 {p:Prop} (h:p:=by
 go_round
 case rel=>exact⟨1,by omega,by go_num,by rw [show (1:Nat)=0+1 from rfl,HZ.o];go_num⟩
 case measure=>simp [intOf];omega):p:=h
theorem zq149 {p:Prop} (h:p:=by
 go_wp2;go_ret2;exact⟨.slice ad out.length cp,by rw [←HRUN.o,HST.o];rfl,by rw [←HRUN.o,HST.o];exact HOWN.o,HBEL.o⟩):p:=h
theorem zq150 {p:Prop} (h:p:=by
 by_cases h:a=b
 ·subst h;simp
 ·rw [beq_eq_false_iff_ne.2 h,beq_eq_false_iff_ne];intro e;exact h (UInt8.toNat_inj.1 oZ)):p:=h
theorem zq151 {p:Prop} (h:p:=by
 refine Nat.le_of_not_lt fun hlt=>h ?_;have:=Nat.mul_le_mul_right t (show i+1≤q from hlt);rw [Nat.add_mul,Nat.one_mul]at this;omega):p:=h
theorem zq152 {p:Prop} (h:p:=by
 go_round
 case rel=>exact⟨1,by omega,by go_num,by rw [show (1:Nat)=0+1 from rfl,HZ.o]⟩
 case measure=>simp [intOf];omega):p:=h
theorem zq153 {p:Prop} (h:p:=by
 go_wp2_with (go_at_call 273;refine (a7l _ _).mono ?_;rintro e w' ⟨rfl,rfl⟩)
 go_meet;exact⟨_,rfl,by rw [HCY.o];rfl,rfl⟩):p:=h
theorem zq154 {p:Prop} (h:p:=by
 exact run_append_own (P:=P) w base t ty e i z size bytes ht hi hz hsize hby hzs hsz v n xs hown ad m c news hl hnews h1 h63 hbytes hbase):p:=h
theorem zq155 {p:Prop} (h:p:=by
 go_wp2
 first|go_end0|(refine bodyPost_ret (results_none rfl _ _ _) rfl ?_)
 exact⟨rfl,n,HSO.o.1,HSO.o.2,HR2.o,HC2.o⟩):p:=h
theorem zq156 {p:Prop} (h:p:=by
 rintro e w2 ⟨rfl,rfl⟩;rw [Bool.true_and]at HP;generalize P.a3k t=q at *;go_wp2;go_ret;exact⟨by rw [HP.o];rfl,HB.o⟩):p:=h
theorem zq157 {p:Prop} (h:p:=by
 obtain⟨rfl,rfl⟩:=hrel;go_wp2
 first|go_end0|(refine bodyPost_ret (results_none rfl _ _ _) rfl ?_)
 exact⟨rfl,HB.o⟩):p:=h
theorem zq158 {p:Prop} (h:p:=by
 rintro e w2 ⟨rfl,hb2⟩;have HBF:=qh (HB.o.trans (hb2.mono HBZ.o));clear hb2;go_wp2
 go_end0
 exact⟨rfl,HBF.o⟩):p:=h
theorem d8k {p:Prop} (h:p:=by
 clear hok;go_wp2;go_ret2;exact⟨by rw [HP.o];rfl,HB1.o⟩):p:=h
theorem d8z {p:Prop} (h:p:=by
 go_wp2;go_ret;exact⟨a0a (by rw [HF.o];rfl),HB.o⟩):p:=h
theorem zq161 {p:Prop} (h:p:=by
 rcases h.owns.2 with⟨rfl,h0⟩|⟨g,cap,cur,hv,_⟩
 ·exact⟨none,0,by rw [h0]⟩
 ·exact⟨_,cap,hv⟩):p:=h
theorem zq162 {p:Prop} (h:p:=by
 refine (Tryz.slices_Equal_int_empty _ _ _ _ _ w sZ).mono ?_;rintro e w' ⟨rfl,rfl⟩;exact⟨rfl,Below.refl _ _⟩):p:=h
theorem zq163 {p:Prop} (h:p:=by
 go_wp2
 go_round
 case rel=>exact⟨k+1,by omega,by go_num,by rw [HSN.o];rfl⟩
 case measure=>simp [intOf];omega):p:=h
theorem zq164 {p:Prop} (h:p:=by
 go_round
 case rel=>exact⟨m+1+1,by omega,by go_num,by rw [HZ.o];go_num⟩
 case measure=>simp [intOf];omega):p:=h
theorem zq165 {p:Prop} (h:p:=by
 have HPP:=qh (HP.o heo);rw [decide_eq_true heo];clear heo;go_wp2;go_ret;exact⟨a1m HPP.o.symm,HB1.o⟩):p:=h
theorem zq166 {p:Prop} (h:p:=by
 simp only [Value.ownBlock,Option.some.injEq]at h';subst h'
 rcases hat with h''|h''
 ·exact h5.2.2 h''
 ·omega):p:=h
theorem zq167 {p:Prop} (h:p:=by
 by_cases v1:a<r
 ·by_cases v2:r<c
  ·skip;have va:(a:Int)<(r:Int):=by omega
   have vb:(r:Int)<(c:Int):=by omega
   by_cases x1:c<en
   ·by_cases x2:en<b
    ·skip;have xa:(c:Int)<(en:Int):=by omega
     have xb:(en:Int)<(b:Int):=by omega
     have HM1:=qh ((a1v.refl its).congr (h:=roIx r m en) fun k=>(a6e oZ hr4 hr3 k).symm);have HR1:=qh HR.o;have HC1:=qh HC.o;obtain⟨hp1,hsp,hsa,hsb,hsc,hsd⟩:=HDONE.o _ HM1.o;have HP1:=qh hp1;have HSP:=qh hsp;have HSA:=qh hsa;have HSB:=qh hsb;have HSC:=qh hsc;have HSD:=qh hsd;clear hp1 hsp hsa hsb hsc hsd;have hcall:=HI.o its F g o cap a r c wr HBL.o.1 HR1.o oZ v1 v2 oZ HSA.o HSB.o;have HCALL2:=qh hcall;clear hcall
     go_wp2_with fail
     refine HCALL2.o.mono ?_;rintro e w2 ⟨rfl,n2,hp2,hs2,hrr,hcc⟩;have HR2:=qh hrr;have HC2:=qh (HC1.o.trans hcc);have HP2:=qh hp2;have HT2:=qh hs2;have hln2:n2.length=its.length:=hp2.len;clear hrr hcc hp2 hs2 HCALL2;have hcall:=HI.o n2 F g o cap c en b w2 HBL.o.2 HR2.o oZ x1 x2 oZ (HSC.o.same HP2.o (.inr lZ)) (HSD.o.same HP2.o (.inr oZ));rw [hln2]at hcall;exact d9n
    ·skip;have xa:(c:Int)<(en:Int):=by omega
     have xb:¬(en:Int)<(b:Int):=by omega
     have HM1:=qh ((a1v.refl its).congr (h:=roIx r m en) fun k=>(a6e oZ hr4 hr3 k).symm);have HR1:=qh HR.o;have HC1:=qh HC.o;obtain⟨hp1,hsp,hsa,hsb,hsc,hsd⟩:=HDONE.o _ HM1.o;have HP1:=qh hp1;have HSP:=qh hsp;have HSA:=qh hsa;have HSB:=qh hsb;have HSC:=qh hsc;have HSD:=qh hsd;clear hp1 hsp hsa hsb hsc hsd;have hcall:=HI.o its F g o cap a r c wr HBL.o.1 HR1.o oZ v1 v2 oZ HSA.o HSB.o;have HCALL2:=qh hcall;clear hcall
     go_wp2_with fail
     refine HCALL2.o.mono ?_;rintro e w2 ⟨rfl,n2,hp2,hs2,hrr,hcc⟩;have HR2:=qh hrr;have HC2:=qh (HC1.o.trans hcc);have HP2:=qh hp2;have HT2:=qh hs2;have hln2:n2.length=its.length:=hp2.len;clear hrr hcc hp2 hs2 HCALL2;have HP3:=qh (a0m.refl c b n2)
     have HT3:=qh (show a0c c b n2 from by
      have e1:en=b:=by omega
      have k:=HSC.o.same HP2.o (.inr lZ);rw [e1]at k;exact k)
     exact d8j
   ·skip;have xa:¬(c:Int)<(en:Int):=by omega
    have HM1:=qh ((a1v.refl its).congr (h:=roIx r m en) fun k=>(a6e oZ hr4 hr3 k).symm);have HR1:=qh HR.o;have HC1:=qh HC.o;obtain⟨hp1,hsp,hsa,hsb,hsc,hsd⟩:=HDONE.o _ HM1.o;have HP1:=qh hp1;have HSP:=qh hsp;have HSA:=qh hsa;have HSB:=qh hsb;have HSC:=qh hsc;have HSD:=qh hsd;clear hp1 hsp hsa hsb hsc hsd;have hcall:=HI.o its F g o cap a r c wr HBL.o.1 HR1.o oZ v1 v2 oZ HSA.o HSB.o;have HCALL2:=qh hcall;clear hcall
    go_wp2_with fail
    refine HCALL2.o.mono ?_;rintro e w2 ⟨rfl,n2,hp2,hs2,hrr,hcc⟩;have HR2:=qh hrr;have HC2:=qh (HC1.o.trans hcc);have HP2:=qh hp2;have HT2:=qh hs2;have hln2:n2.length=its.length:=hp2.len;clear hrr hcc hp2 hs2 HCALL2;have HP3:=qh (a0m.refl c b n2)
    have HT3:=qh (show a0c c b n2 from by
     have e1:en=c:=by omega
     have k:=HSD.o.same HP2.o (.inr oZ);rw [e1]at k;exact k)
    exact d8j
  ·skip;have va:(a:Int)<(r:Int):=by omega
   have vb:¬(r:Int)<(c:Int):=by omega
   by_cases x1:c<en
   ·by_cases x2:en<b
    ·skip;have xa:(c:Int)<(en:Int):=by omega
     have xb:(en:Int)<(b:Int):=by omega
     have HM1:=qh ((a1v.refl its).congr (h:=roIx r m en) fun k=>(a6e oZ hr4 hr3 k).symm);have HR1:=qh HR.o;have HC1:=qh HC.o;obtain⟨hp1,hsp,hsa,hsb,hsc,hsd⟩:=HDONE.o _ HM1.o;have HP1:=qh hp1;have HSP:=qh hsp;have HSA:=qh hsa;have HSB:=qh hsb;have HSC:=qh hsc;have HSD:=qh hsd;clear hp1 hsp hsa hsb hsc hsd;have HP2:=qh (a0m.refl a c its)
     have HT2:=qh (show a0c a c its from by
      have e1:r=c:=by omega
      rw [e1]at HSA;exact HSA.o)
     exact zq199
    ·skip;have xa:(c:Int)<(en:Int):=by omega
     have xb:¬(en:Int)<(b:Int):=by omega
     have HM1:=qh ((a1v.refl its).congr (h:=roIx r m en) fun k=>(a6e oZ hr4 hr3 k).symm);have HR1:=qh HR.o;have HC1:=qh HC.o;obtain⟨hp1,hsp,hsa,hsb,hsc,hsd⟩:=HDONE.o _ HM1.o;have HP1:=qh hp1;have HSP:=qh hsp;have HSA:=qh hsa;have HSB:=qh hsb;have HSC:=qh hsc;have HSD:=qh hsd;clear hp1 hsp hsa hsb hsc hsd;have HP2:=qh (a0m.refl a c its)
     have HT2:=qh (show a0c a c its from by
      have e1:r=c:=by omega
      rw [e1]at HSA;exact HSA.o)
     exact zq197
   ·skip;have xa:¬(c:Int)<(en:Int):=by omega
    have HM1:=qh ((a1v.refl its).congr (h:=roIx r m en) fun k=>(a6e oZ hr4 hr3 k).symm);have HR1:=qh HR.o;have HC1:=qh HC.o;obtain⟨hp1,hsp,hsa,hsb,hsc,hsd⟩:=HDONE.o _ HM1.o;have HP1:=qh hp1;have HSP:=qh hsp;have HSA:=qh hsa;have HSB:=qh hsb;have HSC:=qh hsc;have HSD:=qh hsd;clear hp1 hsp hsa hsb hsc hsd;have HP2:=qh (a0m.refl a c its)
    have HT2:=qh (show a0c a c its from by
     have e1:r=c:=by omega
     rw [e1]at HSA;exact HSA.o)
    exact zq198
 ·skip;have va:¬(a:Int)<(r:Int):=by omega
  by_cases x1:c<en
  ·by_cases x2:en<b
   ·skip;have xa:(c:Int)<(en:Int):=by omega
    have xb:(en:Int)<(b:Int):=by omega
    have HM1:=qh ((a1v.refl its).congr (h:=roIx r m en) fun k=>(a6e oZ hr4 hr3 k).symm);have HR1:=qh HR.o;have HC1:=qh HC.o;obtain⟨hp1,hsp,hsa,hsb,hsc,hsd⟩:=HDONE.o _ HM1.o;have HP1:=qh hp1;have HSP:=qh hsp;have HSA:=qh hsa;have HSB:=qh hsb;have HSC:=qh hsc;have HSD:=qh hsd;clear hp1 hsp hsa hsb hsc hsd;have HP2:=qh (a0m.refl a c its)
    have HT2:=qh (show a0c a c its from by
     have e1:r=a:=by omega
     rw [e1]at HSB;exact HSB.o)
    exact zq199
   ·skip;have xa:(c:Int)<(en:Int):=by omega
    have xb:¬(en:Int)<(b:Int):=by omega
    have HM1:=qh ((a1v.refl its).congr (h:=roIx r m en) fun k=>(a6e oZ hr4 hr3 k).symm);have HR1:=qh HR.o;have HC1:=qh HC.o;obtain⟨hp1,hsp,hsa,hsb,hsc,hsd⟩:=HDONE.o _ HM1.o;have HP1:=qh hp1;have HSP:=qh hsp;have HSA:=qh hsa;have HSB:=qh hsb;have HSC:=qh hsc;have HSD:=qh hsd;clear hp1 hsp hsa hsb hsc hsd;have HP2:=qh (a0m.refl a c its)
    have HT2:=qh (show a0c a c its from by
     have e1:r=a:=by omega
     rw [e1]at HSB;exact HSB.o)
    exact zq197
  ·skip;have xa:¬(c:Int)<(en:Int):=by omega
   have HM1:=qh ((a1v.refl its).congr (h:=roIx r m en) fun k=>(a6e oZ hr4 hr3 k).symm);have HR1:=qh HR.o;have HC1:=qh HC.o;obtain⟨hp1,hsp,hsa,hsb,hsc,hsd⟩:=HDONE.o _ HM1.o;have HP1:=qh hp1;have HSP:=qh hsp;have HSA:=qh hsa;have HSB:=qh hsb;have HSC:=qh hsc;have HSD:=qh hsd;clear hp1 hsp hsa hsb hsc hsd;have HP2:=qh (a0m.refl a c its)
   have HT2:=qh (show a0c a c its from by
    have e1:r=a:=by omega
    rw [e1]at HSB;exact HSB.o)
   exact zq198):p:=h
theorem zq168 {p:Prop} (h:p:=by
 exact d9n):p:=h
theorem d9g {p:Prop} (h:p:=by
 obtain⟨⟨o0,o1,o2,o3,o4,o5,o6⟩,_⟩:=HX1.o
 go_wp2_with fail
 refine (c7z _ _ l st sc d p n word more _ (HU.o.below HB1.o) (HUS.o.below HB1.o) hm HT.o hml).mono ?_;rintro e x2 ⟨nu,nus,rfl,hfe,hfi,hb⟩;have HEN:=qh (hfe.read (HU.o.below HB1.o) hb);have HIN:=qh (hfi.read (HUS.o.below HB1.o) hb);obtain⟨⟨⟨l2,⟨st2,sc2⟩⟩,rep⟩,ha⟩:∃a,P.a5k (l,(st,sc)) word more=a:=⟨_,rfl⟩;exact zq193):p:=h
theorem zq170 {p:Prop} (h:p:=by
 exact d8j):p:=h
theorem zq171 {p:Prop} (h:p:=by
 exact zq193):p:=h
theorem zq172 {p:Prop} (h:p:=by
 have HR3:=qh HR2.o;have HC3:=qh HC2.o;have HJ:=qh (merge_join HP1.o HSP.o HP2.o HT2.o HP3.o HT3.o (Nat.le_of_lt hmd1) (Nat.le_of_lt hmd2));go_wp2
 first|go_end0|(refine bodyPost_ret (results_none rfl _ _ _) rfl ?_)
 exact⟨rfl,n1,HJ.o.1,HJ.o.2,HR3.o,HC3.o⟩):p:=h
theorem zq173 {p:Prop} (h:p:=by
 go_wp2
 try rw [hV]
 clear hset hV;obtain⟨q0,q1,q2,q3,q4,q5,q6⟩:=HRV.o.1;refine bodyPost_ret (v:=.tuple #[a1e ((.slice ad l.length cap)) ((.slice sd st.length sap)) sc d p n,.string (S [63])]) (by simp [results,Tryz.results170,go_sem,q0,q1,q2,q3,q4,q5]) rfl ⟨(.slice ad l.length cap),(.slice sd st.length sap),by rw [HP.o];rfl,by rw [HP.o];exact .inl ⟨rfl,rfl⟩,by rw [HP.o];exact .inl ⟨rfl,rfl⟩,HBV.o⟩):p:=h
theorem d9l {p:Prop} (h:p:=by
 rintro e w2 hmp;obtain⟨x,ok,rfl,hx,hs,hc⟩:=hmp.after HB1.o;have HX:=qh hx;have HS:=qh hs;have HC:=qh hc;clear hmp hx hs hc;exact zq25):p:=h
theorem d9i {p:Prop} (h:p:=by
 go_enter Tryz.func70,Tryz.ntmps70
 go_wp2_with fail
 refine (b1j lo B l st sc d p n word more _ HSM.o hm HT.o hl HE.o).mono ?_;exact zq23):p:=h
theorem d9q {p:Prop} (h:p:=by
 intro i y hy
 match i,hy with
 |0,hy=>injection hy with hy;subst hy;rw [add0];go_simp
 |1,hy=>injection hy with hy;subst hy;rw [add0];go_simp):p:=h
theorem zq177 {p:Prop} (h:p:=by
 go_wp2;refine bodyPost_ret (v:=.tuple #[a0r (.slice none 0 0) [],a1c (0,[]),.bool false]) (by simp [a0r,a1c,k3,k4,k5,k6,results,Tryz.results207,go_sem]) rfl ⟨.slice none 0 0,by rw [HP.o];rfl,by rw [HP.o];exact World.ownsRow_nil _ _ _ _,?_⟩;exact zq55):p:=h
theorem zq178 {p:Prop} (h:p:=by
 go_wp2;refine bodyPost_ret (v:=.tuple #[a0r (.slice none 0 0) [],a1c (0,[]),.bool false]) (by simp [a0r,a1c,k3,k4,k5,k6,results,Tryz.results233,go_sem]) rfl ⟨.slice none 0 0,by rw [HP.o];rfl,by rw [HP.o];exact World.ownsRow_nil _ _ _ _,?_⟩;exact zq55):p:=h
theorem zq179 {p:Prop} (h:p:=by
 have hr3:r≤2^20:=by have:=HR.o oZ;omega
 have hr0:0≤r:=by omega
 by_cases hlt2:r-(t.length:Int)<0
 ·exact zq86
 ·go_wp2;go_ret;exact⟨⟨_,rfl,by omega,fun _=>by have:=HR.o hr0;omega⟩,HB1.o⟩):p:=h
theorem zq180 {p:Prop} (h:p:=by
 simp only [List.length_cons,List.length_nil,Nat.zero_add]at hback
 go_upto_region 8 with fail
 go_region
 all_goals
  go_wp2
  go_ret
  exact⟨a1p HC.o.symm,(bZ.alloc lZ _).drew⟩):p:=h
theorem zq181 {p:Prop} (h:p:=by
 have HZ:=qh (show P.fmt m=(out++(P.labels.drop k).take 1)++P.fmtM true hy ((P.a3i (m:Int) 23).drop (j+1)) by rw [HI.o,HD.o,P.a8e (.inr (.inl rfl)),HLT.o];simp);exact zq52):p:=h
theorem d8g {p:Prop} (h:p:=by
 revert HRn;revert HLn;revert yc;revert ya;revert xc;revert xa;revert b3;revert b2;revert v9;exact k1011):p:=h
theorem d7y {p:Prop} (h:p:=by
 revert HRn;revert HLn;revert yc;revert ya;revert xc;revert xa;revert b3;revert b1;revert v9;exact k1101):p:=h
theorem d9f {p:Prop} (h:p:=by
 revert HRn;revert HLn;revert yc;revert ya;revert xc;revert xa;revert b2;revert b1;revert v9;exact k1110):p:=h
theorem d7n {p:Prop} (h:p:=by
 simp only [List.mem_cons,List.not_mem_nil,or_false]at hy
 rcases hy with rfl|rfl<;>rfl):p:=h
theorem zq186 {p:Prop} (h:p:=by
 exact (((((HB4.o.setCell (by simp<;>omega) _).setCell (by simp<;>omega) _).setCell (by simp<;>omega) _).setCell (by simp<;>omega) _).setCell (by simp<;>omega) _)):p:=h
theorem zq187 {p:Prop} (h:p:=by
 have HZ:=qh (HN.o rfl);clear HY HN
 go_wp2_with (go_at_call 343;refine (a4d _ _).mono ?_;rintro e w' ⟨rfl,rfl⟩)
 exact zq85):p:=h
theorem zq188 {p:Prop} (h:p:=by
 have HZ:=qh (HN.o rfl);clear HY HN
 go_wp2_with (go_at_call 273;refine (a7l _ _).mono ?_;rintro e w' ⟨rfl,rfl⟩)
 exact zq85):p:=h
theorem zq189 {p:Prop} (h:p:=by
 go_wp2
 go_roundw
 case rel=>exact⟨h+1,by omega,by omega,by go_num,rfl,HB2.o⟩
 case measure=>simp [intOf];omega):p:=h
theorem d9n {p:Prop} (h:p:=by
 have HCALL3:=qh hcall;clear hcall
 go_wp2_with fail
 refine HCALL3.o.mono ?_;rintro e w3 ⟨rfl,n3,hp3,hs3,hrr,hcc⟩;have HR3:=qh hrr;have HC3:=qh (HC2.o.trans hcc);have HP3:=qh hp3;have HT3:=qh hs3;clear hrr hcc hp3 hs3 HCALL3;have HJ:=qh (merge_join HP1.o HSP.o HP2.o HT2.o HP3.o HT3.o (Nat.le_of_lt hmd1) (Nat.le_of_lt hmd2));go_wp2
 first|go_end0|(refine bodyPost_ret (results_none rfl _ _ _) rfl ?_)
 exact⟨rfl,n3,HJ.o.1,HJ.o.2,HR3.o,HC3.o⟩):p:=h
theorem zq191 {p:Prop} (h:p:=by
 have HR3:=qh HR2.o;have HC3:=qh HC2.o;have HJ:=qh (merge_join HP1.o HSP.o HP2.o HT2.o HP3.o HT3.o (Nat.le_of_lt hmd1) (Nat.le_of_lt hmd2));go_wp2
 first|go_end0|(refine bodyPost_ret (results_none rfl _ _ _) rfl ?_)
 exact⟨rfl,its,HJ.o.1,HJ.o.2,HR3.o,HC3.o⟩):p:=h
theorem d8j {p:Prop} (h:p:=by
 have HR3:=qh HR2.o;have HC3:=qh HC2.o;have HJ:=qh (merge_join HP1.o HSP.o HP2.o HT2.o HP3.o HT3.o (Nat.le_of_lt hmd1) (Nat.le_of_lt hmd2));go_wp2
 first|go_end0|(refine bodyPost_ret (results_none rfl _ _ _) rfl ?_)
 exact⟨rfl,n2,HJ.o.1,HJ.o.2,HR3.o,HC3.o⟩):p:=h
theorem zq193 {p:Prop} (h:p:=by
 rw [ha]at HP hfe hfi HEN HIN⊢;simp only at hfe hfi HEN HIN⊢;clear ha;obtain⟨na,nc,rfl,_,_⟩:=id HEN.o;obtain⟨ma,mc,rfl,_,_⟩:=id HIN.o;have HR9:=qh (HR1.o.below hb);have HB9:=bt HB1 hb;have HFE:=qh hfe;have HFI:=qh hfi;exact zq1):p:=h
theorem zq194 {p:Prop} (h:p:=by
 have HR2:=qh HR1.o;have HC2:=qh HC1.o;have hln2:n1.length=its.length:=hln1;have HP3:=qh (a0m.refl c b n1)
 have HT3:=qh (show a0c c b n1 from by
  have e1:en=b:=by omega
  have k:=HSC.o.same HP2.o (.inr lZ);rw [e1]at k;exact k)
 exact zq172):p:=h
theorem zq195 {p:Prop} (h:p:=by
 have HR2:=qh HR1.o;have HC2:=qh HC1.o;have hln2:n1.length=its.length:=hln1;have HP3:=qh (a0m.refl c b n1)
 have HT3:=qh (show a0c c b n1 from by
  have e1:en=c:=by omega
  have k:=HSD.o.same HP2.o (.inr oZ);rw [e1]at k;exact k)
 exact zq172):p:=h
theorem zq196 {p:Prop} (h:p:=by
 have HR2:=qh HR1.o;have HC2:=qh HC1.o;have hln2:n1.length=its.length:=hln1;have hcall:=HI.o n1 F g o cap c en b w1 HBL.o.2 HR2.o oZ x1 x2 oZ (HSC.o.same HP2.o (.inr lZ)) (HSD.o.same HP2.o (.inr oZ));rw [hln2]at hcall;exact zq168):p:=h
theorem zq197 {p:Prop} (h:p:=by
 have HR2:=qh HR1.o;have HC2:=qh HC1.o;have HP3:=qh (a0m.refl c b its)
 have HT3:=qh (show a0c c b its from by
  have e1:en=b:=by omega
  have k:=HSC.o.same HP2.o (.inr lZ);rw [e1]at k;exact k)
 exact zq191):p:=h
theorem zq198 {p:Prop} (h:p:=by
 have HR2:=qh HR1.o;have HC2:=qh HC1.o;have HP3:=qh (a0m.refl c b its)
 have HT3:=qh (show a0c c b its from by
  have e1:en=c:=by omega
  have k:=HSD.o.same HP2.o (.inr oZ);rw [e1]at k;exact k)
 exact zq191):p:=h
theorem zq199 {p:Prop} (h:p:=by
 have HR2:=qh HR1.o;have HC2:=qh HC1.o;have hcall:=HI.o its F g o cap c en b wr HBL.o.2 HR2.o oZ x1 x2 oZ (HSC.o.same HP2.o (.inr lZ)) (HSD.o.same HP2.o (.inr oZ));exact d9n):p:=h
end Go.Proofs.YtggfdnopminemaaGreatDoor
