/- What the row holds of the program's text. -/
import Derived.Test.YtggfdnopminemaaGreatDoorZt
import Derived.Test.YtggfdnopminemaaGreatDoorCards
import Derived.Test.YtggfdnopminemaaGreatDoorTie
namespace Go.Proofs.YtggfdnopminemaaGreatDoor.fnExactReplayLog
open Go Go.RowKit Go.ChangeShapes Go.WideShapes Go.ChangeAt Go.Joins
set_option maxHeartbeats 8000000 in
set_option maxRecDepth 100000 in
theorem closed:joinedFacts Tryz.pinned.checked.prog 5 Tryz.f5 (OpenSpec.ofChange Rows.fnExactReplayLogSpec).bare Rows.fnExactReplayLogRow=true:=by
 unfold joinedFacts;simp only [Bool.and_eq_true]
 with_reducible repeat' apply And.intro
 all_goals (as_aux_lemma=>kernel_rfl)
theorem plain (f:FuncId) (fn:Func) (hf:Tryz.pinned.checked.prog.funcNamed Rows.fnExactReplayLogRow.func=some f) (hfn:Tryz.pinned.checked.prog.funcs[f]?=some fn) :
 true=Tryz.pinned.checked.prog.looks []∧∀(j:Nat) t,fn.params[j]?=some t→Tryz.pinned.checked.prog.wantsStandIn t=false:=by
 obtain rfl:f=5:=Option.some.inj ((show Tryz.prog.funcNamed Rows.fnExactReplayLogRow.func=some 5 by kernel_rfl).symm.trans hf) |>.symm
 obtain rfl:fn=Tryz.f5:=(Option.some.inj (Tryz.func5.symm.trans hfn)).symm
 refine⟨by kernel_rfl,fun j t ht=>?_⟩
 rw [Tryz.params5]at ht
 have hm:t=63∨t=64:=by simpa using Array.mem_of_getElem? ht
 rcases hm with rfl|rfl
 ·exact (show Tryz.prog.wantsStandIn 63=false by kernel_rfl)
 ·exact (show Tryz.prog.wantsStandIn 64=false by kernel_rfl)
end Go.Proofs.YtggfdnopminemaaGreatDoor.fnExactReplayLog
