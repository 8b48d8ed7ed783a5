/- What the row holds of the program's text. -/
import Derived.Test.YtggfdnopminemaaGreatDoorZt
import Derived.Test.YtggfdnopminemaaGreatDoorCards
import Derived.Test.YtggfdnopminemaaGreatDoorTie
set_option linter.all false
namespace Go.Proofs.YtggfdnopminemaaGreatDoor.fnReplay
open Go Go.RowKit Go.ChangeShapes Go.WideShapes Go.ChangeAt Go.Joins
set_option maxHeartbeats 8000000 in
set_option maxRecDepth 100000 in
theorem closed:joinedFacts Tryz.pinned.checked.prog 3 Tryz.f3 (OpenSpec.ofChange Rows.fnReplaySpec).bare Rows.fnReplayRow=true:=by
 unfold joinedFacts;simp only [Bool.and_eq_true]
 with_reducible repeat' apply And.intro
 all_goals (as_aux_lemma=>kernel_rfl)
theorem plain (f:FuncId) (fn:Func) (hf:Tryz.pinned.checked.prog.funcNamed Rows.fnReplayRow.func=some f) (hfn:Tryz.pinned.checked.prog.funcs[f]?=some fn) :
 true=Tryz.pinned.checked.prog.looks []/\∀(j:Nat) t,fn.params[j]?=some t->Tryz.pinned.checked.prog.wantsStandIn t=false:=by
 obtain rfl:f=3:=Option.some.inj ((show Tryz.prog.funcNamed Rows.fnReplayRow.func=some 3 by kernel_rfl).symm.trans hf) |>.symm
 obtain rfl:fn=Tryz.f3:=(Option.some.inj (Tryz.func3.symm.trans hfn)).symm
 refine⟨by kernel_rfl,λj t ht=>?_⟩
 rw [Tryz.params3]at ht
 have hm:t=22:=by simpa using Array.mem_of_getElem? ht
 subst hm
 exact (show Tryz.prog.wantsStandIn 22=false by kernel_rfl)
end Go.Proofs.YtggfdnopminemaaGreatDoor.fnReplay
