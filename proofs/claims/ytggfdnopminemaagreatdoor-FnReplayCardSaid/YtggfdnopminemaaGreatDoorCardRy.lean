/- The log of a session, and every recovered prefix of it, replays without a difference: the law answers true for every code. No condition of its own; the card ties the listed library variables to the program's text. -/
import Derived.Test.YtggfdnopminemaaGreatDoorZt
import Derived.Test.YtggfdnopminemaaGreatDoorWitQ
import Derived.Test.YtggfdnopminemaaGreatDoorCardRyc
set_option linter.all false
namespace Go.Proofs.YtggfdnopminemaaGreatDoor.fnReplay
open Go Go.RowKit Go.ChangeShapes Go.WideShapes Go.ChangeAt Go.Joins
set_option maxRecDepth 100000 in
theorem contract (H:Type) (enc:TypeId×Value->H) (W:World) (base:Nat) (args:Array Value) (ds gs:List (DataW H)) (before:List MemPlace)
 (hval:∀(j:Nat) t v,Tryz.f3.params[j]?=some t->args[j]?=some v->Value.okWide Tryz.prog W .any base t v)
 (hW:DataW.Whole enc Tryz.prog Tryz.f3.params.toList Rows.fnReplaySpec.vars false W args.toList ds gs before) (hE:L.Env W) :
 Calls Tryz.prog 3 args W λe W'=>∃v,e=.returned v/\Rows.fnReplaySpec.post enc Tryz.prog Tryz.f3 false true false false W args v W':=by
 have hW':=hW
 obtain⟨p,q,hA0,hV,rfl,hfz,hnd⟩:=hW
 have hA:DataW.TrodAll enc Tryz.prog W 0 (λ_=>true) true Tryz.f3.params.toList args.toList ds p:=hA0
 rw [Tryz.params3]at hA hval
 obtain⟨v0,d0,rfl,rfl,h0⟩:=trodAll_one hA
 have hc0:=e4b (hval 0 22 v0 rfl rfl) h0
 refine (c6s v0 W hc0 hE).mono λe W' ⟨he,hb⟩=>?_
 subst he
 exact⟨_,rfl,e0c laidOut (by rw [Tryz.params3];intro t ht;simp at ht;subst ht;exact⟨by kernel_rfl,of_decide_eq_true kZ⟩) (tb:=4) kZ boolT rfl rfl hW' hb⟩
def witArgs:Array Value:=#[.slice none 0 0]
theorem laid_met (os:Os):laidMet Tryz.prog Rows.fnReplayRow.laid ((laidWorldQ os).forCall (λ_ _=>0) ⟨#[],witArgs,[]⟩).memory:=
 laidMet_of_run' 8 kZ kZ
theorem reads (os:Os) {H:Type} (enc:TypeId×Value->H):∃places,DataW.whole enc Tryz.prog ((laidWorldQ os).forCall (λ_ _=>0) ⟨#[],witArgs,[]⟩).memory Tryz.f3.params.toList Rows.fnReplaySpec.vars false witArgs.toList 8=some ([.nil],[],places):=
 ⟨[],by kernel_rfl⟩
set_option maxRecDepth 100000 in
theorem lifted (os:Os) (started:os.Started) (H:Type) (enc:TypeId×Value->H) (F:Stop.Interp) :
 ReturnsInHanded {} Tryz.checked os 3 .any ((OpenSpec.ofChange Rows.fnReplaySpec).preRow enc Tryz.prog Tryz.f3 Rows.fnReplayRow.domain false Rows.fnReplayRow.laid) (((OpenSpec.ofChange Rows.fnReplaySpec).at F).post enc Tryz.prog Tryz.f3 false true false false):=by
 obtain⟨places,hx⟩:=reads os enc
 refine returnsInHanded_of_row (C:=Tryz.checked) (s:=OpenSpec.ofChange Rows.fnReplaySpec) own started kZ Tryz.func3
  (witness_row_at (enc:=enc) (C:=Tryz.checked) false (laidWorldQ os) witArgs rfl kZ kZ kZ
   (OpenSpec.preRow_of_cond 8 hx kZ (λk hk=>by cases hk) kZ (laid_met os))) ?_
 intro W base args ds gs before hval hW _ _ _ hL hsh _
 exact contract H enc W base args ds gs before hval hW (e2y hsh hL)
theorem said:Rows.FnReplaySaid:=
 OpenClaim.holds_of_cond 3 Tryz.f3 rfl rfl rfl rfl rfl rfl rfl ⟨rfl,rfl,rfl,rfl,rfl⟩ rfl rfl rfl rfl rfl kZ Tryz.func3 closed
  (of_decide_eq_true kZ) (by unfold Func.isWrapper;first|(rw [if_pos (by decide +kernel)];kernel_rfl)|(rw [if_neg (by decide +kernel)];exact⟨rfl,rfl⟩))
  (λos started H enc _ F=>by rw [OpenClaim.pre_eq_preRow];exact lifted os started H enc F)
end Go.Proofs.YtggfdnopminemaaGreatDoor.fnReplay
