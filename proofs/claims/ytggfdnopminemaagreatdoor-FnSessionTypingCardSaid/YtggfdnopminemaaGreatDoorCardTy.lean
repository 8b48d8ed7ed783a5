/- Typing outlines in a session shows the screen of a fresh translation, and the replies are the edits that lead to it: the law answers true for every code. No condition of its own; the card ties the listed library variables to the program's text. -/
import Derived.Test.YtggfdnopminemaaGreatDoorZt
import Derived.Test.YtggfdnopminemaaGreatDoorWitE
import Derived.Test.YtggfdnopminemaaGreatDoorCardTyc
set_option linter.all false
namespace Go.Proofs.YtggfdnopminemaaGreatDoor.fnSessionTyping
open Go Go.RowKit Go.ChangeShapes Go.WideShapes Go.ChangeAt Go.Joins
set_option maxRecDepth 100000 in
theorem contract (H:Type) (enc:TypeId×Value→H) (W:World) (base:Nat) (args:Array Value) (ds gs:List (DataW H)) (before:List MemPlace)
 (hval:∀(j:Nat) t v,Tryz.f4.params[j]?=some t→args[j]?=some v→Value.okWide Tryz.prog W .any base t v)
 (hW:DataW.Whole enc Tryz.prog Tryz.f4.params.toList Rows.fnSessionTypingSpec.vars false W args.toList ds gs before) (hE:L.Env W) (hS:ErrS W) :
 Calls Tryz.prog 4 args W fun e W'=>∃v,e=.returned v∧Rows.fnSessionTypingSpec.post enc Tryz.prog Tryz.f4 false true false false W args v W':=by
 have hW':=hW
 obtain⟨p,q,hA0,hV,rfl,hfz,hnd⟩:=hW
 have hA:DataW.TrodAll enc Tryz.prog W 0 (fun _=>true) true Tryz.f4.params.toList args.toList ds p:=hA0
 rw [Tryz.params4]at hA hval
 obtain⟨v0,d0,rfl,rfl,h0⟩:=trodAll_one hA
 have hc0:=d3r (hval 0 22 v0 rfl rfl) h0
 refine (c4m v0 W hc0 hE hS).mono fun e W' ⟨he,hb⟩=>?_
 subst he
 exact⟨_,rfl,d1s laidOut (by rw [Tryz.params4];intro t ht;simp at ht;subst ht;exact⟨by kernel_rfl,of_decide_eq_true kZ⟩) (tb:=4) kZ boolT rfl rfl hW' hb⟩
def witArgs:Array Value:=#[.slice none 0 0]
theorem laid_met (os:Os):laidMet Tryz.prog Rows.fnSessionTypingRow.laid ((laidWorldE os).forCall (fun _ _=>0) ⟨#[],witArgs,[]⟩).memory:=
 laidMet_of_run' 8 kZ kZ
theorem reads (os:Os) {H:Type} (enc:TypeId×Value→H):∃places,DataW.whole enc Tryz.prog ((laidWorldE os).forCall (fun _ _=>0) ⟨#[],witArgs,[]⟩).memory Tryz.f4.params.toList Rows.fnSessionTypingSpec.vars false witArgs.toList 8=some ([.nil],[],places):=
 ⟨[],by kernel_rfl⟩
set_option maxRecDepth 100000 in
theorem lifted (os:Os) (started:os.Started) (H:Type) (enc:TypeId×Value→H) (F:Stop.Interp) :
 ReturnsInHanded {} Tryz.checked os 4 .any ((OpenSpec.ofChange Rows.fnSessionTypingSpec).preRow enc Tryz.prog Tryz.f4 Rows.fnSessionTypingRow.domain false Rows.fnSessionTypingRow.laid) (((OpenSpec.ofChange Rows.fnSessionTypingSpec).at F).post enc Tryz.prog Tryz.f4 false true false false):=by
 obtain⟨places,hx⟩:=reads os enc
 refine returnsInHanded_of_row (C:=Tryz.checked) (s:=OpenSpec.ofChange Rows.fnSessionTypingSpec) own started kZ Tryz.func4
  (witness_row_at (enc:=enc) (C:=Tryz.checked) false (laidWorldE os) witArgs rfl kZ kZ kZ
   (OpenSpec.preRow_of_cond 8 hx kZ (fun k hk=>by cases hk) kZ (laid_met os))) ?_
 intro W base args ds gs before hval hW _ _ _ hL hsh _
 exact contract H enc W base args ds gs before hval hW (d4g hsh hL) (d5i hL)
theorem said:Rows.FnSessionTypingSaid:=
 OpenClaim.holds_of_cond 4 Tryz.f4 rfl rfl rfl rfl rfl rfl rfl ⟨rfl,rfl,rfl,rfl,rfl⟩ rfl rfl rfl rfl rfl kZ Tryz.func4 closed
  (of_decide_eq_true kZ) (by unfold Func.isWrapper;first|(rw [if_pos (by decide +kernel)];kernel_rfl)|(rw [if_neg (by decide +kernel)];exact⟨rfl,rfl⟩))
  (fun os started H enc _ F=>by rw [OpenClaim.pre_eq_preRow];exact lifted os started H enc F)
end Go.Proofs.YtggfdnopminemaaGreatDoor.fnSessionTyping
