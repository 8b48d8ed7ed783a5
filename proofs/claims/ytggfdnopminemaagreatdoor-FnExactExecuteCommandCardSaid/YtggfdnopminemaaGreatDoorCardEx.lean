/- ExecuteCommand of the program returns what the reference's returns, for all arguments. No condition of its own; the card ties the listed library variables to the program's text. -/
import Derived.Test.YtggfdnopminemaaGreatDoorZt
import Derived.Test.YtggfdnopminemaaGreatDoorSesR3
import Derived.Test.YtggfdnopminemaaGreatDoorWitQ
import Derived.Test.YtggfdnopminemaaGreatDoorCardExc
namespace Go.Proofs.YtggfdnopminemaaGreatDoor.fnExactExecuteCommand
open Go Go.RowKit Go.ChangeShapes Go.WideShapes Go.ChangeAt Go.Joins
set_option maxRecDepth 100000 in
theorem contract (H:Type) (enc:TypeId×Value→H) (W:World) (base:Nat) (args:Array Value) (ds gs:List (DataW H)) (before:List MemPlace)
 (hval:∀(j:Nat) t v,Tryz.f6.params[j]?=some t→args[j]?=some v→Value.okWide Tryz.prog W .any base t v)
 (hW:DataW.Whole enc Tryz.prog Tryz.f6.params.toList Rows.fnExactExecuteCommandSpec.vars false W args.toList ds gs before) (hE:L.Env W) :
 Calls Tryz.prog 6 args W fun e W'=>∃v,e=.returned v∧Rows.fnExactExecuteCommandSpec.post enc Tryz.prog Tryz.f6 false true false false W args v W':=by
 have hW':=hW
 obtain⟨p,q,hA0,hV,rfl,hfz,hnd⟩:=hW
 have hA:DataW.TrodAll enc Tryz.prog W 0 (fun _=>true) true Tryz.f6.params.toList args.toList ds p:=hA0
 rw [Tryz.params6]at hA hval
 obtain⟨v0,v1,d0,d1,p0,p1,rfl,rfl,rfl,h0,h1⟩:=trodAll_two hA
 obtain⟨s,sus,sl,sst,ssc,sd,sp,sn,rfl,hd0,ht0,hs0,hc0,hx0,hy0⟩:=d7v (hval 0 73 v0 rfl rfl) h0
 obtain⟨tb,rfl,rfl,rfl,wk1⟩:=Go.ChangeMaps.open_string Tryz.underlying9 (hval 1 9 v1 rfl rfl) h1
 obtain⟨t,rfl⟩:=b0h tb
 rw [S_size]at wk1
 refine (c3p s sus sl sst ssc sd sp sn t W hd0 ht0 hs0 hc0 hx0 hy0 wk1 hE).mono fun e W' ⟨he,hb⟩=>?_
 subst he
 exact⟨_,rfl,d4y laidOut (by rw [Tryz.params6];intro t ht;simp at ht;rcases ht with rfl|rfl<;>exact⟨by kernel_rfl,of_decide_eq_true kZ⟩) (tb:=4) kZ boolT rfl rfl hW' hb⟩
def witArgs:Array Value:=#[.agg #[.slice none 0 0,.slice none 0 0,.string ⟨#[]⟩,.string ⟨#[]⟩,.string ⟨#[]⟩,.int .i64 0],.string ⟨#[]⟩]
theorem laid_met (os:Os):laidMet Tryz.prog Rows.fnExactExecuteCommandRow.laid ((laidWorldQ os).forCall (fun _ _=>0) ⟨#[],witArgs,[]⟩).memory:=
 laidMet_of_run' 8 kZ kZ
theorem reads (os:Os) {H:Type} (enc:TypeId×Value→H):∃places,DataW.whole enc Tryz.prog ((laidWorldQ os).forCall (fun _ _=>0) ⟨#[],witArgs,[]⟩).memory Tryz.f6.params.toList Rows.fnExactExecuteCommandSpec.vars false witArgs.toList 8=some ([.agg [.agg [.nil],.agg [.nil,.lit (.string [])],.agg [.lit (.string []),.lit (.string []),.lit (.int .i64 0)]],.lit (.string [])],[],places):=
 ⟨[],by kernel_rfl⟩
set_option maxRecDepth 100000 in
theorem lifted (os:Os) (started:os.Started) (H:Type) (enc:TypeId×Value→H) (F:Stop.Interp) :
 ReturnsInHanded {} Tryz.checked os 6 .any ((OpenSpec.ofChange Rows.fnExactExecuteCommandSpec).preRow enc Tryz.prog Tryz.f6 Rows.fnExactExecuteCommandRow.domain false Rows.fnExactExecuteCommandRow.laid) (((OpenSpec.ofChange Rows.fnExactExecuteCommandSpec).at F).post enc Tryz.prog Tryz.f6 false true false false):=by
 obtain⟨places,hx⟩:=reads os enc
 refine returnsInHanded_of_row (C:=Tryz.checked) (s:=OpenSpec.ofChange Rows.fnExactExecuteCommandSpec) own started kZ Tryz.func6
  (witness_row_at (enc:=enc) (C:=Tryz.checked) false (laidWorldQ os) witArgs rfl kZ kZ kZ
   (OpenSpec.preRow_of_cond 8 hx kZ (fun k hk=>by cases hk) kZ (laid_met os))) ?_
 intro W base args ds gs before hval hW _ _ _ hL hsh _
 exact contract H enc W base args ds gs before hval hW (d7p hsh hL)
theorem said:Rows.FnExactExecuteCommandSaid:=
 OpenClaim.holds_of_cond 6 Tryz.f6 rfl rfl rfl rfl rfl rfl rfl ⟨rfl,rfl,rfl,rfl,rfl⟩ rfl rfl rfl rfl rfl kZ Tryz.func6 closed
  (of_decide_eq_true kZ) (by unfold Func.isWrapper;first|(rw [if_pos (by decide +kernel)];kernel_rfl)|(rw [if_neg (by decide +kernel)];exact⟨rfl,rfl⟩))
  (fun os started H enc _ F=>by rw [OpenClaim.pre_eq_preRow];exact lifted os started H enc F)
end Go.Proofs.YtggfdnopminemaaGreatDoor.fnExactExecuteCommand
