/- ReplayLog of the program returns what the reference's returns, for all arguments. No condition of its own; the card ties the listed library variables to the program's text. -/
import Derived.Test.YtggfdnopminemaaGreatDoorZt
import Derived.Test.YtggfdnopminemaaGreatDoorSesE2
import Derived.Test.YtggfdnopminemaaGreatDoorWitQ
import Derived.Test.YtggfdnopminemaaGreatDoorCardRLc
namespace Go.Proofs.YtggfdnopminemaaGreatDoor.fnExactReplayLog
open Go Go.RowKit Go.ChangeShapes Go.WideShapes Go.ChangeAt Go.Joins
set_option maxRecDepth 100000 in
theorem contract (H:Type) (enc:TypeId×Value→H) (W:World) (base:Nat) (args:Array Value) (ds gs:List (DataW H)) (before:List MemPlace)
 (hval:∀(j:Nat) t v,Tryz.f5.params[j]?=some t→args[j]?=some v→Value.okWide Tryz.prog W .any base t v)
 (hW:DataW.Whole enc Tryz.prog Tryz.f5.params.toList Rows.fnExactReplayLogSpec.vars false W args.toList ds gs before) (hE:L.Env W) :
 Calls Tryz.prog 5 args W fun e W'=>∃v,e=.returned v∧Rows.fnExactReplayLogSpec.post enc Tryz.prog Tryz.f5 false true false false W args v W':=by
 have hW':=hW
 obtain⟨p,q,hA0,hV,rfl,hfz,hnd⟩:=hW
 have hA:DataW.TrodAll enc Tryz.prog W 0 (fun _=>true) true Tryz.f5.params.toList args.toList ds p:=hA0
 rw [Tryz.params5]at hA hval
 obtain⟨v0,v1,d0,d1,p0,p1,rfl,rfl,rfl,h0,h1⟩:=trodAll_two hA
 obtain⟨d,dl,rfl,hd0,ht0⟩:=dict_of (hval 0 63 v0 rfl rfl) h0
 obtain⟨c10,c11,c12,y10,y11,y12,n1,rfl,rfl,rfl,r10,r11,r12⟩:=open_agg3 Tryz.underlying64 kZ kZ (hval 1 64 v1 rfl rfl) h1
 obtain⟨s10,e10,rfl,w10⟩:=DataW.trod_string Tryz.underlying9 r10
 obtain⟨s11,e11,rfl,w11⟩:=DataW.trod_string Tryz.underlying9 r11
 obtain⟨g2,e12,rfl,w12⟩:=DataW.trod_int Tryz.underlying3 r12
 simp only [List.cons.injEq,and_true]at e10 e11 e12
 subst e10 e11 e12
 obtain⟨g0,rfl⟩:=exists_S s10
 rw [S_size]at w10
 obtain⟨g1,rfl⟩:=exists_S s11
 rw [S_size]at w11
 refine (law_replayLog d dl g0 g1 g2 W hd0 ht0 w10 w11 hE).mono fun e W' ⟨he,hb⟩=>?_
 subst he
 exact⟨_,rfl,law_post laidOut (by rw [Tryz.params5];intro t ht;simp at ht;rcases ht with rfl|rfl<;>exact⟨by kernel_rfl,of_decide_eq_true kZ⟩) (tb:=4) kZ boolT rfl rfl hW' hb⟩
def witArgs:Array Value:=#[.agg #[.slice none 0 0],.agg #[.string ⟨#[]⟩,.string ⟨#[]⟩,.int .i64 0]]
theorem laid_met (os:Os):laidMet Tryz.prog Rows.fnExactReplayLogRow.laid ((laidWorldQ os).forCall (fun _ _=>0) ⟨#[],witArgs,[]⟩).memory:=
 laidMet_of_run' 8 kZ kZ
theorem reads (os:Os) {H:Type} (enc:TypeId×Value→H):∃places,DataW.whole enc Tryz.prog ((laidWorldQ os).forCall (fun _ _=>0) ⟨#[],witArgs,[]⟩).memory Tryz.f5.params.toList Rows.fnExactReplayLogSpec.vars false witArgs.toList 8=some ([.agg [.nil],.agg [.lit (.string []),.lit (.string []),.lit (.int .i64 0)]],[],places):=
 ⟨[],by kernel_rfl⟩
set_option maxRecDepth 100000 in
theorem lifted (os:Os) (started:os.Started) (H:Type) (enc:TypeId×Value→H) (F:Stop.Interp) :
 ReturnsInHanded {} Tryz.checked os 5 .any ((OpenSpec.ofChange Rows.fnExactReplayLogSpec).preRow enc Tryz.prog Tryz.f5 Rows.fnExactReplayLogRow.domain false Rows.fnExactReplayLogRow.laid) (((OpenSpec.ofChange Rows.fnExactReplayLogSpec).at F).post enc Tryz.prog Tryz.f5 false true false false):=by
 obtain⟨places,hx⟩:=reads os enc
 refine returnsInHanded_of_row (C:=Tryz.checked) (s:=OpenSpec.ofChange Rows.fnExactReplayLogSpec) own started kZ Tryz.func5
  (witness_row_at (enc:=enc) (C:=Tryz.checked) false (laidWorldQ os) witArgs rfl kZ kZ kZ
   (OpenSpec.preRow_of_cond 8 hx kZ (fun k hk=>by cases hk) kZ (laid_met os))) ?_
 intro W base args ds gs before hval hW _ _ _ hL hsh _
 exact contract H enc W base args ds gs before hval hW (env_ofQ hsh hL)
theorem said:Rows.FnExactReplayLogSaid:=
 OpenClaim.holds_of_cond 5 Tryz.f5 rfl rfl rfl rfl rfl rfl rfl ⟨rfl,rfl,rfl,rfl,rfl⟩ rfl rfl rfl rfl rfl kZ Tryz.func5 closed
  (of_decide_eq_true kZ) (by unfold Func.isWrapper;first|(rw [if_pos (by decide +kernel)];kernel_rfl)|(rw [if_neg (by decide +kernel)];exact⟨rfl,rfl⟩))
  (fun os started H enc _ F=>by rw [OpenClaim.pre_eq_preRow];exact lifted os started H enc F)
end Go.Proofs.YtggfdnopminemaaGreatDoor.fnExactReplayLog
