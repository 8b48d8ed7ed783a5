/- An argument of a law: an entry. -/
import Derived.Test.YtojcfpjoikmgcaaGreatDoorWitD
namespace Go.Proofs.YtojcfpjoikmgcaaGreatDoor
open Go Go.RowKit Go.ChangeShapes Go.WideShapes Go.ChangeAt Go.Deep
set_option maxRecDepth 100000
section
variable {H : Type} {enc : TypeId × Value → H} {W : World} {held : Bool}
theorem entry_of {base : Nat} {v : Value} {d : DataW H} {ps : List MemPlace} (hval : Value.okWide Tryz.prog W .any base 82 v) (hd : DataW.Trod enc Tryz.prog W 0 (fun _ => true) held 82 v d ps) :
    ∃ x o t, v = .agg #[x, .string (S t)] ∧ IntA W x o ∧ t.length ≤ 9223372036854775807 := by
  obtain ⟨cs, rfl, hsz⟩ := okWide_struct Tryz.underlying82 hval
  rw [show Tryz.prog.cellsOf 82 = 2 by kernel_rfl] at hsz
  obtain ⟨cl⟩ := cs
  match cl, hsz with
  | [c0, c1], _ =>
    obtain ⟨fuel, hf⟩ := hd
    obtain ⟨xs, n', _, _, _, hxl, hg⟩ := DataW.trod_struct Tryz.underlying82 hf
    have f0 := hg 0 _ rfl
    have f1 := hg 1 _ rfl
    simp only [List.getElem_toArray, List.getElem_cons_zero, List.getElem_cons_succ] at f0 f1
    rw [show Tryz.prog.cellsOf 41 = 1 by kernel_rfl] at f0
    rw [show Tryz.prog.cellsOf 9 = 1 by kernel_rfl] at f1
    have hx2 : xs.length = 2 := hxl
    rw [List.getElem?_eq_getElem (by omega)] at f0 f1
    obtain ⟨l, hl'⟩ := intA_of (show DataW.trod enc Tryz.prog W 0 (fun _ => true) held n' 41 [c0] = some _ from f0)
    obtain ⟨s, hs, _, hw⟩ := DataW.trod_string Tryz.underlying9 (show DataW.trod enc Tryz.prog W 0 (fun _ => true) held n' 9 [c1] = some _ from f1)
    obtain ⟨t, rfl⟩ := exists_S s
    have hs' : c1 = .string (S t) := by simpa using hs
    subst hs'
    rw [S_size] at hw
    unfold maxLen at hw
    exact ⟨c0, l, t, rfl, hl', hw⟩
end
end Go.Proofs.YtojcfpjoikmgcaaGreatDoor
