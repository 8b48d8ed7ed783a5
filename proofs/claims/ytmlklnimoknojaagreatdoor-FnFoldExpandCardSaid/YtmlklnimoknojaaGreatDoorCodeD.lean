/- From a law's contract to its row: what is the same for every law. The library's variables at a row's first world (a dictionary seat); a world for the witnesses. Rows of ints and of entries, out of a row's own reading of its arguments. -/
import Derived.ProofKit
import Derived.OpenShut
import Derived.Deep.DeepHandedRow
import Derived.Lib.LaidTab
import Derived.Lib.SmallJoins
import Derived.ChangeSlices
import Derived.Deep.Slices
import Derived.Deep.Fields
import Derived.Test.YtmlklnimoknojaaGreatDoorCards
import Derived.Test.YtmlklnimoknojaaGreatDoorTie
import Derived.Test.YtmlklnimoknojaaGreatDoorD0
import Derived.Test.YtmlklnimoknojaaGreatDoorLawD
import Derived.Test.YtmlklnimoknojaaGreatDoorCurD
namespace Go.Proofs.YtmlklnimoknojaaGreatDoor
section
open Go Go.RowKit Go.ChangeShapes Go.WideShapes Go.ChangeAt
section
variable {H : Type} {enc : TypeId × Value → H} {P : Program}
theorem trodAll_below (hl : laidOutB P = true) {W W' : World} (hb : Below W.heap.size W W') : ∀ (ts : List TypeId) (vs : List Value) (ds : List (DataW H)) (ps : List MemPlace),
    (∀ t ∈ ts, P.readableRec t = true ∧ t < P.types.size) → DataW.TrodAll enc P W 0 (fun _ => true) true ts vs ds ps → (∀ x ∈ ps, x.block < W.heap.size) →
    DataW.TrodAll enc P W' 0 (fun b => decide (b < W.heap.size)) true ts vs ds ps
  | [], [], [], _, _, h, _ => h
  | t :: ts, v :: vs, d :: ds, ps, hr, h, hlt => by
    obtain ⟨p, q, h1, h2, rfl⟩ := h
    exact ⟨p, q, Below.trod hl (hr t (by simp)).1 (hr t (by simp)).2 h1 hb (fun x hx => hlt x (by simp [hx])),
      trodAll_below hl hb ts vs ds q (fun t ht => hr t (by simp [ht])) h2 (fun x hx => hlt x (by simp [hx])), rfl⟩
  | [], _ :: _, _, _, _, h, _ => h.elim
  | [], [], _ :: _, _, _, h, _ => h.elim
  | _ :: _, [], _, _, _, h, _ => h.elim
  | _ :: _, _ :: _, [], _, _, h, _ => h.elim
/-- A law that answers true and leaves what was there as it was. -/
theorem law_post {f : Func} {s : ChangeSpec} {W W' : World} {args : Array Value} {ds gs : List (DataW H)} {before : List MemPlace} {tb : TypeId}
    (hl : laidOutB P = true) (hr : ∀ t ∈ f.params.toList, P.readableRec t = true ∧ t < P.types.size) (hres : f.resultTypes = #[tb]) (htb : P.underlying tb = some .bool)
    (hvars : s.vars = []) (hfn : s.fn H (ds ++ []) = { results := [.lit (.bool true)], args := ds })
    (hW : DataW.Whole enc P f.params.toList s.vars false W args.toList ds gs before) (hb : Below W.heap.size W W') :
    s.post enc P f false true false false W args (.bool true) W' := by
  have hW' := hW
  obtain ⟨p, q, hA, hV, rfl, hfz, hnd⟩ := hW
  have hlt : ∀ x ∈ p, x.block < W.heap.size := fun x hx => hW'.lt x (by simp [hx])
  have hA2 := trodAll_below hl hb _ _ _ _ hr hA hlt
  rw [hvars] at hV
  have hg : gs = [] ∧ q = [] := by
    cases gs with
    | nil => exact ⟨rfl, hV⟩
    | cons _ _ => exact hV.elim
  obtain ⟨rfl, rfl⟩ := hg
  refine ⟨ds, [], _, [], p, [], hW', ?_, ?_, ?_, hb.frame _, fun h => by cases h⟩
  · rw [hfn, hres]
    exact trodAll_cons_mk (shut_bool htb true) trodAll_mk0
  · rw [hfn]; exact hA2
  · rw [hfn, hvars]; rfl
end
theorem boolT : Tryz.prog.underlying 4 = some .bool := Tryz.underlying4
theorem laidOut : laidOutB Tryz.prog = true := by kernel_rfl
end
section
open Go Go.RowKit
theorem env_of {α : Prop} {W : World} (hsh : W.ShapedOpen Tryz.prog) (_ : α) : Env W := by
  obtain ⟨m, hc⟩ : ∃ m, W.cell? ⟨0, 0, none⟩ = some (.int .i64 m) :=
    Go.Proofs.cell_of_shapedOpen_int (zero := #[.int .i64 0]) (t := 3) hsh (of_decide_eq_true (by kernel_rfl)) (by kernel_rfl) rfl (by kernel_rfl) (by kernel_rfl) Tryz.underlying3
  have h1 : 0 < W.heap.size := World.block_lt_of_cell? W _ hc
  exact ⟨by unfold EB; omega, m, hc⟩
def ranges : List Int := [128, 191, 160, 191, 128, 159, 144, 191, 128, 143, 0, 0, 0, 0, 0, 0, 0, 0, 0, 0, 0, 0, 0, 0, 0, 0, 0, 0, 0, 0, 0, 0]
def setTab (g : Nat) (k : IntKind) (l : List Int) (h : Array Obj) : Array Obj := h.modify g fun
  | .cells _ t frozen => .cells (l.map fun z => Value.int k z).toArray t frozen
  | o => o
noncomputable def laidWorld (os : Os) : World :=
  { World.holding Tryz.prog os ⟨#[], #[], []⟩ with heap := setTab 1 .u8 (Go.Pinned.utf8FirstZ.map Int.ofNat) (setTab 2 .u8 ranges (World.holding Tryz.prog os ⟨#[], #[], []⟩).heap) }
theorem own : ownKnob Tryz.prog.godebug = none := by kernel_rfl
end
section
open Go Go.RowKit Go.ChangeShapes Go.WideShapes Go.ChangeAt Go.Deep
set_option maxRecDepth 100000
section
variable {H : Type} {enc : TypeId × Value → H} {W : World} {held : Bool}
end
end
end Go.Proofs.YtmlklnimoknojaaGreatDoor

namespace Go.Proofs.YtmlklnimoknojaaGreatDoor
open Go Go.RowKit Go.ChangeShapes Go.WideShapes Go.ChangeAt
set_option maxRecDepth 100000
/-- a slice of bytes, however long -/
def CodeAny (w : World) (v : Value) : Prop :=
  ∃ (ad : Option Addr) (n cap : Nat), v = .slice ad n cap ∧ n ≤ maxLen ∧ (n = 0 ∨ ∃ g o, ad = some ⟨g, o, none⟩ ∧ g < w.heap.size ∧ ∀ j, j < n → ∃ b : Nat, b < 256 ∧ w.cell? ⟨g, o + j, none⟩ = some (.int .u8 b))
theorem code_of {H : Type} {enc : TypeId × Value → H} {W : World} {base : Nat} {held : Bool} {v : Value} {d : DataW H} {ps : List MemPlace}
    (hval : Value.okWide Tryz.prog W .any base 22 v) (hd : DataW.Trod enc Tryz.prog W 0 (fun _ => true) held 22 v d ps) : CodeAny W v := by
  obtain ⟨a0, len, cap, rfl⟩ := okWide_slice Tryz.underlying22 hval
  obtain ⟨fuel, hf⟩ := hd
  rcases open_ints Tryz.underlying22 Tryz.underlying5 (by kernel_rfl) hf with ⟨hcs, hx⟩ | ⟨a, len', cap', zs, hcs, _, hl, hm, hz, hx, hcell, hwz⟩
  · have hcs' : Value.slice a0 len cap = .slice none 0 0 := by simpa [Value.cells] using hcs
    injection hcs' with h1 h2 h3
    exact ⟨a0, len, cap, rfl, by omega, .inl h2⟩
  · have hcs' : Value.slice a0 len cap = .slice (some a) len' cap' := by simpa [Value.cells] using hcs
    injection hcs' with h1 h2 h3
    subst h1 h2 h3
    refine ⟨_, _, _, rfl, Nat.le_trans hl hm, ?_⟩
    rcases Nat.eq_zero_or_pos len with h0 | h0
    · exact .inl h0
    · right
      have hzl : zs.length = cap := by simpa using hz
      have c0 := hcell 0 (by omega)
      rw [show a.add 0 = a from rfl] at c0
      have hlt := World.block_lt_of_cell? W a c0
      have hsp : a.spot = none := by
        cases hs : a.spot with
        | none => rfl
        | some x =>
          exfalso
          unfold World.cell? at c0
          rw [hs] at c0
          split at c0
          · simp at c0
          · cases c0
      obtain ⟨g, o, sp⟩ := a
      simp only at hsp hlt
      subst hsp
      refine ⟨g, o, rfl, hlt, fun j hj => ?_⟩
      have cj := hcell j (by omega)
      have hwf := hwz (zs.getD j 0) (by rw [List.getD_eq_getElem?_getD, List.getElem?_eq_getElem (by omega)]; exact List.getElem_mem _)
      simp only [Lit.wf, Bool.and_eq_true, decide_eq_true_eq] at hwf
      simp [IntKind.min, IntKind.max, IntKind.signed, IntKind.bits] at hwf
      obtain ⟨b, hb⟩ := Int.eq_ofNat_of_zero_le hwf.1
      refine ⟨b, by omega, ?_⟩
      rw [← hb, ← List.getD_eq_getElem?_getD, ← cj]
      unfold Addr.add
      split
      · rename_i h; rw [h]; rfl
      · rfl
theorem rBig (v : Value) (n : Nat) (ad : Option Addr) (cap : Nat) (hv : v = .slice ad n cap) (hn : n ≤ maxLen) (w : World) :
    Calls Tryz.prog 26 #[v] w fun e w' => e = .returned (.bool (decide (65536 < n))) ∧ w = w' := by
  subst hv
  unfold maxLen at hn
  go_enter Tryz.func26, Tryz.ntmps26
  by_cases h : 65536 < n
  · have h1 : (65536 : Int) < (n : Int) := by omega
    go_wp2
    go_ret
    exact ⟨by simp [h], rfl⟩
  · have h1 : ¬ (65536 : Int) < (n : Int) := by omega
    go_wp2
    go_ret
    exact ⟨by simp, rfl⟩
/-- a slice of bytes that a draw may read -/
def CodeIs (w : World) (v : Value) : Prop :=
  ∃ (ad : Option Addr) (n cap : Nat), v = .slice ad n cap ∧ n ≤ 65536 ∧ (n = 0 ∨ ∃ g o, ad = some ⟨g, o, none⟩ ∧ g < w.heap.size ∧ ∀ j, j < n → ∃ b : Nat, b < 256 ∧ w.cell? ⟨g, o + j, none⟩ = some (.int .u8 b))
theorem CodeIs.fresh {w u : World} {v : Value} {t : TypeId} (h : CodeIs w v) (hb : Below w.heap.size w u) : IsCur w.heap.size u.heap.size 0 (u.alloc (.cells #[v, .int .i64 0, .int .u64 0] t)) := by
  obtain ⟨ad, n, cap, rfl, hn, hc⟩ := h
  refine ⟨ad, n, cap, 0, 0, by go_simp, by go_simp, by go_simp, by go_simp, by go_simp, Nat.le_refl _, hn, by decide, by decide, hb.size, by simp, hc.imp id ?_⟩
  rintro ⟨g, o, h1, h2, h3⟩
  refine ⟨g, o, h1, h2, fun j hj => ?_⟩
  obtain ⟨b, hb1, hb2⟩ := h3 j hj
  have hbb := hb.trans ((Below.refl w.heap.size u).alloc hb.size (.cells #[.slice ad n cap, .int .i64 0, .int .u64 0] t))
  exact ⟨b, hb1, (hbb.cell (p := ⟨g, o + j, none⟩) h2).trans hb2⟩
end Go.Proofs.YtmlklnimoknojaaGreatDoor
