/- A slice of bytes that came in: its cells. -/
import Derived.ChangeSlices
import Derived.Test.YtonhkglilnplbaaGreatDoorWitD
import Derived.Test.YtonhkglilnplbaaGreatDoorCurD
set_option linter.all false
namespace Go.Proofs.YtonhkglilnplbaaGreatDoor
open Go Go.RowKit Go.ChangeShapes Go.WideShapes Go.ChangeAt
set_option maxRecDepth 100000
/-- a slice of bytes, however long -/
def CodeAny (w : World) (v : Value) : Prop :=
  ∃ (ad : Option Addr) (n cap : Nat), v = .slice ad n cap ∧ n ≤ maxLen ∧ (n = 0 ∨ ∃ g o, ad = some ⟨g, o, none⟩ ∧ g < w.heap.size ∧ ∀ j, j < n → ∃ b : Nat, b < 256 ∧ w.cell? ⟨g, o + j, none⟩ = some (.int .u8 b))
theorem code_of {H : Type} {enc : TypeId × Value → H} {W : World} {base : Nat} {held : Bool} {v : Value} {d : DataW H} {ps : List MemPlace}
    (hval : Value.okWide Tryz.prog W .any base 48 v) (hd : DataW.Trod enc Tryz.prog W 0 (fun _ => true) held 48 v d ps) : CodeAny W v := by
  obtain ⟨a0, len, cap, rfl⟩ := okWide_slice Tryz.underlying48 hval
  obtain ⟨fuel, hf⟩ := hd
  rcases open_ints Tryz.underlying48 Tryz.underlying5 (by kernel_rfl) hf with ⟨hcs, hx⟩ | ⟨a, len', cap', zs, hcs, _, hl, hm, hz, hx, hcell, hwz⟩
  · have hcs' : Value.slice a0 len cap = .slice none 0 0 := by simpa [Value.cells] using hcs
    injection hcs' with h1 h2 h3
    exact ⟨a0, len, cap, rfl, by omega, .inl h2⟩
  · have hcs' : Value.slice a0 len cap = .slice (some a) len' cap' := by simpa [Value.cells] using hcs
    injection hcs' with h1 h2 h3
    subst h1 h2 h3
    refine ⟨_, _, _, rfl, Nat.le_trans hl hm, ?_⟩
    rcases Nat.eq_zero_or_pos len with h0 | h0
    · exact .inl h0
    · right
      have hzl : zs.length = cap := by simpa using hz
      have c0 := hcell 0 (by omega)
      rw [show a.add 0 = a from rfl] at c0
      have hlt := World.block_lt_of_cell? W a c0
      have hsp : a.spot = none := by
        cases hs : a.spot with
        | none => rfl
        | some x =>
          exfalso
          unfold World.cell? at c0
          rw [hs] at c0
          split at c0
          · simp at c0
          · cases c0
      obtain ⟨g, o, sp⟩ := a
      simp only at hsp hlt
      subst hsp
      refine ⟨g, o, rfl, hlt, fun j hj => ?_⟩
      have cj := hcell j (by omega)
      have hwf := hwz (zs.getD j 0) (by rw [List.getD_eq_getElem?_getD, List.getElem?_eq_getElem (by omega)]; exact List.getElem_mem _)
      simp only [Lit.wf, Bool.and_eq_true, decide_eq_true_eq] at hwf
      simp [IntKind.min, IntKind.max, IntKind.signed, IntKind.bits] at hwf
      obtain ⟨b, hb⟩ := Int.eq_ofNat_of_zero_le hwf.1
      refine ⟨b, by omega, ?_⟩
      rw [← hb, ← List.getD_eq_getElem?_getD, ← cj]
      unfold Addr.add
      split
      · rename_i h; rw [h]; rfl
      · rfl
theorem rBig (v : Value) (n : Nat) (ad : Option Addr) (cap : Nat) (hv : v = .slice ad n cap) (hn : n ≤ maxLen) (w : World) :
    Calls Tryz.prog 31 #[v] w fun e w' => e = .returned (.bool (decide (65536 < n))) ∧ w = w' := by
  subst hv
  unfold maxLen at hn
  go_enter Tryz.func31, Tryz.ntmps31
  by_cases h : 65536 < n
  · have h1 : (65536 : Int) < (n : Int) := by omega
    go_wp2
    go_ret
    exact ⟨by simp [h], rfl⟩
  · have h1 : ¬ (65536 : Int) < (n : Int) := by omega
    go_wp2
    go_ret
    exact ⟨by simp [h], rfl⟩
/-- a slice of bytes that a draw may read -/
def CodeIs (w : World) (v : Value) : Prop :=
  ∃ (ad : Option Addr) (n cap : Nat), v = .slice ad n cap ∧ n ≤ 65536 ∧ (n = 0 ∨ ∃ g o, ad = some ⟨g, o, none⟩ ∧ g < w.heap.size ∧ ∀ j, j < n → ∃ b : Nat, b < 256 ∧ w.cell? ⟨g, o + j, none⟩ = some (.int .u8 b))
theorem CodeIs.fresh {w u : World} {v : Value} {t : TypeId} (h : CodeIs w v) (hb : Below w.heap.size w u) : IsCur w.heap.size u.heap.size 0 (u.alloc (.cells #[v, .int .i64 0, .int .u64 0] t)) := by
  obtain ⟨ad, n, cap, rfl, hn, hc⟩ := h
  refine ⟨ad, n, cap, 0, 0, by go_simp, by go_simp, by go_simp, by go_simp, by go_simp, Nat.le_refl _, hn, by decide, by decide, hb.size, by simp, hc.imp id ?_⟩
  rintro ⟨g, o, h1, h2, h3⟩
  refine ⟨g, o, h1, h2, fun j hj => ?_⟩
  obtain ⟨b, hb1, hb2⟩ := h3 j hj
  have hbb := hb.trans ((Below.refl w.heap.size u).alloc hb.size (.cells #[.slice ad n cap, .int .i64 0, .int .u64 0] t))
  exact ⟨b, hb1, (hbb.cell (p := ⟨g, o + j, none⟩) h2).trans hb2⟩
end Go.Proofs.YtonhkglilnplbaaGreatDoor
