/- Walks: two blocks of a row turned (rotate). -/
import Derived.Deep.DeepCutAuto
import Derived.IntWalk
import Derived.Test.YtonhkglilnplbaaGreatDoorSortF4
namespace Go.Proofs.YtonhkglilnplbaaGreatDoor
open Go Go.RowKit
set_option maxHeartbeats 4000000
set_option maxRecDepth 100000
theorem rotate_full (its : List It) (F : Blk) (g o cap a m b : Nat) (w : World) (h : RowI w F g o its) (hl : its.length ≤ 2 ^ 30) (ham : a < m) (hmb : m < b) (hb : b ≤ its.length) :
    Calls Tryz.prog 212 #[.slice (some ⟨g, o, none⟩) its.length cap, .int .i64 a, .int .i64 m, .int .i64 b, byF] w fun e w' => e = .returned (.tuple #[]) ∧ ∃ its', Moved its its' (roIx a m b) ∧ RowI w' F g o its' ∧ Chg (fun b => b = g) w w' := by
  have HH := Lib.hid h; clear h
  have hw1 : IntKind.i64.wrap ((m : Int) - (a : Int)) = ((m - a : Nat) : Int) := by rw [IntWalk.i64_in _ (by omega)]; omega
  have hw2 : IntKind.i64.wrap ((b : Int) - (m : Int)) = ((b - m : Nat) : Int) := by rw [IntWalk.i64_in _ (by omega)]; omega
  go_enter Tryz.func212, Tryz.ntmps212
  go_wp2_with fail
  go_loopw [10, 11] (fun x y wr => ∃ (i j : Nat) (n : List It) (f : Nat → Nat), x = .int .i64 i ∧ y = .int .i64 j ∧ 0 < i ∧ 0 < j ∧ i ≤ m - a ∧ j ≤ b - m ∧ Moved its n f ∧ (∀ k, f (roIx (m - i) m (m + j) k) = roIx a m b k) ∧ RowI wr F g o n ∧ Chg (fun b => b = g) w wr) (fun x y _ => (intOf x).toNat + (intOf y).toNat)
  case atStart =>
    refine ⟨m - a, b - m, its, id, ?_, ?_, by omega, by omega, Nat.le_refl _, Nat.le_refl _, Moved.refl its, fun k => ?_, HH.out, Chg.refl _ _⟩
    · first | rfl | go_num
    · first | rfl | go_num
    · rw [show m - (m - a) = a by omega, show m + (b - m) = b by omega]; rfl
  case round =>
    obtain ⟨i, j, n, f, rfl, rfl, hi0, hj0, hia, hjb, hm, hf, hr, hc⟩ := hrel
    have HM := Lib.hid hm; have HR := Lib.hid hr; have HC := Lib.hid hc; have HF := Lib.hid hf
    have hln : n.length = its.length := hm.len
    clear hm hf hr hc hw1 hw2 HH
    have hw3 : IntKind.i64.wrap ((m : Int) - (i : Int)) = ((m - i : Nat) : Int) := by rw [IntWalk.i64_in _ (by omega)]; omega
    by_cases hij : i = j
    · subst hij
      have hne : ((i : Int) != (i : Int)) = false := by simp
      have hcall := swapRange_full n F g o cap (m - i) m i wr HR.out (by omega) (by omega) (by omega)
      rw [hln] at hcall
      have HCALL := Lib.hid hcall; clear hcall
      go_wp2_with fail
      refine HCALL.out.mono ?_
      rintro e v ⟨rfl, n2, hm2, hr2, hc2⟩
      have HM2 := Lib.hid ((HM.out.trans hm2).congr (h := roIx a m b) (fun k => by
        have e := roIx_even (a := m - i) (m := m) (b := m + i) (by omega) (by omega) (by omega) k
        rw [show m - (m - i) = i by omega] at e
        rw [e]; exact HF.out k))
      have HR2 := Lib.hid hr2; have HC2 := Lib.hid (HC.out.trans hc2)
      clear hm2 hr2 hc2 HCALL
      go_wp2
      go_end0
      exact ⟨rfl, n2, HM2.out, HR2.out, HC2.out⟩
    · have hne : ((i : Int) != (j : Int)) = true := by simp; omega
      have hnb : ¬ (i : Int) = (j : Int) := by omega
      by_cases hgt : j < i
      · have h1 : (j : Int) < (i : Int) := by omega
        have hw5 : IntKind.i64.wrap ((i : Int) - (j : Int)) = ((i - j : Nat) : Int) := by rw [IntWalk.i64_in _ (by omega)]; omega
        have hcall := swapRange_full n F g o cap (m - i) m j wr HR.out (by omega) (by omega) (by omega)
        rw [hln] at hcall
        have HCALL := Lib.hid hcall; clear hcall
        go_wp2_with fail
        refine HCALL.out.mono ?_
        rintro e v ⟨rfl, n2, hm2, hr2, hc2⟩
        have HM2 := Lib.hid (HM.out.trans hm2)
        have HR2 := Lib.hid hr2; have HC2 := Lib.hid (HC.out.trans hc2)
        clear hm2 hr2 hc2 HCALL
        go_wp2
        go_roundw
        case rel => exact ⟨i - j, j, n2, _, by first | rfl | go_num, rfl, by omega, hj0, by omega, hjb, HM2.out, (fun k => by show f _ = _; rw [roIx_left hgt (by omega) k]; exact HF.out k), HR2.out, HC2.out⟩
        case measure => simp [intOf]; omega
      · have h1 : ¬ (j : Int) < (i : Int) := by omega
        have hw5 : IntKind.i64.wrap ((j : Int) - (i : Int)) = ((j - i : Nat) : Int) := by rw [IntWalk.i64_in _ (by omega)]; omega
        have hw6 : IntKind.i64.wrap ((m : Int) + (j : Int)) = ((m + j : Nat) : Int) := by rw [IntWalk.i64_in _ (by omega)]; omega
        have hw7 : IntKind.i64.wrap (((m + j : Nat) : Int) - (i : Int)) = ((m + j - i : Nat) : Int) := by rw [IntWalk.i64_in _ (by omega)]; omega
        have hw8 : IntKind.i64.wrap ((m : Int) + (j : Int) - (i : Int)) = ((m + j - i : Nat) : Int) := by rw [IntWalk.i64_in _ (by omega)]; omega
        have hcall := swapRange_full n F g o cap (m - i) (m + j - i) i wr HR.out (by omega) (by omega) (by omega)
        rw [hln] at hcall
        have HCALL := Lib.hid hcall; clear hcall
        go_wp2_with fail
        refine HCALL.out.mono ?_
        rintro e v ⟨rfl, n2, hm2, hr2, hc2⟩
        have HM2 := Lib.hid (HM.out.trans hm2)
        have HR2 := Lib.hid hr2; have HC2 := Lib.hid (HC.out.trans hc2)
        clear hm2 hr2 hc2 HCALL
        go_wp2
        go_roundw
        case rel => exact ⟨i, j - i, n2, _, rfl, by first | rfl | go_num, hi0, by omega, hia, by omega, HM2.out, (fun k => by show f _ = _; rw [roIx_right (by omega) (by omega) k]; exact HF.out k), HR2.out, HC2.out⟩
        case measure => simp [intOf]; omega
end Go.Proofs.YtonhkglilnplbaaGreatDoor
