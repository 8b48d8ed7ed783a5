/- Walks: logs (program), and the law's helpers. -/
import Derived.Test.YtbjfpceoamiaoaaDoorLog9
namespace Go.Proofs.YtbjfpceoamiaoaaDoor
open Go Go.RowKit
set_option maxHeartbeats 400000
set_option maxRecDepth 100000
theorem isValidLog (d p : Str) (n : Int) (w : World) (hd : d.length ≤ 2 ^ 20) (hp : p.length ≤ 2 ^ 20) (hE : Env w) :
    Calls Tryd.prog 33 #[logV d p n] w fun e w' => e = .returned (.bool (P.recordsOk d p n)) ∧ Below w.heap.size w w' := by
  have HE := Lib.hid hE; clear hE
  go_enter Tryd.func33, Tryd.ntmps33
  go_wp2_with fail
  refine (records _ _ _ _ hd hp (HE.out.alloc _)).mono ?_
  rintro e w1 ⟨v, rfl, _, hb⟩
  go_wp2
  go_ret
  exact ⟨rfl, ((Below.refl _ _).alloc (Nat.le_refl _) _).trans (hb.mono (by simp))⟩
theorem impl_syncLog (d p : Str) (n : Int) (w : World) (hd : d.length ≤ 2 ^ 20) (hp : p.length ≤ 2 ^ 20) (hE : Env w) :
    Calls Tryd.prog 15 #[logV d p n] w fun e w' => e = .returned (.tuple #[logV (P.syncI d p n).1 [] (P.syncI d p n).2.1, .bool (P.syncI d p n).2.2]) ∧ Below w.heap.size w w' := by
  have HE := Lib.hid hE; clear hE
  cases h1 : P.recordsOk d p n
  · have HF := Lib.hid (show P.syncI d p n = ([], 0, false) by unfold P.syncI; rw [h1]; rfl)
    go_enter Tryd.func15, Tryd.ntmps15
    go_wp2_with fail
    refine (isValidLog _ _ _ _ hd hp ((HE.out.alloc _).alloc _)).mono ?_
    rintro e w1 ⟨rfl, hb⟩
    obtain ⟨hcc, hff⟩ := bcell hb
    rw [h1]
    go_wp2
    refine bodyPost_ret (v := .tuple #[logV [] [] 0, .bool false]) (by simp [results, Tryd.results15, go_sem, hcc]) rfl ⟨by rw [HF.out], ?_⟩
    exact ((((((Below.refl _ _).alloc (Nat.le_refl _) _).alloc (by simp) _).trans (hb.mono (by simp; omega))).setCell (by simp) _).setCell (by simp) _).setCell (by simp) _
  · have HF := Lib.hid (show P.syncI d p n = (d ++ p, n, true) by unfold P.syncI; rw [h1]; rfl)
    go_enter Tryd.func15, Tryd.ntmps15
    go_wp2_with fail
    refine (isValidLog _ _ _ _ hd hp ((HE.out.alloc _).alloc _)).mono ?_
    rintro e w1 ⟨rfl, hb⟩
    obtain ⟨hcc, hff⟩ := bcell hb
    rw [h1]
    go_wp2
    refine bodyPost_ret (v := .tuple #[logV (d ++ p) [] n, .bool true]) (by simp [results, Tryd.results15, go_sem, hcc]) rfl ⟨by rw [HF.out], ?_⟩
    exact ((((((Below.refl _ _).alloc (Nat.le_refl _) _).alloc (by simp) _).trans (hb.mono (by simp; omega))).setCell (by simp) _).setCell (by simp) _).setCell (by simp) _
theorem szLog (d p : Str) (n left : Int) (w : World) (hd : d.length ≤ maxLen) (hp : p.length ≤ maxLen) (hl0 : 0 ≤ left) (hl : left ≤ 1048576) :
    Calls Tryd.prog 10 #[logV d p n, .int .i64 left] w fun e w' => e = .returned (.int .i64 (P.sz2 d.length p.length left)) ∧ Below w.heap.size w w' := by
  unfold maxLen at hd hp
  rcases Int.lt_or_le (left - (d.length : Int)) 0 with h1 | h1
  · have HF := Lib.hid (show P.sz2 d.length p.length left = -1 by unfold P.sz2; rw [if_pos h1])
    go_enter Tryd.func10, Tryd.ntmps10
    go_wp2
    go_ret
    exact ⟨by rw [HF.out]; rfl, (Below.refl _ _).alloc (Nat.le_refl _) _⟩
  · rcases Int.lt_or_le (left - (d.length : Int) - (p.length : Int)) 0 with h2 | h2
    · have HF := Lib.hid (show P.sz2 d.length p.length left = -1 by unfold P.sz2; rw [if_neg (by omega), if_pos h2])
      go_enter Tryd.func10, Tryd.ntmps10
      go_wp2
      go_ret
      exact ⟨by rw [HF.out]; rfl, (Below.refl _ _).alloc (Nat.le_refl _) _⟩
    · have HF := Lib.hid (show P.sz2 d.length p.length left = left - (d.length : Int) - (p.length : Int) by unfold P.sz2; rw [if_neg (by omega), if_neg (by omega)])
      go_enter Tryd.func10, Tryd.ntmps10
      go_wp2
      go_ret
      exact ⟨by rw [HF.out]; rfl, (Below.refl _ _).alloc (Nat.le_refl _) _⟩
theorem toLog (d p : Str) (n : Int) (w : World) :
    Calls Tryd.prog 12 #[logV d p n] w fun e w' => e = .returned (logV d p n) ∧ Below w.heap.size w w' := by
  go_enter Tryd.func12, Tryd.ntmps12
  go_wp2
  refine bodyPost_ret (v := logV d p n) (by simp [results, Tryd.results12, go_sem]) rfl ⟨rfl, ?_⟩
  exact (((Below.refl _ _).alloc (Nat.le_refl _) _).alloc (by simp) _).alloc (by simp; omega) _
theorem eqLog (d p d' p' : Str) (n n' : Int) (w : World) :
    Calls Tryd.prog 16 #[logV d p n, logV d' p' n'] w fun e w' => e = .returned (.bool ((d == d') && ((p == p') && (n == n')))) ∧ Below w.heap.size w w' := by
  cases h1 : (d == d') <;> cases h2 : (p == p') <;> cases h3 : (n == n')
  all_goals
    go_enter Tryd.func16, Tryd.ntmps16
    go_wp2
    go_ret
    exact ⟨rfl, ((Below.refl _ _).alloc (Nat.le_refl _) _).alloc (by simp) _⟩
end Go.Proofs.YtbjfpceoamiaoaaDoor
