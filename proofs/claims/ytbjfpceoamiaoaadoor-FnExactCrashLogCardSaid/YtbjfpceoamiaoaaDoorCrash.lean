/- Walk: the law of CrashLog. -/
import Derived.Test.YtbjfpceoamiaoaaDoorLog11
import Derived.Test.YtbjfpceoamiaoaaDoorSync
namespace Go.Proofs.YtbjfpceoamiaoaaDoor
open Go Go.RowKit
set_option maxHeartbeats 400000
set_option maxRecDepth 100000
theorem law_crashLog (d p : Str) (n keep : Int) (t : Bool) (w : World) (hd : d.length ≤ maxLen) (hp : p.length ≤ maxLen) (hE : Env w) :
    Calls Tryd.prog 3 #[logV d p n, .int .i64 keep, .bool t] w fun e w' => e = .returned (.bool true) ∧ Below w.heap.size w w' := by
  have HE := Lib.hid hE; clear hE
  rcases Int.lt_or_le (P.sz2 d.length p.length 1048576) 0 with h1 | h1
  · go_enter Tryd.func3, Tryd.ntmps3
    go_wp2_with fail
    refine (szLog _ _ _ _ _ hd hp (by omega) (by omega)).mono ?_
    rintro e w1 ⟨rfl, hb⟩
    go_wp2
    go_ret
    exact ⟨rfl, ((Below.refl _ _).alloc (Nat.le_refl _) _).trans (hb.mono (by simp))⟩
  · have hle := sz2_le h1
    have hd2 : d.length ≤ 2 ^ 20 := by omega
    have hp2 : p.length ≤ 2 ^ 20 := by omega
    have HS := Lib.hid (P.crash_eq d p n keep t)
    go_enter Tryd.func3, Tryd.ntmps3
    go_wp2_with fail
    have C1 := Lib.hid (box3 (w := w) (x := .string (S d)) (y := .string (S p)) (z := .int .i64 n) (t := 23) HE.out (Below.refl _ _) (Nat.le_refl _))
    refine (szLog _ _ _ _ _ hd hp (by omega) (by omega)).mono ?_
    rintro e w1 ⟨rfl, hb⟩
    have C2 := Lib.hid (carry3 C1.out hb); clear hb C1
    obtain ⟨k0, k1, k2, _⟩ := C2.out
    go_wp2_with fail
    refine (toLog _ _ _ _).mono ?_
    rintro e w2 ⟨rfl, hb⟩
    clear k0 k1 k2
    have C3 := Lib.hid (carry3 C2.out hb); clear hb C2
    obtain ⟨k0, k1, k2, _⟩ := C3.out
    go_wp2_with fail
    refine (spec_crashLog _ _ _ _ _ _ hd2 hp2).mono ?_
    rintro e w3 ⟨rfl, hb⟩
    clear k0 k1 k2
    have C4 := Lib.hid (carry3 C3.out hb); clear hb C3
    obtain ⟨k0, k1, k2, _⟩ := C4.out
    go_wp2_with fail
    refine (toLog _ _ _ _).mono ?_
    rintro e w4 ⟨rfl, hb⟩
    clear k0 k1 k2
    have C5 := Lib.hid (carry3 C4.out hb); clear hb C4
    go_wp2_with fail
    refine (impl_crashLog _ _ _ _ _ _ hd2 hp2 C5.out.2.2.2.2.2.1).mono ?_
    rintro e w5 ⟨rfl, hb⟩
    have C6 := Lib.hid (carry3 C5.out hb); clear hb C5
    rw [HS.out]
    go_wp2
    go_ret
    exact ⟨rfl, C6.out.2.2.2.2.2.2⟩
end Go.Proofs.YtbjfpceoamiaoaaDoor
