/- Walk: the law of SyncLog. -/
import Derived.Test.YtbjfpceoamiaoaaDoorLog10
import Derived.Test.YtbjfpceoamiaoaaDoorPlainLog
namespace Go.Proofs.YtbjfpceoamiaoaaDoor
open Go Go.RowKit
set_option maxHeartbeats 400000
set_option maxRecDepth 100000
theorem sz2_le {a b : Nat} {left : Int} (h : 0 ≤ P.sz2 a b left) : (a : Int) + b ≤ left := by
  unfold P.sz2 at h
  split at h
  · omega
  · split at h <;> omega
theorem law_syncLog (d p : Str) (n : Int) (w : World) (hd : d.length ≤ maxLen) (hp : p.length ≤ maxLen) (hE : Env w) :
    Calls Tryd.prog 4 #[logV d p n] w fun e w' => e = .returned (.bool true) ∧ Below w.heap.size w w' := by
  have HE := Lib.hid hE; clear hE
  rcases Int.lt_or_le (P.sz2 d.length p.length 1048576) 0 with h1 | h1
  · go_enter Tryd.func4, Tryd.ntmps4
    go_wp2_with fail
    refine (szLog _ _ _ _ _ hd hp (by omega) (by omega)).mono ?_
    rintro e w1 ⟨rfl, hb⟩
    go_wp2
    go_ret
    exact ⟨rfl, ((Below.refl _ _).alloc (Nat.le_refl _) _).trans (hb.mono (by simp))⟩
  · have hle := sz2_le h1
    have hd2 : d.length ≤ 2 ^ 20 := by omega
    have hp2 : p.length ≤ 2 ^ 20 := by omega
    have HS := Lib.hid (P.sync_eq d p n)
    go_enter Tryd.func4, Tryd.ntmps4
    go_wp2_with fail
    have C1 := Lib.hid (box3 (w := w) (x := .string (S d)) (y := .string (S p)) (z := .int .i64 n) (t := 23) HE.out (Below.refl _ _) (Nat.le_refl _))
    refine (szLog _ _ _ _ _ hd hp (by omega) (by omega)).mono ?_
    rintro e w1 ⟨rfl, hb⟩
    have C2 := Lib.hid (carry3 C1.out hb); clear hb C1
    obtain ⟨k0, k1, k2, _⟩ := C2.out
    go_wp2_with fail
    refine (toLog _ _ _ _).mono ?_
    rintro e w2 ⟨rfl, hb⟩
    clear k0 k1 k2
    have C3 := Lib.hid (carry3 C2.out hb); clear hb C2
    obtain ⟨k0, k1, k2, _⟩ := C3.out
    go_wp2_with fail
    refine (spec_syncLog _ _ _ _ hd2 hp2).mono ?_
    rintro e w3 ⟨rfl, hb⟩
    clear k0 k1 k2
    have C4 := Lib.hid (carry3 C3.out hb); clear hb C3
    obtain ⟨k0, k1, k2, _, kz, kE, kB⟩ := C4.out
    have D1 := Lib.hid (box3 (w := w) (x := .string (S (P.syncLog d p n).1)) (y := .string (S [])) (z := .int .i64 (P.syncLog d p n).2.1) (t := 27) kE kB (Nat.le_of_lt kz))
    have C5 := Lib.hid (carry3 C4.out ((Below.refl _ _).alloc (Nat.le_refl _) (.cells #[.string (S (P.syncLog d p n).1), .string (S []), .int .i64 (P.syncLog d p n).2.1] 27)))
    clear kE kB C4
    go_wp2_with fail
    refine (toLog _ _ _ _).mono ?_
    rintro e w4 ⟨rfl, hb⟩
    clear k0 k1 k2
    have C6 := Lib.hid (carry3 C5.out hb)
    have D2 := Lib.hid (carry3 D1.out hb); clear hb C5 D1
    go_wp2_with fail
    refine (impl_syncLog _ _ _ _ hd2 hp2 C6.out.2.2.2.2.2.1).mono ?_
    rintro e w5 ⟨rfl, hb⟩
    have D3 := Lib.hid (carry3 D2.out hb); clear hb C6 D2
    rw [HS.out]
    obtain ⟨k0, k1, k2, _, kz5, _⟩ := D3.out
    go_wp2_with fail
    refine (eqLog _ _ _ _ _ _ _).mono ?_
    rintro e w6 ⟨rfl, hb⟩
    have HB6 := Lib.hid ((D3.out.2.2.2.2.2.2.alloc (Nat.le_trans D3.out.2.2.2.1 (Nat.le_of_lt D3.out.2.2.2.2.1)) _).trans (hb.mono (by have h1 := D3.out.2.2.2.1; have h2 := D3.out.2.2.2.2.1; simp; omega)))
    clear hb k0 k1 k2
    go_wp2
    go_ret
    exact ⟨rfl, HB6.out⟩
end Go.Proofs.YtbjfpceoamiaoaaDoor
