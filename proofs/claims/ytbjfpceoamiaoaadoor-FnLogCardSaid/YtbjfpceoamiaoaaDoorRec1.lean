/- Walks: rows of records compared and marked. -/
import Derived.Deep.DeepCutAuto
import Derived.Deep.RegionLaw
import Derived.Test.YtbjfpceoamiaoaaDoorLog11
import Derived.Test.YtbjfpceoamiaoaaDoorPlainLog
namespace Go.Proofs.YtbjfpceoamiaoaaDoor
namespace P
/-- the digits of a number, none for zero -/
def digs (n : Nat) : Bs := if _h : n = 0 then [] else digs (n / 10) ++ [UInt8.ofNat (48 + n % 10)]
termination_by n
decreasing_by omega
def mark (k : Int) : Bs := if k ≤ 0 then [109, 48] else 109 :: digs k.toNat
theorem digs_step {n : Nat} (h : n ≠ 0) : digs n = digs (n / 10) ++ [UInt8.ofNat (48 + n % 10)] := by rw [digs, dif_neg h]
theorem digs_zero : digs 0 = [] := by rw [digs, dif_pos rfl]
end P
open Go Go.RowKit
set_option maxHeartbeats 400000
set_option maxRecDepth 100000
theorem eqLogRecord (c r c' r' : Str) (w : World) :
    Calls Tryd.prog 46 #[.agg #[.string (S c), .string (S r)], .agg #[.string (S c'), .string (S r')]] w fun e w' => e = .returned (.bool ((c == c') && (r == r'))) ∧ Below w.heap.size w w' := by
  cases h1 : (c == c') <;> cases h2 : (r == r')
  all_goals
    go_enter Tryd.func46, Tryd.ntmps46
    go_wp2
    go_ret
    exact ⟨rfl, ((Below.refl _ _).alloc (Nat.le_refl _) _).alloc (by simp) _⟩
theorem markText (k : Int) (w : World) (h : k < 2 ^ 40) :
    Calls Tryd.prog 47 #[.int .i64 k] w fun e w' => e = .returned (.string (S (P.mark k))) ∧ Below w.heap.size w w' := by
  rcases Int.lt_or_le 0 k with h0 | h0
  · obtain ⟨n, rfl⟩ := Int.eq_ofNat_of_zero_le (Int.le_of_lt h0)
    have HF := Lib.hid (show P.mark (n : Int) = 109 :: P.digs n by unfold P.mark; rw [if_neg (by omega)]; rfl)
    have hn : n < 1099511627776 := by omega
    have hp : ¬ (n : Int) ≤ 0 := by omega
    clear h h0
    go_enter Tryd.func47, Tryd.ntmps47
    go_wp2
    go_loopw [0, 3] (fun i t wr => ∃ (m : Nat) (s : Str), i = .int .i64 m ∧ t = .string (S s) ∧ m + s.length ≤ n ∧ P.digs m ++ s = P.digs n ∧ Below w.heap.size w wr) (fun i _ _ => (intOf i).toNat)
    case atStart => exact ⟨n, [], rfl, rfl, Nat.le_refl _, by simp, Below.refl _ _⟩
    case round =>
      obtain ⟨m, s, rfl, rfl, hms, hd, hb⟩ := hrel
      have HD := Lib.hid hd; clear hd
      have HB := Lib.hid hb; clear hb
      have hsz := HB.out.size
      by_cases hm : 0 < m
      · obtain ⟨b, hb⟩ : ∃ b, b = UInt8.ofNat (48 + m % 10) := ⟨_, rfl⟩
        have HD2 := Lib.hid (show P.digs m = P.digs (m / 10) ++ [b] by rw [hb]; exact P.digs_step (by omega))
        have e : ((b.toNat : Nat) : Int) = 48 + (m : Int) % 10 := by
          have h1 : 48 + m % 10 < 256 := by omega
          rw [hb, UInt8.toNat_ofNat_of_lt' h1]; omega
        clear hb
        have hback := run_convert_bytes_back (P := Tryd.prog) (wr.alloc (.cells #[.int .u8 (48 + (m : Int) % 10)] 5)) 47 9 5 ⟨wr.heap.size, 0, none⟩ 1 [b] Tryd.underlying47 Tryd.underlying5 Tryd.underlying9 (by
          intro j hj
          have hj0 : j = 0 := by simpa using hj
          subst hj0
          rw [add0]
          simp only [List.getElem_cons_zero, e]
          go_simp)
        rw [show [b].length = 1 from rfl] at hback
        clear e
        go_wp2
        go_roundw
        case rel => exact ⟨m / 10, b :: s, by go_num, rfl, by simp; omega, by rw [← HD.out, HD2.out]; simp, HB.out.alloc hsz _⟩
        case measure => simp [intOf]; omega
      · have hm0 : m = 0 := by omega
        subst hm0
        have HS := Lib.hid (show s = P.digs n by have := HD.out; rwa [P.digs_zero, List.nil_append] at this)
        clear HD
        go_wp2
        go_ret
        exact ⟨by rw [HF.out, ← HS.out]; rfl, HB.out⟩
  · have HF := Lib.hid (show P.mark k = [109, 48] by unfold P.mark; rw [if_pos h0])
    go_enter Tryd.func47, Tryd.ntmps47
    go_wp2
    go_ret
    exact ⟨by rw [HF.out]; rfl, Below.refl _ _⟩
end Go.Proofs.YtbjfpceoamiaoaaDoor
