/- Walks: a number with a record, and a text, drawn from bytes. -/
import Derived.Test.YtbjfpceoamiaoaaDoorCur11
namespace Go.Proofs.YtbjfpceoamiaoaaDoor
open Go Go.RowKit
set_option maxHeartbeats 2000000
set_option maxRecDepth 100000
def DrawnEnc (w : World) (e : Ending) (w' : World) : Prop := ∃ (k : Int) (c r : Str), -1 ≤ k ∧ k ≤ 60 ∧ c.length ≤ 16 ∧ r.length ≤ 16 ∧ e = .returned (.tuple #[.int .i64 k, .agg #[.string (S c), .string (S r)]]) ∧ Below w.heap.size w w'
theorem drawEncodeRecord (cv : Value) (w : World) (hc : CodeIs w cv) :
    Calls Tryd.prog 27 #[cv] w (DrawnEnc w) := by
  have hb0 : Below w.heap.size w (w.alloc (.cells #[.string (S []), .string (S [])] 39)) := (Below.refl w.heap.size w).alloc (Nat.le_refl _) _
  have hb1 := Lib.hid (hb0.alloc (by simp) (.cells #[cv, .int .i64 0, .int .u64 0] 70))
  have H1 := IsCur.fresh (t := 70) hc hb0
  have B1 := (Box2.fresh w [] [] 39).below ((Below.refl _ _).alloc (Nat.le_refl _) (.cells #[cv, .int .i64 0, .int .u64 0] 70))
  simp only [World.size_alloc] at H1
  have P0 := Lib.hid (CurPost.refl H1 (Nat.le_refl _))
  obtain ⟨ad, n, cap, rfl, _, _⟩ := hc
  clear hb0 H1
  go_enter Tryd.func27, Tryd.ntmps27
  go_wp2_with fail
  refine (cur_among _ (w.heap.size + 1) 0 _ _ [0, 1, 12, 59, 60, -1] _ (by decide) (by decide) (by decide) (by simp) (by omega) ?_ (P0.out.alloc _).1).mono ?_
  · intro j hj
    match j, hj with | 0, _ => go_simp | 1, _ => go_simp | 2, _ => go_simp | 3, _ => go_simp | 4, _ => go_simp | 5, _ => go_simp
  rintro e w1 ⟨k, hk, rfl, hcp⟩
  have hk2 : -1 ≤ k ∧ k ≤ 60 := by
    simp only [List.mem_cons, List.not_mem_nil, or_false] at hk
    omega
  have P1 := Lib.hid ((P0.out.alloc _).trans hcp)
  have B2 := (B1.below ((Below.refl _ _).alloc (Nat.le_refl _) _)).aside hcp.2.1 (by omega)
  clear hcp P0 B1 hk
  obtain ⟨q0, q1, q2, q3, q4⟩ := B2
  have B2 : Box2 w1 w.heap.size [] [] := ⟨q0, q1, q2, q3, q4⟩
  have HB2 := Lib.hid B2; clear B2
  go_wp2_with fail
  refine (cur_record _ _ _ _ (by decide) P1.out.1).mono ?_
  rintro e w2 ⟨c, r, hcl, hrl, rfl, hcp⟩
  have P2 := Lib.hid (P1.out.trans hcp)
  obtain ⟨a0, a1, a2, a3, a4⟩ := HB2.out.aside hcp.2.1 (by omega)
  clear hcp P1 q0 q1 q2 q3 q4 HB2
  go_wp2
  refine bodyPost_ret (v := .tuple #[.int .i64 k, .agg #[.string (S c), .string (S r)]]) (by simp [results, Tryd.results27, go_sem, a0, a1]) rfl ⟨k, c, r, hk2.1, hk2.2, hcl, hrl, rfl, ?_⟩
  exact ((hb1.out.trans P2.out.2.2).setCell (Nat.le_refl _) _).setCell (Nat.le_refl _) _
end Go.Proofs.YtbjfpceoamiaoaaDoor
