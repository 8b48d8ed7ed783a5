/- Walks: a text put, an atom applied (reference). -/
import Derived.Deep.DeepCutAuto
import Derived.Deep.RegionHeld
import Derived.RegionTactic
import Derived.BigRegion
import Derived.BigQuiet
import Derived.Test.YtmlklnimoknojaaGreatDoorFmtS
import Derived.Test.YtmlklnimoknojaaGreatDoorMemE
namespace Go.Proofs.YtmlklnimoknojaaGreatDoor
open Go Go.RowKit
set_option maxHeartbeats 4000000
set_option maxRecDepth 100000
theorem l12Case (s : Str) (k : Int) (w : World) (hk : 0 ≤ k ∧ k ≤ 2) (hs : s.length ≤ 2 ^ 40) :
    Calls Tryz.prog 194 #[.string (S s), .int .i64 k] w fun e w' => e = .returned (.string (S (P.caseW s k))) ∧ Below w.heap.size w w' := by
  have h3 : k = 0 ∨ k = 1 ∨ k = 2 := by omega
  cases s with
  | nil =>
    have HC := Lib.hid (show P.caseW [] k = [] by rcases h3 with rfl | rfl | rfl <;> rfl)
    go_enter Tryz.func194, Tryz.ntmps194
    go_wp2
    go_ret
    exact ⟨ret_str HC.out.symm, Below.refl _ _⟩
  | cons b t =>
    have hn : ((b :: t : Str) == []) = false := rfl
    have hsl : t.length + 1 ≤ 2 ^ 40 := hs
    have j1 : (1 : Int) ≤ (t.length : Int) + 1 := by omega
    have j2 : ¬ 9223372036854775807 < 1 + t.length := by omega
    clear hs
    rcases h3 with rfl | rfl | rfl
    · have HC := Lib.hid (show P.caseW (b :: t) 0 = [b] ++ t from rfl)
      go_enter Tryz.func194, Tryz.ntmps194
      have hback := run_convert_bytes_back (P := Tryz.prog) ((w.alloc (.cells #[.int .u8 ((b).toNat : Int)] 5)).drew) 22 9 5 ⟨w.heap.size, 0, none⟩ 1 [b] Tryz.underlying22 Tryz.underlying5 Tryz.underlying9 (by
        intro j hj
        have : j = 0 := by simpa using hj
        subst this
        rw [add0]
        go_simp)
      simp only [List.length_cons, List.length_nil, Nat.zero_add] at hback
      go_upto_region 8 with fail
      go_region
      all_goals
        go_wp2
        go_ret
        exact ⟨ret_str HC.out.symm, ((Below.refl _ _).alloc (Nat.le_refl _) _).drew⟩
    · by_cases h1 : 97 ≤ (b.toNat : Int)
      · by_cases h2 : (b.toNat : Int) ≤ 122
        · have hl := P.lower_yes h1 h2
          have HC := Lib.hid (show P.caseW (b :: t) 1 = [b - 32] ++ t by show P.upper (b :: t) = _; rw [P.upper_yes hl]; rfl)
          obtain ⟨h4, _⟩ := u8_sub hl
          have e1 : IntKind.u8.wrap ((b.toNat : Int) - 32) = ((b - 32).toNat : Int) := by rw [h4, IntKind.wrap_u8]; omega
          clear hl h4
          go_enter Tryz.func194, Tryz.ntmps194
          have hback := run_convert_bytes_back (P := Tryz.prog) ((w.alloc (.cells #[.int .u8 ((b - 32).toNat : Int)] 5)).drew) 22 9 5 ⟨w.heap.size, 0, none⟩ 1 [b - 32] Tryz.underlying22 Tryz.underlying5 Tryz.underlying9 (by
            intro j hj
            have : j = 0 := by simpa using hj
            subst this
            rw [add0]
            go_simp)
          simp only [List.length_cons, List.length_nil, Nat.zero_add] at hback
          go_upto_region 8 with fail
          go_region
          all_goals
            go_wp2
            go_ret
            exact ⟨ret_str HC.out.symm, ((Below.refl _ _).alloc (Nat.le_refl _) _).drew⟩
        · have HC := Lib.hid (show P.caseW (b :: t) 1 = [b] ++ t from P.upper_no (P.lower_no (.inr (by omega))))
          go_enter Tryz.func194, Tryz.ntmps194
          have hback := run_convert_bytes_back (P := Tryz.prog) ((w.alloc (.cells #[.int .u8 ((b).toNat : Int)] 5)).drew) 22 9 5 ⟨w.heap.size, 0, none⟩ 1 [b] Tryz.underlying22 Tryz.underlying5 Tryz.underlying9 (by
            intro j hj
            have : j = 0 := by simpa using hj
            subst this
            rw [add0]
            go_simp)
          simp only [List.length_cons, List.length_nil, Nat.zero_add] at hback
          go_upto_region 8 with fail
          go_region
          all_goals
            go_wp2
            go_ret
            exact ⟨ret_str HC.out.symm, ((Below.refl _ _).alloc (Nat.le_refl _) _).drew⟩
      · have HC := Lib.hid (show P.caseW (b :: t) 1 = [b] ++ t from P.upper_no (P.lower_no (.inl (by omega))))
        go_enter Tryz.func194, Tryz.ntmps194
        have hback := run_convert_bytes_back (P := Tryz.prog) ((w.alloc (.cells #[.int .u8 ((b).toNat : Int)] 5)).drew) 22 9 5 ⟨w.heap.size, 0, none⟩ 1 [b] Tryz.underlying22 Tryz.underlying5 Tryz.underlying9 (by
          intro j hj
          have : j = 0 := by simpa using hj
          subst this
          rw [add0]
          go_simp)
        simp only [List.length_cons, List.length_nil, Nat.zero_add] at hback
        go_upto_region 8 with fail
        go_region
        all_goals
          go_wp2
          go_ret
          exact ⟨ret_str HC.out.symm, ((Below.refl _ _).alloc (Nat.le_refl _) _).drew⟩
    · by_cases h1 : 65 ≤ (b.toNat : Int)
      · by_cases h2 : (b.toNat : Int) ≤ 90
        · have hl := P.upB_yes h1 h2
          have HC := Lib.hid (show P.caseW (b :: t) 2 = [b + 32] ++ t by show P.lowered (b :: t) = _; rw [P.lowered_yes hl]; rfl)
          obtain ⟨h4, _⟩ := u8_add hl
          clear hl
          go_enter Tryz.func194, Tryz.ntmps194
          have hback := run_convert_bytes_back (P := Tryz.prog) ((w.alloc (.cells #[.int .u8 ((b.toNat : Int) + 32)] 5)).drew) 22 9 5 ⟨w.heap.size, 0, none⟩ 1 [b + 32] Tryz.underlying22 Tryz.underlying5 Tryz.underlying9 (by
            intro j hj
            have : j = 0 := by simpa using hj
            subst this
            rw [add0]
            show _ = some (Value.int IntKind.u8 (((b + 32).toNat : Nat) : Int))
            rw [h4]
            go_simp)
          simp only [List.length_cons, List.length_nil, Nat.zero_add] at hback
          go_upto_region 8 with fail
          go_region
          all_goals
            go_wp2
            go_ret
            exact ⟨ret_str HC.out.symm, ((Below.refl _ _).alloc (Nat.le_refl _) _).drew⟩
        · have HC := Lib.hid (show P.caseW (b :: t) 2 = [b] ++ t from P.lowered_no (P.upB_no (.inr (by omega))))
          go_enter Tryz.func194, Tryz.ntmps194
          have hback := run_convert_bytes_back (P := Tryz.prog) ((w.alloc (.cells #[.int .u8 ((b).toNat : Int)] 5)).drew) 22 9 5 ⟨w.heap.size, 0, none⟩ 1 [b] Tryz.underlying22 Tryz.underlying5 Tryz.underlying9 (by
            intro j hj
            have : j = 0 := by simpa using hj
            subst this
            rw [add0]
            go_simp)
          simp only [List.length_cons, List.length_nil, Nat.zero_add] at hback
          go_upto_region 8 with fail
          go_region
          all_goals
            go_wp2
            go_ret
            exact ⟨ret_str HC.out.symm, ((Below.refl _ _).alloc (Nat.le_refl _) _).drew⟩
      · have HC := Lib.hid (show P.caseW (b :: t) 2 = [b] ++ t from P.lowered_no (P.upB_no (.inl (by omega))))
        go_enter Tryz.func194, Tryz.ntmps194
        have hback := run_convert_bytes_back (P := Tryz.prog) ((w.alloc (.cells #[.int .u8 ((b).toNat : Int)] 5)).drew) 22 9 5 ⟨w.heap.size, 0, none⟩ 1 [b] Tryz.underlying22 Tryz.underlying5 Tryz.underlying9 (by
          intro j hj
          have : j = 0 := by simpa using hj
          subst this
          rw [add0]
          go_simp)
        simp only [List.length_cons, List.length_nil, Nat.zero_add] at hback
        go_upto_region 8 with fail
        go_region
        all_goals
          go_wp2
          go_ret
          exact ⟨ret_str HC.out.symm, ((Below.refl _ _).alloc (Nat.le_refl _) _).drew⟩
abbrev st0 : P.St := ⟨[], false, false, 0, 0⟩
def SPut (w : World) (s : P.St) (v : World) : Prop := StBox w.heap.size s v ∧ StBox (w.heap.size + 1) st0 v ∧ Below w.heap.size w v
theorem SPut.below {w v v' : World} {s : P.St} (h : SPut w s v) (hb : Below v.heap.size v v') : SPut w s v' := ⟨h.1.below hb, h.2.1.below hb, h.2.2.trans (hb.mono h.2.2.size)⟩
theorem l12Put (s : P.St) (t : Str) (w : World) (hc : 0 ≤ s.cap ∧ s.cap ≤ 2) (hl : s.text.length ≤ 2 ^ 30) (ht : t.length ≤ 2 ^ 30) :
    Calls Tryz.prog 192 #[stV s, .string (S t)] w fun e w' => e = .returned (stV (P.put s t)) ∧ Below w.heap.size w w' := by
  obtain ⟨tx, jn, gl, cp, wd⟩ := s
  simp only at hc hl
  have HCP := Lib.hid hc
  clear hc
  cases jn
  · skip
    have hb0 : Below w.heap.size w ((w.alloc (stCells ⟨(tx ++ [32]), false, gl, cp, tx.length + 1⟩)).alloc (stCells st0)) := ((Below.refl w.heap.size w).alloc (Nat.le_refl _) _).alloc (by simp) _
    have HX1 := Lib.hid (((StBox.new ⟨(tx ++ [32]), false, gl, cp, tx.length + 1⟩ w).below ((Below.refl _ _).alloc (Nat.le_refl _) (stCells st0))).below (Below.refl _ _).drew)
    have HR1 := Lib.hid (show StBox (w.heap.size + 1) st0 ((w.alloc (stCells ⟨(tx ++ [32]), false, gl, cp, tx.length + 1⟩)).alloc (stCells st0)).drew by have h := (StBox.new st0 (w.alloc (stCells ⟨(tx ++ [32]), false, gl, cp, tx.length + 1⟩))).below (Below.refl _ _).drew; simpa using h)
    have HB1 := Lib.hid hb0.drew
    have hcl := P.caseW_len t cp
    have j1 : ¬ 9223372036854775807 < tx.length + 1 + (P.caseW t cp).length := by omega
    have j2 : ¬ 9223372036854775807 < tx.length + (P.caseW t cp).length := by omega
    have j3 : tx.length + (P.caseW t cp).length ≤ 9223372036854775807 := by omega
    have j4 : tx.length + 1 + (P.caseW t cp).length ≤ 9223372036854775807 := by omega
    clear hb0 hcl
    go_enter Tryz.func192, Tryz.ntmps192
    go_upto_region 4 with fail
    refine Left.region [8] (S := SPut w ⟨(tx ++ [32]), false, gl, cp, tx.length + 1⟩) (by kernel_rfl) ⟨HX1.out, HR1.out, HB1.out⟩ (fun hS0 => ?_)
    clear HX1 HR1 HB1
    generalize (World.drew _) = v0 at *
    have HS0 := Lib.hid hS0
    refine Left.take (i := 0) (v := .pointer (some ⟨w.heap.size, 0, none⟩)) rfl (by kernel_rfl) (by kernel_rfl) (by kernel_rfl) (by kernel_rfl) (fun _ _ _ h => h) (Or.inl ⟨by rfl, fun z hz => ?_⟩) hS0 ?_
    · obtain ⟨⟨⟨z0, z1, z2, z3, z4⟩, ⟨y0, y1, y2, y3, y4⟩, yl⟩, _, _⟩ := hz
      go_simp
    try simp only [qA, qB, Act.put, qD, qE, qF]
    refine Left.take (i := 1) (v := .string (S (tx ++ [32]))) rfl (by kernel_rfl) (by kernel_rfl) (by kernel_rfl) (by kernel_rfl) (fun _ _ _ h => h) (Or.inl ⟨by rfl, fun z hz => ?_⟩) hS0 ?_
    · obtain ⟨⟨⟨z0, z1, z2, z3, z4⟩, ⟨y0, y1, y2, y3, y4⟩, yl⟩, _, _⟩ := hz
      go_simp
    try simp only [qA, qB, qC, Act.put, qD, qE, qF]
    refine Left.take (i := 2) (v := .string (S t)) rfl (by kernel_rfl) (by kernel_rfl) (by kernel_rfl) (by kernel_rfl) (fun _ _ _ h => h) (Or.inl ⟨by rfl, fun z hz => ?_⟩) hS0 ?_
    · obtain ⟨⟨⟨z0, z1, z2, z3, z4⟩, ⟨y0, y1, y2, y3, y4⟩, yl⟩, _, _⟩ := hz
      go_simp
    try simp only [qA, qB, qC, Act.put, qD, qE, qF]
    refine Left.take (i := 3) (v := .pointer (some ⟨w.heap.size, 3, none⟩)) rfl (by kernel_rfl) (by kernel_rfl) (by kernel_rfl) (by kernel_rfl) (fun _ _ _ h => h) (Or.inl ⟨by rfl, fun z hz => ?_⟩) hS0 ?_
    · obtain ⟨⟨⟨z0, z1, z2, z3, z4⟩, ⟨y0, y1, y2, y3, y4⟩, yl⟩, _, _⟩ := hz
      go_simp
    try simp only [qA, qB, qC, Act.put, qD, qE, qF]
    refine Left.take (i := 4) (v := .int .i64 cp) rfl (by kernel_rfl) (by kernel_rfl) (by kernel_rfl) (by kernel_rfl) (fun _ _ _ h => h) (Or.inl ⟨by rfl, fun z hz => ?_⟩) hS0 ?_
    · obtain ⟨⟨⟨z0, z1, z2, z3, z4⟩, ⟨y0, y1, y2, y3, y4⟩, yl⟩, _, _⟩ := hz
      go_simp
    try simp only [qA, qB, qC, Act.put, qD, qE, qF]
    refine Left.ready (rs := [5]) (by kernel_rfl) (by simp) ?_
    refine Nexts.cons rfl (fun K hK => ?_) Nexts.nil
    go_simp
    refine (l12Case t cp _ HCP.out (by omega)).mono ?_
    rintro e v1 ⟨rfl, hb⟩
    have HS2 := Lib.hid (HS0.out.below hb)
    refine on_held hK (by decide) HS2.out (fun hS1 => ?_)
    clear hK K hb HS0 hS0
    try simp only [qA, qB, qC, Act.put, qD, qE, qF]
    refine Left.take (i := 6) (v := .string (S ((tx ++ [32]) ++ P.caseW t cp))) rfl (by kernel_rfl) (by kernel_rfl) (by kernel_rfl) (by kernel_rfl) (fun _ _ _ h => h) (Or.inl ⟨by rfl, fun z hz => ?_⟩) hS1 ?_
    · obtain ⟨⟨⟨z0, z1, z2, z3, z4⟩, ⟨y0, y1, y2, y3, y4⟩, yl⟩, _, _⟩ := hz
      go_simp
    try simp only [qA, qB, qC, Act.put, qD, qE, qF]
    refine Left.take (i := 7) (v := .pointer (some ⟨w.heap.size, 0, none⟩)) rfl (by kernel_rfl) (by kernel_rfl) (by kernel_rfl) (by kernel_rfl) (fun _ _ _ h => h) (Or.inl ⟨by rfl, fun z hz => ?_⟩) hS1 ?_
    · obtain ⟨⟨⟨z0, z1, z2, z3, z4⟩, ⟨y0, y1, y2, y3, y4⟩, yl⟩, _, _⟩ := hz
      go_simp
    try simp only [qA, qB, qC, Act.put, qD, qE, qF]
    refine Left.ready (rs := [8]) (by kernel_rfl) (by simp) ?_
    refine Nexts.cons rfl (fun K hK => ?_) Nexts.nil
    obtain ⟨⟨a0, a1, a2, a3, a4⟩, ⟨f0, f1, f2, f3, f4⟩, hlt⟩ := HS2.out.1
    go_simp
    refine on_last hK (by decide) ?_
    clear hK K
    try simp only [qA, qB, qC, Act.put, qD, qE, qF]
    refine Left.done (by kernel_rfl) ?_ _
    obtain ⟨⟨b0, b1, b2, b3, b4⟩, ⟨g0, g1, g2, g3, g4⟩, hlr⟩ := HS2.out.2.1
    simp only at a0 a1 a2 a3 a4 b0 b1 b2 b3 b4
    go_wp2
    refine bodyPost_ret (v := stV (P.put ⟨tx, false, gl, cp, wd⟩ t)) (by simp [results, Tryz.results192, go_sem, b0, b1, b2, b3, b4, P.put, P.base]) rfl ⟨rfl, ?_⟩
    repeat (refine Below.setCell ?_ (by simp) _)
    exact HS2.out.2.2
  · skip
    have hb0 : Below w.heap.size w ((w.alloc (stCells ⟨tx, true, gl, cp, tx.length⟩)).alloc (stCells st0)) := ((Below.refl w.heap.size w).alloc (Nat.le_refl _) _).alloc (by simp) _
    have HX1 := Lib.hid (((StBox.new ⟨tx, true, gl, cp, tx.length⟩ w).below ((Below.refl _ _).alloc (Nat.le_refl _) (stCells st0))).below (Below.refl _ _).drew)
    have HR1 := Lib.hid (show StBox (w.heap.size + 1) st0 ((w.alloc (stCells ⟨tx, true, gl, cp, tx.length⟩)).alloc (stCells st0)).drew by have h := (StBox.new st0 (w.alloc (stCells ⟨tx, true, gl, cp, tx.length⟩))).below (Below.refl _ _).drew; simpa using h)
    have HB1 := Lib.hid hb0.drew
    have hcl := P.caseW_len t cp
    have j1 : ¬ 9223372036854775807 < tx.length + 1 + (P.caseW t cp).length := by omega
    have j2 : ¬ 9223372036854775807 < tx.length + (P.caseW t cp).length := by omega
    have j3 : tx.length + (P.caseW t cp).length ≤ 9223372036854775807 := by omega
    have j4 : tx.length + 1 + (P.caseW t cp).length ≤ 9223372036854775807 := by omega
    clear hb0 hcl
    go_enter Tryz.func192, Tryz.ntmps192
    go_upto_region 4 with fail
    refine Left.region [8] (S := SPut w ⟨tx, true, gl, cp, tx.length⟩) (by kernel_rfl) ⟨HX1.out, HR1.out, HB1.out⟩ (fun hS0 => ?_)
    clear HX1 HR1 HB1
    generalize (World.drew _) = v0 at *
    have HS0 := Lib.hid hS0
    refine Left.take (i := 0) (v := .pointer (some ⟨w.heap.size, 0, none⟩)) rfl (by kernel_rfl) (by kernel_rfl) (by kernel_rfl) (by kernel_rfl) (fun _ _ _ h => h) (Or.inl ⟨by rfl, fun z hz => ?_⟩) hS0 ?_
    · obtain ⟨⟨⟨z0, z1, z2, z3, z4⟩, ⟨y0, y1, y2, y3, y4⟩, yl⟩, _, _⟩ := hz
      go_simp
    try simp only [qA, qB, Act.put, qD, qE, qF]
    refine Left.take (i := 1) (v := .string (S tx)) rfl (by kernel_rfl) (by kernel_rfl) (by kernel_rfl) (by kernel_rfl) (fun _ _ _ h => h) (Or.inl ⟨by rfl, fun z hz => ?_⟩) hS0 ?_
    · obtain ⟨⟨⟨z0, z1, z2, z3, z4⟩, ⟨y0, y1, y2, y3, y4⟩, yl⟩, _, _⟩ := hz
      go_simp
    try simp only [qA, qB, qC, Act.put, qD, qE, qF]
    refine Left.take (i := 2) (v := .string (S t)) rfl (by kernel_rfl) (by kernel_rfl) (by kernel_rfl) (by kernel_rfl) (fun _ _ _ h => h) (Or.inl ⟨by rfl, fun z hz => ?_⟩) hS0 ?_
    · obtain ⟨⟨⟨z0, z1, z2, z3, z4⟩, ⟨y0, y1, y2, y3, y4⟩, yl⟩, _, _⟩ := hz
      go_simp
    try simp only [qA, qB, qC, Act.put, qD, qE, qF]
    refine Left.take (i := 3) (v := .pointer (some ⟨w.heap.size, 3, none⟩)) rfl (by kernel_rfl) (by kernel_rfl) (by kernel_rfl) (by kernel_rfl) (fun _ _ _ h => h) (Or.inl ⟨by rfl, fun z hz => ?_⟩) hS0 ?_
    · obtain ⟨⟨⟨z0, z1, z2, z3, z4⟩, ⟨y0, y1, y2, y3, y4⟩, yl⟩, _, _⟩ := hz
      go_simp
    try simp only [qA, qB, qC, Act.put, qD, qE, qF]
    refine Left.take (i := 4) (v := .int .i64 cp) rfl (by kernel_rfl) (by kernel_rfl) (by kernel_rfl) (by kernel_rfl) (fun _ _ _ h => h) (Or.inl ⟨by rfl, fun z hz => ?_⟩) hS0 ?_
    · obtain ⟨⟨⟨z0, z1, z2, z3, z4⟩, ⟨y0, y1, y2, y3, y4⟩, yl⟩, _, _⟩ := hz
      go_simp
    try simp only [qA, qB, qC, Act.put, qD, qE, qF]
    refine Left.ready (rs := [5]) (by kernel_rfl) (by simp) ?_
    refine Nexts.cons rfl (fun K hK => ?_) Nexts.nil
    go_simp
    refine (l12Case t cp _ HCP.out (by omega)).mono ?_
    rintro e v1 ⟨rfl, hb⟩
    have HS2 := Lib.hid (HS0.out.below hb)
    refine on_held hK (by decide) HS2.out (fun hS1 => ?_)
    clear hK K hb HS0 hS0
    try simp only [qA, qB, qC, Act.put, qD, qE, qF]
    refine Left.take (i := 6) (v := .string (S (tx ++ P.caseW t cp))) rfl (by kernel_rfl) (by kernel_rfl) (by kernel_rfl) (by kernel_rfl) (fun _ _ _ h => h) (Or.inl ⟨by rfl, fun z hz => ?_⟩) hS1 ?_
    · obtain ⟨⟨⟨z0, z1, z2, z3, z4⟩, ⟨y0, y1, y2, y3, y4⟩, yl⟩, _, _⟩ := hz
      go_simp
    try simp only [qA, qB, qC, Act.put, qD, qE, qF]
    refine Left.take (i := 7) (v := .pointer (some ⟨w.heap.size, 0, none⟩)) rfl (by kernel_rfl) (by kernel_rfl) (by kernel_rfl) (by kernel_rfl) (fun _ _ _ h => h) (Or.inl ⟨by rfl, fun z hz => ?_⟩) hS1 ?_
    · obtain ⟨⟨⟨z0, z1, z2, z3, z4⟩, ⟨y0, y1, y2, y3, y4⟩, yl⟩, _, _⟩ := hz
      go_simp
    try simp only [qA, qB, qC, Act.put, qD, qE, qF]
    refine Left.ready (rs := [8]) (by kernel_rfl) (by simp) ?_
    refine Nexts.cons rfl (fun K hK => ?_) Nexts.nil
    obtain ⟨⟨a0, a1, a2, a3, a4⟩, ⟨f0, f1, f2, f3, f4⟩, hlt⟩ := HS2.out.1
    go_simp
    refine on_last hK (by decide) ?_
    clear hK K
    try simp only [qA, qB, qC, Act.put, qD, qE, qF]
    refine Left.done (by kernel_rfl) ?_ _
    obtain ⟨⟨b0, b1, b2, b3, b4⟩, ⟨g0, g1, g2, g3, g4⟩, hlr⟩ := HS2.out.2.1
    simp only at a0 a1 a2 a3 a4 b0 b1 b2 b3 b4
    go_wp2
    refine bodyPost_ret (v := stV (P.put ⟨tx, true, gl, cp, wd⟩ t)) (by simp [results, Tryz.results192, go_sem, b0, b1, b2, b3, b4, P.put, P.base]) rfl ⟨rfl, ?_⟩
    repeat (refine Below.setCell ?_ (by simp) _)
    exact HS2.out.2.2
end Go.Proofs.YtmlklnimoknojaaGreatDoor
