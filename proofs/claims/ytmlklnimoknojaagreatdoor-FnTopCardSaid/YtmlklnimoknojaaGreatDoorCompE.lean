/- Tools of the law FnPress: what a press reads, plain facts of a press and of an undoing. -/
import Derived.Test.YtmlklnimoknojaaGreatDoorScrI5
import Derived.Test.YtmlklnimoknojaaGreatDoorTool3
import Derived.Test.YtmlklnimoknojaaGreatDoorPlainTop
import Derived.Test.YtmlklnimoknojaaGreatDoorScrS8
namespace Go.Proofs.YtmlklnimoknojaaGreatDoor
namespace P
theorem apply_text2 {s : Bs} {e : Edit} (h : (applyE s e).2 = true) : e.2.length ≤ 2000 := by
  unfold applyE at h
  split at h
  · rename_i hc
    simp only [Bool.and_eq_true] at hc
    have h1 := hc.2.1
    unfold editOk at h1
    simp only [Bool.and_eq_true] at h1
    exact screen_len h1.2
  · cases h
theorem comp_no {a b : Edit} (h : (compE a b).2 = false) : compE a b = ((0, []), false) := by
  unfold compE at h ⊢
  split
  · rename_i hc
    rw [if_pos hc] at h
    split
    · rename_i h2
      rw [if_pos h2] at h
      cases h
    · rfl
  · rfl
/-- what a press that is done has done -/
theorem press_facts {l : Dic} {st nx : List Int} {s0 s1 et : Bs} {k en : Int} (hr : press l (st, s0) k = (((nx, s1), (en, et)), true)) :
    scr l nx = (s1, true) ∧ applyE s0 (en, et) = (s1, true) ∧ trans l (nx, s1) = true ∧ screen s0 = true ∧ screen s1 = true ∧
      (k ≠ 1024 → ∃ fn ft, press l (nx, s1) 1024 = (((st, s0), (fn, ft)), true) ∧ ft.length ≤ 2000 ∧ ∀ e, compE (en, et) (fn, ft) = (e, true) → applyE s0 e = (s0, true)) ∧
      (k = 1024 → nx.length = st.length - 1 ∧ (st = [] → nx = [] ∧ s1 = s0)) := by
  have h : (press l (st, s0) k).2 = true := by rw [hr]
  obtain ⟨h1, h2, h3, h4⟩ := press_ok h
  have h5 := press_trans h
  rw [hr] at h4 h5
  simp only at h4 h5
  injection h4 with h6 h7
  injection h6 with h8 h9
  have hs0 := trans_screen h1
  simp only at hs0
  have hs1 : screen s1 = true := by rw [h9]; exact scr_screen _ _
  refine ⟨?_, ?_, h5, hs0, hs1, fun hk => ?_, fun hk => ?_⟩
  · rw [h8, h9]; exact Prod.ext rfl h3
  · rw [h7, ← h9]; exact apply_least hs0 hs1
  · have hb := press_back h hk
    rw [hr] at hb
    simp only at hb
    refine ⟨(least s1 s0).1, (least s1 s0).2, hb, apply_text2 (s := s1) (e := least s1 s0) (by rw [apply_least hs1 hs0]), fun e he => ?_⟩
    have hc := comp_back (a := s0) (b := s1) hs0 hs1
    rw [h7, ← h9] at he
    have he' : compE (least s0 s1) (least s1 s0) = (e, true) := he
    rw [he'] at hc
    exact hc rfl
  · subst hk
    have hu := press_undo h
    rw [hr] at hu
    simp only at hu
    refine ⟨hu.1, fun he => ?_⟩
    have := hu.2 he
    injection this with h10 h11
    exact ⟨by rw [h10, he], h11⟩
end P
open Go Go.RowKit
set_option maxHeartbeats 2000000
def PrRd (nx : List Int) (sc : Str) (en : Int) (et : Str) (ok : Bool) (w : World) (e : Ending) (w' : World) : Prop :=
  ∃ d c, e = .returned (.tuple #[.agg #[.slice d nx.length c, .string (S sc)], .agg #[.int .i64 en, .string (S et)], .bool ok]) ∧ IntR w' (.slice d nx.length c) nx ∧ Below w.heap.size w w'
theorem pr_rd {r : (P.Tr × P.Edit) × Bool} {nx : List Int} {sc et : Str} {en : Int} {ok : Bool} (hr : r = (((nx, sc), (en, et)), ok)) (hl : nx.length ≤ 2 ^ 30) {w : World} (e : Ending) (w' : World) (h : PressPost r w e w') : PrRd nx sc en et ok w e w' := by
  subst hr
  obtain ⟨u, he, ho, hb⟩ := h
  simp only at ho
  obtain ⟨a, c, rfl⟩ := ownK_form ho
  exact ⟨a, c, he, ownK_read ho (by omega), hb⟩
/-- the boxes that the comparison reads -/
def PrS (a b c : Nat) (dv sv nv mv : Value) (s0 s1 : Str) (en : Int) (et : Str) (v : World) : Prop :=
  Box1 a dv v ∧ Box2E (a + 1) sv s0 v ∧ Box2E b nv s1 v ∧ Box2E (b + 1) (.int .i64 en) et v ∧ Box2E c mv s1 v ∧ Box2E (c + 1) (.int .i64 en) et v
theorem PrS.below {a b c : Nat} {dv sv nv mv : Value} {s0 s1 : Str} {en : Int} {et : Str} {v v' : World} (h : PrS a b c dv sv nv mv s0 s1 en et v) (hb : Below v.heap.size v v') : PrS a b c dv sv nv mv s0 s1 en et v' :=
  ⟨h.1.below hb, h.2.1.below hb, h.2.2.1.below hb, h.2.2.2.1.below hb, h.2.2.2.2.1.below hb, h.2.2.2.2.2.below hb⟩
theorem spec_isValidTranslator (dv sv : Value) (l : P.Dic) (st : List Int) (t : Str) (w : World) (hu : EntR w dv l) (hs : IntR w sv st) (hm : Small l) :
    Calls Tryz.prog 40 #[.agg #[dv], transV sv t] w fun e w' => e = .returned (.bool (P.trans l (st, t))) ∧ Below w.heap.size w w' := by
  have hb0 : Below w.heap.size w ((w.alloc (.cells #[dv] 26)).alloc (.cells #[sv, .string (S t)] 32)) := ((Below.refl w.heap.size w).alloc (Nat.le_refl _) _).alloc (by simp) _
  have HU := Lib.hid (hu.below hb0); have HST := Lib.hid (hs.below hb0); have HB0 := Lib.hid hb0
  clear hb0
  obtain ⟨ad, cap, rfl, _, _⟩ := hu
  obtain ⟨sd, sc, rfl, _, _⟩ := hs
  unfold transV
  go_enter Tryz.func40, Tryz.ntmps40
  go_wp2_with fail
  refine (l14Good _ _ l st t _ HU.out HST.out hm).mono ?_
  rintro e w1 ⟨rfl, hb⟩
  have HB1 := Lib.hid (HB0.out.trans (hb.mono (by simp; omega)))
  clear hb
  go_wp2
  go_ret
  exact ⟨rfl, HB1.out⟩
end Go.Proofs.YtmlklnimoknojaaGreatDoor

namespace Go.Proofs.YtmlklnimoknojaaGreatDoor
open Go Go.RowKit
set_option maxHeartbeats 4000000
set_option maxRecDepth 100000
def CompPost (r : P.Edit × Bool) (w : World) (e : Ending) (w' : World) : Prop :=
  e = .returned (.tuple #[.agg #[.int .i64 r.1.1, .string (S r.1.2)], .bool r.2]) ∧ Below w.heap.size w w'
/-- the boxes of a composing -/
def CmBx (b : Nat) (x1 x2 : Int) (t1 t2 : Str) (v : World) : Prop := Box2E b (.int .i64 x1) t1 v ∧ Box2E (b + 1) (.int .i64 x2) t2 v ∧ EBx (b + 1 + 1) v
theorem CmBx.below {b : Nat} {x1 x2 : Int} {t1 t2 : Str} {v v' : World} (h : CmBx b x1 x2 t1 t2 v) (hb : Below v.heap.size v v') : CmBx b x1 x2 t1 t2 v' := ⟨h.1.below hb, h.2.1.below hb, h.2.2.below hb⟩
theorem CmBx.stand {b : Nat} {x1 x2 : Int} {t1 t2 : Str} {v v' : World} {X : Blk} (h : CmBx b x1 x2 t1 t2 v) (hc : Chg X v v') (h0 : ¬ X b) (h1 : ¬ X (b + 1)) (h2 : ¬ X (b + 1 + 1)) : CmBx b x1 x2 t1 t2 v' := ⟨h.1.stand hc h0, h.2.1.stand hc h1, h.2.2.stand hc h2⟩
/-- what the text's region reads -/
def CmR (b : Nat) (x2 : Int) (t1 t2 : Str) (v : World) : Prop := v.cell? ⟨b, 1, none⟩ = some (.string (S t1)) ∧ v.cell? ⟨b + 1, 0, none⟩ = some (.int .i64 x2) ∧ v.cell? ⟨b + 1, 1, none⟩ = some (.string (S t2))
theorem composeEdits (x1 x2 : Int) (t1 t2 : Str) (w : World) (h1 : t1.length ≤ 2 ^ 30) (h2 : t2.length ≤ 2 ^ 30) :
    Calls Tryz.prog 17 #[.agg #[.int .i64 x1, .string (S t1)], .agg #[.int .i64 x2, .string (S t2)]] w (CompPost (P.compE (x1, t1) (x2, t2)) w) := by
  have HB0 := Lib.hid (show Below w.heap.size w (((w.alloc (.cells #[.int .i64 x1, .string (S t1)] 38)).alloc (.cells #[.int .i64 x2, .string (S t2)] 38)).alloc (.cells #[.int .i64 0, .string (S [])] 38)) from (((Below.refl w.heap.size w).alloc (Nat.le_refl _) _).alloc (by simp) _).alloc (by simp; omega) _)
  have HX0 := Lib.hid (show CmBx w.heap.size x1 x2 t1 t2 (((w.alloc (.cells #[.int .i64 x1, .string (S t1)] 38)).alloc (.cells #[.int .i64 x2, .string (S t2)] 38)).alloc (.cells #[.int .i64 0, .string (S [])] 38)) from ⟨⟨by go_simp, by go_simp, by simp <;> omega⟩, ⟨by go_simp, by go_simp, by simp <;> omega⟩, ⟨by simp, by go_simp, by go_simp, by go_simp, by go_simp⟩⟩)
  have HC := Lib.hid (show P.compE (x1, t1) (x2, t2) = if P.editOk (x1, t1) && P.editOk (x2, t2) then (if P.editOk (P.comp2 (x1, t1) (x2, t2)) then (P.comp2 (x1, t1) (x2, t2), true) else ((0, []), false)) else ((0, []), false) from rfl)
  have HE := fun (x : Int) (t : Str) (h : P.editOk (x, t) = true) => (show (0 ≤ x ∧ x ≤ 2000) ∧ t.length ≤ 2000 by
    unfold P.editOk at h
    simp only [Bool.and_eq_true, decide_eq_true_eq] at h
    exact ⟨h.1, P.screen_len h.2⟩)
  have HE1 := Lib.hid (HE x1 t1); have HE2 := Lib.hid (HE x2 t2)
  clear HE
  go_enter Tryz.func17, Tryz.ntmps17
  go_upto_region 1 with (fail)
  generalize (((w.alloc (.cells #[.int .i64 x1, .string (S t1)] 38)).alloc (.cells #[.int .i64 x2, .string (S t2)] 38)).alloc (.cells #[.int .i64 0, .string (S [])] 38)) = W0 at *
  obtain ⟨⟨k0, k1, _⟩, _⟩ := HX0.out
  go_wp2_with fail
  refine (isValidEdit x1 t1 _ (by omega)).mono ?_
  rintro e w1 ⟨rfl, hb⟩
  have HB1 := Lib.hid (HB0.out.trans (hb.mono HB0.out.size)); have HX1 := Lib.hid (HX0.out.below hb)
  clear hb k0 k1 HB0 HX0
  generalize P.editOk (x1, t1) = q at *
  cases q
  · have HP := Lib.hid (show P.compE (x1, t1) (x2, t2) = ((0, []), false) from HC.out)
    obtain ⟨_, _, ⟨_, k5, k6, k7, k8⟩⟩ := HX1.out
    go_wp2
    refine bodyPost_ret (v := .tuple #[.agg #[.int .i64 0, .string (S [])], .bool false]) (by simp [k5, k6, results, Tryz.results17, go_sem]) rfl ⟨by first | (rw [HP.out]; rfl) | rw [HP.out], ?_⟩
    exact (HB1.out.setCell (by simp <;> omega) _).setCell (by simp <;> omega) _
  · obtain ⟨⟨a1, a2⟩, a3⟩ := HE1.out rfl
    obtain ⟨_, ⟨k0, k1, _⟩, _⟩ := HX1.out
    go_wp2_with fail
    refine (isValidEdit x2 t2 _ (by omega)).mono ?_
    rintro e w2 ⟨rfl, hb⟩
    have HB2 := Lib.hid (HB1.out.trans (hb.mono HB1.out.size)); have HX2 := Lib.hid (HX1.out.below hb)
    clear hb k0 k1 HB1 HX1
    generalize P.editOk (x2, t2) = q at *
    cases q
    · have HP := Lib.hid (show P.compE (x1, t1) (x2, t2) = ((0, []), false) from HC.out)
      obtain ⟨_, _, ⟨_, k5, k6, k7, k8⟩⟩ := HX2.out
      go_wp2
      refine bodyPost_ret (v := .tuple #[.agg #[.int .i64 0, .string (S [])], .bool false]) (by simp [k5, k6, results, Tryz.results17, go_sem]) rfl ⟨by first | (rw [HP.out]; rfl) | rw [HP.out], ?_⟩
      exact (HB2.out.setCell (by simp <;> omega) _).setCell (by simp <;> omega) _
    · obtain ⟨⟨b1, b2⟩, b3⟩ := HE2.out rfl
      have HC := Lib.hid (show P.compE (x1, t1) (x2, t2) = if P.editOk (P.comp2 (x1, t1) (x2, t2)) then (P.comp2 (x1, t1) (x2, t2), true) else ((0, []), false) from HC.out)
      obtain ⟨m, hm⟩ : ∃ m : Nat, max (0 : Int) (x2 - (t1.length : Int)) = (m : Int) := ⟨(max (0 : Int) (x2 - (t1.length : Int))).toNat, by omega⟩
      obtain ⟨n1, rfl⟩ := Int.eq_ofNat_of_zero_le a1
      have hw1 : IntKind.i64.wrap (x2 - (t1.length : Int)) = x2 - (t1.length : Int) := IntWalk.i64_in _ (by omega)
      have hw2 : IntKind.i64.wrap ((n1 : Int) + (m : Int)) = (n1 : Int) + (m : Int) := IntWalk.i64_in _ (by omega)
      have HM := Lib.hid hm
      have hba := (Below.refl w2.heap.size w2).alloc (Nat.le_refl _) (.cells #[.int .i64 ((n1 : Int) + (m : Int)), .string (S t2)] 38)
      have HB3 := Lib.hid (HB2.out.trans (hba.mono HB2.out.size)); have HX3 := Lib.hid (HX2.out.below hba)
      have HO3 := Lib.hid (Box2E.new (.int .i64 ((n1 : Int) + (m : Int))) t2 38 w2)
      have hz3 : w.heap.size + 3 ≤ w2.heap.size := by have := HX2.out.2.2.1; omega
      obtain ⟨⟨k0, k1, _⟩, ⟨k2, k3, _⟩, _⟩ := HX2.out
      clear hba
      by_cases hx : x2 ≤ (t1.length : Int)
      · have hm0 : m = 0 := by omega
        obtain ⟨n2, rfl⟩ := Int.eq_ofNat_of_zero_le b1
        have HV := Lib.hid (show P.comp2 (((n1 : Nat) : Int), t1) (((n2 : Nat) : Int), t2) = ((n1 : Int) + (m : Int), t1.take (t1.length - n2) ++ t2) by
          unfold P.comp2
          rw [if_pos (by show (n2 : Int) ≤ _; omega), hm0]
          simp)
        rw [HV.out] at HC
        obtain ⟨k, hk⟩ : ∃ k, t1.length - n2 = k := ⟨_, rfl⟩
        rw [hk] at HC HV
        have hkk : (t1.length : Int) - (n2 : Int) = (k : Int) := by omega
        have hkl : k ≤ t1.length := by omega
        have HTL := Lib.hid (show (t1.take k ++ t2).length ≤ 4000 by rw [List.length_append, List.length_take]; omega)
        have hwk : IntKind.i64.wrap (k : Int) = (k : Int) := IntWalk.i64_in _ (by omega)
        have hkt : k + t2.length ≤ 9223372036854775807 := by omega
        clear hk hm0 HV
        have HF := Lib.hid (show (w2.alloc (.cells #[.int .i64 ((n1 : Int) + (m : Int)), .string (S t2)] 38)).drew.frozen? ⟨w2.heap.size, 1, none⟩ = false by go_simp)
        have HRD := Lib.hid (show CmR w.heap.size ((n2 : Nat) : Int) t1 t2 (w2.alloc (.cells #[.int .i64 ((n1 : Int) + (m : Int)), .string (S t2)] 38)).drew from by
          obtain ⟨⟨_, q1, _⟩, ⟨q2, q3, _⟩, _⟩ := HX3.out.below (Below.refl _ _).drew
          exact ⟨q1, q2, q3⟩)
        have HX4 := Lib.hid (HX3.out.below (Below.refl _ _).drew); have HB4 := Lib.hid (HB3.out.trans ((Below.refl _ _).drew.mono HB3.out.size)); have HO4 := Lib.hid (HO3.out.below (Below.refl _ _).drew)
        clear HX3 HB3 HO3
        go_wp2_with fail
        refine wp_region_held_drew (S := CmR w.heap.size ((n2 : Nat) : Int) t1 t2) (by kernel_rfl) HRD.out (fun hS0 => ?_)
        generalize (w2.alloc (.cells #[.int .i64 ((n1 : Int) + (m : Int)), .string (S t2)] 38)).drew = v0 at *
        refine wpAnyH_take (i := 0) (v := .pointer (some ⟨w.heap.size, 1, none⟩)) rfl (by kernel_rfl) (by kernel_rfl) (by kernel_rfl) (fun _ _ _ h => h) (Or.inl ⟨by rfl, fun z hz => ?_⟩) hS0 ?_
        · obtain ⟨z1, z2, z3⟩ := hz
          go_simp
        try simp only [qA, qB, Act.put, qD, qE, qF]
        refine wpAnyH_take (i := 1) (v := .string (S t1)) rfl (by kernel_rfl) (by kernel_rfl) (by kernel_rfl) (fun _ _ _ h => h) (Or.inl ⟨by rfl, fun z hz => ?_⟩) hS0 ?_
        · obtain ⟨z1, z2, z3⟩ := hz
          go_simp
        try simp only [qA, qB, qC, Act.put, qD, qE, qF]
        refine wpAnyH_take (i := 2) (v := .pointer (some ⟨w.heap.size, 1, none⟩)) rfl (by kernel_rfl) (by kernel_rfl) (by kernel_rfl) (fun _ _ _ h => h) (Or.inl ⟨by rfl, fun z hz => ?_⟩) hS0 ?_
        · obtain ⟨z1, z2, z3⟩ := hz
          go_simp
        try simp only [qA, qB, qC, Act.put, qD, qE, qF]
        refine wpAnyH_take (i := 3) (v := .string (S t1)) rfl (by kernel_rfl) (by kernel_rfl) (by kernel_rfl) (fun _ _ _ h => h) (Or.inl ⟨by rfl, fun z hz => ?_⟩) hS0 ?_
        · obtain ⟨z1, z2, z3⟩ := hz
          go_simp
        try simp only [qA, qB, qC, Act.put, qD, qE, qF]
        refine wpAnyH_take (i := 4) (v := .int .i64 t1.length) rfl (by kernel_rfl) (by kernel_rfl) (by kernel_rfl) (fun _ _ _ h => h) (Or.inl ⟨by rfl, fun z hz => ?_⟩) hS0 ?_
        · obtain ⟨z1, z2, z3⟩ := hz
          go_simp
        try simp only [qA, qB, qC, Act.put, qD, qE, qF]
        refine wpAnyH_take (i := 5) (v := .pointer (some ⟨w.heap.size + 1, 0, none⟩)) rfl (by kernel_rfl) (by kernel_rfl) (by kernel_rfl) (fun _ _ _ h => h) (Or.inl ⟨by rfl, fun z hz => ?_⟩) hS0 ?_
        · obtain ⟨z1, z2, z3⟩ := hz
          go_simp
        try simp only [qA, qB, qC, Act.put, qD, qE, qF]
        refine wpAnyH_take (i := 6) (v := .int .i64 n2) rfl (by kernel_rfl) (by kernel_rfl) (by kernel_rfl) (fun _ _ _ h => h) (Or.inl ⟨by rfl, fun z hz => ?_⟩) hS0 ?_
        · obtain ⟨z1, z2, z3⟩ := hz
          go_simp
        try simp only [qA, qB, qC, Act.put, qD, qE, qF]
        refine wpAnyH_take (i := 7) (v := .int .i64 k) rfl (by kernel_rfl) (by kernel_rfl) (by kernel_rfl) (fun _ _ _ h => h) (Or.inl ⟨by rfl, fun z hz => ?_⟩) hS0 ?_
        · obtain ⟨z1, z2, z3⟩ := hz
          go_simp
        try simp only [qA, qB, qC, Act.put, qD, qE, qF]
        refine wpAnyH_take (i := 8) (v := .string (S (t1.take k))) rfl (by kernel_rfl) (by kernel_rfl) (by kernel_rfl) (fun _ _ _ h => h) (Or.inl ⟨by rfl, fun z hz => ?_⟩) hS0 ?_
        · obtain ⟨z1, z2, z3⟩ := hz
          go_simp
        try simp only [qA, qB, qC, Act.put, qD, qE, qF]
        refine wpAnyH_take (i := 9) (v := .pointer (some ⟨w.heap.size + 1, 1, none⟩)) rfl (by kernel_rfl) (by kernel_rfl) (by kernel_rfl) (fun _ _ _ h => h) (Or.inl ⟨by rfl, fun z hz => ?_⟩) hS0 ?_
        · obtain ⟨z1, z2, z3⟩ := hz
          go_simp
        try simp only [qA, qB, qC, Act.put, qD, qE, qF]
        refine wpAnyH_take (i := 10) (v := .string (S t2)) rfl (by kernel_rfl) (by kernel_rfl) (by kernel_rfl) (fun _ _ _ h => h) (Or.inl ⟨by rfl, fun z hz => ?_⟩) hS0 ?_
        · obtain ⟨z1, z2, z3⟩ := hz
          go_simp
        try simp only [qA, qB, qC, Act.put, qD, qE, qF]
        refine wpAnyH_take (i := 11) (v := .string (S (t1.take k ++ t2))) rfl (by kernel_rfl) (by kernel_rfl) (by kernel_rfl) (fun _ _ _ h => h) (Or.inl ⟨by rfl, fun z hz => ?_⟩) hS0 ?_
        · obtain ⟨z1, z2, z3⟩ := hz
          go_simp
        try simp only [qA, qB, qC, Act.put, qD, qE, qF]
        refine wpAnyH_take (i := 12) (v := .pointer (some ⟨w2.heap.size, 1, none⟩)) rfl (by kernel_rfl) (by kernel_rfl) (by kernel_rfl) (fun _ _ _ h => h) (Or.inl ⟨by rfl, fun z hz => ?_⟩) hS0 ?_
        · obtain ⟨z1, z2, z3⟩ := hz
          go_simp
        try simp only [qA, qB, qC, Act.put, qD, qE, qF]
        obtain ⟨c0, c1, cz⟩ := HO4.out
        obtain ⟨⟨q0, q1, q2⟩, ⟨q3, q4, q5⟩, _⟩ := HX4.out
        refine wpAnyH_ready (rs := [13]) (by kernel_rfl) (by simp) ?_
        refine AllReadyH.cons rfl (fun K hK => ?_) AllReadyH.nil
        have cf : v0.frozen? ⟨w2.heap.size, 1, none⟩ = false := HF.out
        go_simp
        have hset : Chg (fun k => k = w2.heap.size) v0 (v0.setCell ⟨w2.heap.size, 1, none⟩ (.string (S (t1.take k ++ t2)))) := (Chg.refl (fun k => k = w2.heap.size) v0).setCell (p := ⟨w2.heap.size, 1, none⟩) rfl _
        have HO := Lib.hid (show Box2E w2.heap.size (.int .i64 ((n1 : Int) + (m : Int))) (t1.take k ++ t2) (v0.setCell ⟨w2.heap.size, 1, none⟩ (.string (S (t1.take k ++ t2)))) from ⟨by go_simp, World.cell?_setCell_same _ _ _ c1, by simpa [World.setCell] using cz⟩)
        have HX5 := Lib.hid (HX4.out.stand hset (by omega) (by omega) (by omega)); have HB5 := Lib.hid (Chg.belowB HB4.out hset HB4.out.size (fun b h => by have h9 : b = w2.heap.size := h; omega))
        have hRn : CmR w.heap.size ((n2 : Nat) : Int) t1 t2 (v0.setCell ⟨w2.heap.size, 1, none⟩ (.string (S (t1.take k ++ t2)))) := by
          obtain ⟨⟨_, q1, _⟩, ⟨q2, q3, _⟩, _⟩ := HX5.out
          exact ⟨q1, q2, q3⟩
        refine hK.out _ _ hRn (fun hS1 => ?_)
        clear hK K hset hRn HX4 HB4 HO4
        try simp only [qA, qB, qC, Act.put, qD, qE, qF]
        refine wpAnyH_done (by kernel_rfl) ?_ _
        clear hS0 hS1 c0 c1 cz cf q0 q1 q2 q3 q4 q5 k0 k1 k2 k3
        generalize v0.setCell ⟨w2.heap.size, 1, none⟩ (.string (S (t1.take k ++ t2))) = v1 at *
        generalize t1.take k ++ t2 = tt at *
        obtain ⟨c0, c1, cz⟩ := HO.out
        go_wp2_with fail
        refine (isValidEdit ((n1 : Int) + (m : Int)) tt _ (by have := HTL.out; omega)).mono ?_
        rintro e w6 ⟨rfl, hb⟩
        have HB6 := Lib.hid (HB5.out.trans (hb.mono HB5.out.size)); have HX6 := Lib.hid (HX5.out.below hb); have HO6 := Lib.hid (HO.out.below hb)
        clear hb c0 c1 cz HX5 HB5 HO
        generalize P.editOk (((n1 : Int) + (m : Int)), tt) = q at *
        cases q
        · have HP := HC
          obtain ⟨_, _, ⟨_, k5, k6, k7, k8⟩⟩ := HX6.out
          go_wp2
          refine bodyPost_ret (v := .tuple #[.agg #[.int .i64 0, .string (S [])], .bool false]) (by simp [k5, k6, results, Tryz.results17, go_sem]) rfl ⟨by first | (rw [HP.out]; rfl) | rw [HP.out], ?_⟩
          exact (HB6.out.setCell (by simp <;> omega) _).setCell (by simp <;> omega) _
        · have HP := HC
          obtain ⟨c0, c1, cz⟩ := HO6.out
          obtain ⟨_, _, ⟨_, k5, k6, k7, k8⟩⟩ := HX6.out
          go_wp2
          refine bodyPost_ret (v := .tuple #[.agg #[.int .i64 (((n1 : Int) + (m : Int))), .string (S (tt))], .bool true]) (by simp [k5, k6, results, Tryz.results17, go_sem]) rfl ⟨by first | (rw [HP.out]; rfl) | rw [HP.out], ?_⟩
          exact (HB6.out.setCell (by simp <;> omega) _).setCell (by simp <;> omega) _
      · have HV := Lib.hid (show P.comp2 (((n1 : Nat) : Int), t1) (x2, t2) = ((n1 : Int) + (m : Int), t2) by
          unfold P.comp2
          rw [if_neg (by show ¬ x2 ≤ _; omega)]
          simp only
          congr 1
          have := HM.out
          omega)
        rw [HV.out] at HC
        clear HV
        go_upto_region 6 with fail
        generalize w2.alloc (.cells #[.int .i64 ((n1 : Int) + (m : Int)), .string (S t2)] 38) = w3 at *
        have HO := HO3
        clear HO3 k0 k1 k2 k3
        obtain ⟨c0, c1, cz⟩ := HO.out
        go_wp2_with fail
        refine (isValidEdit ((n1 : Int) + (m : Int)) t2 _ (by omega)).mono ?_
        rintro e w6 ⟨rfl, hb⟩
        have HB6 := Lib.hid (HB3.out.trans (hb.mono HB3.out.size)); have HX6 := Lib.hid (HX3.out.below hb); have HO6 := Lib.hid (HO.out.below hb)
        clear hb c0 c1 cz HX3 HB3 HO
        generalize P.editOk (((n1 : Int) + (m : Int)), t2) = q at *
        cases q
        · have HP := HC
          obtain ⟨_, _, ⟨_, k5, k6, k7, k8⟩⟩ := HX6.out
          go_wp2
          refine bodyPost_ret (v := .tuple #[.agg #[.int .i64 0, .string (S [])], .bool false]) (by simp [k5, k6, results, Tryz.results17, go_sem]) rfl ⟨by first | (rw [HP.out]; rfl) | rw [HP.out], ?_⟩
          exact (HB6.out.setCell (by simp <;> omega) _).setCell (by simp <;> omega) _
        · have HP := HC
          obtain ⟨c0, c1, cz⟩ := HO6.out
          obtain ⟨_, _, ⟨_, k5, k6, k7, k8⟩⟩ := HX6.out
          go_wp2
          refine bodyPost_ret (v := .tuple #[.agg #[.int .i64 (((n1 : Int) + (m : Int))), .string (S (t2))], .bool true]) (by simp [k5, k6, results, Tryz.results17, go_sem]) rfl ⟨by first | (rw [HP.out]; rfl) | rw [HP.out], ?_⟩
          exact (HB6.out.setCell (by simp <;> omega) _).setCell (by simp <;> omega) _
end Go.Proofs.YtmlklnimoknojaaGreatDoor
