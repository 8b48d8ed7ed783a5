/- Walks: an element struck out of a row of layers (the library's Delete). -/
import Derived.Test.YtngbkdlicknmhaaGreatDoorItems
import Derived.Lib.SlicesDelete
namespace Go.Proofs.YtngbkdlicknmhaaGreatDoor
open Go Go.RowKit
set_option maxHeartbeats 4000000
set_option maxRecDepth 100000
theorem Cel.drew {v : World} {g o : Nat} {cs : List Value} (h : Cel v g o cs) : Cel v.drew g o cs := h
theorem lcells_one {its : List LIt} (h : ∀ t ∈ its, ∃ a n c, t.1 = .slice a n c) : ∀ u ∈ lcells its, u.oneCell' = true := by
  intro u hu
  unfold lcells at hu
  obtain ⟨t, ht, hm⟩ := List.mem_flatMap.1 hu
  simp only [List.mem_cons, List.not_mem_nil, or_false] at hm
  rcases hm with rfl | rfl
  · obtain ⟨a, n, c, e⟩ := h t ht; rw [e]; rfl
  · rfl
theorem ent_slices {v : World} {its : List LIt} (h : ∀ t ∈ its, EntR v t.1 t.2.1) : ∀ t ∈ its, ∃ a n c, t.1 = .slice a n c := fun t ht => by
  obtain ⟨a, c, e, _⟩ := h t ht; exact ⟨_, _, _, e⟩
theorem zero_lay (w : World) : (zeroValue 85).run Tryz.prog w = .ok (.agg #[.slice none 0 0, .bool false]) w := by kernel_rfl
theorem shape_setCell (w : World) (a : Addr) (v : Value) (g : Nat) : (w.setCell a v).shape? g = w.shape? g := by
  unfold World.shape? World.setCell
  simp only [Array.getElem?_modify]
  by_cases h : a.block = g
  · rw [if_pos h]
    cases hw : w.heap[g]? with
    | none => rfl
    | some o =>
      cases o with
      | cells c e f =>
        simp only [Option.map_some]
        by_cases hs : a.spot.isSome = true
        · rw [if_pos hs]
        · rw [if_neg hs, Array.size_setIfInBounds]
      | _ => rfl
  · rw [if_neg h]
theorem shape_setCells (b g : Nat) : ∀ (vs : List Value) (o : Nat) (w : World), (w.setCells b o vs).shape? g = w.shape? g
  | [], _, _ => rfl
  | v :: r, o, w => by rw [World.setCells, shape_setCells b g r, shape_setCell]
theorem delLay (g cap i m : Nat) (its : List LIt) (w : World) (hc : Cel w g 0 (lcells its)) (hs : ∀ t ∈ its, ∃ a n c, t.1 = .slice a n c) (hl : its.length = i + 1 + m) (hcap : i + 1 + m ≤ cap) (h20 : i + 1 + m ≤ 2 ^ 20) :
    Calls Tryz.prog 136 #[.slice (some ⟨g, 0, none⟩) (i + 1 + m) cap, .int .i64 i, .int .i64 ((i : Int) + 1)] w fun e w' => e = .returned (.slice (some ⟨g, 0, none⟩) (i + m) cap) ∧ Chg (fun b => b = g) w w' ∧ Cel w' g 0 (lcells (its.take i ++ its.drop (i + 1)) ++ [.slice none 0 0, .bool false]) ∧ w'.shape? g = w.shape? g := by
  obtain ⟨i0, hi0, hz0, hz1, hz2⟩ := info_parts info_lay
  have hll := lcells_length its
  obtain ⟨A, hA, hsrc⟩ : ∃ A : Addr, (if cap = i + 1 then (some (⟨g, 0, none⟩ : Addr)) else some ⟨g, (i + 1) * 2, none⟩) = some A ∧ Hid (∀ t u, (lcells (its.drop (i + 1)))[t]? = some u → w.drew.cell? (A.add t) = some u) := by
    have key : ∀ t u, (lcells (its.drop (i + 1)))[t]? = some u → w.drew.cell? ⟨g, (i + 1) * 2 + t, none⟩ = some u := by
      intro t u hu
      rw [← lcells_drop, List.getElem?_drop] at hu
      have := hc.drew.get hu
      rw [show (i + 1) * 2 + t = 0 + (2 * (i + 1) + t) by omega]; exact this
    by_cases h : cap = i + 1
    · refine ⟨_, if_pos h, fun t u hu => ?_⟩
      have := (List.getElem?_eq_some_iff.1 hu).1
      rw [lcells_length, List.length_drop] at this; omega
    · refine ⟨_, if_neg h, fun t u hu => ?_⟩
      rw [addr_add]; exact key t u hu
  have s1 : Hid ((lcells (its.drop (i + 1))).length = m * 2) := by show _ = _; rw [lcells_length, List.length_drop]; omega
  have s2 : Hid (∀ u ∈ lcells (its.drop (i + 1)), u.oneCell' = true) := lcells_one fun t ht => hs t (List.mem_of_mem_drop ht)
  have s3 : Hid (∀ t, t < (lcells (its.drop (i + 1))).length → (w.drew.cell? ⟨g, 0 + i * 2 + t, none⟩).isSome = true ∧ w.drew.frozen? ⟨g, 0 + i * 2 + t, none⟩ = false) := by
    intro t ht
    rw [s1.out] at ht
    have h := hc.drew (i * 2 + t) (by omega)
    rw [Nat.add_assoc]
    exact ⟨by rw [h.1]; rfl, h.2⟩
  have hlay := hc.drew.lay (i * 2) (lcells (its.drop (i + 1))) (by rw [s1.out]; omega)
  obtain ⟨W1, hW1⟩ : ∃ W1, W1 = w.drew.setCells g (0 + i * 2) (lcells (its.drop (i + 1))) := ⟨_, rfl⟩
  rw [← hW1] at hlay
  have HL := Lib.hid hlay; clear hlay
  have e1 : (lcells its).take (i * 2) ++ lcells (its.drop (i + 1)) ++ (lcells its).drop (i * 2 + (lcells (its.drop (i + 1))).length) = lcells (its.take i ++ its.drop (i + 1)) ++ (lcells its).drop ((i + m) * 2) := by
    rw [lcells_append, ← lcells_take, s1.out, Nat.mul_comm 2 i, Nat.add_mul]
  have HL2 := Lib.hid (e1 ▸ HL.out); clear HL
  have hlen2 : (lcells (its.take i ++ its.drop (i + 1))).length = (i + m) * 2 := by
    rw [lcells_length, List.length_append, List.length_take, List.length_drop]; omega
  have hlen3 : ((lcells its).drop ((i + m) * 2)).length = 2 := by rw [List.length_drop]; omega
  have hlen4 : (lcells (its.take i ++ its.drop (i + 1)) ++ (lcells its).drop ((i + m) * 2)).length = (i + m) * 2 + 2 := by rw [List.length_append, hlen2, hlen3]
  have hcl0 : ∀ ty c, (Builtin.clear_ #[68] ty #[.slice (some ⟨g, (i + m) * 2, none⟩) 1 c]).run Tryz.prog W1 = .ok (.tuple #[]) (W1.setCells g ((i + m) * 2) [.slice none 0 0, .bool false]) := fun ty c =>
    run_clear_two W1 _ _ ty _ _ _ Tryz.underlying68 zero_lay rfl rfl rfl g _ c
      (fun j hj => by have h := HL2.out ((i + m) * 2 + j) (by rw [hlen4]; omega); rw [Nat.zero_add] at h; rw [h.1]; rfl)
      (fun j hj => by have h := HL2.out ((i + m) * 2 + j) (by rw [hlen4]; omega); rw [Nat.zero_add] at h; exact h.2)
  have hcl : ∀ ty c, (Builtin.clear_ #[68] ty #[.slice (some ⟨g, (i + m) * 2, none⟩) (i + 1 + m - (i + m)) c]).run Tryz.prog W1 = .ok (.tuple #[]) (W1.setCells g ((i + m) * 2) [.slice none 0 0, .bool false]) := fun ty c => by
    rw [show i + 1 + m - (i + m) = 1 by omega]; exact hcl0 ty c
  clear hcl0
  have hend := HL2.out.lay ((i + m) * 2) [.slice none 0 0, .bool false] (by rw [hlen4]; simp)
  have e3 : (lcells (its.take i ++ its.drop (i + 1)) ++ (lcells its).drop ((i + m) * 2)).drop ((i + m) * 2 + [Value.slice none 0 0, Value.bool false].length) = [] := List.drop_eq_nil_of_le (by rw [hlen4]; simp)
  rw [Nat.zero_add, List.take_left' hlen2, e3, List.append_nil] at hend
  have HEND := Lib.hid hend; clear hend
  have HW1 := Lib.hid hW1
  have hch : Chg (fun b => b = g) w (W1.setCells g ((i + m) * 2) [.slice none 0 0, .bool false]) := by
    rw [hW1]
    exact ((Chg.refl _ w).drew.trans (setCells_chg g _ _ _)).trans (setCells_chg g _ _ _)
  have HCH := Lib.hid hch; clear hch
  have HSH := Lib.hid (show (W1.setCells g ((i + m) * 2) [.slice none 0 0, .bool false]).shape? g = w.shape? g by rw [shape_setCells, hW1, shape_setCells]; rfl)
  have HC := Lib.hid hc
  clear hc hW1 hlen2 hlen3 hlen4 e1 e3 hll HL2
  have hic : i ≤ cap := by omega
  have hjc : i + 1 ≤ cap := by omega
  have q1 : IntKind.i64.wrap ((i : Int) + 1) = (i : Int) + 1 := IntWalk.i64_in _ (by omega)
  have b1 : (0 : Int) ≤ (i : Int) + 1 := by omega
  have b2 : (i : Int) + 1 ≤ (i : Int) + 1 + (m : Int) := by omega
  go_enter Tryz.func136, Tryz.ntmps136
  go_wp2_with fail
  have hA' : (if cap = i + 1 then some (⟨g, 0, none⟩ : Addr) else some ⟨g, (i + 1) * 2, none⟩) = some A := hA
  have hk1 : ¬ (i : Int) < 0 := by omega
  refine wp_region_held_drew (S := fun _ : World => True) (by kernel_rfl) trivial (fun hS0 => ?_)
  refine wpAnyH_take (i := 0) (v := .slice (some ⟨g, 0, none⟩) (i + 1 + m) cap) rfl (by kernel_rfl) (by kernel_rfl) (by kernel_rfl) (fun _ _ _ h => h) (Or.inl ⟨by rfl, fun z hz => ?_⟩) hS0 ?_
  · obtain ⟨⟩ := hz
    go_simp
  try simp only [qA, qB, Act.put, qD, qE, qF]
  refine wpAnyH_take (i := 1) (v := .int .i64 i) rfl (by kernel_rfl) (by kernel_rfl) (by kernel_rfl) (fun _ _ _ h => h) (Or.inl ⟨by rfl, fun z hz => ?_⟩) hS0 ?_
  · obtain ⟨⟩ := hz
    go_simp
  try simp only [qA, qB, qC, Act.put, qD, qE, qF]
  refine wpAnyH_take (i := 2) (v := .slice (some ⟨g, 0, none⟩) i cap) rfl (by kernel_rfl) (by kernel_rfl) (by kernel_rfl) (fun _ _ _ h => h) (Or.inl ⟨by rfl, fun z hz => ?_⟩) hS0 ?_
  · obtain ⟨⟩ := hz
    go_simp
  try simp only [qA, qB, qC, Act.put, qD, qE, qF]
  refine wpAnyH_take (i := 3) (v := .slice (some ⟨g, 0, none⟩) (i + 1 + m) cap) rfl (by kernel_rfl) (by kernel_rfl) (by kernel_rfl) (fun _ _ _ h => h) (Or.inl ⟨by rfl, fun z hz => ?_⟩) hS0 ?_
  · obtain ⟨⟩ := hz
    go_simp
  try simp only [qA, qB, qC, Act.put, qD, qE, qF]
  refine wpAnyH_take (i := 4) (v := .int .i64 ((i : Int) + 1)) rfl (by kernel_rfl) (by kernel_rfl) (by kernel_rfl) (fun _ _ _ h => h) (Or.inl ⟨by rfl, fun z hz => ?_⟩) hS0 ?_
  · obtain ⟨⟩ := hz
    go_simp
  try simp only [qA, qB, qC, Act.put, qD, qE, qF]
  refine wpAnyH_take (i := 5) (v := .slice (some A) m (cap - (i + 1))) rfl (by kernel_rfl) (by kernel_rfl) (by kernel_rfl) (fun _ _ _ h => h) (Or.inl ⟨by rfl, fun z hz => ?_⟩) hS0 ?_
  · obtain ⟨⟩ := hz
    go_simp
  try simp only [qA, qB, qC, Act.put, qD, qE, qF]
  refine wpAnyH_ready (rs := [6]) (by kernel_rfl) (by simp) ?_
  refine AllReadyH.cons rfl (fun K hK => ?_) AllReadyH.nil
  refine step_append_room rfl _ _ 68 rfl 85 i0 2 Tryz.underlying68 hi0 hz1 g 0 i cap rfl A m (cap - (i + 1)) (lcells (its.drop (i + 1))) rfl s1.out hsrc.out s2.out (by clear q1; omega) s3.out ?_
  rw [← HW1.out]
  refine hK.out _ _ trivial (fun hS1 => ?_)
  clear hK K
  try simp only [qA, qB, qC, Act.put, qD, qE, qF]
  refine wpAnyH_take (i := 7) (v := .slice (some ⟨g, 0, none⟩) (i + m) cap) rfl (by kernel_rfl) (by kernel_rfl) (by kernel_rfl) (fun _ _ _ h => h) (Or.inl ⟨by rfl, fun z hz => ?_⟩) hS1 ?_
  · obtain ⟨⟩ := hz
    go_simp
  try simp only [qA, qB, qC, Act.put, qD, qE]
  refine wpAnyH_done (by kernel_rfl) ?_ _
  go_wp2_with fail
  go_ret
  exact ⟨rfl, HCH.out, HEND.out, HSH.out⟩
end Go.Proofs.YtngbkdlicknmhaaGreatDoor
