/- Walks: reading records (reference). -/
import Derived.Test.YtmlklnimoknojaaGreatDoorLSplit
namespace Go.Proofs.YtmlklnimoknojaaGreatDoor.L
open Go Go.RowKit
set_option maxHeartbeats 400000
set_option maxRecDepth 100000
def ReadPost (k : Nat) (s : Str) (w : World) (e : Ending) (w' : World) : Prop :=
  e = .returned (.tuple #[.agg #[.string (S (P.readRec k s).1), .string (S (P.readRec k s).2.1)], .bool (P.readRec k s).2.2]) ∧ Below w.heap.size w w'
theorem own_head {B : Nat} {w : World} {v : Value} {c : UInt8} {l : Str} (h : OwnStrs B w v (P.split c l)) : ∃ g cap, v = .slice (some ⟨g, 0, none⟩) (P.split c l).length cap ∧ B ≤ g ∧ g < w.heap.size ∧ w.cell? ⟨g, 0, none⟩ = some (.string (S (P.head c l))) ∧ 1 ≤ (P.split c l).length := by
  have hlen : 1 ≤ (P.split c l).length := by
    cases hs : P.split c l with
    | nil => exact absurd hs (P.split_ne c l)
    | cons x r => simp
  have h2 := h.2
  rcases h.2 with ⟨_, h0⟩ | ⟨g, cap, cur, hv, hg, hh, hn, _⟩
  · omega
  · have hob : v.ownBlock = some g := by rw [hv]; rfl
    have hc := World.ownsRow.cells h hob 0 (.string (S (P.head c l))) (by
      unfold strVals P.head
      cases hs : P.split c l with
      | nil => exact absurd hs (P.split_ne c l)
      | cons x r => simp)
    have hlt := (World.ownsRow.lt h g hob).2
    exact ⟨g, cap, hv, hg, hlt, by simpa [Addr.add] using hc, hlen⟩
theorem read1 {k : Nat} {s : Str} (h : (P.head 35 s).length < (P.num k).length + 1 ∨ (List.take ((P.num k).length + 1) (P.head 35 s) == P.num k ++ [32]) = false) : P.readRec k s = ([], [], false) := by
  unfold P.readRec
  rw [if_pos]
  rcases h with h | h
  · simp [h]
  · simp [bne, h]
theorem read2 {k : Nat} {s : Str} (h : ¬ (P.head 35 s).length < (P.num k).length + 1) (h2 : (List.take ((P.num k).length + 1) (P.head 35 s) == P.num k ++ [32]) = true) {rest : Str} (hr : rest = List.drop ((P.num k).length + 1) (P.head 35 s)) :
    P.readRec k s = if (P.head 62 rest).length = rest.length then ([], [], false) else (P.head 62 rest, rest.drop ((P.head 62 rest).length + 1), P.good (P.head 62 rest) (rest.drop ((P.head 62 rest).length + 1)) && (P.line k (P.head 62 rest) (rest.drop ((P.head 62 rest).length + 1)) == s ++ [10])) := by
  subst hr
  unfold P.readRec
  rw [if_neg]
  · simp only [List.length_append, List.length_cons, List.length_nil]
  · simp [bne, h2]; omega
theorem l24Read (k : Int) (s : Str) (w : World) (h0 : 0 ≤ k) (hk : k < 1000) (hs : s.length ≤ 2 ^ 32) :
    Calls Tryz.prog 222 #[.string (S s), .int .i64 k] w (ReadPost k.toNat s w) := by
  have hn := P.num_len k.toNat (by omega)
  have hh := P.head_len 35 s
  by_cases h1 : ((P.head 35 s).length : Int) < ((P.num k.toNat).length : Int) + 1
  · have HF := Lib.hid (read1 (k := k.toNat) (s := s) (.inl (by omega)))
    go_enter Tryz.func222, Tryz.ntmps222
    go_wp2_with (first | (go_at_call 244; refine (l1Num _ _ (by omega) (by omega)).mono ?_; rintro e w' ⟨rfl, n1, rfl⟩) | (go_at_call 208; ((with_reducible refine (l1Split35 _ _ (by omega)).mono ?_); rintro e w1 ⟨v, rfl, hown, hb⟩; obtain ⟨g, cap, rfl, hg, hgl, hcell, hl1⟩ := own_head hown; clear hown; obtain ⟨hcc, hff⟩ := bcell hb; have hz := grew hb; have HB := Lib.hid hb; clear hb)))
    refine bodyPost_ret (v := .tuple #[.agg #[.string (S []), .string (S [])], .bool false]) (by simp [results, Tryz.results222, go_sem, hcc]) rfl ⟨by rw [HF.out], ?_⟩
    exact ((below_drewN ((Below.refl _ _).alloc (Nat.le_refl _) _) _).trans (HB.out.mono (by simp))).setCell (by simp) _ |>.setCell (by simp) _
  · cases h2 : (List.take ((P.num k.toNat).length + 1) (P.head 35 s) == P.num k.toNat ++ [32])
    · have HF := Lib.hid (read1 (k := k.toNat) (s := s) (.inr h2))
      go_enter Tryz.func222, Tryz.ntmps222
      go_wp2_with (first | (go_at_call 244; refine (l1Num _ _ (by omega) (by omega)).mono ?_; rintro e w' ⟨rfl, n1, rfl⟩) | (go_at_call 208; ((with_reducible refine (l1Split35 _ _ (by omega)).mono ?_); rintro e w1 ⟨v, rfl, hown, hb⟩; obtain ⟨g, cap, rfl, hg, hgl, hcell, hl1⟩ := own_head hown; clear hown; obtain ⟨hcc, hff⟩ := bcell hb; have hz := grew hb; have HB := Lib.hid hb; clear hb)))
      refine bodyPost_ret (v := .tuple #[.agg #[.string (S []), .string (S [])], .bool false]) (by simp [results, Tryz.results222, go_sem, hcc]) rfl ⟨by rw [HF.out], ?_⟩
      exact ((below_drewN ((Below.refl _ _).alloc (Nat.le_refl _) _) _).trans (HB.out.mono (by simp))).setCell (by simp) _ |>.setCell (by simp) _
    · obtain ⟨rest, hrest⟩ : ∃ rest, rest = List.drop ((P.num k.toNat).length + 1) (P.head 35 s) := ⟨_, rfl⟩
      have hrl : rest.length ≤ s.length := by rw [hrest]; simp; omega
      have HR := Lib.hid (read2 (k := k.toNat) (s := s) (by omega) h2 hrest)
      have HREST := Lib.hid hrest; clear hrest
      have hh2 := P.head_len 62 rest
      by_cases h3 : ((P.head 62 rest).length : Int) = (rest.length : Int)
      · have HF := Lib.hid (show P.readRec k.toNat s = ([], [], false) by rw [HR.out, if_pos (by omega)])
        have h3b : (((P.head 62 rest).length : Int) == (rest.length : Int)) = true := by simpa using h3
        clear h3
        go_enter Tryz.func222, Tryz.ntmps222
        go_wp2_with (first | (go_at_call 244; refine (l1Num _ _ (by omega) (by omega)).mono ?_; rintro e w' ⟨rfl, n1, rfl⟩) | (go_at_call 208; ((with_reducible refine (l1Split35 _ _ (by omega)).mono ?_); rintro e w1 ⟨v, rfl, hown, hb⟩; obtain ⟨g, cap, rfl, hg, hgl, hcell, hl1⟩ := own_head hown; clear hown; obtain ⟨hcc, hff⟩ := bcell hb; have hz := grew hb; have HB := Lib.hid hb; clear hb)))
        rw [← HREST.out]
        go_wp2_with (first | (go_at_call 208; ((with_reducible refine (l1Split62 _ _ (by omega)).mono ?_); rintro e w2 ⟨v2, rfl, hown2, hb2⟩; obtain ⟨g2, cap2, rfl, hg2, hgl2, hcell2, hl12⟩ := own_head hown2; clear hown2; obtain ⟨hcc2, hff2⟩ := bcell hb2; have hz2 := Nat.lt_of_lt_of_le hz hb2.size; have HB2 := Lib.hid hb2; clear hb2)))
        refine bodyPost_ret (v := .tuple #[.agg #[.string (S []), .string (S [])], .bool false]) (by simp [results, Tryz.results222, go_sem, hcc, hcc2, hz]) rfl ⟨by rw [HF.out], ?_⟩
        exact (((below_drewN ((Below.refl _ _).alloc (Nat.le_refl _) _) _).trans (HB.out.mono (by simp))).trans (HB2.out.mono (by have := HB.out.size; simp at this ⊢; omega))).setCell (by simp) _ |>.setCell (by simp) _
      · have h3b : (((P.head 62 rest).length : Int) == (rest.length : Int)) = false := by simpa using h3
        have h3' : ((P.head 62 rest).length : Int) + 1 ≤ (rest.length : Int) := by omega
        obtain ⟨rep, hrep⟩ : ∃ rep, rep = List.drop ((P.head 62 rest).length + 1) rest := ⟨_, rfl⟩
        have hrpl : rep.length ≤ rest.length := by rw [hrep]; simp
        have HF := Lib.hid (show P.readRec k.toNat s = (P.head 62 rest, rep, P.good (P.head 62 rest) rep && (P.line k.toNat (P.head 62 rest) rep == s ++ [10])) by rw [HR.out, if_neg (by omega), ← hrep])
        have HREP := Lib.hid hrep; clear hrep
        clear h3
        go_enter Tryz.func222, Tryz.ntmps222
        go_wp2_with (first | (go_at_call 244; refine (l1Num _ _ (by omega) (by omega)).mono ?_; rintro e w' ⟨rfl, n1, rfl⟩) | (go_at_call 208; ((with_reducible refine (l1Split35 _ _ (by omega)).mono ?_); rintro e w1 ⟨v, rfl, hown, hb⟩; obtain ⟨g, cap, rfl, hg, hgl, hcell, hl1⟩ := own_head hown; clear hown; obtain ⟨hcc, hff⟩ := bcell hb; have hz := grew hb; have HB := Lib.hid hb; clear hb)))
        rw [← HREST.out]
        go_wp2_with (first | (go_at_call 208; ((with_reducible refine (l1Split62 _ _ (by omega)).mono ?_); rintro e w2 ⟨v2, rfl, hown2, hb2⟩; obtain ⟨g2, cap2, rfl, hg2, hgl2, hcell2, hl12⟩ := own_head hown2; clear hown2; obtain ⟨hcc2, hff2⟩ := bcell hb2; have hz2 := Nat.lt_of_lt_of_le hz hb2.size; have HB2 := Lib.hid hb2; clear hb2)))
        rw [← HREP.out]
        have hr0 : w2.cell? ⟨w.heap.size, 0, none⟩ = some (.string (S [])) := by rw [hcc2 _ _ hz, hcc _ _ (by simp)]; go_simp
        have hr1 : w2.cell? ⟨w.heap.size, 1, none⟩ = some (.string (S [])) := by rw [hcc2 _ _ hz, hcc _ _ (by simp)]; go_simp
        have hr2 : w2.frozen? ⟨w.heap.size, 0, none⟩ = false := by rw [hff2 _ _ hz, hff _ _ (by simp)]; go_simp
        have hr3 : w2.frozen? ⟨w.heap.size, 1, none⟩ = false := by rw [hff2 _ _ hz, hff _ _ (by simp)]; go_simp
        have hb : Below w.heap.size w w2 := ((below_drewN ((Below.refl _ _).alloc (Nat.le_refl _) _) _).trans (HB.out.mono (by simp))).trans (HB2.out.mono (by omega))
        have hS : (fun v : World => v.cell? ⟨w2.heap.size, 0, none⟩ = some (.string (S (P.head 62 rest))) ∧ v.cell? ⟨w2.heap.size, 1, none⟩ = some (.string (S rep)) ∧ v.cell? ⟨w.heap.size, 0, none⟩ = some (cellOf v ⟨w.heap.size, 0, none⟩) ∧ v.cell? ⟨w.heap.size, 1, none⟩ = some (cellOf v ⟨w.heap.size, 1, none⟩) ∧ v.frozen? ⟨w.heap.size, 0, none⟩ = false ∧ v.frozen? ⟨w.heap.size, 1, none⟩ = false ∧ w.heap.size < w2.heap.size ∧ w2.heap.size < v.heap.size ∧ Below w.heap.size w v) ((w2.alloc (Obj.cells #[.string (S (P.head 62 rest)), .string (S rep)] 226)).drew) := by
          refine ⟨?_, ?_, ?_, ?_, ?_, ?_, hz2, by simp, (hb.alloc (by omega) _).drew⟩
          · go_simp
          · go_simp
          · exact cellOf_some (x := .string (S [])) (by go_simp)
          · exact cellOf_some (x := .string (S [])) (by go_simp)
          · go_simp
          · go_simp
        clear hcc hff hcc2 hff2 HB HB2 hcell hcell2 hg hg2 hgl hgl2 HR h2 h3b hb hl1 hl12 hr0 hr1 hr2 hr3 hz
        have HS := Lib.hid hS; clear hS
        cases hgd : P.good (P.head 62 rest) rep
        case true =>
          have f8 : ¬ 9223372036854775807 < s.length + 1 := by omega
          first | (go_region_held3 (fun v : World => v.cell? ⟨w2.heap.size, 0, none⟩ = some (.string (S (P.head 62 rest))) ∧ v.cell? ⟨w2.heap.size, 1, none⟩ = some (.string (S rep)) ∧ v.cell? ⟨w.heap.size, 0, none⟩ = some (cellOf v ⟨w.heap.size, 0, none⟩) ∧ v.cell? ⟨w.heap.size, 1, none⟩ = some (cellOf v ⟨w.heap.size, 1, none⟩) ∧ v.frozen? ⟨w.heap.size, 0, none⟩ = false ∧ v.frozen? ⟨w.heap.size, 1, none⟩ = false ∧ w.heap.size < w2.heap.size ∧ w2.heap.size < v.heap.size ∧ Below w.heap.size w v) (first | assumption | exact HS.out | exact heldR (by assumption) hb | exact heldR_set (heldR_set (by assumption) _ (by simp) _) _ (by simp) _)
            (first | (go_at_call 245; refine (l24Good _ _ _ (by unfold maxLen; omega) (by unfold maxLen; omega)).mono ?_; rintro e v ⟨rfl, hb⟩; rw [hgd]) | (go_at_call 246; refine (l24Line _ _ _ _ h0 hk (by omega) (by omega)).mono ?_; rintro e v ⟨rfl, hb⟩))) | fail
          all_goals
            obtain ⟨he0, he1, heb⟩ := heldR_end (v := v) (by assumption)
            generalize ((v.setCell ⟨w.heap.size, 0, none⟩ (.string (S (P.head 62 rest)))).setCell ⟨w.heap.size, 1, none⟩ (.string (S rep))) = wf at *
            have HEB := Lib.hid heb; clear heb
            go_wp2
            refine bodyPost_ret (v := .tuple #[.agg #[.string (S (P.head 62 rest)), .string (S rep)], .bool (P.line k.toNat (P.head 62 rest) rep == s ++ [10])]) (by simp [results, Tryz.results222, go_sem, he0, he1]) rfl ⟨by rw [HF.out, hgd]; rfl, HEB.out⟩
        case false =>
          refine wp_region_held_drew (S := fun v : World => v.cell? ⟨w2.heap.size, 0, none⟩ = some (.string (S (P.head 62 rest))) ∧ v.cell? ⟨w2.heap.size, 1, none⟩ = some (.string (S rep)) ∧ v.cell? ⟨w.heap.size, 0, none⟩ = some (cellOf v ⟨w.heap.size, 0, none⟩) ∧ v.cell? ⟨w.heap.size, 1, none⟩ = some (cellOf v ⟨w.heap.size, 1, none⟩) ∧ v.frozen? ⟨w.heap.size, 0, none⟩ = false ∧ v.frozen? ⟨w.heap.size, 1, none⟩ = false ∧ w.heap.size < w2.heap.size ∧ w2.heap.size < v.heap.size ∧ Below w.heap.size w v) (by kernel_rfl) HS.out (fun hS0 => ?_)
          refine wpAnyH_take (i := 0) (v := .agg #[.string (S (P.head 62 rest)), .string (S rep)]) rfl (by kernel_rfl) (by kernel_rfl) (by kernel_rfl) (fun _ _ _ h => h) (Or.inl ⟨by rfl, fun z hz => ?_⟩) hS0 ?_
          · obtain ⟨z1, z2, _⟩ := hz
            go_simp
          try simp only [qA, qB, Act.put, qD, qE, qF]
          refine wpAnyH_take (i := 1) (v := .agg #[.string (S (P.head 62 rest)), .string (S rep)]) rfl (by kernel_rfl) (by kernel_rfl) (by kernel_rfl) (fun _ _ _ h => h) (Or.inl ⟨by rfl, fun z hz => ?_⟩) hS0 ?_
          · obtain ⟨z1, z2, _⟩ := hz
            go_simp
          try simp only [qA, qB, qC, Act.put, qD, qE, qF]
          refine wpAnyH_ready (rs := [2]) (by kernel_rfl) (by simp) ?_
          refine AllReadyH.cons rfl (fun K hK => ?_) AllReadyH.nil
          go_simp
          refine (l24Good _ _ _ (by unfold maxLen; omega) (by unfold maxLen; omega)).mono ?_
          rintro e v ⟨rfl, hb⟩
          rw [hgd]
          refine hK.out _ _ (heldR HS.out hb) (fun hS1 => ?_)
          clear hK K
          try simp only [qA, qB, qC, Act.put, qD, qE, qF]
          refine wpAnyH_take (i := 3) (v := .bool false) rfl (by kernel_rfl) (by kernel_rfl) (by kernel_rfl) (fun _ _ _ h => h) (Or.inl ⟨by rfl, fun z hz => ?_⟩) hS1 ?_
          · obtain ⟨z1, z2, _⟩ := hz
            go_simp
          try simp only [qA, qB, qC, Act.put, qD, qE, qF]
          refine wpAnyH_take (i := 4) rfl (by kernel_rfl) (by kernel_rfl) (by kernel_rfl) (fun _ _ _ h => h) (Or.inr ⟨by rfl, rfl⟩) hS1 ?_
          try simp only [qA, qB, qC, Act.put, qD, qE, qF]
          refine wpAnyH_take (i := 5) rfl (by kernel_rfl) (by kernel_rfl) (by kernel_rfl) (fun _ _ _ h => h) (Or.inr ⟨by rfl, rfl⟩) hS1 ?_
          try simp only [qA, qB, qC, Act.put, qD, qE, qF]
          refine wpAnyH_take (i := 6) rfl (by kernel_rfl) (by kernel_rfl) (by kernel_rfl) (fun _ _ _ h => h) (Or.inr ⟨by rfl, rfl⟩) hS1 ?_
          try simp only [qA, qB, qC, Act.put, qD, qE, qF]
          refine wpAnyH_take (i := 7) rfl (by kernel_rfl) (by kernel_rfl) (by kernel_rfl) (fun _ _ _ h => h) (Or.inr ⟨by rfl, rfl⟩) hS1 ?_
          try simp only [qA, qB, qC, Act.put, qD, qE, qF]
          refine wpAnyH_take (i := 8) rfl (by kernel_rfl) (by kernel_rfl) (by kernel_rfl) (fun _ _ _ h => h) (Or.inr ⟨by rfl, rfl⟩) hS1 ?_
          try simp only [qA, qB, qC, Act.put, qD, qE, qF]
          refine wpAnyH_take (i := 9) rfl (by kernel_rfl) (by kernel_rfl) (by kernel_rfl) (fun _ _ _ h => h) (Or.inr ⟨by rfl, rfl⟩) hS1 ?_
          try simp only [qA, qB, qC, Act.put, qD, qE, qF]
          refine wpAnyH_take (i := 10) (v := .bool false) rfl (by kernel_rfl) (by kernel_rfl) (by kernel_rfl) (fun _ _ _ h => h) (Or.inl ⟨by rfl, fun z hz => ?_⟩) hS1 ?_
          · obtain ⟨z1, z2, _⟩ := hz
            go_simp
          try simp only [qA, qB, qC, Act.put, qD, qE, qF]
          refine wpAnyH_ready (rs := [11]) (by kernel_rfl) (by simp) ?_
          refine AllReadyH.cons rfl (fun K hK => ?_) AllReadyH.nil
          obtain ⟨z1, z2, z3, z4, z5, z6, z7, z8, z9⟩ := hS1
          go_simp
          refine hK.out _ _ (heldR_set (heldR_set ⟨z1, z2, z3, z4, z5, z6, z7, z8, z9⟩ _ (by simp) _) _ (by simp) _) (fun hS2 => ?_)
          clear hK K
          try simp only [qA, qB, qC, Act.put, qD, qE, qF]
          refine wpAnyH_take (i := 12) (v := .bool false) rfl (by kernel_rfl) (by kernel_rfl) (by kernel_rfl) (fun _ _ _ h => h) (Or.inl ⟨by rfl, fun z hz => by go_simp⟩) hS2 ?_
          try simp only [qA, qB, qC, Act.put, qD, qE, qF]
          refine wpAnyH_done (by kernel_rfl) ?_ _
          obtain ⟨he0, he1, heb⟩ := heldR_end (v := v) hS2
          clear hS2 z1 z2 z3 z4 z5 z6 z7 z8 z9 hS0 HS hb
          generalize ((v.setCell ⟨w.heap.size, 0, none⟩ (.string (S (P.head 62 rest)))).setCell ⟨w.heap.size, 1, none⟩ (.string (S rep))) = wf at *
          have HEB := Lib.hid heb; clear heb
          go_wp2
          refine bodyPost_ret (v := .tuple #[.agg #[.string (S (P.head 62 rest)), .string (S rep)], .bool false]) (by simp [results, Tryz.results222, go_sem, he0, he1]) rfl ⟨by rw [HF.out, hgd]; rfl, HEB.out⟩
end Go.Proofs.YtmlklnimoknojaaGreatDoor.L
