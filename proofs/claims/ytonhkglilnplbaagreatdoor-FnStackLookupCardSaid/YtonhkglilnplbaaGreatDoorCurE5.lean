/- Walks: an outline of a dictionary, as the cursor draws it. -/
import Derived.Deep.DeepCutAuto
import Derived.Test.YtonhkglilnplbaaGreatDoorCurE4
set_option linter.all false
namespace Go.Proofs.YtonhkglilnplbaaGreatDoor
open Go Go.RowKit
set_option maxHeartbeats 4000000
set_option maxRecDepth 100000
/-- drawn ints -/
def IntsDrawn (B C K m : Nat) (w : World) (e : Ending) (w' : World) : Prop := ∃ (l : List Int) (u : Value), e = .returned u ∧ l.length ≤ m ∧ Ints w' (Bet w.heap.size w'.heap.size) u l ∧ CurPost B C K w w'
theorem cur_known (B C N lo hi : Nat) (u : Value) (l : P.Dic) (w : World) (hN : N < 2 ^ 31) (h : IsCur B C N w) (hr : ReadE lo hi w u l) (hlo : C < lo) (hd : Drawn l) :
    Calls Tryz.prog 124 #[.pointer (some ⟨C, 0, none⟩), .agg #[u]] w (IntsDrawn B C (N + 200) 8 w) := by
  have hlt := h.lt
  have hba := (Below.refl w.heap.size w).alloc (Nat.le_refl _) (.cells #[u] 32)
  have HC := Lib.hid ((CurPost.refl h (Nat.le_refl N)).below hba)
  have HD := Lib.hid (DBx.new u 32 w)
  have HR := Lib.hid (hr.chg (Below.chg hba (fun _ => False)) (fun _ _ _ h => h))
  have HDR := Lib.hid hd
  have hl60 := hd.len
  obtain ⟨ad, cap, rfl, _, _⟩ := hr.now
  clear h hr hba hd
  go_enter Tryz.func124, Tryz.ntmps124
  by_cases hpos : 0 < l.length
  · obtain ⟨b0, _⟩ := HD.out
    have hpi : (0 : Int) < (l.length : Int) := by omega
    go_wp2_with fail
    refine (cur_one B C N 3 _ (by omega) (by decide) HC.out.1).mono ?_
    rintro e w1 ⟨b, rfl, hc⟩
    have HC1 := Lib.hid (HC.out.trans hc)
    have HD1 := Lib.hid (HD.out.stand hc.2 (by omega))
    have HR1 := Lib.hid (HR.out.chg hc.2 (fun b h1 h2 e => by omega))
    have hz1 : w.heap.size < w1.heap.size := HD1.out.2.2
    clear hc HC HD HR b0
    cases b
    · have HS := Lib.hid (show DBx w.heap.size (.slice ad l.length cap) w1.drew from HD1.out.below (Below.refl _ _).drew)
      go_upto_region 2 with fail
      refine wp_region_held_drew (S := DBx w.heap.size (.slice ad l.length cap)) (by kernel_rfl) HS.out (fun hS0 => ?_)
      have hdd : Below w1.heap.size w1 w1.drew := (Below.refl _ _).drew
      have HC2 := Lib.hid (HC1.out.below hdd); have HR2 := Lib.hid (HR1.out.chg (Below.chg hdd (fun _ => False)) (fun _ _ _ h => h))
      have hz1' : w.heap.size < w1.drew.heap.size := hz1
      clear HC1 HD1 HR1 HS hdd
      generalize w1.drew = v0 at *
      refine wpAnyH_take (i := 0) (v := .pointer (some ⟨w.heap.size, 0, none⟩)) rfl (by kernel_rfl) (by kernel_rfl) (by kernel_rfl) (fun _ _ _ h => h) (Or.inl ⟨by rfl, fun z hz => ?_⟩) hS0 ?_
      · obtain ⟨z1, z2, z3⟩ := hz
        go_simp
      try simp only [List.getElem_toArray, List.getElem_cons_zero, Act.put, List.setIfInBounds_toArray, List.set_cons_zero, List.set_cons_succ]
      refine wpAnyH_take (i := 1) (v := .slice ad l.length cap) rfl (by kernel_rfl) (by kernel_rfl) (by kernel_rfl) (fun _ _ _ h => h) (Or.inl ⟨by rfl, fun z hz => ?_⟩) hS0 ?_
      · obtain ⟨z1, z2, z3⟩ := hz
        go_simp
      try simp only [List.getElem_toArray, List.getElem_cons_zero, List.getElem_cons_succ, Act.put, List.setIfInBounds_toArray, List.set_cons_zero, List.set_cons_succ]
      refine wpAnyH_take (i := 2) (v := .pointer (some ⟨C, 0, none⟩)) rfl (by kernel_rfl) (by kernel_rfl) (by kernel_rfl) (fun _ _ _ h => h) (Or.inl ⟨by rfl, fun z hz => ?_⟩) hS0 ?_
      · obtain ⟨z1, z2, z3⟩ := hz
        go_simp
      try simp only [List.getElem_toArray, List.getElem_cons_zero, List.getElem_cons_succ, Act.put, List.setIfInBounds_toArray, List.set_cons_zero, List.set_cons_succ]
      refine wpAnyH_take (i := 3) (v := .pointer (some ⟨w.heap.size, 0, none⟩)) rfl (by kernel_rfl) (by kernel_rfl) (by kernel_rfl) (fun _ _ _ h => h) (Or.inl ⟨by rfl, fun z hz => ?_⟩) hS0 ?_
      · obtain ⟨z1, z2, z3⟩ := hz
        go_simp
      try simp only [List.getElem_toArray, List.getElem_cons_zero, List.getElem_cons_succ, Act.put, List.setIfInBounds_toArray, List.set_cons_zero, List.set_cons_succ]
      refine wpAnyH_take (i := 4) (v := .slice ad l.length cap) rfl (by kernel_rfl) (by kernel_rfl) (by kernel_rfl) (fun _ _ _ h => h) (Or.inl ⟨by rfl, fun z hz => ?_⟩) hS0 ?_
      · obtain ⟨z1, z2, z3⟩ := hz
        go_simp
      try simp only [List.getElem_toArray, List.getElem_cons_zero, List.getElem_cons_succ, Act.put, List.setIfInBounds_toArray, List.set_cons_zero, List.set_cons_succ]
      refine wpAnyH_take (i := 5) (v := .int .i64 (l.length : Int)) rfl (by kernel_rfl) (by kernel_rfl) (by kernel_rfl) (fun _ _ _ h => h) (Or.inl ⟨by rfl, fun z hz => ?_⟩) hS0 ?_
      · obtain ⟨z1, z2, z3⟩ := hz
        go_simp
      try simp only [List.getElem_toArray, List.getElem_cons_zero, List.getElem_cons_succ, Act.put, List.setIfInBounds_toArray, List.set_cons_zero, List.set_cons_succ]
      refine wpAnyH_ready (rs := [6]) (by kernel_rfl) (by simp) ?_
      refine AllReadyH.cons rfl (fun K hK => ?_) AllReadyH.nil
      go_simp
      refine (cur_pick B C (N + 2) l.length _ (by omega) (by omega) HC2.out.1).mono ?_
      rintro e v1 ⟨i, hi', rfl, hc⟩
      have hil : i < l.length := by omega
      have HC3 := Lib.hid (HC2.out.trans hc); have HR3 := Lib.hid (HR2.out.chg hc.2 (fun b h1 h2 e => by omega))
      refine hK.out _ _ (hS0.stand hc.2 (by omega)) (fun hS1 => ?_)
      clear hK K hc hi' HC2 HR2
      obtain ⟨g, o, rfl, hg, x, c0, c1, hx⟩ := HR3.out.now.at i hil
      have HX := Lib.hid hx
      obtain ⟨xd, xc, rfl, _, _⟩ := hx
      have hol := HDR.out.outs _ (List.getElem_mem hil)
      have i1 : (i : Int) < (l.length : Int) := by omega
      generalize l[i] = en at *
      obtain ⟨eo, et⟩ := en
      simp only at HX c0 hol
      try simp only [List.getElem_toArray, List.getElem_cons_zero, List.getElem_cons_succ, Act.put, List.setIfInBounds_toArray, List.set_cons_zero, List.set_cons_succ]
      refine wpAnyH_take (i := 7) (v := .pointer (some ⟨g, o + i * 2, none⟩)) rfl (by kernel_rfl) (by kernel_rfl) (by kernel_rfl) (fun _ _ _ h => h) (Or.inl ⟨by rfl, fun z hz => ?_⟩) hS1 ?_
      · obtain ⟨z1, z2, z3⟩ := hz
        go_simp
      try simp only [List.getElem_toArray, List.getElem_cons_zero, List.getElem_cons_succ, Act.put, List.setIfInBounds_toArray, List.set_cons_zero, List.set_cons_succ]
      refine wpAnyH_take (i := 8) (v := .pointer (some ⟨g, o + i * 2, none⟩)) rfl (by kernel_rfl) (by kernel_rfl) (by kernel_rfl) (fun _ _ _ h => h) (Or.inl ⟨by rfl, fun z hz => ?_⟩) hS1 ?_
      · obtain ⟨z1, z2, z3⟩ := hz
        go_simp
      try simp only [List.getElem_toArray, List.getElem_cons_zero, List.getElem_cons_succ, Act.put, List.setIfInBounds_toArray, List.set_cons_zero, List.set_cons_succ]
      refine wpAnyH_ready (rs := [9]) (by kernel_rfl) (by simp) ?_
      refine AllReadyH.cons rfl (fun K hK => ?_) AllReadyH.nil
      go_simp
      refine hK.out _ _ hS1 (fun hS2 => ?_)
      clear hK K
      try simp only [List.getElem_toArray, List.getElem_cons_zero, List.getElem_cons_succ, Act.put, List.setIfInBounds_toArray, List.set_cons_zero, List.set_cons_succ]
      refine wpAnyH_ready (rs := [10]) (by kernel_rfl) (by simp) ?_
      refine AllReadyH.cons rfl (fun K hK => ?_) AllReadyH.nil
      go_simp
      refine (l1Own _ eo _ HX.out (by omega)).mono ?_
      rintro e v2 ⟨y, rfl, hI, hb⟩
      have HC4 := Lib.hid (HC3.out.below hb)
      have HI := Lib.hid (show Ints v2 (Bet w.heap.size v2.heap.size) y eo from hI.wide (fun b hb' => ⟨by have h1 := hb'.1; have h2 := HC3.out.2.size; omega, hb'.2⟩) (fun b hb' => hb'.2))
      refine hK.out _ _ (hS2.below hb) (fun hS3 => ?_)
      clear hK K hb hI
      obtain ⟨yd, yc, rfl, _, _⟩ := id HI.out
      try simp only [List.getElem_toArray, List.getElem_cons_zero, List.getElem_cons_succ, Act.put, List.setIfInBounds_toArray, List.set_cons_zero, List.set_cons_succ]
      refine wpAnyH_take (i := 11) (v := .slice yd eo.length yc) rfl (by kernel_rfl) (by kernel_rfl) (by kernel_rfl) (fun _ _ _ h => h) (Or.inl ⟨by rfl, fun z hz => ?_⟩) hS3 ?_
      · obtain ⟨z1, z2, z3⟩ := hz
        go_simp
      try simp only [List.getElem_toArray, List.getElem_cons_zero, List.getElem_cons_succ, Act.put, List.setIfInBounds_toArray, List.set_cons_zero, List.set_cons_succ]
      refine wpAnyH_done (by kernel_rfl) ?_ _
      clear hS0 hS1 hS2 hS3
      go_wp2
      go_ret
      exact ⟨eo, _, rfl, hol, HI.out, HC4.out.mono (by omega)⟩
    · go_wp2_with fail
      refine (cur_anyOutline B C (N + 2) _ (by omega) HC1.out.1).mono ?_
      rintro e w2 ⟨o, y, rfl, ho, hown, hc⟩
      have HC2 := Lib.hid (HC1.out.trans hc)
      have HI := Lib.hid (show Ints w2 (Bet w.heap.size w2.heap.size) y o from (ints_of_owns hown (by omega)).wide (fun b hb => ⟨by have := hb.1; omega, hb.2⟩) (fun b hb => hb.2))
      clear hc hown
      go_wp2
      go_ret
      exact ⟨o, _, rfl, ho, HI.out, HC2.out.mono (by omega)⟩
  · obtain ⟨b0, _⟩ := HD.out
    have hpi : ¬ (0 : Int) < (l.length : Int) := by omega
    go_wp2_with fail
    refine (cur_anyOutline B C N _ (by omega) HC.out.1).mono ?_
    rintro e w2 ⟨o, y, rfl, ho, hown, hc⟩
    have HC2 := Lib.hid (HC.out.trans hc)
    have HI := Lib.hid (show Ints w2 (Bet w.heap.size w2.heap.size) y o from (ints_of_owns hown (by omega)).wide (fun b hb => ⟨by have := hb.1; simp at this; omega, hb.2⟩) (fun b hb => hb.2))
    clear hc hown
    go_wp2
    go_ret
    exact ⟨o, _, rfl, ho, HI.out, HC2.out.mono (by omega)⟩
end Go.Proofs.YtonhkglilnplbaaGreatDoor
