/- Walks: the law's own functions on tries: a mark, what is held, a size. Tries that came in. -/
import Derived.Deep.DeepCutAuto
import Derived.Deep.RegionHeld
import Derived.Test.YtojcfpjoikmgcaaGreatDoorTrieM
namespace Go.Proofs.YtojcfpjoikmgcaaGreatDoor
section
open Go Go.RowKit
set_option maxHeartbeats 1000000
set_option maxRecDepth 100000
theorem markTrieNodeS (u : Value) (l : P.Tri) (k : Int) (F : Blk) (w : World) (hu : Nods w F u l) (hk0 : 0 ≤ k) (hk : P.kAtT k l ≤ 2 ^ 40) :
    Calls Tryz.prog 79 #[u, .int .i64 k] w fun e w' => e = .returned (.int .i64 (P.kAtT k l)) ∧ Nods w' F u (P.markT k l) ∧ Chg F w w' := by
  obtain ⟨ad, cap, rfl, hl, hnil, hc0⟩ := hu
  have HNIL := Lib.hid hnil; clear hnil
  have HC := Lib.hid hc0; clear hc0
  go_enter Tryz.func79, Tryz.ntmps79
  go_wp2
  go_loopw [1, 5] (fun kk i wr => ∃ j : Nat, j ≤ l.length ∧ i = .int .i64 j ∧ kk = .int .i64 (P.kAtT k (l.take j)) ∧ MarkN w F ad k j l wr) (fun _ i _ => l.length - (intOf i).toNat)
  case atStart => exact ⟨0, Nat.zero_le _, rfl, by simp [P.kAtT], MarkN.start HC.out⟩
  case round =>
    obtain ⟨j, hj, rfl, rfl, hm⟩ := hrel
    have HM := Lib.hid hm; clear hm
    have hb1 := P.kAtT_take k l j
    have hb0 := P.kAtT_ge k (l.take j)
    by_cases hlt : j < l.length
    · obtain ⟨g, o, x, y, G1, G2, rfl, hgs, ⟨c0, c1, c2, c3⟩, ⟨f2, f3⟩, n1, n2, hx, hy, hput⟩ := HM.out.cells hlt
      have HPUT := Lib.hid hput; clear hput
      have HKS := Lib.hid (show P.kAtT k (l.take (j + 1)) = P.kAtN (P.kAtT k (l.take j)) l[j] by rw [take_snoc l j hlt, P.kAtT_snoc])
      have hb2 : P.kAtN (P.kAtT k (l.take j)) l[j] ≤ 2 ^ 40 := by have := P.kAtT_take k l (j + 1); rw [HKS.out] at this; omega
      have HX := Lib.hid hx; have HY := Lib.hid hy
      have hy0 := hy wr (Chg.refl _ _)
      obtain ⟨xd, xc, rfl, hxl, _⟩ := hx
      obtain ⟨yd, yc, rfl, hyl, _⟩ := hy0
      generalize P.kAtT k (l.take j) = kk at *
      generalize l[j] = en at *
      obtain ⟨xs, ys, t, s⟩ := en
      unfold P.kAtN at hb2 HKS
      simp only [P.markN] at hb2 hxl hyl HX HY HPUT HKS c2 c3
      have i1 : (j : Int) < (l.length : Int) := by omega
      have k0 : 0 ≤ kk := by omega
      clear hb0 hb1 hy
      go_wp2_with fail
      refine (markIntS _ xs kk G1 _ HX.out k0 (by omega)).mono ?_
      rintro e v1 ⟨rfl, hI, hc1, hs1⟩
      have a1 := (hc1.cell (p := ⟨g, o + j * 4 + 1, none⟩) hgs n1).trans c1
      have a2 := (hc1.cell (p := ⟨g, o + j * 4 + 2, none⟩) hgs n1).trans c2
      have a3 := (hc1.cell (p := ⟨g, o + j * 4 + 3, none⟩) hgs n1).trans c3
      have b2 := (hc1.frozen (p := ⟨g, o + j * 4 + 2, none⟩) hgs n1).trans f2
      have b3 := (hc1.frozen (p := ⟨g, o + j * 4 + 3, none⟩) hgs n1).trans f3
      have hgs1 : g < v1.heap.size := by omega
      have HY1 := Lib.hid (HY.out v1 hc1)
      have HC1 := Lib.hid hc1; have HI := Lib.hid hI
      clear hc1 hI hs1 c0 c1 c2 c3 f2 f3 hgs
      go_wp2_with fail
      refine (markIntS _ ys (kk + xs.length) G2 _ HY1.out (by omega) (by omega)).mono ?_
      rintro e v2 ⟨rfl, hI, hc2, hs2⟩
      have d2 := (hc2.cell (p := ⟨g, o + j * 4 + 2, none⟩) hgs1 n2).trans a2
      have d3 := (hc2.cell (p := ⟨g, o + j * 4 + 3, none⟩) hgs1 n2).trans a3
      have e2 := (hc2.frozen (p := ⟨g, o + j * 4 + 2, none⟩) hgs1 n2).trans b2
      have e3 := (hc2.frozen (p := ⟨g, o + j * 4 + 3, none⟩) hgs1 n2).trans b3
      have hgs2 : g < v2.heap.size := by omega
      have HC2 := Lib.hid hc2; have HJ := Lib.hid hI
      clear hc2 hI hs2 a1 a2 a3 b2 b3 hgs1
      unfold P.flagT at HPUT
      go_wp2_with fail
      refine (markText _ _ (by omega) (by omega)).mono ?_
      rintro e v4 ⟨rfl, hb4⟩
      have d3' := (hb4.cell (p := ⟨g, o + j * 4 + 3, none⟩) (by simpa [World.setCell] using hgs2)).trans ((World.cell?_setCell_other _ _ _ _ (by intro e; injection e; omega)).trans d3)
      have e3' := (hb4.frozen (p := ⟨g, o + j * 4 + 3, none⟩) (by simpa [World.setCell] using hgs2)).trans (by simpa using e3)
      have HN := Lib.hid (HPUT.out v1 v2 v4 HI.out HC1.out HJ.out HC2.out hb4)
      clear hb4 d2 d3 e2 e3
      generalize P.mtext (kk + (xs.length : Int) + (ys.length : Int) + 1) = tx at *
      go_wp2
      go_roundw
      case rel => exact ⟨j + 1, by omega, by go_num, by rw [HKS.out]; go_num, HN.out⟩
      case measure => simp [intOf]; omega
    · have hjl : j = l.length := by omega
      subst hjl
      clear hb0 hb1
      go_wp2
      go_ret
      exact ⟨ret_int (by rw [List.take_length]), HM.out.last hl HNIL.out, HM.out.1⟩
theorem heldTrieNodeS (u : Value) (l : P.Tri) (k : Int) (w : World) (hu : NodR w u (P.markT k l)) (hk0 : 0 ≤ k) (hk : P.kAtT k l ≤ 2 ^ 40) :
    Calls Tryz.prog 105 #[u, .int .i64 k] w fun e w' => e = .returned (.int .i64 (P.kAtT k l)) ∧ Below w.heap.size w w' := by
  have HU := Lib.hid hu
  obtain ⟨ad, cap, rfl, hl, _⟩ := hu
  rw [P.markT_len] at *
  go_enter Tryz.func105, Tryz.ntmps105
  go_wp2
  go_loopw [1, 5] (fun kk i wr => ∃ j : Nat, j ≤ l.length ∧ i = .int .i64 j ∧ kk = .int .i64 (P.kAtT k (l.take j)) ∧ Below w.heap.size w wr) (fun _ i _ => l.length - (intOf i).toNat)
  case atStart => exact ⟨0, Nat.zero_le _, rfl, by simp [P.kAtT], Below.refl _ _⟩
  case round =>
    obtain ⟨j, hj, rfl, rfl, hb⟩ := hrel
    have HB := Lib.hid hb
    have hb1 := P.kAtT_take k l j
    have hb0 := P.kAtT_ge k (l.take j)
    by_cases hlt : j < l.length
    · obtain ⟨g, o, rfl, hgs, x, y, c0, c1, c2, c3, hx, hy⟩ := (HU.out.below hb).at j (by rw [P.markT_len]; exact hlt)
      rw [P.markT_get k l j hlt] at c2 c3 hx hy
      have HKS := Lib.hid (show P.kAtT k (l.take (j + 1)) = P.kAtN (P.kAtT k (l.take j)) l[j] by rw [take_snoc l j hlt, P.kAtT_snoc])
      have hb2 : P.kAtN (P.kAtT k (l.take j)) l[j] ≤ 2 ^ 40 := by have := P.kAtT_take k l (j + 1); rw [HKS.out] at this; omega
      generalize P.kAtT k (l.take j) = kk at *
      generalize l[j] = en at *
      obtain ⟨xs, ys, t, s⟩ := en
      unfold P.kAtN at hb2 HKS
      simp only [P.markN] at hb2 hx hy HKS c2 c3
      have HX := Lib.hid hx; have HY := Lib.hid hy
      obtain ⟨xd, xc, rfl, hxl, _⟩ := hx
      obtain ⟨yd, yc, rfl, hyl, _⟩ := hy
      rw [P.marks_len] at *
      have i1 : (j : Int) < (l.length : Int) := by omega
      have k0 : 0 ≤ kk := by omega
      have hn1 : ¬ kk + (xs.length : Int) < 0 := by omega
      have hn2 : ¬ kk + (xs.length : Int) + (ys.length : Int) < 0 := by omega
      have hbz := hb.size
      clear hb0 hb1 hb
      unfold P.flagT at c2
      go_wp2_with fail
      refine (heldIntS _ xs.length kk _ HX.out k0 (by omega) (by omega)).mono ?_
      rintro e v1 ⟨rfl, rfl⟩
      go_wp2_with fail
      refine (heldIntS _ ys.length (kk + xs.length) _ HY.out (by omega) (by omega) (by omega)).mono ?_
      rintro e v1 ⟨rfl, rfl⟩
      have HS := Lib.hid (show HeldS w g (o + j * 4 + 3) (.string (S (P.mtext (kk + xs.length + ys.length + 1)))) wr.drew from ⟨c3, hgs, hbz, HB.out.drew⟩)
      go_upto_region 13 with fail
      refine wp_region_held_drew (S := HeldS w g (o + j * 4 + 3) (.string (S (P.mtext (kk + xs.length + ys.length + 1))))) (by kernel_rfl) HS.out (fun hS0 => ?_)
      refine wpAnyH_take (i := 0) (v := .slice (some ⟨g, o, none⟩) l.length cap) rfl (by kernel_rfl) (by kernel_rfl) (by kernel_rfl) (fun _ _ _ h => h) (Or.inl ⟨by rfl, fun z hz => ?_⟩) hS0 ?_
      · obtain ⟨z1, z2, z3, z4⟩ := hz
        go_simp
      try simp only [List.getElem_toArray, List.getElem_cons_zero, Act.put, List.setIfInBounds_toArray, List.set_cons_zero, List.set_cons_succ]
      refine wpAnyH_take (i := 1) (v := .int .i64 j) rfl (by kernel_rfl) (by kernel_rfl) (by kernel_rfl) (fun _ _ _ h => h) (Or.inl ⟨by rfl, fun z hz => ?_⟩) hS0 ?_
      · obtain ⟨z1, z2, z3, z4⟩ := hz
        go_simp
      try simp only [List.getElem_toArray, List.getElem_cons_zero, List.getElem_cons_succ, Act.put, List.setIfInBounds_toArray, List.set_cons_zero, List.set_cons_succ]
      refine wpAnyH_take (i := 2) (v := .pointer (some ⟨g, o + j * 4, none⟩)) rfl (by kernel_rfl) (by kernel_rfl) (by kernel_rfl) (fun _ _ _ h => h) (Or.inl ⟨by rfl, fun z hz => ?_⟩) hS0 ?_
      · obtain ⟨z1, z2, z3, z4⟩ := hz
        go_simp
      try simp only [List.getElem_toArray, List.getElem_cons_zero, List.getElem_cons_succ, Act.put, List.setIfInBounds_toArray, List.set_cons_zero, List.set_cons_succ]
      refine wpAnyH_take (i := 3) (v := .pointer (some ⟨g, o + j * 4 + 3, none⟩)) rfl (by kernel_rfl) (by kernel_rfl) (by kernel_rfl) (fun _ _ _ h => h) (Or.inl ⟨by rfl, fun z hz => ?_⟩) hS0 ?_
      · obtain ⟨z1, z2, z3, z4⟩ := hz
        go_simp
      try simp only [List.getElem_toArray, List.getElem_cons_zero, List.getElem_cons_succ, Act.put, List.setIfInBounds_toArray, List.set_cons_zero, List.set_cons_succ]
      refine wpAnyH_take (i := 4) (v := .string (S (P.mtext (kk + xs.length + ys.length + 1)))) rfl (by kernel_rfl) (by kernel_rfl) (by kernel_rfl) (fun _ _ _ h => h) (Or.inl ⟨by rfl, fun z hz => ?_⟩) hS0 ?_
      · obtain ⟨z1, z2, z3, z4⟩ := hz
        go_simp
      try simp only [List.getElem_toArray, List.getElem_cons_zero, List.getElem_cons_succ, Act.put, List.setIfInBounds_toArray, List.set_cons_zero, List.set_cons_succ]
      refine wpAnyH_take (i := 5) (v := .int .i64 (kk + xs.length + ys.length + 1)) rfl (by kernel_rfl) (by kernel_rfl) (by kernel_rfl) (fun _ _ _ h => h) (Or.inl ⟨by rfl, fun z hz => ?_⟩) hS0 ?_
      · obtain ⟨z1, z2, z3, z4⟩ := hz
        go_simp
      try simp only [List.getElem_toArray, List.getElem_cons_zero, List.getElem_cons_succ, Act.put, List.setIfInBounds_toArray, List.set_cons_zero, List.set_cons_succ]
      refine wpAnyH_ready (rs := [6]) (by kernel_rfl) (by simp) ?_
      refine AllReadyH.cons rfl (fun K hK => ?_) AllReadyH.nil
      have HS1 := Lib.hid hS0
      go_simp
      refine (markText _ _ (by omega) (by omega)).mono ?_
      rintro e v ⟨rfl, hb⟩
      refine hK.out _ _ (HS1.out.step hb) (fun hS1 => ?_)
      clear hK K hb
      try simp only [List.getElem_toArray, List.getElem_cons_zero, List.getElem_cons_succ, Act.put, List.setIfInBounds_toArray, List.set_cons_zero, List.set_cons_succ]
      refine wpAnyH_take (i := 7) (v := .bool false) rfl (by kernel_rfl) (by kernel_rfl) (by kernel_rfl) (fun _ _ _ h => h) (Or.inl ⟨by rfl, fun z hz => ?_⟩) hS1 ?_
      · obtain ⟨z1, z2, z3, z4⟩ := hz
        go_simp
      try simp only [List.getElem_toArray, List.getElem_cons_zero, List.getElem_cons_succ, Act.put, List.setIfInBounds_toArray, List.set_cons_zero, List.set_cons_succ]
      refine wpAnyH_done (by kernel_rfl) ?_ _
      have HB2 := Lib.hid (hS1.2.2.2)
      clear hS0 hS1 HS1
      go_wp2
      go_roundw
      case rel => exact ⟨j + 1, by omega, by go_num, by rw [HKS.out]; go_num, HB2.out⟩
      case measure => simp [intOf]; omega
    · have hjl : j = l.length := by omega
      subst hjl
      clear hb0 hb1 hb
      go_wp2
      go_ret
      exact ⟨ret_int (by rw [List.take_length]), HB.out⟩
theorem markTrie (u : Value) (l : P.Tri) (k : Int) (F : Blk) (w : World) (hu : Nods w F u l) (hk0 : 0 ≤ k) (hk : P.kAtT k l ≤ 2 ^ 40) :
    Calls Tryz.prog 31 #[.agg #[u], .int .i64 k] w fun e w' => e = .returned (.int .i64 (P.kAtT k l)) ∧ Nods w' F u (P.markT k l) ∧ Chg F w w' := by
  have HU := Lib.hid (hu.below nodE_ok ((Below.refl w.heap.size w).alloc (Nat.le_refl _) (.cells #[u] 30)))
  have HC := Lib.hid ((Chg.refl F w).alloc (.cells #[u] 30))
  obtain ⟨ad, cap, rfl, _, _⟩ := hu
  go_enter Tryz.func31, Tryz.ntmps31
  go_wp2_with fail
  refine (markTrieNodeS _ l k F _ HU.out hk0 hk).mono ?_
  rintro e w1 ⟨rfl, hI, hc⟩
  have HI := Lib.hid hI; have HC1 := Lib.hid (HC.out.trans hc)
  clear hI hc
  go_wp2
  go_ret
  exact ⟨rfl, HI.out, HC1.out⟩
theorem heldTrie (u : Value) (l : P.Tri) (k : Int) (w : World) (hu : NodR w u (P.markT k l)) (hk0 : 0 ≤ k) (hk : P.kAtT k l ≤ 2 ^ 40) :
    Calls Tryz.prog 58 #[.agg #[u], .int .i64 k] w fun e w' => e = .returned (.int .i64 (P.kAtT k l)) ∧ Below w.heap.size w w' := by
  have hb0 := (Below.refl w.heap.size w).alloc (Nat.le_refl _) (.cells #[u] 30)
  have HU := Lib.hid (hu.below hb0); have HB0 := Lib.hid hb0; clear hb0
  obtain ⟨ad, cap, rfl, _, _⟩ := hu
  go_enter Tryz.func58, Tryz.ntmps58
  go_wp2_with fail
  refine (heldTrieNodeS _ l k _ HU.out hk0 hk).mono ?_
  rintro e w1 ⟨rfl, hb⟩
  have HB1 := Lib.hid (HB0.out.trans (hb.mono (by simp)))
  have hg := P.kAtT_ge k l
  have hn : ¬ P.kAtT k l < 0 := by omega
  clear hb hg
  go_wp2
  go_ret
  exact ⟨rfl, HB1.out⟩
/-- a slice of nodes that came in -/
def NodA (v : World) (u : Value) (l : P.Tri) : Prop :=
  ∃ (ad : Option Addr) (cap : Nat), u = .slice ad l.length cap ∧ (l.length ≤ 9223372036854775807 ∧ l.length ≤ cap) ∧ (ad = none → cap = 0) ∧ (l = [] ∨ ∃ g o, ad = some ⟨g, o, none⟩ ∧ g < v.heap.size ∧ ∀ (j : Nat) (h : j < l.length), ∃ x y, v.cell? ⟨g, o + j * 4, none⟩ = some x ∧ v.cell? ⟨g, o + j * 4 + 1, none⟩ = some y ∧ v.cell? ⟨g, o + j * 4 + 2, none⟩ = some (.bool (l[j]'h).2.2.1) ∧ v.cell? ⟨g, o + j * 4 + 3, none⟩ = some (.string (S (l[j]'h).2.2.2)) ∧ IntA v x (l[j]'h).1 ∧ IntA v y (l[j]'h).2.1)
theorem NodA.below {v v' : World} {u : Value} {l : P.Tri} (h : NodA v u l) (hb : Below v.heap.size v v') : NodA v' u l := by
  obtain ⟨ad, cap, h1, h2, hn, h3⟩ := h
  refine ⟨ad, cap, h1, h2, hn, h3.imp id ?_⟩
  rintro ⟨g, o, h4, h5, h6⟩
  refine ⟨g, o, h4, Nat.lt_of_lt_of_le h5 hb.size, fun j hj => ?_⟩
  obtain ⟨x, y, a, b, c, d, e, f⟩ := h6 j hj
  exact ⟨x, y, (hb.cell (p := ⟨g, _, none⟩) h5).trans a, (hb.cell (p := ⟨g, _, none⟩) h5).trans b, (hb.cell (p := ⟨g, _, none⟩) h5).trans c, (hb.cell (p := ⟨g, _, none⟩) h5).trans d, e.below hb, f.below hb⟩
theorem NodA.at {v : World} {ad : Option Addr} {n cap : Nat} {l : P.Tri} (h : NodA v (.slice ad n cap) l) (j : Nat) (hj : j < l.length) : ∃ g o, ad = some ⟨g, o, none⟩ ∧ g < v.heap.size ∧ ∃ x y, v.cell? ⟨g, o + j * 4, none⟩ = some x ∧ v.cell? ⟨g, o + j * 4 + 1, none⟩ = some y ∧ v.cell? ⟨g, o + j * 4 + 2, none⟩ = some (.bool (l[j]'hj).2.2.1) ∧ v.cell? ⟨g, o + j * 4 + 3, none⟩ = some (.string (S (l[j]'hj).2.2.2)) ∧ IntA v x (l[j]'hj).1 ∧ IntA v y (l[j]'hj).2.1 := by
  obtain ⟨ad', cap', he, _, _, h3⟩ := h
  injection he with h1 h2 h4
  rcases h3 with h3 | ⟨g, o, h5, h6, h7⟩
  · rw [h3] at hj; exact absurd hj (Nat.not_lt_zero _)
  · exact ⟨g, o, h1.trans h5, h6, h7 j hj⟩
/-- a trie that a law hands on: bounds, and texts -/
structure GoodT (l : P.Tri) : Prop where
  small : SmallT l
  text : ∀ n ∈ l, n.2.2.2.length ≤ 2 ^ 20
  kat : P.kAtT 1 l ≤ 2 ^ 40
theorem goodT_of {l : P.Tri} (h : (l.length : Int) + P.sizeT l ≤ 1048576) : GoodT l := by
  have h0 := P.sizeT_nonneg l
  refine ⟨⟨by omega, fun n hn => ⟨?_, ?_⟩⟩, fun n hn => ?_, ?_⟩
  · have := P.sizeT_mem hn; omega
  · have := P.sizeT_mem hn; omega
  · have := P.sizeT_mem hn; omega
  · have := P.kAtT_le 1 l; omega
theorem NodA.read {v : World} {u : Value} {l : P.Tri} (h : NodA v u l) (hs : SmallT l) : NodR v u l := by
  obtain ⟨ad, cap, h1, h0, h2, h3⟩ := h
  refine ⟨ad, cap, h1, by have := hs.len; omega, h2, h3.imp id ?_⟩
  rintro ⟨g, o, h4, h5, h6⟩
  refine ⟨g, o, h4, h5, fun j hj => ?_⟩
  obtain ⟨x, y, a, b, c, d, e, f⟩ := h6 j hj
  have hj' := hs.each _ (List.getElem_mem hj)
  exact ⟨x, y, a, b, c, d, e.read hj'.a, f.read hj'.b⟩
theorem szTrieNode (x y : Value) (n : P.Nd) (left : Int) (w : World) (hx : IntA w x n.1) (hy : IntA w y n.2.1) (ht : n.2.2.2.length ≤ 9223372036854775807) (h0 : 0 ≤ left) (h1 : left ≤ 2 ^ 20) :
    Calls Tryz.prog 123 #[.agg #[x, y, .bool n.2.2.1, .string (S n.2.2.2)], .int .i64 left] w (SzPost left (n.1.length + n.2.1.length + n.2.2.2.length) w) := by
  obtain ⟨xs, ys, t, s⟩ := n
  simp only at hx hy ht
  have hb0 := (Below.refl w.heap.size w).alloc (Nat.le_refl _) (.cells #[x, y, .bool t, .string (S s)] 145)
  have HX := Lib.hid (hx.below hb0); have HY := Lib.hid hy; have HB0 := Lib.hid hb0; clear hb0
  obtain ⟨ad, cap, rfl, _, _⟩ := hx
  obtain ⟨bd, dap, rfl, _, _⟩ := hy
  go_enter Tryz.func123, Tryz.ntmps123
  go_wp2_with fail
  refine (szIntS _ xs left _ HX.out h0 h1).mono ?_
  rintro e w1 ⟨⟨r, rfl, hr1, hr2⟩, hb⟩
  have hz := grew0 hb
  obtain ⟨hcc, _⟩ := bcell hb
  have c1 : w1.cell? ⟨w.heap.size, 1, none⟩ = some (.slice bd ys.length dap) := by rw [hcc _ _ (by simp)]; go_simp
  have c3 : w1.cell? ⟨w.heap.size, 3, none⟩ = some (.string (S s)) := by rw [hcc _ _ (by simp)]; go_simp
  have HB1 := Lib.hid (HB0.out.trans (hb.mono (by simp)))
  have HY1 := Lib.hid (HY.out.below HB1.out)
  clear hb hcc
  have HR := Lib.hid hr2; clear hr2
  by_cases hlt : r < 0
  · go_wp2
    go_ret
    exact ⟨⟨-1, rfl, by omega, by omega⟩, HB1.out⟩
  · have hr3 : r ≤ 2 ^ 20 := by have := HR.out (by omega); omega
    have hr0 : 0 ≤ r := by omega
    go_wp2_with fail
    refine (szIntS _ ys r _ HY1.out hr0 hr3).mono ?_
    rintro e w2 ⟨⟨q, rfl, hq1, hq2⟩, hb⟩
    have d3 := (hb.cell (p := ⟨w.heap.size, 3, none⟩) hz).trans c3
    have HB2 := Lib.hid (HB1.out.trans (hb.mono (by omega)))
    have HQ := Lib.hid hq2; clear hq2 hb c1 c3
    by_cases hlt1 : q < 0
    · go_wp2
      go_ret
      exact ⟨⟨-1, rfl, by omega, by omega⟩, HB2.out⟩
    · have hq3 : q ≤ 2 ^ 20 := by have := HQ.out (by omega); omega
      have hq0 : 0 ≤ q := by omega
      by_cases hlt2 : q - (s.length : Int) < 0
      · go_wp2
        go_ret
        exact ⟨⟨-1, rfl, by omega, by omega⟩, HB2.out⟩
      · go_wp2
        go_ret
        exact ⟨⟨_, rfl, by omega, fun _ => by have := HR.out hr0; have := HQ.out hq0; omega⟩, HB2.out⟩
theorem szTrieNodeS (u : Value) (l : P.Tri) (left : Int) (w : World) (hu : NodA w u l) (ht : ∀ n ∈ l, n.2.2.2.length ≤ 9223372036854775807) (h0 : 0 ≤ left) (h1 : left ≤ 2 ^ 20) :
    Calls Tryz.prog 71 #[u, .int .i64 left] w (SzPost left (l.length + P.sizeT l) w) := by
  have HU := Lib.hid hu
  have HT := Lib.hid ht; clear ht
  obtain ⟨ad, cap, rfl, hl, _⟩ := hu
  by_cases hlt : left - (l.length : Int) < 0
  · go_enter Tryz.func71, Tryz.ntmps71
    go_wp2
    go_ret
    exact ⟨⟨-1, rfl, by omega, by omega⟩, Below.refl _ _⟩
  · go_enter Tryz.func71, Tryz.ntmps71
    go_wp2
    go_loopw [1, 5] (fun kk i wr => ∃ (j : Nat) (r : Int), j ≤ l.length ∧ i = .int .i64 j ∧ kk = .int .i64 r ∧ 0 ≤ r ∧ r = left - l.length - P.sizeT (l.take j) ∧ Below w.heap.size w wr) (fun _ i _ => l.length - (intOf i).toNat)
    case atStart => exact ⟨0, _, Nat.zero_le _, rfl, rfl, by omega, by simp [P.sizeT], Below.refl _ _⟩
    case round =>
      obtain ⟨j, r, hj, rfl, rfl, hr0, hr, hb⟩ := hrel
      have HR := Lib.hid hr; have HB := Lib.hid hb
      have hsn := P.sizeT_nonneg (l.take j)
      have hr1 : r ≤ 2 ^ 20 := by omega
      clear hr hsn
      by_cases hlj : j < l.length
      · obtain ⟨g, o, rfl, hgs, x, y, c0, c1, c2, c3, hx, hy⟩ := (HU.out.below hb).at j hlj
        have htl := HT.out _ (List.getElem_mem hlj)
        have HSN := Lib.hid (show P.sizeT (l.take (j + 1)) = P.sizeT (l.take j) + (l[j].1.length + l[j].2.1.length + l[j].2.2.2.length) by rw [take_snoc l j hlj, P.sizeT_snoc])
        have HX := Lib.hid hx; have HY := Lib.hid hy
        obtain ⟨xd, xc, rfl, hxl, _⟩ := hx
        obtain ⟨yd, yc, rfl, hyl, _⟩ := hy
        have hbz := hb.size
        generalize l[j] = en at *
        have i1 : (j : Int) < (l.length : Int) := by omega
        clear hb
        go_wp2_with fail
        refine (szTrieNode _ _ en r _ HX.out HY.out htl hr0 hr1).mono ?_
        rintro e w1 ⟨⟨r', rfl, hr2, hr3⟩, hb⟩
        have HR3 := Lib.hid hr3
        have HB2 := Lib.hid (HB.out.trans (hb.mono hbz))
        clear hr3 hb
        by_cases hneg : r' < 0
        · go_wp2
          go_ret
          exact ⟨⟨-1, rfl, by omega, by omega⟩, HB2.out⟩
        · go_wp2
          go_roundw
          case rel => exact ⟨j + 1, r', by omega, by go_num, rfl, by omega, by have := HR3.out (by omega); have := HR.out; have := HSN.out; omega, HB2.out⟩
          case measure => simp [intOf]; omega
      · have HE := Lib.hid (show r = left - (l.length + P.sizeT l) by have := HR.out; rw [List.take_of_length_le (by omega)] at this; omega)
        clear hb
        go_wp2
        go_ret
        exact ⟨⟨r, rfl, by omega, fun _ => HE.out⟩, HB.out⟩
theorem szTrie (u : Value) (l : P.Tri) (left : Int) (w : World) (hu : NodA w u l) (ht : ∀ n ∈ l, n.2.2.2.length ≤ 9223372036854775807) (h0 : 0 ≤ left) (h1 : left ≤ 2 ^ 20) :
    Calls Tryz.prog 22 #[.agg #[u], .int .i64 left] w (SzPost left (l.length + P.sizeT l) w) := by
  have hb0 := (Below.refl w.heap.size w).alloc (Nat.le_refl _) (.cells #[u] 40)
  have HU := Lib.hid (hu.below hb0); have HB0 := Lib.hid hb0; clear hb0
  have HT := Lib.hid ht; clear ht
  obtain ⟨ad, cap, rfl, hl, _⟩ := hu
  go_enter Tryz.func22, Tryz.ntmps22
  go_wp2_with fail
  refine (szTrieNodeS _ l left _ HU.out HT.out h0 h1).mono ?_
  rintro e w1 ⟨⟨r, rfl, hr1, hr2⟩, hb⟩
  have HB1 := Lib.hid (HB0.out.trans (hb.mono (by simp)))
  have HR := Lib.hid hr2; clear hr2 hb
  by_cases hlt : r < 0
  · go_wp2
    go_ret
    exact ⟨⟨-1, rfl, by omega, by omega⟩, HB1.out⟩
  · go_wp2
    go_ret
    exact ⟨⟨r, rfl, by omega, HR.out⟩, HB1.out⟩
end
end Go.Proofs.YtojcfpjoikmgcaaGreatDoor
