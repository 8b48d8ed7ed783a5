/- Walks: a dictionary with an entry, with an outline, drawn from bytes; dictionaries that are equal. -/
import Derived.Test.YtonhkglilnplbaaGreatDoorFDict1
set_option linter.all false
namespace Go.Proofs.YtonhkglilnplbaaGreatDoor
open Go Go.RowKit
set_option maxHeartbeats 4000000
set_option maxRecDepth 100000
/-- what vDict's look at two entries keeps -/
def VDS (W : Nat) (u v : Value) (g p g' q : Nat) (x y s : Value) (w : World) : Prop :=
  w.cell? ⟨W, 0, none⟩ = some u ∧ w.cell? ⟨W + 1, 0, none⟩ = some v ∧ w.cell? ⟨g, p, none⟩ = some x ∧ w.cell? ⟨g, p + 1, none⟩ = some s ∧ w.cell? ⟨g', q, none⟩ = some y ∧ w.cell? ⟨g', q + 1, none⟩ = some s ∧ W + 1 < w.heap.size ∧ g < w.heap.size ∧ g' < w.heap.size
theorem VDS.below {W : Nat} {u v : Value} {g p g' q : Nat} {x y s : Value} {w w' : World} (h : VDS W u v g p g' q x y s w) (hb : Below w.heap.size w w') : VDS W u v g p g' q x y s w' := by
  obtain ⟨h1, h2, h3, h4, h5, h6, h7, h8, h9⟩ := h
  have hz := hb.size
  exact ⟨(hb.cell (p := ⟨W, 0, none⟩) (by show W < _; omega)).trans h1, (hb.cell (p := ⟨W + 1, 0, none⟩) h7).trans h2, (hb.cell (p := ⟨g, p, none⟩) h8).trans h3, (hb.cell (p := ⟨g, p + 1, none⟩) h8).trans h4, (hb.cell (p := ⟨g', q, none⟩) h9).trans h5, (hb.cell (p := ⟨g', q + 1, none⟩) h9).trans h6, by omega, by omega, by omega⟩
theorem vDict (u v : Value) (l : P.Dic) (w : World) (hu : EntR w u l) (hv : EntR w v l) :
    Calls Tryz.prog 50 #[.agg #[u], .agg #[v]] w fun e w' => e = .returned (.bool true) ∧ Below w.heap.size w w' := by
  have hb0 : Below w.heap.size w ((w.alloc (.cells #[u] 32)).alloc (.cells #[v] 32)) := ((Below.refl w.heap.size w).alloc (Nat.le_refl _) _).alloc (by simp) _
  have HU := Lib.hid (hu.below hb0); have HV := Lib.hid (hv.below hb0); have HB0 := Lib.hid hb0
  have HX := Lib.hid ((DBx.new u 32 w).below ((Below.refl _ _).alloc (Nat.le_refl _) (.cells #[v] 32)))
  have HY := Lib.hid (show DBx (w.heap.size + 1) v ((w.alloc (.cells #[u] 32)).alloc (.cells #[v] 32)) by
    have h := DBx.new v 32 (w.alloc (.cells #[u] 32)); simpa using h)
  obtain ⟨ad, cap, rfl, hla, _⟩ := hu
  obtain ⟨bd, dap, rfl, _, _⟩ := hv
  clear hb0
  go_enter Tryz.func50, Tryz.ntmps50
  go_wp2
  generalize hW : (w.alloc (.cells #[.slice ad l.length cap] 32)).alloc (.cells #[.slice bd l.length dap] 32) = w0 at *
  clear hW
  go_loopw [5] (fun i wr => ∃ j : Nat, j ≤ l.length ∧ i = .int .i64 j ∧ Below w0.heap.size w0 wr) (fun i _ => l.length - (intOf i).toNat)
  case atStart => exact ⟨0, Nat.zero_le _, rfl, Below.refl _ _⟩
  case round =>
    obtain ⟨j, hj, rfl, hb⟩ := hrel
    have HB := Lib.hid hb
    obtain ⟨x0, _⟩ := HX.out.below hb
    obtain ⟨y0, _⟩ := HY.out.below hb
    by_cases hlt : j < l.length
    · obtain ⟨g, o, hga, hgl, x, c0, c1, hx⟩ := (HU.out.below hb).at j hlt
      obtain ⟨g', o', hgb, hgl', y, d0, d1, hy⟩ := (HV.out.below hb).at j hlt
      subst hga hgb
      obtain ⟨xd, xc, rfl, _, _⟩ := id hx
      obtain ⟨yd, yc, rfl, _, _⟩ := id hy
      have HXX := Lib.hid hx; have HYY := Lib.hid hy
      generalize l[j] = en at *
      obtain ⟨eo, et⟩ := en
      simp only at HXX HYY c0 c1 d0 d1
      have HBW := Lib.hid (hb.trans ((Below.refl wr.heap.size wr).drew.mono hb.size))
      have hdw := (Below.refl wr.heap.size wr).drew
      have HXW := Lib.hid (HXX.out.below hdw); have HYW := Lib.hid (HYY.out.below hdw)
      have hz : w.heap.size + 1 < wr.heap.size := (HY.out.below hb).2.2
      have HS := Lib.hid (show VDS w.heap.size (.slice (some ⟨g, o, none⟩) l.length cap) (.slice (some ⟨g', o', none⟩) l.length dap) g (o + j * 2) g' (o' + j * 2) (.slice xd eo.length xc) (.slice yd eo.length yc) (.string (S et)) wr.drew from VDS.below ⟨x0, y0, c0, c1, d0, d1, hz, hgl, hgl'⟩ hdw)
      have i1 : (j : Int) < (l.length : Int) := by omega
      clear hb hx hy hdw c0 c1 d0 d1 hgl hgl' HXX HYY
      go_upto_region 6 with fail
      clear x0 y0
      refine wp_region_held_drew (S := VDS w.heap.size (.slice (some ⟨g, o, none⟩) l.length cap) (.slice (some ⟨g', o', none⟩) l.length dap) g (o + j * 2) g' (o' + j * 2) (.slice xd eo.length xc) (.slice yd eo.length yc) (.string (S et))) (by kernel_rfl) HS.out (fun hS0 => ?_)
      generalize wr.drew = v0 at *
      refine wpAnyH_take (i := 0) (v := .pointer (some ⟨w.heap.size, 0, none⟩)) rfl (by kernel_rfl) (by kernel_rfl) (by kernel_rfl) (fun _ _ _ h => h) (Or.inl ⟨by rfl, fun z hz => ?_⟩) hS0 ?_
      · obtain ⟨z1, z2, z3, z4, z5, z6, z7, z8, z9⟩ := hz
        go_simp
      try simp only [List.getElem_toArray, List.getElem_cons_zero, Act.put, List.setIfInBounds_toArray, List.set_cons_zero, List.set_cons_succ]
      refine wpAnyH_take (i := 1) (v := .slice (some ⟨g, o, none⟩) l.length cap) rfl (by kernel_rfl) (by kernel_rfl) (by kernel_rfl) (fun _ _ _ h => h) (Or.inl ⟨by rfl, fun z hz => ?_⟩) hS0 ?_
      · obtain ⟨z1, z2, z3, z4, z5, z6, z7, z8, z9⟩ := hz
        go_simp
      try simp only [List.getElem_toArray, List.getElem_cons_zero, List.getElem_cons_succ, Act.put, List.setIfInBounds_toArray, List.set_cons_zero, List.set_cons_succ]
      refine wpAnyH_take (i := 2) (v := .int .i64 j) rfl (by kernel_rfl) (by kernel_rfl) (by kernel_rfl) (fun _ _ _ h => h) (Or.inl ⟨by rfl, fun z hz => ?_⟩) hS0 ?_
      · obtain ⟨z1, z2, z3, z4, z5, z6, z7, z8, z9⟩ := hz
        go_simp
      try simp only [List.getElem_toArray, List.getElem_cons_zero, List.getElem_cons_succ, Act.put, List.setIfInBounds_toArray, List.set_cons_zero, List.set_cons_succ]
      refine wpAnyH_take (i := 3) (v := .pointer (some ⟨g, o + j * 2, none⟩)) rfl (by kernel_rfl) (by kernel_rfl) (by kernel_rfl) (fun _ _ _ h => h) (Or.inl ⟨by rfl, fun z hz => ?_⟩) hS0 ?_
      · obtain ⟨z1, z2, z3, z4, z5, z6, z7, z8, z9⟩ := hz
        go_simp
      try simp only [List.getElem_toArray, List.getElem_cons_zero, List.getElem_cons_succ, Act.put, List.setIfInBounds_toArray, List.set_cons_zero, List.set_cons_succ]
      refine wpAnyH_take (i := 4) (v := .pointer (some ⟨g, o + j * 2 + 1, none⟩)) rfl (by kernel_rfl) (by kernel_rfl) (by kernel_rfl) (fun _ _ _ h => h) (Or.inl ⟨by rfl, fun z hz => ?_⟩) hS0 ?_
      · obtain ⟨z1, z2, z3, z4, z5, z6, z7, z8, z9⟩ := hz
        go_simp
      try simp only [List.getElem_toArray, List.getElem_cons_zero, List.getElem_cons_succ, Act.put, List.setIfInBounds_toArray, List.set_cons_zero, List.set_cons_succ]
      refine wpAnyH_take (i := 5) (v := .string (S et)) rfl (by kernel_rfl) (by kernel_rfl) (by kernel_rfl) (fun _ _ _ h => h) (Or.inl ⟨by rfl, fun z hz => ?_⟩) hS0 ?_
      · obtain ⟨z1, z2, z3, z4, z5, z6, z7, z8, z9⟩ := hz
        go_simp
      try simp only [List.getElem_toArray, List.getElem_cons_zero, List.getElem_cons_succ, Act.put, List.setIfInBounds_toArray, List.set_cons_zero, List.set_cons_succ]
      refine wpAnyH_take (i := 6) (v := .pointer (some ⟨w.heap.size + 1, 0, none⟩)) rfl (by kernel_rfl) (by kernel_rfl) (by kernel_rfl) (fun _ _ _ h => h) (Or.inl ⟨by rfl, fun z hz => ?_⟩) hS0 ?_
      · obtain ⟨z1, z2, z3, z4, z5, z6, z7, z8, z9⟩ := hz
        go_simp
      try simp only [List.getElem_toArray, List.getElem_cons_zero, List.getElem_cons_succ, Act.put, List.setIfInBounds_toArray, List.set_cons_zero, List.set_cons_succ]
      refine wpAnyH_take (i := 7) (v := .slice (some ⟨g', o', none⟩) l.length dap) rfl (by kernel_rfl) (by kernel_rfl) (by kernel_rfl) (fun _ _ _ h => h) (Or.inl ⟨by rfl, fun z hz => ?_⟩) hS0 ?_
      · obtain ⟨z1, z2, z3, z4, z5, z6, z7, z8, z9⟩ := hz
        go_simp
      try simp only [List.getElem_toArray, List.getElem_cons_zero, List.getElem_cons_succ, Act.put, List.setIfInBounds_toArray, List.set_cons_zero, List.set_cons_succ]
      refine wpAnyH_take (i := 8) (v := .int .i64 j) rfl (by kernel_rfl) (by kernel_rfl) (by kernel_rfl) (fun _ _ _ h => h) (Or.inl ⟨by rfl, fun z hz => ?_⟩) hS0 ?_
      · obtain ⟨z1, z2, z3, z4, z5, z6, z7, z8, z9⟩ := hz
        go_simp
      try simp only [List.getElem_toArray, List.getElem_cons_zero, List.getElem_cons_succ, Act.put, List.setIfInBounds_toArray, List.set_cons_zero, List.set_cons_succ]
      refine wpAnyH_take (i := 9) (v := .pointer (some ⟨g', o' + j * 2, none⟩)) rfl (by kernel_rfl) (by kernel_rfl) (by kernel_rfl) (fun _ _ _ h => h) (Or.inl ⟨by rfl, fun z hz => ?_⟩) hS0 ?_
      · obtain ⟨z1, z2, z3, z4, z5, z6, z7, z8, z9⟩ := hz
        go_simp
      try simp only [List.getElem_toArray, List.getElem_cons_zero, List.getElem_cons_succ, Act.put, List.setIfInBounds_toArray, List.set_cons_zero, List.set_cons_succ]
      refine wpAnyH_take (i := 10) (v := .pointer (some ⟨g', o' + j * 2 + 1, none⟩)) rfl (by kernel_rfl) (by kernel_rfl) (by kernel_rfl) (fun _ _ _ h => h) (Or.inl ⟨by rfl, fun z hz => ?_⟩) hS0 ?_
      · obtain ⟨z1, z2, z3, z4, z5, z6, z7, z8, z9⟩ := hz
        go_simp
      try simp only [List.getElem_toArray, List.getElem_cons_zero, List.getElem_cons_succ, Act.put, List.setIfInBounds_toArray, List.set_cons_zero, List.set_cons_succ]
      refine wpAnyH_take (i := 11) (v := .string (S et)) rfl (by kernel_rfl) (by kernel_rfl) (by kernel_rfl) (fun _ _ _ h => h) (Or.inl ⟨by rfl, fun z hz => ?_⟩) hS0 ?_
      · obtain ⟨z1, z2, z3, z4, z5, z6, z7, z8, z9⟩ := hz
        go_simp
      try simp only [List.getElem_toArray, List.getElem_cons_zero, List.getElem_cons_succ, Act.put, List.setIfInBounds_toArray, List.set_cons_zero, List.set_cons_succ]
      refine wpAnyH_take (i := 12) (v := .bool false) rfl (by kernel_rfl) (by kernel_rfl) (by kernel_rfl) (fun _ _ _ h => h) (Or.inl ⟨by rfl, fun z hz => ?_⟩) hS0 ?_
      · obtain ⟨z1, z2, z3, z4, z5, z6, z7, z8, z9⟩ := hz
        go_simp
      try simp only [List.getElem_toArray, List.getElem_cons_zero, List.getElem_cons_succ, Act.put, List.setIfInBounds_toArray, List.set_cons_zero, List.set_cons_succ]
      refine wpAnyH_take (i := 13) (v := .bool false) rfl (by kernel_rfl) (by kernel_rfl) (by kernel_rfl) (fun _ _ _ h => h) (Or.inl ⟨by rfl, fun z hz => ?_⟩) hS0 ?_
      · obtain ⟨z1, z2, z3, z4, z5, z6, z7, z8, z9⟩ := hz
        go_simp
      try simp only [List.getElem_toArray, List.getElem_cons_zero, List.getElem_cons_succ, Act.put, List.setIfInBounds_toArray, List.set_cons_zero, List.set_cons_succ]
      refine wpAnyH_take (i := 14) (v := .pointer (some ⟨w.heap.size, 0, none⟩)) rfl (by kernel_rfl) (by kernel_rfl) (by kernel_rfl) (fun _ _ _ h => h) (Or.inl ⟨by rfl, fun z hz => ?_⟩) hS0 ?_
      · obtain ⟨z1, z2, z3, z4, z5, z6, z7, z8, z9⟩ := hz
        go_simp
      try simp only [List.getElem_toArray, List.getElem_cons_zero, List.getElem_cons_succ, Act.put, List.setIfInBounds_toArray, List.set_cons_zero, List.set_cons_succ]
      refine wpAnyH_take (i := 15) (v := .slice (some ⟨g, o, none⟩) l.length cap) rfl (by kernel_rfl) (by kernel_rfl) (by kernel_rfl) (fun _ _ _ h => h) (Or.inl ⟨by rfl, fun z hz => ?_⟩) hS0 ?_
      · obtain ⟨z1, z2, z3, z4, z5, z6, z7, z8, z9⟩ := hz
        go_simp
      try simp only [List.getElem_toArray, List.getElem_cons_zero, List.getElem_cons_succ, Act.put, List.setIfInBounds_toArray, List.set_cons_zero, List.set_cons_succ]
      refine wpAnyH_take (i := 16) (v := .int .i64 j) rfl (by kernel_rfl) (by kernel_rfl) (by kernel_rfl) (fun _ _ _ h => h) (Or.inl ⟨by rfl, fun z hz => ?_⟩) hS0 ?_
      · obtain ⟨z1, z2, z3, z4, z5, z6, z7, z8, z9⟩ := hz
        go_simp
      try simp only [List.getElem_toArray, List.getElem_cons_zero, List.getElem_cons_succ, Act.put, List.setIfInBounds_toArray, List.set_cons_zero, List.set_cons_succ]
      refine wpAnyH_take (i := 17) (v := .pointer (some ⟨g, o + j * 2, none⟩)) rfl (by kernel_rfl) (by kernel_rfl) (by kernel_rfl) (fun _ _ _ h => h) (Or.inl ⟨by rfl, fun z hz => ?_⟩) hS0 ?_
      · obtain ⟨z1, z2, z3, z4, z5, z6, z7, z8, z9⟩ := hz
        go_simp
      try simp only [List.getElem_toArray, List.getElem_cons_zero, List.getElem_cons_succ, Act.put, List.setIfInBounds_toArray, List.set_cons_zero, List.set_cons_succ]
      refine wpAnyH_take (i := 18) (v := .pointer (some ⟨g, o + j * 2, none⟩)) rfl (by kernel_rfl) (by kernel_rfl) (by kernel_rfl) (fun _ _ _ h => h) (Or.inl ⟨by rfl, fun z hz => ?_⟩) hS0 ?_
      · obtain ⟨z1, z2, z3, z4, z5, z6, z7, z8, z9⟩ := hz
        go_simp
      try simp only [List.getElem_toArray, List.getElem_cons_zero, List.getElem_cons_succ, Act.put, List.setIfInBounds_toArray, List.set_cons_zero, List.set_cons_succ]
      refine wpAnyH_take (i := 19) (v := .slice xd eo.length xc) rfl (by kernel_rfl) (by kernel_rfl) (by kernel_rfl) (fun _ _ _ h => h) (Or.inl ⟨by rfl, fun z hz => ?_⟩) hS0 ?_
      · obtain ⟨z1, z2, z3, z4, z5, z6, z7, z8, z9⟩ := hz
        go_simp
      try simp only [List.getElem_toArray, List.getElem_cons_zero, List.getElem_cons_succ, Act.put, List.setIfInBounds_toArray, List.set_cons_zero, List.set_cons_succ]
      refine wpAnyH_take (i := 20) (v := .pointer (some ⟨w.heap.size + 1, 0, none⟩)) rfl (by kernel_rfl) (by kernel_rfl) (by kernel_rfl) (fun _ _ _ h => h) (Or.inl ⟨by rfl, fun z hz => ?_⟩) hS0 ?_
      · obtain ⟨z1, z2, z3, z4, z5, z6, z7, z8, z9⟩ := hz
        go_simp
      try simp only [List.getElem_toArray, List.getElem_cons_zero, List.getElem_cons_succ, Act.put, List.setIfInBounds_toArray, List.set_cons_zero, List.set_cons_succ]
      refine wpAnyH_take (i := 21) (v := .slice (some ⟨g', o', none⟩) l.length dap) rfl (by kernel_rfl) (by kernel_rfl) (by kernel_rfl) (fun _ _ _ h => h) (Or.inl ⟨by rfl, fun z hz => ?_⟩) hS0 ?_
      · obtain ⟨z1, z2, z3, z4, z5, z6, z7, z8, z9⟩ := hz
        go_simp
      try simp only [List.getElem_toArray, List.getElem_cons_zero, List.getElem_cons_succ, Act.put, List.setIfInBounds_toArray, List.set_cons_zero, List.set_cons_succ]
      refine wpAnyH_take (i := 22) (v := .int .i64 j) rfl (by kernel_rfl) (by kernel_rfl) (by kernel_rfl) (fun _ _ _ h => h) (Or.inl ⟨by rfl, fun z hz => ?_⟩) hS0 ?_
      · obtain ⟨z1, z2, z3, z4, z5, z6, z7, z8, z9⟩ := hz
        go_simp
      try simp only [List.getElem_toArray, List.getElem_cons_zero, List.getElem_cons_succ, Act.put, List.setIfInBounds_toArray, List.set_cons_zero, List.set_cons_succ]
      refine wpAnyH_take (i := 23) (v := .pointer (some ⟨g', o' + j * 2, none⟩)) rfl (by kernel_rfl) (by kernel_rfl) (by kernel_rfl) (fun _ _ _ h => h) (Or.inl ⟨by rfl, fun z hz => ?_⟩) hS0 ?_
      · obtain ⟨z1, z2, z3, z4, z5, z6, z7, z8, z9⟩ := hz
        go_simp
      try simp only [List.getElem_toArray, List.getElem_cons_zero, List.getElem_cons_succ, Act.put, List.setIfInBounds_toArray, List.set_cons_zero, List.set_cons_succ]
      refine wpAnyH_take (i := 24) (v := .pointer (some ⟨g', o' + j * 2, none⟩)) rfl (by kernel_rfl) (by kernel_rfl) (by kernel_rfl) (fun _ _ _ h => h) (Or.inl ⟨by rfl, fun z hz => ?_⟩) hS0 ?_
      · obtain ⟨z1, z2, z3, z4, z5, z6, z7, z8, z9⟩ := hz
        go_simp
      try simp only [List.getElem_toArray, List.getElem_cons_zero, List.getElem_cons_succ, Act.put, List.setIfInBounds_toArray, List.set_cons_zero, List.set_cons_succ]
      refine wpAnyH_take (i := 25) (v := .slice yd eo.length yc) rfl (by kernel_rfl) (by kernel_rfl) (by kernel_rfl) (fun _ _ _ h => h) (Or.inl ⟨by rfl, fun z hz => ?_⟩) hS0 ?_
      · obtain ⟨z1, z2, z3, z4, z5, z6, z7, z8, z9⟩ := hz
        go_simp
      try simp only [List.getElem_toArray, List.getElem_cons_zero, List.getElem_cons_succ, Act.put, List.setIfInBounds_toArray, List.set_cons_zero, List.set_cons_succ]
      refine wpAnyH_ready (rs := [26]) (by kernel_rfl) (by simp) ?_
      refine AllReadyH.cons rfl (fun K hK => ?_) AllReadyH.nil
      go_simp
      refine (vInts _ _ eo eo _ HXW.out HYW.out).mono ?_
      rintro e v ⟨rfl, hb⟩
      rw [decide_eq_true rfl]
      refine hK.out _ _ (hS0.below hb) (fun hS1 => ?_)
      have HB2 := Lib.hid (HBW.out.trans (hb.mono HBW.out.size))
      clear hK K hb
      try simp only [List.getElem_toArray, List.getElem_cons_zero, List.getElem_cons_succ, Act.put, List.setIfInBounds_toArray, List.set_cons_zero, List.set_cons_succ]
      refine wpAnyH_take (i := 27) (v := .bool false) rfl (by kernel_rfl) (by kernel_rfl) (by kernel_rfl) (fun _ _ _ h => h) (Or.inl ⟨by rfl, fun z hz => ?_⟩) hS1 ?_
      · obtain ⟨z1, z2, z3, z4, z5, z6, z7, z8, z9⟩ := hz
        go_simp
      try simp only [List.getElem_toArray, List.getElem_cons_zero, List.getElem_cons_succ, Act.put, List.setIfInBounds_toArray, List.set_cons_zero, List.set_cons_succ]
      refine wpAnyH_take (i := 28) (v := .bool false) rfl (by kernel_rfl) (by kernel_rfl) (by kernel_rfl) (fun _ _ _ h => h) (Or.inl ⟨by rfl, fun z hz => ?_⟩) hS1 ?_
      · obtain ⟨z1, z2, z3, z4, z5, z6, z7, z8, z9⟩ := hz
        go_simp
      try simp only [List.getElem_toArray, List.getElem_cons_zero, List.getElem_cons_succ, Act.put, List.setIfInBounds_toArray, List.set_cons_zero, List.set_cons_succ]
      refine wpAnyH_done (by kernel_rfl) ?_ _
      clear hS0 hS1 HS
      go_wp2
      go_roundw
      case rel => exact ⟨j + 1, by omega, by go_num, HB2.out⟩
      case measure => simp [intOf]; omega
    · clear hb
      go_wp2
      go_ret
      exact ⟨rfl, HB0.out.trans (HB.out.mono HB0.out.size)⟩
/-- a dictionary and an outline are drawn -/
def LookDDrawn (w : World) (e : Ending) (w' : World) : Prop := ∃ (l : P.Dic) (o : List Int) (u ov : Value), e = .returned (.tuple #[.agg #[u], ov]) ∧ Drawn l ∧ o.length ≤ 8 ∧ EntR w' u l ∧ IntR w' ov o ∧ Below w.heap.size w w'
theorem drawLookup (cv : Value) (w : World) (hc : CodeIs w cv) :
    Calls Tryz.prog 53 #[cv] w (LookDDrawn w) := by
  have H1 := Lib.hid (CodeIs.fresh (t := 127) hc ((Below.refl w.heap.size w).alloc (Nat.le_refl _) (.cells #[.slice none 0 0] 32)))
  have hb0 : Below w.heap.size w ((w.alloc (.cells #[.slice none 0 0] 32)).alloc (.cells #[cv, .int .i64 0, .int .u64 0] 127)) := ((Below.refl _ _).alloc (Nat.le_refl _) _).alloc (by simp) _
  have HB0 := Lib.hid hb0
  have HR0 := Lib.hid ((DBx.new (.slice none 0 0) 32 w).below ((Below.refl _ _).alloc (Nat.le_refl _) (.cells #[cv, .int .i64 0, .int .u64 0] 127)))
  obtain ⟨ad, n, cap, rfl, _, _⟩ := hc
  clear hb0
  go_enter Tryz.func53, Tryz.ntmps53
  go_wp2_with fail
  refine (cur_anyDictionary w.heap.size (w.heap.size + 1) 0 _ (by decide) (by simpa using H1.out)).mono ?_
  rintro e w1 ⟨l, u, rfl, hd, hr, hc⟩
  have hz1 : w.heap.size + 2 ≤ w1.heap.size := by have := hc.2.size; simp at this; omega
  have hba := (Below.refl w1.heap.size w1).alloc (Nat.le_refl _) (.cells #[u] 32)
  have HC := Lib.hid (hc.1.below hba)
  have HB := Lib.hid ((HB0.out.trans (hc.2.below (B := w.heap.size) (by simp; omega) (by rintro b rfl; omega))).trans (hba.mono (by omega)))
  have HR := Lib.hid ((HR0.out.stand hc.2 (by omega)).below hba)
  have HX := Lib.hid (DBx.new u 32 w1)
  have HD := Lib.hid hd
  have HRE := Lib.hid (show ReadE (w.heap.size + 2) w1.heap.size (w1.alloc (.cells #[u] 32)) u l from ReadE.chg (by have h := hr; simp at h; exact h) (Below.chg hba (fun _ => False)) (fun _ _ _ h => h))
  obtain ⟨ua, uc, rfl, _, _⟩ := hr.now
  clear hd hr hc H1 HB0 HR0 hba
  have HS := Lib.hid (show DBx w1.heap.size (.slice ua l.length uc) (w1.alloc (.cells #[.slice ua l.length uc] 32)).drew from HX.out.below (Below.refl _ _).drew)
  have hdd : Below (w1.alloc (.cells #[.slice ua l.length uc] 32)).heap.size (w1.alloc (.cells #[.slice ua l.length uc] 32)) (w1.alloc (.cells #[.slice ua l.length uc] 32)).drew := (Below.refl _ _).drew
  have HC2 := Lib.hid (HC.out.below hdd); have HB2 := Lib.hid (HB.out.trans (hdd.mono (by simp; omega))); have HR2 := Lib.hid (HR.out.below hdd); have HRE2 := Lib.hid (HRE.out.chg (Below.chg hdd (fun _ => False)) (fun _ _ _ h => h))
  have hzs : w1.heap.size < (w1.alloc (.cells #[.slice ua l.length uc] 32)).drew.heap.size := HS.out.2.2
  clear hdd HC HB HR HRE HX
  go_upto_region 3 with fail
  refine wp_region_held_drew (S := DBx w1.heap.size (.slice ua l.length uc)) (by kernel_rfl) HS.out (fun hS0 => ?_)
  generalize (w1.alloc (.cells #[.slice ua l.length uc] 32)).drew = v0 at *
  refine wpAnyH_take (i := 0) (v := .agg #[.slice ua l.length uc]) rfl (by kernel_rfl) (by kernel_rfl) (by kernel_rfl) (fun _ _ _ h => h) (Or.inl ⟨by rfl, fun z hz => ?_⟩) hS0 ?_
  · obtain ⟨z1, z2, z3⟩ := hz
    go_simp
  try simp only [List.getElem_toArray, List.getElem_cons_zero, Act.put, List.setIfInBounds_toArray, List.set_cons_zero, List.set_cons_succ]
  refine wpAnyH_take (i := 1) (v := .pointer (some ⟨w.heap.size + 1, 0, none⟩)) rfl (by kernel_rfl) (by kernel_rfl) (by kernel_rfl) (fun _ _ _ h => h) (Or.inl ⟨by rfl, fun z hz => ?_⟩) hS0 ?_
  · obtain ⟨z1, z2, z3⟩ := hz
    go_simp
  try simp only [List.getElem_toArray, List.getElem_cons_zero, List.getElem_cons_succ, Act.put, List.setIfInBounds_toArray, List.set_cons_zero, List.set_cons_succ]
  refine wpAnyH_take (i := 2) (v := .agg #[.slice ua l.length uc]) rfl (by kernel_rfl) (by kernel_rfl) (by kernel_rfl) (fun _ _ _ h => h) (Or.inl ⟨by rfl, fun z hz => ?_⟩) hS0 ?_
  · obtain ⟨z1, z2, z3⟩ := hz
    go_simp
  try simp only [List.getElem_toArray, List.getElem_cons_zero, List.getElem_cons_succ, Act.put, List.setIfInBounds_toArray, List.set_cons_zero, List.set_cons_succ]
  refine wpAnyH_ready (rs := [3]) (by kernel_rfl) (by simp) ?_
  refine AllReadyH.cons rfl (fun K hK => ?_) AllReadyH.nil
  go_simp
  refine (cur_known w.heap.size (w.heap.size + 1) (0 + 2000) (w.heap.size + 2) w1.heap.size _ l _ (by decide) HC2.out HRE2.out (by omega) HD.out).mono ?_
  rintro e v1 ⟨ol, ov, rfl, hol, hI, hc⟩
  have HB3 := Lib.hid (HB2.out.trans (hc.2.below (B := w.heap.size) (by omega) (by rintro b rfl; omega)))
  have HR3 := Lib.hid (HR2.out.stand hc.2 (by omega)); have HRE3 := Lib.hid (HRE2.out.chg hc.2 (fun b _ _ e => by omega))
  have HI := Lib.hid hI
  have hS1' : DBx w1.heap.size (.slice ua l.length uc) v1 := hS0.stand hc.2 (by omega)
  refine hK.out _ _ hS1' (fun hS1 => ?_)
  clear hK K hc HC2 HR2 HB2 HRE2 hS1'
  obtain ⟨oa, oc, rfl, _, _⟩ := hI
  try simp only [List.getElem_toArray, List.getElem_cons_zero, List.getElem_cons_succ, Act.put, List.setIfInBounds_toArray, List.set_cons_zero, List.set_cons_succ]
  refine wpAnyH_ready (rs := [4]) (by kernel_rfl) (by simp) ?_
  refine AllReadyH.cons rfl (fun K hK => ?_) AllReadyH.nil
  obtain ⟨k0, k1, k2⟩ := HR3.out
  have hw1 : Chg (fun b => b = w.heap.size) v1 (v1.setCell ⟨w.heap.size, 0, none⟩ (.slice ua l.length uc)) := (Chg.refl (fun b => b = w.heap.size) v1).setCell (p := ⟨w.heap.size, 0, none⟩) rfl _
  have HW := Lib.hid hw1
  have hS2' : DBx w1.heap.size (.slice ua l.length uc) (v1.setCell ⟨w.heap.size, 0, none⟩ (.slice ua l.length uc)) := hS1.stand hw1 (by omega)
  have HS2 := Lib.hid hS2'
  go_simp
  refine hK.out _ _ HS2.out (fun hS2 => ?_)
  clear hK K hw1 hS2'
  try simp only [List.getElem_toArray, List.getElem_cons_zero, List.getElem_cons_succ, Act.put, List.setIfInBounds_toArray, List.set_cons_zero, List.set_cons_succ]
  refine wpAnyH_ready (rs := [5]) (by kernel_rfl) (by simp) ?_
  refine AllReadyH.cons rfl (fun K hK => ?_) AllReadyH.nil
  go_simp
  refine hK.out _ _ HS2.out (fun hS3 => ?_)
  clear hK K
  try simp only [List.getElem_toArray, List.getElem_cons_zero, List.getElem_cons_succ, Act.put, List.setIfInBounds_toArray, List.set_cons_zero, List.set_cons_succ]
  refine wpAnyH_done (by kernel_rfl) ?_ _
  clear hS0 hS1 hS2 hS3
  go_wp2
  refine bodyPost_ret (v := .tuple #[.agg #[.slice ua l.length uc], .slice oa ol.length oc]) (by simp [results, Tryz.results53, go_sem, k0]) rfl ⟨l, ol, _, _, rfl, HD.out, hol, (HRE3.out.chg HW.out (fun b h1 h2 e => by omega)).now, ?_, HB3.out.setCell (Nat.le_refl _) _⟩
  exact Ints.read (HI.out.stand intE_ok HW.out (fun b hb e => by have h1 := hb.1; omega))
end Go.Proofs.YtonhkglilnplbaaGreatDoor
