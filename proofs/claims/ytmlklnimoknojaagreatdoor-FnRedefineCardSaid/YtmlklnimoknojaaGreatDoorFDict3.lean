/- Walks: a dictionary with an entry, with an outline, drawn from bytes; dictionaries that are equal. -/
import Derived.Test.YtmlklnimoknojaaGreatDoorFDict1
namespace Go.Proofs.YtmlklnimoknojaaGreatDoor
open Go Go.RowKit
set_option maxHeartbeats 4000000
set_option maxRecDepth 100000
def VDS (W : Nat) (u v : Value) (g p g' q : Nat) (x y s : Value) (w : World) : Prop :=
  w.cell? ⟨W, 0, none⟩ = some u ∧ w.cell? ⟨W + 1, 0, none⟩ = some v ∧ w.cell? ⟨g, p, none⟩ = some x ∧ w.cell? ⟨g, p + 1, none⟩ = some s ∧ w.cell? ⟨g', q, none⟩ = some y ∧ w.cell? ⟨g', q + 1, none⟩ = some s ∧ W + 1 < w.heap.size ∧ g < w.heap.size ∧ g' < w.heap.size
theorem VDS.below {W : Nat} {u v : Value} {g p g' q : Nat} {x y s : Value} {w w' : World} (h : VDS W u v g p g' q x y s w) (hb : Below w.heap.size w w') : VDS W u v g p g' q x y s w' := by
  obtain ⟨h1, h2, h3, h4, h5, h6, h7, h8, h9⟩ := h
  have hz := hb.size
  exact ⟨(hb.cell (p := ⟨W, 0, none⟩) (by show W < _; omega)).trans h1, (hb.cell (p := ⟨W + 1, 0, none⟩) h7).trans h2, (hb.cell (p := ⟨g, p, none⟩) h8).trans h3, (hb.cell (p := ⟨g, p + 1, none⟩) h8).trans h4, (hb.cell (p := ⟨g', q, none⟩) h9).trans h5, (hb.cell (p := ⟨g', q + 1, none⟩) h9).trans h6, by omega, by omega, by omega⟩
theorem vDict (u v : Value) (l : P.Dic) (w : World) (hu : EntR w u l) (hv : EntR w v l) :
    Calls Tryz.prog 23 #[.agg #[u], .agg #[v]] w fun e w' => e = .returned (.bool true) ∧ Below w.heap.size w w' := by
  have hb0 : Below w.heap.size w ((w.alloc (.cells #[u] 26)).alloc (.cells #[v] 26)) := ((Below.refl w.heap.size w).alloc (Nat.le_refl _) _).alloc (by simp) _
  have HU := Lib.hid (hu.below hb0); have HV := Lib.hid (hv.below hb0); have HB0 := Lib.hid hb0
  have HX := Lib.hid ((DBx.new u 26 w).below ((Below.refl _ _).alloc (Nat.le_refl _) (.cells #[v] 26)))
  have HY := Lib.hid (show DBx (w.heap.size + 1) v ((w.alloc (.cells #[u] 26)).alloc (.cells #[v] 26)) by
    have h := DBx.new v 26 (w.alloc (.cells #[u] 26)); simpa using h)
  obtain ⟨ad, cap, rfl, hla, _⟩ := hu
  obtain ⟨bd, dap, rfl, _, _⟩ := hv
  clear hb0
  go_enter Tryz.func23, Tryz.ntmps23
  go_wp2
  generalize hW : (w.alloc (.cells #[.slice ad l.length cap] 26)).alloc (.cells #[.slice bd l.length dap] 26) = w0 at *
  clear hW
  go_loopw [5] (fun i wr => ∃ j : Nat, j ≤ l.length ∧ i = .int .i64 j ∧ Below w0.heap.size w0 wr) (fun i _ => l.length - (intOf i).toNat)
  case atStart => exact ⟨0, Nat.zero_le _, rfl, Below.refl _ _⟩
  case round =>
    obtain ⟨j, hj, rfl, hb⟩ := hrel
    have HB := Lib.hid hb
    obtain ⟨x0, _⟩ := HX.out.below hb
    obtain ⟨y0, _⟩ := HY.out.below hb
    by_cases hlt : j < l.length
    · obtain ⟨g, o, hga, hgl, x, c0, c1, hx⟩ := (HU.out.below hb).at j hlt
      obtain ⟨g', o', hgb, hgl', y, d0, d1, hy⟩ := (HV.out.below hb).at j hlt
      subst hga hgb
      obtain ⟨xd, xc, rfl, _, _⟩ := id hx
      obtain ⟨yd, yc, rfl, _, _⟩ := id hy
      have HXX := Lib.hid hx; have HYY := Lib.hid hy
      generalize l[j] = en at *
      obtain ⟨eo, et⟩ := en
      simp only at HXX HYY c0 c1 d0 d1
      have HBW := Lib.hid (hb.trans ((Below.refl wr.heap.size wr).drew.mono hb.size))
      have hdw := (Below.refl wr.heap.size wr).drew
      have HXW := Lib.hid (HXX.out.below hdw); have HYW := Lib.hid (HYY.out.below hdw)
      have hz : w.heap.size + 1 < wr.heap.size := (HY.out.below hb).2.2
      have HS := Lib.hid (show VDS w.heap.size (.slice (some ⟨g, o, none⟩) l.length cap) (.slice (some ⟨g', o', none⟩) l.length dap) g (o + j * 2) g' (o' + j * 2) (.slice xd eo.length xc) (.slice yd eo.length yc) (.string (S et)) wr.drew from VDS.below ⟨x0, y0, c0, c1, d0, d1, hz, hgl, hgl'⟩ hdw)
      have i1 : (j : Int) < (l.length : Int) := by omega
      clear hb hx hy hdw c0 c1 d0 d1 hgl hgl' HXX HYY
      go_upto_region 6 with fail
      clear x0 y0
      refine wp_region_held_drew (S := VDS w.heap.size (.slice (some ⟨g, o, none⟩) l.length cap) (.slice (some ⟨g', o', none⟩) l.length dap) g (o + j * 2) g' (o' + j * 2) (.slice xd eo.length xc) (.slice yd eo.length yc) (.string (S et))) (by kernel_rfl) HS.out (fun hS0 => ?_)
      generalize wr.drew = v0 at *
      refine wpAnyH_take (i := 0) (v := .pointer (some ⟨w.heap.size, 0, none⟩)) rfl (by kernel_rfl) (by kernel_rfl) (by kernel_rfl) (fun _ _ _ h => h) (Or.inl ⟨by rfl, fun z hz => ?_⟩) hS0 ?_
      · obtain ⟨z1, z2, z3, z4, z5, z6, z7, z8, z9⟩ := hz
        go_simp
      try simp only [qA, qB, Act.put, qD, qE, qF]
      refine wpAnyH_take (i := 1) (v := .slice (some ⟨g, o, none⟩) l.length cap) rfl (by kernel_rfl) (by kernel_rfl) (by kernel_rfl) (fun _ _ _ h => h) (Or.inl ⟨by rfl, fun z hz => ?_⟩) hS0 ?_
      · obtain ⟨z1, z2, z3, z4, z5, z6, z7, z8, z9⟩ := hz
        go_simp
      try simp only [qA, qB, qC, Act.put, qD, qE, qF]
      refine wpAnyH_take (i := 2) (v := .int .i64 j) rfl (by kernel_rfl) (by kernel_rfl) (by kernel_rfl) (fun _ _ _ h => h) (Or.inl ⟨by rfl, fun z hz => ?_⟩) hS0 ?_
      · obtain ⟨z1, z2, z3, z4, z5, z6, z7, z8, z9⟩ := hz
        go_simp
      try simp only [qA, qB, qC, Act.put, qD, qE, qF]
      refine wpAnyH_take (i := 3) (v := .pointer (some ⟨g, o + j * 2, none⟩)) rfl (by kernel_rfl) (by kernel_rfl) (by kernel_rfl) (fun _ _ _ h => h) (Or.inl ⟨by rfl, fun z hz => ?_⟩) hS0 ?_
      · obtain ⟨z1, z2, z3, z4, z5, z6, z7, z8, z9⟩ := hz
        go_simp
      try simp only [qA, qB, qC, Act.put, qD, qE, qF]
      refine wpAnyH_take (i := 4) (v := .pointer (some ⟨g, o + j * 2 + 1, none⟩)) rfl (by kernel_rfl) (by kernel_rfl) (by kernel_rfl) (fun _ _ _ h => h) (Or.inl ⟨by rfl, fun z hz => ?_⟩) hS0 ?_
      · obtain ⟨z1, z2, z3, z4, z5, z6, z7, z8, z9⟩ := hz
        go_simp
      try simp only [qA, qB, qC, Act.put, qD, qE, qF]
      refine wpAnyH_take (i := 5) (v := .string (S et)) rfl (by kernel_rfl) (by kernel_rfl) (by kernel_rfl) (fun _ _ _ h => h) (Or.inl ⟨by rfl, fun z hz => ?_⟩) hS0 ?_
      · obtain ⟨z1, z2, z3, z4, z5, z6, z7, z8, z9⟩ := hz
        go_simp
      try simp only [qA, qB, qC, Act.put, qD, qE, qF]
      refine wpAnyH_take (i := 6) (v := .pointer (some ⟨w.heap.size + 1, 0, none⟩)) rfl (by kernel_rfl) (by kernel_rfl) (by kernel_rfl) (fun _ _ _ h => h) (Or.inl ⟨by rfl, fun z hz => ?_⟩) hS0 ?_
      · obtain ⟨z1, z2, z3, z4, z5, z6, z7, z8, z9⟩ := hz
        go_simp
      try simp only [qA, qB, qC, Act.put, qD, qE, qF]
      refine wpAnyH_take (i := 7) (v := .slice (some ⟨g', o', none⟩) l.length dap) rfl (by kernel_rfl) (by kernel_rfl) (by kernel_rfl) (fun _ _ _ h => h) (Or.inl ⟨by rfl, fun z hz => ?_⟩) hS0 ?_
      · obtain ⟨z1, z2, z3, z4, z5, z6, z7, z8, z9⟩ := hz
        go_simp
      try simp only [qA, qB, qC, Act.put, qD, qE, qF]
      refine wpAnyH_take (i := 8) (v := .int .i64 j) rfl (by kernel_rfl) (by kernel_rfl) (by kernel_rfl) (fun _ _ _ h => h) (Or.inl ⟨by rfl, fun z hz => ?_⟩) hS0 ?_
      · obtain ⟨z1, z2, z3, z4, z5, z6, z7, z8, z9⟩ := hz
        go_simp
      try simp only [qA, qB, qC, Act.put, qD, qE, qF]
      refine wpAnyH_take (i := 9) (v := .pointer (some ⟨g', o' + j * 2, none⟩)) rfl (by kernel_rfl) (by kernel_rfl) (by kernel_rfl) (fun _ _ _ h => h) (Or.inl ⟨by rfl, fun z hz => ?_⟩) hS0 ?_
      · obtain ⟨z1, z2, z3, z4, z5, z6, z7, z8, z9⟩ := hz
        go_simp
      try simp only [qA, qB, qC, Act.put, qD, qE, qF]
      refine wpAnyH_take (i := 10) (v := .pointer (some ⟨g', o' + j * 2 + 1, none⟩)) rfl (by kernel_rfl) (by kernel_rfl) (by kernel_rfl) (fun _ _ _ h => h) (Or.inl ⟨by rfl, fun z hz => ?_⟩) hS0 ?_
      · obtain ⟨z1, z2, z3, z4, z5, z6, z7, z8, z9⟩ := hz
        go_simp
      try simp only [qA, qB, qC, Act.put, qD, qE, qF]
      refine wpAnyH_take (i := 11) (v := .string (S et)) rfl (by kernel_rfl) (by kernel_rfl) (by kernel_rfl) (fun _ _ _ h => h) (Or.inl ⟨by rfl, fun z hz => ?_⟩) hS0 ?_
      · obtain ⟨z1, z2, z3, z4, z5, z6, z7, z8, z9⟩ := hz
        go_simp
      try simp only [qA, qB, qC, Act.put, qD, qE, qF]
      refine wpAnyH_take (i := 12) (v := .bool false) rfl (by kernel_rfl) (by kernel_rfl) (by kernel_rfl) (fun _ _ _ h => h) (Or.inl ⟨by rfl, fun z hz => ?_⟩) hS0 ?_
      · obtain ⟨z1, z2, z3, z4, z5, z6, z7, z8, z9⟩ := hz
        go_simp
      try simp only [qA, qB, qC, Act.put, qD, qE, qF]
      refine wpAnyH_take (i := 13) (v := .bool false) rfl (by kernel_rfl) (by kernel_rfl) (by kernel_rfl) (fun _ _ _ h => h) (Or.inl ⟨by rfl, fun z hz => ?_⟩) hS0 ?_
      · obtain ⟨z1, z2, z3, z4, z5, z6, z7, z8, z9⟩ := hz
        go_simp
      try simp only [qA, qB, qC, Act.put, qD, qE, qF]
      refine wpAnyH_take (i := 14) (v := .pointer (some ⟨w.heap.size, 0, none⟩)) rfl (by kernel_rfl) (by kernel_rfl) (by kernel_rfl) (fun _ _ _ h => h) (Or.inl ⟨by rfl, fun z hz => ?_⟩) hS0 ?_
      · obtain ⟨z1, z2, z3, z4, z5, z6, z7, z8, z9⟩ := hz
        go_simp
      try simp only [qA, qB, qC, Act.put, qD, qE, qF]
      refine wpAnyH_take (i := 15) (v := .slice (some ⟨g, o, none⟩) l.length cap) rfl (by kernel_rfl) (by kernel_rfl) (by kernel_rfl) (fun _ _ _ h => h) (Or.inl ⟨by rfl, fun z hz => ?_⟩) hS0 ?_
      · obtain ⟨z1, z2, z3, z4, z5, z6, z7, z8, z9⟩ := hz
        go_simp
      try simp only [qA, qB, qC, Act.put, qD, qE, qF]
      refine wpAnyH_take (i := 16) (v := .int .i64 j) rfl (by kernel_rfl) (by kernel_rfl) (by kernel_rfl) (fun _ _ _ h => h) (Or.inl ⟨by rfl, fun z hz => ?_⟩) hS0 ?_
      · obtain ⟨z1, z2, z3, z4, z5, z6, z7, z8, z9⟩ := hz
        go_simp
      try simp only [qA, qB, qC, Act.put, qD, qE, qF]
      refine wpAnyH_take (i := 17) (v := .pointer (some ⟨g, o + j * 2, none⟩)) rfl (by kernel_rfl) (by kernel_rfl) (by kernel_rfl) (fun _ _ _ h => h) (Or.inl ⟨by rfl, fun z hz => ?_⟩) hS0 ?_
      · obtain ⟨z1, z2, z3, z4, z5, z6, z7, z8, z9⟩ := hz
        go_simp
      try simp only [qA, qB, qC, Act.put, qD, qE, qF]
      refine wpAnyH_take (i := 18) (v := .pointer (some ⟨g, o + j * 2, none⟩)) rfl (by kernel_rfl) (by kernel_rfl) (by kernel_rfl) (fun _ _ _ h => h) (Or.inl ⟨by rfl, fun z hz => ?_⟩) hS0 ?_
      · obtain ⟨z1, z2, z3, z4, z5, z6, z7, z8, z9⟩ := hz
        go_simp
      try simp only [qA, qB, qC, Act.put, qD, qE, qF]
      refine wpAnyH_take (i := 19) (v := .slice xd eo.length xc) rfl (by kernel_rfl) (by kernel_rfl) (by kernel_rfl) (fun _ _ _ h => h) (Or.inl ⟨by rfl, fun z hz => ?_⟩) hS0 ?_
      · obtain ⟨z1, z2, z3, z4, z5, z6, z7, z8, z9⟩ := hz
        go_simp
      try simp only [qA, qB, qC, Act.put, qD, qE, qF]
      refine wpAnyH_take (i := 20) (v := .pointer (some ⟨w.heap.size + 1, 0, none⟩)) rfl (by kernel_rfl) (by kernel_rfl) (by kernel_rfl) (fun _ _ _ h => h) (Or.inl ⟨by rfl, fun z hz => ?_⟩) hS0 ?_
      · obtain ⟨z1, z2, z3, z4, z5, z6, z7, z8, z9⟩ := hz
        go_simp
      try simp only [qA, qB, qC, Act.put, qD, qE, qF]
      refine wpAnyH_take (i := 21) (v := .slice (some ⟨g', o', none⟩) l.length dap) rfl (by kernel_rfl) (by kernel_rfl) (by kernel_rfl) (fun _ _ _ h => h) (Or.inl ⟨by rfl, fun z hz => ?_⟩) hS0 ?_
      · obtain ⟨z1, z2, z3, z4, z5, z6, z7, z8, z9⟩ := hz
        go_simp
      try simp only [qA, qB, qC, Act.put, qD, qE, qF]
      refine wpAnyH_take (i := 22) (v := .int .i64 j) rfl (by kernel_rfl) (by kernel_rfl) (by kernel_rfl) (fun _ _ _ h => h) (Or.inl ⟨by rfl, fun z hz => ?_⟩) hS0 ?_
      · obtain ⟨z1, z2, z3, z4, z5, z6, z7, z8, z9⟩ := hz
        go_simp
      try simp only [qA, qB, qC, Act.put, qD, qE, qF]
      refine wpAnyH_take (i := 23) (v := .pointer (some ⟨g', o' + j * 2, none⟩)) rfl (by kernel_rfl) (by kernel_rfl) (by kernel_rfl) (fun _ _ _ h => h) (Or.inl ⟨by rfl, fun z hz => ?_⟩) hS0 ?_
      · obtain ⟨z1, z2, z3, z4, z5, z6, z7, z8, z9⟩ := hz
        go_simp
      try simp only [qA, qB, qC, Act.put, qD, qE, qF]
      refine wpAnyH_take (i := 24) (v := .pointer (some ⟨g', o' + j * 2, none⟩)) rfl (by kernel_rfl) (by kernel_rfl) (by kernel_rfl) (fun _ _ _ h => h) (Or.inl ⟨by rfl, fun z hz => ?_⟩) hS0 ?_
      · obtain ⟨z1, z2, z3, z4, z5, z6, z7, z8, z9⟩ := hz
        go_simp
      try simp only [qA, qB, qC, Act.put, qD, qE, qF]
      refine wpAnyH_take (i := 25) (v := .slice yd eo.length yc) rfl (by kernel_rfl) (by kernel_rfl) (by kernel_rfl) (fun _ _ _ h => h) (Or.inl ⟨by rfl, fun z hz => ?_⟩) hS0 ?_
      · obtain ⟨z1, z2, z3, z4, z5, z6, z7, z8, z9⟩ := hz
        go_simp
      try simp only [qA, qB, qC, Act.put, qD, qE, qF]
      refine wpAnyH_ready (rs := [26]) (by kernel_rfl) (by simp) ?_
      refine AllReadyH.cons rfl (fun K hK => ?_) AllReadyH.nil
      go_simp
      refine (vInts _ _ eo eo _ HXW.out HYW.out).mono ?_
      rintro e v ⟨rfl, hb⟩
      rw [decide_eq_true rfl]
      refine hK.out _ _ (hS0.below hb) (fun hS1 => ?_)
      have HB2 := Lib.hid (HBW.out.trans (hb.mono HBW.out.size))
      clear hK K hb
      try simp only [qA, qB, qC, Act.put, qD, qE, qF]
      refine wpAnyH_take (i := 27) (v := .bool false) rfl (by kernel_rfl) (by kernel_rfl) (by kernel_rfl) (fun _ _ _ h => h) (Or.inl ⟨by rfl, fun z hz => ?_⟩) hS1 ?_
      · obtain ⟨z1, z2, z3, z4, z5, z6, z7, z8, z9⟩ := hz
        go_simp
      try simp only [qA, qB, qC, Act.put, qD, qE, qF]
      refine wpAnyH_take (i := 28) (v := .bool false) rfl (by kernel_rfl) (by kernel_rfl) (by kernel_rfl) (fun _ _ _ h => h) (Or.inl ⟨by rfl, fun z hz => ?_⟩) hS1 ?_
      · obtain ⟨z1, z2, z3, z4, z5, z6, z7, z8, z9⟩ := hz
        go_simp
      try simp only [qA, qB, qC, Act.put, qD, qE, qF]
      refine wpAnyH_done (by kernel_rfl) ?_ _
      clear hS0 hS1 HS
      go_wp2
      go_roundw
      case rel => exact ⟨j + 1, by omega, by go_num, HB2.out⟩
      case measure => simp [intOf]; omega
    · clear hb
      go_wp2
      go_ret
      exact ⟨rfl, HB0.out.trans (HB.out.mono HB0.out.size)⟩
end Go.Proofs.YtmlklnimoknojaaGreatDoor
namespace Go.Proofs.YtmlklnimoknojaaGreatDoor
open Go Go.RowKit
set_option maxHeartbeats 4000000
set_option maxRecDepth 100000
def EnBx (b : Nat) (x : Value) (t : Str) (v : World) : Prop := v.cell? ⟨b, 0, none⟩ = some x ∧ v.cell? ⟨b, 1, none⟩ = some (.string (S t)) ∧ v.frozen? ⟨b, 0, none⟩ = false ∧ v.frozen? ⟨b, 1, none⟩ = false ∧ b < v.heap.size
theorem EnBx.stand {b : Nat} {x : Value} {t : Str} {v v' : World} {X : Blk} (h : EnBx b x t v) (hc : Chg X v v') (hX : ¬ X b) : EnBx b x t v' := by
  obtain ⟨h1, h2, h3, h4, h5⟩ := h
  exact ⟨(hc.cell (p := ⟨b, 0, none⟩) h5 hX).trans h1, (hc.cell (p := ⟨b, 1, none⟩) h5 hX).trans h2, (hc.frozen (p := ⟨b, 0, none⟩) h5 hX).trans h3, (hc.frozen (p := ⟨b, 1, none⟩) h5 hX).trans h4, Nat.lt_of_lt_of_le h5 hc.size⟩
theorem EnBx.below {b : Nat} {x : Value} {t : Str} {v v' : World} (h : EnBx b x t v) (hb : Below v.heap.size v v') : EnBx b x t v' := h.stand (Below.chg hb fun _ => False) fun h => h
theorem EnBx.new (x : Value) (t : Str) (T : TypeId) (v : World) : EnBx v.heap.size x t (v.alloc (.cells #[x, .string (S t)] T)) := by
  refine ⟨?_, ?_, ?_, ?_, ?_⟩ <;> go_simp
theorem EnBx.text {b : Nat} {x : Value} {t t' : Str} {v : World} (h : EnBx b x t v) : EnBx b x t' (v.setCell ⟨b, 1, none⟩ (.string (S t'))) := by
  obtain ⟨h1, h2, h3, h4, h5⟩ := h
  refine ⟨?_, World.cell?_setCell_same _ _ _ h2, by simpa using h3, by simpa using h4, by simpa [World.setCell] using h5⟩
  go_simp
end Go.Proofs.YtmlklnimoknojaaGreatDoor
