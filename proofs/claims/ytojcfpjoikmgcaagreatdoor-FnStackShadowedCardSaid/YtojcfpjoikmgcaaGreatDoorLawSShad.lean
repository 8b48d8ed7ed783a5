/- The law of shadowed entries (begun). -/
import Derived.Deep.DeepCutAuto
import Derived.Test.YtojcfpjoikmgcaaGreatDoorShadB
import Derived.Test.YtojcfpjoikmgcaaGreatDoorShadA
import Derived.Test.YtojcfpjoikmgcaaGreatDoorFlat3
namespace Go.Proofs.YtojcfpjoikmgcaaGreatDoor
open Go Go.RowKit
set_option maxHeartbeats 8000000
set_option maxRecDepth 100000
theorem ShadR.at {v : World} {ad : Option Addr} {n cap : Nat} {l : List P.Shad} (h : ShadR v (.slice ad n cap) l) (j : Nat) (hj : j < l.length) : ∃ g o, ad = some ⟨g, o, none⟩ ∧ g < v.heap.size ∧ ∃ x, v.cell? ⟨g, o + j * 3, none⟩ = some (.int .i64 (l[j]'hj).1) ∧ v.cell? ⟨g, o + j * 3 + 1, none⟩ = some (.int .i64 (l[j]'hj).2.1) ∧ v.cell? ⟨g, o + j * 3 + 2, none⟩ = some x ∧ IntR v x (l[j]'hj).2.2 := by
  obtain ⟨ad', cap', he, _, h3⟩ := h
  injection he with h1 h2 h4
  rcases h3 with h3 | ⟨g, o, h5, h6, h7⟩
  · rw [h3] at hj; exact absurd hj (Nat.not_lt_zero _)
  · exact ⟨g, o, h1.trans h5, h6, h7 j hj⟩
theorem CodeIs.below {w w' : World} {v : Value} (h : CodeIs w v) (hb : Below w.heap.size w w') : CodeIs w' v := by
  obtain ⟨ad, n, cap, rfl, hn, hc⟩ := h
  refine ⟨ad, n, cap, rfl, hn, hc.imp id ?_⟩
  rintro ⟨g, o, h1, h2, h3⟩
  refine ⟨g, o, h1, Nat.lt_of_lt_of_le h2 hb.size, fun j hj => ?_⟩
  obtain ⟨b, hb1, hb2⟩ := h3 j hj
  exact ⟨b, hb1, (hb.cell (p := ⟨g, o + j, none⟩) h2).trans hb2⟩
theorem P.flat_look {l : P.Lays} {e : P.Ent} (hs : P.stack l = true) (he : e ∈ P.flatS l) : P.lookS e.1 l = (e.2, P.layIdx e.1 l, true) := by
  have hl := P.stack_layers hs
  obtain ⟨h3, h4⟩ := P.seen_look hl ((P.flatS_seen (P.layers_pair hl)).1 he)
  unfold P.lookS
  rw [hs, if_pos rfl, h3, h4]
theorem P.kept_look {l : P.Lays} {e : P.Ent} (he : e ∈ P.kept (P.flatOk l) (P.flatS l)) : P.lookS e.1 l = (e.2, P.layIdx e.1 l, true) := by
  unfold P.kept at he
  split at he
  · rename_i h
    unfold P.flatOk at h
    rw [Bool.and_eq_true] at h
    exact P.flat_look h.1 he
  · cases he
/-- what the law's look at a shadowed entry keeps -/
def SHS (g p g' q : Nat) (a b : Int) (x y : Value) (v : World) : Prop :=
  v.cell? ⟨g, p, none⟩ = some (.int .i64 a) ∧ v.cell? ⟨g, p + 1, none⟩ = some (.int .i64 b) ∧ v.cell? ⟨g, p + 2, none⟩ = some x ∧ v.cell? ⟨g', q, none⟩ = some (.int .i64 a) ∧ v.cell? ⟨g', q + 1, none⟩ = some (.int .i64 b) ∧ v.cell? ⟨g', q + 2, none⟩ = some y ∧ g < v.heap.size ∧ g' < v.heap.size
theorem SHS.below {g p g' q : Nat} {a b : Int} {x y : Value} {v v' : World} (h : SHS g p g' q a b x y v) (hb : Below v.heap.size v v') : SHS g p g' q a b x y v' := by
  obtain ⟨h1, h2, h3, h4, h5, h6, h7, h8⟩ := h
  exact ⟨(hb.cell (p := ⟨g, p, none⟩) h7).trans h1, (hb.cell (p := ⟨g, p + 1, none⟩) h7).trans h2, (hb.cell (p := ⟨g, p + 2, none⟩) h7).trans h3, (hb.cell (p := ⟨g', q, none⟩) h8).trans h4, (hb.cell (p := ⟨g', q + 1, none⟩) h8).trans h5, (hb.cell (p := ⟨g', q + 2, none⟩) h8).trans h6, Nat.lt_of_lt_of_le h7 hb.size, Nat.lt_of_lt_of_le h8 hb.size⟩
theorem law_stackShadowed (v : Value) (w : World) (hc : CodeAny w v) (hE : Env w) :
    Calls Tryz.prog 11 #[v] w fun e w' => e = .returned (.bool true) ∧ Below w.heap.size w w' := by
  obtain ⟨ad, n, cap, rfl, hn, hr⟩ := hc
  have HE := Lib.hid hE
  clear hE
  go_enter Tryz.func11, Tryz.ntmps11
  go_wp2_with fail
  refine (rBig _ n ad cap rfl hn _).mono ?_
  rintro e w' ⟨rfl, rfl⟩
  cases hbig : decide (65536 < n)
  · have hn2 : n ≤ 65536 := by have := of_decide_eq_false hbig; omega
    have HCD := Lib.hid (show CodeIs w (.slice ad n cap) from ⟨ad, n, cap, rfl, hn2, hr⟩)
    clear hbig hr
    go_wp2_with fail
    refine (drawShadowed _ _ HCD.out).mono ?_
    rintro e w1 ⟨l, u, rfl, hdl, hu, hb⟩
    have HDL := Lib.hid hdl
    have hba : Below w1.heap.size w1 (w1.alloc (.cells #[u] 68)) := (Below.refl _ _).alloc (Nat.le_refl _) _
    have HB := Lib.hid (hb.trans (hba.mono hb.size))
    have HU := Lib.hid (hu.now.below hba)
    have HX := Lib.hid (DBx.new u 68 w1)
    have HE1 := Lib.hid (HE.out.below HB.out HE.out.size)
    obtain ⟨ua, uc, rfl, hl45, _⟩ := hu.now
    clear hdl hu hba hb HE
    go_wp2_with fail
    refine (impl_shadowed _ l _ HU.out HDL.out.small HE1.out).mono ?_
    rintro e w2 ⟨x2, rfl, hO, hb⟩
    have HLK := Lib.hid (fun x (hx : x ∈ (if P.stack l = true then P.shad l 0 l else [])) => show ∃ t, P.lookS x.2.2 l = (t, x.2.1, true) ∧ x.2.1 < x.1 by
      split at hx
      · rename_i hs; exact P.shad_look hs hx
      · cases hx)
    obtain ⟨os, hos⟩ : ∃ os, (if P.stack l = true then P.shad l 0 l else []) = os := ⟨_, rfl⟩
    rw [hos] at hO HLK
    have HOS := Lib.hid hos
    clear hos
    have HB2 := Lib.hid (HB.out.trans (hb.mono HB.out.size)); have HU2 := Lib.hid (HU.out.below hb); have HX2 := Lib.hid (HX.out.below hb); have HE2 := Lib.hid (HE1.out.below hb HE1.out.size)
    have HO2 := Lib.hid (Shads.read hO)
    obtain ⟨xa, xc, rfl, hxl, _⟩ := Shads.read hO
    clear hb HB HU HX HE1 hO
    obtain ⟨x0, _⟩ := HX2.out
    go_wp2_with fail
    refine (spec_shadowed _ l _ HU2.out HDL.out.small).mono ?_
    rintro e w3 ⟨x3, rfl, hO, hb⟩
    rw [HOS.out] at hO
    have HB3 := Lib.hid (HB2.out.trans (hb.mono HB2.out.size)); have HU3 := Lib.hid (HU2.out.below hb); have HX3 := Lib.hid (HX2.out.below hb); have HE3 := Lib.hid (HE2.out.below hb HE2.out.size)
    have HO3 := Lib.hid (HO2.out.below hb); have HP3 := Lib.hid (Shads.read hO)
    obtain ⟨ya, yc, rfl, _, _⟩ := Shads.read hO
    clear hb HB2 HU2 HX2 HE2 HO2 hO x0
    obtain ⟨x0, _⟩ := HX3.out
    go_wp2_with fail
    refine (impl_isValidStack _ l _ HU3.out HDL.out.small.each HE3.out).mono ?_
    rintro e w4 ⟨rfl, hb⟩
    have HB4 := Lib.hid (HB3.out.trans (hb.mono HB3.out.size)); have HU4 := Lib.hid (HU3.out.below hb); have HX4 := Lib.hid (HX3.out.below hb); have HE4 := Lib.hid (HE3.out.below hb HE3.out.size)
    have HO4 := Lib.hid (HO3.out.below hb); have HP4 := Lib.hid (HP3.out.below hb)
    clear hb HB3 HU3 HX3 HE3 HO3 HP3 x0
    go_wp2_with fail
    go_loopw [8] (fun i wr => ∃ j : Nat, j ≤ os.length ∧ i = .int .i64 j ∧ Below w4.heap.size w4 wr) (fun i _ => os.length - (intOf i).toNat)
    case atStart => exact ⟨0, Nat.zero_le _, rfl, Below.refl _ _⟩
    case round =>
      obtain ⟨j, hj, rfl, hb⟩ := hrel
      have HBR := Lib.hid hb
      by_cases hlt : j < os.length
      · obtain ⟨g, p, hga, hgl, x, c0, c1, c2, hx⟩ := (HO4.out.below hb).at j hlt
        obtain ⟨g', p', hgb, hgl', y, d0, d1, d2, hy⟩ := (HP4.out.below hb).at j hlt
        subst hga hgb
        have hdd := (Below.refl wr.heap.size wr).drew
        have HXR := Lib.hid (hx.below hdd); have HYR := Lib.hid (hy.below hdd)
        have hlk := HLK.out os[j] (List.getElem_mem hlt)
        obtain ⟨xd, xcc, rfl, _, _⟩ := hx
        obtain ⟨yd, ycc, rfl, _, _⟩ := hy
        generalize os[j] = sh at *
        obtain ⟨a, b, o⟩ := sh
        simp only at HXR HYR hlk c0 c1 c2 d0 d1 d2
        have HLJ := Lib.hid hlk
        have HS := Lib.hid (show SHS g (p + j * 3) g' (p' + j * 3) a b (.slice xd o.length xcc) (.slice yd o.length ycc) wr.drew from SHS.below ⟨c0, c1, c2, d0, d1, d2, hgl, hgl'⟩ hdd)
        have i1 : (j : Int) < (os.length : Int) := by omega
        clear hb hdd hlk c0 c1 c2 d0 d1 d2 hgl hgl'
        go_upto_region 11 with fail
        refine wp_region_held_drew (S := SHS g (p + j * 3) g' (p' + j * 3) a b (.slice xd o.length xcc) (.slice yd o.length ycc)) (by kernel_rfl) HS.out (fun hS0 => ?_)
        have HB0 := Lib.hid (HBR.out.trans ((Below.refl wr.heap.size wr).drew.mono HBR.out.size))
        generalize wr.drew = v0 at *
        refine wpAnyH_take (i := 0) (v := .slice (some ⟨g, p, none⟩) os.length xc) rfl (by kernel_rfl) (by kernel_rfl) (by kernel_rfl) (fun _ _ _ h => h) (Or.inl ⟨by rfl, fun z hz => ?_⟩) hS0 ?_
        · obtain ⟨z1, z2, z3, z4, z5, z6, z7, z8⟩ := hz
          go_simp
        try simp only [List.getElem_toArray, List.getElem_cons_zero, Act.put, List.setIfInBounds_toArray, List.set_cons_zero, List.set_cons_succ]
        refine wpAnyH_take (i := 1) (v := .int .i64 j) rfl (by kernel_rfl) (by kernel_rfl) (by kernel_rfl) (fun _ _ _ h => h) (Or.inl ⟨by rfl, fun z hz => ?_⟩) hS0 ?_
        · obtain ⟨z1, z2, z3, z4, z5, z6, z7, z8⟩ := hz
          go_simp
        try simp only [List.getElem_toArray, List.getElem_cons_zero, List.getElem_cons_succ, Act.put, List.setIfInBounds_toArray, List.set_cons_zero, List.set_cons_succ]
        refine wpAnyH_take (i := 2) (v := .pointer (some ⟨g, p + j * 3, none⟩)) rfl (by kernel_rfl) (by kernel_rfl) (by kernel_rfl) (fun _ _ _ h => h) (Or.inl ⟨by rfl, fun z hz => ?_⟩) hS0 ?_
        · obtain ⟨z1, z2, z3, z4, z5, z6, z7, z8⟩ := hz
          go_simp
        try simp only [List.getElem_toArray, List.getElem_cons_zero, List.getElem_cons_succ, Act.put, List.setIfInBounds_toArray, List.set_cons_zero, List.set_cons_succ]
        refine wpAnyH_take (i := 3) (v := .pointer (some ⟨g, p + j * 3, none⟩)) rfl (by kernel_rfl) (by kernel_rfl) (by kernel_rfl) (fun _ _ _ h => h) (Or.inl ⟨by rfl, fun z hz => ?_⟩) hS0 ?_
        · obtain ⟨z1, z2, z3, z4, z5, z6, z7, z8⟩ := hz
          go_simp
        try simp only [List.getElem_toArray, List.getElem_cons_zero, List.getElem_cons_succ, Act.put, List.setIfInBounds_toArray, List.set_cons_zero, List.set_cons_succ]
        refine wpAnyH_take (i := 4) (v := .int .i64 a) rfl (by kernel_rfl) (by kernel_rfl) (by kernel_rfl) (fun _ _ _ h => h) (Or.inl ⟨by rfl, fun z hz => ?_⟩) hS0 ?_
        · obtain ⟨z1, z2, z3, z4, z5, z6, z7, z8⟩ := hz
          go_simp
        try simp only [List.getElem_toArray, List.getElem_cons_zero, List.getElem_cons_succ, Act.put, List.setIfInBounds_toArray, List.set_cons_zero, List.set_cons_succ]
        refine wpAnyH_take (i := 5) (v := .slice (some ⟨g', p', none⟩) os.length yc) rfl (by kernel_rfl) (by kernel_rfl) (by kernel_rfl) (fun _ _ _ h => h) (Or.inl ⟨by rfl, fun z hz => ?_⟩) hS0 ?_
        · obtain ⟨z1, z2, z3, z4, z5, z6, z7, z8⟩ := hz
          go_simp
        try simp only [List.getElem_toArray, List.getElem_cons_zero, List.getElem_cons_succ, Act.put, List.setIfInBounds_toArray, List.set_cons_zero, List.set_cons_succ]
        refine wpAnyH_take (i := 6) (v := .int .i64 j) rfl (by kernel_rfl) (by kernel_rfl) (by kernel_rfl) (fun _ _ _ h => h) (Or.inl ⟨by rfl, fun z hz => ?_⟩) hS0 ?_
        · obtain ⟨z1, z2, z3, z4, z5, z6, z7, z8⟩ := hz
          go_simp
        try simp only [List.getElem_toArray, List.getElem_cons_zero, List.getElem_cons_succ, Act.put, List.setIfInBounds_toArray, List.set_cons_zero, List.set_cons_succ]
        refine wpAnyH_take (i := 7) (v := .pointer (some ⟨g', p' + j * 3, none⟩)) rfl (by kernel_rfl) (by kernel_rfl) (by kernel_rfl) (fun _ _ _ h => h) (Or.inl ⟨by rfl, fun z hz => ?_⟩) hS0 ?_
        · obtain ⟨z1, z2, z3, z4, z5, z6, z7, z8⟩ := hz
          go_simp
        try simp only [List.getElem_toArray, List.getElem_cons_zero, List.getElem_cons_succ, Act.put, List.setIfInBounds_toArray, List.set_cons_zero, List.set_cons_succ]
        refine wpAnyH_take (i := 8) (v := .pointer (some ⟨g', p' + j * 3, none⟩)) rfl (by kernel_rfl) (by kernel_rfl) (by kernel_rfl) (fun _ _ _ h => h) (Or.inl ⟨by rfl, fun z hz => ?_⟩) hS0 ?_
        · obtain ⟨z1, z2, z3, z4, z5, z6, z7, z8⟩ := hz
          go_simp
        try simp only [List.getElem_toArray, List.getElem_cons_zero, List.getElem_cons_succ, Act.put, List.setIfInBounds_toArray, List.set_cons_zero, List.set_cons_succ]
        refine wpAnyH_take (i := 9) (v := .int .i64 a) rfl (by kernel_rfl) (by kernel_rfl) (by kernel_rfl) (fun _ _ _ h => h) (Or.inl ⟨by rfl, fun z hz => ?_⟩) hS0 ?_
        · obtain ⟨z1, z2, z3, z4, z5, z6, z7, z8⟩ := hz
          go_simp
        try simp only [List.getElem_toArray, List.getElem_cons_zero, List.getElem_cons_succ, Act.put, List.setIfInBounds_toArray, List.set_cons_zero, List.set_cons_succ]
        refine wpAnyH_take (i := 10) (v := .bool false) rfl (by kernel_rfl) (by kernel_rfl) (by kernel_rfl) (fun _ _ _ h => h) (Or.inl ⟨by rfl, fun z hz => ?_⟩) hS0 ?_
        · obtain ⟨z1, z2, z3, z4, z5, z6, z7, z8⟩ := hz
          go_simp
        try simp only [List.getElem_toArray, List.getElem_cons_zero, List.getElem_cons_succ, Act.put, List.setIfInBounds_toArray, List.set_cons_zero, List.set_cons_succ]
        refine wpAnyH_take (i := 11) (v := .bool false) rfl (by kernel_rfl) (by kernel_rfl) (by kernel_rfl) (fun _ _ _ h => h) (Or.inl ⟨by rfl, fun z hz => ?_⟩) hS0 ?_
        · obtain ⟨z1, z2, z3, z4, z5, z6, z7, z8⟩ := hz
          go_simp
        try simp only [List.getElem_toArray, List.getElem_cons_zero, List.getElem_cons_succ, Act.put, List.setIfInBounds_toArray, List.set_cons_zero, List.set_cons_succ]
        refine wpAnyH_take (i := 12) (v := .slice (some ⟨g, p, none⟩) os.length xc) rfl (by kernel_rfl) (by kernel_rfl) (by kernel_rfl) (fun _ _ _ h => h) (Or.inl ⟨by rfl, fun z hz => ?_⟩) hS0 ?_
        · obtain ⟨z1, z2, z3, z4, z5, z6, z7, z8⟩ := hz
          go_simp
        try simp only [List.getElem_toArray, List.getElem_cons_zero, List.getElem_cons_succ, Act.put, List.setIfInBounds_toArray, List.set_cons_zero, List.set_cons_succ]
        refine wpAnyH_take (i := 13) (v := .int .i64 j) rfl (by kernel_rfl) (by kernel_rfl) (by kernel_rfl) (fun _ _ _ h => h) (Or.inl ⟨by rfl, fun z hz => ?_⟩) hS0 ?_
        · obtain ⟨z1, z2, z3, z4, z5, z6, z7, z8⟩ := hz
          go_simp
        try simp only [List.getElem_toArray, List.getElem_cons_zero, List.getElem_cons_succ, Act.put, List.setIfInBounds_toArray, List.set_cons_zero, List.set_cons_succ]
        refine wpAnyH_take (i := 14) (v := .pointer (some ⟨g, p + j * 3, none⟩)) rfl (by kernel_rfl) (by kernel_rfl) (by kernel_rfl) (fun _ _ _ h => h) (Or.inl ⟨by rfl, fun z hz => ?_⟩) hS0 ?_
        · obtain ⟨z1, z2, z3, z4, z5, z6, z7, z8⟩ := hz
          go_simp
        try simp only [List.getElem_toArray, List.getElem_cons_zero, List.getElem_cons_succ, Act.put, List.setIfInBounds_toArray, List.set_cons_zero, List.set_cons_succ]
        refine wpAnyH_take (i := 15) (v := .pointer (some ⟨g, p + j * 3 + 1, none⟩)) rfl (by kernel_rfl) (by kernel_rfl) (by kernel_rfl) (fun _ _ _ h => h) (Or.inl ⟨by rfl, fun z hz => ?_⟩) hS0 ?_
        · obtain ⟨z1, z2, z3, z4, z5, z6, z7, z8⟩ := hz
          go_simp
        try simp only [List.getElem_toArray, List.getElem_cons_zero, List.getElem_cons_succ, Act.put, List.setIfInBounds_toArray, List.set_cons_zero, List.set_cons_succ]
        refine wpAnyH_take (i := 16) (v := .int .i64 b) rfl (by kernel_rfl) (by kernel_rfl) (by kernel_rfl) (fun _ _ _ h => h) (Or.inl ⟨by rfl, fun z hz => ?_⟩) hS0 ?_
        · obtain ⟨z1, z2, z3, z4, z5, z6, z7, z8⟩ := hz
          go_simp
        try simp only [List.getElem_toArray, List.getElem_cons_zero, List.getElem_cons_succ, Act.put, List.setIfInBounds_toArray, List.set_cons_zero, List.set_cons_succ]
        refine wpAnyH_take (i := 17) (v := .slice (some ⟨g', p', none⟩) os.length yc) rfl (by kernel_rfl) (by kernel_rfl) (by kernel_rfl) (fun _ _ _ h => h) (Or.inl ⟨by rfl, fun z hz => ?_⟩) hS0 ?_
        · obtain ⟨z1, z2, z3, z4, z5, z6, z7, z8⟩ := hz
          go_simp
        try simp only [List.getElem_toArray, List.getElem_cons_zero, List.getElem_cons_succ, Act.put, List.setIfInBounds_toArray, List.set_cons_zero, List.set_cons_succ]
        refine wpAnyH_take (i := 18) (v := .int .i64 j) rfl (by kernel_rfl) (by kernel_rfl) (by kernel_rfl) (fun _ _ _ h => h) (Or.inl ⟨by rfl, fun z hz => ?_⟩) hS0 ?_
        · obtain ⟨z1, z2, z3, z4, z5, z6, z7, z8⟩ := hz
          go_simp
        try simp only [List.getElem_toArray, List.getElem_cons_zero, List.getElem_cons_succ, Act.put, List.setIfInBounds_toArray, List.set_cons_zero, List.set_cons_succ]
        refine wpAnyH_take (i := 19) (v := .pointer (some ⟨g', p' + j * 3, none⟩)) rfl (by kernel_rfl) (by kernel_rfl) (by kernel_rfl) (fun _ _ _ h => h) (Or.inl ⟨by rfl, fun z hz => ?_⟩) hS0 ?_
        · obtain ⟨z1, z2, z3, z4, z5, z6, z7, z8⟩ := hz
          go_simp
        try simp only [List.getElem_toArray, List.getElem_cons_zero, List.getElem_cons_succ, Act.put, List.setIfInBounds_toArray, List.set_cons_zero, List.set_cons_succ]
        refine wpAnyH_take (i := 20) (v := .pointer (some ⟨g', p' + j * 3 + 1, none⟩)) rfl (by kernel_rfl) (by kernel_rfl) (by kernel_rfl) (fun _ _ _ h => h) (Or.inl ⟨by rfl, fun z hz => ?_⟩) hS0 ?_
        · obtain ⟨z1, z2, z3, z4, z5, z6, z7, z8⟩ := hz
          go_simp
        try simp only [List.getElem_toArray, List.getElem_cons_zero, List.getElem_cons_succ, Act.put, List.setIfInBounds_toArray, List.set_cons_zero, List.set_cons_succ]
        refine wpAnyH_take (i := 21) (v := .int .i64 b) rfl (by kernel_rfl) (by kernel_rfl) (by kernel_rfl) (fun _ _ _ h => h) (Or.inl ⟨by rfl, fun z hz => ?_⟩) hS0 ?_
        · obtain ⟨z1, z2, z3, z4, z5, z6, z7, z8⟩ := hz
          go_simp
        try simp only [List.getElem_toArray, List.getElem_cons_zero, List.getElem_cons_succ, Act.put, List.setIfInBounds_toArray, List.set_cons_zero, List.set_cons_succ]
        refine wpAnyH_take (i := 22) (v := .bool false) rfl (by kernel_rfl) (by kernel_rfl) (by kernel_rfl) (fun _ _ _ h => h) (Or.inl ⟨by rfl, fun z hz => ?_⟩) hS0 ?_
        · obtain ⟨z1, z2, z3, z4, z5, z6, z7, z8⟩ := hz
          go_simp
        try simp only [List.getElem_toArray, List.getElem_cons_zero, List.getElem_cons_succ, Act.put, List.setIfInBounds_toArray, List.set_cons_zero, List.set_cons_succ]
        refine wpAnyH_take (i := 23) (v := .bool false) rfl (by kernel_rfl) (by kernel_rfl) (by kernel_rfl) (fun _ _ _ h => h) (Or.inl ⟨by rfl, fun z hz => ?_⟩) hS0 ?_
        · obtain ⟨z1, z2, z3, z4, z5, z6, z7, z8⟩ := hz
          go_simp
        try simp only [List.getElem_toArray, List.getElem_cons_zero, List.getElem_cons_succ, Act.put, List.setIfInBounds_toArray, List.set_cons_zero, List.set_cons_succ]
        refine wpAnyH_take (i := 24) (v := .bool false) rfl (by kernel_rfl) (by kernel_rfl) (by kernel_rfl) (fun _ _ _ h => h) (Or.inl ⟨by rfl, fun z hz => ?_⟩) hS0 ?_
        · obtain ⟨z1, z2, z3, z4, z5, z6, z7, z8⟩ := hz
          go_simp
        try simp only [List.getElem_toArray, List.getElem_cons_zero, List.getElem_cons_succ, Act.put, List.setIfInBounds_toArray, List.set_cons_zero, List.set_cons_succ]
        refine wpAnyH_take (i := 25) (v := .slice (some ⟨g, p, none⟩) os.length xc) rfl (by kernel_rfl) (by kernel_rfl) (by kernel_rfl) (fun _ _ _ h => h) (Or.inl ⟨by rfl, fun z hz => ?_⟩) hS0 ?_
        · obtain ⟨z1, z2, z3, z4, z5, z6, z7, z8⟩ := hz
          go_simp
        try simp only [List.getElem_toArray, List.getElem_cons_zero, List.getElem_cons_succ, Act.put, List.setIfInBounds_toArray, List.set_cons_zero, List.set_cons_succ]
        refine wpAnyH_take (i := 26) (v := .int .i64 j) rfl (by kernel_rfl) (by kernel_rfl) (by kernel_rfl) (fun _ _ _ h => h) (Or.inl ⟨by rfl, fun z hz => ?_⟩) hS0 ?_
        · obtain ⟨z1, z2, z3, z4, z5, z6, z7, z8⟩ := hz
          go_simp
        try simp only [List.getElem_toArray, List.getElem_cons_zero, List.getElem_cons_succ, Act.put, List.setIfInBounds_toArray, List.set_cons_zero, List.set_cons_succ]
        refine wpAnyH_take (i := 27) (v := .pointer (some ⟨g, p + j * 3, none⟩)) rfl (by kernel_rfl) (by kernel_rfl) (by kernel_rfl) (fun _ _ _ h => h) (Or.inl ⟨by rfl, fun z hz => ?_⟩) hS0 ?_
        · obtain ⟨z1, z2, z3, z4, z5, z6, z7, z8⟩ := hz
          go_simp
        try simp only [List.getElem_toArray, List.getElem_cons_zero, List.getElem_cons_succ, Act.put, List.setIfInBounds_toArray, List.set_cons_zero, List.set_cons_succ]
        refine wpAnyH_take (i := 28) (v := .pointer (some ⟨g, p + j * 3 + 2, none⟩)) rfl (by kernel_rfl) (by kernel_rfl) (by kernel_rfl) (fun _ _ _ h => h) (Or.inl ⟨by rfl, fun z hz => ?_⟩) hS0 ?_
        · obtain ⟨z1, z2, z3, z4, z5, z6, z7, z8⟩ := hz
          go_simp
        try simp only [List.getElem_toArray, List.getElem_cons_zero, List.getElem_cons_succ, Act.put, List.setIfInBounds_toArray, List.set_cons_zero, List.set_cons_succ]
        refine wpAnyH_take (i := 29) (v := .slice xd o.length xcc) rfl (by kernel_rfl) (by kernel_rfl) (by kernel_rfl) (fun _ _ _ h => h) (Or.inl ⟨by rfl, fun z hz => ?_⟩) hS0 ?_
        · obtain ⟨z1, z2, z3, z4, z5, z6, z7, z8⟩ := hz
          go_simp
        try simp only [List.getElem_toArray, List.getElem_cons_zero, List.getElem_cons_succ, Act.put, List.setIfInBounds_toArray, List.set_cons_zero, List.set_cons_succ]
        refine wpAnyH_take (i := 30) (v := .slice (some ⟨g', p', none⟩) os.length yc) rfl (by kernel_rfl) (by kernel_rfl) (by kernel_rfl) (fun _ _ _ h => h) (Or.inl ⟨by rfl, fun z hz => ?_⟩) hS0 ?_
        · obtain ⟨z1, z2, z3, z4, z5, z6, z7, z8⟩ := hz
          go_simp
        try simp only [List.getElem_toArray, List.getElem_cons_zero, List.getElem_cons_succ, Act.put, List.setIfInBounds_toArray, List.set_cons_zero, List.set_cons_succ]
        refine wpAnyH_take (i := 31) (v := .int .i64 j) rfl (by kernel_rfl) (by kernel_rfl) (by kernel_rfl) (fun _ _ _ h => h) (Or.inl ⟨by rfl, fun z hz => ?_⟩) hS0 ?_
        · obtain ⟨z1, z2, z3, z4, z5, z6, z7, z8⟩ := hz
          go_simp
        try simp only [List.getElem_toArray, List.getElem_cons_zero, List.getElem_cons_succ, Act.put, List.setIfInBounds_toArray, List.set_cons_zero, List.set_cons_succ]
        refine wpAnyH_take (i := 32) (v := .pointer (some ⟨g', p' + j * 3, none⟩)) rfl (by kernel_rfl) (by kernel_rfl) (by kernel_rfl) (fun _ _ _ h => h) (Or.inl ⟨by rfl, fun z hz => ?_⟩) hS0 ?_
        · obtain ⟨z1, z2, z3, z4, z5, z6, z7, z8⟩ := hz
          go_simp
        try simp only [List.getElem_toArray, List.getElem_cons_zero, List.getElem_cons_succ, Act.put, List.setIfInBounds_toArray, List.set_cons_zero, List.set_cons_succ]
        refine wpAnyH_take (i := 33) (v := .pointer (some ⟨g', p' + j * 3 + 2, none⟩)) rfl (by kernel_rfl) (by kernel_rfl) (by kernel_rfl) (fun _ _ _ h => h) (Or.inl ⟨by rfl, fun z hz => ?_⟩) hS0 ?_
        · obtain ⟨z1, z2, z3, z4, z5, z6, z7, z8⟩ := hz
          go_simp
        try simp only [List.getElem_toArray, List.getElem_cons_zero, List.getElem_cons_succ, Act.put, List.setIfInBounds_toArray, List.set_cons_zero, List.set_cons_succ]
        refine wpAnyH_take (i := 34) (v := .slice yd o.length ycc) rfl (by kernel_rfl) (by kernel_rfl) (by kernel_rfl) (fun _ _ _ h => h) (Or.inl ⟨by rfl, fun z hz => ?_⟩) hS0 ?_
        · obtain ⟨z1, z2, z3, z4, z5, z6, z7, z8⟩ := hz
          go_simp
        try simp only [List.getElem_toArray, List.getElem_cons_zero, List.getElem_cons_succ, Act.put, List.setIfInBounds_toArray, List.set_cons_zero, List.set_cons_succ]
        refine wpAnyH_ready (rs := [35]) (by kernel_rfl) (by simp) ?_
        refine AllReadyH.cons rfl (fun K hK => ?_) AllReadyH.nil
        go_simp
        refine (rInts _ _ o _ HXR.out HYR.out).mono ?_
        rintro e v1 ⟨rfl, hb⟩
        have HBv := Lib.hid (HB0.out.trans (hb.mono HB0.out.size))
        refine hK.out _ _ (hS0.below hb) (fun hS1 => ?_)
        have HXO := Lib.hid HXR.out
        have hb0 := hb
        clear hK K hb HXR HYR
        try simp only [List.getElem_toArray, List.getElem_cons_zero, List.getElem_cons_succ, Act.put, List.setIfInBounds_toArray, List.set_cons_zero, List.set_cons_succ]
        refine wpAnyH_take (i := 36) (v := .bool false) rfl (by kernel_rfl) (by kernel_rfl) (by kernel_rfl) (fun _ _ _ h => h) (Or.inl ⟨by rfl, fun z hz => ?_⟩) hS1 ?_
        · obtain ⟨z1, z2, z3, z4, z5, z6, z7, z8⟩ := hz
          go_simp
        try simp only [List.getElem_toArray, List.getElem_cons_zero, List.getElem_cons_succ, Act.put, List.setIfInBounds_toArray, List.set_cons_zero, List.set_cons_succ]
        refine wpAnyH_take (i := 37) (v := .bool false) rfl (by kernel_rfl) (by kernel_rfl) (by kernel_rfl) (fun _ _ _ h => h) (Or.inl ⟨by rfl, fun z hz => ?_⟩) hS1 ?_
        · obtain ⟨z1, z2, z3, z4, z5, z6, z7, z8⟩ := hz
          go_simp
        try simp only [List.getElem_toArray, List.getElem_cons_zero, List.getElem_cons_succ, Act.put, List.setIfInBounds_toArray, List.set_cons_zero, List.set_cons_succ]
        refine wpAnyH_done (by kernel_rfl) ?_ _
        have hS2 := hS1
        have HUv := Lib.hid (HU4.out.below HBv.out); have HEv := Lib.hid (HE4.out.below HBv.out HE4.out.size); have hxv := (HX4.out.below HBv.out)
        have HXv := Lib.hid (HXO.out.below hb0)
        have hdd := (Below.refl v1.heap.size v1).drew
        have HSH := Lib.hid (SHS.below hS1 hdd)
        have HS2 := Lib.hid (show v1.drew.cell? ⟨w1.heap.size, 0, none⟩ = some (.slice ua l.length uc) ∧ v1.drew.cell? ⟨g, p + j * 3 + 2, none⟩ = some (.slice xd o.length xcc) ∧ w1.heap.size < v1.drew.heap.size ∧ g < v1.drew.heap.size from ⟨hxv.1, hS1.2.2.1, hxv.2.2, hS1.2.2.2.2.2.2.1⟩)
        clear hxv hS2
        go_upto_region 13 with fail
        clear hS0 hS1
        refine wp_region_held_drew (S := fun v => v.cell? ⟨w1.heap.size, 0, none⟩ = some (.slice ua l.length uc) ∧ v.cell? ⟨g, p + j * 3 + 2, none⟩ = some (.slice xd o.length xcc) ∧ w1.heap.size < v.heap.size ∧ g < v.heap.size) (by kernel_rfl) HS2.out (fun hS0 => ?_)
        have HU5 := Lib.hid (HUv.out.below hdd); have HX5 := Lib.hid (HXv.out.below hdd); have HE5 := Lib.hid (HEv.out.below hdd HEv.out.size); have HB5 := Lib.hid (HBv.out.trans (hdd.mono HBv.out.size))
        clear hdd
        generalize v1.drew = v2 at *
        refine wpAnyH_take (i := 0) (v := .agg #[.slice ua l.length uc]) rfl (by kernel_rfl) (by kernel_rfl) (by kernel_rfl) (fun _ _ _ h => h) (Or.inl ⟨by rfl, fun z hz => ?_⟩) hS0 ?_
        · obtain ⟨z1, z2, z3, z4⟩ := hz
          go_simp
        try simp only [List.getElem_toArray, List.getElem_cons_zero, Act.put, List.setIfInBounds_toArray, List.set_cons_zero, List.set_cons_succ]
        refine wpAnyH_take (i := 1) (v := .slice (some ⟨g, p, none⟩) os.length xc) rfl (by kernel_rfl) (by kernel_rfl) (by kernel_rfl) (fun _ _ _ h => h) (Or.inl ⟨by rfl, fun z hz => ?_⟩) hS0 ?_
        · obtain ⟨z1, z2, z3, z4⟩ := hz
          go_simp
        try simp only [List.getElem_toArray, List.getElem_cons_zero, List.getElem_cons_succ, Act.put, List.setIfInBounds_toArray, List.set_cons_zero, List.set_cons_succ]
        refine wpAnyH_take (i := 2) (v := .int .i64 j) rfl (by kernel_rfl) (by kernel_rfl) (by kernel_rfl) (fun _ _ _ h => h) (Or.inl ⟨by rfl, fun z hz => ?_⟩) hS0 ?_
        · obtain ⟨z1, z2, z3, z4⟩ := hz
          go_simp
        try simp only [List.getElem_toArray, List.getElem_cons_zero, List.getElem_cons_succ, Act.put, List.setIfInBounds_toArray, List.set_cons_zero, List.set_cons_succ]
        refine wpAnyH_take (i := 3) (v := .pointer (some ⟨g, p + j * 3, none⟩)) rfl (by kernel_rfl) (by kernel_rfl) (by kernel_rfl) (fun _ _ _ h => h) (Or.inl ⟨by rfl, fun z hz => ?_⟩) hS0 ?_
        · obtain ⟨z1, z2, z3, z4⟩ := hz
          go_simp
        try simp only [List.getElem_toArray, List.getElem_cons_zero, List.getElem_cons_succ, Act.put, List.setIfInBounds_toArray, List.set_cons_zero, List.set_cons_succ]
        refine wpAnyH_take (i := 4) (v := .pointer (some ⟨g, p + j * 3 + 2, none⟩)) rfl (by kernel_rfl) (by kernel_rfl) (by kernel_rfl) (fun _ _ _ h => h) (Or.inl ⟨by rfl, fun z hz => ?_⟩) hS0 ?_
        · obtain ⟨z1, z2, z3, z4⟩ := hz
          go_simp
        try simp only [List.getElem_toArray, List.getElem_cons_zero, List.getElem_cons_succ, Act.put, List.setIfInBounds_toArray, List.set_cons_zero, List.set_cons_succ]
        refine wpAnyH_take (i := 5) (v := .slice xd o.length xcc) rfl (by kernel_rfl) (by kernel_rfl) (by kernel_rfl) (fun _ _ _ h => h) (Or.inl ⟨by rfl, fun z hz => ?_⟩) hS0 ?_
        · obtain ⟨z1, z2, z3, z4⟩ := hz
          go_simp
        try simp only [List.getElem_toArray, List.getElem_cons_zero, List.getElem_cons_succ, Act.put, List.setIfInBounds_toArray, List.set_cons_zero, List.set_cons_succ]
        refine wpAnyH_ready (rs := [6]) (by kernel_rfl) (by simp) ?_
        refine AllReadyH.cons rfl (fun K hK => ?_) AllReadyH.nil
        go_simp
        refine (impl_lookupStack _ _ l o _ HU5.out HX5.out HDL.out.small HE5.out).mono ?_
        rintro e v3 ⟨rfl, hb⟩
        obtain ⟨t, hl1, hl2⟩ := HLJ.out
        rw [hl1]
        have HB6 := Lib.hid (HB5.out.trans (hb.mono HB5.out.size))
        have HS6 := Lib.hid (HSH.out.below hb)
        refine hK.out _ _ ⟨(hb.cell (p := ⟨w1.heap.size, 0, none⟩) hS0.2.2.1).trans hS0.1, (hb.cell (p := ⟨g, p + j * 3 + 2, none⟩) hS0.2.2.2).trans hS0.2.1, Nat.lt_of_lt_of_le hS0.2.2.1 hb.size, Nat.lt_of_lt_of_le hS0.2.2.2 hb.size⟩ (fun hS1 => ?_)
        clear hK K hb hl1
        try simp only [List.getElem_toArray, List.getElem_cons_zero, List.getElem_cons_succ, Act.put, List.setIfInBounds_toArray, List.set_cons_zero, List.set_cons_succ]
        refine wpAnyH_take (i := 7) (v := .tuple #[.string (S t), .int .i64 b, .bool true]) rfl (by kernel_rfl) (by kernel_rfl) (by kernel_rfl) (fun _ _ _ h => h) (Or.inl ⟨by rfl, fun z hz => ?_⟩) hS1 ?_
        · obtain ⟨z1, z2, z3, z4⟩ := hz
          go_simp
        try simp only [List.getElem_toArray, List.getElem_cons_zero, List.getElem_cons_succ, Act.put, List.setIfInBounds_toArray, List.set_cons_zero, List.set_cons_succ]
        refine wpAnyH_take (i := 8) (v := .string (S t)) rfl (by kernel_rfl) (by kernel_rfl) (by kernel_rfl) (fun _ _ _ h => h) (Or.inl ⟨by rfl, fun z hz => ?_⟩) hS1 ?_
        · obtain ⟨z1, z2, z3, z4⟩ := hz
          go_simp
        try simp only [List.getElem_toArray, List.getElem_cons_zero, List.getElem_cons_succ, Act.put, List.setIfInBounds_toArray, List.set_cons_zero, List.set_cons_succ]
        refine wpAnyH_take (i := 9) (v := .int .i64 b) rfl (by kernel_rfl) (by kernel_rfl) (by kernel_rfl) (fun _ _ _ h => h) (Or.inl ⟨by rfl, fun z hz => ?_⟩) hS1 ?_
        · obtain ⟨z1, z2, z3, z4⟩ := hz
          go_simp
        try simp only [List.getElem_toArray, List.getElem_cons_zero, List.getElem_cons_succ, Act.put, List.setIfInBounds_toArray, List.set_cons_zero, List.set_cons_succ]
        refine wpAnyH_take (i := 10) (v := .bool true) rfl (by kernel_rfl) (by kernel_rfl) (by kernel_rfl) (fun _ _ _ h => h) (Or.inl ⟨by rfl, fun z hz => ?_⟩) hS1 ?_
        · obtain ⟨z1, z2, z3, z4⟩ := hz
          go_simp
        try simp only [List.getElem_toArray, List.getElem_cons_zero, List.getElem_cons_succ, Act.put, List.setIfInBounds_toArray, List.set_cons_zero, List.set_cons_succ]
        refine wpAnyH_take (i := 11) (v := .string (S t)) rfl (by kernel_rfl) (by kernel_rfl) (by kernel_rfl) (fun _ _ _ h => h) (Or.inl ⟨by rfl, fun z hz => ?_⟩) hS1 ?_
        · obtain ⟨z1, z2, z3, z4⟩ := hz
          go_simp
        try simp only [List.getElem_toArray, List.getElem_cons_zero, List.getElem_cons_succ, Act.put, List.setIfInBounds_toArray, List.set_cons_zero, List.set_cons_succ]
        refine wpAnyH_take (i := 12) (v := .int .i64 b) rfl (by kernel_rfl) (by kernel_rfl) (by kernel_rfl) (fun _ _ _ h => h) (Or.inl ⟨by rfl, fun z hz => ?_⟩) hS1 ?_
        · obtain ⟨z1, z2, z3, z4⟩ := hz
          go_simp
        try simp only [List.getElem_toArray, List.getElem_cons_zero, List.getElem_cons_succ, Act.put, List.setIfInBounds_toArray, List.set_cons_zero, List.set_cons_succ]
        refine wpAnyH_take (i := 13) (v := .bool true) rfl (by kernel_rfl) (by kernel_rfl) (by kernel_rfl) (fun _ _ _ h => h) (Or.inl ⟨by rfl, fun z hz => ?_⟩) hS1 ?_
        · obtain ⟨z1, z2, z3, z4⟩ := hz
          go_simp
        try simp only [List.getElem_toArray, List.getElem_cons_zero, List.getElem_cons_succ, Act.put, List.setIfInBounds_toArray, List.set_cons_zero, List.set_cons_succ]
        refine wpAnyH_done (by kernel_rfl) ?_ _
        clear hS0 hS1
        obtain ⟨c0, _⟩ := HS6.out
        go_wp2
        go_roundw
        case rel => exact ⟨j + 1, by omega, by go_num, HB6.out⟩
        case measure => simp [intOf]; omega
      · have HC5 := Lib.hid (HCD.out.below (HB4.out.trans (hb.mono HB4.out.size)))
        have HE5 := Lib.hid (HE4.out.below hb HE4.out.size); have HB5 := Lib.hid (HB4.out.trans (hb.mono HB4.out.size))
        clear hb
        go_wp2_with fail
        refine (rCut _ 1 _ HC5.out (.inl rfl)).mono ?_
        rintro e w5 ⟨x, rfl, hc5, hb⟩
        have HC6 := Lib.hid hc5; have HB6 := Lib.hid (HB5.out.trans (hb.mono HB5.out.size)); have HE6 := Lib.hid (HE5.out.below hb HE5.out.size)
        clear hc5 hb HC5 HB5 HE5
        go_wp2_with fail
        refine (drawFlatten _ _ HC6.out).mono ?_
        rintro e w6 ⟨l2, u2, rfl, hdl2, hu2, hb⟩
        have HDL2 := Lib.hid hdl2
        have hba : Below w6.heap.size w6 (w6.alloc (.cells #[u2] 68)) := (Below.refl _ _).alloc (Nat.le_refl _) _
        have hb2 := hb.trans (hba.mono hb.size)
        have HB7 := Lib.hid (HB6.out.trans (hb2.mono HB6.out.size)); have HE7 := Lib.hid (HE6.out.below hb2 HE6.out.size)
        have HU7 := Lib.hid (hu2.now.below hba); have HT7 := Lib.hid (DBx.new u2 68 w6)
        have hu2n := hu2.now
        clear hb hba hb2 HB6 HE6 HC6 hdl2 hu2
        obtain ⟨u2a, u2c, rfl, hl245, _⟩ := hu2n
        go_wp2_with fail
        refine (impl_flatten _ l2 _ HU7.out HDL2.out.small HE7.out).mono ?_
        rintro e w7 ⟨f, rfl, hf, hb⟩
        have HLK2 := Lib.hid (fun e (he : e ∈ P.kept (P.flatOk l2) (P.flatS l2)) => P.kept_look he)
        obtain ⟨es, hes⟩ : ∃ es, P.kept (P.flatOk l2) (P.flatS l2) = es := ⟨_, rfl⟩
        obtain ⟨ok, hok⟩ : ∃ ok, P.flatOk l2 = ok := ⟨_, rfl⟩
        rw [hes] at hf HLK2
        rw [hok] at hes ⊢
        have HES := Lib.hid hes; have HOK := Lib.hid hok
        clear hes hok
        have hba : Below w7.heap.size w7 (w7.alloc (.cells #[f] 26)) := (Below.refl _ _).alloc (Nat.le_refl _) _
        have hb2 := hb.trans (hba.mono hb.size)
        have HB8 := Lib.hid (HB7.out.trans (hb2.mono HB7.out.size)); have HE8 := Lib.hid (HE7.out.below hb2 HE7.out.size)
        have HU8 := Lib.hid (HU7.out.below hb2); have HT8 := Lib.hid (HT7.out.below hb2)
        have HF8 := Lib.hid ((Ents.read hf).below hba); have HX8 := Lib.hid (DBx.new f 26 w7)
        obtain ⟨fa, fc, rfl, hf45, _⟩ := Ents.read hf
        clear hb hba hb2 HB7 HE7 HU7 HT7 hf
        obtain ⟨t0, _⟩ := HT8.out
        go_wp2_with fail
        refine (spec_flatten _ l2 _ HU8.out HDL2.out.small).mono ?_
        rintro e w8 ⟨f', rfl, hf, hb⟩
        rw [HOK.out, HES.out] at hf
        rw [HOK.out]
        have hba : Below w8.heap.size w8 (w8.alloc (.cells #[f'] 26)) := (Below.refl _ _).alloc (Nat.le_refl _) _
        have hb2 := hb.trans (hba.mono hb.size)
        have HB9 := Lib.hid (HB8.out.trans (hb2.mono HB8.out.size)); have HE9 := Lib.hid (HE8.out.below hb2 HE8.out.size)
        have HU9 := Lib.hid (HU8.out.below hb2); have HT9 := Lib.hid (HT8.out.below hb2)
        have HF9 := Lib.hid (HF8.out.below hb2); have HX9 := Lib.hid (HX8.out.below hb2)
        have HG9 := Lib.hid ((Ents.read hf).below hba); have HY9 := Lib.hid (DBx.new f' 26 w8)
        obtain ⟨ga, gc, rfl, _, _⟩ := Ents.read hf
        clear hb hba hb2 HB8 HE8 HU8 HT8 HF8 HX8 hf t0
        obtain ⟨t0, _⟩ := HX9.out
        obtain ⟨t1, _⟩ := HY9.out
        go_wp2_with fail
        refine (rDict _ _ es _ HF9.out HG9.out).mono ?_
        rintro e w9 ⟨rfl, hb⟩
        have HBA := Lib.hid (HB9.out.trans (hb.mono HB9.out.size)); have HEA := Lib.hid (HE9.out.below hb HE9.out.size)
        have HUA := Lib.hid (HU9.out.below hb); have HTA := Lib.hid (HT9.out.below hb)
        have HFA := Lib.hid (HF9.out.below hb); have HXA := Lib.hid (HX9.out.below hb)
        clear hb HB9 HE9 HU9 HT9 HF9 HX9 HG9 HY9 t0 t1
        go_wp2_with fail
        go_loopw [17] (fun i wr => ∃ j : Nat, j ≤ es.length ∧ i = .int .i64 j ∧ Below w9.heap.size w9 wr) (fun i _ => es.length - (intOf i).toNat)
        case atStart => exact ⟨0, Nat.zero_le _, rfl, Below.refl _ _⟩
        case round =>
          obtain ⟨j, hj, rfl, hb⟩ := hrel
          have HBR := Lib.hid hb
          by_cases hlt : j < es.length
          · obtain ⟨g, p, hga, hgl, x, c0, c1, hx⟩ := (HFA.out.below hb).at j hlt
            subst hga
            have hdd := (Below.refl wr.heap.size wr).drew
            have hbd := hb.trans (hdd.mono hb.size)
            have HXR := Lib.hid (hx.below hdd)
            have HUR := Lib.hid (HUA.out.below hbd); have HER := Lib.hid (HEA.out.below hbd HEA.out.size); have hbx := HXA.out.below hbd; have htx := HTA.out.below hbd
            have HBD := Lib.hid hbd
            have hlk := HLK2.out es[j] (List.getElem_mem hlt)
            generalize es[j] = en at *
            obtain ⟨eo, et⟩ := en
            simp only at HXR hlk c0 c1
            have HS := Lib.hid (show wr.drew.cell? ⟨w6.heap.size, 0, none⟩ = some (.slice u2a l2.length u2c) ∧ wr.drew.cell? ⟨w7.heap.size, 0, none⟩ = some (.slice (some ⟨g, p, none⟩) es.length fc) ∧ wr.drew.cell? ⟨g, p + j * 2, none⟩ = some x ∧ wr.drew.cell? ⟨g, p + j * 2 + 1, none⟩ = some (.string (S et)) ∧ w6.heap.size < wr.drew.heap.size ∧ w7.heap.size < wr.drew.heap.size ∧ g < wr.drew.heap.size from
              ⟨htx.1, hbx.1, (hdd.cell (p := ⟨g, p + j * 2, none⟩) hgl).trans c0, (hdd.cell (p := ⟨g, p + j * 2 + 1, none⟩) hgl).trans c1, htx.2.2, hbx.2.2, hgl⟩)
            obtain ⟨xd, xcc, rfl, _, _⟩ := hx
            have HL := Lib.hid hlk
            obtain ⟨cc, _⟩ := HXA.out.below hb
            clear hb hbd hdd hbx htx hlk c0 c1 hgl
            have i1 : (j : Int) < (es.length : Int) := by omega
            go_upto_region 24 with fail
            refine wp_region_held_drew (S := fun v => v.cell? ⟨w6.heap.size, 0, none⟩ = some (.slice u2a l2.length u2c) ∧ v.cell? ⟨w7.heap.size, 0, none⟩ = some (.slice (some ⟨g, p, none⟩) es.length fc) ∧ v.cell? ⟨g, p + j * 2, none⟩ = some (.slice xd eo.length xcc) ∧ v.cell? ⟨g, p + j * 2 + 1, none⟩ = some (.string (S et)) ∧ w6.heap.size < v.heap.size ∧ w7.heap.size < v.heap.size ∧ g < v.heap.size) (by kernel_rfl) HS.out (fun hS0 => ?_)
            generalize wr.drew = v0 at *
            refine wpAnyH_take (i := 0) (v := .agg #[.slice u2a l2.length u2c]) rfl (by kernel_rfl) (by kernel_rfl) (by kernel_rfl) (fun _ _ _ h => h) (Or.inl ⟨by rfl, fun z hz => ?_⟩) hS0 ?_
            · obtain ⟨z1, z2, z3, z4, z5, z6, z7⟩ := hz
              go_simp
            try simp only [List.getElem_toArray, List.getElem_cons_zero, Act.put, List.setIfInBounds_toArray, List.set_cons_zero, List.set_cons_succ]
            refine wpAnyH_take (i := 1) (v := .pointer (some ⟨w7.heap.size, 0, none⟩)) rfl (by kernel_rfl) (by kernel_rfl) (by kernel_rfl) (fun _ _ _ h => h) (Or.inl ⟨by rfl, fun z hz => ?_⟩) hS0 ?_
            · obtain ⟨z1, z2, z3, z4, z5, z6, z7⟩ := hz
              go_simp
            try simp only [List.getElem_toArray, List.getElem_cons_zero, List.getElem_cons_succ, Act.put, List.setIfInBounds_toArray, List.set_cons_zero, List.set_cons_succ]
            refine wpAnyH_take (i := 2) (v := .slice (some ⟨g, p, none⟩) es.length fc) rfl (by kernel_rfl) (by kernel_rfl) (by kernel_rfl) (fun _ _ _ h => h) (Or.inl ⟨by rfl, fun z hz => ?_⟩) hS0 ?_
            · obtain ⟨z1, z2, z3, z4, z5, z6, z7⟩ := hz
              go_simp
            try simp only [List.getElem_toArray, List.getElem_cons_zero, List.getElem_cons_succ, Act.put, List.setIfInBounds_toArray, List.set_cons_zero, List.set_cons_succ]
            refine wpAnyH_take (i := 3) (v := .int .i64 j) rfl (by kernel_rfl) (by kernel_rfl) (by kernel_rfl) (fun _ _ _ h => h) (Or.inl ⟨by rfl, fun z hz => ?_⟩) hS0 ?_
            · obtain ⟨z1, z2, z3, z4, z5, z6, z7⟩ := hz
              go_simp
            try simp only [List.getElem_toArray, List.getElem_cons_zero, List.getElem_cons_succ, Act.put, List.setIfInBounds_toArray, List.set_cons_zero, List.set_cons_succ]
            refine wpAnyH_take (i := 4) (v := .pointer (some ⟨g, p + j * 2, none⟩)) rfl (by kernel_rfl) (by kernel_rfl) (by kernel_rfl) (fun _ _ _ h => h) (Or.inl ⟨by rfl, fun z hz => ?_⟩) hS0 ?_
            · obtain ⟨z1, z2, z3, z4, z5, z6, z7⟩ := hz
              go_simp
            try simp only [List.getElem_toArray, List.getElem_cons_zero, List.getElem_cons_succ, Act.put, List.setIfInBounds_toArray, List.set_cons_zero, List.set_cons_succ]
            refine wpAnyH_take (i := 5) (v := .pointer (some ⟨g, p + j * 2, none⟩)) rfl (by kernel_rfl) (by kernel_rfl) (by kernel_rfl) (fun _ _ _ h => h) (Or.inl ⟨by rfl, fun z hz => ?_⟩) hS0 ?_
            · obtain ⟨z1, z2, z3, z4, z5, z6, z7⟩ := hz
              go_simp
            try simp only [List.getElem_toArray, List.getElem_cons_zero, List.getElem_cons_succ, Act.put, List.setIfInBounds_toArray, List.set_cons_zero, List.set_cons_succ]
            refine wpAnyH_take (i := 6) (v := .slice xd eo.length xcc) rfl (by kernel_rfl) (by kernel_rfl) (by kernel_rfl) (fun _ _ _ h => h) (Or.inl ⟨by rfl, fun z hz => ?_⟩) hS0 ?_
            · obtain ⟨z1, z2, z3, z4, z5, z6, z7⟩ := hz
              go_simp
            try simp only [List.getElem_toArray, List.getElem_cons_zero, List.getElem_cons_succ, Act.put, List.setIfInBounds_toArray, List.set_cons_zero, List.set_cons_succ]
            refine wpAnyH_ready (rs := [7]) (by kernel_rfl) (by simp) ?_
            refine AllReadyH.cons rfl (fun K hK => ?_) AllReadyH.nil
            go_simp
            refine (impl_lookupStack _ _ l2 eo _ HUR.out HXR.out HDL2.out.small HER.out).mono ?_
            rintro e v1 ⟨rfl, hb⟩
            rw [HL.out]
            have HB5 := Lib.hid (HBD.out.trans (hb.mono HBD.out.size))
            obtain ⟨y1, y2, y3, y4, y5, y6, y7⟩ := hS0
            have hSv : v1.cell? ⟨w6.heap.size, 0, none⟩ = some (.slice u2a l2.length u2c) ∧ v1.cell? ⟨w7.heap.size, 0, none⟩ = some (.slice (some ⟨g, p, none⟩) es.length fc) ∧ v1.cell? ⟨g, p + j * 2, none⟩ = some (.slice xd eo.length xcc) ∧ v1.cell? ⟨g, p + j * 2 + 1, none⟩ = some (.string (S et)) ∧ w6.heap.size < v1.heap.size ∧ w7.heap.size < v1.heap.size ∧ g < v1.heap.size :=
              ⟨(hb.cell (p := ⟨w6.heap.size, 0, none⟩) y5).trans y1, (hb.cell (p := ⟨w7.heap.size, 0, none⟩) y6).trans y2, (hb.cell (p := ⟨g, p + j * 2, none⟩) y7).trans y3, (hb.cell (p := ⟨g, p + j * 2 + 1, none⟩) y7).trans y4, Nat.lt_of_lt_of_le y5 hb.size, Nat.lt_of_lt_of_le y6 hb.size, Nat.lt_of_lt_of_le y7 hb.size⟩
            refine hK.out _ _ hSv (fun hS1 => ?_)
            have HSV := Lib.hid hSv
            clear hK K hb hSv y1 y2 y3 y4 y5 y6 y7
            try simp only [List.getElem_toArray, List.getElem_cons_zero, List.getElem_cons_succ, Act.put, List.setIfInBounds_toArray, List.set_cons_zero, List.set_cons_succ]
            refine wpAnyH_take (i := 8) (v := .tuple #[.string (S et), .int .i64 (P.layIdx eo l2), .bool true]) rfl (by kernel_rfl) (by kernel_rfl) (by kernel_rfl) (fun _ _ _ h => h) (Or.inl ⟨by rfl, fun z hz => ?_⟩) hS1 ?_
            · obtain ⟨z1, z2, z3, z4, z5, z6, z7⟩ := hz
              go_simp
            try simp only [List.getElem_toArray, List.getElem_cons_zero, List.getElem_cons_succ, Act.put, List.setIfInBounds_toArray, List.set_cons_zero, List.set_cons_succ]
            refine wpAnyH_take (i := 9) (v := .string (S et)) rfl (by kernel_rfl) (by kernel_rfl) (by kernel_rfl) (fun _ _ _ h => h) (Or.inl ⟨by rfl, fun z hz => ?_⟩) hS1 ?_
            · obtain ⟨z1, z2, z3, z4, z5, z6, z7⟩ := hz
              go_simp
            try simp only [List.getElem_toArray, List.getElem_cons_zero, List.getElem_cons_succ, Act.put, List.setIfInBounds_toArray, List.set_cons_zero, List.set_cons_succ]
            refine wpAnyH_take (i := 10) (v := .int .i64 (P.layIdx eo l2)) rfl (by kernel_rfl) (by kernel_rfl) (by kernel_rfl) (fun _ _ _ h => h) (Or.inl ⟨by rfl, fun z hz => ?_⟩) hS1 ?_
            · obtain ⟨z1, z2, z3, z4, z5, z6, z7⟩ := hz
              go_simp
            try simp only [List.getElem_toArray, List.getElem_cons_zero, List.getElem_cons_succ, Act.put, List.setIfInBounds_toArray, List.set_cons_zero, List.set_cons_succ]
            refine wpAnyH_take (i := 11) (v := .bool true) rfl (by kernel_rfl) (by kernel_rfl) (by kernel_rfl) (fun _ _ _ h => h) (Or.inl ⟨by rfl, fun z hz => ?_⟩) hS1 ?_
            · obtain ⟨z1, z2, z3, z4, z5, z6, z7⟩ := hz
              go_simp
            try simp only [List.getElem_toArray, List.getElem_cons_zero, List.getElem_cons_succ, Act.put, List.setIfInBounds_toArray, List.set_cons_zero, List.set_cons_succ]
            refine wpAnyH_take (i := 12) (v := .string (S et)) rfl (by kernel_rfl) (by kernel_rfl) (by kernel_rfl) (fun _ _ _ h => h) (Or.inl ⟨by rfl, fun z hz => ?_⟩) hS1 ?_
            · obtain ⟨z1, z2, z3, z4, z5, z6, z7⟩ := hz
              go_simp
            try simp only [List.getElem_toArray, List.getElem_cons_zero, List.getElem_cons_succ, Act.put, List.setIfInBounds_toArray, List.set_cons_zero, List.set_cons_succ]
            refine wpAnyH_take (i := 13) (v := .int .i64 (P.layIdx eo l2)) rfl (by kernel_rfl) (by kernel_rfl) (by kernel_rfl) (fun _ _ _ h => h) (Or.inl ⟨by rfl, fun z hz => ?_⟩) hS1 ?_
            · obtain ⟨z1, z2, z3, z4, z5, z6, z7⟩ := hz
              go_simp
            try simp only [List.getElem_toArray, List.getElem_cons_zero, List.getElem_cons_succ, Act.put, List.setIfInBounds_toArray, List.set_cons_zero, List.set_cons_succ]
            refine wpAnyH_take (i := 14) (v := .bool true) rfl (by kernel_rfl) (by kernel_rfl) (by kernel_rfl) (fun _ _ _ h => h) (Or.inl ⟨by rfl, fun z hz => ?_⟩) hS1 ?_
            · obtain ⟨z1, z2, z3, z4, z5, z6, z7⟩ := hz
              go_simp
            try simp only [List.getElem_toArray, List.getElem_cons_zero, List.getElem_cons_succ, Act.put, List.setIfInBounds_toArray, List.set_cons_zero, List.set_cons_succ]
            refine wpAnyH_done (by kernel_rfl) ?_ _
            clear hS1
            obtain ⟨_, c1, _, c2, _⟩ := HSV.out
            go_wp2
            go_roundw
            case rel => exact ⟨j + 1, by omega, by go_num, HB5.out⟩
            case measure => simp [intOf]; omega
          · have hbx := HXA.out.below hb
            obtain ⟨c0, _⟩ := hbx
            clear hb
            go_wp2
            go_ret
            exact ⟨rfl, HBA.out.trans (HBR.out.mono HBA.out.size)⟩
  · have hn2 := of_decide_eq_true hbig
    go_wp2
    go_ret
    exact ⟨rfl, Below.refl _ _⟩
end Go.Proofs.YtojcfpjoikmgcaaGreatDoor
