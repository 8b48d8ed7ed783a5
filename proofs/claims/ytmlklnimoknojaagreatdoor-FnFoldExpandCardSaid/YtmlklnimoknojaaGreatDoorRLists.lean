/- Walks: an outline looked up with folds (program), with the guards. -/
import Derived.Deep.DeepCutAuto
import Derived.Deep.RegionHeld
import Derived.Test.YtmlklnimoknojaaGreatDoorFold4
import Derived.BigQuiet
import Derived.IntWalk
import Derived.Test.YtmlklnimoknojaaGreatDoorOuts
namespace Go.Proofs.YtmlklnimoknojaaGreatDoor
open Go Go.RowKit
set_option maxHeartbeats 2000000
set_option maxRecDepth 100000
theorem impl_lookupFoldedD (dv fv ov : Value) (d : P.Dic) (l : P.Folds) (o : List Int) (w : World) (hd : EntR w dv d) (hf : FldR w fv l) (ho : IntR w ov o) (h29 : ∀ e ∈ d, e.2.length ≤ 2 ^ 29) (hft : ∀ f ∈ l, f.2.length ≤ 2 ^ 30) (hE : Env w) :
    Calls Tryz.prog 34 #[.agg #[dv], fv, ov] w (LkPost (P.lookFD d l o) w) := by
  have hb0 : Below w.heap.size w (w.alloc (.cells #[dv] 26)) := (Below.refl _ _).alloc (Nat.le_refl _) _
  have HD := Lib.hid hd; have HFR := Lib.hid hf; have HO := Lib.hid ho; have HB0 := Lib.hid hb0; have HE := Lib.hid hE
  have HX := Lib.hid (DBx.new dv 26 w)
  have H29 := Lib.hid h29; have H30 := Lib.hid (show ∀ e ∈ d, e.2.length ≤ 2 ^ 30 from fun e he => Nat.le_trans (h29 e he) (by decide)); have HFT := Lib.hid hft
  have HEX := Lib.hid (show P.lookFD d l o = if P.dic d && (P.foldsOk l && P.outline o) then P.lookF d l o else ([], 0, false) from rfl)
  clear hb0 h29 hft hE
  obtain ⟨ad, cap, rfl, _, _⟩ := hd
  obtain ⟨oa, oc, rfl, _, _⟩ := ho
  obtain ⟨fa, fc, rfl, ⟨hl45, _⟩, _, _⟩ := hf
  go_enter Tryz.func34, Tryz.ntmps34
  go_wp2_with fail
  refine (isValidDictionary _ d _ (HD.out.below HB0.out) H30.out (HE.out.below HB0.out HE.out.size)).mono ?_
  rintro e w1 ⟨rfl, hb⟩
  have HB1 := Lib.hid (HB0.out.trans (hb.mono HB0.out.size)); have HX1 := Lib.hid (HX.out.below hb)
  clear hb HB0 HX
  obtain ⟨q, hq⟩ : ∃ q, P.dic d = q := ⟨_, rfl⟩
  have HQ := Lib.hid hq
  rw [hq]
  clear hq
  cases q
  · have HNO := Lib.hid (show P.lookFD d l o = ([], 0, false) by rw [HEX.out, HQ.out]; rfl)
    clear HEX
    go_wp2
    go_ret3
    exact ⟨by rw [HNO.out]; rfl, HB1.out⟩
  · go_wp2_with fail
    refine (isValidFolds _ l _ (HFR.out.below HB1.out) HFT.out).mono ?_
    rintro e w2 ⟨rfl, hb⟩
    have HB2 := Lib.hid (HB1.out.trans (hb.mono HB1.out.size)); have HX2 := Lib.hid (HX1.out.below hb)
    clear hb HB1 HX1
    obtain ⟨q, hq⟩ : ∃ q, P.foldsOk l = q := ⟨_, rfl⟩
    have HQF := Lib.hid hq
    rw [hq]
    clear hq
    cases q
    · have HNO := Lib.hid (show P.lookFD d l o = ([], 0, false) by rw [HEX.out, HQ.out, HQF.out]; rfl)
      clear HEX
      go_wp2
      go_ret3
      exact ⟨by rw [HNO.out]; rfl, HB2.out⟩
    · go_wp2_with fail
      refine (isValidOutline _ o _ (HO.out.below HB2.out)).mono ?_
      rintro e w3 ⟨rfl, hb⟩
      have HB3 := Lib.hid (HB2.out.trans (hb.mono HB2.out.size)); have HX3 := Lib.hid (HX2.out.below hb)
      clear hb HB2 HX2
      obtain ⟨q, hq⟩ : ∃ q, P.outline o = q := ⟨_, rfl⟩
      have HQO := Lib.hid hq
      rw [hq]
      clear hq
      cases q
      · have HNO := Lib.hid (show P.lookFD d l o = ([], 0, false) by rw [HEX.out, HQ.out, HQF.out, HQO.out]; rfl)
        clear HEX
        go_wp2
        go_ret3
        exact ⟨by rw [HNO.out]; rfl, HB3.out⟩
      · have HNO := Lib.hid (show P.lookFD d l o = P.lookF d l o by rw [HEX.out, HQ.out, HQF.out, HQO.out]; rfl)
        clear HEX
        obtain ⟨k0, _⟩ := HX3.out
        go_wp2_with fail
        refine (lookupFolded _ _ _ d l o _ (HD.out.below HB3.out) (HFR.out.below HB3.out) (HO.out.below HB3.out) H29.out HQO.out HQF.out (HE.out.below HB3.out HE.out.size)).mono ?_
        rintro e w4 ⟨rfl, hb⟩
        have HB4 := Lib.hid (HB3.out.trans (hb.mono HB3.out.size))
        clear hb k0
        go_wp2
        go_ret3
        exact ⟨by rw [HNO.out]; rfl, HB4.out⟩
end Go.Proofs.YtmlklnimoknojaaGreatDoor

namespace Go.Proofs.YtmlklnimoknojaaGreatDoor
open Go Go.RowKit
set_option maxHeartbeats 2000000
set_option maxRecDepth 100000
theorem rInts (u v : Value) (l : List Int) (w : World) (hu : IntR w u l) (hv : IntR w v l) :
    Calls Tryz.prog 87 #[u, v] w fun e w' => e = .returned (.bool true) ∧ Below w.heap.size w w' := by
  have HU := Lib.hid hu; have HV := Lib.hid hv
  obtain ⟨ad, cap, rfl, hla, _⟩ := hu
  obtain ⟨bd, dap, rfl, _, _⟩ := hv
  go_enter Tryz.func87, Tryz.ntmps87
  go_wp2
  go_loopw [5] (fun i wr => ∃ j : Nat, j ≤ l.length ∧ i = .int .i64 j ∧ Below w.heap.size w wr) (fun i _ => l.length - (intOf i).toNat)
  case atStart => exact ⟨0, Nat.zero_le _, rfl, Below.refl _ _⟩
  case round =>
    obtain ⟨j, hj, rfl, hb⟩ := hrel
    have HB := Lib.hid hb
    by_cases hlt : j < l.length
    · obtain ⟨g, o, hga, hgl, c0⟩ := (HU.out.below hb).at j hlt
      obtain ⟨g', o', hgb, hgl', d0⟩ := (HV.out.below hb).at j hlt
      subst hga hgb
      generalize l[j] = x at *
      clear hb
      have i1 : (j : Int) < (l.length : Int) := by omega
      go_wp2_with fail
      go_quiet (fail)
      go_wp2
      go_roundw
      case rel => exact ⟨j + 1, by omega, by go_num, below_drewN HB.out _⟩
      case measure => simp [intOf]; omega
    · clear hb
      go_wp2
      go_ret
      exact ⟨rfl, HB.out⟩
theorem rLists (u v : Value) (l : P.Outs) (w : World) (hu : ListR w u l) (hv : ListR w v l) :
    Calls Tryz.prog 33 #[u, v] w fun e w' => e = .returned (.bool true) ∧ Below w.heap.size w w' := by
  have HU := Lib.hid hu; have HV := Lib.hid hv
  obtain ⟨ad, cap, rfl, hla, _⟩ := hu
  obtain ⟨bd, dap, rfl, _, _⟩ := hv
  go_enter Tryz.func33, Tryz.ntmps33
  go_wp2
  go_loopw [5] (fun i wr => ∃ j : Nat, j ≤ l.length ∧ i = .int .i64 j ∧ Below w.heap.size w wr) (fun i _ => l.length - (intOf i).toNat)
  case atStart => exact ⟨0, Nat.zero_le _, rfl, Below.refl _ _⟩
  case round =>
    obtain ⟨j, hj, rfl, hb⟩ := hrel
    have HB := Lib.hid hb
    by_cases hlt : j < l.length
    · obtain ⟨c, p, hga, hgl, x, c0, hx⟩ := (HU.out.below hb).at j hlt
      obtain ⟨g, q, hgb, hgl', y, d0, hy⟩ := (HV.out.below hb).at j hlt
      subst hga hgb
      have HS := Lib.hid (show KOO w c (p + j) x g (q + j) y l[j] wr.drew from KOO.step ⟨c0, d0, hgl, hgl', hx, hy, hb.size, hb⟩ (Below.refl _ _).drew)
      obtain ⟨xd, xc, rfl, _, _⟩ := hx
      obtain ⟨yd, yc, rfl, _, _⟩ := hy
      generalize l[j] = eo at *
      clear hb
      have i1 : (j : Int) < (l.length : Int) := by omega
      go_upto_region 6 with fail
      refine wp_region_held_drew (S := KOO w c (p + j) (.slice xd eo.length xc) g (q + j) (.slice yd eo.length yc) eo) (by kernel_rfl) HS.out (fun hS0 => ?_)
      refine wpAnyH_take (i := 0) (v := .slice (some ⟨c, p, none⟩) l.length cap) rfl (by kernel_rfl) (by kernel_rfl) (by kernel_rfl) (fun _ _ _ h => h) (Or.inl ⟨by rfl, fun z hz => ?_⟩) hS0 ?_
      · obtain ⟨z1, z2, z3, z4⟩ := hz
        go_simp
      try simp only [qA, qB, Act.put, qD, qE, qF]
      refine wpAnyH_take (i := 1) (v := .int .i64 j) rfl (by kernel_rfl) (by kernel_rfl) (by kernel_rfl) (fun _ _ _ h => h) (Or.inl ⟨by rfl, fun z hz => ?_⟩) hS0 ?_
      · obtain ⟨z1, z2, z3, z4⟩ := hz
        go_simp
      try simp only [qA, qB, qC, Act.put, qD, qE, qF]
      refine wpAnyH_take (i := 2) (v := .pointer (some ⟨c, p + j, none⟩)) rfl (by kernel_rfl) (by kernel_rfl) (by kernel_rfl) (fun _ _ _ h => h) (Or.inl ⟨by rfl, fun z hz => ?_⟩) hS0 ?_
      · obtain ⟨z1, z2, z3, z4⟩ := hz
        go_simp
      try simp only [qA, qB, qC, Act.put, qD, qE, qF]
      refine wpAnyH_take (i := 3) (v := .slice xd eo.length xc) rfl (by kernel_rfl) (by kernel_rfl) (by kernel_rfl) (fun _ _ _ h => h) (Or.inl ⟨by rfl, fun z hz => ?_⟩) hS0 ?_
      · obtain ⟨z1, z2, z3, z4⟩ := hz
        go_simp
      try simp only [qA, qB, qC, Act.put, qD, qE, qF]
      refine wpAnyH_take (i := 4) (v := .slice (some ⟨g, q, none⟩) l.length dap) rfl (by kernel_rfl) (by kernel_rfl) (by kernel_rfl) (fun _ _ _ h => h) (Or.inl ⟨by rfl, fun z hz => ?_⟩) hS0 ?_
      · obtain ⟨z1, z2, z3, z4⟩ := hz
        go_simp
      try simp only [qA, qB, qC, Act.put, qD, qE, qF]
      refine wpAnyH_take (i := 5) (v := .int .i64 j) rfl (by kernel_rfl) (by kernel_rfl) (by kernel_rfl) (fun _ _ _ h => h) (Or.inl ⟨by rfl, fun z hz => ?_⟩) hS0 ?_
      · obtain ⟨z1, z2, z3, z4⟩ := hz
        go_simp
      try simp only [qA, qB, qC, Act.put, qD, qE, qF]
      refine wpAnyH_take (i := 6) (v := .pointer (some ⟨g, q + j, none⟩)) rfl (by kernel_rfl) (by kernel_rfl) (by kernel_rfl) (fun _ _ _ h => h) (Or.inl ⟨by rfl, fun z hz => ?_⟩) hS0 ?_
      · obtain ⟨z1, z2, z3, z4⟩ := hz
        go_simp
      try simp only [qA, qB, qC, Act.put, qD, qE, qF]
      refine wpAnyH_take (i := 7) (v := .slice yd eo.length yc) rfl (by kernel_rfl) (by kernel_rfl) (by kernel_rfl) (fun _ _ _ h => h) (Or.inl ⟨by rfl, fun z hz => ?_⟩) hS0 ?_
      · obtain ⟨z1, z2, z3, z4⟩ := hz
        go_simp
      try simp only [qA, qB, qC, Act.put, qD, qE, qF]
      refine wpAnyH_ready (rs := [8]) (by kernel_rfl) (by simp) ?_
      refine AllReadyH.cons rfl (fun K hK => ?_) AllReadyH.nil
      have HS1 := Lib.hid hS0
      have HX := Lib.hid hS0.2.2.2.2.1
      have HY := Lib.hid hS0.2.2.2.2.2.1
      go_simp
      refine (rInts _ _ eo _ HX.out HY.out).mono ?_
      rintro e v ⟨rfl, hb⟩
      refine hK.out _ _ (HS1.out.step hb) (fun hS1 => ?_)
      clear hK K hb
      try simp only [qA, qB, qC, Act.put, qD, qE, qF]
      refine wpAnyH_take (i := 9) (v := .bool false) rfl (by kernel_rfl) (by kernel_rfl) (by kernel_rfl) (fun _ _ _ h => h) (Or.inl ⟨by rfl, fun z hz => ?_⟩) hS1 ?_
      · obtain ⟨z1, z2, z3, z4⟩ := hz
        go_simp
      try simp only [qA, qB, qC, Act.put, qD, qE, qF]
      refine wpAnyH_done (by kernel_rfl) ?_ _
      have HB2 := Lib.hid (hS1.2.2.2.2.2.2.2)
      clear hS0 hS1 HS1
      go_wp2
      go_roundw
      case rel => exact ⟨j + 1, by omega, by go_num, HB2.out⟩
      case measure => simp [intOf]; omega
    · clear hb
      go_wp2
      go_ret
      exact ⟨rfl, HB.out⟩
end Go.Proofs.YtmlklnimoknojaaGreatDoor
