/- Walks: a press with its checks (program). -/
import Derived.Test.YtpkahblajgaemaaGreatDoorScrI4
import Derived.Test.YtpkahblajgaemaaGreatDoorValD
namespace Go.Proofs.YtpkahblajgaemaaGreatDoor
open Go Go.RowKit
set_option maxHeartbeats 2000000
set_option maxRecDepth 100000
theorem impl_press (dv sv : Value) (l : P.Dic) (st : List Int) (t : Str) (k : Int) (w : World) (hu : EntR w dv l) (hs : IntR w sv st) (hm : Small l) (hE : Env w) (hst : st.length ≤ 2 ^ 20) (ht : t.length ≤ 2 ^ 30) :
    Calls Tryz.prog 33 #[.agg #[dv], transV sv t, .int .i64 k] w (PressPost (P.press l (st, t) k) w) := by
  obtain ⟨W0, hW0⟩ : ∃ v, ((((w.alloc (.cells #[dv] 26)).alloc (.cells #[sv, .string (S t)] 32)).alloc (.cells #[.slice none 0 0, .string (S [])] 32)).alloc (.cells #[.int .i64 0, .string (S [])] 38)) = v := ⟨_, rfl⟩
  have hb0 : Below w.heap.size w W0 := by rw [← hW0]; exact ((((Below.refl w.heap.size w).alloc (Nat.le_refl _) _).alloc (by simp) _).alloc (by simp; omega) _).alloc (by simp; omega) _
  have hz0' : W0.heap.size = w.heap.size + 4 := by rw [← hW0]; simp
  have hx0 : PrBx w.heap.size sv t dv W0 := by
    subst hW0
    refine ⟨⟨by simp <;> omega, by go_simp⟩, ⟨by simp <;> omega, by go_simp, by go_simp, by go_simp, by go_simp⟩, ⟨by simp <;> omega, by go_simp, by go_simp, by go_simp, by go_simp⟩, ⟨by simp, by go_simp, by go_simp, by go_simp, by go_simp⟩⟩
  have HU := Lib.hid (hu.below hb0); have HST := Lib.hid (hs.below hb0); have HB0 := Lib.hid hb0; have HE := Lib.hid (hE.below hb0 hE.size)
  have HX := Lib.hid hx0; have HZ0 := Lib.hid hz0'
  clear hb0 hz0'
  obtain ⟨ad, cap, rfl, _, _⟩ := hu
  obtain ⟨sd, sc, rfl, _, _⟩ := hs
  unfold transV
  go_enter Tryz.func33, Tryz.ntmps33
  go_upto_region 1 with (fail)
  try rw [hW0]
  clear hW0
  obtain ⟨⟨_, k0⟩, ⟨k1, k2, k3, _⟩, _, _⟩ := hx0
  go_wp2_with fail
  refine (impl_isValidTranslator _ _ l st t _ HU.out HST.out hm HE.out).mono ?_
  rintro e w1 ⟨rfl, hb⟩
  have HB1 := Lib.hid hb; have HX1 := Lib.hid (HX.out.below hb); have HST1 := Lib.hid (HST.out.below hb); have HU1 := Lib.hid (HU.out.below hb); have HE1 := Lib.hid (HE.out.below hb HE.out.size)
  clear hb k0 k1 k2 k3
  obtain ⟨⟨_, k0⟩, ⟨_, k1, k2, _, _⟩, ⟨_, k3, k4, k7, k8⟩, ⟨_, k5, k6, k9, k10⟩⟩ := HX1.out
  have HP := Lib.hid (show P.press l (st, t) k = if P.trans l (st, t) && P.stroke k then P.pressP l (st, t) k else ((P.tr0, (0, [])), false) from rfl)
  generalize P.trans l (st, t) = q at *
  cases q
  · go_wp2
    refine bodyPost_ret (v := .tuple #[transV (.slice none 0 0) [], editV (0, []), .bool false]) (by simp [transV, editV, k3, k4, k5, k6, results, Tryz.results33, go_sem]) rfl ⟨.slice none 0 0, by rw [HP.out]; rfl, by rw [HP.out]; exact World.ownsRow_nil _ _ _ _, ?_⟩
    exact (((((HB0.out.trans (HB1.out.mono HB0.out.size)).setCell (by simp <;> omega) _).setCell (by simp <;> omega) _).setCell (by simp <;> omega) _).setCell (by simp <;> omega) _)
  · go_wp2_with fail
    refine (isValidStroke _ _).mono ?_
    rintro e w2 ⟨rfl, rfl⟩
    generalize P.stroke k = q at *
    cases q
    · go_wp2
      refine bodyPost_ret (v := .tuple #[transV (.slice none 0 0) [], editV (0, []), .bool false]) (by simp [transV, editV, k3, k4, k5, k6, results, Tryz.results33, go_sem]) rfl ⟨.slice none 0 0, by rw [HP.out]; rfl, by rw [HP.out]; exact World.ownsRow_nil _ _ _ _, ?_⟩
      exact (((((HB0.out.trans (HB1.out.mono HB0.out.size)).setCell (by simp <;> omega) _).setCell (by simp <;> omega) _).setCell (by simp <;> omega) _).setCell (by simp <;> omega) _)
    · go_wp2_with fail
      refine (press _ _ l st t k _ HU1.out HST1.out hm HE1.out hst ht).mono ?_
      rintro e w3 ⟨u, rfl, ho, hb⟩
      rw [Bool.and_self, if_pos rfl] at HP
      have HX3 := Lib.hid (HX1.out.below hb); have HO := Lib.hid ho; have HB3 := Lib.hid (HB0.out.trans ((HB1.out.trans (hb.mono HB1.out.size)).mono HB0.out.size))
      have hzz : w.heap.size + 4 ≤ w1.heap.size := by have h1 := HB1.out.size; have h2 := HZ0.out; omega
      generalize P.pressP l (st, t) k = r at *
      obtain ⟨⟨⟨nx, r1⟩, ed⟩, ok⟩ := r
      simp only at ho HO ⊢
      obtain ⟨va, vc, rfl⟩ := ownK_form ho
      clear ho hb k0 k1 k2 k3 k4 k5 k6 k7 k8 k9 k10
      obtain ⟨_, _, ⟨_, k3, k4, k7, k8⟩, ⟨_, k5, k6, k9, k10⟩⟩ := HX3.out
      unfold transV editV
      go_wp2
      refine bodyPost_ret (v := .tuple #[transV (.slice va nx.length vc) r1, editV ed, .bool ok]) (by simp [transV, editV, k3, k4, k5, k6, results, Tryz.results33, go_sem]) rfl ⟨.slice va nx.length vc, by rw [HP.out], ?_, ?_⟩
      · rw [HP.out]
        exact own_base (ownsRow_setCell_below (ownsRow_setCell_below (ownsRow_setCell_below (ownsRow_setCell_below HO.out (by simp <;> omega) _) (by simp <;> omega) _) (by simp <;> omega) _) (by simp <;> omega) _) (by omega)
      · exact ((((HB3.out.setCell (by simp <;> omega) _).setCell (by simp <;> omega) _).setCell (by simp <;> omega) _).setCell (by simp <;> omega) _)
end Go.Proofs.YtpkahblajgaemaaGreatDoor
