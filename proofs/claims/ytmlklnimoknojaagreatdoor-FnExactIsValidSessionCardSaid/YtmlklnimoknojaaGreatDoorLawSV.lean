/- The law of IsValidSession: the program's answer is the reference's. -/
import Derived.Deep.DeepCutAuto
import Derived.Deep.RegionHeld
import Derived.Test.YtmlklnimoknojaaGreatDoorLawD
import Derived.Test.YtmlklnimoknojaaGreatDoorSesV
namespace Go.Proofs.YtmlklnimoknojaaGreatDoor
open Go Go.RowKit
set_option maxHeartbeats 4000000
set_option maxRecDepth 100000
/-- the boxes that the last comparison reads -/
def K_law_sval (a b : Nat) (u us x xs : Value) (sc d p : Str) (n : Int) (v : World) : Prop := SBox a u us sc d p n v ∧ SBox b x xs sc d p n v
theorem law_sval (u us : Value) (l : P.Dic) (st : List Int) (sc d p : Str) (n : Int) (w : World) (hu : EntA w u l) (ht : ∀ e ∈ l, e.2.length ≤ 9223372036854775807) (hus : IntA w us st) (hsc : sc.length ≤ 9223372036854775807) (hd : d.length ≤ maxLen) (hp : p.length ≤ maxLen) (hE : L.Env w) :
    Calls Tryz.prog 8 #[sessV u us sc d p n] w fun e w' => e = .returned (.bool true) ∧ Below w.heap.size w w' := by
  have hb0 := (Below.refl w.heap.size w).alloc (Nat.le_refl _) (sessCellsL u us sc d p n)
  have HU := Lib.hid hu; have HUS := Lib.hid hus; have HX := Lib.hid (SBox.newL u us sc d p n w); have HB := Lib.hid hb0; have HE := Lib.hid hE; have HT := Lib.hid ht
  have HZE := Lib.hid (P.sizeE_nonneg l)
  clear hb0 hE ht
  obtain ⟨ad, cap, rfl, _, _⟩ := hu
  obtain ⟨sd, sap, rfl, _, _⟩ := hus
  go_enter Tryz.func8, Tryz.ntmps8
  go_upto_region 1 with fail
  generalize w.alloc (sessCellsL (.slice ad l.length cap) (.slice sd st.length sap) sc d p n) = v0 at *
  obtain ⟨c0, c1, c2, c3, c4, c5, _⟩ := HX.out
  go_wp2_with fail
  refine (szSession _ _ l st sc d p n 1048576 _ (HU.out.below HB.out) HT.out (HUS.out.below HB.out) hsc hd hp (by decide) (by decide)).mono ?_
  rintro e w1 ⟨⟨r, rfl, hr0, hr⟩, hb⟩
  have HX1 := Lib.hid (HX.out.below hb); have HB1 := Lib.hid (HB.out.trans (hb.mono HB.out.size))
  have HR := Lib.hid hr
  clear hb c0 c1 c2 c3 c4 c5 HX HB hr hsc hd hp
  obtain ⟨c0, c1, c2, c3, c4, c5, _⟩ := HX1.out
  by_cases hn1 : r < 0
  · go_wp2
    go_ret
    exact ⟨rfl, HB1.out⟩
  have hsz : P.szSess l st sc d p ≤ 1048576 := by have := HR.out (by omega); omega
  unfold P.szSess at hsz
  have HSM := Lib.hid (small_of (l := l) (by have := HZE.out; omega))
  have HLN := Lib.hid (show st.length ≤ 2 ^ 20 ∧ d.length ≤ 2 ^ 20 ∧ p.length ≤ 2 ^ 20 by have := HZE.out; omega)
  have HU1 := Lib.hid (HU.out.read HSM.out.len HSM.out.outs); have HUS1 := Lib.hid (HUS.out.read HLN.out.1)
  clear HR hsz HT HZE HU HUS
  go_wp2_with fail
  refine (toSession _ _ l st sc d p n _ (HU1.out.below HB1.out) (HUS1.out.below HB1.out) HSM.out HLN.out.1).mono ?_
  rintro e w2 ⟨x, xs, m, rfl, hX, hY, _, _, hb⟩
  have HX2 := Lib.hid (HX1.out.below hb); have HB2 := Lib.hid (HB1.out.trans (hb.mono HB1.out.size))
  have HD2 := Lib.hid (Ents.read hX); have HI2 := Lib.hid (Ints.read hY)
  clear hb c0 c1 c2 c3 c4 c5 HX1 HB1 hX hY
  go_wp2_with fail
  refine (spec_isValidSession _ _ l st sc d p n _ HD2.out HI2.out HSM.out HLN.out.2.1 HLN.out.2.2).mono ?_
  rintro e w3 ⟨rfl, hb⟩
  have HX3 := Lib.hid (HX2.out.below hb); have HB3 := Lib.hid (HB2.out.trans (hb.mono HB2.out.size))
  clear hb HX2 HB2 HD2 HI2
  obtain ⟨c0, c1, c2, c3, c4, c5, _⟩ := HX3.out
  go_wp2_with fail
  refine (toSession _ _ l st sc d p n _ (HU1.out.below HB3.out) (HUS1.out.below HB3.out) HSM.out HLN.out.1).mono ?_
  rintro e w4 ⟨x, xs, m, rfl, hX, hY, _, _, hb⟩
  have hba := (Below.refl w4.heap.size w4).alloc (Nat.le_refl _) (sessCells x xs sc d p n)
  have HX4 := Lib.hid ((HX3.out.below hb).below hba); have HB4 := Lib.hid ((HB3.out.trans (hb.mono HB3.out.size)).trans (hba.mono (Nat.le_trans HB3.out.size hb.size)))
  have HD4 := Lib.hid ((Ents.read hX).below hba); have HI4 := Lib.hid ((Ints.read hY).below hba); have HY4 := Lib.hid (SBox.new x xs sc d p n w4)
  obtain ⟨xa, xc, rfl, _, _⟩ := id HD4.out
  obtain ⟨ya, yc, rfl, _, _⟩ := id HI4.out
  clear hb c0 c1 c2 c3 c4 c5 HX3 HB3 hX hY hba
  go_upto_region 7 with fail
  generalize w4.alloc (sessCells (.slice xa l.length xc) (.slice ya st.length yc) sc d p n) = v4 at *
  generalize w4.heap.size = b at *
  obtain ⟨c0, c1, c2, c3, c4, c5, _⟩ := HY4.out
  go_wp2_with fail
  refine (impl_isValidSession _ _ l st sc d p n _ HD4.out HI4.out HSM.out HLN.out.2.1 HLN.out.2.2 (HE.out.below HB4.out HE.out.size)).mono ?_
  rintro e w5 ⟨rfl, hb⟩
  have HX5 := Lib.hid (HX4.out.below hb); have HY5 := Lib.hid (HY4.out.below hb); have HB5 := Lib.hid (HB4.out.trans (hb.mono HB4.out.size)); have HD5 := Lib.hid (HD4.out.below hb); have HI5 := Lib.hid (HI4.out.below hb)
  clear hb c0 c1 c2 c3 c4 c5 HX4 HY4 HB4 HD4 HI4
  skip
  have hdd : Below w5.heap.size w5 w5.drew := (Below.refl _ _).drew
  have HS := Lib.hid (show K_law_sval w.heap.size b (.slice ad l.length cap) (.slice sd st.length sap) (.slice xa l.length xc) (.slice ya st.length yc) sc d p n w5.drew from ⟨HX5.out.below hdd, HY5.out.below hdd⟩)
  have HB6 := Lib.hid (HB5.out.trans (hdd.mono HB5.out.size)); have HD6 := Lib.hid (HD5.out.below hdd); have HI6 := Lib.hid (HI5.out.below hdd)
  clear hdd HX5 HY5 HB5 HD5 HI5
  go_upto_region 10 with fail
  refine wp_region_held_drew (S := K_law_sval w.heap.size b (.slice ad l.length cap) (.slice sd st.length sap) (.slice xa l.length xc) (.slice ya st.length yc) sc d p n) (by kernel_rfl) HS.out (fun hS0 => ?_)
  clear HS
  generalize w5.drew = v5 at *
  refine wpAnyH_take (i := 0) (v := sessV (.slice xa l.length xc) (.slice ya st.length yc) sc d p n) rfl (by kernel_rfl) (by kernel_rfl) (by kernel_rfl) (fun _ _ _ h => h) (Or.inl ⟨by rfl, fun z hz => ?_⟩) hS0 ?_
  · obtain ⟨⟨z0, z1, z2, z3, z4, z5, z6⟩, y0, y1, y2, y3, y4, y5, y6⟩ := hz
    go_simp
  try simp only [qA, qB, Act.put, qD, qE, qF]
  refine wpAnyH_take (i := 1) (v := sessV (.slice ad l.length cap) (.slice sd st.length sap) sc d p n) rfl (by kernel_rfl) (by kernel_rfl) (by kernel_rfl) (fun _ _ _ h => h) (Or.inl ⟨by rfl, fun z hz => ?_⟩) hS0 ?_
  · obtain ⟨⟨z0, z1, z2, z3, z4, z5, z6⟩, y0, y1, y2, y3, y4, y5, y6⟩ := hz
    go_simp
  try simp only [qA, qB, qC, Act.put, qD, qE, qF]
  refine wpAnyH_ready (rs := [2]) (by kernel_rfl) (by simp) ?_
  refine AllReadyH.cons rfl (fun K hK => ?_) AllReadyH.nil
  go_simp
  refine (toSession _ _ l st sc d p n _ (HU1.out.below HB6.out) (HUS1.out.below HB6.out) HSM.out HLN.out.1).mono ?_
  rintro e w6 ⟨x2, xs2, m2, rfl, hX, hY, _, _, hb⟩
  have HB7 := Lib.hid (HB6.out.trans (hb.mono HB6.out.size)); have HD7 := Lib.hid (HD6.out.below hb); have HI7 := Lib.hid (HI6.out.below hb)
  have HD8 := Lib.hid (Ents.read hX); have HI8 := Lib.hid (Ints.read hY)
  have HH := Lib.hid (show K_law_sval w.heap.size b (.slice ad l.length cap) (.slice sd st.length sap) (.slice xa l.length xc) (.slice ya st.length yc) sc d p n w6 from ⟨hS0.1.below hb, hS0.2.below hb⟩)
  refine hK.out _ _ HH.out (fun hS1 => ?_)
  clear hK K hb HH hS0 HB6 HD6 HI6 hX hY
  try simp only [qA, qB, qC, Act.put, qD, qE, qF]
  refine wpAnyH_ready (rs := [3]) (by kernel_rfl) (by simp) ?_
  refine AllReadyH.cons rfl (fun K hK => ?_) AllReadyH.nil
  go_simp
  refine (eqSession _ _ _ _ l st sc d p n _ HD7.out HD8.out HI7.out HI8.out).mono ?_
  rintro e w7 ⟨rfl, hb⟩
  have HB8 := Lib.hid (HB7.out.trans (hb.mono HB7.out.size))
  have HH := Lib.hid (show K_law_sval w.heap.size b (.slice ad l.length cap) (.slice sd st.length sap) (.slice xa l.length xc) (.slice ya st.length yc) sc d p n w7 from ⟨hS1.1.below hb, hS1.2.below hb⟩)
  refine hK.out _ _ HH.out (fun hS2 => ?_)
  clear hK K hb HH hS1 HB7 HD7 HI7 HD8 HI8
  try simp only [qA, qB, qC, Act.put, qD, qE, qF]
  refine wpAnyH_take (i := 4) (v := .bool false) rfl (by kernel_rfl) (by kernel_rfl) (by kernel_rfl) (fun _ _ _ h => h) (Or.inl ⟨by rfl, fun z hz => ?_⟩) hS2 ?_
  · obtain ⟨⟨z0, z1, z2, z3, z4, z5, z6⟩, y0, y1, y2, y3, y4, y5, y6⟩ := hz
    go_simp
  try simp only [qA, qB, qC, Act.put, qD, qE, qF]
  refine wpAnyH_done (by kernel_rfl) ?_ _
  clear hS2
  go_wp2
  go_ret
  exact ⟨rfl, HB8.out⟩
end Go.Proofs.YtmlklnimoknojaaGreatDoor
