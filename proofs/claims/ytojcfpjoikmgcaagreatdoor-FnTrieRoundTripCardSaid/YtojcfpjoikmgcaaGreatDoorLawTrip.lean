/- The law of a trie there and back. -/
import Derived.Deep.DeepCutAuto
import Derived.Deep.RegionHeld
import Derived.Test.YtojcfpjoikmgcaaGreatDoorTripT
import Derived.Test.YtojcfpjoikmgcaaGreatDoorRDict
namespace Go.Proofs.YtojcfpjoikmgcaaGreatDoor
open Go Go.RowKit
set_option maxHeartbeats 8000000
set_option maxRecDepth 100000
theorem law_trieRoundTrip (v : Value) (w : World) (hc : CodeAny w v) (hE : Env w) :
    Calls Tryz.prog 3 #[v] w fun e w' => e = .returned (.bool true) ∧ Below w.heap.size w w' := by
  obtain ⟨ad, n, cap, rfl, hn, hr⟩ := hc
  have HE := Lib.hid hE
  clear hE
  go_enter Tryz.func3, Tryz.ntmps3
  go_wp2_with fail
  refine (rBig _ n ad cap rfl hn _).mono ?_
  rintro e w' ⟨rfl, rfl⟩
  cases hbig : decide (65536 < n)
  · have hn2 : n ≤ 65536 := by have := of_decide_eq_false hbig; omega
    have HCD := Lib.hid (show CodeIs w (.slice ad n cap) from ⟨ad, n, cap, rfl, hn2, hr⟩)
    clear hbig hr
    go_wp2_with fail
    refine (drawBuildTrie _ _ HCD.out).mono ?_
    rintro e w1 ⟨l, u, rfl, hdl, hu, hb⟩
    have HDL := Lib.hid hdl
    have hba : Below w1.heap.size w1 (w1.alloc (.cells #[u] 26)) := (Below.refl _ _).alloc (Nat.le_refl _) _
    have HB1 := Lib.hid (hb.trans (hba.mono hb.size))
    have HU1 := Lib.hid (hu.below hba)
    have HX1 := Lib.hid (DBx.new u 26 w1)
    have HE1 := Lib.hid (HE.out.below HB1.out HE.out.size)
    obtain ⟨ua, uc, rfl, _, _⟩ := hu
    clear hdl hba hb HE
    go_wp2_with fail
    refine (impl_buildTrie _ l _ HU1.out HDL.out.small HE1.out).mono ?_
    rintro e w2 ⟨x2, rfl, hO, hb⟩
    have hba : Below w2.heap.size w2 (w2.alloc (.cells #[x2] 30)) := (Below.refl _ _).alloc (Nat.le_refl _) _
    have hb2 := hb.trans (hba.mono hb.size)
    have HB2 := Lib.hid (HB1.out.trans (hb2.mono HB1.out.size)); have HU2 := Lib.hid (HU1.out.below hb2); have HX2 := Lib.hid (HX1.out.below hb2); have HE2 := Lib.hid (HE1.out.below hb2 HE1.out.size)
    have HO2 := Lib.hid ((Nods.read hO).below hba); have HY2 := Lib.hid (DBx.new x2 30 w2)
    obtain ⟨ya, yc, rfl, _, _⟩ := Nods.read hO
    clear hb hb2 hba hO HB1 HU1 HX1 HE1
    obtain ⟨x0, _⟩ := HX2.out
    go_wp2_with fail
    refine (spec_buildTrie _ l _ HU2.out HDL.out.small).mono ?_
    rintro e w3 ⟨x3, rfl, hO, hb⟩
    have hba : Below w3.heap.size w3 (w3.alloc (.cells #[x3] 30)) := (Below.refl _ _).alloc (Nat.le_refl _) _
    have hb2 := hb.trans (hba.mono hb.size)
    have HB3 := Lib.hid (HB2.out.trans (hb2.mono HB2.out.size)); have HU3 := Lib.hid (HU2.out.below hb2); have HX3 := Lib.hid (HX2.out.below hb2); have HE3 := Lib.hid (HE2.out.below hb2 HE2.out.size)
    have HO3 := Lib.hid (HO2.out.below hb2); have HY3 := Lib.hid (HY2.out.below hb2)
    have HP3 := Lib.hid ((Nods.read hO).below hba); have HZ3 := Lib.hid (DBx.new x3 30 w3)
    obtain ⟨za, zc, rfl, _, _⟩ := Nods.read hO
    clear hb hb2 hba hO HB2 HU2 HX2 HE2 HO2 HY2 x0
    generalize hkt : P.keptT (P.dic l) (P.trie l) = kt at *
    have HKT := Lib.hid hkt; clear hkt
    generalize hok : P.dic l = ok at *
    have HOK := Lib.hid hok; clear hok
    obtain ⟨y0, _⟩ := HY3.out
    obtain ⟨z0, _⟩ := HZ3.out
    go_wp2_with fail
    refine (rTrie _ _ kt _ HO3.out HP3.out).mono ?_
    rintro e v1 ⟨rfl, hb⟩
    have HB5 := Lib.hid (HB3.out.trans (hb.mono HB3.out.size)); have HU5 := Lib.hid (HU3.out.below hb); have HX5 := Lib.hid (HX3.out.below hb); have HE5 := Lib.hid (HE3.out.below hb HE3.out.size)
    have HO5 := Lib.hid (HO3.out.below hb); have HY5 := Lib.hid (HY3.out.below hb)
    clear hb HB3 HU3 HX3 HE3 HO3 HY3 HP3 HZ3 y0 z0
    obtain ⟨y0, _⟩ := HY5.out
    cases ok
    · go_wp2
      go_ret
      exact ⟨rfl, HB5.out⟩
    · have hkt : P.trie l = kt := HKT.out
      subst hkt
      have HDI := Lib.hid (P.dictI_trie HOK.out)
      have HTX := Lib.hid (P.trie_texts (B := 2 ^ 30) (l := l) fun e he => by have := HDL.out.texts e he; omega)
      go_wp2_with fail
      refine (impl_trieEntries _ (P.trie l) _ HO5.out HTX.out HE5.out).mono ?_
      rintro e w4 ⟨x4, rfl, hO, hb⟩
      rw [HDI.out] at hO ⊢
      have hba : Below w4.heap.size w4 (w4.alloc (.cells #[x4] 26)) := (Below.refl _ _).alloc (Nat.le_refl _) _
      have hb2 := hb.trans (hba.mono hb.size)
      have HB6 := Lib.hid (HB5.out.trans (hb2.mono HB5.out.size)); have HU6 := Lib.hid (HU5.out.below hb2); have HX6 := Lib.hid (HX5.out.below hb2); have HE6 := Lib.hid (HE5.out.below hb2 HE5.out.size)
      have HO6 := Lib.hid (HO5.out.below hb2); have HY6 := Lib.hid (HY5.out.below hb2)
      have HQ6 := Lib.hid (show EntR _ x4 l from (Ents.read hO).below hba); have HV6 := Lib.hid (DBx.new x4 26 w4)
      obtain ⟨va, vc, rfl, _, _⟩ := (show EntR _ x4 l from Ents.read hO)
      clear hb hb2 hba hO HB5 HU5 HX5 HE5 HO5 HY5 y0
      obtain ⟨x0, _⟩ := HX6.out
      obtain ⟨v0, _⟩ := HV6.out
      go_wp2_with fail
      refine (rDict _ _ l _ HQ6.out HU6.out).mono ?_
      rintro e w5 ⟨rfl, hb⟩
      have HB7 := Lib.hid (HB6.out.trans (hb.mono HB6.out.size)); have HE7 := Lib.hid (HE6.out.below hb HE6.out.size)
      have HO7 := Lib.hid (HO6.out.below hb); have HY7 := Lib.hid (HY6.out.below hb)
      clear hb HB6 HU6 HX6 HE6 HO6 HY6 HQ6 HV6 x0 v0
      obtain ⟨y0, _⟩ := HY7.out
      go_wp2_with fail
      refine (impl_isValidTrie _ (P.trie l) _ HO7.out HTX.out HE7.out).mono ?_
      rintro e w6 ⟨rfl, hb⟩
      rw [HDI.out]
      go_wp2
      go_ret
      exact ⟨rfl, HB7.out.trans (hb.mono HB7.out.size)⟩
  · have hn2 := of_decide_eq_true hbig
    go_wp2
    go_ret
    exact ⟨rfl, Below.refl _ _⟩
end Go.Proofs.YtojcfpjoikmgcaaGreatDoor
