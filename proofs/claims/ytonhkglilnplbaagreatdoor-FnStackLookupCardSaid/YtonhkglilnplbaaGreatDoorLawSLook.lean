/- The law: flattening a stack preserves every look-up. -/
import Derived.Test.YtonhkglilnplbaaGreatDoorCurE8
import Derived.Test.YtonhkglilnplbaaGreatDoorFlat3
import Derived.Test.YtonhkglilnplbaaGreatDoorLook1
set_option linter.all false
namespace Go.Proofs.YtonhkglilnplbaaGreatDoor
open Go Go.RowKit
set_option maxHeartbeats 4000000
set_option maxRecDepth 100000
theorem P.lookS_ok {o : List Int} {l : P.Lays} {t : Str} {a : Int} (h : P.lookS o l = (t, a, true)) : ∃ (i : Nat) (hi : i < l.length), a = i ∧ (l[i]'hi).2 = true := by
  unfold P.lookS at h
  split at h
  · injection h with h1 h2
    injection h2 with h2 h3
    have h4 : 0 ≤ P.layAt o l := by unfold P.layOk at h3; simpa using h3
    obtain ⟨i, hi⟩ := Int.eq_ofNat_of_zero_le h4
    obtain ⟨hil, hsh, _⟩ := P.layAt_get hi
    refine ⟨i, hil, ?_, ?_⟩
    · rw [← h2]; unfold P.layIdx; rw [if_neg (by omega), hi]
    · unfold P.shows at hsh; simp only [Bool.and_eq_true] at hsh; exact hsh.1
  · cases h
theorem P.lookS_flat {o : List Int} {l : P.Lays} (h : P.flatOk l = true) : P.lookD o (P.flatS l) = ((P.lookS o l).1, (P.lookS o l).2.2) := by
  unfold P.flatOk at h
  simp only [Bool.and_eq_true, decide_eq_true_eq] at h
  have hl := P.stack_layers h.1
  have hd : P.dic (P.flatS l) = true := by rw [P.flatS_dic hl]; exact decide_eq_true h.2
  unfold P.lookD P.lookS
  rw [hd, h.1, if_pos rfl, if_pos rfl, P.flat_text hl, P.flat_has hl]
theorem small_flat {l : P.Lays} (h : P.flatOk l = true) (hd : DrawnL l) : Small (P.flatS l) := by
  unfold P.flatOk at h
  simp only [Bool.and_eq_true, decide_eq_true_eq] at h
  have hl := P.stack_layers h.1
  have hm : ∀ x ∈ P.flatS l, ∃ e ∈ l, x ∈ e.1 := fun x hx => P.seen_mem ((P.flatS_seen (P.layers_pair hl)).1 hx)
  refine ⟨by omega, fun e he => ?_, fun e he => ?_⟩
  · obtain ⟨t, ht, hx⟩ := hm e he
    have := (hd.dics t ht).outs e hx; omega
  · obtain ⟨t, ht, hx⟩ := hm e he
    have := (hd.dics t ht).texts e hx; omega
theorem law_stackLookup (v : Value) (w : World) (hc : CodeAny w v) (hE : Env w) :
    Calls Tryz.prog 7 #[v] w fun e w' => e = .returned (.bool true) ∧ Below w.heap.size w w' := by
  obtain ⟨ad, n, cap, rfl, hn, hr⟩ := hc
  have HE := Lib.hid hE
  clear hE
  go_enter Tryz.func7, Tryz.ntmps7
  go_wp2_with fail
  refine (rBig _ n ad cap rfl hn _).mono ?_
  rintro e w' ⟨rfl, rfl⟩
  cases hbig : decide (65536 < n)
  · have hn2 : n ≤ 65536 := by have := of_decide_eq_false hbig; omega
    go_wp2_with fail
    refine (drawLookupStack _ _ ⟨ad, n, cap, rfl, hn2, hr⟩).mono ?_
    rintro e w1 ⟨l, o, u, ov, rfl, hdl, hol, hu, ho, hb⟩
    have HDL := Lib.hid hdl
    have hba : Below w1.heap.size w1 (w1.alloc (.cells #[u] 52)) := (Below.refl _ _).alloc (Nat.le_refl _) _
    have HB := Lib.hid (hb.trans (hba.mono hb.size))
    have HU := Lib.hid (hu.below hba); have HO := Lib.hid (ho.below hba)
    have HX := Lib.hid (DBx.new u 52 w1)
    have HE1 := Lib.hid (HE.out.below HB.out HE.out.size)
    obtain ⟨ua, uc, rfl, hl45, _⟩ := hu
    obtain ⟨oa, oc, rfl, _, _⟩ := ho
    clear hdl hba hb HE hbig hr hol
    go_wp2_with fail
    refine (impl_lookupStack _ _ l o _ HU.out HO.out HDL.out.small HE1.out).mono ?_
    rintro e w2 ⟨rfl, hb⟩
    have HB2 := Lib.hid (HB.out.trans (hb.mono HB.out.size)); have HU2 := Lib.hid (HU.out.below hb); have HO2 := Lib.hid (HO.out.below hb); have HX2 := Lib.hid (HX.out.below hb); have HE2 := Lib.hid (HE1.out.below hb HE1.out.size)
    clear hb HB HU HO HX HE1
    obtain ⟨x0, _⟩ := HX2.out
    obtain ⟨⟨t, a, ok⟩, hlk⟩ : ∃ x, P.lookS o l = x := ⟨_, rfl⟩
    have HLK := Lib.hid hlk
    rw [hlk]
    clear hlk
    go_wp2_with fail
    refine (spec_lookupStack _ _ l o _ HU2.out HO2.out HDL.out.small).mono ?_
    rintro e w3 ⟨rfl, hb⟩
    rw [HLK.out]
    have HB3 := Lib.hid (HB2.out.trans (hb.mono HB2.out.size)); have HU3 := Lib.hid (HU2.out.below hb); have HO3 := Lib.hid (HO2.out.below hb); have HX3 := Lib.hid (HX2.out.below hb); have HE3 := Lib.hid (HE2.out.below hb HE2.out.size)
    clear hb HB2 HU2 HO2 HX2 HE2 x0
    obtain ⟨x0, _⟩ := HX3.out
    go_upto_region 6 with fail
    go_cut [60] (fun b wx => b = .bool false ∧ wx = w3)
    case first =>
      cases ok
      · go_wp2
        go_meet
        exact ⟨by simp, rfl⟩
      · obtain ⟨i, hi, rfl, hen⟩ := P.lookS_ok HLK.out
        obtain ⟨g, p, rfl, hgl, x, c0, c1, hx⟩ := HU3.out.at i hi
        rw [hen] at c1
        have i1 : (i : Int) < (l.length : Int) := by omega
        clear hx c0 hen
        go_wp2
        go_meet
        exact ⟨by simp, rfl⟩
    case rest =>
      obtain ⟨rfl, rfl⟩ := hcut
      go_wp2_with fail
      refine (impl_flatten _ l _ HU3.out HDL.out.small HE3.out).mono ?_
      rintro e w4 ⟨u4, rfl, hI, hb⟩
      have HB4 := Lib.hid (HB3.out.trans (hb.mono HB3.out.size)); have HO4 := Lib.hid (HO3.out.below hb); have HE4 := Lib.hid (HE3.out.below hb HE3.out.size)
      have hba : Below w4.heap.size w4 (w4.alloc (.cells #[u4] 32)) := (Below.refl _ _).alloc (Nat.le_refl _) _
      have HB5 := Lib.hid (HB4.out.trans (hba.mono HB4.out.size)); have HO5 := Lib.hid (HO4.out.below hba); have HE5 := Lib.hid (HE4.out.below hba HE4.out.size)
      have HI := Lib.hid (hI.below entE_ok hba)
      obtain ⟨ia, ic, rfl, _, _⟩ := id hI
      clear hb hba hI HB3 HU3 HO3 HX3 HE3 HB4 HO4 HE4 x0
      cases hf : P.flatOk l
      · rw [hf] at HI HB5 HO5 HE5
        go_wp2
        go_ret
        exact ⟨rfl, HB5.out⟩
      · rw [hf] at HI HB5 HO5 HE5
        have HF := Lib.hid hf
        clear hf
        go_wp2_with fail
        refine (impl_lookup _ _ (P.flatS l) o _ (Ents.read HI.out) HO5.out (small_flat HF.out HDL.out) HE5.out).mono ?_
        rintro e w5 ⟨rfl, hb⟩
        rw [P.lookS_flat HF.out, HLK.out]
        have HB6 := Lib.hid (HB5.out.trans (hb.mono HB5.out.size))
        clear hb
        go_wp2
        go_ret
        exact ⟨by simp, HB6.out⟩
  · have hn2 := of_decide_eq_true hbig
    go_wp2
    go_ret
    exact ⟨rfl, Below.refl _ _⟩
end Go.Proofs.YtonhkglilnplbaaGreatDoor
