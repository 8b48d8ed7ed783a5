/- The law of InsertTrie: the program's answer is the reference's. -/
import Derived.Deep.DeepCutAuto
import Derived.Deep.RegionLaw
import Derived.Deep.RegionHeld
import Derived.Test.YtojcfpjoikmgcaaGreatDoorLawD
import Derived.Test.YtojcfpjoikmgcaaGreatDoorLawT
import Derived.Test.YtojcfpjoikmgcaaGreatDoorInsT
namespace Go.Proofs.YtojcfpjoikmgcaaGreatDoor
open Go Go.RowKit
set_option maxHeartbeats 8000000
set_option maxRecDepth 100000
/-- what the drawn regions of FnExactInsertTrie keep -/
def K_law_insertTrie (w : World) (a0d : Option Addr) (a0c : Nat) (l0 : P.Tri) (a1d : Option Addr) (a1c : Nat) (o1 : List Int) (t1 : Str) (v : World) : Prop := v.cell? ⟨w.heap.size, 0, none⟩ = some (.slice a0d l0.length a0c) ∧ v.cell? ⟨(w.heap.size + 1), 0, none⟩ = some (.slice a1d o1.length a1c) ∧ v.cell? ⟨(w.heap.size + 1), 1, none⟩ = some (.string (S t1))
theorem K_law_insertTrie.step {w : World} {a0d : Option Addr} {a0c : Nat} {l0 : P.Tri} {a1d : Option Addr} {a1c : Nat} {o1 : List Int} {t1 : Str} {v v' : World} {B : Nat} (h : K_law_insertTrie w a0d a0c l0 a1d a1c o1 t1 v) (hb : Below B v v') (hW : (w.heap.size + 1) < B) : K_law_insertTrie w a0d a0c l0 a1d a1c o1 t1 v' :=
  ⟨(hb.cell (p := ⟨w.heap.size, 0, none⟩) (by show w.heap.size < B; omega)).trans h.1, (hb.cell (p := ⟨(w.heap.size + 1), 0, none⟩) (by show (w.heap.size + 1) < B; omega)).trans h.2.1, (hb.cell (p := ⟨(w.heap.size + 1), 1, none⟩) (by show (w.heap.size + 1) < B; omega)).trans h.2.2⟩
theorem kAtT_ins (t : P.Tri) (e : P.Ent) : P.kAtT 1 (P.keptT (P.insTOk (P.dictI t) e) (P.trie (P.putF e false ((P.dictI t).getD [])))) ≤ 2 ^ 40 := P.kAtT_kept fun h => by
  cases hd : P.dictI t with
  | none => rw [hd] at h; cases h
  | some l => rw [hd] at h; exact P.insT_dic h
theorem law_insertTrie (u0 : Value) (l0 : P.Tri) (u1 : Value) (o1 : List Int) (t1 : Str) (w : World) (hu0 : NodA w u0 l0) (ht0 : ∀ n ∈ l0, n.2.2.2.length ≤ 9223372036854775807) (hu1 : IntA w u1 o1) (ht1 : t1.length ≤ 9223372036854775807) (hE : Env w) :
    Calls Tryz.prog 13 #[.agg #[u0], .agg #[u1, .string (S t1)]] w fun e w' => e = .returned (.bool true) ∧ Below w.heap.size w w' := by
  have HE := Lib.hid hE; clear hE
  have HU0 := Lib.hid hu0
  have HT0 := Lib.hid ht0; clear ht0
  obtain ⟨a0d, a0c, rfl, hln0, _⟩ := hu0
  have HU1 := Lib.hid hu1
  have HT1 := Lib.hid ht1; clear ht1
  obtain ⟨a1d, a1c, rfl, hln1, _⟩ := hu1
  have hb := (((Below.refl w.heap.size w).alloc (Nat.le_refl _) (.cells #[.slice a0d l0.length a0c] 40)).alloc (by simp) (.cells #[.slice a1d o1.length a1c, .string (S t1)] 82))
  have HB_0 := Lib.hid (hb)
  have A0_0 := Lib.hid ((Box1.new (.slice a0d l0.length a0c) 40 w).below ((Below.refl _ _).alloc (Nat.le_refl _) (.cells #[.slice a1d o1.length a1c, .string (S t1)] 82)))
  have A1_0 := Lib.hid (show Box2E (w.heap.size + 1) (.slice a1d o1.length a1c) t1 _ from by have h := Box2E.new (.slice a1d o1.length a1c) t1 82 (w.alloc (.cells #[.slice a0d l0.length a0c] 40)); simpa using h)
  clear hb
  go_enter Tryz.func13, Tryz.ntmps13
  go_wp2_with fail
  refine (szTrie _ l0 1048576 _ (HU0.out.below HB_0.out) HT0.out (by decide) (by decide)).mono ?_
  rintro e w1 ⟨⟨r0, rfl, hra0, hrb0⟩, hb⟩
  have zw1 : w.heap.size + 2 ≤ w1.heap.size := by have := hb.size; simp at this; omega
  have HB_1 := Lib.hid (HB_0.out.trans (hb.mono HB_0.out.size))
  have A0_1 := Lib.hid (A0_0.out.below hb)
  have A1_1 := Lib.hid (A1_0.out.below hb)
  clear HB_0 A0_0 A1_0 hb HT0
  have HR0 := Lib.hid hrb0; clear hrb0
  by_cases hneg0 : r0 < 0
  · go_wp2
    go_ret
    exact ⟨rfl, HB_1.out⟩
  have hR0 : r0 = 1048576 - ((l0.length : Int) + P.sizeT l0) := HR0.out (by omega)
  have HSL0 := Lib.hid hR0; have HRN0 := Lib.hid (show 0 ≤ r0 by omega); clear hR0 HR0 hra0
  have hq0 : r0 ≤ 2 ^ 20 := by have := P.sizeT_nonneg l0; have := HSL0.out; omega
  have HRQ0 := Lib.hid hq0; clear hq0
  obtain ⟨c_A10, c_A11, _⟩ := A1_1.out
  go_wp2_with fail
  refine (szEntry _ o1 t1 r0 _ (HU1.out.below HB_1.out) HT1.out HRN0.out HRQ0.out).mono ?_
  rintro e w2 ⟨⟨r1, rfl, hra1, hrb1⟩, hb⟩
  clear c_A10 c_A11
  have zw2 : w1.heap.size ≤ w2.heap.size := hb.size
  have HB_2 := Lib.hid (HB_1.out.trans (hb.mono HB_1.out.size))
  have A0_2 := Lib.hid (A0_1.out.below hb)
  have A1_2 := Lib.hid (A1_1.out.below hb)
  clear HB_1 A0_1 A1_1 hb HT1
  have HR1 := Lib.hid hrb1; clear hrb1
  by_cases hneg1 : r1 < 0
  · go_wp2
    go_ret
    exact ⟨rfl, HB_2.out⟩
  have hR1 : r1 = r0 - ((o1.length : Int) + t1.length) := HR1.out (by omega)
  have HSL1 := Lib.hid hR1; have HRN1 := Lib.hid (show 0 ≤ r1 by omega); clear hR1 HR1 hra1
  have hq1 : r1 ≤ 2 ^ 20 := by have := P.sizeT_nonneg l0; have := HSL0.out; have := HSL1.out; omega
  have HRQ1 := Lib.hid hq1; clear hq1
  have HS0 := Lib.hid (show (l0.length : Int) + P.sizeT l0 ≤ 1048576 by have := HSL0.out; have := HRN0.out; have := HSL1.out; have := HRN1.out; have := P.sizeT_nonneg l0; omega)
  have HUA0 := HU0; clear HU0
  have HU0 := Lib.hid (HUA0.out.read (goodT_of HS0.out).small); have HSM0 := Lib.hid (goodT_of HS0.out)
  clear HUA0
  have HS1 := Lib.hid (show (o1.length : Int) + t1.length ≤ 1048576 by have := HSL0.out; have := HRN0.out; have := HSL1.out; have := HRN1.out; have := P.sizeT_nonneg l0; omega)
  have HUA1 := HU1; clear HU1
  have HSM1 := Lib.hid (show o1.length ≤ 2 ^ 20 ∧ t1.length ≤ 2 ^ 30 by have := HS1.out; omega)
  have HU1 := Lib.hid (HUA1.out.read HSM1.out.1)
  clear HUA1
  have HSS := Lib.hid (show ((l0.length : Int) + P.sizeT l0) + ((o1.length : Int) + t1.length) ≤ 1048576 by have := HSL0.out; have := HRN0.out; have := HSL1.out; have := HRN1.out; have := P.sizeT_nonneg l0; omega)
  have HKK := Lib.hid (kAtT_ins l0 (o1, t1))
  have HK0 := Lib.hid (show 0 ≤ (1 : Int) ∧ (1 : Int) ≤ 2 ^ 40 ∧ (P.kAtT (1 : Int) l0) ≤ 2 ^ 40 ∧ 0 ≤ (P.kAtT (1 : Int) l0) by have := HS0.out; have := HS1.out; have := P.sizeT_nonneg l0; have := P.kAtT_le (1 : Int) l0; have := P.kAtT_ge (1 : Int) l0; omega)
  have HK1 := Lib.hid (show 0 ≤ (P.kAtT (1 : Int) l0) ∧ (P.kAtT (1 : Int) l0) ≤ 2 ^ 40 ∧ ((P.kAtT (1 : Int) l0) + (o1.length : Int)) ≤ 2 ^ 40 ∧ 0 ≤ ((P.kAtT (1 : Int) l0) + (o1.length : Int)) by have := HS0.out; have := HS1.out; have := P.sizeT_nonneg l0; have := P.kAtT_le (1 : Int) l0; have := P.kAtT_ge (1 : Int) l0; omega)
  clear HSL0 HRN0 HRQ0 HSL1 HRN1 HRQ1 HSS
  have hWA : (w.heap.size + 1) < w2.heap.size := A1_2.out.2.2
  have HS := Lib.hid (show K_law_insertTrie w a0d a0c l0 a1d a1c o1 t1 w2.drew from K_law_insertTrie.step (B := w2.heap.size) ⟨A0_2.out.1, A1_2.out.1, A1_2.out.2.1⟩ (Below.refl _ _).drew hWA)
  go_upto_region 8 with fail
  go_cut [6, 7] (fun p ok wx => ∃ bx sd sc, p = .pointer (some ⟨bx, 0, none⟩) ∧ ok = .bool (P.insTOk (P.dictI l0) (o1, t1)) ∧ wx.cell? ⟨bx, 0, none⟩ = some (.slice sd (P.keptT (P.insTOk (P.dictI l0) (o1, t1)) (P.trie (P.putF (o1, t1) false ((P.dictI l0).getD [])))).length sc) ∧ w2.heap.size ≤ bx ∧ bx < wx.heap.size ∧ Nods wx (Bet w2.heap.size wx.heap.size) (.slice sd (P.keptT (P.insTOk (P.dictI l0) (o1, t1)) (P.trie (P.putF (o1, t1) false ((P.dictI l0).getD [])))).length sc) (P.keptT (P.insTOk (P.dictI l0) (o1, t1)) (P.trie (P.putF (o1, t1) false ((P.dictI l0).getD [])))) ∧ Below w2.heap.size w2 wx)
  case first =>
    have HBW1 := Lib.hid (show Below w2.heap.size w2 w2.drew from (Below.refl _ _).drew)
    have z0 : w2.heap.size ≤ w2.drew.heap.size := Nat.le_refl _
    refine wp_region_held_drew (S := K_law_insertTrie w a0d a0c l0 a1d a1c o1 t1) (by kernel_rfl) HS.out (fun hS0 => ?_)
    refine wpAnyH_take (i := 0) (v := .agg #[.slice a0d l0.length a0c]) rfl (by kernel_rfl) (by kernel_rfl) (by kernel_rfl) (fun _ _ _ h => h) (Or.inl ⟨by rfl, fun z hz => ?_⟩) hS0 ?_
    · obtain ⟨z0q, z1q, z2q⟩ := hz
      go_simp
    try simp only [List.getElem_toArray, List.getElem_cons_zero, Act.put, List.setIfInBounds_toArray, List.set_cons_zero, List.set_cons_succ]
    refine wpAnyH_take (i := 2) (v := .agg #[.slice a1d o1.length a1c, .string (S t1)]) rfl (by kernel_rfl) (by kernel_rfl) (by kernel_rfl) (fun _ _ _ h => h) (Or.inl ⟨by rfl, fun z hz => ?_⟩) hS0 ?_
    · obtain ⟨z0q, z1q, z2q⟩ := hz
      go_simp
    try simp only [List.getElem_toArray, List.getElem_cons_zero, List.getElem_cons_succ, Act.put, List.setIfInBounds_toArray, List.set_cons_zero, List.set_cons_succ]
    generalize w2.drew = v2 at *
    refine wpAnyH_ready (rs := [1, 8]) (by kernel_rfl) (by simp) ?_
    refine AllReadyH.cons rfl (fun K hK => ?_) (AllReadyH.cons rfl (fun K hK => ?_) AllReadyH.nil)
    · skip
      go_simp
      refine (toTrie _ l0 _ (HU0.out.below (HB_2.out.trans (HBW1.out.mono HB_2.out.size))) HSM0.out.small).mono ?_
      rintro e v4 ⟨x5, rfl, hI, hb⟩
      have zv4 : v2.heap.size ≤ v4.heap.size := hb.size
      refine hK.out _ _ (hS0.step (hb.mono HBW1.out.size) hWA) (fun hS3 => ?_)
      clear hK K
      have HBW6 := Lib.hid (HBW1.out.trans (hb.mono HBW1.out.size))
      clear HBW1
      have Q0_7 := Lib.hid (show Nods v4 (Bet v2.heap.size v4.heap.size) x5 l0 from hI)
      obtain ⟨x5d, x5c, rfl, _, _⟩ := hI
      clear hb
      try simp only [List.getElem_toArray, List.getElem_cons_zero, List.getElem_cons_succ, Act.put, List.setIfInBounds_toArray, List.set_cons_zero, List.set_cons_succ]
      refine wpAnyH_ready (rs := [3, 8]) (by kernel_rfl) (by simp) ?_
      refine AllReadyH.cons rfl (fun K hK => ?_) (AllReadyH.cons rfl (fun K hK => ?_) AllReadyH.nil)
      · skip
        go_simp
        refine (toEntry _ o1 t1 _ (HU1.out.below (HB_2.out.trans (HBW6.out.mono HB_2.out.size))) HSM1.out.1).mono ?_
        rintro e v9 ⟨x10, rfl, hI, hb⟩
        have zv9 : v4.heap.size ≤ v9.heap.size := hb.size
        refine hK.out _ _ (hS3.step (hb.mono HBW6.out.size) hWA) (fun hS8 => ?_)
        clear hK K
        have HBW11 := Lib.hid (HBW6.out.trans (hb.mono HBW6.out.size))
        have Q0_12 := Lib.hid (Q0_7.out.below nodE_ok hb)
        clear HBW6 Q0_7
        have Q1_13 := Lib.hid (show Ints v9 (Bet v4.heap.size v9.heap.size) x10 o1 from hI)
        obtain ⟨x10d, x10c, rfl, _, _⟩ := hI
        clear hb
        try simp only [List.getElem_toArray, List.getElem_cons_zero, List.getElem_cons_succ, Act.put, List.setIfInBounds_toArray, List.set_cons_zero, List.set_cons_succ]
        refine wpAnyH_ready (rs := [4, 8]) (by kernel_rfl) (by simp) ?_
        refine AllReadyH.cons rfl (fun K hK => ?_) (AllReadyH.cons rfl (fun K hK => ?_) AllReadyH.nil)
        · skip
          go_simp
          refine (spec_insertTrie _ _ l0 o1 t1 _ (Nods.read Q0_12.out) (Ints.read Q1_13.out) HSM1.out.1 HSM1.out.2 HSM0.out.t30).mono ?_
          rintro e v15 ⟨x16, rfl, hI, hb⟩
          have zv15 : v9.heap.size ≤ v15.heap.size := hb.size
          refine hK.out _ _ (hS8.step (hb.mono HBW11.out.size) hWA) (fun hS14 => ?_)
          clear hK K
          clear Q0_12 Q1_13
          have HBW17 := Lib.hid (HBW11.out.trans (hb.mono HBW11.out.size))
          clear HBW11
          have RES_18 := Lib.hid (show Nods v15 (Bet v9.heap.size v15.heap.size) x16 (P.keptT (P.insTOk (P.dictI l0) (o1, t1)) (P.trie (P.putF (o1, t1) false ((P.dictI l0).getD [])))) from hI)
          obtain ⟨x16d, x16c, rfl, _, _⟩ := hI
          clear hb
          try simp only [List.getElem_toArray, List.getElem_cons_zero, List.getElem_cons_succ, Act.put, List.setIfInBounds_toArray, List.set_cons_zero, List.set_cons_succ]
          refine wpAnyH_take (i := 5) (v := .tuple #[.agg #[.slice x16d (P.keptT (P.insTOk (P.dictI l0) (o1, t1)) (P.trie (P.putF (o1, t1) false ((P.dictI l0).getD [])))).length x16c], .bool (P.insTOk (P.dictI l0) (o1, t1))]) rfl (by kernel_rfl) (by kernel_rfl) (by kernel_rfl) (fun _ _ _ h => h) (Or.inl ⟨by rfl, fun z hz => ?_⟩) hS14 ?_
          · obtain ⟨z0q, z1q, z2q⟩ := hz
            go_simp
          try simp only [List.getElem_toArray, List.getElem_cons_zero, List.getElem_cons_succ, Act.put, List.setIfInBounds_toArray, List.set_cons_zero, List.set_cons_succ]
          refine wpAnyH_take (i := 6) (v := .agg #[.slice x16d (P.keptT (P.insTOk (P.dictI l0) (o1, t1)) (P.trie (P.putF (o1, t1) false ((P.dictI l0).getD [])))).length x16c]) rfl (by kernel_rfl) (by kernel_rfl) (by kernel_rfl) (fun _ _ _ h => h) (Or.inl ⟨by rfl, fun z hz => ?_⟩) hS14 ?_
          · obtain ⟨z0q, z1q, z2q⟩ := hz
            go_simp
          try simp only [List.getElem_toArray, List.getElem_cons_zero, List.getElem_cons_succ, Act.put, List.setIfInBounds_toArray, List.set_cons_zero, List.set_cons_succ]
          refine wpAnyH_take (i := 7) (v := .bool (P.insTOk (P.dictI l0) (o1, t1))) rfl (by kernel_rfl) (by kernel_rfl) (by kernel_rfl) (fun _ _ _ h => h) (Or.inl ⟨by rfl, fun z hz => ?_⟩) hS14 ?_
          · obtain ⟨z0q, z1q, z2q⟩ := hz
            go_simp
          try simp only [List.getElem_toArray, List.getElem_cons_zero, List.getElem_cons_succ, Act.put, List.setIfInBounds_toArray, List.set_cons_zero, List.set_cons_succ]
          refine wpAnyH_ready (rs := [8]) (by kernel_rfl) (by simp) ?_
          refine AllReadyH.cons rfl (fun K hK => ?_) AllReadyH.nil
          go_simp
          have hb := (Below.refl v15.heap.size v15).alloc (Nat.le_refl _) (.cells #[.slice none 0 0] 30)
          have zv20 : v15.heap.size < (v15.alloc (.cells #[.slice none 0 0] 30)).heap.size := by simp
          refine hK.out _ _ (hS14.step (hb.mono HBW17.out.size) hWA) (fun hS19 => ?_)
          clear hK K
          have BX21 := Lib.hid (NBx.new v15 30)
          have HBW22 := Lib.hid (HBW17.out.trans (hb.mono HBW17.out.size))
          have RES_23 := Lib.hid (RES_18.out.below nodE_ok hb)
          clear HBW17 RES_18
          clear hb
          generalize v15.alloc (.cells #[.slice none 0 0] 30) = v20 at *
          try simp only [List.getElem_toArray, List.getElem_cons_zero, List.getElem_cons_succ, Act.put, List.setIfInBounds_toArray, List.set_cons_zero, List.set_cons_succ]
          refine wpAnyH_ready (rs := [9]) (by kernel_rfl) (by simp) ?_
          refine AllReadyH.cons rfl (fun K hK => ?_) AllReadyH.nil
          have zA := HBW22.out.size
          obtain ⟨cb, fb, zb⟩ := BX21.out
          go_simp
          refine hK.out _ _ (hS19.step ((Below.refl w2.heap.size v20).setCell (p := ⟨v15.heap.size, 0, none⟩) (by show w2.heap.size ≤ v15.heap.size; omega) _) hWA) (fun hS24 => ?_)
          clear hK K
          try simp only [List.getElem_toArray, List.getElem_cons_zero, List.getElem_cons_succ, Act.put, List.setIfInBounds_toArray, List.set_cons_zero, List.set_cons_succ]
          refine wpAnyH_take (i := 10) (v := .bool (P.insTOk (P.dictI l0) (o1, t1))) rfl (by kernel_rfl) (by kernel_rfl) (by kernel_rfl) (fun _ _ _ h => h) (Or.inl ⟨by rfl, fun z hz => ?_⟩) hS24 ?_
          · obtain ⟨z0q, z1q, z2q⟩ := hz
            go_simp
          try simp only [List.getElem_toArray, List.getElem_cons_zero, List.getElem_cons_succ, Act.put, List.setIfInBounds_toArray, List.set_cons_zero, List.set_cons_succ]
          refine wpAnyH_done (by kernel_rfl) ?_ _
          go_wp2_with fail
          go_meet
          refine ⟨v15.heap.size, x16d, x16c, rfl, rfl, World.cell?_setCell_same _ _ _ cb, by omega, by simpa [World.setCell] using zb, ?_, HBW22.out.setCell (by show w2.heap.size ≤ v15.heap.size; omega) _⟩
          exact (RES_23.out.stand (X := fun b => b = v15.heap.size) nodE_ok ((Chg.refl (fun b => b = v15.heap.size) v20).setCell (p := ⟨v15.heap.size, 0, none⟩) rfl _) (fun b hb e => by have h1 := hb.1; have h2 := hb.2; omega)).wide (fun b hb => ⟨by have h1 := hb.1; omega, by have h1 := hb.2; simp only [World.setCell, Array.size_modify]; omega⟩) (fun b hb => hb.2)
        · skip
          go_simp
          have hb := (Below.refl v9.heap.size v9).alloc (Nat.le_refl _) (.cells #[.slice none 0 0] 30)
          have zv26 : v9.heap.size < (v9.alloc (.cells #[.slice none 0 0] 30)).heap.size := by simp
          refine hK.out _ _ (hS8.step (hb.mono HBW11.out.size) hWA) (fun hS25 => ?_)
          clear hK K
          have BX27 := Lib.hid (NBx.new v9 30)
          have HBW28 := Lib.hid (HBW11.out.trans (hb.mono HBW11.out.size))
          have Q0_29 := Lib.hid (Q0_12.out.below nodE_ok hb)
          have Q1_30 := Lib.hid (Q1_13.out.below intE_ok hb)
          clear HBW11 Q0_12 Q1_13
          clear hb
          generalize v9.alloc (.cells #[.slice none 0 0] 30) = v26 at *
          try simp only [List.getElem_toArray, List.getElem_cons_zero, List.getElem_cons_succ, Act.put, List.setIfInBounds_toArray, List.set_cons_zero, List.set_cons_succ]
          refine wpAnyH_ready (rs := [4]) (by kernel_rfl) (by simp) ?_
          refine AllReadyH.cons rfl (fun K hK => ?_) AllReadyH.nil
          go_simp
          refine (spec_insertTrie _ _ l0 o1 t1 _ (Nods.read Q0_29.out) (Ints.read Q1_30.out) HSM1.out.1 HSM1.out.2 HSM0.out.t30).mono ?_
          rintro e v32 ⟨x33, rfl, hI, hb⟩
          have zv32 : v26.heap.size ≤ v32.heap.size := hb.size
          refine hK.out _ _ (hS25.step (hb.mono HBW28.out.size) hWA) (fun hS31 => ?_)
          clear hK K
          clear Q0_29 Q1_30
          have HBW34 := Lib.hid (HBW28.out.trans (hb.mono HBW28.out.size))
          have BX_35 := Lib.hid (BX27.out.below hb)
          clear HBW28 BX27
          have RES_36 := Lib.hid (show Nods v32 (Bet v26.heap.size v32.heap.size) x33 (P.keptT (P.insTOk (P.dictI l0) (o1, t1)) (P.trie (P.putF (o1, t1) false ((P.dictI l0).getD [])))) from hI)
          obtain ⟨x33d, x33c, rfl, _, _⟩ := hI
          clear hb
          try simp only [List.getElem_toArray, List.getElem_cons_zero, List.getElem_cons_succ, Act.put, List.setIfInBounds_toArray, List.set_cons_zero, List.set_cons_succ]
          refine wpAnyH_take (i := 5) (v := .tuple #[.agg #[.slice x33d (P.keptT (P.insTOk (P.dictI l0) (o1, t1)) (P.trie (P.putF (o1, t1) false ((P.dictI l0).getD [])))).length x33c], .bool (P.insTOk (P.dictI l0) (o1, t1))]) rfl (by kernel_rfl) (by kernel_rfl) (by kernel_rfl) (fun _ _ _ h => h) (Or.inl ⟨by rfl, fun z hz => ?_⟩) hS31 ?_
          · obtain ⟨z0q, z1q, z2q⟩ := hz
            go_simp
          try simp only [List.getElem_toArray, List.getElem_cons_zero, List.getElem_cons_succ, Act.put, List.setIfInBounds_toArray, List.set_cons_zero, List.set_cons_succ]
          refine wpAnyH_take (i := 6) (v := .agg #[.slice x33d (P.keptT (P.insTOk (P.dictI l0) (o1, t1)) (P.trie (P.putF (o1, t1) false ((P.dictI l0).getD [])))).length x33c]) rfl (by kernel_rfl) (by kernel_rfl) (by kernel_rfl) (fun _ _ _ h => h) (Or.inl ⟨by rfl, fun z hz => ?_⟩) hS31 ?_
          · obtain ⟨z0q, z1q, z2q⟩ := hz
            go_simp
          try simp only [List.getElem_toArray, List.getElem_cons_zero, List.getElem_cons_succ, Act.put, List.setIfInBounds_toArray, List.set_cons_zero, List.set_cons_succ]
          refine wpAnyH_take (i := 7) (v := .bool (P.insTOk (P.dictI l0) (o1, t1))) rfl (by kernel_rfl) (by kernel_rfl) (by kernel_rfl) (fun _ _ _ h => h) (Or.inl ⟨by rfl, fun z hz => ?_⟩) hS31 ?_
          · obtain ⟨z0q, z1q, z2q⟩ := hz
            go_simp
          try simp only [List.getElem_toArray, List.getElem_cons_zero, List.getElem_cons_succ, Act.put, List.setIfInBounds_toArray, List.set_cons_zero, List.set_cons_succ]
          refine wpAnyH_ready (rs := [9]) (by kernel_rfl) (by simp) ?_
          refine AllReadyH.cons rfl (fun K hK => ?_) AllReadyH.nil
          have zA := HBW34.out.size
          obtain ⟨cb, fb, zb⟩ := BX_35.out
          go_simp
          refine hK.out _ _ (hS31.step ((Below.refl w2.heap.size v32).setCell (p := ⟨v9.heap.size, 0, none⟩) (by show w2.heap.size ≤ v9.heap.size; omega) _) hWA) (fun hS37 => ?_)
          clear hK K
          try simp only [List.getElem_toArray, List.getElem_cons_zero, List.getElem_cons_succ, Act.put, List.setIfInBounds_toArray, List.set_cons_zero, List.set_cons_succ]
          refine wpAnyH_take (i := 10) (v := .bool (P.insTOk (P.dictI l0) (o1, t1))) rfl (by kernel_rfl) (by kernel_rfl) (by kernel_rfl) (fun _ _ _ h => h) (Or.inl ⟨by rfl, fun z hz => ?_⟩) hS37 ?_
          · obtain ⟨z0q, z1q, z2q⟩ := hz
            go_simp
          try simp only [List.getElem_toArray, List.getElem_cons_zero, List.getElem_cons_succ, Act.put, List.setIfInBounds_toArray, List.set_cons_zero, List.set_cons_succ]
          refine wpAnyH_done (by kernel_rfl) ?_ _
          go_wp2_with fail
          go_meet
          refine ⟨v9.heap.size, x33d, x33c, rfl, rfl, World.cell?_setCell_same _ _ _ cb, by omega, by simpa [World.setCell] using zb, ?_, HBW34.out.setCell (by show w2.heap.size ≤ v9.heap.size; omega) _⟩
          exact (RES_36.out.stand (X := fun b => b = v9.heap.size) nodE_ok ((Chg.refl (fun b => b = v9.heap.size) v32).setCell (p := ⟨v9.heap.size, 0, none⟩) rfl _) (fun b hb e => by have h1 := hb.1; have h2 := hb.2; omega)).wide (fun b hb => ⟨by have h1 := hb.1; omega, by have h1 := hb.2; simp only [World.setCell, Array.size_modify]; omega⟩) (fun b hb => hb.2)
      · skip
        go_simp
        have hb := (Below.refl v4.heap.size v4).alloc (Nat.le_refl _) (.cells #[.slice none 0 0] 30)
        have zv39 : v4.heap.size < (v4.alloc (.cells #[.slice none 0 0] 30)).heap.size := by simp
        refine hK.out _ _ (hS3.step (hb.mono HBW6.out.size) hWA) (fun hS38 => ?_)
        clear hK K
        have BX40 := Lib.hid (NBx.new v4 30)
        have HBW41 := Lib.hid (HBW6.out.trans (hb.mono HBW6.out.size))
        have Q0_42 := Lib.hid (Q0_7.out.below nodE_ok hb)
        clear HBW6 Q0_7
        clear hb
        generalize v4.alloc (.cells #[.slice none 0 0] 30) = v39 at *
        try simp only [List.getElem_toArray, List.getElem_cons_zero, List.getElem_cons_succ, Act.put, List.setIfInBounds_toArray, List.set_cons_zero, List.set_cons_succ]
        refine wpAnyH_ready (rs := [3]) (by kernel_rfl) (by simp) ?_
        refine AllReadyH.cons rfl (fun K hK => ?_) AllReadyH.nil
        go_simp
        refine (toEntry _ o1 t1 _ (HU1.out.below (HB_2.out.trans (HBW41.out.mono HB_2.out.size))) HSM1.out.1).mono ?_
        rintro e v44 ⟨x45, rfl, hI, hb⟩
        have zv44 : v39.heap.size ≤ v44.heap.size := hb.size
        refine hK.out _ _ (hS38.step (hb.mono HBW41.out.size) hWA) (fun hS43 => ?_)
        clear hK K
        have HBW46 := Lib.hid (HBW41.out.trans (hb.mono HBW41.out.size))
        have Q0_47 := Lib.hid (Q0_42.out.below nodE_ok hb)
        have BX_48 := Lib.hid (BX40.out.below hb)
        clear HBW41 Q0_42 BX40
        have Q1_49 := Lib.hid (show Ints v44 (Bet v39.heap.size v44.heap.size) x45 o1 from hI)
        obtain ⟨x45d, x45c, rfl, _, _⟩ := hI
        clear hb
        try simp only [List.getElem_toArray, List.getElem_cons_zero, List.getElem_cons_succ, Act.put, List.setIfInBounds_toArray, List.set_cons_zero, List.set_cons_succ]
        refine wpAnyH_ready (rs := [4]) (by kernel_rfl) (by simp) ?_
        refine AllReadyH.cons rfl (fun K hK => ?_) AllReadyH.nil
        go_simp
        refine (spec_insertTrie _ _ l0 o1 t1 _ (Nods.read Q0_47.out) (Ints.read Q1_49.out) HSM1.out.1 HSM1.out.2 HSM0.out.t30).mono ?_
        rintro e v51 ⟨x52, rfl, hI, hb⟩
        have zv51 : v44.heap.size ≤ v51.heap.size := hb.size
        refine hK.out _ _ (hS43.step (hb.mono HBW46.out.size) hWA) (fun hS50 => ?_)
        clear hK K
        clear Q0_47 Q1_49
        have HBW53 := Lib.hid (HBW46.out.trans (hb.mono HBW46.out.size))
        have BX_54 := Lib.hid (BX_48.out.below hb)
        clear HBW46 BX_48
        have RES_55 := Lib.hid (show Nods v51 (Bet v44.heap.size v51.heap.size) x52 (P.keptT (P.insTOk (P.dictI l0) (o1, t1)) (P.trie (P.putF (o1, t1) false ((P.dictI l0).getD [])))) from hI)
        obtain ⟨x52d, x52c, rfl, _, _⟩ := hI
        clear hb
        try simp only [List.getElem_toArray, List.getElem_cons_zero, List.getElem_cons_succ, Act.put, List.setIfInBounds_toArray, List.set_cons_zero, List.set_cons_succ]
        refine wpAnyH_take (i := 5) (v := .tuple #[.agg #[.slice x52d (P.keptT (P.insTOk (P.dictI l0) (o1, t1)) (P.trie (P.putF (o1, t1) false ((P.dictI l0).getD [])))).length x52c], .bool (P.insTOk (P.dictI l0) (o1, t1))]) rfl (by kernel_rfl) (by kernel_rfl) (by kernel_rfl) (fun _ _ _ h => h) (Or.inl ⟨by rfl, fun z hz => ?_⟩) hS50 ?_
        · obtain ⟨z0q, z1q, z2q⟩ := hz
          go_simp
        try simp only [List.getElem_toArray, List.getElem_cons_zero, List.getElem_cons_succ, Act.put, List.setIfInBounds_toArray, List.set_cons_zero, List.set_cons_succ]
        refine wpAnyH_take (i := 6) (v := .agg #[.slice x52d (P.keptT (P.insTOk (P.dictI l0) (o1, t1)) (P.trie (P.putF (o1, t1) false ((P.dictI l0).getD [])))).length x52c]) rfl (by kernel_rfl) (by kernel_rfl) (by kernel_rfl) (fun _ _ _ h => h) (Or.inl ⟨by rfl, fun z hz => ?_⟩) hS50 ?_
        · obtain ⟨z0q, z1q, z2q⟩ := hz
          go_simp
        try simp only [List.getElem_toArray, List.getElem_cons_zero, List.getElem_cons_succ, Act.put, List.setIfInBounds_toArray, List.set_cons_zero, List.set_cons_succ]
        refine wpAnyH_take (i := 7) (v := .bool (P.insTOk (P.dictI l0) (o1, t1))) rfl (by kernel_rfl) (by kernel_rfl) (by kernel_rfl) (fun _ _ _ h => h) (Or.inl ⟨by rfl, fun z hz => ?_⟩) hS50 ?_
        · obtain ⟨z0q, z1q, z2q⟩ := hz
          go_simp
        try simp only [List.getElem_toArray, List.getElem_cons_zero, List.getElem_cons_succ, Act.put, List.setIfInBounds_toArray, List.set_cons_zero, List.set_cons_succ]
        refine wpAnyH_ready (rs := [9]) (by kernel_rfl) (by simp) ?_
        refine AllReadyH.cons rfl (fun K hK => ?_) AllReadyH.nil
        have zA := HBW53.out.size
        obtain ⟨cb, fb, zb⟩ := BX_54.out
        go_simp
        refine hK.out _ _ (hS50.step ((Below.refl w2.heap.size v51).setCell (p := ⟨v4.heap.size, 0, none⟩) (by show w2.heap.size ≤ v4.heap.size; omega) _) hWA) (fun hS56 => ?_)
        clear hK K
        try simp only [List.getElem_toArray, List.getElem_cons_zero, List.getElem_cons_succ, Act.put, List.setIfInBounds_toArray, List.set_cons_zero, List.set_cons_succ]
        refine wpAnyH_take (i := 10) (v := .bool (P.insTOk (P.dictI l0) (o1, t1))) rfl (by kernel_rfl) (by kernel_rfl) (by kernel_rfl) (fun _ _ _ h => h) (Or.inl ⟨by rfl, fun z hz => ?_⟩) hS56 ?_
        · obtain ⟨z0q, z1q, z2q⟩ := hz
          go_simp
        try simp only [List.getElem_toArray, List.getElem_cons_zero, List.getElem_cons_succ, Act.put, List.setIfInBounds_toArray, List.set_cons_zero, List.set_cons_succ]
        refine wpAnyH_done (by kernel_rfl) ?_ _
        go_wp2_with fail
        go_meet
        refine ⟨v4.heap.size, x52d, x52c, rfl, rfl, World.cell?_setCell_same _ _ _ cb, by omega, by simpa [World.setCell] using zb, ?_, HBW53.out.setCell (by show w2.heap.size ≤ v4.heap.size; omega) _⟩
        exact (RES_55.out.stand (X := fun b => b = v4.heap.size) nodE_ok ((Chg.refl (fun b => b = v4.heap.size) v51).setCell (p := ⟨v4.heap.size, 0, none⟩) rfl _) (fun b hb e => by have h1 := hb.1; have h2 := hb.2; omega)).wide (fun b hb => ⟨by have h1 := hb.1; omega, by have h1 := hb.2; simp only [World.setCell, Array.size_modify]; omega⟩) (fun b hb => hb.2)
    · skip
      go_simp
      have hb := (Below.refl v2.heap.size v2).alloc (Nat.le_refl _) (.cells #[.slice none 0 0] 30)
      have zv58 : v2.heap.size < (v2.alloc (.cells #[.slice none 0 0] 30)).heap.size := by simp
      refine hK.out _ _ (hS0.step (hb.mono HBW1.out.size) hWA) (fun hS57 => ?_)
      clear hK K
      have BX59 := Lib.hid (NBx.new v2 30)
      have HBW60 := Lib.hid (HBW1.out.trans (hb.mono HBW1.out.size))
      clear HBW1
      clear hb
      generalize v2.alloc (.cells #[.slice none 0 0] 30) = v58 at *
      try simp only [List.getElem_toArray, List.getElem_cons_zero, List.getElem_cons_succ, Act.put, List.setIfInBounds_toArray, List.set_cons_zero, List.set_cons_succ]
      refine wpAnyH_ready (rs := [1]) (by kernel_rfl) (by simp) ?_
      refine AllReadyH.cons rfl (fun K hK => ?_) AllReadyH.nil
      go_simp
      refine (toTrie _ l0 _ (HU0.out.below (HB_2.out.trans (HBW60.out.mono HB_2.out.size))) HSM0.out.small).mono ?_
      rintro e v62 ⟨x63, rfl, hI, hb⟩
      have zv62 : v58.heap.size ≤ v62.heap.size := hb.size
      refine hK.out _ _ (hS57.step (hb.mono HBW60.out.size) hWA) (fun hS61 => ?_)
      clear hK K
      have HBW64 := Lib.hid (HBW60.out.trans (hb.mono HBW60.out.size))
      have BX_65 := Lib.hid (BX59.out.below hb)
      clear HBW60 BX59
      have Q0_66 := Lib.hid (show Nods v62 (Bet v58.heap.size v62.heap.size) x63 l0 from hI)
      obtain ⟨x63d, x63c, rfl, _, _⟩ := hI
      clear hb
      try simp only [List.getElem_toArray, List.getElem_cons_zero, List.getElem_cons_succ, Act.put, List.setIfInBounds_toArray, List.set_cons_zero, List.set_cons_succ]
      refine wpAnyH_ready (rs := [3]) (by kernel_rfl) (by simp) ?_
      refine AllReadyH.cons rfl (fun K hK => ?_) AllReadyH.nil
      go_simp
      refine (toEntry _ o1 t1 _ (HU1.out.below (HB_2.out.trans (HBW64.out.mono HB_2.out.size))) HSM1.out.1).mono ?_
      rintro e v68 ⟨x69, rfl, hI, hb⟩
      have zv68 : v62.heap.size ≤ v68.heap.size := hb.size
      refine hK.out _ _ (hS61.step (hb.mono HBW64.out.size) hWA) (fun hS67 => ?_)
      clear hK K
      have HBW70 := Lib.hid (HBW64.out.trans (hb.mono HBW64.out.size))
      have BX_71 := Lib.hid (BX_65.out.below hb)
      have Q0_72 := Lib.hid (Q0_66.out.below nodE_ok hb)
      clear HBW64 BX_65 Q0_66
      have Q1_73 := Lib.hid (show Ints v68 (Bet v62.heap.size v68.heap.size) x69 o1 from hI)
      obtain ⟨x69d, x69c, rfl, _, _⟩ := hI
      clear hb
      try simp only [List.getElem_toArray, List.getElem_cons_zero, List.getElem_cons_succ, Act.put, List.setIfInBounds_toArray, List.set_cons_zero, List.set_cons_succ]
      refine wpAnyH_ready (rs := [4]) (by kernel_rfl) (by simp) ?_
      refine AllReadyH.cons rfl (fun K hK => ?_) AllReadyH.nil
      go_simp
      refine (spec_insertTrie _ _ l0 o1 t1 _ (Nods.read Q0_72.out) (Ints.read Q1_73.out) HSM1.out.1 HSM1.out.2 HSM0.out.t30).mono ?_
      rintro e v75 ⟨x76, rfl, hI, hb⟩
      have zv75 : v68.heap.size ≤ v75.heap.size := hb.size
      refine hK.out _ _ (hS67.step (hb.mono HBW70.out.size) hWA) (fun hS74 => ?_)
      clear hK K
      clear Q0_72 Q1_73
      have HBW77 := Lib.hid (HBW70.out.trans (hb.mono HBW70.out.size))
      have BX_78 := Lib.hid (BX_71.out.below hb)
      clear HBW70 BX_71
      have RES_79 := Lib.hid (show Nods v75 (Bet v68.heap.size v75.heap.size) x76 (P.keptT (P.insTOk (P.dictI l0) (o1, t1)) (P.trie (P.putF (o1, t1) false ((P.dictI l0).getD [])))) from hI)
      obtain ⟨x76d, x76c, rfl, _, _⟩ := hI
      clear hb
      try simp only [List.getElem_toArray, List.getElem_cons_zero, List.getElem_cons_succ, Act.put, List.setIfInBounds_toArray, List.set_cons_zero, List.set_cons_succ]
      refine wpAnyH_take (i := 5) (v := .tuple #[.agg #[.slice x76d (P.keptT (P.insTOk (P.dictI l0) (o1, t1)) (P.trie (P.putF (o1, t1) false ((P.dictI l0).getD [])))).length x76c], .bool (P.insTOk (P.dictI l0) (o1, t1))]) rfl (by kernel_rfl) (by kernel_rfl) (by kernel_rfl) (fun _ _ _ h => h) (Or.inl ⟨by rfl, fun z hz => ?_⟩) hS74 ?_
      · obtain ⟨z0q, z1q, z2q⟩ := hz
        go_simp
      try simp only [List.getElem_toArray, List.getElem_cons_zero, List.getElem_cons_succ, Act.put, List.setIfInBounds_toArray, List.set_cons_zero, List.set_cons_succ]
      refine wpAnyH_take (i := 6) (v := .agg #[.slice x76d (P.keptT (P.insTOk (P.dictI l0) (o1, t1)) (P.trie (P.putF (o1, t1) false ((P.dictI l0).getD [])))).length x76c]) rfl (by kernel_rfl) (by kernel_rfl) (by kernel_rfl) (fun _ _ _ h => h) (Or.inl ⟨by rfl, fun z hz => ?_⟩) hS74 ?_
      · obtain ⟨z0q, z1q, z2q⟩ := hz
        go_simp
      try simp only [List.getElem_toArray, List.getElem_cons_zero, List.getElem_cons_succ, Act.put, List.setIfInBounds_toArray, List.set_cons_zero, List.set_cons_succ]
      refine wpAnyH_take (i := 7) (v := .bool (P.insTOk (P.dictI l0) (o1, t1))) rfl (by kernel_rfl) (by kernel_rfl) (by kernel_rfl) (fun _ _ _ h => h) (Or.inl ⟨by rfl, fun z hz => ?_⟩) hS74 ?_
      · obtain ⟨z0q, z1q, z2q⟩ := hz
        go_simp
      try simp only [List.getElem_toArray, List.getElem_cons_zero, List.getElem_cons_succ, Act.put, List.setIfInBounds_toArray, List.set_cons_zero, List.set_cons_succ]
      refine wpAnyH_ready (rs := [9]) (by kernel_rfl) (by simp) ?_
      refine AllReadyH.cons rfl (fun K hK => ?_) AllReadyH.nil
      have zA := HBW77.out.size
      obtain ⟨cb, fb, zb⟩ := BX_78.out
      go_simp
      refine hK.out _ _ (hS74.step ((Below.refl w2.heap.size v75).setCell (p := ⟨v2.heap.size, 0, none⟩) (by show w2.heap.size ≤ v2.heap.size; omega) _) hWA) (fun hS80 => ?_)
      clear hK K
      try simp only [List.getElem_toArray, List.getElem_cons_zero, List.getElem_cons_succ, Act.put, List.setIfInBounds_toArray, List.set_cons_zero, List.set_cons_succ]
      refine wpAnyH_take (i := 10) (v := .bool (P.insTOk (P.dictI l0) (o1, t1))) rfl (by kernel_rfl) (by kernel_rfl) (by kernel_rfl) (fun _ _ _ h => h) (Or.inl ⟨by rfl, fun z hz => ?_⟩) hS80 ?_
      · obtain ⟨z0q, z1q, z2q⟩ := hz
        go_simp
      try simp only [List.getElem_toArray, List.getElem_cons_zero, List.getElem_cons_succ, Act.put, List.setIfInBounds_toArray, List.set_cons_zero, List.set_cons_succ]
      refine wpAnyH_done (by kernel_rfl) ?_ _
      go_wp2_with fail
      go_meet
      refine ⟨v2.heap.size, x76d, x76c, rfl, rfl, World.cell?_setCell_same _ _ _ cb, by omega, by simpa [World.setCell] using zb, ?_, HBW77.out.setCell (by show w2.heap.size ≤ v2.heap.size; omega) _⟩
      exact (RES_79.out.stand (X := fun b => b = v2.heap.size) nodE_ok ((Chg.refl (fun b => b = v2.heap.size) v75).setCell (p := ⟨v2.heap.size, 0, none⟩) rfl _) (fun b hb e => by have h1 := hb.1; have h2 := hb.2; omega)).wide (fun b hb => ⟨by have h1 := hb.1; omega, by have h1 := hb.2; simp only [World.setCell, Array.size_modify]; omega⟩) (fun b hb => hb.2)
  case rest =>
    obtain ⟨bs, sd, sc, rfl, rfl, c0, zbs, yybs, hl, hb⟩ := hcut
    have zzw3 : w2.heap.size ≤ wc.heap.size := hb.size
    have HB_3 := Lib.hid (HB_2.out.trans (hb.mono HB_2.out.size))
    have A0_3 := Lib.hid (A0_2.out.below hb)
    have A1_3 := Lib.hid (A1_2.out.below hb)
    clear HB_2 A0_2 A1_2 hb HS
    have sB_0 := Lib.hid (show Box1 bs (.slice sd (P.keptT (P.insTOk (P.dictI l0) (o1, t1)) (P.trie (P.putF (o1, t1) false ((P.dictI l0).getD [])))).length sc) wc from ⟨c0, yybs⟩)
    have sL_0 := Lib.hid (hl)
    clear c0 hl hWA
    generalize hww : wc = w3 at *
    clear hww
    obtain ⟨c_A0, _⟩ := A0_3.out
    go_wp2_with fail
    refine (toTrie _ l0 _ (HU0.out.below HB_3.out) HSM0.out.small).mono ?_
    rintro e w4 ⟨y1, rfl, hI, hb⟩
    clear c_A0
    have zw4 : w3.heap.size ≤ w4.heap.size := hb.size
    have HB_4 := Lib.hid (HB_3.out.trans (hb.mono HB_3.out.size))
    have A0_4 := Lib.hid (A0_3.out.below hb)
    have A1_4 := Lib.hid (A1_3.out.below hb)
    have sB_1 := Lib.hid (sB_0.out.below hb)
    have sL_1 := Lib.hid (sL_0.out.below nodE_ok hb)
    clear HB_3 A0_3 A1_3 sB_0 sL_0 hb
    have E0_0 := Lib.hid ((by simpa using hI : Nods w4 (Bet (w3.heap.size) w4.heap.size) y1 l0))
    clear hI
    obtain ⟨y1d, y1c, rfl, _, _⟩ := id E0_0.out
    have hb := (Below.refl w4.heap.size w4).alloc (Nat.le_refl _) (.cells #[.slice y1d l0.length y1c] 30)
    have HB_5 := Lib.hid (HB_4.out.trans (hb.mono HB_4.out.size))
    have A0_5 := Lib.hid (A0_4.out.below hb)
    have A1_5 := Lib.hid (A1_4.out.below hb)
    have sB_2 := Lib.hid (sB_1.out.below hb)
    have sL_2 := Lib.hid (sL_1.out.below nodE_ok hb)
    have E0_1 := Lib.hid (E0_0.out.below nodE_ok hb)
    clear HB_4 A0_4 A1_4 sB_1 sL_1 E0_0 hb
    have X0_0 := Lib.hid (Box1.new (.slice y1d l0.length y1c) 30 w4)
    obtain ⟨c_A10, c_A11, _⟩ := A1_5.out
    go_wp2_with fail
    refine (toEntry _ o1 t1 _ (HU1.out.below HB_5.out) HSM1.out.1).mono ?_
    rintro e w5 ⟨y2, rfl, hI, hb⟩
    clear c_A10 c_A11
    have zw5 : w4.heap.size + 1 ≤ w5.heap.size := by have := hb.size; simp at this; omega
    have HB_6 := Lib.hid (HB_5.out.trans (hb.mono HB_5.out.size))
    have A0_6 := Lib.hid (A0_5.out.below hb)
    have A1_6 := Lib.hid (A1_5.out.below hb)
    have sB_3 := Lib.hid (sB_2.out.below hb)
    have sL_3 := Lib.hid (sL_2.out.below nodE_ok hb)
    have E0_2 := Lib.hid (E0_1.out.below nodE_ok hb)
    have X0_1 := Lib.hid (X0_0.out.below hb)
    clear HB_5 A0_5 A1_5 sB_2 sL_2 E0_1 X0_0 hb
    have E1_0 := Lib.hid ((by simpa using hI : Ints w5 (Bet (w4.heap.size + 1) w5.heap.size) y2 o1))
    clear hI
    obtain ⟨y2d, y2c, rfl, _, _⟩ := id E1_0.out
    have hb := (Below.refl w5.heap.size w5).alloc (Nat.le_refl _) (.cells #[.slice y2d o1.length y2c, .string (S t1)] 80)
    have HB_7 := Lib.hid (HB_6.out.trans (hb.mono HB_6.out.size))
    have A0_7 := Lib.hid (A0_6.out.below hb)
    have A1_7 := Lib.hid (A1_6.out.below hb)
    have sB_4 := Lib.hid (sB_3.out.below hb)
    have sL_4 := Lib.hid (sL_3.out.below nodE_ok hb)
    have E0_3 := Lib.hid (E0_2.out.below nodE_ok hb)
    have X0_2 := Lib.hid (X0_1.out.below hb)
    have E1_1 := Lib.hid (E1_0.out.below intE_ok hb)
    clear HB_6 A0_6 A1_6 sB_3 sL_3 E0_2 X0_1 E1_0 hb
    have X1_0 := Lib.hid (Box2E.new (.slice y2d o1.length y2c) t1 80 w5)
    obtain ⟨c_X0, _⟩ := X0_2.out
    obtain ⟨c_X10, c_X11, _⟩ := X1_0.out
    go_wp2_with fail
    refine (impl_insertTrie _ _ l0 o1 t1 _ (Nods.read E0_3.out) (Ints.read E1_1.out) HSM1.out.1 HSM1.out.2 HSM0.out.t30 (HE.out.below HB_7.out HE.out.size)).mono ?_
    rintro e w6 ⟨g0, rfl, hI, hb⟩
    clear c_X0 c_X10 c_X11
    have zw6 : w5.heap.size + 1 ≤ w6.heap.size := by have := hb.size; simp at this; omega
    have HB_8 := Lib.hid (HB_7.out.trans (hb.mono HB_7.out.size))
    have A0_8 := Lib.hid (A0_7.out.below hb)
    have A1_8 := Lib.hid (A1_7.out.below hb)
    have sB_5 := Lib.hid (sB_4.out.below hb)
    have sL_5 := Lib.hid (sL_4.out.below nodE_ok hb)
    have E0_4 := Lib.hid (E0_3.out.below nodE_ok hb)
    have X0_3 := Lib.hid (X0_2.out.below hb)
    have E1_2 := Lib.hid (E1_1.out.below intE_ok hb)
    have X1_1 := Lib.hid (X1_0.out.below hb)
    clear HB_7 A0_7 A1_7 sB_4 sL_4 E0_3 X0_2 E1_1 X1_0 hb
    have gL_0 := Lib.hid ((by simpa using hI : Nods w6 (Bet (w5.heap.size + 1) w6.heap.size) g0 (P.keptT (P.insTOk (P.dictI l0) (o1, t1)) (P.trie (P.putF (o1, t1) false ((P.dictI l0).getD []))))))
    clear hI
    obtain ⟨g0d, g0c, rfl, _, _⟩ := id gL_0.out
    have hb := (Below.refl w6.heap.size w6).alloc (Nat.le_refl _) (.cells #[(.slice g0d (P.keptT (P.insTOk (P.dictI l0) (o1, t1)) (P.trie (P.putF (o1, t1) false ((P.dictI l0).getD [])))).length g0c)] 30)
    have HB_9 := Lib.hid (HB_8.out.trans (hb.mono HB_8.out.size))
    have A0_9 := Lib.hid (A0_8.out.below hb)
    have A1_9 := Lib.hid (A1_8.out.below hb)
    have sB_6 := Lib.hid (sB_5.out.below hb)
    have sL_6 := Lib.hid (sL_5.out.below nodE_ok hb)
    have E0_5 := Lib.hid (E0_4.out.below nodE_ok hb)
    have X0_4 := Lib.hid (X0_3.out.below hb)
    have E1_3 := Lib.hid (E1_2.out.below intE_ok hb)
    have X1_2 := Lib.hid (X1_1.out.below hb)
    have gL_1 := Lib.hid (gL_0.out.below nodE_ok hb)
    clear HB_8 A0_8 A1_8 sB_5 sL_5 E0_4 X0_3 E1_2 X1_1 gL_0 hb
    have gB_0 := Lib.hid (Box1.new (.slice g0d (P.keptT (P.insTOk (P.dictI l0) (o1, t1)) (P.trie (P.putF (o1, t1) false ((P.dictI l0).getD [])))).length g0c) 30 w6)
    obtain ⟨c_gB, _⟩ := gB_0.out
    obtain ⟨c_sB, _⟩ := sB_6.out
    go_wp2_with fail
    refine (eqTrie _ _ (P.keptT (P.insTOk (P.dictI l0) (o1, t1)) (P.trie (P.putF (o1, t1) false ((P.dictI l0).getD [])))) _ (Nods.read gL_1.out) (Nods.read sL_6.out)).mono ?_
    rintro e w7 ⟨rfl, hb⟩
    clear c_gB c_sB
    have zw7 : w6.heap.size + 1 ≤ w7.heap.size := by have := hb.size; simp at this; omega
    have HB_10 := Lib.hid (HB_9.out.trans (hb.mono HB_9.out.size))
    have A0_10 := Lib.hid (A0_9.out.below hb)
    have A1_10 := Lib.hid (A1_9.out.below hb)
    have sB_7 := Lib.hid (sB_6.out.below hb)
    have sL_7 := Lib.hid (sL_6.out.below nodE_ok hb)
    have E0_6 := Lib.hid (E0_5.out.below nodE_ok hb)
    have X0_5 := Lib.hid (X0_4.out.below hb)
    have E1_4 := Lib.hid (E1_3.out.below intE_ok hb)
    have X1_3 := Lib.hid (X1_2.out.below hb)
    have gL_2 := Lib.hid (gL_1.out.below nodE_ok hb)
    have gB_1 := Lib.hid (gB_0.out.below hb)
    clear HB_9 A0_9 A1_9 sB_6 sL_6 E0_5 X0_4 E1_3 X1_2 gL_1 gB_0 hb
    have hb := (Below.refl w7.heap.size w7).drew
    have HB_11 := Lib.hid (HB_10.out.trans (hb.mono HB_10.out.size))
    have A0_11 := Lib.hid (A0_10.out.below hb)
    have A1_11 := Lib.hid (A1_10.out.below hb)
    have sB_8 := Lib.hid (sB_7.out.below hb)
    have sL_8 := Lib.hid (sL_7.out.below nodE_ok hb)
    have E0_7 := Lib.hid (E0_6.out.below nodE_ok hb)
    have X0_6 := Lib.hid (X0_5.out.below hb)
    have E1_5 := Lib.hid (E1_4.out.below intE_ok hb)
    have X1_4 := Lib.hid (X1_3.out.below hb)
    have gL_3 := Lib.hid (gL_2.out.below nodE_ok hb)
    have gB_2 := Lib.hid (gB_1.out.below hb)
    clear HB_10 A0_10 A1_10 sB_7 sL_7 E0_6 X0_5 E1_4 X1_3 gL_2 gB_1 hb
    go_upto_region 14 with fail
    refine wp_region_held_drew (S := fun v : World => v.cell? ⟨w4.heap.size, 0, none⟩ = some (.slice y1d l0.length y1c) ∧ v.cell? ⟨w.heap.size, 0, none⟩ = some (.slice a0d l0.length a0c) ∧ w4.heap.size < v.heap.size ∧ w.heap.size < v.heap.size) (by kernel_rfl) ⟨X0_6.out.1, A0_11.out.1, X0_6.out.2, A0_11.out.2⟩ (fun hS0 => ?_)
    refine wpAnyH_take (i := 0) (v := .agg #[.slice y1d l0.length y1c]) rfl (by kernel_rfl) (by kernel_rfl) (by kernel_rfl) (fun _ _ _ h => h) (Or.inl ⟨by rfl, fun z hz => ?_⟩) hS0 ?_
    · obtain ⟨q1, q2, q3, q4⟩ := hz
      go_simp
    try simp only [List.getElem_toArray, List.getElem_cons_zero, Act.put, List.setIfInBounds_toArray, List.set_cons_zero, List.set_cons_succ]
    refine wpAnyH_take (i := 1) (v := .agg #[.slice a0d l0.length a0c]) rfl (by kernel_rfl) (by kernel_rfl) (by kernel_rfl) (fun _ _ _ h => h) (Or.inl ⟨by rfl, fun z hz => ?_⟩) hS0 ?_
    · obtain ⟨q1, q2, q3, q4⟩ := hz
      go_simp
    try simp only [List.getElem_toArray, List.getElem_cons_zero, List.getElem_cons_succ, Act.put, List.setIfInBounds_toArray, List.set_cons_zero, List.set_cons_succ]
    refine wpAnyH_ready (rs := [2]) (by kernel_rfl) (by simp) ?_
    refine AllReadyH.cons rfl (fun K hK => ?_) AllReadyH.nil
    go_simp
    refine (toTrie _ l0 _ (HU0.out.below HB_11.out) HSM0.out.small).mono ?_
    rintro e w8 ⟨y3, rfl, hI, hb⟩
    have zw8 : w7.heap.size ≤ w8.heap.size := hb.size
    refine hK.out _ _ ⟨(hb.cell (p := ⟨w4.heap.size, 0, none⟩) hS0.2.2.1).trans hS0.1, (hb.cell (p := ⟨w.heap.size, 0, none⟩) hS0.2.2.2).trans hS0.2.1, Nat.lt_of_lt_of_le hS0.2.2.1 hb.size, Nat.lt_of_lt_of_le hS0.2.2.2 hb.size⟩ (fun hS1 => ?_)
    clear hK K
    have HB_12 := Lib.hid (HB_11.out.trans (hb.mono HB_11.out.size))
    have A0_12 := Lib.hid (A0_11.out.below hb)
    have A1_12 := Lib.hid (A1_11.out.below hb)
    have sB_9 := Lib.hid (sB_8.out.below hb)
    have sL_9 := Lib.hid (sL_8.out.below nodE_ok hb)
    have E0_8 := Lib.hid (E0_7.out.below nodE_ok hb)
    have X0_7 := Lib.hid (X0_6.out.below hb)
    have E1_6 := Lib.hid (E1_5.out.below intE_ok hb)
    have X1_5 := Lib.hid (X1_4.out.below hb)
    have gL_4 := Lib.hid (gL_3.out.below nodE_ok hb)
    have gB_3 := Lib.hid (gB_2.out.below hb)
    clear HB_11 A0_11 A1_11 sB_8 sL_8 E0_7 X0_6 E1_5 X1_4 gL_3 gB_2 hb hS0
    have HI3 := Lib.hid hI
    obtain ⟨y3d, y3c, rfl, _, _⟩ := hI
    try simp only [List.getElem_toArray, List.getElem_cons_zero, List.getElem_cons_succ, Act.put, List.setIfInBounds_toArray, List.set_cons_zero, List.set_cons_succ]
    refine wpAnyH_ready (rs := [3]) (by kernel_rfl) (by simp) ?_
    refine AllReadyH.cons rfl (fun K hK => ?_) AllReadyH.nil
    go_simp
    refine (eqTrie _ _ l0 _ (Nods.read E0_8.out) (Nods.read HI3.out)).mono ?_
    rintro e w9 ⟨rfl, hb⟩
    have zw9 : w8.heap.size ≤ w9.heap.size := hb.size
    refine hK.out _ _ ⟨(hb.cell (p := ⟨w4.heap.size, 0, none⟩) hS1.2.2.1).trans hS1.1, (hb.cell (p := ⟨w.heap.size, 0, none⟩) hS1.2.2.2).trans hS1.2.1, Nat.lt_of_lt_of_le hS1.2.2.1 hb.size, Nat.lt_of_lt_of_le hS1.2.2.2 hb.size⟩ (fun hS2 => ?_)
    clear hK K
    have HB_13 := Lib.hid (HB_12.out.trans (hb.mono HB_12.out.size))
    have A0_13 := Lib.hid (A0_12.out.below hb)
    have A1_13 := Lib.hid (A1_12.out.below hb)
    have sB_10 := Lib.hid (sB_9.out.below hb)
    have sL_10 := Lib.hid (sL_9.out.below nodE_ok hb)
    have E0_9 := Lib.hid (E0_8.out.below nodE_ok hb)
    have X0_8 := Lib.hid (X0_7.out.below hb)
    have E1_7 := Lib.hid (E1_6.out.below intE_ok hb)
    have X1_6 := Lib.hid (X1_5.out.below hb)
    have gL_5 := Lib.hid (gL_4.out.below nodE_ok hb)
    have gB_4 := Lib.hid (gB_3.out.below hb)
    clear HB_12 A0_12 A1_12 sB_9 sL_9 E0_8 X0_7 E1_6 X1_5 gL_4 gB_3 hb hS1 HI3
    try simp only [List.getElem_toArray, List.getElem_cons_zero, List.getElem_cons_succ, Act.put, List.setIfInBounds_toArray, List.set_cons_zero, List.set_cons_succ]
    refine wpAnyH_take (i := 4) (v := .bool false) rfl (by kernel_rfl) (by kernel_rfl) (by kernel_rfl) (fun _ _ _ h => h) (Or.inl ⟨by rfl, fun z hz => ?_⟩) hS2 ?_
    · obtain ⟨q1, q2, q3, q4⟩ := hz
      go_simp
    try simp only [List.getElem_toArray, List.getElem_cons_zero, List.getElem_cons_succ, Act.put, List.setIfInBounds_toArray, List.set_cons_zero, List.set_cons_succ]
    refine wpAnyH_done (by kernel_rfl) ?_ _
    clear hS2
    have hb := (Below.refl w9.heap.size w9).drew
    have HB_14 := Lib.hid (HB_13.out.trans (hb.mono HB_13.out.size))
    have A0_14 := Lib.hid (A0_13.out.below hb)
    have A1_14 := Lib.hid (A1_13.out.below hb)
    have sB_11 := Lib.hid (sB_10.out.below hb)
    have sL_11 := Lib.hid (sL_10.out.below nodE_ok hb)
    have E0_10 := Lib.hid (E0_9.out.below nodE_ok hb)
    have X0_9 := Lib.hid (X0_8.out.below hb)
    have E1_8 := Lib.hid (E1_7.out.below intE_ok hb)
    have X1_7 := Lib.hid (X1_6.out.below hb)
    have gL_6 := Lib.hid (gL_5.out.below nodE_ok hb)
    have gB_5 := Lib.hid (gB_4.out.below hb)
    clear HB_13 A0_13 A1_13 sB_10 sL_10 E0_9 X0_8 E1_7 X1_6 gL_5 gB_4 hb
    go_upto_region 16 with fail
    refine wp_region_held_drew (S := fun v : World => v.cell? ⟨w5.heap.size, 0, none⟩ = some (.slice y2d o1.length y2c) ∧ v.cell? ⟨(w.heap.size + 1), 0, none⟩ = some (.slice a1d o1.length a1c) ∧ w5.heap.size < v.heap.size ∧ (w.heap.size + 1) < v.heap.size ∧ v.cell? ⟨w5.heap.size, 1, none⟩ = some (.string (S t1)) ∧ v.cell? ⟨(w.heap.size + 1), 1, none⟩ = some (.string (S t1))) (by kernel_rfl) ⟨X1_7.out.1, A1_14.out.1, X1_7.out.2.2, A1_14.out.2.2, X1_7.out.2.1, A1_14.out.2.1⟩ (fun hS0 => ?_)
    refine wpAnyH_take (i := 0) (v := .agg #[.slice y2d o1.length y2c, .string (S t1)]) rfl (by kernel_rfl) (by kernel_rfl) (by kernel_rfl) (fun _ _ _ h => h) (Or.inl ⟨by rfl, fun z hz => ?_⟩) hS0 ?_
    · obtain ⟨q1, q2, q3, q4, q5, q6⟩ := hz
      go_simp
    try simp only [List.getElem_toArray, List.getElem_cons_zero, Act.put, List.setIfInBounds_toArray, List.set_cons_zero, List.set_cons_succ]
    refine wpAnyH_take (i := 1) (v := .agg #[.slice a1d o1.length a1c, .string (S t1)]) rfl (by kernel_rfl) (by kernel_rfl) (by kernel_rfl) (fun _ _ _ h => h) (Or.inl ⟨by rfl, fun z hz => ?_⟩) hS0 ?_
    · obtain ⟨q1, q2, q3, q4, q5, q6⟩ := hz
      go_simp
    try simp only [List.getElem_toArray, List.getElem_cons_zero, List.getElem_cons_succ, Act.put, List.setIfInBounds_toArray, List.set_cons_zero, List.set_cons_succ]
    refine wpAnyH_ready (rs := [2]) (by kernel_rfl) (by simp) ?_
    refine AllReadyH.cons rfl (fun K hK => ?_) AllReadyH.nil
    go_simp
    refine (toEntry _ o1 t1 _ (HU1.out.below HB_14.out) HSM1.out.1).mono ?_
    rintro e w10 ⟨y4, rfl, hI, hb⟩
    have zw10 : w9.heap.size ≤ w10.heap.size := hb.size
    refine hK.out _ _ ⟨(hb.cell (p := ⟨w5.heap.size, 0, none⟩) hS0.2.2.1).trans hS0.1, (hb.cell (p := ⟨(w.heap.size + 1), 0, none⟩) hS0.2.2.2.1).trans hS0.2.1, Nat.lt_of_lt_of_le hS0.2.2.1 hb.size, Nat.lt_of_lt_of_le hS0.2.2.2.1 hb.size, (hb.cell (p := ⟨w5.heap.size, 1, none⟩) hS0.2.2.1).trans hS0.2.2.2.2.1, (hb.cell (p := ⟨(w.heap.size + 1), 1, none⟩) hS0.2.2.2.1).trans hS0.2.2.2.2.2⟩ (fun hS1 => ?_)
    clear hK K
    have HB_15 := Lib.hid (HB_14.out.trans (hb.mono HB_14.out.size))
    have A0_15 := Lib.hid (A0_14.out.below hb)
    have A1_15 := Lib.hid (A1_14.out.below hb)
    have sB_12 := Lib.hid (sB_11.out.below hb)
    have sL_12 := Lib.hid (sL_11.out.below nodE_ok hb)
    have E0_11 := Lib.hid (E0_10.out.below nodE_ok hb)
    have X0_10 := Lib.hid (X0_9.out.below hb)
    have E1_9 := Lib.hid (E1_8.out.below intE_ok hb)
    have X1_8 := Lib.hid (X1_7.out.below hb)
    have gL_7 := Lib.hid (gL_6.out.below nodE_ok hb)
    have gB_6 := Lib.hid (gB_5.out.below hb)
    clear HB_14 A0_14 A1_14 sB_11 sL_11 E0_10 X0_9 E1_8 X1_7 gL_6 gB_5 hb hS0
    have HI3 := Lib.hid hI
    obtain ⟨y4d, y4c, rfl, _, _⟩ := hI
    try simp only [List.getElem_toArray, List.getElem_cons_zero, List.getElem_cons_succ, Act.put, List.setIfInBounds_toArray, List.set_cons_zero, List.set_cons_succ]
    refine wpAnyH_ready (rs := [3]) (by kernel_rfl) (by simp) ?_
    refine AllReadyH.cons rfl (fun K hK => ?_) AllReadyH.nil
    go_simp
    refine (eqEntry _ _ o1 t1 _ (Ints.read E1_9.out) (Ints.read HI3.out)).mono ?_
    rintro e w11 ⟨rfl, hb⟩
    have zw11 : w10.heap.size ≤ w11.heap.size := hb.size
    refine hK.out _ _ ⟨(hb.cell (p := ⟨w5.heap.size, 0, none⟩) hS1.2.2.1).trans hS1.1, (hb.cell (p := ⟨(w.heap.size + 1), 0, none⟩) hS1.2.2.2.1).trans hS1.2.1, Nat.lt_of_lt_of_le hS1.2.2.1 hb.size, Nat.lt_of_lt_of_le hS1.2.2.2.1 hb.size, (hb.cell (p := ⟨w5.heap.size, 1, none⟩) hS1.2.2.1).trans hS1.2.2.2.2.1, (hb.cell (p := ⟨(w.heap.size + 1), 1, none⟩) hS1.2.2.2.1).trans hS1.2.2.2.2.2⟩ (fun hS2 => ?_)
    clear hK K
    have HB_16 := Lib.hid (HB_15.out.trans (hb.mono HB_15.out.size))
    have A0_16 := Lib.hid (A0_15.out.below hb)
    have A1_16 := Lib.hid (A1_15.out.below hb)
    have sB_13 := Lib.hid (sB_12.out.below hb)
    have sL_13 := Lib.hid (sL_12.out.below nodE_ok hb)
    have E0_12 := Lib.hid (E0_11.out.below nodE_ok hb)
    have X0_11 := Lib.hid (X0_10.out.below hb)
    have E1_10 := Lib.hid (E1_9.out.below intE_ok hb)
    have X1_9 := Lib.hid (X1_8.out.below hb)
    have gL_8 := Lib.hid (gL_7.out.below nodE_ok hb)
    have gB_7 := Lib.hid (gB_6.out.below hb)
    clear HB_15 A0_15 A1_15 sB_12 sL_12 E0_11 X0_10 E1_9 X1_8 gL_7 gB_6 hb hS1 HI3
    try simp only [List.getElem_toArray, List.getElem_cons_zero, List.getElem_cons_succ, Act.put, List.setIfInBounds_toArray, List.set_cons_zero, List.set_cons_succ]
    refine wpAnyH_take (i := 4) (v := .bool false) rfl (by kernel_rfl) (by kernel_rfl) (by kernel_rfl) (fun _ _ _ h => h) (Or.inl ⟨by rfl, fun z hz => ?_⟩) hS2 ?_
    · obtain ⟨q1, q2, q3, q4, q5, q6⟩ := hz
      go_simp
    try simp only [List.getElem_toArray, List.getElem_cons_zero, List.getElem_cons_succ, Act.put, List.setIfInBounds_toArray, List.set_cons_zero, List.set_cons_succ]
    refine wpAnyH_done (by kernel_rfl) ?_ _
    clear hS2
    obtain ⟨c_X0, _⟩ := X0_11.out
    go_wp2_with fail
    refine (markTrie _ l0 (1 : Int) (Bet (w3.heap.size) w4.heap.size) _ E0_12.out HK0.out.1 HK0.out.2.2.1).mono ?_
    rintro e w12 ⟨rfl, _, hc⟩
    have zw12 : w11.heap.size ≤ w12.heap.size := hc.size
    clear c_X0
    have HB_17 := Lib.hid (Chg.belowB HB_16.out hc HB_16.out.size (fun b h => by simp only [Bet] at h; omega))
    have A0_17 := Lib.hid (A0_16.out.stand hc (fun h => by simp only [Bet] at h; omega))
    have A1_17 := Lib.hid (A1_16.out.stand hc (fun h => by simp only [Bet] at h; omega))
    have sB_14 := Lib.hid (sB_13.out.stand hc (fun h => by simp only [Bet] at h; omega))
    have sL_14 := Lib.hid (sL_13.out.stand nodE_ok hc (fun b h1 h2 => by simp only [Bet] at h1 h2; omega))
    have X0_12 := Lib.hid (X0_11.out.stand hc (fun h => by simp only [Bet] at h; omega))
    have E1_11 := Lib.hid (E1_10.out.stand intE_ok hc (fun b h1 h2 => by simp only [Bet] at h1 h2; omega))
    have X1_10 := Lib.hid (X1_9.out.stand hc (fun h => by simp only [Bet] at h; omega))
    have gL_9 := Lib.hid (gL_8.out.stand nodE_ok hc (fun b h1 h2 => by simp only [Bet] at h1 h2; omega))
    have gB_8 := Lib.hid (gB_7.out.stand hc (fun h => by simp only [Bet] at h; omega))
    clear HB_16 A0_16 A1_16 sB_13 sL_13 X0_11 E1_10 X1_9 gL_8 gB_7 hc
    obtain ⟨c_X10, c_X11, _⟩ := X1_10.out
    go_wp2_with fail
    refine (markEntry _ o1 t1 (P.kAtT (1 : Int) l0) (Bet (w4.heap.size + 1) w5.heap.size) _ E1_11.out HK1.out.1 HK1.out.2.1).mono ?_
    rintro e w13 ⟨rfl, _, hc⟩
    have zw13 : w12.heap.size ≤ w13.heap.size := hc.size
    clear c_X10 c_X11
    have HB_18 := Lib.hid (Chg.belowB HB_17.out hc HB_17.out.size (fun b h => by simp only [Bet] at h; omega))
    have A0_18 := Lib.hid (A0_17.out.stand hc (fun h => by simp only [Bet] at h; omega))
    have A1_18 := Lib.hid (A1_17.out.stand hc (fun h => by simp only [Bet] at h; omega))
    have sB_15 := Lib.hid (sB_14.out.stand hc (fun h => by simp only [Bet] at h; omega))
    have sL_15 := Lib.hid (sL_14.out.stand nodE_ok hc (fun b h1 h2 => by simp only [Bet] at h1 h2; omega))
    have X0_13 := Lib.hid (X0_12.out.stand hc (fun h => by simp only [Bet] at h; omega))
    have X1_11 := Lib.hid (X1_10.out.stand hc (fun h => by simp only [Bet] at h; omega))
    have gL_10 := Lib.hid (gL_9.out.stand nodE_ok hc (fun b h1 h2 => by simp only [Bet] at h1 h2; omega))
    have gB_9 := Lib.hid (gB_8.out.stand hc (fun h => by simp only [Bet] at h; omega))
    clear HB_17 A0_17 A1_17 sB_14 sL_14 X0_12 X1_10 gL_9 gB_8 hc
    have hkp : ¬ ((P.kAtT (1 : Int) l0) + (o1.length : Int)) < 0 := by have := HK1.out.2.2.2; omega
    obtain ⟨c_gB, _⟩ := gB_9.out
    obtain ⟨c_sB, _⟩ := sB_15.out
    go_wp2_with fail
    refine (eqTrie _ _ (P.keptT (P.insTOk (P.dictI l0) (o1, t1)) (P.trie (P.putF (o1, t1) false ((P.dictI l0).getD [])))) _ (Nods.read gL_10.out) (Nods.read sL_15.out)).mono ?_
    rintro e w14 ⟨rfl, hb⟩
    clear c_gB c_sB
    have zw14 : w13.heap.size ≤ w14.heap.size := hb.size
    have HB_19 := Lib.hid (HB_18.out.trans (hb.mono HB_18.out.size))
    have A0_19 := Lib.hid (A0_18.out.below hb)
    have A1_19 := Lib.hid (A1_18.out.below hb)
    have sB_16 := Lib.hid (sB_15.out.below hb)
    have sL_16 := Lib.hid (sL_15.out.below nodE_ok hb)
    have X0_14 := Lib.hid (X0_13.out.below hb)
    have X1_12 := Lib.hid (X1_11.out.below hb)
    have gL_11 := Lib.hid (gL_10.out.below nodE_ok hb)
    have gB_10 := Lib.hid (gB_9.out.below hb)
    clear HB_18 A0_18 A1_18 sB_15 sL_15 X0_13 X1_11 gL_10 gB_9 hb
    obtain ⟨c_gB, _⟩ := gB_10.out
    go_wp2_with fail
    refine (markTrie _ (P.keptT (P.insTOk (P.dictI l0) (o1, t1)) (P.trie (P.putF (o1, t1) false ((P.dictI l0).getD [])))) 1 (Bet (w5.heap.size + 1) w6.heap.size) _ gL_11.out (by decide) HKK.out).mono ?_
    rintro e w15 ⟨rfl, hI, hc⟩
    have zw15 : w14.heap.size ≤ w15.heap.size := hc.size
    clear c_gB
    have HB_20 := Lib.hid (Chg.belowB HB_19.out hc HB_19.out.size (fun b h => by simp only [Bet] at h; omega))
    have A0_20 := Lib.hid (A0_19.out.stand hc (fun h => by simp only [Bet] at h; omega))
    have A1_20 := Lib.hid (A1_19.out.stand hc (fun h => by simp only [Bet] at h; omega))
    have sB_17 := Lib.hid (sB_16.out.stand hc (fun h => by simp only [Bet] at h; omega))
    have sL_17 := Lib.hid (sL_16.out.stand nodE_ok hc (fun b h1 h2 => by simp only [Bet] at h1 h2; omega))
    have X0_15 := Lib.hid (X0_14.out.stand hc (fun h => by simp only [Bet] at h; omega))
    have X1_13 := Lib.hid (X1_12.out.stand hc (fun h => by simp only [Bet] at h; omega))
    have gB_11 := Lib.hid (gB_10.out.stand hc (fun h => by simp only [Bet] at h; omega))
    clear HB_19 A0_19 A1_19 sB_16 sL_16 X0_14 X1_12 gB_10 hc hkp
    have mL_0 := Lib.hid (hI)
    clear hI
    obtain ⟨c_gB, _⟩ := gB_11.out
    have HKN := Lib.hid (show ¬ P.kAtT 1 (P.keptT (P.insTOk (P.dictI l0) (o1, t1)) (P.trie (P.putF (o1, t1) false ((P.dictI l0).getD [])))) < 0 by have := P.kAtT_ge 1 (P.keptT (P.insTOk (P.dictI l0) (o1, t1)) (P.trie (P.putF (o1, t1) false ((P.dictI l0).getD [])))); omega)
    go_wp2_with fail
    refine (heldTrie _ (P.keptT (P.insTOk (P.dictI l0) (o1, t1)) (P.trie (P.putF (o1, t1) false ((P.dictI l0).getD [])))) 1 _ (Nods.read mL_0.out) (by decide) HKK.out).mono ?_
    rintro e w16 ⟨rfl, hb⟩
    clear c_gB
    have hkn := HKN.out
    have zw16 : w15.heap.size ≤ w16.heap.size := hb.size
    have HB_21 := Lib.hid (HB_20.out.trans (hb.mono HB_20.out.size))
    have A0_21 := Lib.hid (A0_20.out.below hb)
    have A1_21 := Lib.hid (A1_20.out.below hb)
    have sB_18 := Lib.hid (sB_17.out.below hb)
    have sL_18 := Lib.hid (sL_17.out.below nodE_ok hb)
    have X0_16 := Lib.hid (X0_15.out.below hb)
    have X1_14 := Lib.hid (X1_13.out.below hb)
    have gB_12 := Lib.hid (gB_11.out.below hb)
    have mL_1 := Lib.hid (mL_0.out.below nodE_ok hb)
    clear HB_20 A0_20 A1_20 sB_17 sL_17 X0_15 X1_13 gB_11 mL_0 hb HKN
    have hWA : (w.heap.size + 1) < w16.heap.size := A1_21.out.2.2
    have HS := Lib.hid (show K_law_insertTrie w a0d a0c l0 a1d a1c o1 t1 w16.drew from K_law_insertTrie.step (B := w16.heap.size) ⟨A0_21.out.1, A1_21.out.1, A1_21.out.2.1⟩ (Below.refl _ _).drew hWA)
    go_upto_region 31 with fail
    go_cut [15, 16] (fun p ok wx => ∃ bx sd sc, p = .pointer (some ⟨bx, 0, none⟩) ∧ ok = .bool (P.insTOk (P.dictI l0) (o1, t1)) ∧ wx.cell? ⟨bx, 0, none⟩ = some (.slice sd (P.keptT (P.insTOk (P.dictI l0) (o1, t1)) (P.trie (P.putF (o1, t1) false ((P.dictI l0).getD [])))).length sc) ∧ w16.heap.size ≤ bx ∧ bx < wx.heap.size ∧ Nods wx (Bet w16.heap.size wx.heap.size) (.slice sd (P.keptT (P.insTOk (P.dictI l0) (o1, t1)) (P.trie (P.putF (o1, t1) false ((P.dictI l0).getD [])))).length sc) (P.keptT (P.insTOk (P.dictI l0) (o1, t1)) (P.trie (P.putF (o1, t1) false ((P.dictI l0).getD [])))) ∧ Below w16.heap.size w16 wx)
    case first =>
      have HBW81 := Lib.hid (show Below w16.heap.size w16 w16.drew from (Below.refl _ _).drew)
      have z0 : w16.heap.size ≤ w16.drew.heap.size := Nat.le_refl _
      refine wp_region_held_drew (S := K_law_insertTrie w a0d a0c l0 a1d a1c o1 t1) (by kernel_rfl) HS.out (fun hS0 => ?_)
      refine wpAnyH_take (i := 0) (v := .agg #[.slice a0d l0.length a0c]) rfl (by kernel_rfl) (by kernel_rfl) (by kernel_rfl) (fun _ _ _ h => h) (Or.inl ⟨by rfl, fun z hz => ?_⟩) hS0 ?_
      · obtain ⟨z0q, z1q, z2q⟩ := hz
        go_simp
      try simp only [List.getElem_toArray, List.getElem_cons_zero, Act.put, List.setIfInBounds_toArray, List.set_cons_zero, List.set_cons_succ]
      refine wpAnyH_take (i := 2) (v := .agg #[.slice a1d o1.length a1c, .string (S t1)]) rfl (by kernel_rfl) (by kernel_rfl) (by kernel_rfl) (fun _ _ _ h => h) (Or.inl ⟨by rfl, fun z hz => ?_⟩) hS0 ?_
      · obtain ⟨z0q, z1q, z2q⟩ := hz
        go_simp
      try simp only [List.getElem_toArray, List.getElem_cons_zero, List.getElem_cons_succ, Act.put, List.setIfInBounds_toArray, List.set_cons_zero, List.set_cons_succ]
      generalize w16.drew = v82 at *
      refine wpAnyH_ready (rs := [1, 8]) (by kernel_rfl) (by simp) ?_
      refine AllReadyH.cons rfl (fun K hK => ?_) (AllReadyH.cons rfl (fun K hK => ?_) AllReadyH.nil)
      · skip
        go_simp
        refine (toTrie _ l0 _ (HU0.out.below (HB_21.out.trans (HBW81.out.mono HB_21.out.size))) HSM0.out.small).mono ?_
        rintro e v84 ⟨x85, rfl, hI, hb⟩
        have zv84 : v82.heap.size ≤ v84.heap.size := hb.size
        refine hK.out _ _ (hS0.step (hb.mono HBW81.out.size) hWA) (fun hS83 => ?_)
        clear hK K
        have HBW86 := Lib.hid (HBW81.out.trans (hb.mono HBW81.out.size))
        clear HBW81
        have Q0_87 := Lib.hid (show Nods v84 (Bet v82.heap.size v84.heap.size) x85 l0 from hI)
        obtain ⟨x85d, x85c, rfl, _, _⟩ := hI
        clear hb
        try simp only [List.getElem_toArray, List.getElem_cons_zero, List.getElem_cons_succ, Act.put, List.setIfInBounds_toArray, List.set_cons_zero, List.set_cons_succ]
        refine wpAnyH_ready (rs := [3, 8]) (by kernel_rfl) (by simp) ?_
        refine AllReadyH.cons rfl (fun K hK => ?_) (AllReadyH.cons rfl (fun K hK => ?_) AllReadyH.nil)
        · skip
          go_simp
          refine (toEntry _ o1 t1 _ (HU1.out.below (HB_21.out.trans (HBW86.out.mono HB_21.out.size))) HSM1.out.1).mono ?_
          rintro e v89 ⟨x90, rfl, hI, hb⟩
          have zv89 : v84.heap.size ≤ v89.heap.size := hb.size
          refine hK.out _ _ (hS83.step (hb.mono HBW86.out.size) hWA) (fun hS88 => ?_)
          clear hK K
          have HBW91 := Lib.hid (HBW86.out.trans (hb.mono HBW86.out.size))
          have Q0_92 := Lib.hid (Q0_87.out.below nodE_ok hb)
          clear HBW86 Q0_87
          have Q1_93 := Lib.hid (show Ints v89 (Bet v84.heap.size v89.heap.size) x90 o1 from hI)
          obtain ⟨x90d, x90c, rfl, _, _⟩ := hI
          clear hb
          try simp only [List.getElem_toArray, List.getElem_cons_zero, List.getElem_cons_succ, Act.put, List.setIfInBounds_toArray, List.set_cons_zero, List.set_cons_succ]
          refine wpAnyH_ready (rs := [4, 8]) (by kernel_rfl) (by simp) ?_
          refine AllReadyH.cons rfl (fun K hK => ?_) (AllReadyH.cons rfl (fun K hK => ?_) AllReadyH.nil)
          · skip
            go_simp
            refine (impl_insertTrie _ _ l0 o1 t1 _ (Nods.read Q0_92.out) (Ints.read Q1_93.out) HSM1.out.1 HSM1.out.2 HSM0.out.t30 (HE.out.below (HB_21.out.trans (HBW91.out.mono HB_21.out.size)) HE.out.size)).mono ?_
            rintro e v95 ⟨x96, rfl, hI, hb⟩
            have zv95 : v89.heap.size ≤ v95.heap.size := hb.size
            refine hK.out _ _ (hS88.step (hb.mono HBW91.out.size) hWA) (fun hS94 => ?_)
            clear hK K
            clear Q0_92 Q1_93
            have HBW97 := Lib.hid (HBW91.out.trans (hb.mono HBW91.out.size))
            clear HBW91
            have RES_98 := Lib.hid (show Nods v95 (Bet v89.heap.size v95.heap.size) x96 (P.keptT (P.insTOk (P.dictI l0) (o1, t1)) (P.trie (P.putF (o1, t1) false ((P.dictI l0).getD [])))) from hI)
            obtain ⟨x96d, x96c, rfl, _, _⟩ := hI
            clear hb
            try simp only [List.getElem_toArray, List.getElem_cons_zero, List.getElem_cons_succ, Act.put, List.setIfInBounds_toArray, List.set_cons_zero, List.set_cons_succ]
            refine wpAnyH_take (i := 5) (v := .tuple #[.agg #[.slice x96d (P.keptT (P.insTOk (P.dictI l0) (o1, t1)) (P.trie (P.putF (o1, t1) false ((P.dictI l0).getD [])))).length x96c], .bool (P.insTOk (P.dictI l0) (o1, t1))]) rfl (by kernel_rfl) (by kernel_rfl) (by kernel_rfl) (fun _ _ _ h => h) (Or.inl ⟨by rfl, fun z hz => ?_⟩) hS94 ?_
            · obtain ⟨z0q, z1q, z2q⟩ := hz
              go_simp
            try simp only [List.getElem_toArray, List.getElem_cons_zero, List.getElem_cons_succ, Act.put, List.setIfInBounds_toArray, List.set_cons_zero, List.set_cons_succ]
            refine wpAnyH_take (i := 6) (v := .agg #[.slice x96d (P.keptT (P.insTOk (P.dictI l0) (o1, t1)) (P.trie (P.putF (o1, t1) false ((P.dictI l0).getD [])))).length x96c]) rfl (by kernel_rfl) (by kernel_rfl) (by kernel_rfl) (fun _ _ _ h => h) (Or.inl ⟨by rfl, fun z hz => ?_⟩) hS94 ?_
            · obtain ⟨z0q, z1q, z2q⟩ := hz
              go_simp
            try simp only [List.getElem_toArray, List.getElem_cons_zero, List.getElem_cons_succ, Act.put, List.setIfInBounds_toArray, List.set_cons_zero, List.set_cons_succ]
            refine wpAnyH_take (i := 7) (v := .bool (P.insTOk (P.dictI l0) (o1, t1))) rfl (by kernel_rfl) (by kernel_rfl) (by kernel_rfl) (fun _ _ _ h => h) (Or.inl ⟨by rfl, fun z hz => ?_⟩) hS94 ?_
            · obtain ⟨z0q, z1q, z2q⟩ := hz
              go_simp
            try simp only [List.getElem_toArray, List.getElem_cons_zero, List.getElem_cons_succ, Act.put, List.setIfInBounds_toArray, List.set_cons_zero, List.set_cons_succ]
            refine wpAnyH_ready (rs := [8]) (by kernel_rfl) (by simp) ?_
            refine AllReadyH.cons rfl (fun K hK => ?_) AllReadyH.nil
            go_simp
            have hb := (Below.refl v95.heap.size v95).alloc (Nat.le_refl _) (.cells #[.slice none 0 0] 30)
            have zv100 : v95.heap.size < (v95.alloc (.cells #[.slice none 0 0] 30)).heap.size := by simp
            refine hK.out _ _ (hS94.step (hb.mono HBW97.out.size) hWA) (fun hS99 => ?_)
            clear hK K
            have BX101 := Lib.hid (NBx.new v95 30)
            have HBW102 := Lib.hid (HBW97.out.trans (hb.mono HBW97.out.size))
            have RES_103 := Lib.hid (RES_98.out.below nodE_ok hb)
            clear HBW97 RES_98
            clear hb
            generalize v95.alloc (.cells #[.slice none 0 0] 30) = v100 at *
            try simp only [List.getElem_toArray, List.getElem_cons_zero, List.getElem_cons_succ, Act.put, List.setIfInBounds_toArray, List.set_cons_zero, List.set_cons_succ]
            refine wpAnyH_ready (rs := [9]) (by kernel_rfl) (by simp) ?_
            refine AllReadyH.cons rfl (fun K hK => ?_) AllReadyH.nil
            have zA := HBW102.out.size
            obtain ⟨cb, fb, zb⟩ := BX101.out
            go_simp
            refine hK.out _ _ (hS99.step ((Below.refl w16.heap.size v100).setCell (p := ⟨v95.heap.size, 0, none⟩) (by show w16.heap.size ≤ v95.heap.size; omega) _) hWA) (fun hS104 => ?_)
            clear hK K
            try simp only [List.getElem_toArray, List.getElem_cons_zero, List.getElem_cons_succ, Act.put, List.setIfInBounds_toArray, List.set_cons_zero, List.set_cons_succ]
            refine wpAnyH_take (i := 10) (v := .bool (P.insTOk (P.dictI l0) (o1, t1))) rfl (by kernel_rfl) (by kernel_rfl) (by kernel_rfl) (fun _ _ _ h => h) (Or.inl ⟨by rfl, fun z hz => ?_⟩) hS104 ?_
            · obtain ⟨z0q, z1q, z2q⟩ := hz
              go_simp
            try simp only [List.getElem_toArray, List.getElem_cons_zero, List.getElem_cons_succ, Act.put, List.setIfInBounds_toArray, List.set_cons_zero, List.set_cons_succ]
            refine wpAnyH_done (by kernel_rfl) ?_ _
            go_wp2_with fail
            go_meet
            refine ⟨v95.heap.size, x96d, x96c, rfl, rfl, World.cell?_setCell_same _ _ _ cb, by omega, by simpa [World.setCell] using zb, ?_, HBW102.out.setCell (by show w16.heap.size ≤ v95.heap.size; omega) _⟩
            exact (RES_103.out.stand (X := fun b => b = v95.heap.size) nodE_ok ((Chg.refl (fun b => b = v95.heap.size) v100).setCell (p := ⟨v95.heap.size, 0, none⟩) rfl _) (fun b hb e => by have h1 := hb.1; have h2 := hb.2; omega)).wide (fun b hb => ⟨by have h1 := hb.1; omega, by have h1 := hb.2; simp only [World.setCell, Array.size_modify]; omega⟩) (fun b hb => hb.2)
          · skip
            go_simp
            have hb := (Below.refl v89.heap.size v89).alloc (Nat.le_refl _) (.cells #[.slice none 0 0] 30)
            have zv106 : v89.heap.size < (v89.alloc (.cells #[.slice none 0 0] 30)).heap.size := by simp
            refine hK.out _ _ (hS88.step (hb.mono HBW91.out.size) hWA) (fun hS105 => ?_)
            clear hK K
            have BX107 := Lib.hid (NBx.new v89 30)
            have HBW108 := Lib.hid (HBW91.out.trans (hb.mono HBW91.out.size))
            have Q0_109 := Lib.hid (Q0_92.out.below nodE_ok hb)
            have Q1_110 := Lib.hid (Q1_93.out.below intE_ok hb)
            clear HBW91 Q0_92 Q1_93
            clear hb
            generalize v89.alloc (.cells #[.slice none 0 0] 30) = v106 at *
            try simp only [List.getElem_toArray, List.getElem_cons_zero, List.getElem_cons_succ, Act.put, List.setIfInBounds_toArray, List.set_cons_zero, List.set_cons_succ]
            refine wpAnyH_ready (rs := [4]) (by kernel_rfl) (by simp) ?_
            refine AllReadyH.cons rfl (fun K hK => ?_) AllReadyH.nil
            go_simp
            refine (impl_insertTrie _ _ l0 o1 t1 _ (Nods.read Q0_109.out) (Ints.read Q1_110.out) HSM1.out.1 HSM1.out.2 HSM0.out.t30 (HE.out.below (HB_21.out.trans (HBW108.out.mono HB_21.out.size)) HE.out.size)).mono ?_
            rintro e v112 ⟨x113, rfl, hI, hb⟩
            have zv112 : v106.heap.size ≤ v112.heap.size := hb.size
            refine hK.out _ _ (hS105.step (hb.mono HBW108.out.size) hWA) (fun hS111 => ?_)
            clear hK K
            clear Q0_109 Q1_110
            have HBW114 := Lib.hid (HBW108.out.trans (hb.mono HBW108.out.size))
            have BX_115 := Lib.hid (BX107.out.below hb)
            clear HBW108 BX107
            have RES_116 := Lib.hid (show Nods v112 (Bet v106.heap.size v112.heap.size) x113 (P.keptT (P.insTOk (P.dictI l0) (o1, t1)) (P.trie (P.putF (o1, t1) false ((P.dictI l0).getD [])))) from hI)
            obtain ⟨x113d, x113c, rfl, _, _⟩ := hI
            clear hb
            try simp only [List.getElem_toArray, List.getElem_cons_zero, List.getElem_cons_succ, Act.put, List.setIfInBounds_toArray, List.set_cons_zero, List.set_cons_succ]
            refine wpAnyH_take (i := 5) (v := .tuple #[.agg #[.slice x113d (P.keptT (P.insTOk (P.dictI l0) (o1, t1)) (P.trie (P.putF (o1, t1) false ((P.dictI l0).getD [])))).length x113c], .bool (P.insTOk (P.dictI l0) (o1, t1))]) rfl (by kernel_rfl) (by kernel_rfl) (by kernel_rfl) (fun _ _ _ h => h) (Or.inl ⟨by rfl, fun z hz => ?_⟩) hS111 ?_
            · obtain ⟨z0q, z1q, z2q⟩ := hz
              go_simp
            try simp only [List.getElem_toArray, List.getElem_cons_zero, List.getElem_cons_succ, Act.put, List.setIfInBounds_toArray, List.set_cons_zero, List.set_cons_succ]
            refine wpAnyH_take (i := 6) (v := .agg #[.slice x113d (P.keptT (P.insTOk (P.dictI l0) (o1, t1)) (P.trie (P.putF (o1, t1) false ((P.dictI l0).getD [])))).length x113c]) rfl (by kernel_rfl) (by kernel_rfl) (by kernel_rfl) (fun _ _ _ h => h) (Or.inl ⟨by rfl, fun z hz => ?_⟩) hS111 ?_
            · obtain ⟨z0q, z1q, z2q⟩ := hz
              go_simp
            try simp only [List.getElem_toArray, List.getElem_cons_zero, List.getElem_cons_succ, Act.put, List.setIfInBounds_toArray, List.set_cons_zero, List.set_cons_succ]
            refine wpAnyH_take (i := 7) (v := .bool (P.insTOk (P.dictI l0) (o1, t1))) rfl (by kernel_rfl) (by kernel_rfl) (by kernel_rfl) (fun _ _ _ h => h) (Or.inl ⟨by rfl, fun z hz => ?_⟩) hS111 ?_
            · obtain ⟨z0q, z1q, z2q⟩ := hz
              go_simp
            try simp only [List.getElem_toArray, List.getElem_cons_zero, List.getElem_cons_succ, Act.put, List.setIfInBounds_toArray, List.set_cons_zero, List.set_cons_succ]
            refine wpAnyH_ready (rs := [9]) (by kernel_rfl) (by simp) ?_
            refine AllReadyH.cons rfl (fun K hK => ?_) AllReadyH.nil
            have zA := HBW114.out.size
            obtain ⟨cb, fb, zb⟩ := BX_115.out
            go_simp
            refine hK.out _ _ (hS111.step ((Below.refl w16.heap.size v112).setCell (p := ⟨v89.heap.size, 0, none⟩) (by show w16.heap.size ≤ v89.heap.size; omega) _) hWA) (fun hS117 => ?_)
            clear hK K
            try simp only [List.getElem_toArray, List.getElem_cons_zero, List.getElem_cons_succ, Act.put, List.setIfInBounds_toArray, List.set_cons_zero, List.set_cons_succ]
            refine wpAnyH_take (i := 10) (v := .bool (P.insTOk (P.dictI l0) (o1, t1))) rfl (by kernel_rfl) (by kernel_rfl) (by kernel_rfl) (fun _ _ _ h => h) (Or.inl ⟨by rfl, fun z hz => ?_⟩) hS117 ?_
            · obtain ⟨z0q, z1q, z2q⟩ := hz
              go_simp
            try simp only [List.getElem_toArray, List.getElem_cons_zero, List.getElem_cons_succ, Act.put, List.setIfInBounds_toArray, List.set_cons_zero, List.set_cons_succ]
            refine wpAnyH_done (by kernel_rfl) ?_ _
            go_wp2_with fail
            go_meet
            refine ⟨v89.heap.size, x113d, x113c, rfl, rfl, World.cell?_setCell_same _ _ _ cb, by omega, by simpa [World.setCell] using zb, ?_, HBW114.out.setCell (by show w16.heap.size ≤ v89.heap.size; omega) _⟩
            exact (RES_116.out.stand (X := fun b => b = v89.heap.size) nodE_ok ((Chg.refl (fun b => b = v89.heap.size) v112).setCell (p := ⟨v89.heap.size, 0, none⟩) rfl _) (fun b hb e => by have h1 := hb.1; have h2 := hb.2; omega)).wide (fun b hb => ⟨by have h1 := hb.1; omega, by have h1 := hb.2; simp only [World.setCell, Array.size_modify]; omega⟩) (fun b hb => hb.2)
        · skip
          go_simp
          have hb := (Below.refl v84.heap.size v84).alloc (Nat.le_refl _) (.cells #[.slice none 0 0] 30)
          have zv119 : v84.heap.size < (v84.alloc (.cells #[.slice none 0 0] 30)).heap.size := by simp
          refine hK.out _ _ (hS83.step (hb.mono HBW86.out.size) hWA) (fun hS118 => ?_)
          clear hK K
          have BX120 := Lib.hid (NBx.new v84 30)
          have HBW121 := Lib.hid (HBW86.out.trans (hb.mono HBW86.out.size))
          have Q0_122 := Lib.hid (Q0_87.out.below nodE_ok hb)
          clear HBW86 Q0_87
          clear hb
          generalize v84.alloc (.cells #[.slice none 0 0] 30) = v119 at *
          try simp only [List.getElem_toArray, List.getElem_cons_zero, List.getElem_cons_succ, Act.put, List.setIfInBounds_toArray, List.set_cons_zero, List.set_cons_succ]
          refine wpAnyH_ready (rs := [3]) (by kernel_rfl) (by simp) ?_
          refine AllReadyH.cons rfl (fun K hK => ?_) AllReadyH.nil
          go_simp
          refine (toEntry _ o1 t1 _ (HU1.out.below (HB_21.out.trans (HBW121.out.mono HB_21.out.size))) HSM1.out.1).mono ?_
          rintro e v124 ⟨x125, rfl, hI, hb⟩
          have zv124 : v119.heap.size ≤ v124.heap.size := hb.size
          refine hK.out _ _ (hS118.step (hb.mono HBW121.out.size) hWA) (fun hS123 => ?_)
          clear hK K
          have HBW126 := Lib.hid (HBW121.out.trans (hb.mono HBW121.out.size))
          have Q0_127 := Lib.hid (Q0_122.out.below nodE_ok hb)
          have BX_128 := Lib.hid (BX120.out.below hb)
          clear HBW121 Q0_122 BX120
          have Q1_129 := Lib.hid (show Ints v124 (Bet v119.heap.size v124.heap.size) x125 o1 from hI)
          obtain ⟨x125d, x125c, rfl, _, _⟩ := hI
          clear hb
          try simp only [List.getElem_toArray, List.getElem_cons_zero, List.getElem_cons_succ, Act.put, List.setIfInBounds_toArray, List.set_cons_zero, List.set_cons_succ]
          refine wpAnyH_ready (rs := [4]) (by kernel_rfl) (by simp) ?_
          refine AllReadyH.cons rfl (fun K hK => ?_) AllReadyH.nil
          go_simp
          refine (impl_insertTrie _ _ l0 o1 t1 _ (Nods.read Q0_127.out) (Ints.read Q1_129.out) HSM1.out.1 HSM1.out.2 HSM0.out.t30 (HE.out.below (HB_21.out.trans (HBW126.out.mono HB_21.out.size)) HE.out.size)).mono ?_
          rintro e v131 ⟨x132, rfl, hI, hb⟩
          have zv131 : v124.heap.size ≤ v131.heap.size := hb.size
          refine hK.out _ _ (hS123.step (hb.mono HBW126.out.size) hWA) (fun hS130 => ?_)
          clear hK K
          clear Q0_127 Q1_129
          have HBW133 := Lib.hid (HBW126.out.trans (hb.mono HBW126.out.size))
          have BX_134 := Lib.hid (BX_128.out.below hb)
          clear HBW126 BX_128
          have RES_135 := Lib.hid (show Nods v131 (Bet v124.heap.size v131.heap.size) x132 (P.keptT (P.insTOk (P.dictI l0) (o1, t1)) (P.trie (P.putF (o1, t1) false ((P.dictI l0).getD [])))) from hI)
          obtain ⟨x132d, x132c, rfl, _, _⟩ := hI
          clear hb
          try simp only [List.getElem_toArray, List.getElem_cons_zero, List.getElem_cons_succ, Act.put, List.setIfInBounds_toArray, List.set_cons_zero, List.set_cons_succ]
          refine wpAnyH_take (i := 5) (v := .tuple #[.agg #[.slice x132d (P.keptT (P.insTOk (P.dictI l0) (o1, t1)) (P.trie (P.putF (o1, t1) false ((P.dictI l0).getD [])))).length x132c], .bool (P.insTOk (P.dictI l0) (o1, t1))]) rfl (by kernel_rfl) (by kernel_rfl) (by kernel_rfl) (fun _ _ _ h => h) (Or.inl ⟨by rfl, fun z hz => ?_⟩) hS130 ?_
          · obtain ⟨z0q, z1q, z2q⟩ := hz
            go_simp
          try simp only [List.getElem_toArray, List.getElem_cons_zero, List.getElem_cons_succ, Act.put, List.setIfInBounds_toArray, List.set_cons_zero, List.set_cons_succ]
          refine wpAnyH_take (i := 6) (v := .agg #[.slice x132d (P.keptT (P.insTOk (P.dictI l0) (o1, t1)) (P.trie (P.putF (o1, t1) false ((P.dictI l0).getD [])))).length x132c]) rfl (by kernel_rfl) (by kernel_rfl) (by kernel_rfl) (fun _ _ _ h => h) (Or.inl ⟨by rfl, fun z hz => ?_⟩) hS130 ?_
          · obtain ⟨z0q, z1q, z2q⟩ := hz
            go_simp
          try simp only [List.getElem_toArray, List.getElem_cons_zero, List.getElem_cons_succ, Act.put, List.setIfInBounds_toArray, List.set_cons_zero, List.set_cons_succ]
          refine wpAnyH_take (i := 7) (v := .bool (P.insTOk (P.dictI l0) (o1, t1))) rfl (by kernel_rfl) (by kernel_rfl) (by kernel_rfl) (fun _ _ _ h => h) (Or.inl ⟨by rfl, fun z hz => ?_⟩) hS130 ?_
          · obtain ⟨z0q, z1q, z2q⟩ := hz
            go_simp
          try simp only [List.getElem_toArray, List.getElem_cons_zero, List.getElem_cons_succ, Act.put, List.setIfInBounds_toArray, List.set_cons_zero, List.set_cons_succ]
          refine wpAnyH_ready (rs := [9]) (by kernel_rfl) (by simp) ?_
          refine AllReadyH.cons rfl (fun K hK => ?_) AllReadyH.nil
          have zA := HBW133.out.size
          obtain ⟨cb, fb, zb⟩ := BX_134.out
          go_simp
          refine hK.out _ _ (hS130.step ((Below.refl w16.heap.size v131).setCell (p := ⟨v84.heap.size, 0, none⟩) (by show w16.heap.size ≤ v84.heap.size; omega) _) hWA) (fun hS136 => ?_)
          clear hK K
          try simp only [List.getElem_toArray, List.getElem_cons_zero, List.getElem_cons_succ, Act.put, List.setIfInBounds_toArray, List.set_cons_zero, List.set_cons_succ]
          refine wpAnyH_take (i := 10) (v := .bool (P.insTOk (P.dictI l0) (o1, t1))) rfl (by kernel_rfl) (by kernel_rfl) (by kernel_rfl) (fun _ _ _ h => h) (Or.inl ⟨by rfl, fun z hz => ?_⟩) hS136 ?_
          · obtain ⟨z0q, z1q, z2q⟩ := hz
            go_simp
          try simp only [List.getElem_toArray, List.getElem_cons_zero, List.getElem_cons_succ, Act.put, List.setIfInBounds_toArray, List.set_cons_zero, List.set_cons_succ]
          refine wpAnyH_done (by kernel_rfl) ?_ _
          go_wp2_with fail
          go_meet
          refine ⟨v84.heap.size, x132d, x132c, rfl, rfl, World.cell?_setCell_same _ _ _ cb, by omega, by simpa [World.setCell] using zb, ?_, HBW133.out.setCell (by show w16.heap.size ≤ v84.heap.size; omega) _⟩
          exact (RES_135.out.stand (X := fun b => b = v84.heap.size) nodE_ok ((Chg.refl (fun b => b = v84.heap.size) v131).setCell (p := ⟨v84.heap.size, 0, none⟩) rfl _) (fun b hb e => by have h1 := hb.1; have h2 := hb.2; omega)).wide (fun b hb => ⟨by have h1 := hb.1; omega, by have h1 := hb.2; simp only [World.setCell, Array.size_modify]; omega⟩) (fun b hb => hb.2)
      · skip
        go_simp
        have hb := (Below.refl v82.heap.size v82).alloc (Nat.le_refl _) (.cells #[.slice none 0 0] 30)
        have zv138 : v82.heap.size < (v82.alloc (.cells #[.slice none 0 0] 30)).heap.size := by simp
        refine hK.out _ _ (hS0.step (hb.mono HBW81.out.size) hWA) (fun hS137 => ?_)
        clear hK K
        have BX139 := Lib.hid (NBx.new v82 30)
        have HBW140 := Lib.hid (HBW81.out.trans (hb.mono HBW81.out.size))
        clear HBW81
        clear hb
        generalize v82.alloc (.cells #[.slice none 0 0] 30) = v138 at *
        try simp only [List.getElem_toArray, List.getElem_cons_zero, List.getElem_cons_succ, Act.put, List.setIfInBounds_toArray, List.set_cons_zero, List.set_cons_succ]
        refine wpAnyH_ready (rs := [1]) (by kernel_rfl) (by simp) ?_
        refine AllReadyH.cons rfl (fun K hK => ?_) AllReadyH.nil
        go_simp
        refine (toTrie _ l0 _ (HU0.out.below (HB_21.out.trans (HBW140.out.mono HB_21.out.size))) HSM0.out.small).mono ?_
        rintro e v142 ⟨x143, rfl, hI, hb⟩
        have zv142 : v138.heap.size ≤ v142.heap.size := hb.size
        refine hK.out _ _ (hS137.step (hb.mono HBW140.out.size) hWA) (fun hS141 => ?_)
        clear hK K
        have HBW144 := Lib.hid (HBW140.out.trans (hb.mono HBW140.out.size))
        have BX_145 := Lib.hid (BX139.out.below hb)
        clear HBW140 BX139
        have Q0_146 := Lib.hid (show Nods v142 (Bet v138.heap.size v142.heap.size) x143 l0 from hI)
        obtain ⟨x143d, x143c, rfl, _, _⟩ := hI
        clear hb
        try simp only [List.getElem_toArray, List.getElem_cons_zero, List.getElem_cons_succ, Act.put, List.setIfInBounds_toArray, List.set_cons_zero, List.set_cons_succ]
        refine wpAnyH_ready (rs := [3]) (by kernel_rfl) (by simp) ?_
        refine AllReadyH.cons rfl (fun K hK => ?_) AllReadyH.nil
        go_simp
        refine (toEntry _ o1 t1 _ (HU1.out.below (HB_21.out.trans (HBW144.out.mono HB_21.out.size))) HSM1.out.1).mono ?_
        rintro e v148 ⟨x149, rfl, hI, hb⟩
        have zv148 : v142.heap.size ≤ v148.heap.size := hb.size
        refine hK.out _ _ (hS141.step (hb.mono HBW144.out.size) hWA) (fun hS147 => ?_)
        clear hK K
        have HBW150 := Lib.hid (HBW144.out.trans (hb.mono HBW144.out.size))
        have BX_151 := Lib.hid (BX_145.out.below hb)
        have Q0_152 := Lib.hid (Q0_146.out.below nodE_ok hb)
        clear HBW144 BX_145 Q0_146
        have Q1_153 := Lib.hid (show Ints v148 (Bet v142.heap.size v148.heap.size) x149 o1 from hI)
        obtain ⟨x149d, x149c, rfl, _, _⟩ := hI
        clear hb
        try simp only [List.getElem_toArray, List.getElem_cons_zero, List.getElem_cons_succ, Act.put, List.setIfInBounds_toArray, List.set_cons_zero, List.set_cons_succ]
        refine wpAnyH_ready (rs := [4]) (by kernel_rfl) (by simp) ?_
        refine AllReadyH.cons rfl (fun K hK => ?_) AllReadyH.nil
        go_simp
        refine (impl_insertTrie _ _ l0 o1 t1 _ (Nods.read Q0_152.out) (Ints.read Q1_153.out) HSM1.out.1 HSM1.out.2 HSM0.out.t30 (HE.out.below (HB_21.out.trans (HBW150.out.mono HB_21.out.size)) HE.out.size)).mono ?_
        rintro e v155 ⟨x156, rfl, hI, hb⟩
        have zv155 : v148.heap.size ≤ v155.heap.size := hb.size
        refine hK.out _ _ (hS147.step (hb.mono HBW150.out.size) hWA) (fun hS154 => ?_)
        clear hK K
        clear Q0_152 Q1_153
        have HBW157 := Lib.hid (HBW150.out.trans (hb.mono HBW150.out.size))
        have BX_158 := Lib.hid (BX_151.out.below hb)
        clear HBW150 BX_151
        have RES_159 := Lib.hid (show Nods v155 (Bet v148.heap.size v155.heap.size) x156 (P.keptT (P.insTOk (P.dictI l0) (o1, t1)) (P.trie (P.putF (o1, t1) false ((P.dictI l0).getD [])))) from hI)
        obtain ⟨x156d, x156c, rfl, _, _⟩ := hI
        clear hb
        try simp only [List.getElem_toArray, List.getElem_cons_zero, List.getElem_cons_succ, Act.put, List.setIfInBounds_toArray, List.set_cons_zero, List.set_cons_succ]
        refine wpAnyH_take (i := 5) (v := .tuple #[.agg #[.slice x156d (P.keptT (P.insTOk (P.dictI l0) (o1, t1)) (P.trie (P.putF (o1, t1) false ((P.dictI l0).getD [])))).length x156c], .bool (P.insTOk (P.dictI l0) (o1, t1))]) rfl (by kernel_rfl) (by kernel_rfl) (by kernel_rfl) (fun _ _ _ h => h) (Or.inl ⟨by rfl, fun z hz => ?_⟩) hS154 ?_
        · obtain ⟨z0q, z1q, z2q⟩ := hz
          go_simp
        try simp only [List.getElem_toArray, List.getElem_cons_zero, List.getElem_cons_succ, Act.put, List.setIfInBounds_toArray, List.set_cons_zero, List.set_cons_succ]
        refine wpAnyH_take (i := 6) (v := .agg #[.slice x156d (P.keptT (P.insTOk (P.dictI l0) (o1, t1)) (P.trie (P.putF (o1, t1) false ((P.dictI l0).getD [])))).length x156c]) rfl (by kernel_rfl) (by kernel_rfl) (by kernel_rfl) (fun _ _ _ h => h) (Or.inl ⟨by rfl, fun z hz => ?_⟩) hS154 ?_
        · obtain ⟨z0q, z1q, z2q⟩ := hz
          go_simp
        try simp only [List.getElem_toArray, List.getElem_cons_zero, List.getElem_cons_succ, Act.put, List.setIfInBounds_toArray, List.set_cons_zero, List.set_cons_succ]
        refine wpAnyH_take (i := 7) (v := .bool (P.insTOk (P.dictI l0) (o1, t1))) rfl (by kernel_rfl) (by kernel_rfl) (by kernel_rfl) (fun _ _ _ h => h) (Or.inl ⟨by rfl, fun z hz => ?_⟩) hS154 ?_
        · obtain ⟨z0q, z1q, z2q⟩ := hz
          go_simp
        try simp only [List.getElem_toArray, List.getElem_cons_zero, List.getElem_cons_succ, Act.put, List.setIfInBounds_toArray, List.set_cons_zero, List.set_cons_succ]
        refine wpAnyH_ready (rs := [9]) (by kernel_rfl) (by simp) ?_
        refine AllReadyH.cons rfl (fun K hK => ?_) AllReadyH.nil
        have zA := HBW157.out.size
        obtain ⟨cb, fb, zb⟩ := BX_158.out
        go_simp
        refine hK.out _ _ (hS154.step ((Below.refl w16.heap.size v155).setCell (p := ⟨v82.heap.size, 0, none⟩) (by show w16.heap.size ≤ v82.heap.size; omega) _) hWA) (fun hS160 => ?_)
        clear hK K
        try simp only [List.getElem_toArray, List.getElem_cons_zero, List.getElem_cons_succ, Act.put, List.setIfInBounds_toArray, List.set_cons_zero, List.set_cons_succ]
        refine wpAnyH_take (i := 10) (v := .bool (P.insTOk (P.dictI l0) (o1, t1))) rfl (by kernel_rfl) (by kernel_rfl) (by kernel_rfl) (fun _ _ _ h => h) (Or.inl ⟨by rfl, fun z hz => ?_⟩) hS160 ?_
        · obtain ⟨z0q, z1q, z2q⟩ := hz
          go_simp
        try simp only [List.getElem_toArray, List.getElem_cons_zero, List.getElem_cons_succ, Act.put, List.setIfInBounds_toArray, List.set_cons_zero, List.set_cons_succ]
        refine wpAnyH_done (by kernel_rfl) ?_ _
        go_wp2_with fail
        go_meet
        refine ⟨v82.heap.size, x156d, x156c, rfl, rfl, World.cell?_setCell_same _ _ _ cb, by omega, by simpa [World.setCell] using zb, ?_, HBW157.out.setCell (by show w16.heap.size ≤ v82.heap.size; omega) _⟩
        exact (RES_159.out.stand (X := fun b => b = v82.heap.size) nodE_ok ((Chg.refl (fun b => b = v82.heap.size) v155).setCell (p := ⟨v82.heap.size, 0, none⟩) rfl _) (fun b hb e => by have h1 := hb.1; have h2 := hb.2; omega)).wide (fun b hb => ⟨by have h1 := hb.1; omega, by have h1 := hb.2; simp only [World.setCell, Array.size_modify]; omega⟩) (fun b hb => hb.2)
    case rest =>
      obtain ⟨bh, hd, hc, rfl, rfl, c0, zbh, yybh, hl, hb⟩ := hcut
      have zzw17 : w16.heap.size ≤ wc.heap.size := hb.size
      have HB_22 := Lib.hid (HB_21.out.trans (hb.mono HB_21.out.size))
      have A0_22 := Lib.hid (A0_21.out.below hb)
      have A1_22 := Lib.hid (A1_21.out.below hb)
      have sB_19 := Lib.hid (sB_18.out.below hb)
      have sL_19 := Lib.hid (sL_18.out.below nodE_ok hb)
      have X0_17 := Lib.hid (X0_16.out.below hb)
      have X1_15 := Lib.hid (X1_14.out.below hb)
      have gB_13 := Lib.hid (gB_12.out.below hb)
      have mL_2 := Lib.hid (mL_1.out.below nodE_ok hb)
      clear HB_21 A0_21 A1_21 sB_18 sL_18 X0_16 X1_14 gB_12 mL_1 hb HS
      have hB_0 := Lib.hid (show Box1 bh (.slice hd (P.keptT (P.insTOk (P.dictI l0) (o1, t1)) (P.trie (P.putF (o1, t1) false ((P.dictI l0).getD [])))).length hc) wc from ⟨c0, yybh⟩)
      have hL_0 := Lib.hid (hl)
      clear c0 hl hWA
      generalize hww : wc = w17 at *
      clear hww
      obtain ⟨c_hB, _⟩ := hB_0.out
      obtain ⟨c_sB, _⟩ := sB_19.out
      go_wp2_with fail
      refine (eqTrie _ _ (P.keptT (P.insTOk (P.dictI l0) (o1, t1)) (P.trie (P.putF (o1, t1) false ((P.dictI l0).getD [])))) _ (Nods.read hL_0.out) (Nods.read sL_19.out)).mono ?_
      rintro e w18 ⟨rfl, hb⟩
      clear c_hB c_sB
      have zw18 : w17.heap.size ≤ w18.heap.size := hb.size
      have HB_23 := Lib.hid (HB_22.out.trans (hb.mono HB_22.out.size))
      have A0_23 := Lib.hid (A0_22.out.below hb)
      have A1_23 := Lib.hid (A1_22.out.below hb)
      have sB_20 := Lib.hid (sB_19.out.below hb)
      have sL_20 := Lib.hid (sL_19.out.below nodE_ok hb)
      have X0_18 := Lib.hid (X0_17.out.below hb)
      have X1_16 := Lib.hid (X1_15.out.below hb)
      have gB_14 := Lib.hid (gB_13.out.below hb)
      have mL_3 := Lib.hid (mL_2.out.below nodE_ok hb)
      have hB_1 := Lib.hid (hB_0.out.below hb)
      have hL_1 := Lib.hid (hL_0.out.below nodE_ok hb)
      clear HB_22 A0_22 A1_22 sB_19 sL_19 X0_17 X1_15 gB_13 mL_2 hB_0 hL_0 hb
      obtain ⟨c_gB, _⟩ := gB_14.out
      have HKN := Lib.hid (show ¬ P.kAtT 1 (P.keptT (P.insTOk (P.dictI l0) (o1, t1)) (P.trie (P.putF (o1, t1) false ((P.dictI l0).getD [])))) < 0 by have := P.kAtT_ge 1 (P.keptT (P.insTOk (P.dictI l0) (o1, t1)) (P.trie (P.putF (o1, t1) false ((P.dictI l0).getD [])))); omega)
      go_wp2_with fail
      refine (heldTrie _ (P.keptT (P.insTOk (P.dictI l0) (o1, t1)) (P.trie (P.putF (o1, t1) false ((P.dictI l0).getD [])))) 1 _ (Nods.read mL_3.out) (by decide) HKK.out).mono ?_
      rintro e w19 ⟨rfl, hb⟩
      clear c_gB
      have hkn := HKN.out
      have zw19 : w18.heap.size ≤ w19.heap.size := hb.size
      have HB_24 := Lib.hid (HB_23.out.trans (hb.mono HB_23.out.size))
      have A0_24 := Lib.hid (A0_23.out.below hb)
      have A1_24 := Lib.hid (A1_23.out.below hb)
      have sB_21 := Lib.hid (sB_20.out.below hb)
      have sL_21 := Lib.hid (sL_20.out.below nodE_ok hb)
      have X0_19 := Lib.hid (X0_18.out.below hb)
      have X1_17 := Lib.hid (X1_16.out.below hb)
      have gB_15 := Lib.hid (gB_14.out.below hb)
      have mL_4 := Lib.hid (mL_3.out.below nodE_ok hb)
      have hB_2 := Lib.hid (hB_1.out.below hb)
      have hL_2 := Lib.hid (hL_1.out.below nodE_ok hb)
      clear HB_23 A0_23 A1_23 sB_20 sL_20 X0_18 X1_16 gB_14 mL_3 hB_1 hL_1 hb HKN
      go_wp2
      go_ret
      exact ⟨rfl, HB_24.out⟩
end Go.Proofs.YtojcfpjoikmgcaaGreatDoor
