/- The law of Press: the program's answer is the reference's. -/
import Derived.Deep.DeepCutAuto
import Derived.Deep.RegionLaw
import Derived.Deep.RegionHeld
import Derived.Test.YtpkahblajgaemaaGreatDoorScrI5
import Derived.Test.YtpkahblajgaemaaGreatDoorScrS6
import Derived.Test.YtpkahblajgaemaaGreatDoorTool3
namespace Go.Proofs.YtpkahblajgaemaaGreatDoor
open Go Go.RowKit
set_option maxHeartbeats 8000000
set_option maxRecDepth 100000
def PrsPost (nx : List Int) (sc : Str) (en : Int) (et : Str) (ok : Bool) (w : World) (e : Ending) (w' : World) : Prop :=
  ∃ d c, e = .returned (.tuple #[.agg #[.slice d nx.length c, .string (S sc)], .agg #[.int .i64 en, .string (S et)], .bool ok]) ∧ Ints w' (BetO w.heap.size w'.heap.size (.slice d nx.length c)) (.slice d nx.length c) nx ∧ Below w.heap.size w w'
theorem prs_of {r : (P.Tr × P.Edit) × Bool} {nx : List Int} {sc et : Str} {en : Int} {ok : Bool} (hr : r = (((nx, sc), (en, et)), ok)) (hl : nx.length ≤ 2 ^ 30) {w : World} (e : Ending) (w' : World) (h : PressPost r w e w') : PrsPost nx sc en et ok w e w' := by
  subst hr
  obtain ⟨u, he, ho, hb⟩ := h
  simp only at ho
  obtain ⟨a, c, rfl⟩ := ownK_form ho
  exact ⟨a, c, he, ownK_ints ho hl, hb⟩
/-- what the drawn regions of FnExactPress keep -/
def K_law_press (w : World) (a0d : Option Addr) (a0c : Nat) (l0 : P.Dic) (a1d : Option Addr) (a1c : Nat) (o1 : List Int) (t1 : Str) (v : World) : Prop := v.cell? ⟨w.heap.size, 0, none⟩ = some (.slice a0d l0.length a0c) ∧ v.cell? ⟨(w.heap.size + 1), 0, none⟩ = some (.slice a1d o1.length a1c) ∧ v.cell? ⟨(w.heap.size + 1), 1, none⟩ = some (.string (S t1))
theorem K_law_press.step {w : World} {a0d : Option Addr} {a0c : Nat} {l0 : P.Dic} {a1d : Option Addr} {a1c : Nat} {o1 : List Int} {t1 : Str} {v v' : World} {B : Nat} (h : K_law_press w a0d a0c l0 a1d a1c o1 t1 v) (hb : Below B v v') (hW : (w.heap.size + 1) < B) : K_law_press w a0d a0c l0 a1d a1c o1 t1 v' :=
  ⟨(hb.cell (p := ⟨w.heap.size, 0, none⟩) (by show w.heap.size < B; omega)).trans h.1, (hb.cell (p := ⟨(w.heap.size + 1), 0, none⟩) (by show (w.heap.size + 1) < B; omega)).trans h.2.1, (hb.cell (p := ⟨(w.heap.size + 1), 1, none⟩) (by show (w.heap.size + 1) < B; omega)).trans h.2.2⟩
theorem law_press (u0 : Value) (l0 : P.Dic) (u1 : Value) (o1 : List Int) (t1 : Str) (n2 : Int) (w : World) (hu0 : EntA w u0 l0) (ht0 : ∀ e ∈ l0, e.2.length ≤ 9223372036854775807) (hu1 : IntA w u1 o1) (ht1 : t1.length ≤ 9223372036854775807) (hE : Env w) :
    Calls Tryz.prog 6 #[.agg #[u0], .agg #[u1, .string (S t1)], .int .i64 n2] w fun e w' => e = .returned (.bool true) ∧ Below w.heap.size w w' := by
  have HE := Lib.hid hE; clear hE
  have HU0 := Lib.hid hu0
  have HT0 := Lib.hid ht0; clear ht0
  obtain ⟨a0d, a0c, rfl, hln0, _⟩ := hu0
  have HU1 := Lib.hid hu1
  have HT1 := Lib.hid ht1; clear ht1
  obtain ⟨a1d, a1c, rfl, hln1, _⟩ := hu1
  have hb := (((Below.refl w.heap.size w).alloc (Nat.le_refl _) (.cells #[.slice a0d l0.length a0c] 57)).alloc (by simp) (.cells #[.slice a1d o1.length a1c, .string (S t1)] 58))
  have HB_0 := Lib.hid (hb)
  have A0_0 := Lib.hid ((Box1.new (.slice a0d l0.length a0c) 57 w).below ((Below.refl _ _).alloc (Nat.le_refl _) (.cells #[.slice a1d o1.length a1c, .string (S t1)] 58)))
  have A1_0 := Lib.hid (show Box2E (w.heap.size + 1) (.slice a1d o1.length a1c) t1 _ from by have h := Box2E.new (.slice a1d o1.length a1c) t1 58 (w.alloc (.cells #[.slice a0d l0.length a0c] 57)); simpa using h)
  clear hb
  go_enter Tryz.func6, Tryz.ntmps6
  go_wp2_with fail
  refine (szDictionary _ l0 1048576 _ (HU0.out.below HB_0.out) HT0.out (by decide) (by decide)).mono ?_
  rintro e w1 ⟨⟨r0, rfl, hra0, hrb0⟩, hb⟩
  have zw1 : w.heap.size + 2 ≤ w1.heap.size := by have := hb.size; simp at this; omega
  have HB_1 := Lib.hid (HB_0.out.trans (hb.mono HB_0.out.size))
  have A0_1 := Lib.hid (A0_0.out.below hb)
  have A1_1 := Lib.hid (A1_0.out.below hb)
  clear HB_0 A0_0 A1_0 hb HT0
  have HR0 := Lib.hid hrb0; clear hrb0
  by_cases hneg0 : r0 < 0
  · go_wp2
    go_ret
    exact ⟨rfl, HB_1.out⟩
  have hR0 : r0 = 1048576 - ((l0.length : Int) + P.sizeE l0) := HR0.out (by omega)
  have HSL0 := Lib.hid hR0; have HRN0 := Lib.hid (show 0 ≤ r0 by omega); clear hR0 HR0 hra0
  have hq0 : r0 ≤ 2 ^ 20 := by have := P.sizeE_nonneg l0; have := HSL0.out; omega
  have HRQ0 := Lib.hid hq0; clear hq0
  obtain ⟨c_A10, c_A11, _⟩ := A1_1.out
  go_wp2_with fail
  refine (szTranslator _ o1 t1 r0 _ (HU1.out.below HB_1.out) HT1.out HRN0.out HRQ0.out).mono ?_
  rintro e w2 ⟨⟨r1, rfl, hra1, hrb1⟩, hb⟩
  clear c_A10 c_A11
  have zw2 : w1.heap.size ≤ w2.heap.size := hb.size
  have HB_2 := Lib.hid (HB_1.out.trans (hb.mono HB_1.out.size))
  have A0_2 := Lib.hid (A0_1.out.below hb)
  have A1_2 := Lib.hid (A1_1.out.below hb)
  clear HB_1 A0_1 A1_1 hb HT1
  have HR1 := Lib.hid hrb1; clear hrb1
  by_cases hneg1 : r1 < 0
  · go_wp2
    go_ret
    exact ⟨rfl, HB_2.out⟩
  have hR1 : r1 = r0 - ((o1.length : Int) + t1.length) := HR1.out (by omega)
  have HSL1 := Lib.hid hR1; have HRN1 := Lib.hid (show 0 ≤ r1 by omega); clear hR1 HR1 hra1
  have hq1 : r1 ≤ 2 ^ 20 := by have := P.sizeE_nonneg l0; have := HSL0.out; have := HSL1.out; omega
  have HRQ1 := Lib.hid hq1; clear hq1
  have HS0 := Lib.hid (show (l0.length : Int) + P.sizeE l0 ≤ 1048576 by have := HSL0.out; have := HRN0.out; have := HSL1.out; have := HRN1.out; have := P.sizeE_nonneg l0; omega)
  have HUA0 := HU0; clear HU0
  have HU0 := Lib.hid (HUA0.out.read (small_of HS0.out).len (small_of HS0.out).outs); have HSM0 := Lib.hid (small_of HS0.out)
  clear HUA0
  have HS1 := Lib.hid (show (o1.length : Int) + t1.length ≤ 1048576 by have := HSL0.out; have := HRN0.out; have := HSL1.out; have := HRN1.out; have := P.sizeE_nonneg l0; omega)
  have HUA1 := HU1; clear HU1
  have HSM1 := Lib.hid (show o1.length ≤ 2 ^ 20 ∧ t1.length ≤ 2 ^ 30 by have := HS1.out; omega)
  have HU1 := Lib.hid (HUA1.out.read HSM1.out.1)
  clear HUA1
  have HSS := Lib.hid (show ((l0.length : Int) + P.sizeE l0) + ((o1.length : Int) + t1.length) ≤ 1048576 by have := HSL0.out; have := HRN0.out; have := HSL1.out; have := HRN1.out; have := P.sizeE_nonneg l0; omega)
  obtain ⟨nx, sc, en, et, ok, hr⟩ : ∃ nx sc en et ok, P.press l0 (o1, t1) n2 = (((nx, sc), (en, et)), ok) := ⟨_, _, _, _, _, rfl⟩
  have HR := Lib.hid hr
  have HLEN := Lib.hid (show nx.length ≤ 2 ^ 21 from by have h := P.press_len l0 (o1, t1) n2; rw [hr] at h; simp only at h; have := HSM1.out.1; omega)
  clear hr
  have HK0 := Lib.hid (show 0 ≤ (1 : Int) ∧ (1 : Int) ≤ 2 ^ 40 ∧ (P.kAt (1 : Int) l0) ≤ 2 ^ 40 ∧ 0 ≤ (P.kAt (1 : Int) l0) by have := HS0.out; have := HS1.out; have := P.sizeE_nonneg l0; have := P.kAt_le (1 : Int) l0; have := P.kAt_ge (1 : Int) l0; omega)
  have HK1 := Lib.hid (show 0 ≤ (P.kAt (1 : Int) l0) ∧ (P.kAt (1 : Int) l0) ≤ 2 ^ 40 ∧ ((P.kAt (1 : Int) l0) + (o1.length : Int)) ≤ 2 ^ 40 ∧ 0 ≤ ((P.kAt (1 : Int) l0) + (o1.length : Int)) by have := HS0.out; have := HS1.out; have := P.sizeE_nonneg l0; have := P.kAt_le (1 : Int) l0; have := P.kAt_ge (1 : Int) l0; omega)
  have HG0 := Lib.hid (show 0 ≤ (1 : Int) ∧ (1 : Int) ≤ 2 ^ 40 ∧ ((1 : Int) + (nx.length : Int)) ≤ 2 ^ 40 ∧ 0 ≤ ((1 : Int) + (nx.length : Int)) by have := HLEN.out; omega)
  clear HSL0 HRN0 HRQ0 HSL1 HRN1 HRQ1 HSS
  have hWA : (w.heap.size + 1) < w2.heap.size := A1_2.out.2.2
  have HS := Lib.hid (show K_law_press w a0d a0c l0 a1d a1c o1 t1 w2.drew from K_law_press.step (B := w2.heap.size) ⟨A0_2.out.1, A1_2.out.1, A1_2.out.2.1⟩ (Below.refl _ _).drew hWA)
  go_upto_region 8 with fail
  go_cut [8, 9, 10] (fun q0 q1 q2 wx => ∃ bs0 bs1 s0d s0c, q0 = .pointer (some ⟨bs0, 0, none⟩) ∧ q1 = .pointer (some ⟨bs1, 0, none⟩) ∧ q2 = .bool ok ∧ Box2E bs0 (.slice s0d nx.length s0c) sc wx ∧ w2.heap.size ≤ bs0 ∧ Box2E bs1 (.int .i64 en) et wx ∧ w2.heap.size ≤ bs1 ∧ Ints wx (BetO w2.heap.size wx.heap.size (.slice s0d nx.length s0c)) (.slice s0d nx.length s0c) nx ∧ Below w2.heap.size w2 wx)
  case first =>
    apply lem_cut
    intro ks301
    apply lem_cut
    intro ks31
    apply lem_cut
    intro ks30
    apply lem_cut
    intro ks201
    apply lem_cut
    intro ks3
    apply lem_cut
    intro ks21
    apply lem_cut
    intro ks20
    apply lem_cut
    intro ks101
    apply lem_cut
    intro ks2
    apply lem_cut
    intro ks11
    apply lem_cut
    intro ks10
    apply lem_cut
    intro ks001
    apply lem_cut
    intro ks1
    apply lem_cut
    intro ks01
    apply lem_cut
    intro ks00
    have HBW := Lib.hid (show Below w2.heap.size w2 w2.drew from (Below.refl _ _).drew)
    refine wp_region_held_drew (S := K_law_press w a0d a0c l0 a1d a1c o1 t1) (by kernel_rfl) HS.out (fun hS => ?_)
    refine wpAnyH_take (i := 0) (v := .agg #[.slice a0d l0.length a0c]) rfl (by kernel_rfl) (by kernel_rfl) (by kernel_rfl) (fun _ _ _ h => h) (Or.inl ⟨by rfl, fun z hz => ?_⟩) hS ?_
    · obtain ⟨z0q, z1q, z2q⟩ := hz
      go_simp
    try simp only [List.getElem_toArray, List.getElem_cons_zero, Act.put, List.setIfInBounds_toArray, List.set_cons_zero, List.set_cons_succ]
    refine wpAnyH_take (i := 2) (v := .agg #[.slice a1d o1.length a1c, .string (S t1)]) rfl (by kernel_rfl) (by kernel_rfl) (by kernel_rfl) (fun _ _ _ h => h) (Or.inl ⟨by rfl, fun z hz => ?_⟩) hS ?_
    · obtain ⟨z0q, z1q, z2q⟩ := hz
      go_simp
    try simp only [List.getElem_toArray, List.getElem_cons_zero, List.getElem_cons_succ, Act.put, List.setIfInBounds_toArray, List.set_cons_zero, List.set_cons_succ]
    refine wpAnyH_take (i := 4) (v := .int .i64 n2) rfl (by kernel_rfl) (by kernel_rfl) (by kernel_rfl) (fun _ _ _ h => h) (Or.inl ⟨by rfl, fun z hz => ?_⟩) hS ?_
    · obtain ⟨z0q, z1q, z2q⟩ := hz
      go_simp
    try simp only [List.getElem_toArray, List.getElem_cons_zero, List.getElem_cons_succ, Act.put, List.setIfInBounds_toArray, List.set_cons_zero, List.set_cons_succ]
    generalize w2.drew = v at hS HBW ⊢
    refine wpAnyH_ready (rs := [1, 10, 11]) (by kernel_rfl) (by simp) ?_
    refine AllReadyH.cons rfl (fun K hK => ?_) (AllReadyH.cons rfl (fun K hK => ?_) (AllReadyH.cons rfl (fun K hK => ?_) AllReadyH.nil))
    · skip
      go_simp
      refine (toDictionary _ l0 _ (HU0.out.below (HB_2.out.trans (HBW.out.mono HB_2.out.size))) HSM0.out.len HSM0.out.outs).mono ?_
      rintro e v9 ⟨y9, rfl, hI, hb⟩
      have hwz := HBW.out.size
      have hvz := hb.size
      refine hK.out _ _ (hS.step (hb.mono hwz) hWA) (fun hSn => ?_)
      clear hK K
      have HQ0n := Lib.hid ((Ents.read hI))
      obtain ⟨x0d, x0c, rfl, -, -⟩ := hI
      have HBWn := Lib.hid (HBW.out.trans (hb.mono hwz))
      try simp only [List.getElem_toArray, List.getElem_cons_zero, List.getElem_cons_succ, Act.put, List.setIfInBounds_toArray, List.set_cons_zero, List.set_cons_succ]
      clear hS HBW hb hvz hwz 
      have HALL := And.intro hSn (And.intro HBWn HQ0n)
      clear hSn HBWn HQ0n
      revert HALL
      revert x0c
      revert x0d
      revert v9
      exact ks1
    · skip
      go_simp
      have hb := (Below.refl v.heap.size v).alloc (Nat.le_refl _) (.cells #[.slice none 0 0, .string (S [])] 32)
      have zv : v.heap.size < (v.alloc (.cells #[.slice none 0 0, .string (S [])] 32)).heap.size := by simp
      have hbx := TBx.new (.slice none 0 0) [] v
      have hwz := HBW.out.size
      refine hK.out _ _ (hS.step (hb.mono hwz) hWA) (fun hSn => ?_)
      clear hK K
      try simp only [List.getElem_toArray, List.getElem_cons_zero, List.getElem_cons_succ, Act.put, List.setIfInBounds_toArray, List.set_cons_zero, List.set_cons_succ]
      have HBX0n := Lib.hid (And.intro hbx hwz)
      have HBWn := Lib.hid (HBW.out.trans (hb.mono hwz))
      clear hS HBW hb zv hbx hwz 
      generalize v.alloc (.cells #[.slice none 0 0, .string (S [])] 32) = v9 at hSn HBWn HBX0n ⊢
      generalize v.heap.size = bb0 at HBX0n ⊢
      have HALL := And.intro hSn (And.intro HBWn HBX0n)
      clear hSn HBWn HBX0n
      revert HALL
      revert bb0
      revert v9
      exact ks00
    · skip
      go_simp
      have hb := (Below.refl v.heap.size v).alloc (Nat.le_refl _) (.cells #[.int .i64 0, .string (S [])] 38)
      have zv : v.heap.size < (v.alloc (.cells #[.int .i64 0, .string (S [])] 38)).heap.size := by simp
      have hbx := EBx.new v
      have hwz := HBW.out.size
      refine hK.out _ _ (hS.step (hb.mono hwz) hWA) (fun hSn => ?_)
      clear hK K
      try simp only [List.getElem_toArray, List.getElem_cons_zero, List.getElem_cons_succ, Act.put, List.setIfInBounds_toArray, List.set_cons_zero, List.set_cons_succ]
      have HBX1n := Lib.hid (And.intro hbx hwz)
      have HBWn := Lib.hid (HBW.out.trans (hb.mono hwz))
      clear hS HBW hb zv hbx hwz 
      generalize v.alloc (.cells #[.int .i64 0, .string (S [])] 38) = v9 at hSn HBWn HBX1n ⊢
      generalize v.heap.size = bb1 at HBX1n ⊢
      have HALL := And.intro hSn (And.intro HBWn HBX1n)
      clear hSn HBWn HBX1n
      revert HALL
      revert bb1
      revert v9
      exact ks01
    intro v bb0 HALL
    obtain ⟨hS, HBW, HBX0⟩ := HALL
    refine wpAnyH_ready (rs := [1, 11]) (by kernel_rfl) (by simp) ?_
    refine AllReadyH.cons rfl (fun K hK => ?_) (AllReadyH.cons rfl (fun K hK => ?_) AllReadyH.nil)
    · skip
      go_simp
      refine (toDictionary _ l0 _ (HU0.out.below (HB_2.out.trans (HBW.out.mono HB_2.out.size))) HSM0.out.len HSM0.out.outs).mono ?_
      rintro e v9 ⟨y9, rfl, hI, hb⟩
      have hwz := HBW.out.size
      have hvz := hb.size
      refine hK.out _ _ (hS.step (hb.mono hwz) hWA) (fun hSn => ?_)
      clear hK K
      have hz0 := HBX0.out.1.1
      have HBX0n := Lib.hid (And.intro (HBX0.out.1.below hb) HBX0.out.2)
      have HQ0n := Lib.hid ((Ents.read hI))
      obtain ⟨x0d, x0c, rfl, -, -⟩ := hI
      have HBWn := Lib.hid (HBW.out.trans (hb.mono hwz))
      try simp only [List.getElem_toArray, List.getElem_cons_zero, List.getElem_cons_succ, Act.put, List.setIfInBounds_toArray, List.set_cons_zero, List.set_cons_succ]
      clear hS HBW HBX0 hb hvz hwz hz0
      have HALL := And.intro hSn (And.intro HBWn (And.intro HQ0n HBX0n))
      clear hSn HBWn HQ0n HBX0n
      revert HALL
      revert bb0
      revert x0c
      revert x0d
      revert v9
      exact ks10
    · skip
      go_simp
      have hb := (Below.refl v.heap.size v).alloc (Nat.le_refl _) (.cells #[.int .i64 0, .string (S [])] 38)
      have zv : v.heap.size < (v.alloc (.cells #[.int .i64 0, .string (S [])] 38)).heap.size := by simp
      have hbx := EBx.new v
      have hwz := HBW.out.size
      refine hK.out _ _ (hS.step (hb.mono hwz) hWA) (fun hSn => ?_)
      clear hK K
      try simp only [List.getElem_toArray, List.getElem_cons_zero, List.getElem_cons_succ, Act.put, List.setIfInBounds_toArray, List.set_cons_zero, List.set_cons_succ]
      have hz0 := HBX0.out.1.1
      have HBX0n := Lib.hid (And.intro (HBX0.out.1.below hb) HBX0.out.2)
      have HBX1n := Lib.hid (And.intro hbx hwz)
      have HNEn := Lib.hid (show bb0 ≠ v.heap.size by omega)
      have HBWn := Lib.hid (HBW.out.trans (hb.mono hwz))
      clear hS HBW HBX0 hb zv hbx hwz hz0
      generalize v.alloc (.cells #[.int .i64 0, .string (S [])] 38) = v9 at hSn HBWn HBX0n HBX1n HNEn ⊢
      generalize v.heap.size = bb1 at HBX1n HNEn ⊢
      have HALL := And.intro hSn (And.intro HBWn (And.intro HBX0n (And.intro HBX1n HNEn)))
      clear hSn HBWn HBX0n HBX1n HNEn
      revert HALL
      revert bb1
      revert bb0
      revert v9
      exact ks001
    intro v bb1 HALL
    obtain ⟨hS, HBW, HBX1⟩ := HALL
    refine wpAnyH_ready (rs := [1, 10]) (by kernel_rfl) (by simp) ?_
    refine AllReadyH.cons rfl (fun K hK => ?_) (AllReadyH.cons rfl (fun K hK => ?_) AllReadyH.nil)
    · skip
      go_simp
      refine (toDictionary _ l0 _ (HU0.out.below (HB_2.out.trans (HBW.out.mono HB_2.out.size))) HSM0.out.len HSM0.out.outs).mono ?_
      rintro e v9 ⟨y9, rfl, hI, hb⟩
      have hwz := HBW.out.size
      have hvz := hb.size
      refine hK.out _ _ (hS.step (hb.mono hwz) hWA) (fun hSn => ?_)
      clear hK K
      have hz1 := HBX1.out.1.1
      have HBX1n := Lib.hid (And.intro (HBX1.out.1.below hb) HBX1.out.2)
      have HQ0n := Lib.hid ((Ents.read hI))
      obtain ⟨x0d, x0c, rfl, -, -⟩ := hI
      have HBWn := Lib.hid (HBW.out.trans (hb.mono hwz))
      try simp only [List.getElem_toArray, List.getElem_cons_zero, List.getElem_cons_succ, Act.put, List.setIfInBounds_toArray, List.set_cons_zero, List.set_cons_succ]
      clear hS HBW HBX1 hb hvz hwz hz1
      have HALL := And.intro hSn (And.intro HBWn (And.intro HQ0n HBX1n))
      clear hSn HBWn HQ0n HBX1n
      revert HALL
      revert bb1
      revert x0c
      revert x0d
      revert v9
      exact ks11
    · skip
      go_simp
      have hb := (Below.refl v.heap.size v).alloc (Nat.le_refl _) (.cells #[.slice none 0 0, .string (S [])] 32)
      have zv : v.heap.size < (v.alloc (.cells #[.slice none 0 0, .string (S [])] 32)).heap.size := by simp
      have hbx := TBx.new (.slice none 0 0) [] v
      have hwz := HBW.out.size
      refine hK.out _ _ (hS.step (hb.mono hwz) hWA) (fun hSn => ?_)
      clear hK K
      try simp only [List.getElem_toArray, List.getElem_cons_zero, List.getElem_cons_succ, Act.put, List.setIfInBounds_toArray, List.set_cons_zero, List.set_cons_succ]
      have hz1 := HBX1.out.1.1
      have HBX1n := Lib.hid (And.intro (HBX1.out.1.below hb) HBX1.out.2)
      have HBX0n := Lib.hid (And.intro hbx hwz)
      have HNEn := Lib.hid (show v.heap.size ≠ bb1 by omega)
      have HBWn := Lib.hid (HBW.out.trans (hb.mono hwz))
      exact ks001 _ _ _ ⟨hSn, HBWn, HBX0n, HBX1n, HNEn⟩
    intro v x0d x0c HALL
    obtain ⟨hS, HBW, HQ0⟩ := HALL
    refine wpAnyH_ready (rs := [3, 10, 11]) (by kernel_rfl) (by simp) ?_
    refine AllReadyH.cons rfl (fun K hK => ?_) (AllReadyH.cons rfl (fun K hK => ?_) (AllReadyH.cons rfl (fun K hK => ?_) AllReadyH.nil))
    · skip
      go_simp
      refine (toTranslator _ o1 t1 _ (HU1.out.below (HB_2.out.trans (HBW.out.mono HB_2.out.size))) HSM1.out.1).mono ?_
      rintro e v9 ⟨y9, rfl, hI, hb⟩
      have hwz := HBW.out.size
      have hvz := hb.size
      refine hK.out _ _ (hS.step (hb.mono hwz) hWA) (fun hSn => ?_)
      clear hK K
      have HQ0n := Lib.hid (HQ0.out.below hb)
      have HQ1n := Lib.hid ((Ints.read hI))
      obtain ⟨x1d, x1c, rfl, -, -⟩ := hI
      have HBWn := Lib.hid (HBW.out.trans (hb.mono hwz))
      try simp only [List.getElem_toArray, List.getElem_cons_zero, List.getElem_cons_succ, Act.put, List.setIfInBounds_toArray, List.set_cons_zero, List.set_cons_succ]
      clear hS HBW HQ0 hb hvz hwz 
      have HALL := And.intro hSn (And.intro HBWn (And.intro HQ0n HQ1n))
      clear hSn HBWn HQ0n HQ1n
      revert HALL
      revert x1c
      revert x1d
      revert x0c
      revert x0d
      revert v9
      exact ks2
    · skip
      go_simp
      have hb := (Below.refl v.heap.size v).alloc (Nat.le_refl _) (.cells #[.slice none 0 0, .string (S [])] 32)
      have zv : v.heap.size < (v.alloc (.cells #[.slice none 0 0, .string (S [])] 32)).heap.size := by simp
      have hbx := TBx.new (.slice none 0 0) [] v
      have hwz := HBW.out.size
      refine hK.out _ _ (hS.step (hb.mono hwz) hWA) (fun hSn => ?_)
      clear hK K
      try simp only [List.getElem_toArray, List.getElem_cons_zero, List.getElem_cons_succ, Act.put, List.setIfInBounds_toArray, List.set_cons_zero, List.set_cons_succ]
      have HQ0n := Lib.hid (HQ0.out.below hb)
      have HBX0n := Lib.hid (And.intro hbx hwz)
      have HBWn := Lib.hid (HBW.out.trans (hb.mono hwz))
      exact ks10 _ _ _ _ ⟨hSn, HBWn, HQ0n, HBX0n⟩
    · skip
      go_simp
      have hb := (Below.refl v.heap.size v).alloc (Nat.le_refl _) (.cells #[.int .i64 0, .string (S [])] 38)
      have zv : v.heap.size < (v.alloc (.cells #[.int .i64 0, .string (S [])] 38)).heap.size := by simp
      have hbx := EBx.new v
      have hwz := HBW.out.size
      refine hK.out _ _ (hS.step (hb.mono hwz) hWA) (fun hSn => ?_)
      clear hK K
      try simp only [List.getElem_toArray, List.getElem_cons_zero, List.getElem_cons_succ, Act.put, List.setIfInBounds_toArray, List.set_cons_zero, List.set_cons_succ]
      have HQ0n := Lib.hid (HQ0.out.below hb)
      have HBX1n := Lib.hid (And.intro hbx hwz)
      have HBWn := Lib.hid (HBW.out.trans (hb.mono hwz))
      exact ks11 _ _ _ _ ⟨hSn, HBWn, HQ0n, HBX1n⟩
    intro v bb0 bb1 HALL
    obtain ⟨hS, HBW, HBX0, HBX1, HNE⟩ := HALL
    refine wpAnyH_ready (rs := [1]) (by kernel_rfl) (by simp) ?_
    refine AllReadyH.cons rfl (fun K hK => ?_) AllReadyH.nil
    · skip
      go_simp
      refine (toDictionary _ l0 _ (HU0.out.below (HB_2.out.trans (HBW.out.mono HB_2.out.size))) HSM0.out.len HSM0.out.outs).mono ?_
      rintro e v9 ⟨y9, rfl, hI, hb⟩
      have hwz := HBW.out.size
      have hvz := hb.size
      refine hK.out _ _ (hS.step (hb.mono hwz) hWA) (fun hSn => ?_)
      clear hK K
      have hz0 := HBX0.out.1.1
      have HBX0n := Lib.hid (And.intro (HBX0.out.1.below hb) HBX0.out.2)
      have hz1 := HBX1.out.1.1
      have HBX1n := Lib.hid (And.intro (HBX1.out.1.below hb) HBX1.out.2)
      have HQ0n := Lib.hid ((Ents.read hI))
      obtain ⟨x0d, x0c, rfl, -, -⟩ := hI
      have HBWn := Lib.hid (HBW.out.trans (hb.mono hwz))
      have HNEn := Lib.hid HNE.out
      try simp only [List.getElem_toArray, List.getElem_cons_zero, List.getElem_cons_succ, Act.put, List.setIfInBounds_toArray, List.set_cons_zero, List.set_cons_succ]
      clear hS HBW HBX0 HBX1 HNE hb hvz hwz hz0 hz1
      have HALL := And.intro hSn (And.intro HBWn (And.intro HQ0n (And.intro HBX0n (And.intro HBX1n HNEn))))
      clear hSn HBWn HQ0n HBX0n HBX1n HNEn
      revert HALL
      revert bb1
      revert bb0
      revert x0c
      revert x0d
      revert v9
      exact ks101
    intro v x0d x0c bb0 HALL
    obtain ⟨hS, HBW, HQ0, HBX0⟩ := HALL
    refine wpAnyH_ready (rs := [3, 11]) (by kernel_rfl) (by simp) ?_
    refine AllReadyH.cons rfl (fun K hK => ?_) (AllReadyH.cons rfl (fun K hK => ?_) AllReadyH.nil)
    · skip
      go_simp
      refine (toTranslator _ o1 t1 _ (HU1.out.below (HB_2.out.trans (HBW.out.mono HB_2.out.size))) HSM1.out.1).mono ?_
      rintro e v9 ⟨y9, rfl, hI, hb⟩
      have hwz := HBW.out.size
      have hvz := hb.size
      refine hK.out _ _ (hS.step (hb.mono hwz) hWA) (fun hSn => ?_)
      clear hK K
      have HQ0n := Lib.hid (HQ0.out.below hb)
      have hz0 := HBX0.out.1.1
      have HBX0n := Lib.hid (And.intro (HBX0.out.1.below hb) HBX0.out.2)
      have HQ1n := Lib.hid ((Ints.read hI))
      obtain ⟨x1d, x1c, rfl, -, -⟩ := hI
      have HBWn := Lib.hid (HBW.out.trans (hb.mono hwz))
      try simp only [List.getElem_toArray, List.getElem_cons_zero, List.getElem_cons_succ, Act.put, List.setIfInBounds_toArray, List.set_cons_zero, List.set_cons_succ]
      clear hS HBW HQ0 HBX0 hb hvz hwz hz0
      have HALL := And.intro hSn (And.intro HBWn (And.intro HQ0n (And.intro HQ1n HBX0n)))
      clear hSn HBWn HQ0n HQ1n HBX0n
      revert HALL
      revert bb0
      revert x1c
      revert x1d
      revert x0c
      revert x0d
      revert v9
      exact ks20
    · skip
      go_simp
      have hb := (Below.refl v.heap.size v).alloc (Nat.le_refl _) (.cells #[.int .i64 0, .string (S [])] 38)
      have zv : v.heap.size < (v.alloc (.cells #[.int .i64 0, .string (S [])] 38)).heap.size := by simp
      have hbx := EBx.new v
      have hwz := HBW.out.size
      refine hK.out _ _ (hS.step (hb.mono hwz) hWA) (fun hSn => ?_)
      clear hK K
      try simp only [List.getElem_toArray, List.getElem_cons_zero, List.getElem_cons_succ, Act.put, List.setIfInBounds_toArray, List.set_cons_zero, List.set_cons_succ]
      have HQ0n := Lib.hid (HQ0.out.below hb)
      have hz0 := HBX0.out.1.1
      have HBX0n := Lib.hid (And.intro (HBX0.out.1.below hb) HBX0.out.2)
      have HBX1n := Lib.hid (And.intro hbx hwz)
      have HNEn := Lib.hid (show bb0 ≠ v.heap.size by omega)
      have HBWn := Lib.hid (HBW.out.trans (hb.mono hwz))
      exact ks101 _ _ _ _ _ ⟨hSn, HBWn, HQ0n, HBX0n, HBX1n, HNEn⟩
    intro v x0d x0c bb1 HALL
    obtain ⟨hS, HBW, HQ0, HBX1⟩ := HALL
    refine wpAnyH_ready (rs := [3, 10]) (by kernel_rfl) (by simp) ?_
    refine AllReadyH.cons rfl (fun K hK => ?_) (AllReadyH.cons rfl (fun K hK => ?_) AllReadyH.nil)
    · skip
      go_simp
      refine (toTranslator _ o1 t1 _ (HU1.out.below (HB_2.out.trans (HBW.out.mono HB_2.out.size))) HSM1.out.1).mono ?_
      rintro e v9 ⟨y9, rfl, hI, hb⟩
      have hwz := HBW.out.size
      have hvz := hb.size
      refine hK.out _ _ (hS.step (hb.mono hwz) hWA) (fun hSn => ?_)
      clear hK K
      have HQ0n := Lib.hid (HQ0.out.below hb)
      have hz1 := HBX1.out.1.1
      have HBX1n := Lib.hid (And.intro (HBX1.out.1.below hb) HBX1.out.2)
      have HQ1n := Lib.hid ((Ints.read hI))
      obtain ⟨x1d, x1c, rfl, -, -⟩ := hI
      have HBWn := Lib.hid (HBW.out.trans (hb.mono hwz))
      try simp only [List.getElem_toArray, List.getElem_cons_zero, List.getElem_cons_succ, Act.put, List.setIfInBounds_toArray, List.set_cons_zero, List.set_cons_succ]
      clear hS HBW HQ0 HBX1 hb hvz hwz hz1
      have HALL := And.intro hSn (And.intro HBWn (And.intro HQ0n (And.intro HQ1n HBX1n)))
      clear hSn HBWn HQ0n HQ1n HBX1n
      revert HALL
      revert bb1
      revert x1c
      revert x1d
      revert x0c
      revert x0d
      revert v9
      exact ks21
    · skip
      go_simp
      have hb := (Below.refl v.heap.size v).alloc (Nat.le_refl _) (.cells #[.slice none 0 0, .string (S [])] 32)
      have zv : v.heap.size < (v.alloc (.cells #[.slice none 0 0, .string (S [])] 32)).heap.size := by simp
      have hbx := TBx.new (.slice none 0 0) [] v
      have hwz := HBW.out.size
      refine hK.out _ _ (hS.step (hb.mono hwz) hWA) (fun hSn => ?_)
      clear hK K
      try simp only [List.getElem_toArray, List.getElem_cons_zero, List.getElem_cons_succ, Act.put, List.setIfInBounds_toArray, List.set_cons_zero, List.set_cons_succ]
      have HQ0n := Lib.hid (HQ0.out.below hb)
      have hz1 := HBX1.out.1.1
      have HBX1n := Lib.hid (And.intro (HBX1.out.1.below hb) HBX1.out.2)
      have HBX0n := Lib.hid (And.intro hbx hwz)
      have HNEn := Lib.hid (show v.heap.size ≠ bb1 by omega)
      have HBWn := Lib.hid (HBW.out.trans (hb.mono hwz))
      exact ks101 _ _ _ _ _ ⟨hSn, HBWn, HQ0n, HBX0n, HBX1n, HNEn⟩
    intro v x0d x0c x1d x1c HALL
    obtain ⟨hS, HBW, HQ0, HQ1⟩ := HALL
    refine wpAnyH_ready (rs := [5, 10, 11]) (by kernel_rfl) (by simp) ?_
    refine AllReadyH.cons rfl (fun K hK => ?_) (AllReadyH.cons rfl (fun K hK => ?_) (AllReadyH.cons rfl (fun K hK => ?_) AllReadyH.nil))
    · skip
      go_simp
      refine ((spec_press _ _ l0 o1 t1 n2 _ HQ0.out HQ1.out HSM0.out HSM1.out.1 HSM1.out.2).mono (prs_of HR.out (Nat.le_trans HLEN.out (by decide)))).mono ?_
      rintro e v9 ⟨s0d, s0c, rfl, hrow0, hb⟩
      have hwz := HBW.out.size
      have hvz := hb.size
      refine hK.out _ _ (hS.step (hb.mono hwz) hWA) (fun hSn => ?_)
      clear hK K
      obtain ⟨lo, hi, hlo1, hhi1, hres0⟩ : ∃ lo hi : Nat, (w2.heap.size ≤ lo) ∧ (hi ≤ v9.heap.size) ∧ Ints v9 (BetO lo hi (.slice s0d nx.length s0c)) (.slice s0d nx.length s0c) nx := ⟨v.heap.size, v9.heap.size, hwz, Nat.le_refl _, hrow0⟩
      have HLOn := Lib.hid (And.intro hlo1 hhi1)
      have HRES0n := Lib.hid hres0
      clear hlo1 hhi1 hres0 hrow0 
      have HBWn := Lib.hid (HBW.out.trans (hb.mono hwz))
      try simp only [List.getElem_toArray, List.getElem_cons_zero, List.getElem_cons_succ, Act.put, List.setIfInBounds_toArray, List.set_cons_zero, List.set_cons_succ]
      refine wpAnyH_take (i := 6) (v := .tuple #[.agg #[.slice s0d nx.length s0c, .string (S sc)], .agg #[.int .i64 en, .string (S et)], .bool ok]) rfl (by kernel_rfl) (by kernel_rfl) (by kernel_rfl) (fun _ _ _ h => h) (Or.inl ⟨by rfl, fun z hz => ?_⟩) hSn ?_
      · obtain ⟨z0q, z1q, z2q⟩ := hz
        go_simp
      try simp only [List.getElem_toArray, List.getElem_cons_zero, List.getElem_cons_succ, Act.put, List.setIfInBounds_toArray, List.set_cons_zero, List.set_cons_succ]
      refine wpAnyH_take (i := 7) (v := .agg #[.slice s0d nx.length s0c, .string (S sc)]) rfl (by kernel_rfl) (by kernel_rfl) (by kernel_rfl) (fun _ _ _ h => h) (Or.inl ⟨by rfl, fun z hz => ?_⟩) hSn ?_
      · obtain ⟨z0q, z1q, z2q⟩ := hz
        go_simp
      try simp only [List.getElem_toArray, List.getElem_cons_zero, List.getElem_cons_succ, Act.put, List.setIfInBounds_toArray, List.set_cons_zero, List.set_cons_succ]
      refine wpAnyH_take (i := 8) (v := .agg #[.int .i64 en, .string (S et)]) rfl (by kernel_rfl) (by kernel_rfl) (by kernel_rfl) (fun _ _ _ h => h) (Or.inl ⟨by rfl, fun z hz => ?_⟩) hSn ?_
      · obtain ⟨z0q, z1q, z2q⟩ := hz
        go_simp
      try simp only [List.getElem_toArray, List.getElem_cons_zero, List.getElem_cons_succ, Act.put, List.setIfInBounds_toArray, List.set_cons_zero, List.set_cons_succ]
      refine wpAnyH_take (i := 9) (v := .bool ok) rfl (by kernel_rfl) (by kernel_rfl) (by kernel_rfl) (fun _ _ _ h => h) (Or.inl ⟨by rfl, fun z hz => ?_⟩) hSn ?_
      · obtain ⟨z0q, z1q, z2q⟩ := hz
        go_simp
      try simp only [List.getElem_toArray, List.getElem_cons_zero, List.getElem_cons_succ, Act.put, List.setIfInBounds_toArray, List.set_cons_zero, List.set_cons_succ]
      clear hS HBW HQ0 HQ1 hb hvz hwz 
      have HALL := And.intro hSn (And.intro HBWn (And.intro HLOn HRES0n))
      clear hSn HBWn HLOn HRES0n
      revert HALL
      revert hi
      revert lo
      revert s0c
      revert s0d
      revert x1c
      revert x1d
      revert x0c
      revert x0d
      revert v9
      exact ks3
    · skip
      go_simp
      have hb := (Below.refl v.heap.size v).alloc (Nat.le_refl _) (.cells #[.slice none 0 0, .string (S [])] 32)
      have zv : v.heap.size < (v.alloc (.cells #[.slice none 0 0, .string (S [])] 32)).heap.size := by simp
      have hbx := TBx.new (.slice none 0 0) [] v
      have hwz := HBW.out.size
      refine hK.out _ _ (hS.step (hb.mono hwz) hWA) (fun hSn => ?_)
      clear hK K
      try simp only [List.getElem_toArray, List.getElem_cons_zero, List.getElem_cons_succ, Act.put, List.setIfInBounds_toArray, List.set_cons_zero, List.set_cons_succ]
      have HQ0n := Lib.hid (HQ0.out.below hb)
      have HQ1n := Lib.hid (HQ1.out.below hb)
      have HBX0n := Lib.hid (And.intro hbx hwz)
      have HBWn := Lib.hid (HBW.out.trans (hb.mono hwz))
      exact ks20 _ _ _ _ _ _ ⟨hSn, HBWn, HQ0n, HQ1n, HBX0n⟩
    · skip
      go_simp
      have hb := (Below.refl v.heap.size v).alloc (Nat.le_refl _) (.cells #[.int .i64 0, .string (S [])] 38)
      have zv : v.heap.size < (v.alloc (.cells #[.int .i64 0, .string (S [])] 38)).heap.size := by simp
      have hbx := EBx.new v
      have hwz := HBW.out.size
      refine hK.out _ _ (hS.step (hb.mono hwz) hWA) (fun hSn => ?_)
      clear hK K
      try simp only [List.getElem_toArray, List.getElem_cons_zero, List.getElem_cons_succ, Act.put, List.setIfInBounds_toArray, List.set_cons_zero, List.set_cons_succ]
      have HQ0n := Lib.hid (HQ0.out.below hb)
      have HQ1n := Lib.hid (HQ1.out.below hb)
      have HBX1n := Lib.hid (And.intro hbx hwz)
      have HBWn := Lib.hid (HBW.out.trans (hb.mono hwz))
      exact ks21 _ _ _ _ _ _ ⟨hSn, HBWn, HQ0n, HQ1n, HBX1n⟩
    intro v x0d x0c bb0 bb1 HALL
    obtain ⟨hS, HBW, HQ0, HBX0, HBX1, HNE⟩ := HALL
    refine wpAnyH_ready (rs := [3]) (by kernel_rfl) (by simp) ?_
    refine AllReadyH.cons rfl (fun K hK => ?_) AllReadyH.nil
    · skip
      go_simp
      refine (toTranslator _ o1 t1 _ (HU1.out.below (HB_2.out.trans (HBW.out.mono HB_2.out.size))) HSM1.out.1).mono ?_
      rintro e v9 ⟨y9, rfl, hI, hb⟩
      have hwz := HBW.out.size
      have hvz := hb.size
      refine hK.out _ _ (hS.step (hb.mono hwz) hWA) (fun hSn => ?_)
      clear hK K
      have HQ0n := Lib.hid (HQ0.out.below hb)
      have hz0 := HBX0.out.1.1
      have HBX0n := Lib.hid (And.intro (HBX0.out.1.below hb) HBX0.out.2)
      have hz1 := HBX1.out.1.1
      have HBX1n := Lib.hid (And.intro (HBX1.out.1.below hb) HBX1.out.2)
      have HQ1n := Lib.hid ((Ints.read hI))
      obtain ⟨x1d, x1c, rfl, -, -⟩ := hI
      have HBWn := Lib.hid (HBW.out.trans (hb.mono hwz))
      have HNEn := Lib.hid HNE.out
      try simp only [List.getElem_toArray, List.getElem_cons_zero, List.getElem_cons_succ, Act.put, List.setIfInBounds_toArray, List.set_cons_zero, List.set_cons_succ]
      clear hS HBW HQ0 HBX0 HBX1 HNE hb hvz hwz hz0 hz1
      have HALL := And.intro hSn (And.intro HBWn (And.intro HQ0n (And.intro HQ1n (And.intro HBX0n (And.intro HBX1n HNEn)))))
      clear hSn HBWn HQ0n HQ1n HBX0n HBX1n HNEn
      revert HALL
      revert bb1
      revert bb0
      revert x1c
      revert x1d
      revert x0c
      revert x0d
      revert v9
      exact ks201
    intro v x0d x0c x1d x1c bb0 HALL
    obtain ⟨hS, HBW, HQ0, HQ1, HBX0⟩ := HALL
    refine wpAnyH_ready (rs := [5, 11]) (by kernel_rfl) (by simp) ?_
    refine AllReadyH.cons rfl (fun K hK => ?_) (AllReadyH.cons rfl (fun K hK => ?_) AllReadyH.nil)
    · skip
      go_simp
      refine ((spec_press _ _ l0 o1 t1 n2 _ HQ0.out HQ1.out HSM0.out HSM1.out.1 HSM1.out.2).mono (prs_of HR.out (Nat.le_trans HLEN.out (by decide)))).mono ?_
      rintro e v9 ⟨s0d, s0c, rfl, hrow0, hb⟩
      have hwz := HBW.out.size
      have hvz := hb.size
      refine hK.out _ _ (hS.step (hb.mono hwz) hWA) (fun hSn => ?_)
      clear hK K
      have hz0 := HBX0.out.1.1
      have HBX0n := Lib.hid (And.intro (HBX0.out.1.below hb) HBX0.out.2)
      obtain ⟨lo, hi, hlo1, hhi1, hap1, hres0⟩ : ∃ lo hi : Nat, (w2.heap.size ≤ lo) ∧ (hi ≤ v9.heap.size) ∧ ((bb0 < lo ∨ hi ≤ bb0)) ∧ Ints v9 (BetO lo hi (.slice s0d nx.length s0c)) (.slice s0d nx.length s0c) nx := ⟨v.heap.size, v9.heap.size, hwz, Nat.le_refl _, by omega, hrow0⟩
      have HLOn := Lib.hid (And.intro hlo1 hhi1)
      have HAPn := Lib.hid hap1
      have HRES0n := Lib.hid hres0
      clear hlo1 hhi1 hap1 hres0 hrow0 
      have HBWn := Lib.hid (HBW.out.trans (hb.mono hwz))
      try simp only [List.getElem_toArray, List.getElem_cons_zero, List.getElem_cons_succ, Act.put, List.setIfInBounds_toArray, List.set_cons_zero, List.set_cons_succ]
      refine wpAnyH_take (i := 6) (v := .tuple #[.agg #[.slice s0d nx.length s0c, .string (S sc)], .agg #[.int .i64 en, .string (S et)], .bool ok]) rfl (by kernel_rfl) (by kernel_rfl) (by kernel_rfl) (fun _ _ _ h => h) (Or.inl ⟨by rfl, fun z hz => ?_⟩) hSn ?_
      · obtain ⟨z0q, z1q, z2q⟩ := hz
        go_simp
      try simp only [List.getElem_toArray, List.getElem_cons_zero, List.getElem_cons_succ, Act.put, List.setIfInBounds_toArray, List.set_cons_zero, List.set_cons_succ]
      refine wpAnyH_take (i := 7) (v := .agg #[.slice s0d nx.length s0c, .string (S sc)]) rfl (by kernel_rfl) (by kernel_rfl) (by kernel_rfl) (fun _ _ _ h => h) (Or.inl ⟨by rfl, fun z hz => ?_⟩) hSn ?_
      · obtain ⟨z0q, z1q, z2q⟩ := hz
        go_simp
      try simp only [List.getElem_toArray, List.getElem_cons_zero, List.getElem_cons_succ, Act.put, List.setIfInBounds_toArray, List.set_cons_zero, List.set_cons_succ]
      refine wpAnyH_take (i := 8) (v := .agg #[.int .i64 en, .string (S et)]) rfl (by kernel_rfl) (by kernel_rfl) (by kernel_rfl) (fun _ _ _ h => h) (Or.inl ⟨by rfl, fun z hz => ?_⟩) hSn ?_
      · obtain ⟨z0q, z1q, z2q⟩ := hz
        go_simp
      try simp only [List.getElem_toArray, List.getElem_cons_zero, List.getElem_cons_succ, Act.put, List.setIfInBounds_toArray, List.set_cons_zero, List.set_cons_succ]
      refine wpAnyH_take (i := 9) (v := .bool ok) rfl (by kernel_rfl) (by kernel_rfl) (by kernel_rfl) (fun _ _ _ h => h) (Or.inl ⟨by rfl, fun z hz => ?_⟩) hSn ?_
      · obtain ⟨z0q, z1q, z2q⟩ := hz
        go_simp
      try simp only [List.getElem_toArray, List.getElem_cons_zero, List.getElem_cons_succ, Act.put, List.setIfInBounds_toArray, List.set_cons_zero, List.set_cons_succ]
      clear hS HBW HQ0 HQ1 HBX0 hb hvz hwz hz0
      have HALL := And.intro hSn (And.intro HBWn (And.intro HLOn (And.intro HRES0n (And.intro HBX0n HAPn))))
      clear hSn HBWn HLOn HRES0n HBX0n HAPn
      revert HALL
      revert bb0
      revert hi
      revert lo
      revert s0c
      revert s0d
      revert x1c
      revert x1d
      revert x0c
      revert x0d
      revert v9
      exact ks30
    · skip
      go_simp
      have hb := (Below.refl v.heap.size v).alloc (Nat.le_refl _) (.cells #[.int .i64 0, .string (S [])] 38)
      have zv : v.heap.size < (v.alloc (.cells #[.int .i64 0, .string (S [])] 38)).heap.size := by simp
      have hbx := EBx.new v
      have hwz := HBW.out.size
      refine hK.out _ _ (hS.step (hb.mono hwz) hWA) (fun hSn => ?_)
      clear hK K
      try simp only [List.getElem_toArray, List.getElem_cons_zero, List.getElem_cons_succ, Act.put, List.setIfInBounds_toArray, List.set_cons_zero, List.set_cons_succ]
      have HQ0n := Lib.hid (HQ0.out.below hb)
      have HQ1n := Lib.hid (HQ1.out.below hb)
      have hz0 := HBX0.out.1.1
      have HBX0n := Lib.hid (And.intro (HBX0.out.1.below hb) HBX0.out.2)
      have HBX1n := Lib.hid (And.intro hbx hwz)
      have HNEn := Lib.hid (show bb0 ≠ v.heap.size by omega)
      have HBWn := Lib.hid (HBW.out.trans (hb.mono hwz))
      exact ks201 _ _ _ _ _ _ _ ⟨hSn, HBWn, HQ0n, HQ1n, HBX0n, HBX1n, HNEn⟩
    intro v x0d x0c x1d x1c bb1 HALL
    obtain ⟨hS, HBW, HQ0, HQ1, HBX1⟩ := HALL
    refine wpAnyH_ready (rs := [5, 10]) (by kernel_rfl) (by simp) ?_
    refine AllReadyH.cons rfl (fun K hK => ?_) (AllReadyH.cons rfl (fun K hK => ?_) AllReadyH.nil)
    · skip
      go_simp
      refine ((spec_press _ _ l0 o1 t1 n2 _ HQ0.out HQ1.out HSM0.out HSM1.out.1 HSM1.out.2).mono (prs_of HR.out (Nat.le_trans HLEN.out (by decide)))).mono ?_
      rintro e v9 ⟨s0d, s0c, rfl, hrow0, hb⟩
      have hwz := HBW.out.size
      have hvz := hb.size
      refine hK.out _ _ (hS.step (hb.mono hwz) hWA) (fun hSn => ?_)
      clear hK K
      have hz1 := HBX1.out.1.1
      have HBX1n := Lib.hid (And.intro (HBX1.out.1.below hb) HBX1.out.2)
      obtain ⟨lo, hi, hlo1, hhi1, hap1, hres0⟩ : ∃ lo hi : Nat, (w2.heap.size ≤ lo) ∧ (hi ≤ v9.heap.size) ∧ ((bb1 < lo ∨ hi ≤ bb1)) ∧ Ints v9 (BetO lo hi (.slice s0d nx.length s0c)) (.slice s0d nx.length s0c) nx := ⟨v.heap.size, v9.heap.size, hwz, Nat.le_refl _, by omega, hrow0⟩
      have HLOn := Lib.hid (And.intro hlo1 hhi1)
      have HAPn := Lib.hid hap1
      have HRES0n := Lib.hid hres0
      clear hlo1 hhi1 hap1 hres0 hrow0 
      have HBWn := Lib.hid (HBW.out.trans (hb.mono hwz))
      try simp only [List.getElem_toArray, List.getElem_cons_zero, List.getElem_cons_succ, Act.put, List.setIfInBounds_toArray, List.set_cons_zero, List.set_cons_succ]
      refine wpAnyH_take (i := 6) (v := .tuple #[.agg #[.slice s0d nx.length s0c, .string (S sc)], .agg #[.int .i64 en, .string (S et)], .bool ok]) rfl (by kernel_rfl) (by kernel_rfl) (by kernel_rfl) (fun _ _ _ h => h) (Or.inl ⟨by rfl, fun z hz => ?_⟩) hSn ?_
      · obtain ⟨z0q, z1q, z2q⟩ := hz
        go_simp
      try simp only [List.getElem_toArray, List.getElem_cons_zero, List.getElem_cons_succ, Act.put, List.setIfInBounds_toArray, List.set_cons_zero, List.set_cons_succ]
      refine wpAnyH_take (i := 7) (v := .agg #[.slice s0d nx.length s0c, .string (S sc)]) rfl (by kernel_rfl) (by kernel_rfl) (by kernel_rfl) (fun _ _ _ h => h) (Or.inl ⟨by rfl, fun z hz => ?_⟩) hSn ?_
      · obtain ⟨z0q, z1q, z2q⟩ := hz
        go_simp
      try simp only [List.getElem_toArray, List.getElem_cons_zero, List.getElem_cons_succ, Act.put, List.setIfInBounds_toArray, List.set_cons_zero, List.set_cons_succ]
      refine wpAnyH_take (i := 8) (v := .agg #[.int .i64 en, .string (S et)]) rfl (by kernel_rfl) (by kernel_rfl) (by kernel_rfl) (fun _ _ _ h => h) (Or.inl ⟨by rfl, fun z hz => ?_⟩) hSn ?_
      · obtain ⟨z0q, z1q, z2q⟩ := hz
        go_simp
      try simp only [List.getElem_toArray, List.getElem_cons_zero, List.getElem_cons_succ, Act.put, List.setIfInBounds_toArray, List.set_cons_zero, List.set_cons_succ]
      refine wpAnyH_take (i := 9) (v := .bool ok) rfl (by kernel_rfl) (by kernel_rfl) (by kernel_rfl) (fun _ _ _ h => h) (Or.inl ⟨by rfl, fun z hz => ?_⟩) hSn ?_
      · obtain ⟨z0q, z1q, z2q⟩ := hz
        go_simp
      try simp only [List.getElem_toArray, List.getElem_cons_zero, List.getElem_cons_succ, Act.put, List.setIfInBounds_toArray, List.set_cons_zero, List.set_cons_succ]
      clear hS HBW HQ0 HQ1 HBX1 hb hvz hwz hz1
      have HALL := And.intro hSn (And.intro HBWn (And.intro HLOn (And.intro HRES0n (And.intro HBX1n HAPn))))
      clear hSn HBWn HLOn HRES0n HBX1n HAPn
      revert HALL
      revert bb1
      revert hi
      revert lo
      revert s0c
      revert s0d
      revert x1c
      revert x1d
      revert x0c
      revert x0d
      revert v9
      exact ks31
    · skip
      go_simp
      have hb := (Below.refl v.heap.size v).alloc (Nat.le_refl _) (.cells #[.slice none 0 0, .string (S [])] 32)
      have zv : v.heap.size < (v.alloc (.cells #[.slice none 0 0, .string (S [])] 32)).heap.size := by simp
      have hbx := TBx.new (.slice none 0 0) [] v
      have hwz := HBW.out.size
      refine hK.out _ _ (hS.step (hb.mono hwz) hWA) (fun hSn => ?_)
      clear hK K
      try simp only [List.getElem_toArray, List.getElem_cons_zero, List.getElem_cons_succ, Act.put, List.setIfInBounds_toArray, List.set_cons_zero, List.set_cons_succ]
      have HQ0n := Lib.hid (HQ0.out.below hb)
      have HQ1n := Lib.hid (HQ1.out.below hb)
      have hz1 := HBX1.out.1.1
      have HBX1n := Lib.hid (And.intro (HBX1.out.1.below hb) HBX1.out.2)
      have HBX0n := Lib.hid (And.intro hbx hwz)
      have HNEn := Lib.hid (show v.heap.size ≠ bb1 by omega)
      have HBWn := Lib.hid (HBW.out.trans (hb.mono hwz))
      exact ks201 _ _ _ _ _ _ _ ⟨hSn, HBWn, HQ0n, HQ1n, HBX0n, HBX1n, HNEn⟩
    intro v x0d x0c x1d x1c s0d s0c lo hi HALL
    obtain ⟨hS, HBW, HLO, HRES0⟩ := HALL
    refine wpAnyH_ready (rs := [10, 11]) (by kernel_rfl) (by simp) ?_
    refine AllReadyH.cons rfl (fun K hK => ?_) (AllReadyH.cons rfl (fun K hK => ?_) AllReadyH.nil)
    · skip
      go_simp
      have hb := (Below.refl v.heap.size v).alloc (Nat.le_refl _) (.cells #[.slice none 0 0, .string (S [])] 32)
      have zv : v.heap.size < (v.alloc (.cells #[.slice none 0 0, .string (S [])] 32)).heap.size := by simp
      have hbx := TBx.new (.slice none 0 0) [] v
      have hwz := HBW.out.size
      refine hK.out _ _ (hS.step (hb.mono hwz) hWA) (fun hSn => ?_)
      clear hK K
      try simp only [List.getElem_toArray, List.getElem_cons_zero, List.getElem_cons_succ, Act.put, List.setIfInBounds_toArray, List.set_cons_zero, List.set_cons_succ]
      have HRES0n := Lib.hid (HRES0.out.below intE_ok hb)
      have HBX0n := Lib.hid (And.intro hbx hwz)
      have HLOn := Lib.hid (And.intro HLO.out.1 (Nat.le_trans HLO.out.2 (Nat.le_of_lt zv)))
      have HAPn := Lib.hid (show (v.heap.size < lo ∨ hi ≤ v.heap.size) by have h1 := HLO.out; omega)
      have HBWn := Lib.hid (HBW.out.trans (hb.mono hwz))
      exact ks30 _ _ _ _ _ _ _ _ _ _ ⟨hSn, HBWn, HLOn, HRES0n, HBX0n, HAPn⟩
    · skip
      go_simp
      have hb := (Below.refl v.heap.size v).alloc (Nat.le_refl _) (.cells #[.int .i64 0, .string (S [])] 38)
      have zv : v.heap.size < (v.alloc (.cells #[.int .i64 0, .string (S [])] 38)).heap.size := by simp
      have hbx := EBx.new v
      have hwz := HBW.out.size
      refine hK.out _ _ (hS.step (hb.mono hwz) hWA) (fun hSn => ?_)
      clear hK K
      try simp only [List.getElem_toArray, List.getElem_cons_zero, List.getElem_cons_succ, Act.put, List.setIfInBounds_toArray, List.set_cons_zero, List.set_cons_succ]
      have HRES0n := Lib.hid (HRES0.out.below intE_ok hb)
      have HBX1n := Lib.hid (And.intro hbx hwz)
      have HLOn := Lib.hid (And.intro HLO.out.1 (Nat.le_trans HLO.out.2 (Nat.le_of_lt zv)))
      have HAPn := Lib.hid (show (v.heap.size < lo ∨ hi ≤ v.heap.size) by have h1 := HLO.out; omega)
      have HBWn := Lib.hid (HBW.out.trans (hb.mono hwz))
      exact ks31 _ _ _ _ _ _ _ _ _ _ ⟨hSn, HBWn, HLOn, HRES0n, HBX1n, HAPn⟩
    intro v x0d x0c x1d x1c bb0 bb1 HALL
    obtain ⟨hS, HBW, HQ0, HQ1, HBX0, HBX1, HNE⟩ := HALL
    refine wpAnyH_ready (rs := [5]) (by kernel_rfl) (by simp) ?_
    refine AllReadyH.cons rfl (fun K hK => ?_) AllReadyH.nil
    · skip
      go_simp
      refine ((spec_press _ _ l0 o1 t1 n2 _ HQ0.out HQ1.out HSM0.out HSM1.out.1 HSM1.out.2).mono (prs_of HR.out (Nat.le_trans HLEN.out (by decide)))).mono ?_
      rintro e v9 ⟨s0d, s0c, rfl, hrow0, hb⟩
      have hwz := HBW.out.size
      have hvz := hb.size
      refine hK.out _ _ (hS.step (hb.mono hwz) hWA) (fun hSn => ?_)
      clear hK K
      have hz0 := HBX0.out.1.1
      have HBX0n := Lib.hid (And.intro (HBX0.out.1.below hb) HBX0.out.2)
      have hz1 := HBX1.out.1.1
      have HBX1n := Lib.hid (And.intro (HBX1.out.1.below hb) HBX1.out.2)
      obtain ⟨lo, hi, hlo1, hhi1, hap1, hres0⟩ : ∃ lo hi : Nat, (w2.heap.size ≤ lo) ∧ (hi ≤ v9.heap.size) ∧ ((bb0 < lo ∨ hi ≤ bb0) ∧ (bb1 < lo ∨ hi ≤ bb1)) ∧ Ints v9 (BetO lo hi (.slice s0d nx.length s0c)) (.slice s0d nx.length s0c) nx := ⟨v.heap.size, v9.heap.size, hwz, Nat.le_refl _, by omega, hrow0⟩
      have HLOn := Lib.hid (And.intro hlo1 hhi1)
      have HAPn := Lib.hid hap1
      have HRES0n := Lib.hid hres0
      have HNEo := HNE
      clear hlo1 hhi1 hap1 hres0 hrow0 
      have HBWn := Lib.hid (HBW.out.trans (hb.mono hwz))
      have HNEn := Lib.hid HNE.out
      try simp only [List.getElem_toArray, List.getElem_cons_zero, List.getElem_cons_succ, Act.put, List.setIfInBounds_toArray, List.set_cons_zero, List.set_cons_succ]
      refine wpAnyH_take (i := 6) (v := .tuple #[.agg #[.slice s0d nx.length s0c, .string (S sc)], .agg #[.int .i64 en, .string (S et)], .bool ok]) rfl (by kernel_rfl) (by kernel_rfl) (by kernel_rfl) (fun _ _ _ h => h) (Or.inl ⟨by rfl, fun z hz => ?_⟩) hSn ?_
      · obtain ⟨z0q, z1q, z2q⟩ := hz
        go_simp
      try simp only [List.getElem_toArray, List.getElem_cons_zero, List.getElem_cons_succ, Act.put, List.setIfInBounds_toArray, List.set_cons_zero, List.set_cons_succ]
      refine wpAnyH_take (i := 7) (v := .agg #[.slice s0d nx.length s0c, .string (S sc)]) rfl (by kernel_rfl) (by kernel_rfl) (by kernel_rfl) (fun _ _ _ h => h) (Or.inl ⟨by rfl, fun z hz => ?_⟩) hSn ?_
      · obtain ⟨z0q, z1q, z2q⟩ := hz
        go_simp
      try simp only [List.getElem_toArray, List.getElem_cons_zero, List.getElem_cons_succ, Act.put, List.setIfInBounds_toArray, List.set_cons_zero, List.set_cons_succ]
      refine wpAnyH_take (i := 8) (v := .agg #[.int .i64 en, .string (S et)]) rfl (by kernel_rfl) (by kernel_rfl) (by kernel_rfl) (fun _ _ _ h => h) (Or.inl ⟨by rfl, fun z hz => ?_⟩) hSn ?_
      · obtain ⟨z0q, z1q, z2q⟩ := hz
        go_simp
      try simp only [List.getElem_toArray, List.getElem_cons_zero, List.getElem_cons_succ, Act.put, List.setIfInBounds_toArray, List.set_cons_zero, List.set_cons_succ]
      refine wpAnyH_take (i := 9) (v := .bool ok) rfl (by kernel_rfl) (by kernel_rfl) (by kernel_rfl) (fun _ _ _ h => h) (Or.inl ⟨by rfl, fun z hz => ?_⟩) hSn ?_
      · obtain ⟨z0q, z1q, z2q⟩ := hz
        go_simp
      try simp only [List.getElem_toArray, List.getElem_cons_zero, List.getElem_cons_succ, Act.put, List.setIfInBounds_toArray, List.set_cons_zero, List.set_cons_succ]
      clear hS HBW HQ0 HQ1 HBX0 HBX1 HNE hb hvz hwz hz0 hz1 HNEo
      have HALL := And.intro hSn (And.intro HBWn (And.intro HLOn (And.intro HRES0n (And.intro HBX0n (And.intro HBX1n (And.intro HAPn HNEn))))))
      clear hSn HBWn HLOn HRES0n HBX0n HBX1n HAPn HNEn
      revert HALL
      revert bb1
      revert bb0
      revert hi
      revert lo
      revert s0c
      revert s0d
      revert x1c
      revert x1d
      revert x0c
      revert x0d
      revert v9
      exact ks301
    intro v x0d x0c x1d x1c s0d s0c lo hi bb0 HALL
    obtain ⟨hS, HBW, HLO, HRES0, HBX0, HAP⟩ := HALL
    refine wpAnyH_ready (rs := [11]) (by kernel_rfl) (by simp) ?_
    refine AllReadyH.cons rfl (fun K hK => ?_) AllReadyH.nil
    · skip
      go_simp
      have hb := (Below.refl v.heap.size v).alloc (Nat.le_refl _) (.cells #[.int .i64 0, .string (S [])] 38)
      have zv : v.heap.size < (v.alloc (.cells #[.int .i64 0, .string (S [])] 38)).heap.size := by simp
      have hbx := EBx.new v
      have hwz := HBW.out.size
      refine hK.out _ _ (hS.step (hb.mono hwz) hWA) (fun hSn => ?_)
      clear hK K
      try simp only [List.getElem_toArray, List.getElem_cons_zero, List.getElem_cons_succ, Act.put, List.setIfInBounds_toArray, List.set_cons_zero, List.set_cons_succ]
      have HRES0n := Lib.hid (HRES0.out.below intE_ok hb)
      have hz0 := HBX0.out.1.1
      have HBX0n := Lib.hid (And.intro (HBX0.out.1.below hb) HBX0.out.2)
      have HBX1n := Lib.hid (And.intro hbx hwz)
      have HLOn := Lib.hid (And.intro HLO.out.1 (Nat.le_trans HLO.out.2 (Nat.le_of_lt zv)))
      have HNEn := Lib.hid (show bb0 ≠ v.heap.size by omega)
      have HAPn := Lib.hid (show (bb0 < lo ∨ hi ≤ bb0) ∧ (v.heap.size < lo ∨ hi ≤ v.heap.size) by have h1 := HLO.out; have h2 := HAP.out; omega)
      have HBWn := Lib.hid (HBW.out.trans (hb.mono hwz))
      exact ks301 _ _ _ _ _ _ _ _ _ _ _ ⟨hSn, HBWn, HLOn, HRES0n, HBX0n, HBX1n, HAPn, HNEn⟩
    intro v x0d x0c x1d x1c s0d s0c lo hi bb1 HALL
    obtain ⟨hS, HBW, HLO, HRES0, HBX1, HAP⟩ := HALL
    refine wpAnyH_ready (rs := [10]) (by kernel_rfl) (by simp) ?_
    refine AllReadyH.cons rfl (fun K hK => ?_) AllReadyH.nil
    · skip
      go_simp
      have hb := (Below.refl v.heap.size v).alloc (Nat.le_refl _) (.cells #[.slice none 0 0, .string (S [])] 32)
      have zv : v.heap.size < (v.alloc (.cells #[.slice none 0 0, .string (S [])] 32)).heap.size := by simp
      have hbx := TBx.new (.slice none 0 0) [] v
      have hwz := HBW.out.size
      refine hK.out _ _ (hS.step (hb.mono hwz) hWA) (fun hSn => ?_)
      clear hK K
      try simp only [List.getElem_toArray, List.getElem_cons_zero, List.getElem_cons_succ, Act.put, List.setIfInBounds_toArray, List.set_cons_zero, List.set_cons_succ]
      have HRES0n := Lib.hid (HRES0.out.below intE_ok hb)
      have hz1 := HBX1.out.1.1
      have HBX1n := Lib.hid (And.intro (HBX1.out.1.below hb) HBX1.out.2)
      have HBX0n := Lib.hid (And.intro hbx hwz)
      have HLOn := Lib.hid (And.intro HLO.out.1 (Nat.le_trans HLO.out.2 (Nat.le_of_lt zv)))
      have HNEn := Lib.hid (show v.heap.size ≠ bb1 by omega)
      have HAPn := Lib.hid (show (v.heap.size < lo ∨ hi ≤ v.heap.size) ∧ (bb1 < lo ∨ hi ≤ bb1) by have h1 := HLO.out; have h2 := HAP.out; omega)
      have HBWn := Lib.hid (HBW.out.trans (hb.mono hwz))
      exact ks301 _ _ _ _ _ _ _ _ _ _ _ ⟨hSn, HBWn, HLOn, HRES0n, HBX0n, HBX1n, HAPn, HNEn⟩
    intro v x0d x0c x1d x1c s0d s0c lo hi bb0 bb1 HALL
    obtain ⟨hS, HBW, HLO, HRES0, HBX0, HBX1, HAP, HNE⟩ := HALL
    have hlo := HLO.out.1; have hhi := HLO.out.2; have hap := HAP.out; have hne := HNE.out
    refine wpAnyH_ready (rs := [12]) (by kernel_rfl) (by simp) ?_
    refine AllReadyH.cons rfl (fun K hK => ?_) AllReadyH.nil
    have hwb0 := HBX0.out.2
    obtain ⟨zb, cb0, cb1, fb0, fb1⟩ := HBX0.out.1
    go_simp
    obtain ⟨v1, hv1⟩ : ∃ y, ((v.setCell ⟨bb0, 0, none⟩ (.slice s0d nx.length s0c)).setCell ⟨bb0, 1, none⟩ (.string (S sc))) = y := ⟨_, rfl⟩
    have hcg : Chg (fun b => b = bb0) v v1 := by rw [← hv1]; exact (((Chg.refl (fun b => b = bb0) v).setCell (p := ⟨bb0, 0, none⟩) rfl (.slice s0d nx.length s0c)).setCell (p := ⟨bb0, 1, none⟩) rfl (.string (S sc)))
    have hbox : Box2E bb0 (.slice s0d nx.length s0c) sc v1 := by rw [← hv1]; exact Box2E.set2 cb0 cb1 zb
    have hsz : v1.heap.size = v.heap.size := by rw [← hv1]; simp [World.setCell]
    have hbw : Below w2.heap.size w2 v1 := Chg.belowB HBW.out hcg HBW.out.size (fun b h => by have h9 : b = bb0 := h; omega)
    have zA := HBW.out.size
    have hst : K_law_press w a0d a0c l0 a1d a1c o1 t1 v1 := hS.step (B := w2.heap.size) (hcg.below zA (fun b h => by have h9 : b = bb0 := h; omega)) hWA
    refine hK.out _ _ (by rw [hv1]; exact hst) (fun hS2 => ?_)
    clear hK K
    try rw [hv1] at hS2 ⊢
    try simp only [List.getElem_toArray, List.getElem_cons_zero, List.getElem_cons_succ, Act.put, List.setIfInBounds_toArray, List.set_cons_zero, List.set_cons_succ]
    have HBW3 := Lib.hid hbw
    have HBX1_4 := Lib.hid (show _ ∧ _ from ⟨HBX1.out.1.stand hcg (by omega), HBX1.out.2⟩)
    have HRES0_5 := Lib.hid (HRES0.out.stand intE_ok hcg (fun b hb e => by simp only [Bet, BetO] at hb; omega))
    have FX0_6 := hbox
    clear hbox hbw hcg hst zA zb HBW HBX0 hS HBX1 HRES0 cb0 cb1 fb0 fb1
    refine wpAnyH_ready (rs := [13]) (by kernel_rfl) (by simp) ?_
    refine AllReadyH.cons rfl (fun K hK => ?_) AllReadyH.nil
    have hwb1 := HBX1_4.out.2
    obtain ⟨zb, cb0, cb1, fb0, fb1⟩ := HBX1_4.out.1
    go_simp
    obtain ⟨v7, hv7⟩ : ∃ y, ((v1.setCell ⟨bb1, 0, none⟩ (.int .i64 en)).setCell ⟨bb1, 1, none⟩ (.string (S et))) = y := ⟨_, rfl⟩
    have hcg : Chg (fun b => b = bb1) v1 v7 := by rw [← hv7]; exact (((Chg.refl (fun b => b = bb1) v1).setCell (p := ⟨bb1, 0, none⟩) rfl (.int .i64 en)).setCell (p := ⟨bb1, 1, none⟩) rfl (.string (S et)))
    have hbox : Box2E bb1 (.int .i64 en) et v7 := by rw [← hv7]; exact Box2E.set2 cb0 cb1 zb
    have hsz : v7.heap.size = v1.heap.size := by rw [← hv7]; simp [World.setCell]
    have hbw : Below w2.heap.size w2 v7 := Chg.belowB HBW3.out hcg HBW3.out.size (fun b h => by have h9 : b = bb1 := h; omega)
    have zA := HBW3.out.size
    have hst : K_law_press w a0d a0c l0 a1d a1c o1 t1 v7 := hS2.step (B := w2.heap.size) (hcg.below zA (fun b h => by have h9 : b = bb1 := h; omega)) hWA
    refine hK.out _ _ (by rw [hv7]; exact hst) (fun hS8 => ?_)
    clear hK K
    try rw [hv7] at hS8 ⊢
    try simp only [List.getElem_toArray, List.getElem_cons_zero, List.getElem_cons_succ, Act.put, List.setIfInBounds_toArray, List.set_cons_zero, List.set_cons_succ]
    have HBW9 := Lib.hid hbw
    have HRES0_10 := Lib.hid (HRES0_5.out.stand intE_ok hcg (fun b hb e => by simp only [Bet, BetO] at hb; omega))
    have FX0_11 := FX0_6.stand hcg (by omega)
    have FX1_12 := hbox
    clear hbox hbw hcg hst zA zb HBW3 HBX1_4 hS2 HRES0_5 FX0_6 cb0 cb1 fb0 fb1
    refine wpAnyH_take (i := 14) (v := .bool ok) rfl (by kernel_rfl) (by kernel_rfl) (by kernel_rfl) (fun _ _ _ h => h) (Or.inl ⟨by rfl, fun z hz => ?_⟩) hS8 ?_
    · obtain ⟨z0q, z1q, z2q⟩ := hz
      go_simp
    try simp only [List.getElem_toArray, List.getElem_cons_zero, List.getElem_cons_succ, Act.put, List.setIfInBounds_toArray, List.set_cons_zero, List.set_cons_succ]
    refine wpAnyH_done (by kernel_rfl) ?_ _
    go_wp2_with fail
    go_meet
    exact ⟨bb0, bb1, s0d, s0c, rfl, rfl, rfl, FX0_11, by omega, FX1_12, by omega, RowO.to intE_ok HRES0_10.out (Below.refl _ _) (by omega) (by omega) (Nat.le_refl _), HBW9.out⟩
  case rest =>
    obtain ⟨bs0, bs1, s0d, s0c, rfl, rfl, rfl, hbx0, zbs0, hbx1, zbs1, hrow0, hb⟩ := hcut
    have zzw3 : w2.heap.size ≤ wc.heap.size := hb.size
    have HB_3 := Lib.hid (HB_2.out.trans (hb.mono HB_2.out.size))
    have A0_3 := Lib.hid (A0_2.out.below hb)
    have A1_3 := Lib.hid (A1_2.out.below hb)
    clear HB_2 A0_2 A1_2 hb HS
    have yys0 : bs0 < wc.heap.size := hbx0.2.2
    have sB0_0 := Lib.hid (hbx0)
    clear hbx0
    have yys1 : bs1 < wc.heap.size := hbx1.2.2
    have sB1_0 := Lib.hid (hbx1)
    clear hbx1
    have sL0_0 := Lib.hid (hrow0)
    clear hrow0
    clear hWA
    generalize hww : wc = w3 at *
    clear hww
    obtain ⟨c_A0, _⟩ := A0_3.out
    go_wp2_with fail
    refine (toDictionary _ l0 _ (HU0.out.below HB_3.out) HSM0.out.len HSM0.out.outs).mono ?_
    rintro e w4 ⟨y1, rfl, hI, hb⟩
    clear c_A0
    have zw4 : w3.heap.size ≤ w4.heap.size := hb.size
    have HB_4 := Lib.hid (HB_3.out.trans (hb.mono HB_3.out.size))
    have A0_4 := Lib.hid (A0_3.out.below hb)
    have A1_4 := Lib.hid (A1_3.out.below hb)
    have sB0_1 := Lib.hid (sB0_0.out.below hb)
    have sB1_1 := Lib.hid (sB1_0.out.below hb)
    have sL0_1 := Lib.hid (sL0_0.out.below intE_ok hb)
    clear HB_3 A0_3 A1_3 sB0_0 sB1_0 sL0_0 hb
    have E0_0 := Lib.hid ((by simpa using hI : Ents w4 (Bet (w3.heap.size) w4.heap.size) y1 l0))
    clear hI
    obtain ⟨y1d, y1c, rfl, _, _⟩ := id E0_0.out
    have hb := (Below.refl w4.heap.size w4).alloc (Nat.le_refl _) (.cells #[.slice y1d l0.length y1c] 26)
    have HB_5 := Lib.hid (HB_4.out.trans (hb.mono HB_4.out.size))
    have A0_5 := Lib.hid (A0_4.out.below hb)
    have A1_5 := Lib.hid (A1_4.out.below hb)
    have sB0_2 := Lib.hid (sB0_1.out.below hb)
    have sB1_2 := Lib.hid (sB1_1.out.below hb)
    have sL0_2 := Lib.hid (sL0_1.out.below intE_ok hb)
    have E0_1 := Lib.hid (E0_0.out.below entE_ok hb)
    clear HB_4 A0_4 A1_4 sB0_1 sB1_1 sL0_1 E0_0 hb
    have X0_0 := Lib.hid (Box1.new (.slice y1d l0.length y1c) 26 w4)
    obtain ⟨c_A10, c_A11, _⟩ := A1_5.out
    go_wp2_with fail
    refine (toTranslator _ o1 t1 _ (HU1.out.below HB_5.out) HSM1.out.1).mono ?_
    rintro e w5 ⟨y2, rfl, hI, hb⟩
    clear c_A10 c_A11
    have zw5 : w4.heap.size + 1 ≤ w5.heap.size := by have := hb.size; simp at this; omega
    have HB_6 := Lib.hid (HB_5.out.trans (hb.mono HB_5.out.size))
    have A0_6 := Lib.hid (A0_5.out.below hb)
    have A1_6 := Lib.hid (A1_5.out.below hb)
    have sB0_3 := Lib.hid (sB0_2.out.below hb)
    have sB1_3 := Lib.hid (sB1_2.out.below hb)
    have sL0_3 := Lib.hid (sL0_2.out.below intE_ok hb)
    have E0_2 := Lib.hid (E0_1.out.below entE_ok hb)
    have X0_1 := Lib.hid (X0_0.out.below hb)
    clear HB_5 A0_5 A1_5 sB0_2 sB1_2 sL0_2 E0_1 X0_0 hb
    have E1_0 := Lib.hid ((by simpa using hI : Ints w5 (Bet (w4.heap.size + 1) w5.heap.size) y2 o1))
    clear hI
    obtain ⟨y2d, y2c, rfl, _, _⟩ := id E1_0.out
    have hb := (Below.refl w5.heap.size w5).alloc (Nat.le_refl _) (.cells #[.slice y2d o1.length y2c, .string (S t1)] 32)
    have HB_7 := Lib.hid (HB_6.out.trans (hb.mono HB_6.out.size))
    have A0_7 := Lib.hid (A0_6.out.below hb)
    have A1_7 := Lib.hid (A1_6.out.below hb)
    have sB0_4 := Lib.hid (sB0_3.out.below hb)
    have sB1_4 := Lib.hid (sB1_3.out.below hb)
    have sL0_4 := Lib.hid (sL0_3.out.below intE_ok hb)
    have E0_3 := Lib.hid (E0_2.out.below entE_ok hb)
    have X0_2 := Lib.hid (X0_1.out.below hb)
    have E1_1 := Lib.hid (E1_0.out.below intE_ok hb)
    clear HB_6 A0_6 A1_6 sB0_3 sB1_3 sL0_3 E0_2 X0_1 E1_0 hb
    have X1_0 := Lib.hid (Box2E.new (.slice y2d o1.length y2c) t1 32 w5)
    go_upto_region 11 with fail
    have zgw6 : w5.heap.size < (w5.alloc (.cells #[.slice y2d o1.length y2c, .string (S t1)] 32)).heap.size := by simp
    generalize w5.alloc (.cells #[.slice y2d o1.length y2c, .string (S t1)] 32) = w6 at *
    obtain ⟨c_X0, _⟩ := X0_2.out
    obtain ⟨c_X10, c_X11, _⟩ := X1_0.out
    go_upto_region 11 with fail
    go_cut [13, 14, 15] (fun q0 q1 q2 wx => ∃ bg0 bg1 g0d g0c mg, q0 = .pointer (some ⟨bg0, 0, none⟩) ∧ q1 = .pointer (some ⟨bg1, 0, none⟩) ∧ q2 = .bool ok ∧ Box2E bg0 (.slice g0d nx.length g0c) sc wx ∧ mg ≤ bg0 ∧ Box2E bg1 (.int .i64 en) et wx ∧ mg ≤ bg1 ∧ w6.heap.size ≤ mg ∧ mg ≤ wx.heap.size ∧ Ints wx (BetO w6.heap.size mg (.slice g0d nx.length g0c)) (.slice g0d nx.length g0c) nx ∧ Below w6.heap.size w6 wx)
    case first =>
      have HA_0 := Lib.hid (show Below w6.heap.size w6 w6 from Below.refl _ _)
      go_wp2_with fail
      refine ((impl_press _ _ l0 o1 t1 n2 _ (Ents.read E0_3.out) (Ints.read E1_1.out) HSM0.out (HE.out.below HB_7.out HE.out.size) HSM1.out.1 HSM1.out.2).mono (prs_of HR.out (Nat.le_trans HLEN.out (by decide)))).mono ?_
      rintro e w7 ⟨g0d, g0c, rfl, hrow0, hb⟩
      clear c_X0 c_X10 c_X11
      have zw7 : w6.heap.size ≤ w7.heap.size := hb.size
      have HA_1 := Lib.hid (HA_0.out.trans (hb.mono HA_0.out.size))
      clear HA_0 hb
      go_wp2
      go_meet
      -- w6.heap.size
      refine ⟨_, _, g0d, g0c, w7.heap.size, rfl, rfl, rfl, ⟨by go_simp, by go_simp, by simp <;> omega⟩, by simp <;> omega, ⟨by go_simp, by go_simp, by simp <;> omega⟩, by simp <;> omega, by omega, by simp <;> omega, RowO.to intE_ok hrow0 ?_ (by omega) (by omega) (by simp <;> omega), ?_⟩
      all_goals first | exact (((Below.refl _ _).alloc (Nat.le_refl _) _).alloc (by simp) _) | exact ((HA_1.out.alloc (by first | omega | (simp; omega)) _).alloc (by first | omega | (simp; omega)) _) | skip
    case rest =>
      obtain ⟨bg0, bg1, g0d, g0c, mg, rfl, rfl, rfl, hbx0, zbg0, hbx1, zbg1, zmg, zng, hrow0, hb⟩ := hcut
      have zzw8 : w6.heap.size ≤ wc.heap.size := hb.size
      clear c_X0 c_X10 c_X11
      have HB_8 := Lib.hid (HB_7.out.trans (hb.mono HB_7.out.size))
      have A0_8 := Lib.hid (A0_7.out.below hb)
      have A1_8 := Lib.hid (A1_7.out.below hb)
      have sB0_5 := Lib.hid (sB0_4.out.below hb)
      have sB1_5 := Lib.hid (sB1_4.out.below hb)
      have sL0_5 := Lib.hid (sL0_4.out.below intE_ok hb)
      have E0_4 := Lib.hid (E0_3.out.below entE_ok hb)
      have X0_3 := Lib.hid (X0_2.out.below hb)
      have E1_2 := Lib.hid (E1_1.out.below intE_ok hb)
      have X1_1 := Lib.hid (X1_0.out.below hb)
      clear HB_7 A0_7 A1_7 sB0_4 sB1_4 sL0_4 E0_3 X0_2 E1_1 X1_0 hb
      have yyg0 : bg0 < wc.heap.size := hbx0.2.2
      have gB0_0 := Lib.hid (hbx0)
      clear hbx0
      have yyg1 : bg1 < wc.heap.size := hbx1.2.2
      have gB1_0 := Lib.hid (hbx1)
      clear hbx1
      have gL0_0 := Lib.hid (hrow0)
      clear hrow0
      generalize hww : wc = w8 at *
      clear hww
      obtain ⟨c_gB00, c_gB01, _⟩ := gB0_0.out
      obtain ⟨c_sB00, c_sB01, _⟩ := sB0_5.out
      obtain ⟨c_gB10, c_gB11, _⟩ := gB1_0.out
      obtain ⟨c_sB10, c_sB11, _⟩ := sB1_5.out
      go_wp2_with fail
      refine (eqTranslator _ _ nx sc _ (Ints.read gL0_0.out) (Ints.read sL0_5.out)).mono ?_
      rintro e w9 ⟨rfl, hb⟩
      clear c_gB00 c_gB01 c_sB00 c_sB01 c_gB10 c_gB11 c_sB10 c_sB11
      have zw9 : w8.heap.size ≤ w9.heap.size := hb.size
      have HB_9 := Lib.hid (HB_8.out.trans (hb.mono HB_8.out.size))
      have A0_9 := Lib.hid (A0_8.out.below hb)
      have A1_9 := Lib.hid (A1_8.out.below hb)
      have sB0_6 := Lib.hid (sB0_5.out.below hb)
      have sB1_6 := Lib.hid (sB1_5.out.below hb)
      have sL0_6 := Lib.hid (sL0_5.out.below intE_ok hb)
      have E0_5 := Lib.hid (E0_4.out.below entE_ok hb)
      have X0_4 := Lib.hid (X0_3.out.below hb)
      have E1_3 := Lib.hid (E1_2.out.below intE_ok hb)
      have X1_2 := Lib.hid (X1_1.out.below hb)
      have gB0_1 := Lib.hid (gB0_0.out.below hb)
      have gB1_1 := Lib.hid (gB1_0.out.below hb)
      have gL0_1 := Lib.hid (gL0_0.out.below intE_ok hb)
      clear HB_8 A0_8 A1_8 sB0_5 sB1_5 sL0_5 E0_4 X0_3 E1_2 X1_1 gB0_0 gB1_0 gL0_0 hb
      obtain ⟨c_gB10, c_gB11, _⟩ := gB1_1.out
      obtain ⟨c_sB10, c_sB11, _⟩ := sB1_6.out
      go_wp2_with fail
      refine (eqEdit en et _).mono ?_
      rintro e w10 ⟨rfl, hb⟩
      clear c_gB10 c_gB11 c_sB10 c_sB11
      have zw10 : w9.heap.size ≤ w10.heap.size := hb.size
      have HB_10 := Lib.hid (HB_9.out.trans (hb.mono HB_9.out.size))
      have A0_10 := Lib.hid (A0_9.out.below hb)
      have A1_10 := Lib.hid (A1_9.out.below hb)
      have sB0_7 := Lib.hid (sB0_6.out.below hb)
      have sB1_7 := Lib.hid (sB1_6.out.below hb)
      have sL0_7 := Lib.hid (sL0_6.out.below intE_ok hb)
      have E0_6 := Lib.hid (E0_5.out.below entE_ok hb)
      have X0_5 := Lib.hid (X0_4.out.below hb)
      have E1_4 := Lib.hid (E1_3.out.below intE_ok hb)
      have X1_3 := Lib.hid (X1_2.out.below hb)
      have gB0_2 := Lib.hid (gB0_1.out.below hb)
      have gB1_2 := Lib.hid (gB1_1.out.below hb)
      have gL0_2 := Lib.hid (gL0_1.out.below intE_ok hb)
      clear HB_9 A0_9 A1_9 sB0_6 sB1_6 sL0_6 E0_5 X0_4 E1_3 X1_2 gB0_1 gB1_1 gL0_1 hb
      have hb := (Below.refl w10.heap.size w10).drew
      have HB_11 := Lib.hid (HB_10.out.trans (hb.mono HB_10.out.size))
      have A0_11 := Lib.hid (A0_10.out.below hb)
      have A1_11 := Lib.hid (A1_10.out.below hb)
      have sB0_8 := Lib.hid (sB0_7.out.below hb)
      have sB1_8 := Lib.hid (sB1_7.out.below hb)
      have sL0_8 := Lib.hid (sL0_7.out.below intE_ok hb)
      have E0_7 := Lib.hid (E0_6.out.below entE_ok hb)
      have X0_6 := Lib.hid (X0_5.out.below hb)
      have E1_5 := Lib.hid (E1_4.out.below intE_ok hb)
      have X1_4 := Lib.hid (X1_3.out.below hb)
      have gB0_3 := Lib.hid (gB0_2.out.below hb)
      have gB1_3 := Lib.hid (gB1_2.out.below hb)
      have gL0_3 := Lib.hid (gL0_2.out.below intE_ok hb)
      clear HB_10 A0_10 A1_10 sB0_7 sB1_7 sL0_7 E0_6 X0_5 E1_4 X1_3 gB0_2 gB1_2 gL0_2 hb
      go_upto_region 14 with fail
      refine wp_region_held_drew (S := fun v : World => v.cell? ⟨w4.heap.size, 0, none⟩ = some (.slice y1d l0.length y1c) ∧ v.cell? ⟨w.heap.size, 0, none⟩ = some (.slice a0d l0.length a0c) ∧ w4.heap.size < v.heap.size ∧ w.heap.size < v.heap.size) (by kernel_rfl) ⟨X0_6.out.1, A0_11.out.1, X0_6.out.2, A0_11.out.2⟩ (fun hS0 => ?_)
      refine wpAnyH_take (i := 0) (v := .agg #[.slice y1d l0.length y1c]) rfl (by kernel_rfl) (by kernel_rfl) (by kernel_rfl) (fun _ _ _ h => h) (Or.inl ⟨by rfl, fun z hz => ?_⟩) hS0 ?_
      · obtain ⟨q1, q2, q3, q4⟩ := hz
        go_simp
      try simp only [List.getElem_toArray, List.getElem_cons_zero, Act.put, List.setIfInBounds_toArray, List.set_cons_zero, List.set_cons_succ]
      refine wpAnyH_take (i := 1) (v := .agg #[.slice a0d l0.length a0c]) rfl (by kernel_rfl) (by kernel_rfl) (by kernel_rfl) (fun _ _ _ h => h) (Or.inl ⟨by rfl, fun z hz => ?_⟩) hS0 ?_
      · obtain ⟨q1, q2, q3, q4⟩ := hz
        go_simp
      try simp only [List.getElem_toArray, List.getElem_cons_zero, List.getElem_cons_succ, Act.put, List.setIfInBounds_toArray, List.set_cons_zero, List.set_cons_succ]
      refine wpAnyH_ready (rs := [2]) (by kernel_rfl) (by simp) ?_
      refine AllReadyH.cons rfl (fun K hK => ?_) AllReadyH.nil
      go_simp
      refine (toDictionary _ l0 _ (HU0.out.below HB_11.out) HSM0.out.len HSM0.out.outs).mono ?_
      rintro e w11 ⟨y3, rfl, hI, hb⟩
      have zw11 : w10.heap.size ≤ w11.heap.size := hb.size
      refine hK.out _ _ ⟨(hb.cell (p := ⟨w4.heap.size, 0, none⟩) hS0.2.2.1).trans hS0.1, (hb.cell (p := ⟨w.heap.size, 0, none⟩) hS0.2.2.2).trans hS0.2.1, Nat.lt_of_lt_of_le hS0.2.2.1 hb.size, Nat.lt_of_lt_of_le hS0.2.2.2 hb.size⟩ (fun hS1 => ?_)
      clear hK K
      have HB_12 := Lib.hid (HB_11.out.trans (hb.mono HB_11.out.size))
      have A0_12 := Lib.hid (A0_11.out.below hb)
      have A1_12 := Lib.hid (A1_11.out.below hb)
      have sB0_9 := Lib.hid (sB0_8.out.below hb)
      have sB1_9 := Lib.hid (sB1_8.out.below hb)
      have sL0_9 := Lib.hid (sL0_8.out.below intE_ok hb)
      have E0_8 := Lib.hid (E0_7.out.below entE_ok hb)
      have X0_7 := Lib.hid (X0_6.out.below hb)
      have E1_6 := Lib.hid (E1_5.out.below intE_ok hb)
      have X1_5 := Lib.hid (X1_4.out.below hb)
      have gB0_4 := Lib.hid (gB0_3.out.below hb)
      have gB1_4 := Lib.hid (gB1_3.out.below hb)
      have gL0_4 := Lib.hid (gL0_3.out.below intE_ok hb)
      clear HB_11 A0_11 A1_11 sB0_8 sB1_8 sL0_8 E0_7 X0_6 E1_5 X1_4 gB0_3 gB1_3 gL0_3 hb hS0
      have HI3 := Lib.hid hI
      obtain ⟨y3d, y3c, rfl, _, _⟩ := hI
      try simp only [List.getElem_toArray, List.getElem_cons_zero, List.getElem_cons_succ, Act.put, List.setIfInBounds_toArray, List.set_cons_zero, List.set_cons_succ]
      refine wpAnyH_ready (rs := [3]) (by kernel_rfl) (by simp) ?_
      refine AllReadyH.cons rfl (fun K hK => ?_) AllReadyH.nil
      go_simp
      refine (eqDictionary _ _ l0 _ (Ents.read E0_8.out) (Ents.read HI3.out)).mono ?_
      rintro e w12 ⟨rfl, hb⟩
      have zw12 : w11.heap.size ≤ w12.heap.size := hb.size
      refine hK.out _ _ ⟨(hb.cell (p := ⟨w4.heap.size, 0, none⟩) hS1.2.2.1).trans hS1.1, (hb.cell (p := ⟨w.heap.size, 0, none⟩) hS1.2.2.2).trans hS1.2.1, Nat.lt_of_lt_of_le hS1.2.2.1 hb.size, Nat.lt_of_lt_of_le hS1.2.2.2 hb.size⟩ (fun hS2 => ?_)
      clear hK K
      have HB_13 := Lib.hid (HB_12.out.trans (hb.mono HB_12.out.size))
      have A0_13 := Lib.hid (A0_12.out.below hb)
      have A1_13 := Lib.hid (A1_12.out.below hb)
      have sB0_10 := Lib.hid (sB0_9.out.below hb)
      have sB1_10 := Lib.hid (sB1_9.out.below hb)
      have sL0_10 := Lib.hid (sL0_9.out.below intE_ok hb)
      have E0_9 := Lib.hid (E0_8.out.below entE_ok hb)
      have X0_8 := Lib.hid (X0_7.out.below hb)
      have E1_7 := Lib.hid (E1_6.out.below intE_ok hb)
      have X1_6 := Lib.hid (X1_5.out.below hb)
      have gB0_5 := Lib.hid (gB0_4.out.below hb)
      have gB1_5 := Lib.hid (gB1_4.out.below hb)
      have gL0_5 := Lib.hid (gL0_4.out.below intE_ok hb)
      clear HB_12 A0_12 A1_12 sB0_9 sB1_9 sL0_9 E0_8 X0_7 E1_6 X1_5 gB0_4 gB1_4 gL0_4 hb hS1 HI3
      try simp only [List.getElem_toArray, List.getElem_cons_zero, List.getElem_cons_succ, Act.put, List.setIfInBounds_toArray, List.set_cons_zero, List.set_cons_succ]
      refine wpAnyH_take (i := 4) (v := .bool false) rfl (by kernel_rfl) (by kernel_rfl) (by kernel_rfl) (fun _ _ _ h => h) (Or.inl ⟨by rfl, fun z hz => ?_⟩) hS2 ?_
      · obtain ⟨q1, q2, q3, q4⟩ := hz
        go_simp
      try simp only [List.getElem_toArray, List.getElem_cons_zero, List.getElem_cons_succ, Act.put, List.setIfInBounds_toArray, List.set_cons_zero, List.set_cons_succ]
      refine wpAnyH_done (by kernel_rfl) ?_ _
      clear hS2
      have hb := (Below.refl w12.heap.size w12).drew
      have HB_14 := Lib.hid (HB_13.out.trans (hb.mono HB_13.out.size))
      have A0_14 := Lib.hid (A0_13.out.below hb)
      have A1_14 := Lib.hid (A1_13.out.below hb)
      have sB0_11 := Lib.hid (sB0_10.out.below hb)
      have sB1_11 := Lib.hid (sB1_10.out.below hb)
      have sL0_11 := Lib.hid (sL0_10.out.below intE_ok hb)
      have E0_10 := Lib.hid (E0_9.out.below entE_ok hb)
      have X0_9 := Lib.hid (X0_8.out.below hb)
      have E1_8 := Lib.hid (E1_7.out.below intE_ok hb)
      have X1_7 := Lib.hid (X1_6.out.below hb)
      have gB0_6 := Lib.hid (gB0_5.out.below hb)
      have gB1_6 := Lib.hid (gB1_5.out.below hb)
      have gL0_6 := Lib.hid (gL0_5.out.below intE_ok hb)
      clear HB_13 A0_13 A1_13 sB0_10 sB1_10 sL0_10 E0_9 X0_8 E1_7 X1_6 gB0_5 gB1_5 gL0_5 hb
      go_upto_region 16 with fail
      refine wp_region_held_drew (S := fun v : World => v.cell? ⟨w5.heap.size, 0, none⟩ = some (.slice y2d o1.length y2c) ∧ v.cell? ⟨(w.heap.size + 1), 0, none⟩ = some (.slice a1d o1.length a1c) ∧ w5.heap.size < v.heap.size ∧ (w.heap.size + 1) < v.heap.size ∧ v.cell? ⟨w5.heap.size, 1, none⟩ = some (.string (S t1)) ∧ v.cell? ⟨(w.heap.size + 1), 1, none⟩ = some (.string (S t1))) (by kernel_rfl) ⟨X1_7.out.1, A1_14.out.1, X1_7.out.2.2, A1_14.out.2.2, X1_7.out.2.1, A1_14.out.2.1⟩ (fun hS0 => ?_)
      refine wpAnyH_take (i := 0) (v := .agg #[.slice y2d o1.length y2c, .string (S t1)]) rfl (by kernel_rfl) (by kernel_rfl) (by kernel_rfl) (fun _ _ _ h => h) (Or.inl ⟨by rfl, fun z hz => ?_⟩) hS0 ?_
      · obtain ⟨q1, q2, q3, q4, q5, q6⟩ := hz
        go_simp
      try simp only [List.getElem_toArray, List.getElem_cons_zero, Act.put, List.setIfInBounds_toArray, List.set_cons_zero, List.set_cons_succ]
      refine wpAnyH_take (i := 1) (v := .agg #[.slice a1d o1.length a1c, .string (S t1)]) rfl (by kernel_rfl) (by kernel_rfl) (by kernel_rfl) (fun _ _ _ h => h) (Or.inl ⟨by rfl, fun z hz => ?_⟩) hS0 ?_
      · obtain ⟨q1, q2, q3, q4, q5, q6⟩ := hz
        go_simp
      try simp only [List.getElem_toArray, List.getElem_cons_zero, List.getElem_cons_succ, Act.put, List.setIfInBounds_toArray, List.set_cons_zero, List.set_cons_succ]
      refine wpAnyH_ready (rs := [2]) (by kernel_rfl) (by simp) ?_
      refine AllReadyH.cons rfl (fun K hK => ?_) AllReadyH.nil
      go_simp
      refine (toTranslator _ o1 t1 _ (HU1.out.below HB_14.out) HSM1.out.1).mono ?_
      rintro e w13 ⟨y4, rfl, hI, hb⟩
      have zw13 : w12.heap.size ≤ w13.heap.size := hb.size
      refine hK.out _ _ ⟨(hb.cell (p := ⟨w5.heap.size, 0, none⟩) hS0.2.2.1).trans hS0.1, (hb.cell (p := ⟨(w.heap.size + 1), 0, none⟩) hS0.2.2.2.1).trans hS0.2.1, Nat.lt_of_lt_of_le hS0.2.2.1 hb.size, Nat.lt_of_lt_of_le hS0.2.2.2.1 hb.size, (hb.cell (p := ⟨w5.heap.size, 1, none⟩) hS0.2.2.1).trans hS0.2.2.2.2.1, (hb.cell (p := ⟨(w.heap.size + 1), 1, none⟩) hS0.2.2.2.1).trans hS0.2.2.2.2.2⟩ (fun hS1 => ?_)
      clear hK K
      have HB_15 := Lib.hid (HB_14.out.trans (hb.mono HB_14.out.size))
      have A0_15 := Lib.hid (A0_14.out.below hb)
      have A1_15 := Lib.hid (A1_14.out.below hb)
      have sB0_12 := Lib.hid (sB0_11.out.below hb)
      have sB1_12 := Lib.hid (sB1_11.out.below hb)
      have sL0_12 := Lib.hid (sL0_11.out.below intE_ok hb)
      have E0_11 := Lib.hid (E0_10.out.below entE_ok hb)
      have X0_10 := Lib.hid (X0_9.out.below hb)
      have E1_9 := Lib.hid (E1_8.out.below intE_ok hb)
      have X1_8 := Lib.hid (X1_7.out.below hb)
      have gB0_7 := Lib.hid (gB0_6.out.below hb)
      have gB1_7 := Lib.hid (gB1_6.out.below hb)
      have gL0_7 := Lib.hid (gL0_6.out.below intE_ok hb)
      clear HB_14 A0_14 A1_14 sB0_11 sB1_11 sL0_11 E0_10 X0_9 E1_8 X1_7 gB0_6 gB1_6 gL0_6 hb hS0
      have HI3 := Lib.hid hI
      obtain ⟨y4d, y4c, rfl, _, _⟩ := hI
      try simp only [List.getElem_toArray, List.getElem_cons_zero, List.getElem_cons_succ, Act.put, List.setIfInBounds_toArray, List.set_cons_zero, List.set_cons_succ]
      refine wpAnyH_ready (rs := [3]) (by kernel_rfl) (by simp) ?_
      refine AllReadyH.cons rfl (fun K hK => ?_) AllReadyH.nil
      go_simp
      refine (eqTranslator _ _ o1 t1 _ (Ints.read E1_9.out) (Ints.read HI3.out)).mono ?_
      rintro e w14 ⟨rfl, hb⟩
      have zw14 : w13.heap.size ≤ w14.heap.size := hb.size
      refine hK.out _ _ ⟨(hb.cell (p := ⟨w5.heap.size, 0, none⟩) hS1.2.2.1).trans hS1.1, (hb.cell (p := ⟨(w.heap.size + 1), 0, none⟩) hS1.2.2.2.1).trans hS1.2.1, Nat.lt_of_lt_of_le hS1.2.2.1 hb.size, Nat.lt_of_lt_of_le hS1.2.2.2.1 hb.size, (hb.cell (p := ⟨w5.heap.size, 1, none⟩) hS1.2.2.1).trans hS1.2.2.2.2.1, (hb.cell (p := ⟨(w.heap.size + 1), 1, none⟩) hS1.2.2.2.1).trans hS1.2.2.2.2.2⟩ (fun hS2 => ?_)
      clear hK K
      have HB_16 := Lib.hid (HB_15.out.trans (hb.mono HB_15.out.size))
      have A0_16 := Lib.hid (A0_15.out.below hb)
      have A1_16 := Lib.hid (A1_15.out.below hb)
      have sB0_13 := Lib.hid (sB0_12.out.below hb)
      have sB1_13 := Lib.hid (sB1_12.out.below hb)
      have sL0_13 := Lib.hid (sL0_12.out.below intE_ok hb)
      have E0_12 := Lib.hid (E0_11.out.below entE_ok hb)
      have X0_11 := Lib.hid (X0_10.out.below hb)
      have E1_10 := Lib.hid (E1_9.out.below intE_ok hb)
      have X1_9 := Lib.hid (X1_8.out.below hb)
      have gB0_8 := Lib.hid (gB0_7.out.below hb)
      have gB1_8 := Lib.hid (gB1_7.out.below hb)
      have gL0_8 := Lib.hid (gL0_7.out.below intE_ok hb)
      clear HB_15 A0_15 A1_15 sB0_12 sB1_12 sL0_12 E0_11 X0_10 E1_9 X1_8 gB0_7 gB1_7 gL0_7 hb hS1 HI3
      try simp only [List.getElem_toArray, List.getElem_cons_zero, List.getElem_cons_succ, Act.put, List.setIfInBounds_toArray, List.set_cons_zero, List.set_cons_succ]
      refine wpAnyH_take (i := 4) (v := .bool false) rfl (by kernel_rfl) (by kernel_rfl) (by kernel_rfl) (fun _ _ _ h => h) (Or.inl ⟨by rfl, fun z hz => ?_⟩) hS2 ?_
      · obtain ⟨q1, q2, q3, q4, q5, q6⟩ := hz
        go_simp
      try simp only [List.getElem_toArray, List.getElem_cons_zero, List.getElem_cons_succ, Act.put, List.setIfInBounds_toArray, List.set_cons_zero, List.set_cons_succ]
      refine wpAnyH_done (by kernel_rfl) ?_ _
      clear hS2
      obtain ⟨c_X0, _⟩ := X0_11.out
      go_wp2_with fail
      refine (markDictionary _ l0 (1 : Int) (Bet (w3.heap.size) w4.heap.size) _ E0_12.out HK0.out.1 HK0.out.2.2.1).mono ?_
      rintro e w15 ⟨rfl, _, hc⟩
      have zw15 : w14.heap.size ≤ w15.heap.size := hc.size
      clear c_X0
      have HB_17 := Lib.hid (Chg.belowB HB_16.out hc HB_16.out.size (fun b h => by simp only [Bet, BetO] at h; omega))
      have A0_17 := Lib.hid (A0_16.out.stand hc (fun h => by simp only [Bet, BetO] at h; omega))
      have A1_17 := Lib.hid (A1_16.out.stand hc (fun h => by simp only [Bet, BetO] at h; omega))
      have sB0_14 := Lib.hid (sB0_13.out.stand hc (fun h => by simp only [Bet, BetO] at h; omega))
      have sB1_14 := Lib.hid (sB1_13.out.stand hc (fun h => by simp only [Bet, BetO] at h; omega))
      have sL0_14 := Lib.hid (sL0_13.out.stand intE_ok hc (fun b h1 h2 => by simp only [Bet, BetO] at h1 h2; omega))
      have X0_12 := Lib.hid (X0_11.out.stand hc (fun h => by simp only [Bet, BetO] at h; omega))
      have E1_11 := Lib.hid (E1_10.out.stand intE_ok hc (fun b h1 h2 => by simp only [Bet, BetO] at h1 h2; omega))
      have X1_10 := Lib.hid (X1_9.out.stand hc (fun h => by simp only [Bet, BetO] at h; omega))
      have gB0_9 := Lib.hid (gB0_8.out.stand hc (fun h => by simp only [Bet, BetO] at h; omega))
      have gB1_9 := Lib.hid (gB1_8.out.stand hc (fun h => by simp only [Bet, BetO] at h; omega))
      have gL0_9 := Lib.hid (gL0_8.out.stand intE_ok hc (fun b h1 h2 => by simp only [Bet, BetO] at h1 h2; omega))
      clear HB_16 A0_16 A1_16 sB0_13 sB1_13 sL0_13 X0_11 E1_10 X1_9 gB0_8 gB1_8 gL0_8 hc
      obtain ⟨c_X10, c_X11, _⟩ := X1_10.out
      go_wp2_with fail
      refine (markTranslator _ o1 t1 (P.kAt (1 : Int) l0) (Bet (w4.heap.size + 1) w5.heap.size) _ E1_11.out HK1.out.1 HK1.out.2.1).mono ?_
      rintro e w16 ⟨rfl, _, hc⟩
      have zw16 : w15.heap.size ≤ w16.heap.size := hc.size
      clear c_X10 c_X11
      have HB_18 := Lib.hid (Chg.belowB HB_17.out hc HB_17.out.size (fun b h => by simp only [Bet, BetO] at h; omega))
      have A0_18 := Lib.hid (A0_17.out.stand hc (fun h => by simp only [Bet, BetO] at h; omega))
      have A1_18 := Lib.hid (A1_17.out.stand hc (fun h => by simp only [Bet, BetO] at h; omega))
      have sB0_15 := Lib.hid (sB0_14.out.stand hc (fun h => by simp only [Bet, BetO] at h; omega))
      have sB1_15 := Lib.hid (sB1_14.out.stand hc (fun h => by simp only [Bet, BetO] at h; omega))
      have sL0_15 := Lib.hid (sL0_14.out.stand intE_ok hc (fun b h1 h2 => by simp only [Bet, BetO] at h1 h2; omega))
      have X0_13 := Lib.hid (X0_12.out.stand hc (fun h => by simp only [Bet, BetO] at h; omega))
      have X1_11 := Lib.hid (X1_10.out.stand hc (fun h => by simp only [Bet, BetO] at h; omega))
      have gB0_10 := Lib.hid (gB0_9.out.stand hc (fun h => by simp only [Bet, BetO] at h; omega))
      have gB1_10 := Lib.hid (gB1_9.out.stand hc (fun h => by simp only [Bet, BetO] at h; omega))
      have gL0_10 := Lib.hid (gL0_9.out.stand intE_ok hc (fun b h1 h2 => by simp only [Bet, BetO] at h1 h2; omega))
      clear HB_17 A0_17 A1_17 sB0_14 sB1_14 sL0_14 X0_12 X1_10 gB0_9 gB1_9 gL0_9 hc
      have hkp : ¬ ((P.kAt (1 : Int) l0) + (o1.length : Int)) < 0 := by have := HK1.out.2.2.2; omega
      obtain ⟨c_gB00, c_gB01, _⟩ := gB0_10.out
      obtain ⟨c_sB00, c_sB01, _⟩ := sB0_15.out
      obtain ⟨c_gB10, c_gB11, _⟩ := gB1_10.out
      obtain ⟨c_sB10, c_sB11, _⟩ := sB1_15.out
      go_wp2_with fail
      refine (eqTranslator _ _ nx sc _ (Ints.read gL0_10.out) (Ints.read sL0_15.out)).mono ?_
      rintro e w17 ⟨rfl, hb⟩
      clear c_gB00 c_gB01 c_sB00 c_sB01 c_gB10 c_gB11 c_sB10 c_sB11
      have zw17 : w16.heap.size ≤ w17.heap.size := hb.size
      have HB_19 := Lib.hid (HB_18.out.trans (hb.mono HB_18.out.size))
      have A0_19 := Lib.hid (A0_18.out.below hb)
      have A1_19 := Lib.hid (A1_18.out.below hb)
      have sB0_16 := Lib.hid (sB0_15.out.below hb)
      have sB1_16 := Lib.hid (sB1_15.out.below hb)
      have sL0_16 := Lib.hid (sL0_15.out.below intE_ok hb)
      have X0_14 := Lib.hid (X0_13.out.below hb)
      have X1_12 := Lib.hid (X1_11.out.below hb)
      have gB0_11 := Lib.hid (gB0_10.out.below hb)
      have gB1_11 := Lib.hid (gB1_10.out.below hb)
      have gL0_11 := Lib.hid (gL0_10.out.below intE_ok hb)
      clear HB_18 A0_18 A1_18 sB0_15 sB1_15 sL0_15 X0_13 X1_11 gB0_10 gB1_10 gL0_10 hb
      obtain ⟨c_gB10, c_gB11, _⟩ := gB1_11.out
      obtain ⟨c_sB10, c_sB11, _⟩ := sB1_16.out
      go_wp2_with fail
      refine (eqEdit en et _).mono ?_
      rintro e w18 ⟨rfl, hb⟩
      clear c_gB10 c_gB11 c_sB10 c_sB11
      have zw18 : w17.heap.size ≤ w18.heap.size := hb.size
      have HB_20 := Lib.hid (HB_19.out.trans (hb.mono HB_19.out.size))
      have A0_20 := Lib.hid (A0_19.out.below hb)
      have A1_20 := Lib.hid (A1_19.out.below hb)
      have sB0_17 := Lib.hid (sB0_16.out.below hb)
      have sB1_17 := Lib.hid (sB1_16.out.below hb)
      have sL0_17 := Lib.hid (sL0_16.out.below intE_ok hb)
      have X0_15 := Lib.hid (X0_14.out.below hb)
      have X1_13 := Lib.hid (X1_12.out.below hb)
      have gB0_12 := Lib.hid (gB0_11.out.below hb)
      have gB1_12 := Lib.hid (gB1_11.out.below hb)
      have gL0_12 := Lib.hid (gL0_11.out.below intE_ok hb)
      clear HB_19 A0_19 A1_19 sB0_16 sB1_16 sL0_16 X0_14 X1_12 gB0_11 gB1_11 gL0_11 hb
      obtain ⟨c_gB00, c_gB01, _⟩ := gB0_12.out
      go_wp2_with fail
      refine (markTranslator _ nx sc (1 : Int) (BetO w6.heap.size mg (.slice g0d nx.length g0c)) _ gL0_12.out HG0.out.1 HG0.out.2.1).mono ?_
      rintro e w19 ⟨rfl, hI, hc⟩
      have zw19 : w18.heap.size ≤ w19.heap.size := hc.size
      clear c_gB00 c_gB01
      have HB_21 := Lib.hid (Chg.belowB HB_20.out hc HB_20.out.size (fun b h => by simp only [Bet, BetO] at h; omega))
      have A0_21 := Lib.hid (A0_20.out.stand hc (fun h => by simp only [Bet, BetO] at h; omega))
      have A1_21 := Lib.hid (A1_20.out.stand hc (fun h => by simp only [Bet, BetO] at h; omega))
      have sB0_18 := Lib.hid (sB0_17.out.stand hc (fun h => by simp only [Bet, BetO] at h; omega))
      have sB1_18 := Lib.hid (sB1_17.out.stand hc (fun h => by simp only [Bet, BetO] at h; omega))
      have sL0_18 := Lib.hid (sL0_17.out.stand intE_ok hc (fun b h1 h2 => by simp only [Bet, BetO] at h1 h2; omega))
      have X0_16 := Lib.hid (X0_15.out.stand hc (fun h => by simp only [Bet, BetO] at h; omega))
      have X1_14 := Lib.hid (X1_13.out.stand hc (fun h => by simp only [Bet, BetO] at h; omega))
      have gB0_13 := Lib.hid (gB0_12.out.stand hc (fun h => by simp only [Bet, BetO] at h; omega))
      have gB1_13 := Lib.hid (gB1_12.out.stand hc (fun h => by simp only [Bet, BetO] at h; omega))
      clear HB_20 A0_20 A1_20 sB0_17 sB1_17 sL0_17 X0_15 X1_13 gB0_12 gB1_12 hc hkp
      have mL0_0 := Lib.hid (hI)
      clear hI
      obtain ⟨c_gB00, c_gB01, _⟩ := gB0_13.out
      go_wp2_with fail
      refine (heldTranslator _ nx.length sc (1 : Int) _ (Ints.read mL0_0.out) HG0.out.1 HG0.out.2.1 (by have := HLEN.out; omega)).mono ?_
      rintro e w20 ⟨rfl, hb⟩
      clear c_gB00 c_gB01
      have zw20 : w19.heap.size ≤ w20.heap.size := hb.size
      have HB_22 := Lib.hid (HB_21.out.trans (hb.mono HB_21.out.size))
      have A0_22 := Lib.hid (A0_21.out.below hb)
      have A1_22 := Lib.hid (A1_21.out.below hb)
      have sB0_19 := Lib.hid (sB0_18.out.below hb)
      have sB1_19 := Lib.hid (sB1_18.out.below hb)
      have sL0_19 := Lib.hid (sL0_18.out.below intE_ok hb)
      have X0_17 := Lib.hid (X0_16.out.below hb)
      have X1_15 := Lib.hid (X1_14.out.below hb)
      have gB0_14 := Lib.hid (gB0_13.out.below hb)
      have gB1_14 := Lib.hid (gB1_13.out.below hb)
      have mL0_1 := Lib.hid (mL0_0.out.below intE_ok hb)
      clear HB_21 A0_21 A1_21 sB0_18 sB1_18 sL0_18 X0_16 X1_14 gB0_13 gB1_13 mL0_0 hb
      have hkn0 : ¬ ((1 : Int) + (nx.length : Int)) < 0 := by have := HG0.out.2.2.2; omega
      have hWA : (w.heap.size + 1) < w20.heap.size := A1_22.out.2.2
      have HS := Lib.hid (show K_law_press w a0d a0c l0 a1d a1c o1 t1 w20.drew from K_law_press.step (B := w20.heap.size) ⟨A0_22.out.1, A1_22.out.1, A1_22.out.2.1⟩ (Below.refl _ _).drew hWA)
      go_upto_region 31 with fail
      go_cut [19, 20, 21] (fun q0 q1 q2 wx => ∃ bh0 bh1 h0d h0c, q0 = .pointer (some ⟨bh0, 0, none⟩) ∧ q1 = .pointer (some ⟨bh1, 0, none⟩) ∧ q2 = .bool ok ∧ Box2E bh0 (.slice h0d nx.length h0c) sc wx ∧ w20.heap.size ≤ bh0 ∧ Box2E bh1 (.int .i64 en) et wx ∧ w20.heap.size ≤ bh1 ∧ Ints wx (BetO w20.heap.size wx.heap.size (.slice h0d nx.length h0c)) (.slice h0d nx.length h0c) nx ∧ Below w20.heap.size w20 wx)
      case first =>
        apply lem_cut
        intro kh301
        apply lem_cut
        intro kh31
        apply lem_cut
        intro kh30
        apply lem_cut
        intro kh201
        apply lem_cut
        intro kh3
        apply lem_cut
        intro kh21
        apply lem_cut
        intro kh20
        apply lem_cut
        intro kh101
        apply lem_cut
        intro kh2
        apply lem_cut
        intro kh11
        apply lem_cut
        intro kh10
        apply lem_cut
        intro kh001
        apply lem_cut
        intro kh1
        apply lem_cut
        intro kh01
        apply lem_cut
        intro kh00
        have HBW := Lib.hid (show Below w20.heap.size w20 w20.drew from (Below.refl _ _).drew)
        refine wp_region_held_drew (S := K_law_press w a0d a0c l0 a1d a1c o1 t1) (by kernel_rfl) HS.out (fun hS => ?_)
        refine wpAnyH_take (i := 0) (v := .agg #[.slice a0d l0.length a0c]) rfl (by kernel_rfl) (by kernel_rfl) (by kernel_rfl) (fun _ _ _ h => h) (Or.inl ⟨by rfl, fun z hz => ?_⟩) hS ?_
        · obtain ⟨z0q, z1q, z2q⟩ := hz
          go_simp
        try simp only [List.getElem_toArray, List.getElem_cons_zero, Act.put, List.setIfInBounds_toArray, List.set_cons_zero, List.set_cons_succ]
        refine wpAnyH_take (i := 2) (v := .agg #[.slice a1d o1.length a1c, .string (S t1)]) rfl (by kernel_rfl) (by kernel_rfl) (by kernel_rfl) (fun _ _ _ h => h) (Or.inl ⟨by rfl, fun z hz => ?_⟩) hS ?_
        · obtain ⟨z0q, z1q, z2q⟩ := hz
          go_simp
        try simp only [List.getElem_toArray, List.getElem_cons_zero, List.getElem_cons_succ, Act.put, List.setIfInBounds_toArray, List.set_cons_zero, List.set_cons_succ]
        refine wpAnyH_take (i := 4) (v := .int .i64 n2) rfl (by kernel_rfl) (by kernel_rfl) (by kernel_rfl) (fun _ _ _ h => h) (Or.inl ⟨by rfl, fun z hz => ?_⟩) hS ?_
        · obtain ⟨z0q, z1q, z2q⟩ := hz
          go_simp
        try simp only [List.getElem_toArray, List.getElem_cons_zero, List.getElem_cons_succ, Act.put, List.setIfInBounds_toArray, List.set_cons_zero, List.set_cons_succ]
        generalize w20.drew = v at hS HBW ⊢
        refine wpAnyH_ready (rs := [1, 10, 11]) (by kernel_rfl) (by simp) ?_
        refine AllReadyH.cons rfl (fun K hK => ?_) (AllReadyH.cons rfl (fun K hK => ?_) (AllReadyH.cons rfl (fun K hK => ?_) AllReadyH.nil))
        · skip
          go_simp
          refine (toDictionary _ l0 _ (HU0.out.below (HB_22.out.trans (HBW.out.mono HB_22.out.size))) HSM0.out.len HSM0.out.outs).mono ?_
          rintro e v9 ⟨y9, rfl, hI, hb⟩
          have hwz := HBW.out.size
          have hvz := hb.size
          refine hK.out _ _ (hS.step (hb.mono hwz) hWA) (fun hSn => ?_)
          clear hK K
          have HQ0n := Lib.hid ((Ents.read hI))
          obtain ⟨x0d, x0c, rfl, -, -⟩ := hI
          have HBWn := Lib.hid (HBW.out.trans (hb.mono hwz))
          try simp only [List.getElem_toArray, List.getElem_cons_zero, List.getElem_cons_succ, Act.put, List.setIfInBounds_toArray, List.set_cons_zero, List.set_cons_succ]
          clear hS HBW hb hvz hwz 
          have HALL := And.intro hSn (And.intro HBWn HQ0n)
          clear hSn HBWn HQ0n
          revert HALL
          revert x0c
          revert x0d
          revert v9
          exact kh1
        · skip
          go_simp
          have hb := (Below.refl v.heap.size v).alloc (Nat.le_refl _) (.cells #[.slice none 0 0, .string (S [])] 32)
          have zv : v.heap.size < (v.alloc (.cells #[.slice none 0 0, .string (S [])] 32)).heap.size := by simp
          have hbx := TBx.new (.slice none 0 0) [] v
          have hwz := HBW.out.size
          refine hK.out _ _ (hS.step (hb.mono hwz) hWA) (fun hSn => ?_)
          clear hK K
          try simp only [List.getElem_toArray, List.getElem_cons_zero, List.getElem_cons_succ, Act.put, List.setIfInBounds_toArray, List.set_cons_zero, List.set_cons_succ]
          have HBX0n := Lib.hid (And.intro hbx hwz)
          have HBWn := Lib.hid (HBW.out.trans (hb.mono hwz))
          clear hS HBW hb zv hbx hwz 
          generalize v.alloc (.cells #[.slice none 0 0, .string (S [])] 32) = v9 at hSn HBWn HBX0n ⊢
          generalize v.heap.size = bb0 at HBX0n ⊢
          have HALL := And.intro hSn (And.intro HBWn HBX0n)
          clear hSn HBWn HBX0n
          revert HALL
          revert bb0
          revert v9
          exact kh00
        · skip
          go_simp
          have hb := (Below.refl v.heap.size v).alloc (Nat.le_refl _) (.cells #[.int .i64 0, .string (S [])] 38)
          have zv : v.heap.size < (v.alloc (.cells #[.int .i64 0, .string (S [])] 38)).heap.size := by simp
          have hbx := EBx.new v
          have hwz := HBW.out.size
          refine hK.out _ _ (hS.step (hb.mono hwz) hWA) (fun hSn => ?_)
          clear hK K
          try simp only [List.getElem_toArray, List.getElem_cons_zero, List.getElem_cons_succ, Act.put, List.setIfInBounds_toArray, List.set_cons_zero, List.set_cons_succ]
          have HBX1n := Lib.hid (And.intro hbx hwz)
          have HBWn := Lib.hid (HBW.out.trans (hb.mono hwz))
          clear hS HBW hb zv hbx hwz 
          generalize v.alloc (.cells #[.int .i64 0, .string (S [])] 38) = v9 at hSn HBWn HBX1n ⊢
          generalize v.heap.size = bb1 at HBX1n ⊢
          have HALL := And.intro hSn (And.intro HBWn HBX1n)
          clear hSn HBWn HBX1n
          revert HALL
          revert bb1
          revert v9
          exact kh01
        intro v bb0 HALL
        obtain ⟨hS, HBW, HBX0⟩ := HALL
        refine wpAnyH_ready (rs := [1, 11]) (by kernel_rfl) (by simp) ?_
        refine AllReadyH.cons rfl (fun K hK => ?_) (AllReadyH.cons rfl (fun K hK => ?_) AllReadyH.nil)
        · skip
          go_simp
          refine (toDictionary _ l0 _ (HU0.out.below (HB_22.out.trans (HBW.out.mono HB_22.out.size))) HSM0.out.len HSM0.out.outs).mono ?_
          rintro e v9 ⟨y9, rfl, hI, hb⟩
          have hwz := HBW.out.size
          have hvz := hb.size
          refine hK.out _ _ (hS.step (hb.mono hwz) hWA) (fun hSn => ?_)
          clear hK K
          have hz0 := HBX0.out.1.1
          have HBX0n := Lib.hid (And.intro (HBX0.out.1.below hb) HBX0.out.2)
          have HQ0n := Lib.hid ((Ents.read hI))
          obtain ⟨x0d, x0c, rfl, -, -⟩ := hI
          have HBWn := Lib.hid (HBW.out.trans (hb.mono hwz))
          try simp only [List.getElem_toArray, List.getElem_cons_zero, List.getElem_cons_succ, Act.put, List.setIfInBounds_toArray, List.set_cons_zero, List.set_cons_succ]
          clear hS HBW HBX0 hb hvz hwz hz0
          have HALL := And.intro hSn (And.intro HBWn (And.intro HQ0n HBX0n))
          clear hSn HBWn HQ0n HBX0n
          revert HALL
          revert bb0
          revert x0c
          revert x0d
          revert v9
          exact kh10
        · skip
          go_simp
          have hb := (Below.refl v.heap.size v).alloc (Nat.le_refl _) (.cells #[.int .i64 0, .string (S [])] 38)
          have zv : v.heap.size < (v.alloc (.cells #[.int .i64 0, .string (S [])] 38)).heap.size := by simp
          have hbx := EBx.new v
          have hwz := HBW.out.size
          refine hK.out _ _ (hS.step (hb.mono hwz) hWA) (fun hSn => ?_)
          clear hK K
          try simp only [List.getElem_toArray, List.getElem_cons_zero, List.getElem_cons_succ, Act.put, List.setIfInBounds_toArray, List.set_cons_zero, List.set_cons_succ]
          have hz0 := HBX0.out.1.1
          have HBX0n := Lib.hid (And.intro (HBX0.out.1.below hb) HBX0.out.2)
          have HBX1n := Lib.hid (And.intro hbx hwz)
          have HNEn := Lib.hid (show bb0 ≠ v.heap.size by omega)
          have HBWn := Lib.hid (HBW.out.trans (hb.mono hwz))
          clear hS HBW HBX0 hb zv hbx hwz hz0
          generalize v.alloc (.cells #[.int .i64 0, .string (S [])] 38) = v9 at hSn HBWn HBX0n HBX1n HNEn ⊢
          generalize v.heap.size = bb1 at HBX1n HNEn ⊢
          have HALL := And.intro hSn (And.intro HBWn (And.intro HBX0n (And.intro HBX1n HNEn)))
          clear hSn HBWn HBX0n HBX1n HNEn
          revert HALL
          revert bb1
          revert bb0
          revert v9
          exact kh001
        intro v bb1 HALL
        obtain ⟨hS, HBW, HBX1⟩ := HALL
        refine wpAnyH_ready (rs := [1, 10]) (by kernel_rfl) (by simp) ?_
        refine AllReadyH.cons rfl (fun K hK => ?_) (AllReadyH.cons rfl (fun K hK => ?_) AllReadyH.nil)
        · skip
          go_simp
          refine (toDictionary _ l0 _ (HU0.out.below (HB_22.out.trans (HBW.out.mono HB_22.out.size))) HSM0.out.len HSM0.out.outs).mono ?_
          rintro e v9 ⟨y9, rfl, hI, hb⟩
          have hwz := HBW.out.size
          have hvz := hb.size
          refine hK.out _ _ (hS.step (hb.mono hwz) hWA) (fun hSn => ?_)
          clear hK K
          have hz1 := HBX1.out.1.1
          have HBX1n := Lib.hid (And.intro (HBX1.out.1.below hb) HBX1.out.2)
          have HQ0n := Lib.hid ((Ents.read hI))
          obtain ⟨x0d, x0c, rfl, -, -⟩ := hI
          have HBWn := Lib.hid (HBW.out.trans (hb.mono hwz))
          try simp only [List.getElem_toArray, List.getElem_cons_zero, List.getElem_cons_succ, Act.put, List.setIfInBounds_toArray, List.set_cons_zero, List.set_cons_succ]
          clear hS HBW HBX1 hb hvz hwz hz1
          have HALL := And.intro hSn (And.intro HBWn (And.intro HQ0n HBX1n))
          clear hSn HBWn HQ0n HBX1n
          revert HALL
          revert bb1
          revert x0c
          revert x0d
          revert v9
          exact kh11
        · skip
          go_simp
          have hb := (Below.refl v.heap.size v).alloc (Nat.le_refl _) (.cells #[.slice none 0 0, .string (S [])] 32)
          have zv : v.heap.size < (v.alloc (.cells #[.slice none 0 0, .string (S [])] 32)).heap.size := by simp
          have hbx := TBx.new (.slice none 0 0) [] v
          have hwz := HBW.out.size
          refine hK.out _ _ (hS.step (hb.mono hwz) hWA) (fun hSn => ?_)
          clear hK K
          try simp only [List.getElem_toArray, List.getElem_cons_zero, List.getElem_cons_succ, Act.put, List.setIfInBounds_toArray, List.set_cons_zero, List.set_cons_succ]
          have hz1 := HBX1.out.1.1
          have HBX1n := Lib.hid (And.intro (HBX1.out.1.below hb) HBX1.out.2)
          have HBX0n := Lib.hid (And.intro hbx hwz)
          have HNEn := Lib.hid (show v.heap.size ≠ bb1 by omega)
          have HBWn := Lib.hid (HBW.out.trans (hb.mono hwz))
          exact kh001 _ _ _ ⟨hSn, HBWn, HBX0n, HBX1n, HNEn⟩
        intro v x0d x0c HALL
        obtain ⟨hS, HBW, HQ0⟩ := HALL
        refine wpAnyH_ready (rs := [3, 10, 11]) (by kernel_rfl) (by simp) ?_
        refine AllReadyH.cons rfl (fun K hK => ?_) (AllReadyH.cons rfl (fun K hK => ?_) (AllReadyH.cons rfl (fun K hK => ?_) AllReadyH.nil))
        · skip
          go_simp
          refine (toTranslator _ o1 t1 _ (HU1.out.below (HB_22.out.trans (HBW.out.mono HB_22.out.size))) HSM1.out.1).mono ?_
          rintro e v9 ⟨y9, rfl, hI, hb⟩
          have hwz := HBW.out.size
          have hvz := hb.size
          refine hK.out _ _ (hS.step (hb.mono hwz) hWA) (fun hSn => ?_)
          clear hK K
          have HQ0n := Lib.hid (HQ0.out.below hb)
          have HQ1n := Lib.hid ((Ints.read hI))
          obtain ⟨x1d, x1c, rfl, -, -⟩ := hI
          have HBWn := Lib.hid (HBW.out.trans (hb.mono hwz))
          try simp only [List.getElem_toArray, List.getElem_cons_zero, List.getElem_cons_succ, Act.put, List.setIfInBounds_toArray, List.set_cons_zero, List.set_cons_succ]
          clear hS HBW HQ0 hb hvz hwz 
          have HALL := And.intro hSn (And.intro HBWn (And.intro HQ0n HQ1n))
          clear hSn HBWn HQ0n HQ1n
          revert HALL
          revert x1c
          revert x1d
          revert x0c
          revert x0d
          revert v9
          exact kh2
        · skip
          go_simp
          have hb := (Below.refl v.heap.size v).alloc (Nat.le_refl _) (.cells #[.slice none 0 0, .string (S [])] 32)
          have zv : v.heap.size < (v.alloc (.cells #[.slice none 0 0, .string (S [])] 32)).heap.size := by simp
          have hbx := TBx.new (.slice none 0 0) [] v
          have hwz := HBW.out.size
          refine hK.out _ _ (hS.step (hb.mono hwz) hWA) (fun hSn => ?_)
          clear hK K
          try simp only [List.getElem_toArray, List.getElem_cons_zero, List.getElem_cons_succ, Act.put, List.setIfInBounds_toArray, List.set_cons_zero, List.set_cons_succ]
          have HQ0n := Lib.hid (HQ0.out.below hb)
          have HBX0n := Lib.hid (And.intro hbx hwz)
          have HBWn := Lib.hid (HBW.out.trans (hb.mono hwz))
          exact kh10 _ _ _ _ ⟨hSn, HBWn, HQ0n, HBX0n⟩
        · skip
          go_simp
          have hb := (Below.refl v.heap.size v).alloc (Nat.le_refl _) (.cells #[.int .i64 0, .string (S [])] 38)
          have zv : v.heap.size < (v.alloc (.cells #[.int .i64 0, .string (S [])] 38)).heap.size := by simp
          have hbx := EBx.new v
          have hwz := HBW.out.size
          refine hK.out _ _ (hS.step (hb.mono hwz) hWA) (fun hSn => ?_)
          clear hK K
          try simp only [List.getElem_toArray, List.getElem_cons_zero, List.getElem_cons_succ, Act.put, List.setIfInBounds_toArray, List.set_cons_zero, List.set_cons_succ]
          have HQ0n := Lib.hid (HQ0.out.below hb)
          have HBX1n := Lib.hid (And.intro hbx hwz)
          have HBWn := Lib.hid (HBW.out.trans (hb.mono hwz))
          exact kh11 _ _ _ _ ⟨hSn, HBWn, HQ0n, HBX1n⟩
        intro v bb0 bb1 HALL
        obtain ⟨hS, HBW, HBX0, HBX1, HNE⟩ := HALL
        refine wpAnyH_ready (rs := [1]) (by kernel_rfl) (by simp) ?_
        refine AllReadyH.cons rfl (fun K hK => ?_) AllReadyH.nil
        · skip
          go_simp
          refine (toDictionary _ l0 _ (HU0.out.below (HB_22.out.trans (HBW.out.mono HB_22.out.size))) HSM0.out.len HSM0.out.outs).mono ?_
          rintro e v9 ⟨y9, rfl, hI, hb⟩
          have hwz := HBW.out.size
          have hvz := hb.size
          refine hK.out _ _ (hS.step (hb.mono hwz) hWA) (fun hSn => ?_)
          clear hK K
          have hz0 := HBX0.out.1.1
          have HBX0n := Lib.hid (And.intro (HBX0.out.1.below hb) HBX0.out.2)
          have hz1 := HBX1.out.1.1
          have HBX1n := Lib.hid (And.intro (HBX1.out.1.below hb) HBX1.out.2)
          have HQ0n := Lib.hid ((Ents.read hI))
          obtain ⟨x0d, x0c, rfl, -, -⟩ := hI
          have HBWn := Lib.hid (HBW.out.trans (hb.mono hwz))
          have HNEn := Lib.hid HNE.out
          try simp only [List.getElem_toArray, List.getElem_cons_zero, List.getElem_cons_succ, Act.put, List.setIfInBounds_toArray, List.set_cons_zero, List.set_cons_succ]
          clear hS HBW HBX0 HBX1 HNE hb hvz hwz hz0 hz1
          have HALL := And.intro hSn (And.intro HBWn (And.intro HQ0n (And.intro HBX0n (And.intro HBX1n HNEn))))
          clear hSn HBWn HQ0n HBX0n HBX1n HNEn
          revert HALL
          revert bb1
          revert bb0
          revert x0c
          revert x0d
          revert v9
          exact kh101
        intro v x0d x0c bb0 HALL
        obtain ⟨hS, HBW, HQ0, HBX0⟩ := HALL
        refine wpAnyH_ready (rs := [3, 11]) (by kernel_rfl) (by simp) ?_
        refine AllReadyH.cons rfl (fun K hK => ?_) (AllReadyH.cons rfl (fun K hK => ?_) AllReadyH.nil)
        · skip
          go_simp
          refine (toTranslator _ o1 t1 _ (HU1.out.below (HB_22.out.trans (HBW.out.mono HB_22.out.size))) HSM1.out.1).mono ?_
          rintro e v9 ⟨y9, rfl, hI, hb⟩
          have hwz := HBW.out.size
          have hvz := hb.size
          refine hK.out _ _ (hS.step (hb.mono hwz) hWA) (fun hSn => ?_)
          clear hK K
          have HQ0n := Lib.hid (HQ0.out.below hb)
          have hz0 := HBX0.out.1.1
          have HBX0n := Lib.hid (And.intro (HBX0.out.1.below hb) HBX0.out.2)
          have HQ1n := Lib.hid ((Ints.read hI))
          obtain ⟨x1d, x1c, rfl, -, -⟩ := hI
          have HBWn := Lib.hid (HBW.out.trans (hb.mono hwz))
          try simp only [List.getElem_toArray, List.getElem_cons_zero, List.getElem_cons_succ, Act.put, List.setIfInBounds_toArray, List.set_cons_zero, List.set_cons_succ]
          clear hS HBW HQ0 HBX0 hb hvz hwz hz0
          have HALL := And.intro hSn (And.intro HBWn (And.intro HQ0n (And.intro HQ1n HBX0n)))
          clear hSn HBWn HQ0n HQ1n HBX0n
          revert HALL
          revert bb0
          revert x1c
          revert x1d
          revert x0c
          revert x0d
          revert v9
          exact kh20
        · skip
          go_simp
          have hb := (Below.refl v.heap.size v).alloc (Nat.le_refl _) (.cells #[.int .i64 0, .string (S [])] 38)
          have zv : v.heap.size < (v.alloc (.cells #[.int .i64 0, .string (S [])] 38)).heap.size := by simp
          have hbx := EBx.new v
          have hwz := HBW.out.size
          refine hK.out _ _ (hS.step (hb.mono hwz) hWA) (fun hSn => ?_)
          clear hK K
          try simp only [List.getElem_toArray, List.getElem_cons_zero, List.getElem_cons_succ, Act.put, List.setIfInBounds_toArray, List.set_cons_zero, List.set_cons_succ]
          have HQ0n := Lib.hid (HQ0.out.below hb)
          have hz0 := HBX0.out.1.1
          have HBX0n := Lib.hid (And.intro (HBX0.out.1.below hb) HBX0.out.2)
          have HBX1n := Lib.hid (And.intro hbx hwz)
          have HNEn := Lib.hid (show bb0 ≠ v.heap.size by omega)
          have HBWn := Lib.hid (HBW.out.trans (hb.mono hwz))
          exact kh101 _ _ _ _ _ ⟨hSn, HBWn, HQ0n, HBX0n, HBX1n, HNEn⟩
        intro v x0d x0c bb1 HALL
        obtain ⟨hS, HBW, HQ0, HBX1⟩ := HALL
        refine wpAnyH_ready (rs := [3, 10]) (by kernel_rfl) (by simp) ?_
        refine AllReadyH.cons rfl (fun K hK => ?_) (AllReadyH.cons rfl (fun K hK => ?_) AllReadyH.nil)
        · skip
          go_simp
          refine (toTranslator _ o1 t1 _ (HU1.out.below (HB_22.out.trans (HBW.out.mono HB_22.out.size))) HSM1.out.1).mono ?_
          rintro e v9 ⟨y9, rfl, hI, hb⟩
          have hwz := HBW.out.size
          have hvz := hb.size
          refine hK.out _ _ (hS.step (hb.mono hwz) hWA) (fun hSn => ?_)
          clear hK K
          have HQ0n := Lib.hid (HQ0.out.below hb)
          have hz1 := HBX1.out.1.1
          have HBX1n := Lib.hid (And.intro (HBX1.out.1.below hb) HBX1.out.2)
          have HQ1n := Lib.hid ((Ints.read hI))
          obtain ⟨x1d, x1c, rfl, -, -⟩ := hI
          have HBWn := Lib.hid (HBW.out.trans (hb.mono hwz))
          try simp only [List.getElem_toArray, List.getElem_cons_zero, List.getElem_cons_succ, Act.put, List.setIfInBounds_toArray, List.set_cons_zero, List.set_cons_succ]
          clear hS HBW HQ0 HBX1 hb hvz hwz hz1
          have HALL := And.intro hSn (And.intro HBWn (And.intro HQ0n (And.intro HQ1n HBX1n)))
          clear hSn HBWn HQ0n HQ1n HBX1n
          revert HALL
          revert bb1
          revert x1c
          revert x1d
          revert x0c
          revert x0d
          revert v9
          exact kh21
        · skip
          go_simp
          have hb := (Below.refl v.heap.size v).alloc (Nat.le_refl _) (.cells #[.slice none 0 0, .string (S [])] 32)
          have zv : v.heap.size < (v.alloc (.cells #[.slice none 0 0, .string (S [])] 32)).heap.size := by simp
          have hbx := TBx.new (.slice none 0 0) [] v
          have hwz := HBW.out.size
          refine hK.out _ _ (hS.step (hb.mono hwz) hWA) (fun hSn => ?_)
          clear hK K
          try simp only [List.getElem_toArray, List.getElem_cons_zero, List.getElem_cons_succ, Act.put, List.setIfInBounds_toArray, List.set_cons_zero, List.set_cons_succ]
          have HQ0n := Lib.hid (HQ0.out.below hb)
          have hz1 := HBX1.out.1.1
          have HBX1n := Lib.hid (And.intro (HBX1.out.1.below hb) HBX1.out.2)
          have HBX0n := Lib.hid (And.intro hbx hwz)
          have HNEn := Lib.hid (show v.heap.size ≠ bb1 by omega)
          have HBWn := Lib.hid (HBW.out.trans (hb.mono hwz))
          exact kh101 _ _ _ _ _ ⟨hSn, HBWn, HQ0n, HBX0n, HBX1n, HNEn⟩
        intro v x0d x0c x1d x1c HALL
        obtain ⟨hS, HBW, HQ0, HQ1⟩ := HALL
        refine wpAnyH_ready (rs := [5, 10, 11]) (by kernel_rfl) (by simp) ?_
        refine AllReadyH.cons rfl (fun K hK => ?_) (AllReadyH.cons rfl (fun K hK => ?_) (AllReadyH.cons rfl (fun K hK => ?_) AllReadyH.nil))
        · skip
          go_simp
          refine ((impl_press _ _ l0 o1 t1 n2 _ HQ0.out HQ1.out HSM0.out (HE.out.below (HB_22.out.trans (HBW.out.mono HB_22.out.size)) HE.out.size) HSM1.out.1 HSM1.out.2).mono (prs_of HR.out (Nat.le_trans HLEN.out (by decide)))).mono ?_
          rintro e v9 ⟨h0d, h0c, rfl, hrow0, hb⟩
          have hwz := HBW.out.size
          have hvz := hb.size
          refine hK.out _ _ (hS.step (hb.mono hwz) hWA) (fun hSn => ?_)
          clear hK K
          obtain ⟨lo, hi, hlo1, hhi1, hres0⟩ : ∃ lo hi : Nat, (w20.heap.size ≤ lo) ∧ (hi ≤ v9.heap.size) ∧ Ints v9 (BetO lo hi (.slice h0d nx.length h0c)) (.slice h0d nx.length h0c) nx := ⟨v.heap.size, v9.heap.size, hwz, Nat.le_refl _, hrow0⟩
          have HLOn := Lib.hid (And.intro hlo1 hhi1)
          have HRES0n := Lib.hid hres0
          clear hlo1 hhi1 hres0 hrow0 
          have HBWn := Lib.hid (HBW.out.trans (hb.mono hwz))
          try simp only [List.getElem_toArray, List.getElem_cons_zero, List.getElem_cons_succ, Act.put, List.setIfInBounds_toArray, List.set_cons_zero, List.set_cons_succ]
          refine wpAnyH_take (i := 6) (v := .tuple #[.agg #[.slice h0d nx.length h0c, .string (S sc)], .agg #[.int .i64 en, .string (S et)], .bool ok]) rfl (by kernel_rfl) (by kernel_rfl) (by kernel_rfl) (fun _ _ _ h => h) (Or.inl ⟨by rfl, fun z hz => ?_⟩) hSn ?_
          · obtain ⟨z0q, z1q, z2q⟩ := hz
            go_simp
          try simp only [List.getElem_toArray, List.getElem_cons_zero, List.getElem_cons_succ, Act.put, List.setIfInBounds_toArray, List.set_cons_zero, List.set_cons_succ]
          refine wpAnyH_take (i := 7) (v := .agg #[.slice h0d nx.length h0c, .string (S sc)]) rfl (by kernel_rfl) (by kernel_rfl) (by kernel_rfl) (fun _ _ _ h => h) (Or.inl ⟨by rfl, fun z hz => ?_⟩) hSn ?_
          · obtain ⟨z0q, z1q, z2q⟩ := hz
            go_simp
          try simp only [List.getElem_toArray, List.getElem_cons_zero, List.getElem_cons_succ, Act.put, List.setIfInBounds_toArray, List.set_cons_zero, List.set_cons_succ]
          refine wpAnyH_take (i := 8) (v := .agg #[.int .i64 en, .string (S et)]) rfl (by kernel_rfl) (by kernel_rfl) (by kernel_rfl) (fun _ _ _ h => h) (Or.inl ⟨by rfl, fun z hz => ?_⟩) hSn ?_
          · obtain ⟨z0q, z1q, z2q⟩ := hz
            go_simp
          try simp only [List.getElem_toArray, List.getElem_cons_zero, List.getElem_cons_succ, Act.put, List.setIfInBounds_toArray, List.set_cons_zero, List.set_cons_succ]
          refine wpAnyH_take (i := 9) (v := .bool ok) rfl (by kernel_rfl) (by kernel_rfl) (by kernel_rfl) (fun _ _ _ h => h) (Or.inl ⟨by rfl, fun z hz => ?_⟩) hSn ?_
          · obtain ⟨z0q, z1q, z2q⟩ := hz
            go_simp
          try simp only [List.getElem_toArray, List.getElem_cons_zero, List.getElem_cons_succ, Act.put, List.setIfInBounds_toArray, List.set_cons_zero, List.set_cons_succ]
          clear hS HBW HQ0 HQ1 hb hvz hwz 
          have HALL := And.intro hSn (And.intro HBWn (And.intro HLOn HRES0n))
          clear hSn HBWn HLOn HRES0n
          revert HALL
          revert hi
          revert lo
          revert h0c
          revert h0d
          revert x1c
          revert x1d
          revert x0c
          revert x0d
          revert v9
          exact kh3
        · skip
          go_simp
          have hb := (Below.refl v.heap.size v).alloc (Nat.le_refl _) (.cells #[.slice none 0 0, .string (S [])] 32)
          have zv : v.heap.size < (v.alloc (.cells #[.slice none 0 0, .string (S [])] 32)).heap.size := by simp
          have hbx := TBx.new (.slice none 0 0) [] v
          have hwz := HBW.out.size
          refine hK.out _ _ (hS.step (hb.mono hwz) hWA) (fun hSn => ?_)
          clear hK K
          try simp only [List.getElem_toArray, List.getElem_cons_zero, List.getElem_cons_succ, Act.put, List.setIfInBounds_toArray, List.set_cons_zero, List.set_cons_succ]
          have HQ0n := Lib.hid (HQ0.out.below hb)
          have HQ1n := Lib.hid (HQ1.out.below hb)
          have HBX0n := Lib.hid (And.intro hbx hwz)
          have HBWn := Lib.hid (HBW.out.trans (hb.mono hwz))
          exact kh20 _ _ _ _ _ _ ⟨hSn, HBWn, HQ0n, HQ1n, HBX0n⟩
        · skip
          go_simp
          have hb := (Below.refl v.heap.size v).alloc (Nat.le_refl _) (.cells #[.int .i64 0, .string (S [])] 38)
          have zv : v.heap.size < (v.alloc (.cells #[.int .i64 0, .string (S [])] 38)).heap.size := by simp
          have hbx := EBx.new v
          have hwz := HBW.out.size
          refine hK.out _ _ (hS.step (hb.mono hwz) hWA) (fun hSn => ?_)
          clear hK K
          try simp only [List.getElem_toArray, List.getElem_cons_zero, List.getElem_cons_succ, Act.put, List.setIfInBounds_toArray, List.set_cons_zero, List.set_cons_succ]
          have HQ0n := Lib.hid (HQ0.out.below hb)
          have HQ1n := Lib.hid (HQ1.out.below hb)
          have HBX1n := Lib.hid (And.intro hbx hwz)
          have HBWn := Lib.hid (HBW.out.trans (hb.mono hwz))
          exact kh21 _ _ _ _ _ _ ⟨hSn, HBWn, HQ0n, HQ1n, HBX1n⟩
        intro v x0d x0c bb0 bb1 HALL
        obtain ⟨hS, HBW, HQ0, HBX0, HBX1, HNE⟩ := HALL
        refine wpAnyH_ready (rs := [3]) (by kernel_rfl) (by simp) ?_
        refine AllReadyH.cons rfl (fun K hK => ?_) AllReadyH.nil
        · skip
          go_simp
          refine (toTranslator _ o1 t1 _ (HU1.out.below (HB_22.out.trans (HBW.out.mono HB_22.out.size))) HSM1.out.1).mono ?_
          rintro e v9 ⟨y9, rfl, hI, hb⟩
          have hwz := HBW.out.size
          have hvz := hb.size
          refine hK.out _ _ (hS.step (hb.mono hwz) hWA) (fun hSn => ?_)
          clear hK K
          have HQ0n := Lib.hid (HQ0.out.below hb)
          have hz0 := HBX0.out.1.1
          have HBX0n := Lib.hid (And.intro (HBX0.out.1.below hb) HBX0.out.2)
          have hz1 := HBX1.out.1.1
          have HBX1n := Lib.hid (And.intro (HBX1.out.1.below hb) HBX1.out.2)
          have HQ1n := Lib.hid ((Ints.read hI))
          obtain ⟨x1d, x1c, rfl, -, -⟩ := hI
          have HBWn := Lib.hid (HBW.out.trans (hb.mono hwz))
          have HNEn := Lib.hid HNE.out
          try simp only [List.getElem_toArray, List.getElem_cons_zero, List.getElem_cons_succ, Act.put, List.setIfInBounds_toArray, List.set_cons_zero, List.set_cons_succ]
          clear hS HBW HQ0 HBX0 HBX1 HNE hb hvz hwz hz0 hz1
          have HALL := And.intro hSn (And.intro HBWn (And.intro HQ0n (And.intro HQ1n (And.intro HBX0n (And.intro HBX1n HNEn)))))
          clear hSn HBWn HQ0n HQ1n HBX0n HBX1n HNEn
          revert HALL
          revert bb1
          revert bb0
          revert x1c
          revert x1d
          revert x0c
          revert x0d
          revert v9
          exact kh201
        intro v x0d x0c x1d x1c bb0 HALL
        obtain ⟨hS, HBW, HQ0, HQ1, HBX0⟩ := HALL
        refine wpAnyH_ready (rs := [5, 11]) (by kernel_rfl) (by simp) ?_
        refine AllReadyH.cons rfl (fun K hK => ?_) (AllReadyH.cons rfl (fun K hK => ?_) AllReadyH.nil)
        · skip
          go_simp
          refine ((impl_press _ _ l0 o1 t1 n2 _ HQ0.out HQ1.out HSM0.out (HE.out.below (HB_22.out.trans (HBW.out.mono HB_22.out.size)) HE.out.size) HSM1.out.1 HSM1.out.2).mono (prs_of HR.out (Nat.le_trans HLEN.out (by decide)))).mono ?_
          rintro e v9 ⟨h0d, h0c, rfl, hrow0, hb⟩
          have hwz := HBW.out.size
          have hvz := hb.size
          refine hK.out _ _ (hS.step (hb.mono hwz) hWA) (fun hSn => ?_)
          clear hK K
          have hz0 := HBX0.out.1.1
          have HBX0n := Lib.hid (And.intro (HBX0.out.1.below hb) HBX0.out.2)
          obtain ⟨lo, hi, hlo1, hhi1, hap1, hres0⟩ : ∃ lo hi : Nat, (w20.heap.size ≤ lo) ∧ (hi ≤ v9.heap.size) ∧ ((bb0 < lo ∨ hi ≤ bb0)) ∧ Ints v9 (BetO lo hi (.slice h0d nx.length h0c)) (.slice h0d nx.length h0c) nx := ⟨v.heap.size, v9.heap.size, hwz, Nat.le_refl _, by omega, hrow0⟩
          have HLOn := Lib.hid (And.intro hlo1 hhi1)
          have HAPn := Lib.hid hap1
          have HRES0n := Lib.hid hres0
          clear hlo1 hhi1 hap1 hres0 hrow0 
          have HBWn := Lib.hid (HBW.out.trans (hb.mono hwz))
          try simp only [List.getElem_toArray, List.getElem_cons_zero, List.getElem_cons_succ, Act.put, List.setIfInBounds_toArray, List.set_cons_zero, List.set_cons_succ]
          refine wpAnyH_take (i := 6) (v := .tuple #[.agg #[.slice h0d nx.length h0c, .string (S sc)], .agg #[.int .i64 en, .string (S et)], .bool ok]) rfl (by kernel_rfl) (by kernel_rfl) (by kernel_rfl) (fun _ _ _ h => h) (Or.inl ⟨by rfl, fun z hz => ?_⟩) hSn ?_
          · obtain ⟨z0q, z1q, z2q⟩ := hz
            go_simp
          try simp only [List.getElem_toArray, List.getElem_cons_zero, List.getElem_cons_succ, Act.put, List.setIfInBounds_toArray, List.set_cons_zero, List.set_cons_succ]
          refine wpAnyH_take (i := 7) (v := .agg #[.slice h0d nx.length h0c, .string (S sc)]) rfl (by kernel_rfl) (by kernel_rfl) (by kernel_rfl) (fun _ _ _ h => h) (Or.inl ⟨by rfl, fun z hz => ?_⟩) hSn ?_
          · obtain ⟨z0q, z1q, z2q⟩ := hz
            go_simp
          try simp only [List.getElem_toArray, List.getElem_cons_zero, List.getElem_cons_succ, Act.put, List.setIfInBounds_toArray, List.set_cons_zero, List.set_cons_succ]
          refine wpAnyH_take (i := 8) (v := .agg #[.int .i64 en, .string (S et)]) rfl (by kernel_rfl) (by kernel_rfl) (by kernel_rfl) (fun _ _ _ h => h) (Or.inl ⟨by rfl, fun z hz => ?_⟩) hSn ?_
          · obtain ⟨z0q, z1q, z2q⟩ := hz
            go_simp
          try simp only [List.getElem_toArray, List.getElem_cons_zero, List.getElem_cons_succ, Act.put, List.setIfInBounds_toArray, List.set_cons_zero, List.set_cons_succ]
          refine wpAnyH_take (i := 9) (v := .bool ok) rfl (by kernel_rfl) (by kernel_rfl) (by kernel_rfl) (fun _ _ _ h => h) (Or.inl ⟨by rfl, fun z hz => ?_⟩) hSn ?_
          · obtain ⟨z0q, z1q, z2q⟩ := hz
            go_simp
          try simp only [List.getElem_toArray, List.getElem_cons_zero, List.getElem_cons_succ, Act.put, List.setIfInBounds_toArray, List.set_cons_zero, List.set_cons_succ]
          clear hS HBW HQ0 HQ1 HBX0 hb hvz hwz hz0
          have HALL := And.intro hSn (And.intro HBWn (And.intro HLOn (And.intro HRES0n (And.intro HBX0n HAPn))))
          clear hSn HBWn HLOn HRES0n HBX0n HAPn
          revert HALL
          revert bb0
          revert hi
          revert lo
          revert h0c
          revert h0d
          revert x1c
          revert x1d
          revert x0c
          revert x0d
          revert v9
          exact kh30
        · skip
          go_simp
          have hb := (Below.refl v.heap.size v).alloc (Nat.le_refl _) (.cells #[.int .i64 0, .string (S [])] 38)
          have zv : v.heap.size < (v.alloc (.cells #[.int .i64 0, .string (S [])] 38)).heap.size := by simp
          have hbx := EBx.new v
          have hwz := HBW.out.size
          refine hK.out _ _ (hS.step (hb.mono hwz) hWA) (fun hSn => ?_)
          clear hK K
          try simp only [List.getElem_toArray, List.getElem_cons_zero, List.getElem_cons_succ, Act.put, List.setIfInBounds_toArray, List.set_cons_zero, List.set_cons_succ]
          have HQ0n := Lib.hid (HQ0.out.below hb)
          have HQ1n := Lib.hid (HQ1.out.below hb)
          have hz0 := HBX0.out.1.1
          have HBX0n := Lib.hid (And.intro (HBX0.out.1.below hb) HBX0.out.2)
          have HBX1n := Lib.hid (And.intro hbx hwz)
          have HNEn := Lib.hid (show bb0 ≠ v.heap.size by omega)
          have HBWn := Lib.hid (HBW.out.trans (hb.mono hwz))
          exact kh201 _ _ _ _ _ _ _ ⟨hSn, HBWn, HQ0n, HQ1n, HBX0n, HBX1n, HNEn⟩
        intro v x0d x0c x1d x1c bb1 HALL
        obtain ⟨hS, HBW, HQ0, HQ1, HBX1⟩ := HALL
        refine wpAnyH_ready (rs := [5, 10]) (by kernel_rfl) (by simp) ?_
        refine AllReadyH.cons rfl (fun K hK => ?_) (AllReadyH.cons rfl (fun K hK => ?_) AllReadyH.nil)
        · skip
          go_simp
          refine ((impl_press _ _ l0 o1 t1 n2 _ HQ0.out HQ1.out HSM0.out (HE.out.below (HB_22.out.trans (HBW.out.mono HB_22.out.size)) HE.out.size) HSM1.out.1 HSM1.out.2).mono (prs_of HR.out (Nat.le_trans HLEN.out (by decide)))).mono ?_
          rintro e v9 ⟨h0d, h0c, rfl, hrow0, hb⟩
          have hwz := HBW.out.size
          have hvz := hb.size
          refine hK.out _ _ (hS.step (hb.mono hwz) hWA) (fun hSn => ?_)
          clear hK K
          have hz1 := HBX1.out.1.1
          have HBX1n := Lib.hid (And.intro (HBX1.out.1.below hb) HBX1.out.2)
          obtain ⟨lo, hi, hlo1, hhi1, hap1, hres0⟩ : ∃ lo hi : Nat, (w20.heap.size ≤ lo) ∧ (hi ≤ v9.heap.size) ∧ ((bb1 < lo ∨ hi ≤ bb1)) ∧ Ints v9 (BetO lo hi (.slice h0d nx.length h0c)) (.slice h0d nx.length h0c) nx := ⟨v.heap.size, v9.heap.size, hwz, Nat.le_refl _, by omega, hrow0⟩
          have HLOn := Lib.hid (And.intro hlo1 hhi1)
          have HAPn := Lib.hid hap1
          have HRES0n := Lib.hid hres0
          clear hlo1 hhi1 hap1 hres0 hrow0 
          have HBWn := Lib.hid (HBW.out.trans (hb.mono hwz))
          try simp only [List.getElem_toArray, List.getElem_cons_zero, List.getElem_cons_succ, Act.put, List.setIfInBounds_toArray, List.set_cons_zero, List.set_cons_succ]
          refine wpAnyH_take (i := 6) (v := .tuple #[.agg #[.slice h0d nx.length h0c, .string (S sc)], .agg #[.int .i64 en, .string (S et)], .bool ok]) rfl (by kernel_rfl) (by kernel_rfl) (by kernel_rfl) (fun _ _ _ h => h) (Or.inl ⟨by rfl, fun z hz => ?_⟩) hSn ?_
          · obtain ⟨z0q, z1q, z2q⟩ := hz
            go_simp
          try simp only [List.getElem_toArray, List.getElem_cons_zero, List.getElem_cons_succ, Act.put, List.setIfInBounds_toArray, List.set_cons_zero, List.set_cons_succ]
          refine wpAnyH_take (i := 7) (v := .agg #[.slice h0d nx.length h0c, .string (S sc)]) rfl (by kernel_rfl) (by kernel_rfl) (by kernel_rfl) (fun _ _ _ h => h) (Or.inl ⟨by rfl, fun z hz => ?_⟩) hSn ?_
          · obtain ⟨z0q, z1q, z2q⟩ := hz
            go_simp
          try simp only [List.getElem_toArray, List.getElem_cons_zero, List.getElem_cons_succ, Act.put, List.setIfInBounds_toArray, List.set_cons_zero, List.set_cons_succ]
          refine wpAnyH_take (i := 8) (v := .agg #[.int .i64 en, .string (S et)]) rfl (by kernel_rfl) (by kernel_rfl) (by kernel_rfl) (fun _ _ _ h => h) (Or.inl ⟨by rfl, fun z hz => ?_⟩) hSn ?_
          · obtain ⟨z0q, z1q, z2q⟩ := hz
            go_simp
          try simp only [List.getElem_toArray, List.getElem_cons_zero, List.getElem_cons_succ, Act.put, List.setIfInBounds_toArray, List.set_cons_zero, List.set_cons_succ]
          refine wpAnyH_take (i := 9) (v := .bool ok) rfl (by kernel_rfl) (by kernel_rfl) (by kernel_rfl) (fun _ _ _ h => h) (Or.inl ⟨by rfl, fun z hz => ?_⟩) hSn ?_
          · obtain ⟨z0q, z1q, z2q⟩ := hz
            go_simp
          try simp only [List.getElem_toArray, List.getElem_cons_zero, List.getElem_cons_succ, Act.put, List.setIfInBounds_toArray, List.set_cons_zero, List.set_cons_succ]
          clear hS HBW HQ0 HQ1 HBX1 hb hvz hwz hz1
          have HALL := And.intro hSn (And.intro HBWn (And.intro HLOn (And.intro HRES0n (And.intro HBX1n HAPn))))
          clear hSn HBWn HLOn HRES0n HBX1n HAPn
          revert HALL
          revert bb1
          revert hi
          revert lo
          revert h0c
          revert h0d
          revert x1c
          revert x1d
          revert x0c
          revert x0d
          revert v9
          exact kh31
        · skip
          go_simp
          have hb := (Below.refl v.heap.size v).alloc (Nat.le_refl _) (.cells #[.slice none 0 0, .string (S [])] 32)
          have zv : v.heap.size < (v.alloc (.cells #[.slice none 0 0, .string (S [])] 32)).heap.size := by simp
          have hbx := TBx.new (.slice none 0 0) [] v
          have hwz := HBW.out.size
          refine hK.out _ _ (hS.step (hb.mono hwz) hWA) (fun hSn => ?_)
          clear hK K
          try simp only [List.getElem_toArray, List.getElem_cons_zero, List.getElem_cons_succ, Act.put, List.setIfInBounds_toArray, List.set_cons_zero, List.set_cons_succ]
          have HQ0n := Lib.hid (HQ0.out.below hb)
          have HQ1n := Lib.hid (HQ1.out.below hb)
          have hz1 := HBX1.out.1.1
          have HBX1n := Lib.hid (And.intro (HBX1.out.1.below hb) HBX1.out.2)
          have HBX0n := Lib.hid (And.intro hbx hwz)
          have HNEn := Lib.hid (show v.heap.size ≠ bb1 by omega)
          have HBWn := Lib.hid (HBW.out.trans (hb.mono hwz))
          exact kh201 _ _ _ _ _ _ _ ⟨hSn, HBWn, HQ0n, HQ1n, HBX0n, HBX1n, HNEn⟩
        intro v x0d x0c x1d x1c h0d h0c lo hi HALL
        obtain ⟨hS, HBW, HLO, HRES0⟩ := HALL
        refine wpAnyH_ready (rs := [10, 11]) (by kernel_rfl) (by simp) ?_
        refine AllReadyH.cons rfl (fun K hK => ?_) (AllReadyH.cons rfl (fun K hK => ?_) AllReadyH.nil)
        · skip
          go_simp
          have hb := (Below.refl v.heap.size v).alloc (Nat.le_refl _) (.cells #[.slice none 0 0, .string (S [])] 32)
          have zv : v.heap.size < (v.alloc (.cells #[.slice none 0 0, .string (S [])] 32)).heap.size := by simp
          have hbx := TBx.new (.slice none 0 0) [] v
          have hwz := HBW.out.size
          refine hK.out _ _ (hS.step (hb.mono hwz) hWA) (fun hSn => ?_)
          clear hK K
          try simp only [List.getElem_toArray, List.getElem_cons_zero, List.getElem_cons_succ, Act.put, List.setIfInBounds_toArray, List.set_cons_zero, List.set_cons_succ]
          have HRES0n := Lib.hid (HRES0.out.below intE_ok hb)
          have HBX0n := Lib.hid (And.intro hbx hwz)
          have HLOn := Lib.hid (And.intro HLO.out.1 (Nat.le_trans HLO.out.2 (Nat.le_of_lt zv)))
          have HAPn := Lib.hid (show (v.heap.size < lo ∨ hi ≤ v.heap.size) by have h1 := HLO.out; omega)
          have HBWn := Lib.hid (HBW.out.trans (hb.mono hwz))
          exact kh30 _ _ _ _ _ _ _ _ _ _ ⟨hSn, HBWn, HLOn, HRES0n, HBX0n, HAPn⟩
        · skip
          go_simp
          have hb := (Below.refl v.heap.size v).alloc (Nat.le_refl _) (.cells #[.int .i64 0, .string (S [])] 38)
          have zv : v.heap.size < (v.alloc (.cells #[.int .i64 0, .string (S [])] 38)).heap.size := by simp
          have hbx := EBx.new v
          have hwz := HBW.out.size
          refine hK.out _ _ (hS.step (hb.mono hwz) hWA) (fun hSn => ?_)
          clear hK K
          try simp only [List.getElem_toArray, List.getElem_cons_zero, List.getElem_cons_succ, Act.put, List.setIfInBounds_toArray, List.set_cons_zero, List.set_cons_succ]
          have HRES0n := Lib.hid (HRES0.out.below intE_ok hb)
          have HBX1n := Lib.hid (And.intro hbx hwz)
          have HLOn := Lib.hid (And.intro HLO.out.1 (Nat.le_trans HLO.out.2 (Nat.le_of_lt zv)))
          have HAPn := Lib.hid (show (v.heap.size < lo ∨ hi ≤ v.heap.size) by have h1 := HLO.out; omega)
          have HBWn := Lib.hid (HBW.out.trans (hb.mono hwz))
          exact kh31 _ _ _ _ _ _ _ _ _ _ ⟨hSn, HBWn, HLOn, HRES0n, HBX1n, HAPn⟩
        intro v x0d x0c x1d x1c bb0 bb1 HALL
        obtain ⟨hS, HBW, HQ0, HQ1, HBX0, HBX1, HNE⟩ := HALL
        refine wpAnyH_ready (rs := [5]) (by kernel_rfl) (by simp) ?_
        refine AllReadyH.cons rfl (fun K hK => ?_) AllReadyH.nil
        · skip
          go_simp
          refine ((impl_press _ _ l0 o1 t1 n2 _ HQ0.out HQ1.out HSM0.out (HE.out.below (HB_22.out.trans (HBW.out.mono HB_22.out.size)) HE.out.size) HSM1.out.1 HSM1.out.2).mono (prs_of HR.out (Nat.le_trans HLEN.out (by decide)))).mono ?_
          rintro e v9 ⟨h0d, h0c, rfl, hrow0, hb⟩
          have hwz := HBW.out.size
          have hvz := hb.size
          refine hK.out _ _ (hS.step (hb.mono hwz) hWA) (fun hSn => ?_)
          clear hK K
          have hz0 := HBX0.out.1.1
          have HBX0n := Lib.hid (And.intro (HBX0.out.1.below hb) HBX0.out.2)
          have hz1 := HBX1.out.1.1
          have HBX1n := Lib.hid (And.intro (HBX1.out.1.below hb) HBX1.out.2)
          obtain ⟨lo, hi, hlo1, hhi1, hap1, hres0⟩ : ∃ lo hi : Nat, (w20.heap.size ≤ lo) ∧ (hi ≤ v9.heap.size) ∧ ((bb0 < lo ∨ hi ≤ bb0) ∧ (bb1 < lo ∨ hi ≤ bb1)) ∧ Ints v9 (BetO lo hi (.slice h0d nx.length h0c)) (.slice h0d nx.length h0c) nx := ⟨v.heap.size, v9.heap.size, hwz, Nat.le_refl _, by omega, hrow0⟩
          have HLOn := Lib.hid (And.intro hlo1 hhi1)
          have HAPn := Lib.hid hap1
          have HRES0n := Lib.hid hres0
          have HNEo := HNE
          clear hlo1 hhi1 hap1 hres0 hrow0 
          have HBWn := Lib.hid (HBW.out.trans (hb.mono hwz))
          have HNEn := Lib.hid HNE.out
          try simp only [List.getElem_toArray, List.getElem_cons_zero, List.getElem_cons_succ, Act.put, List.setIfInBounds_toArray, List.set_cons_zero, List.set_cons_succ]
          refine wpAnyH_take (i := 6) (v := .tuple #[.agg #[.slice h0d nx.length h0c, .string (S sc)], .agg #[.int .i64 en, .string (S et)], .bool ok]) rfl (by kernel_rfl) (by kernel_rfl) (by kernel_rfl) (fun _ _ _ h => h) (Or.inl ⟨by rfl, fun z hz => ?_⟩) hSn ?_
          · obtain ⟨z0q, z1q, z2q⟩ := hz
            go_simp
          try simp only [List.getElem_toArray, List.getElem_cons_zero, List.getElem_cons_succ, Act.put, List.setIfInBounds_toArray, List.set_cons_zero, List.set_cons_succ]
          refine wpAnyH_take (i := 7) (v := .agg #[.slice h0d nx.length h0c, .string (S sc)]) rfl (by kernel_rfl) (by kernel_rfl) (by kernel_rfl) (fun _ _ _ h => h) (Or.inl ⟨by rfl, fun z hz => ?_⟩) hSn ?_
          · obtain ⟨z0q, z1q, z2q⟩ := hz
            go_simp
          try simp only [List.getElem_toArray, List.getElem_cons_zero, List.getElem_cons_succ, Act.put, List.setIfInBounds_toArray, List.set_cons_zero, List.set_cons_succ]
          refine wpAnyH_take (i := 8) (v := .agg #[.int .i64 en, .string (S et)]) rfl (by kernel_rfl) (by kernel_rfl) (by kernel_rfl) (fun _ _ _ h => h) (Or.inl ⟨by rfl, fun z hz => ?_⟩) hSn ?_
          · obtain ⟨z0q, z1q, z2q⟩ := hz
            go_simp
          try simp only [List.getElem_toArray, List.getElem_cons_zero, List.getElem_cons_succ, Act.put, List.setIfInBounds_toArray, List.set_cons_zero, List.set_cons_succ]
          refine wpAnyH_take (i := 9) (v := .bool ok) rfl (by kernel_rfl) (by kernel_rfl) (by kernel_rfl) (fun _ _ _ h => h) (Or.inl ⟨by rfl, fun z hz => ?_⟩) hSn ?_
          · obtain ⟨z0q, z1q, z2q⟩ := hz
            go_simp
          try simp only [List.getElem_toArray, List.getElem_cons_zero, List.getElem_cons_succ, Act.put, List.setIfInBounds_toArray, List.set_cons_zero, List.set_cons_succ]
          clear hS HBW HQ0 HQ1 HBX0 HBX1 HNE hb hvz hwz hz0 hz1 HNEo
          have HALL := And.intro hSn (And.intro HBWn (And.intro HLOn (And.intro HRES0n (And.intro HBX0n (And.intro HBX1n (And.intro HAPn HNEn))))))
          clear hSn HBWn HLOn HRES0n HBX0n HBX1n HAPn HNEn
          revert HALL
          revert bb1
          revert bb0
          revert hi
          revert lo
          revert h0c
          revert h0d
          revert x1c
          revert x1d
          revert x0c
          revert x0d
          revert v9
          exact kh301
        intro v x0d x0c x1d x1c h0d h0c lo hi bb0 HALL
        obtain ⟨hS, HBW, HLO, HRES0, HBX0, HAP⟩ := HALL
        refine wpAnyH_ready (rs := [11]) (by kernel_rfl) (by simp) ?_
        refine AllReadyH.cons rfl (fun K hK => ?_) AllReadyH.nil
        · skip
          go_simp
          have hb := (Below.refl v.heap.size v).alloc (Nat.le_refl _) (.cells #[.int .i64 0, .string (S [])] 38)
          have zv : v.heap.size < (v.alloc (.cells #[.int .i64 0, .string (S [])] 38)).heap.size := by simp
          have hbx := EBx.new v
          have hwz := HBW.out.size
          refine hK.out _ _ (hS.step (hb.mono hwz) hWA) (fun hSn => ?_)
          clear hK K
          try simp only [List.getElem_toArray, List.getElem_cons_zero, List.getElem_cons_succ, Act.put, List.setIfInBounds_toArray, List.set_cons_zero, List.set_cons_succ]
          have HRES0n := Lib.hid (HRES0.out.below intE_ok hb)
          have hz0 := HBX0.out.1.1
          have HBX0n := Lib.hid (And.intro (HBX0.out.1.below hb) HBX0.out.2)
          have HBX1n := Lib.hid (And.intro hbx hwz)
          have HLOn := Lib.hid (And.intro HLO.out.1 (Nat.le_trans HLO.out.2 (Nat.le_of_lt zv)))
          have HNEn := Lib.hid (show bb0 ≠ v.heap.size by omega)
          have HAPn := Lib.hid (show (bb0 < lo ∨ hi ≤ bb0) ∧ (v.heap.size < lo ∨ hi ≤ v.heap.size) by have h1 := HLO.out; have h2 := HAP.out; omega)
          have HBWn := Lib.hid (HBW.out.trans (hb.mono hwz))
          exact kh301 _ _ _ _ _ _ _ _ _ _ _ ⟨hSn, HBWn, HLOn, HRES0n, HBX0n, HBX1n, HAPn, HNEn⟩
        intro v x0d x0c x1d x1c h0d h0c lo hi bb1 HALL
        obtain ⟨hS, HBW, HLO, HRES0, HBX1, HAP⟩ := HALL
        refine wpAnyH_ready (rs := [10]) (by kernel_rfl) (by simp) ?_
        refine AllReadyH.cons rfl (fun K hK => ?_) AllReadyH.nil
        · skip
          go_simp
          have hb := (Below.refl v.heap.size v).alloc (Nat.le_refl _) (.cells #[.slice none 0 0, .string (S [])] 32)
          have zv : v.heap.size < (v.alloc (.cells #[.slice none 0 0, .string (S [])] 32)).heap.size := by simp
          have hbx := TBx.new (.slice none 0 0) [] v
          have hwz := HBW.out.size
          refine hK.out _ _ (hS.step (hb.mono hwz) hWA) (fun hSn => ?_)
          clear hK K
          try simp only [List.getElem_toArray, List.getElem_cons_zero, List.getElem_cons_succ, Act.put, List.setIfInBounds_toArray, List.set_cons_zero, List.set_cons_succ]
          have HRES0n := Lib.hid (HRES0.out.below intE_ok hb)
          have hz1 := HBX1.out.1.1
          have HBX1n := Lib.hid (And.intro (HBX1.out.1.below hb) HBX1.out.2)
          have HBX0n := Lib.hid (And.intro hbx hwz)
          have HLOn := Lib.hid (And.intro HLO.out.1 (Nat.le_trans HLO.out.2 (Nat.le_of_lt zv)))
          have HNEn := Lib.hid (show v.heap.size ≠ bb1 by omega)
          have HAPn := Lib.hid (show (v.heap.size < lo ∨ hi ≤ v.heap.size) ∧ (bb1 < lo ∨ hi ≤ bb1) by have h1 := HLO.out; have h2 := HAP.out; omega)
          have HBWn := Lib.hid (HBW.out.trans (hb.mono hwz))
          exact kh301 _ _ _ _ _ _ _ _ _ _ _ ⟨hSn, HBWn, HLOn, HRES0n, HBX0n, HBX1n, HAPn, HNEn⟩
        intro v x0d x0c x1d x1c h0d h0c lo hi bb0 bb1 HALL
        obtain ⟨hS, HBW, HLO, HRES0, HBX0, HBX1, HAP, HNE⟩ := HALL
        have hlo := HLO.out.1; have hhi := HLO.out.2; have hap := HAP.out; have hne := HNE.out
        refine wpAnyH_ready (rs := [12]) (by kernel_rfl) (by simp) ?_
        refine AllReadyH.cons rfl (fun K hK => ?_) AllReadyH.nil
        have hwb0 := HBX0.out.2
        obtain ⟨zb, cb0, cb1, fb0, fb1⟩ := HBX0.out.1
        go_simp
        obtain ⟨v13, hv13⟩ : ∃ y, ((v.setCell ⟨bb0, 0, none⟩ (.slice h0d nx.length h0c)).setCell ⟨bb0, 1, none⟩ (.string (S sc))) = y := ⟨_, rfl⟩
        have hcg : Chg (fun b => b = bb0) v v13 := by rw [← hv13]; exact (((Chg.refl (fun b => b = bb0) v).setCell (p := ⟨bb0, 0, none⟩) rfl (.slice h0d nx.length h0c)).setCell (p := ⟨bb0, 1, none⟩) rfl (.string (S sc)))
        have hbox : Box2E bb0 (.slice h0d nx.length h0c) sc v13 := by rw [← hv13]; exact Box2E.set2 cb0 cb1 zb
        have hsz : v13.heap.size = v.heap.size := by rw [← hv13]; simp [World.setCell]
        have hbw : Below w20.heap.size w20 v13 := Chg.belowB HBW.out hcg HBW.out.size (fun b h => by have h9 : b = bb0 := h; omega)
        have zA := HBW.out.size
        have hst : K_law_press w a0d a0c l0 a1d a1c o1 t1 v13 := hS.step (B := w20.heap.size) (hcg.below zA (fun b h => by have h9 : b = bb0 := h; omega)) hWA
        refine hK.out _ _ (by rw [hv13]; exact hst) (fun hS14 => ?_)
        clear hK K
        try rw [hv13] at hS14 ⊢
        try simp only [List.getElem_toArray, List.getElem_cons_zero, List.getElem_cons_succ, Act.put, List.setIfInBounds_toArray, List.set_cons_zero, List.set_cons_succ]
        have HBW15 := Lib.hid hbw
        have HBX1_16 := Lib.hid (show _ ∧ _ from ⟨HBX1.out.1.stand hcg (by omega), HBX1.out.2⟩)
        have HRES0_17 := Lib.hid (HRES0.out.stand intE_ok hcg (fun b hb e => by simp only [Bet, BetO] at hb; omega))
        have FX0_18 := hbox
        clear hbox hbw hcg hst zA zb HBW HBX0 hS HBX1 HRES0 cb0 cb1 fb0 fb1
        refine wpAnyH_ready (rs := [13]) (by kernel_rfl) (by simp) ?_
        refine AllReadyH.cons rfl (fun K hK => ?_) AllReadyH.nil
        have hwb1 := HBX1_16.out.2
        obtain ⟨zb, cb0, cb1, fb0, fb1⟩ := HBX1_16.out.1
        go_simp
        obtain ⟨v19, hv19⟩ : ∃ y, ((v13.setCell ⟨bb1, 0, none⟩ (.int .i64 en)).setCell ⟨bb1, 1, none⟩ (.string (S et))) = y := ⟨_, rfl⟩
        have hcg : Chg (fun b => b = bb1) v13 v19 := by rw [← hv19]; exact (((Chg.refl (fun b => b = bb1) v13).setCell (p := ⟨bb1, 0, none⟩) rfl (.int .i64 en)).setCell (p := ⟨bb1, 1, none⟩) rfl (.string (S et)))
        have hbox : Box2E bb1 (.int .i64 en) et v19 := by rw [← hv19]; exact Box2E.set2 cb0 cb1 zb
        have hsz : v19.heap.size = v13.heap.size := by rw [← hv19]; simp [World.setCell]
        have hbw : Below w20.heap.size w20 v19 := Chg.belowB HBW15.out hcg HBW15.out.size (fun b h => by have h9 : b = bb1 := h; omega)
        have zA := HBW15.out.size
        have hst : K_law_press w a0d a0c l0 a1d a1c o1 t1 v19 := hS14.step (B := w20.heap.size) (hcg.below zA (fun b h => by have h9 : b = bb1 := h; omega)) hWA
        refine hK.out _ _ (by rw [hv19]; exact hst) (fun hS20 => ?_)
        clear hK K
        try rw [hv19] at hS20 ⊢
        try simp only [List.getElem_toArray, List.getElem_cons_zero, List.getElem_cons_succ, Act.put, List.setIfInBounds_toArray, List.set_cons_zero, List.set_cons_succ]
        have HBW21 := Lib.hid hbw
        have HRES0_22 := Lib.hid (HRES0_17.out.stand intE_ok hcg (fun b hb e => by simp only [Bet, BetO] at hb; omega))
        have FX0_23 := FX0_18.stand hcg (by omega)
        have FX1_24 := hbox
        clear hbox hbw hcg hst zA zb HBW15 HBX1_16 hS14 HRES0_17 FX0_18 cb0 cb1 fb0 fb1
        refine wpAnyH_take (i := 14) (v := .bool ok) rfl (by kernel_rfl) (by kernel_rfl) (by kernel_rfl) (fun _ _ _ h => h) (Or.inl ⟨by rfl, fun z hz => ?_⟩) hS20 ?_
        · obtain ⟨z0q, z1q, z2q⟩ := hz
          go_simp
        try simp only [List.getElem_toArray, List.getElem_cons_zero, List.getElem_cons_succ, Act.put, List.setIfInBounds_toArray, List.set_cons_zero, List.set_cons_succ]
        refine wpAnyH_done (by kernel_rfl) ?_ _
        go_wp2_with fail
        go_meet
        exact ⟨bb0, bb1, h0d, h0c, rfl, rfl, rfl, FX0_23, by omega, FX1_24, by omega, RowO.to intE_ok HRES0_22.out (Below.refl _ _) (by omega) (by omega) (Nat.le_refl _), HBW21.out⟩
      case rest =>
        obtain ⟨bh0, bh1, h0d, h0c, rfl, rfl, rfl, hbx0, zbh0, hbx1, zbh1, hrow0, hb⟩ := hcut
        have zzw21 : w20.heap.size ≤ wc.heap.size := hb.size
        have HB_23 := Lib.hid (HB_22.out.trans (hb.mono HB_22.out.size))
        have A0_23 := Lib.hid (A0_22.out.below hb)
        have A1_23 := Lib.hid (A1_22.out.below hb)
        have sB0_20 := Lib.hid (sB0_19.out.below hb)
        have sB1_20 := Lib.hid (sB1_19.out.below hb)
        have sL0_20 := Lib.hid (sL0_19.out.below intE_ok hb)
        have X0_18 := Lib.hid (X0_17.out.below hb)
        have X1_16 := Lib.hid (X1_15.out.below hb)
        have gB0_15 := Lib.hid (gB0_14.out.below hb)
        have gB1_15 := Lib.hid (gB1_14.out.below hb)
        have mL0_2 := Lib.hid (mL0_1.out.below intE_ok hb)
        clear HB_22 A0_22 A1_22 sB0_19 sB1_19 sL0_19 X0_17 X1_15 gB0_14 gB1_14 mL0_1 hb HS
        have yyh0 : bh0 < wc.heap.size := hbx0.2.2
        have hB0_0 := Lib.hid (hbx0)
        clear hbx0
        have yyh1 : bh1 < wc.heap.size := hbx1.2.2
        have hB1_0 := Lib.hid (hbx1)
        clear hbx1
        have hL0_0 := Lib.hid (hrow0)
        clear hrow0
        clear hWA
        generalize hww : wc = w21 at *
        clear hww
        obtain ⟨c_hB00, c_hB01, _⟩ := hB0_0.out
        obtain ⟨c_sB00, c_sB01, _⟩ := sB0_20.out
        obtain ⟨c_hB10, c_hB11, _⟩ := hB1_0.out
        obtain ⟨c_sB10, c_sB11, _⟩ := sB1_20.out
        go_wp2_with fail
        refine (eqTranslator _ _ nx sc _ (Ints.read hL0_0.out) (Ints.read sL0_20.out)).mono ?_
        rintro e w22 ⟨rfl, hb⟩
        clear c_hB00 c_hB01 c_sB00 c_sB01 c_hB10 c_hB11 c_sB10 c_sB11
        have zw22 : w21.heap.size ≤ w22.heap.size := hb.size
        have HB_24 := Lib.hid (HB_23.out.trans (hb.mono HB_23.out.size))
        have A0_24 := Lib.hid (A0_23.out.below hb)
        have A1_24 := Lib.hid (A1_23.out.below hb)
        have sB0_21 := Lib.hid (sB0_20.out.below hb)
        have sB1_21 := Lib.hid (sB1_20.out.below hb)
        have sL0_21 := Lib.hid (sL0_20.out.below intE_ok hb)
        have X0_19 := Lib.hid (X0_18.out.below hb)
        have X1_17 := Lib.hid (X1_16.out.below hb)
        have gB0_16 := Lib.hid (gB0_15.out.below hb)
        have gB1_16 := Lib.hid (gB1_15.out.below hb)
        have mL0_3 := Lib.hid (mL0_2.out.below intE_ok hb)
        have hB0_1 := Lib.hid (hB0_0.out.below hb)
        have hB1_1 := Lib.hid (hB1_0.out.below hb)
        have hL0_1 := Lib.hid (hL0_0.out.below intE_ok hb)
        clear HB_23 A0_23 A1_23 sB0_20 sB1_20 sL0_20 X0_18 X1_16 gB0_15 gB1_15 mL0_2 hB0_0 hB1_0 hL0_0 hb
        obtain ⟨c_hB10, c_hB11, _⟩ := hB1_1.out
        obtain ⟨c_sB10, c_sB11, _⟩ := sB1_21.out
        go_wp2_with fail
        refine (eqEdit en et _).mono ?_
        rintro e w23 ⟨rfl, hb⟩
        clear c_hB10 c_hB11 c_sB10 c_sB11
        have zw23 : w22.heap.size ≤ w23.heap.size := hb.size
        have HB_25 := Lib.hid (HB_24.out.trans (hb.mono HB_24.out.size))
        have A0_25 := Lib.hid (A0_24.out.below hb)
        have A1_25 := Lib.hid (A1_24.out.below hb)
        have sB0_22 := Lib.hid (sB0_21.out.below hb)
        have sB1_22 := Lib.hid (sB1_21.out.below hb)
        have sL0_22 := Lib.hid (sL0_21.out.below intE_ok hb)
        have X0_20 := Lib.hid (X0_19.out.below hb)
        have X1_18 := Lib.hid (X1_17.out.below hb)
        have gB0_17 := Lib.hid (gB0_16.out.below hb)
        have gB1_17 := Lib.hid (gB1_16.out.below hb)
        have mL0_4 := Lib.hid (mL0_3.out.below intE_ok hb)
        have hB0_2 := Lib.hid (hB0_1.out.below hb)
        have hB1_2 := Lib.hid (hB1_1.out.below hb)
        have hL0_2 := Lib.hid (hL0_1.out.below intE_ok hb)
        clear HB_24 A0_24 A1_24 sB0_21 sB1_21 sL0_21 X0_19 X1_17 gB0_16 gB1_16 mL0_3 hB0_1 hB1_1 hL0_1 hb
        obtain ⟨c_gB00, c_gB01, _⟩ := gB0_17.out
        go_wp2_with fail
        refine (heldTranslator _ nx.length sc (1 : Int) _ (Ints.read mL0_4.out) HG0.out.1 HG0.out.2.1 (by have := HLEN.out; omega)).mono ?_
        rintro e w24 ⟨rfl, hb⟩
        clear c_gB00 c_gB01
        have zw24 : w23.heap.size ≤ w24.heap.size := hb.size
        have HB_26 := Lib.hid (HB_25.out.trans (hb.mono HB_25.out.size))
        have A0_26 := Lib.hid (A0_25.out.below hb)
        have A1_26 := Lib.hid (A1_25.out.below hb)
        have sB0_23 := Lib.hid (sB0_22.out.below hb)
        have sB1_23 := Lib.hid (sB1_22.out.below hb)
        have sL0_23 := Lib.hid (sL0_22.out.below intE_ok hb)
        have X0_21 := Lib.hid (X0_20.out.below hb)
        have X1_19 := Lib.hid (X1_18.out.below hb)
        have gB0_18 := Lib.hid (gB0_17.out.below hb)
        have gB1_18 := Lib.hid (gB1_17.out.below hb)
        have mL0_5 := Lib.hid (mL0_4.out.below intE_ok hb)
        have hB0_3 := Lib.hid (hB0_2.out.below hb)
        have hB1_3 := Lib.hid (hB1_2.out.below hb)
        have hL0_3 := Lib.hid (hL0_2.out.below intE_ok hb)
        clear HB_25 A0_25 A1_25 sB0_22 sB1_22 sL0_22 X0_20 X1_18 gB0_17 gB1_17 mL0_4 hB0_2 hB1_2 hL0_2 hb
        have hkn0 : ¬ ((1 : Int) + (nx.length : Int)) < 0 := by have := HG0.out.2.2.2; omega
        go_wp2
        go_ret
        exact ⟨rfl, HB_26.out⟩
end Go.Proofs.YtpkahblajgaemaaGreatDoor
