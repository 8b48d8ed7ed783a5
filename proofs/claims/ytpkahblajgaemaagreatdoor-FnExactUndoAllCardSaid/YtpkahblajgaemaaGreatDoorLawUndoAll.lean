/- The law of UndoAll: the program's answer is the reference's. -/
import Derived.Deep.DeepCutAuto
import Derived.Deep.RegionLaw
import Derived.Deep.RegionHeld
import Derived.Test.YtpkahblajgaemaaGreatDoorScrI8
import Derived.Test.YtpkahblajgaemaaGreatDoorScrS8
import Derived.Test.YtpkahblajgaemaaGreatDoorTool3
namespace Go.Proofs.YtpkahblajgaemaaGreatDoor
open Go Go.RowKit
set_option maxHeartbeats 8000000
set_option maxRecDepth 100000
theorem P.undo_len (d : P.Dic) (t : P.Tr) : (P.undo d t).1.length ≤ t.1.length := by
  unfold P.undo
  split
  · split
    · exact Nat.zero_le _
    · rename_i r h
      rw [P.undoN_len h]
      exact Nat.le_refl _
  · exact Nat.zero_le _
def UnaPost (es : List P.Edit) (ok : Bool) (w : World) (e : Ending) (w' : World) : Prop :=
  ∃ d c, e = .returned (.tuple #[.slice d es.length c, .bool ok]) ∧ Flds w' (BetO w.heap.size w'.heap.size (.slice d es.length c)) (.slice d es.length c) es ∧ Below w.heap.size w w'
theorem una_of {r : List P.Edit × Bool} {es : List P.Edit} {ok : Bool} (hr : r = (es, ok)) (hl : es.length ≤ 2 ^ 30) {w : World} (e : Ending) (w' : World) (h : UndoPost r w e w') : UnaPost es ok w e w' := by
  subst hr
  obtain ⟨u, he, ho, hb⟩ := h
  simp only at ho
  obtain ⟨a, c, rfl⟩ := ownE_form ho
  exact ⟨a, c, he, ownE_flds ho hl, hb⟩
/-- what the drawn regions of FnExactUndoAll keep -/
def K_law_undoAll (w : World) (a0d : Option Addr) (a0c : Nat) (l0 : P.Dic) (a1d : Option Addr) (a1c : Nat) (o1 : List Int) (t1 : Str) (v : World) : Prop := v.cell? ⟨w.heap.size, 0, none⟩ = some (.slice a0d l0.length a0c) ∧ v.cell? ⟨(w.heap.size + 1), 0, none⟩ = some (.slice a1d o1.length a1c) ∧ v.cell? ⟨(w.heap.size + 1), 1, none⟩ = some (.string (S t1))
theorem K_law_undoAll.step {w : World} {a0d : Option Addr} {a0c : Nat} {l0 : P.Dic} {a1d : Option Addr} {a1c : Nat} {o1 : List Int} {t1 : Str} {v v' : World} {B : Nat} (h : K_law_undoAll w a0d a0c l0 a1d a1c o1 t1 v) (hb : Below B v v') (hW : (w.heap.size + 1) < B) : K_law_undoAll w a0d a0c l0 a1d a1c o1 t1 v' :=
  ⟨(hb.cell (p := ⟨w.heap.size, 0, none⟩) (by show w.heap.size < B; omega)).trans h.1, (hb.cell (p := ⟨(w.heap.size + 1), 0, none⟩) (by show (w.heap.size + 1) < B; omega)).trans h.2.1, (hb.cell (p := ⟨(w.heap.size + 1), 1, none⟩) (by show (w.heap.size + 1) < B; omega)).trans h.2.2⟩
theorem law_undoAll (u0 : Value) (l0 : P.Dic) (u1 : Value) (o1 : List Int) (t1 : Str) (w : World) (hu0 : EntA w u0 l0) (ht0 : ∀ e ∈ l0, e.2.length ≤ 9223372036854775807) (hu1 : IntA w u1 o1) (ht1 : t1.length ≤ 9223372036854775807) (hE : Env w) :
    Calls Tryz.prog 7 #[.agg #[u0], .agg #[u1, .string (S t1)]] w fun e w' => e = .returned (.bool true) ∧ Below w.heap.size w w' := by
  have HE := Lib.hid hE; clear hE
  have HU0 := Lib.hid hu0
  have HT0 := Lib.hid ht0; clear ht0
  obtain ⟨a0d, a0c, rfl, hln0, _⟩ := hu0
  have HU1 := Lib.hid hu1
  have HT1 := Lib.hid ht1; clear ht1
  obtain ⟨a1d, a1c, rfl, hln1, _⟩ := hu1
  have hb := (((Below.refl w.heap.size w).alloc (Nat.le_refl _) (.cells #[.slice a0d l0.length a0c] 57)).alloc (by simp) (.cells #[.slice a1d o1.length a1c, .string (S t1)] 58))
  have HB_0 := Lib.hid (hb)
  have A0_0 := Lib.hid ((Box1.new (.slice a0d l0.length a0c) 57 w).below ((Below.refl _ _).alloc (Nat.le_refl _) (.cells #[.slice a1d o1.length a1c, .string (S t1)] 58)))
  have A1_0 := Lib.hid (show Box2E (w.heap.size + 1) (.slice a1d o1.length a1c) t1 _ from by have h := Box2E.new (.slice a1d o1.length a1c) t1 58 (w.alloc (.cells #[.slice a0d l0.length a0c] 57)); simpa using h)
  clear hb
  go_enter Tryz.func7, Tryz.ntmps7
  go_wp2_with fail
  refine (szDictionary _ l0 1048576 _ (HU0.out.below HB_0.out) HT0.out (by decide) (by decide)).mono ?_
  rintro e w1 ⟨⟨r0, rfl, hra0, hrb0⟩, hb⟩
  have zw1 : w.heap.size + 2 ≤ w1.heap.size := by have := hb.size; simp at this; omega
  have HB_1 := Lib.hid (HB_0.out.trans (hb.mono HB_0.out.size))
  have A0_1 := Lib.hid (A0_0.out.below hb)
  have A1_1 := Lib.hid (A1_0.out.below hb)
  clear HB_0 A0_0 A1_0 hb HT0
  have HR0 := Lib.hid hrb0; clear hrb0
  by_cases hneg0 : r0 < 0
  · go_wp2
    go_ret
    exact ⟨rfl, HB_1.out⟩
  have hR0 : r0 = 1048576 - ((l0.length : Int) + P.sizeE l0) := HR0.out (by omega)
  have HSL0 := Lib.hid hR0; have HRN0 := Lib.hid (show 0 ≤ r0 by omega); clear hR0 HR0 hra0
  have hq0 : r0 ≤ 2 ^ 20 := by have := P.sizeE_nonneg l0; have := HSL0.out; omega
  have HRQ0 := Lib.hid hq0; clear hq0
  obtain ⟨c_A10, c_A11, _⟩ := A1_1.out
  go_wp2_with fail
  refine (szTranslator _ o1 t1 r0 _ (HU1.out.below HB_1.out) HT1.out HRN0.out HRQ0.out).mono ?_
  rintro e w2 ⟨⟨r1, rfl, hra1, hrb1⟩, hb⟩
  clear c_A10 c_A11
  have zw2 : w1.heap.size ≤ w2.heap.size := hb.size
  have HB_2 := Lib.hid (HB_1.out.trans (hb.mono HB_1.out.size))
  have A0_2 := Lib.hid (A0_1.out.below hb)
  have A1_2 := Lib.hid (A1_1.out.below hb)
  clear HB_1 A0_1 A1_1 hb HT1
  have HR1 := Lib.hid hrb1; clear hrb1
  by_cases hneg1 : r1 < 0
  · go_wp2
    go_ret
    exact ⟨rfl, HB_2.out⟩
  have hR1 : r1 = r0 - ((o1.length : Int) + t1.length) := HR1.out (by omega)
  have HSL1 := Lib.hid hR1; have HRN1 := Lib.hid (show 0 ≤ r1 by omega); clear hR1 HR1 hra1
  have hq1 : r1 ≤ 2 ^ 20 := by have := P.sizeE_nonneg l0; have := HSL0.out; have := HSL1.out; omega
  have HRQ1 := Lib.hid hq1; clear hq1
  have HS0 := Lib.hid (show (l0.length : Int) + P.sizeE l0 ≤ 1048576 by have := HSL0.out; have := HRN0.out; have := HSL1.out; have := HRN1.out; have := P.sizeE_nonneg l0; omega)
  have HUA0 := HU0; clear HU0
  have HU0 := Lib.hid (HUA0.out.read (small_of HS0.out).len (small_of HS0.out).outs); have HSM0 := Lib.hid (small_of HS0.out)
  clear HUA0
  have HS1 := Lib.hid (show (o1.length : Int) + t1.length ≤ 1048576 by have := HSL0.out; have := HRN0.out; have := HSL1.out; have := HRN1.out; have := P.sizeE_nonneg l0; omega)
  have HUA1 := HU1; clear HU1
  have HSM1 := Lib.hid (show o1.length ≤ 2 ^ 20 ∧ t1.length ≤ 2 ^ 30 by have := HS1.out; omega)
  have HU1 := Lib.hid (HUA1.out.read HSM1.out.1)
  clear HUA1
  have HSS := Lib.hid (show ((l0.length : Int) + P.sizeE l0) + ((o1.length : Int) + t1.length) ≤ 1048576 by have := HSL0.out; have := HRN0.out; have := HSL1.out; have := HRN1.out; have := P.sizeE_nonneg l0; omega)
  obtain ⟨es, ok, hr⟩ : ∃ es ok, P.undo l0 (o1, t1) = (es, ok) := ⟨_, _, rfl⟩
  have HR := Lib.hid hr
  have HLEN := Lib.hid (show es.length ≤ 2 ^ 21 from by have h := P.undo_len l0 (o1, t1); rw [hr] at h; simp only at h; have := HSM1.out.1; omega)
  clear hr
  have HK0 := Lib.hid (show 0 ≤ (1 : Int) ∧ (1 : Int) ≤ 2 ^ 40 ∧ (P.kAt (1 : Int) l0) ≤ 2 ^ 40 ∧ 0 ≤ (P.kAt (1 : Int) l0) by have := HS0.out; have := HS1.out; have := P.sizeE_nonneg l0; have := P.kAt_le (1 : Int) l0; have := P.kAt_ge (1 : Int) l0; omega)
  have HK1 := Lib.hid (show 0 ≤ (P.kAt (1 : Int) l0) ∧ (P.kAt (1 : Int) l0) ≤ 2 ^ 40 ∧ ((P.kAt (1 : Int) l0) + (o1.length : Int)) ≤ 2 ^ 40 ∧ 0 ≤ ((P.kAt (1 : Int) l0) + (o1.length : Int)) by have := HS0.out; have := HS1.out; have := P.sizeE_nonneg l0; have := P.kAt_le (1 : Int) l0; have := P.kAt_ge (1 : Int) l0; omega)
  have HG0 := Lib.hid (show 0 ≤ (1 : Int) ∧ (1 : Int) ≤ 2 ^ 40 ∧ ((1 : Int) + 2 * (es.length : Int)) ≤ 2 ^ 40 ∧ 0 ≤ ((1 : Int) + 2 * (es.length : Int)) by have := HLEN.out; omega)
  clear HSL0 HRN0 HRQ0 HSL1 HRN1 HRQ1 HSS
  have hWA : (w.heap.size + 1) < w2.heap.size := A1_2.out.2.2
  have HS := Lib.hid (show K_law_undoAll w a0d a0c l0 a1d a1c o1 t1 w2.drew from K_law_undoAll.step (B := w2.heap.size) ⟨A0_2.out.1, A1_2.out.1, A1_2.out.2.1⟩ (Below.refl _ _).drew hWA)
  go_upto_region 8 with fail
  go_cut [6, 7] (fun q0 q1 wx => ∃ s0d s0c, q0 = .slice s0d es.length s0c ∧ q1 = .bool ok ∧ Flds wx (BetO w2.heap.size wx.heap.size (.slice s0d es.length s0c)) (.slice s0d es.length s0c) es ∧ Below w2.heap.size w2 wx)
  case first =>
    apply lem_cut
    intro ks3
    apply lem_cut
    intro ks2
    apply lem_cut
    intro ks1
    have HBW := Lib.hid (show Below w2.heap.size w2 w2.drew from (Below.refl _ _).drew)
    refine wp_region_held_drew (S := K_law_undoAll w a0d a0c l0 a1d a1c o1 t1) (by kernel_rfl) HS.out (fun hS => ?_)
    refine wpAnyH_take (i := 0) (v := .agg #[.slice a0d l0.length a0c]) rfl (by kernel_rfl) (by kernel_rfl) (by kernel_rfl) (fun _ _ _ h => h) (Or.inl ⟨by rfl, fun z hz => ?_⟩) hS ?_
    · obtain ⟨z0q, z1q, z2q⟩ := hz
      go_simp
    try simp only [List.getElem_toArray, List.getElem_cons_zero, Act.put, List.setIfInBounds_toArray, List.set_cons_zero, List.set_cons_succ]
    refine wpAnyH_take (i := 2) (v := .agg #[.slice a1d o1.length a1c, .string (S t1)]) rfl (by kernel_rfl) (by kernel_rfl) (by kernel_rfl) (fun _ _ _ h => h) (Or.inl ⟨by rfl, fun z hz => ?_⟩) hS ?_
    · obtain ⟨z0q, z1q, z2q⟩ := hz
      go_simp
    try simp only [List.getElem_toArray, List.getElem_cons_zero, List.getElem_cons_succ, Act.put, List.setIfInBounds_toArray, List.set_cons_zero, List.set_cons_succ]
    generalize w2.drew = v at hS HBW ⊢
    refine wpAnyH_ready (rs := [1]) (by kernel_rfl) (by simp) ?_
    refine AllReadyH.cons rfl (fun K hK => ?_) AllReadyH.nil
    · skip
      go_simp
      refine (toDictionary _ l0 _ (HU0.out.below (HB_2.out.trans (HBW.out.mono HB_2.out.size))) HSM0.out.len HSM0.out.outs).mono ?_
      rintro e v9 ⟨y9, rfl, hI, hb⟩
      have hwz := HBW.out.size
      have hvz := hb.size
      refine hK.out _ _ (hS.step (hb.mono hwz) hWA) (fun hSn => ?_)
      clear hK K
      have HQ0n := Lib.hid ((Ents.read hI))
      obtain ⟨x0d, x0c, rfl, -, -⟩ := hI
      have HBWn := Lib.hid (HBW.out.trans (hb.mono hwz))
      try simp only [List.getElem_toArray, List.getElem_cons_zero, List.getElem_cons_succ, Act.put, List.setIfInBounds_toArray, List.set_cons_zero, List.set_cons_succ]
      clear hS HBW hb hvz hwz 
      have HALL := And.intro hSn (And.intro HBWn HQ0n)
      clear hSn HBWn HQ0n
      revert HALL
      revert x0c
      revert x0d
      revert v9
      exact ks1
    intro v x0d x0c HALL
    obtain ⟨hS, HBW, HQ0⟩ := HALL
    refine wpAnyH_ready (rs := [3]) (by kernel_rfl) (by simp) ?_
    refine AllReadyH.cons rfl (fun K hK => ?_) AllReadyH.nil
    · skip
      go_simp
      refine (toTranslator _ o1 t1 _ (HU1.out.below (HB_2.out.trans (HBW.out.mono HB_2.out.size))) HSM1.out.1).mono ?_
      rintro e v9 ⟨y9, rfl, hI, hb⟩
      have hwz := HBW.out.size
      have hvz := hb.size
      refine hK.out _ _ (hS.step (hb.mono hwz) hWA) (fun hSn => ?_)
      clear hK K
      have HQ0n := Lib.hid (HQ0.out.below hb)
      have HQ1n := Lib.hid ((Ints.read hI))
      obtain ⟨x1d, x1c, rfl, -, -⟩ := hI
      have HBWn := Lib.hid (HBW.out.trans (hb.mono hwz))
      try simp only [List.getElem_toArray, List.getElem_cons_zero, List.getElem_cons_succ, Act.put, List.setIfInBounds_toArray, List.set_cons_zero, List.set_cons_succ]
      clear hS HBW HQ0 hb hvz hwz 
      have HALL := And.intro hSn (And.intro HBWn (And.intro HQ0n HQ1n))
      clear hSn HBWn HQ0n HQ1n
      revert HALL
      revert x1c
      revert x1d
      revert x0c
      revert x0d
      revert v9
      exact ks2
    intro v x0d x0c x1d x1c HALL
    obtain ⟨hS, HBW, HQ0, HQ1⟩ := HALL
    refine wpAnyH_ready (rs := [4]) (by kernel_rfl) (by simp) ?_
    refine AllReadyH.cons rfl (fun K hK => ?_) AllReadyH.nil
    · skip
      go_simp
      refine ((spec_undoAll _ _ l0 o1 t1 _ HQ0.out HQ1.out HSM0.out).mono (una_of HR.out (Nat.le_trans HLEN.out (by decide)))).mono ?_
      rintro e v9 ⟨s0d, s0c, rfl, hrow0, hb⟩
      have hwz := HBW.out.size
      have hvz := hb.size
      refine hK.out _ _ (hS.step (hb.mono hwz) hWA) (fun hSn => ?_)
      clear hK K
      obtain ⟨lo, hi, hlo1, hhi1, hres0⟩ : ∃ lo hi : Nat, (w2.heap.size ≤ lo) ∧ (hi ≤ v9.heap.size) ∧ Flds v9 (BetO lo hi (.slice s0d es.length s0c)) (.slice s0d es.length s0c) es := ⟨v.heap.size, v9.heap.size, hwz, Nat.le_refl _, hrow0⟩
      have HLOn := Lib.hid (And.intro hlo1 hhi1)
      have HRES0n := Lib.hid hres0
      clear hlo1 hhi1 hres0 hrow0 
      have HBWn := Lib.hid (HBW.out.trans (hb.mono hwz))
      try simp only [List.getElem_toArray, List.getElem_cons_zero, List.getElem_cons_succ, Act.put, List.setIfInBounds_toArray, List.set_cons_zero, List.set_cons_succ]
      refine wpAnyH_take (i := 5) (v := .tuple #[.slice s0d es.length s0c, .bool ok]) rfl (by kernel_rfl) (by kernel_rfl) (by kernel_rfl) (fun _ _ _ h => h) (Or.inl ⟨by rfl, fun z hz => ?_⟩) hSn ?_
      · obtain ⟨z0q, z1q, z2q⟩ := hz
        go_simp
      try simp only [List.getElem_toArray, List.getElem_cons_zero, List.getElem_cons_succ, Act.put, List.setIfInBounds_toArray, List.set_cons_zero, List.set_cons_succ]
      refine wpAnyH_take (i := 6) (v := .slice s0d es.length s0c) rfl (by kernel_rfl) (by kernel_rfl) (by kernel_rfl) (fun _ _ _ h => h) (Or.inl ⟨by rfl, fun z hz => ?_⟩) hSn ?_
      · obtain ⟨z0q, z1q, z2q⟩ := hz
        go_simp
      try simp only [List.getElem_toArray, List.getElem_cons_zero, List.getElem_cons_succ, Act.put, List.setIfInBounds_toArray, List.set_cons_zero, List.set_cons_succ]
      refine wpAnyH_take (i := 7) (v := .bool ok) rfl (by kernel_rfl) (by kernel_rfl) (by kernel_rfl) (fun _ _ _ h => h) (Or.inl ⟨by rfl, fun z hz => ?_⟩) hSn ?_
      · obtain ⟨z0q, z1q, z2q⟩ := hz
        go_simp
      try simp only [List.getElem_toArray, List.getElem_cons_zero, List.getElem_cons_succ, Act.put, List.setIfInBounds_toArray, List.set_cons_zero, List.set_cons_succ]
      clear hS HBW HQ0 HQ1 hb hvz hwz 
      have HALL := And.intro hSn (And.intro HBWn (And.intro HLOn HRES0n))
      clear hSn HBWn HLOn HRES0n
      revert HALL
      revert hi
      revert lo
      revert s0c
      revert s0d
      revert x1c
      revert x1d
      revert x0c
      revert x0d
      revert v9
      exact ks3
    intro v x0d x0c x1d x1c s0d s0c lo hi HALL
    obtain ⟨hS, HBW, HLO, HRES0⟩ := HALL
    have hlo := HLO.out.1; have hhi := HLO.out.2
    refine wpAnyH_take (i := 8) (v := .slice s0d es.length s0c) rfl (by kernel_rfl) (by kernel_rfl) (by kernel_rfl) (fun _ _ _ h => h) (Or.inl ⟨by rfl, fun z hz => ?_⟩) hS ?_
    · obtain ⟨z0q, z1q, z2q⟩ := hz
      go_simp
    try simp only [List.getElem_toArray, List.getElem_cons_zero, List.getElem_cons_succ, Act.put, List.setIfInBounds_toArray, List.set_cons_zero, List.set_cons_succ]
    refine wpAnyH_take (i := 9) (v := .bool ok) rfl (by kernel_rfl) (by kernel_rfl) (by kernel_rfl) (fun _ _ _ h => h) (Or.inl ⟨by rfl, fun z hz => ?_⟩) hS ?_
    · obtain ⟨z0q, z1q, z2q⟩ := hz
      go_simp
    try simp only [List.getElem_toArray, List.getElem_cons_zero, List.getElem_cons_succ, Act.put, List.setIfInBounds_toArray, List.set_cons_zero, List.set_cons_succ]
    refine wpAnyH_done (by kernel_rfl) ?_ _
    go_wp2_with fail
    go_meet
    exact ⟨s0d, s0c, rfl, rfl, RowO.to foldE_ok HRES0.out (Below.refl _ _) (by omega) (by omega) (Nat.le_refl _), HBW.out⟩
  case rest =>
    obtain ⟨s0d, s0c, rfl, rfl, hrow0, hb⟩ := hcut
    have zzw3 : w2.heap.size ≤ wc.heap.size := hb.size
    have HB_3 := Lib.hid (HB_2.out.trans (hb.mono HB_2.out.size))
    have A0_3 := Lib.hid (A0_2.out.below hb)
    have A1_3 := Lib.hid (A1_2.out.below hb)
    clear HB_2 A0_2 A1_2 hb HS
    have sL0_0 := Lib.hid (hrow0)
    clear hrow0
    clear hWA
    generalize hww : wc = w3 at *
    clear hww
    obtain ⟨c_A0, _⟩ := A0_3.out
    go_wp2_with fail
    refine (toDictionary _ l0 _ (HU0.out.below HB_3.out) HSM0.out.len HSM0.out.outs).mono ?_
    rintro e w4 ⟨y1, rfl, hI, hb⟩
    clear c_A0
    have zw4 : w3.heap.size ≤ w4.heap.size := hb.size
    have HB_4 := Lib.hid (HB_3.out.trans (hb.mono HB_3.out.size))
    have A0_4 := Lib.hid (A0_3.out.below hb)
    have A1_4 := Lib.hid (A1_3.out.below hb)
    have sL0_1 := Lib.hid (sL0_0.out.below foldE_ok hb)
    clear HB_3 A0_3 A1_3 sL0_0 hb
    have E0_0 := Lib.hid ((by simpa using hI : Ents w4 (Bet (w3.heap.size) w4.heap.size) y1 l0))
    clear hI
    obtain ⟨y1d, y1c, rfl, _, _⟩ := id E0_0.out
    have hb := (Below.refl w4.heap.size w4).alloc (Nat.le_refl _) (.cells #[.slice y1d l0.length y1c] 26)
    have HB_5 := Lib.hid (HB_4.out.trans (hb.mono HB_4.out.size))
    have A0_5 := Lib.hid (A0_4.out.below hb)
    have A1_5 := Lib.hid (A1_4.out.below hb)
    have sL0_2 := Lib.hid (sL0_1.out.below foldE_ok hb)
    have E0_1 := Lib.hid (E0_0.out.below entE_ok hb)
    clear HB_4 A0_4 A1_4 sL0_1 E0_0 hb
    have X0_0 := Lib.hid (Box1.new (.slice y1d l0.length y1c) 26 w4)
    obtain ⟨c_A10, c_A11, _⟩ := A1_5.out
    go_wp2_with fail
    refine (toTranslator _ o1 t1 _ (HU1.out.below HB_5.out) HSM1.out.1).mono ?_
    rintro e w5 ⟨y2, rfl, hI, hb⟩
    clear c_A10 c_A11
    have zw5 : w4.heap.size + 1 ≤ w5.heap.size := by have := hb.size; simp at this; omega
    have HB_6 := Lib.hid (HB_5.out.trans (hb.mono HB_5.out.size))
    have A0_6 := Lib.hid (A0_5.out.below hb)
    have A1_6 := Lib.hid (A1_5.out.below hb)
    have sL0_3 := Lib.hid (sL0_2.out.below foldE_ok hb)
    have E0_2 := Lib.hid (E0_1.out.below entE_ok hb)
    have X0_1 := Lib.hid (X0_0.out.below hb)
    clear HB_5 A0_5 A1_5 sL0_2 E0_1 X0_0 hb
    have E1_0 := Lib.hid ((by simpa using hI : Ints w5 (Bet (w4.heap.size + 1) w5.heap.size) y2 o1))
    clear hI
    obtain ⟨y2d, y2c, rfl, _, _⟩ := id E1_0.out
    have hb := (Below.refl w5.heap.size w5).alloc (Nat.le_refl _) (.cells #[.slice y2d o1.length y2c, .string (S t1)] 32)
    have HB_7 := Lib.hid (HB_6.out.trans (hb.mono HB_6.out.size))
    have A0_7 := Lib.hid (A0_6.out.below hb)
    have A1_7 := Lib.hid (A1_6.out.below hb)
    have sL0_4 := Lib.hid (sL0_3.out.below foldE_ok hb)
    have E0_3 := Lib.hid (E0_2.out.below entE_ok hb)
    have X0_2 := Lib.hid (X0_1.out.below hb)
    have E1_1 := Lib.hid (E1_0.out.below intE_ok hb)
    clear HB_6 A0_6 A1_6 sL0_3 E0_2 X0_1 E1_0 hb
    have X1_0 := Lib.hid (Box2E.new (.slice y2d o1.length y2c) t1 32 w5)
    go_upto_region 11 with fail
    have zgw6 : w5.heap.size < (w5.alloc (.cells #[.slice y2d o1.length y2c, .string (S t1)] 32)).heap.size := by simp
    generalize w5.alloc (.cells #[.slice y2d o1.length y2c, .string (S t1)] 32) = w6 at *
    obtain ⟨c_X0, _⟩ := X0_2.out
    obtain ⟨c_X10, c_X11, _⟩ := X1_0.out
    go_upto_region 11 with fail
    go_cut [10, 11] (fun q0 q1 wx => ∃ g0d g0c mg, q0 = .slice g0d es.length g0c ∧ q1 = .bool ok ∧ w6.heap.size ≤ mg ∧ mg ≤ wx.heap.size ∧ Flds wx (BetO w6.heap.size mg (.slice g0d es.length g0c)) (.slice g0d es.length g0c) es ∧ Below w6.heap.size w6 wx)
    case first =>
      have HA_0 := Lib.hid (show Below w6.heap.size w6 w6 from Below.refl _ _)
      go_wp2_with fail
      refine ((impl_undoAll _ _ l0 o1 t1 _ (Ents.read E0_3.out) (Ints.read E1_1.out) HSM0.out (HE.out.below HB_7.out HE.out.size)).mono (una_of HR.out (Nat.le_trans HLEN.out (by decide)))).mono ?_
      rintro e w7 ⟨g0d, g0c, rfl, hrow0, hb⟩
      clear c_X0 c_X10 c_X11
      have zw7 : w6.heap.size ≤ w7.heap.size := hb.size
      have HA_1 := Lib.hid (HA_0.out.trans (hb.mono HA_0.out.size))
      clear HA_0 hb
      go_wp2
      go_meet
      refine ⟨g0d, g0c, w7.heap.size, rfl, rfl, by omega, by first | omega | (simp; done) | (simp; omega), RowO.to foldE_ok hrow0 ?_ (by omega) (by first | omega | (simp; done) | (simp; omega)) (by first | omega | (simp; done) | (simp; omega)), ?_⟩
      all_goals first | exact (Below.refl _ _) | exact HA_1.out | skip
    case rest =>
      obtain ⟨g0d, g0c, mg, rfl, rfl, zmg, zng, hrow0, hb⟩ := hcut
      have zzw8 : w6.heap.size ≤ wc.heap.size := hb.size
      clear c_X0 c_X10 c_X11
      have HB_8 := Lib.hid (HB_7.out.trans (hb.mono HB_7.out.size))
      have A0_8 := Lib.hid (A0_7.out.below hb)
      have A1_8 := Lib.hid (A1_7.out.below hb)
      have sL0_5 := Lib.hid (sL0_4.out.below foldE_ok hb)
      have E0_4 := Lib.hid (E0_3.out.below entE_ok hb)
      have X0_3 := Lib.hid (X0_2.out.below hb)
      have E1_2 := Lib.hid (E1_1.out.below intE_ok hb)
      have X1_1 := Lib.hid (X1_0.out.below hb)
      clear HB_7 A0_7 A1_7 sL0_4 E0_3 X0_2 E1_1 X1_0 hb
      have gL0_0 := Lib.hid (hrow0)
      clear hrow0
      generalize hww : wc = w8 at *
      clear hww
      go_wp2_with fail
      refine (eqEditS _ _ es _ (Flds.read gL0_0.out) (Flds.read sL0_5.out)).mono ?_
      rintro e w9 ⟨rfl, hb⟩
      have zw9 : w8.heap.size ≤ w9.heap.size := hb.size
      have HB_9 := Lib.hid (HB_8.out.trans (hb.mono HB_8.out.size))
      have A0_9 := Lib.hid (A0_8.out.below hb)
      have A1_9 := Lib.hid (A1_8.out.below hb)
      have sL0_6 := Lib.hid (sL0_5.out.below foldE_ok hb)
      have E0_5 := Lib.hid (E0_4.out.below entE_ok hb)
      have X0_4 := Lib.hid (X0_3.out.below hb)
      have E1_3 := Lib.hid (E1_2.out.below intE_ok hb)
      have X1_2 := Lib.hid (X1_1.out.below hb)
      have gL0_1 := Lib.hid (gL0_0.out.below foldE_ok hb)
      clear HB_8 A0_8 A1_8 sL0_5 E0_4 X0_3 E1_2 X1_1 gL0_0 hb
      have hb := (Below.refl w9.heap.size w9).drew
      have HB_10 := Lib.hid (HB_9.out.trans (hb.mono HB_9.out.size))
      have A0_10 := Lib.hid (A0_9.out.below hb)
      have A1_10 := Lib.hid (A1_9.out.below hb)
      have sL0_7 := Lib.hid (sL0_6.out.below foldE_ok hb)
      have E0_6 := Lib.hid (E0_5.out.below entE_ok hb)
      have X0_5 := Lib.hid (X0_4.out.below hb)
      have E1_4 := Lib.hid (E1_3.out.below intE_ok hb)
      have X1_3 := Lib.hid (X1_2.out.below hb)
      have gL0_2 := Lib.hid (gL0_1.out.below foldE_ok hb)
      clear HB_9 A0_9 A1_9 sL0_6 E0_5 X0_4 E1_3 X1_2 gL0_1 hb
      go_upto_region 14 with fail
      refine wp_region_held_drew (S := fun v : World => v.cell? ⟨w4.heap.size, 0, none⟩ = some (.slice y1d l0.length y1c) ∧ v.cell? ⟨w.heap.size, 0, none⟩ = some (.slice a0d l0.length a0c) ∧ w4.heap.size < v.heap.size ∧ w.heap.size < v.heap.size) (by kernel_rfl) ⟨X0_5.out.1, A0_10.out.1, X0_5.out.2, A0_10.out.2⟩ (fun hS0 => ?_)
      refine wpAnyH_take (i := 0) (v := .agg #[.slice y1d l0.length y1c]) rfl (by kernel_rfl) (by kernel_rfl) (by kernel_rfl) (fun _ _ _ h => h) (Or.inl ⟨by rfl, fun z hz => ?_⟩) hS0 ?_
      · obtain ⟨q1, q2, q3, q4⟩ := hz
        go_simp
      try simp only [List.getElem_toArray, List.getElem_cons_zero, Act.put, List.setIfInBounds_toArray, List.set_cons_zero, List.set_cons_succ]
      refine wpAnyH_take (i := 1) (v := .agg #[.slice a0d l0.length a0c]) rfl (by kernel_rfl) (by kernel_rfl) (by kernel_rfl) (fun _ _ _ h => h) (Or.inl ⟨by rfl, fun z hz => ?_⟩) hS0 ?_
      · obtain ⟨q1, q2, q3, q4⟩ := hz
        go_simp
      try simp only [List.getElem_toArray, List.getElem_cons_zero, List.getElem_cons_succ, Act.put, List.setIfInBounds_toArray, List.set_cons_zero, List.set_cons_succ]
      refine wpAnyH_ready (rs := [2]) (by kernel_rfl) (by simp) ?_
      refine AllReadyH.cons rfl (fun K hK => ?_) AllReadyH.nil
      go_simp
      refine (toDictionary _ l0 _ (HU0.out.below HB_10.out) HSM0.out.len HSM0.out.outs).mono ?_
      rintro e w10 ⟨y3, rfl, hI, hb⟩
      have zw10 : w9.heap.size ≤ w10.heap.size := hb.size
      refine hK.out _ _ ⟨(hb.cell (p := ⟨w4.heap.size, 0, none⟩) hS0.2.2.1).trans hS0.1, (hb.cell (p := ⟨w.heap.size, 0, none⟩) hS0.2.2.2).trans hS0.2.1, Nat.lt_of_lt_of_le hS0.2.2.1 hb.size, Nat.lt_of_lt_of_le hS0.2.2.2 hb.size⟩ (fun hS1 => ?_)
      clear hK K
      have HB_11 := Lib.hid (HB_10.out.trans (hb.mono HB_10.out.size))
      have A0_11 := Lib.hid (A0_10.out.below hb)
      have A1_11 := Lib.hid (A1_10.out.below hb)
      have sL0_8 := Lib.hid (sL0_7.out.below foldE_ok hb)
      have E0_7 := Lib.hid (E0_6.out.below entE_ok hb)
      have X0_6 := Lib.hid (X0_5.out.below hb)
      have E1_5 := Lib.hid (E1_4.out.below intE_ok hb)
      have X1_4 := Lib.hid (X1_3.out.below hb)
      have gL0_3 := Lib.hid (gL0_2.out.below foldE_ok hb)
      clear HB_10 A0_10 A1_10 sL0_7 E0_6 X0_5 E1_4 X1_3 gL0_2 hb hS0
      have HI3 := Lib.hid hI
      obtain ⟨y3d, y3c, rfl, _, _⟩ := hI
      try simp only [List.getElem_toArray, List.getElem_cons_zero, List.getElem_cons_succ, Act.put, List.setIfInBounds_toArray, List.set_cons_zero, List.set_cons_succ]
      refine wpAnyH_ready (rs := [3]) (by kernel_rfl) (by simp) ?_
      refine AllReadyH.cons rfl (fun K hK => ?_) AllReadyH.nil
      go_simp
      refine (eqDictionary _ _ l0 _ (Ents.read E0_7.out) (Ents.read HI3.out)).mono ?_
      rintro e w11 ⟨rfl, hb⟩
      have zw11 : w10.heap.size ≤ w11.heap.size := hb.size
      refine hK.out _ _ ⟨(hb.cell (p := ⟨w4.heap.size, 0, none⟩) hS1.2.2.1).trans hS1.1, (hb.cell (p := ⟨w.heap.size, 0, none⟩) hS1.2.2.2).trans hS1.2.1, Nat.lt_of_lt_of_le hS1.2.2.1 hb.size, Nat.lt_of_lt_of_le hS1.2.2.2 hb.size⟩ (fun hS2 => ?_)
      clear hK K
      have HB_12 := Lib.hid (HB_11.out.trans (hb.mono HB_11.out.size))
      have A0_12 := Lib.hid (A0_11.out.below hb)
      have A1_12 := Lib.hid (A1_11.out.below hb)
      have sL0_9 := Lib.hid (sL0_8.out.below foldE_ok hb)
      have E0_8 := Lib.hid (E0_7.out.below entE_ok hb)
      have X0_7 := Lib.hid (X0_6.out.below hb)
      have E1_6 := Lib.hid (E1_5.out.below intE_ok hb)
      have X1_5 := Lib.hid (X1_4.out.below hb)
      have gL0_4 := Lib.hid (gL0_3.out.below foldE_ok hb)
      clear HB_11 A0_11 A1_11 sL0_8 E0_7 X0_6 E1_5 X1_4 gL0_3 hb hS1 HI3
      try simp only [List.getElem_toArray, List.getElem_cons_zero, List.getElem_cons_succ, Act.put, List.setIfInBounds_toArray, List.set_cons_zero, List.set_cons_succ]
      refine wpAnyH_take (i := 4) (v := .bool false) rfl (by kernel_rfl) (by kernel_rfl) (by kernel_rfl) (fun _ _ _ h => h) (Or.inl ⟨by rfl, fun z hz => ?_⟩) hS2 ?_
      · obtain ⟨q1, q2, q3, q4⟩ := hz
        go_simp
      try simp only [List.getElem_toArray, List.getElem_cons_zero, List.getElem_cons_succ, Act.put, List.setIfInBounds_toArray, List.set_cons_zero, List.set_cons_succ]
      refine wpAnyH_done (by kernel_rfl) ?_ _
      clear hS2
      have hb := (Below.refl w11.heap.size w11).drew
      have HB_13 := Lib.hid (HB_12.out.trans (hb.mono HB_12.out.size))
      have A0_13 := Lib.hid (A0_12.out.below hb)
      have A1_13 := Lib.hid (A1_12.out.below hb)
      have sL0_10 := Lib.hid (sL0_9.out.below foldE_ok hb)
      have E0_9 := Lib.hid (E0_8.out.below entE_ok hb)
      have X0_8 := Lib.hid (X0_7.out.below hb)
      have E1_7 := Lib.hid (E1_6.out.below intE_ok hb)
      have X1_6 := Lib.hid (X1_5.out.below hb)
      have gL0_5 := Lib.hid (gL0_4.out.below foldE_ok hb)
      clear HB_12 A0_12 A1_12 sL0_9 E0_8 X0_7 E1_6 X1_5 gL0_4 hb
      go_upto_region 16 with fail
      refine wp_region_held_drew (S := fun v : World => v.cell? ⟨w5.heap.size, 0, none⟩ = some (.slice y2d o1.length y2c) ∧ v.cell? ⟨(w.heap.size + 1), 0, none⟩ = some (.slice a1d o1.length a1c) ∧ w5.heap.size < v.heap.size ∧ (w.heap.size + 1) < v.heap.size ∧ v.cell? ⟨w5.heap.size, 1, none⟩ = some (.string (S t1)) ∧ v.cell? ⟨(w.heap.size + 1), 1, none⟩ = some (.string (S t1))) (by kernel_rfl) ⟨X1_6.out.1, A1_13.out.1, X1_6.out.2.2, A1_13.out.2.2, X1_6.out.2.1, A1_13.out.2.1⟩ (fun hS0 => ?_)
      refine wpAnyH_take (i := 0) (v := .agg #[.slice y2d o1.length y2c, .string (S t1)]) rfl (by kernel_rfl) (by kernel_rfl) (by kernel_rfl) (fun _ _ _ h => h) (Or.inl ⟨by rfl, fun z hz => ?_⟩) hS0 ?_
      · obtain ⟨q1, q2, q3, q4, q5, q6⟩ := hz
        go_simp
      try simp only [List.getElem_toArray, List.getElem_cons_zero, Act.put, List.setIfInBounds_toArray, List.set_cons_zero, List.set_cons_succ]
      refine wpAnyH_take (i := 1) (v := .agg #[.slice a1d o1.length a1c, .string (S t1)]) rfl (by kernel_rfl) (by kernel_rfl) (by kernel_rfl) (fun _ _ _ h => h) (Or.inl ⟨by rfl, fun z hz => ?_⟩) hS0 ?_
      · obtain ⟨q1, q2, q3, q4, q5, q6⟩ := hz
        go_simp
      try simp only [List.getElem_toArray, List.getElem_cons_zero, List.getElem_cons_succ, Act.put, List.setIfInBounds_toArray, List.set_cons_zero, List.set_cons_succ]
      refine wpAnyH_ready (rs := [2]) (by kernel_rfl) (by simp) ?_
      refine AllReadyH.cons rfl (fun K hK => ?_) AllReadyH.nil
      go_simp
      refine (toTranslator _ o1 t1 _ (HU1.out.below HB_13.out) HSM1.out.1).mono ?_
      rintro e w12 ⟨y4, rfl, hI, hb⟩
      have zw12 : w11.heap.size ≤ w12.heap.size := hb.size
      refine hK.out _ _ ⟨(hb.cell (p := ⟨w5.heap.size, 0, none⟩) hS0.2.2.1).trans hS0.1, (hb.cell (p := ⟨(w.heap.size + 1), 0, none⟩) hS0.2.2.2.1).trans hS0.2.1, Nat.lt_of_lt_of_le hS0.2.2.1 hb.size, Nat.lt_of_lt_of_le hS0.2.2.2.1 hb.size, (hb.cell (p := ⟨w5.heap.size, 1, none⟩) hS0.2.2.1).trans hS0.2.2.2.2.1, (hb.cell (p := ⟨(w.heap.size + 1), 1, none⟩) hS0.2.2.2.1).trans hS0.2.2.2.2.2⟩ (fun hS1 => ?_)
      clear hK K
      have HB_14 := Lib.hid (HB_13.out.trans (hb.mono HB_13.out.size))
      have A0_14 := Lib.hid (A0_13.out.below hb)
      have A1_14 := Lib.hid (A1_13.out.below hb)
      have sL0_11 := Lib.hid (sL0_10.out.below foldE_ok hb)
      have E0_10 := Lib.hid (E0_9.out.below entE_ok hb)
      have X0_9 := Lib.hid (X0_8.out.below hb)
      have E1_8 := Lib.hid (E1_7.out.below intE_ok hb)
      have X1_7 := Lib.hid (X1_6.out.below hb)
      have gL0_6 := Lib.hid (gL0_5.out.below foldE_ok hb)
      clear HB_13 A0_13 A1_13 sL0_10 E0_9 X0_8 E1_7 X1_6 gL0_5 hb hS0
      have HI3 := Lib.hid hI
      obtain ⟨y4d, y4c, rfl, _, _⟩ := hI
      try simp only [List.getElem_toArray, List.getElem_cons_zero, List.getElem_cons_succ, Act.put, List.setIfInBounds_toArray, List.set_cons_zero, List.set_cons_succ]
      refine wpAnyH_ready (rs := [3]) (by kernel_rfl) (by simp) ?_
      refine AllReadyH.cons rfl (fun K hK => ?_) AllReadyH.nil
      go_simp
      refine (eqTranslator _ _ o1 t1 _ (Ints.read E1_8.out) (Ints.read HI3.out)).mono ?_
      rintro e w13 ⟨rfl, hb⟩
      have zw13 : w12.heap.size ≤ w13.heap.size := hb.size
      refine hK.out _ _ ⟨(hb.cell (p := ⟨w5.heap.size, 0, none⟩) hS1.2.2.1).trans hS1.1, (hb.cell (p := ⟨(w.heap.size + 1), 0, none⟩) hS1.2.2.2.1).trans hS1.2.1, Nat.lt_of_lt_of_le hS1.2.2.1 hb.size, Nat.lt_of_lt_of_le hS1.2.2.2.1 hb.size, (hb.cell (p := ⟨w5.heap.size, 1, none⟩) hS1.2.2.1).trans hS1.2.2.2.2.1, (hb.cell (p := ⟨(w.heap.size + 1), 1, none⟩) hS1.2.2.2.1).trans hS1.2.2.2.2.2⟩ (fun hS2 => ?_)
      clear hK K
      have HB_15 := Lib.hid (HB_14.out.trans (hb.mono HB_14.out.size))
      have A0_15 := Lib.hid (A0_14.out.below hb)
      have A1_15 := Lib.hid (A1_14.out.below hb)
      have sL0_12 := Lib.hid (sL0_11.out.below foldE_ok hb)
      have E0_11 := Lib.hid (E0_10.out.below entE_ok hb)
      have X0_10 := Lib.hid (X0_9.out.below hb)
      have E1_9 := Lib.hid (E1_8.out.below intE_ok hb)
      have X1_8 := Lib.hid (X1_7.out.below hb)
      have gL0_7 := Lib.hid (gL0_6.out.below foldE_ok hb)
      clear HB_14 A0_14 A1_14 sL0_11 E0_10 X0_9 E1_8 X1_7 gL0_6 hb hS1 HI3
      try simp only [List.getElem_toArray, List.getElem_cons_zero, List.getElem_cons_succ, Act.put, List.setIfInBounds_toArray, List.set_cons_zero, List.set_cons_succ]
      refine wpAnyH_take (i := 4) (v := .bool false) rfl (by kernel_rfl) (by kernel_rfl) (by kernel_rfl) (fun _ _ _ h => h) (Or.inl ⟨by rfl, fun z hz => ?_⟩) hS2 ?_
      · obtain ⟨q1, q2, q3, q4, q5, q6⟩ := hz
        go_simp
      try simp only [List.getElem_toArray, List.getElem_cons_zero, List.getElem_cons_succ, Act.put, List.setIfInBounds_toArray, List.set_cons_zero, List.set_cons_succ]
      refine wpAnyH_done (by kernel_rfl) ?_ _
      clear hS2
      obtain ⟨c_X0, _⟩ := X0_10.out
      go_wp2_with fail
      refine (markDictionary _ l0 (1 : Int) (Bet (w3.heap.size) w4.heap.size) _ E0_11.out HK0.out.1 HK0.out.2.2.1).mono ?_
      rintro e w14 ⟨rfl, _, hc⟩
      have zw14 : w13.heap.size ≤ w14.heap.size := hc.size
      clear c_X0
      have HB_16 := Lib.hid (Chg.belowB HB_15.out hc HB_15.out.size (fun b h => by have h3 : _ ∧ _ := h; omega))
      have A0_16 := Lib.hid (A0_15.out.stand hc (fun h => by have h3 : _ ∧ _ := h; omega))
      have A1_16 := Lib.hid (A1_15.out.stand hc (fun h => by have h3 : _ ∧ _ := h; omega))
      have sL0_13 := Lib.hid (sL0_12.out.stand foldE_ok hc (fun b h1 h2 => by have h3 : _ ∧ _ := h1; have h4 : _ ∧ _ := h2; omega))
      have X0_11 := Lib.hid (X0_10.out.stand hc (fun h => by have h3 : _ ∧ _ := h; omega))
      have E1_10 := Lib.hid (E1_9.out.stand intE_ok hc (fun b h1 h2 => by have h3 : _ ∧ _ := h1; have h4 : _ ∧ _ := h2; omega))
      have X1_9 := Lib.hid (X1_8.out.stand hc (fun h => by have h3 : _ ∧ _ := h; omega))
      have gL0_8 := Lib.hid (gL0_7.out.stand foldE_ok hc (fun b h1 h2 => by have h3 : _ ∧ _ := h1; have h4 : _ ∧ _ := h2; omega))
      clear HB_15 A0_15 A1_15 sL0_12 X0_10 E1_9 X1_8 gL0_7 hc
      obtain ⟨c_X10, c_X11, _⟩ := X1_9.out
      go_wp2_with fail
      refine (markTranslator _ o1 t1 (P.kAt (1 : Int) l0) (Bet (w4.heap.size + 1) w5.heap.size) _ E1_10.out HK1.out.1 HK1.out.2.1).mono ?_
      rintro e w15 ⟨rfl, _, hc⟩
      have zw15 : w14.heap.size ≤ w15.heap.size := hc.size
      clear c_X10 c_X11
      have HB_17 := Lib.hid (Chg.belowB HB_16.out hc HB_16.out.size (fun b h => by have h3 : _ ∧ _ := h; omega))
      have A0_17 := Lib.hid (A0_16.out.stand hc (fun h => by have h3 : _ ∧ _ := h; omega))
      have A1_17 := Lib.hid (A1_16.out.stand hc (fun h => by have h3 : _ ∧ _ := h; omega))
      have sL0_14 := Lib.hid (sL0_13.out.stand foldE_ok hc (fun b h1 h2 => by have h3 : _ ∧ _ := h1; have h4 : _ ∧ _ := h2; omega))
      have X0_12 := Lib.hid (X0_11.out.stand hc (fun h => by have h3 : _ ∧ _ := h; omega))
      have X1_10 := Lib.hid (X1_9.out.stand hc (fun h => by have h3 : _ ∧ _ := h; omega))
      have gL0_9 := Lib.hid (gL0_8.out.stand foldE_ok hc (fun b h1 h2 => by have h3 : _ ∧ _ := h1; have h4 : _ ∧ _ := h2; omega))
      clear HB_16 A0_16 A1_16 sL0_13 X0_11 X1_9 gL0_8 hc
      have hkp : ¬ ((P.kAt (1 : Int) l0) + (o1.length : Int)) < 0 := by have := HK1.out.2.2.2; omega
      go_wp2_with fail
      refine (eqEditS _ _ es _ (Flds.read gL0_9.out) (Flds.read sL0_14.out)).mono ?_
      rintro e w16 ⟨rfl, hb⟩
      have zw16 : w15.heap.size ≤ w16.heap.size := hb.size
      have HB_18 := Lib.hid (HB_17.out.trans (hb.mono HB_17.out.size))
      have A0_18 := Lib.hid (A0_17.out.below hb)
      have A1_18 := Lib.hid (A1_17.out.below hb)
      have sL0_15 := Lib.hid (sL0_14.out.below foldE_ok hb)
      have X0_13 := Lib.hid (X0_12.out.below hb)
      have X1_11 := Lib.hid (X1_10.out.below hb)
      have gL0_10 := Lib.hid (gL0_9.out.below foldE_ok hb)
      clear HB_17 A0_17 A1_17 sL0_14 X0_12 X1_10 gL0_9 hb
      go_wp2_with fail
      refine (markEditS _ es (1 : Int) (BetO w6.heap.size mg (.slice g0d es.length g0c)) _ gL0_10.out HG0.out.1 HG0.out.2.1).mono ?_
      rintro e w17 ⟨rfl, hI, hc⟩
      have zw17 : w16.heap.size ≤ w17.heap.size := hc.size
      have HB_19 := Lib.hid (Chg.belowB HB_18.out hc HB_18.out.size (fun b h => by have h3 : _ ∧ _ := h; omega))
      have A0_19 := Lib.hid (A0_18.out.stand hc (fun h => by have h3 : _ ∧ _ := h; omega))
      have A1_19 := Lib.hid (A1_18.out.stand hc (fun h => by have h3 : _ ∧ _ := h; omega))
      have sL0_16 := Lib.hid (sL0_15.out.stand foldE_ok hc (fun b h1 h2 => by have h3 : _ ∧ _ := h1; have h4 : _ ∧ _ := h2; omega))
      have X0_14 := Lib.hid (X0_13.out.stand hc (fun h => by have h3 : _ ∧ _ := h; omega))
      have X1_12 := Lib.hid (X1_11.out.stand hc (fun h => by have h3 : _ ∧ _ := h; omega))
      clear HB_18 A0_18 A1_18 sL0_15 X0_13 X1_11 hc hkp
      have mL0_0 := Lib.hid (hI)
      clear hI
      go_wp2_with fail
      refine (heldEditS _ es.length (1 : Int) _ (Flds.read mL0_0.out) HG0.out.1 HG0.out.2.1 (by have := HLEN.out; omega)).mono ?_
      rintro e w18 ⟨rfl, hb⟩
      have zw18 : w17.heap.size ≤ w18.heap.size := hb.size
      have HB_20 := Lib.hid (HB_19.out.trans (hb.mono HB_19.out.size))
      have A0_20 := Lib.hid (A0_19.out.below hb)
      have A1_20 := Lib.hid (A1_19.out.below hb)
      have sL0_17 := Lib.hid (sL0_16.out.below foldE_ok hb)
      have X0_15 := Lib.hid (X0_14.out.below hb)
      have X1_13 := Lib.hid (X1_12.out.below hb)
      have mL0_1 := Lib.hid (mL0_0.out.below foldE_ok hb)
      clear HB_19 A0_19 A1_19 sL0_16 X0_14 X1_12 mL0_0 hb
      have hkn0 : ¬ ((1 : Int) + 2 * (es.length : Int)) < 0 := by have := HG0.out.2.2.2; omega
      have hWA : (w.heap.size + 1) < w18.heap.size := A1_20.out.2.2
      have HS := Lib.hid (show K_law_undoAll w a0d a0c l0 a1d a1c o1 t1 w18.drew from K_law_undoAll.step (B := w18.heap.size) ⟨A0_20.out.1, A1_20.out.1, A1_20.out.2.1⟩ (Below.refl _ _).drew hWA)
      go_upto_region 31 with fail
      go_cut [15, 16] (fun q0 q1 wx => ∃ h0d h0c, q0 = .slice h0d es.length h0c ∧ q1 = .bool ok ∧ Flds wx (BetO w18.heap.size wx.heap.size (.slice h0d es.length h0c)) (.slice h0d es.length h0c) es ∧ Below w18.heap.size w18 wx)
      case first =>
        apply lem_cut
        intro kh3
        apply lem_cut
        intro kh2
        apply lem_cut
        intro kh1
        have HBW := Lib.hid (show Below w18.heap.size w18 w18.drew from (Below.refl _ _).drew)
        refine wp_region_held_drew (S := K_law_undoAll w a0d a0c l0 a1d a1c o1 t1) (by kernel_rfl) HS.out (fun hS => ?_)
        refine wpAnyH_take (i := 0) (v := .agg #[.slice a0d l0.length a0c]) rfl (by kernel_rfl) (by kernel_rfl) (by kernel_rfl) (fun _ _ _ h => h) (Or.inl ⟨by rfl, fun z hz => ?_⟩) hS ?_
        · obtain ⟨z0q, z1q, z2q⟩ := hz
          go_simp
        try simp only [List.getElem_toArray, List.getElem_cons_zero, Act.put, List.setIfInBounds_toArray, List.set_cons_zero, List.set_cons_succ]
        refine wpAnyH_take (i := 2) (v := .agg #[.slice a1d o1.length a1c, .string (S t1)]) rfl (by kernel_rfl) (by kernel_rfl) (by kernel_rfl) (fun _ _ _ h => h) (Or.inl ⟨by rfl, fun z hz => ?_⟩) hS ?_
        · obtain ⟨z0q, z1q, z2q⟩ := hz
          go_simp
        try simp only [List.getElem_toArray, List.getElem_cons_zero, List.getElem_cons_succ, Act.put, List.setIfInBounds_toArray, List.set_cons_zero, List.set_cons_succ]
        generalize w18.drew = v at hS HBW ⊢
        refine wpAnyH_ready (rs := [1]) (by kernel_rfl) (by simp) ?_
        refine AllReadyH.cons rfl (fun K hK => ?_) AllReadyH.nil
        · skip
          go_simp
          refine (toDictionary _ l0 _ (HU0.out.below (HB_20.out.trans (HBW.out.mono HB_20.out.size))) HSM0.out.len HSM0.out.outs).mono ?_
          rintro e v9 ⟨y9, rfl, hI, hb⟩
          have hwz := HBW.out.size
          have hvz := hb.size
          refine hK.out _ _ (hS.step (hb.mono hwz) hWA) (fun hSn => ?_)
          clear hK K
          have HQ0n := Lib.hid ((Ents.read hI))
          obtain ⟨x0d, x0c, rfl, -, -⟩ := hI
          have HBWn := Lib.hid (HBW.out.trans (hb.mono hwz))
          try simp only [List.getElem_toArray, List.getElem_cons_zero, List.getElem_cons_succ, Act.put, List.setIfInBounds_toArray, List.set_cons_zero, List.set_cons_succ]
          clear hS HBW hb hvz hwz 
          have HALL := And.intro hSn (And.intro HBWn HQ0n)
          clear hSn HBWn HQ0n
          revert HALL
          revert x0c
          revert x0d
          revert v9
          exact kh1
        intro v x0d x0c HALL
        obtain ⟨hS, HBW, HQ0⟩ := HALL
        refine wpAnyH_ready (rs := [3]) (by kernel_rfl) (by simp) ?_
        refine AllReadyH.cons rfl (fun K hK => ?_) AllReadyH.nil
        · skip
          go_simp
          refine (toTranslator _ o1 t1 _ (HU1.out.below (HB_20.out.trans (HBW.out.mono HB_20.out.size))) HSM1.out.1).mono ?_
          rintro e v9 ⟨y9, rfl, hI, hb⟩
          have hwz := HBW.out.size
          have hvz := hb.size
          refine hK.out _ _ (hS.step (hb.mono hwz) hWA) (fun hSn => ?_)
          clear hK K
          have HQ0n := Lib.hid (HQ0.out.below hb)
          have HQ1n := Lib.hid ((Ints.read hI))
          obtain ⟨x1d, x1c, rfl, -, -⟩ := hI
          have HBWn := Lib.hid (HBW.out.trans (hb.mono hwz))
          try simp only [List.getElem_toArray, List.getElem_cons_zero, List.getElem_cons_succ, Act.put, List.setIfInBounds_toArray, List.set_cons_zero, List.set_cons_succ]
          clear hS HBW HQ0 hb hvz hwz 
          have HALL := And.intro hSn (And.intro HBWn (And.intro HQ0n HQ1n))
          clear hSn HBWn HQ0n HQ1n
          revert HALL
          revert x1c
          revert x1d
          revert x0c
          revert x0d
          revert v9
          exact kh2
        intro v x0d x0c x1d x1c HALL
        obtain ⟨hS, HBW, HQ0, HQ1⟩ := HALL
        refine wpAnyH_ready (rs := [4]) (by kernel_rfl) (by simp) ?_
        refine AllReadyH.cons rfl (fun K hK => ?_) AllReadyH.nil
        · skip
          go_simp
          refine ((impl_undoAll _ _ l0 o1 t1 _ HQ0.out HQ1.out HSM0.out (HE.out.below (HB_20.out.trans (HBW.out.mono HB_20.out.size)) HE.out.size)).mono (una_of HR.out (Nat.le_trans HLEN.out (by decide)))).mono ?_
          rintro e v9 ⟨h0d, h0c, rfl, hrow0, hb⟩
          have hwz := HBW.out.size
          have hvz := hb.size
          refine hK.out _ _ (hS.step (hb.mono hwz) hWA) (fun hSn => ?_)
          clear hK K
          obtain ⟨lo, hi, hlo1, hhi1, hres0⟩ : ∃ lo hi : Nat, (w18.heap.size ≤ lo) ∧ (hi ≤ v9.heap.size) ∧ Flds v9 (BetO lo hi (.slice h0d es.length h0c)) (.slice h0d es.length h0c) es := ⟨v.heap.size, v9.heap.size, hwz, Nat.le_refl _, hrow0⟩
          have HLOn := Lib.hid (And.intro hlo1 hhi1)
          have HRES0n := Lib.hid hres0
          clear hlo1 hhi1 hres0 hrow0 
          have HBWn := Lib.hid (HBW.out.trans (hb.mono hwz))
          try simp only [List.getElem_toArray, List.getElem_cons_zero, List.getElem_cons_succ, Act.put, List.setIfInBounds_toArray, List.set_cons_zero, List.set_cons_succ]
          refine wpAnyH_take (i := 5) (v := .tuple #[.slice h0d es.length h0c, .bool ok]) rfl (by kernel_rfl) (by kernel_rfl) (by kernel_rfl) (fun _ _ _ h => h) (Or.inl ⟨by rfl, fun z hz => ?_⟩) hSn ?_
          · obtain ⟨z0q, z1q, z2q⟩ := hz
            go_simp
          try simp only [List.getElem_toArray, List.getElem_cons_zero, List.getElem_cons_succ, Act.put, List.setIfInBounds_toArray, List.set_cons_zero, List.set_cons_succ]
          refine wpAnyH_take (i := 6) (v := .slice h0d es.length h0c) rfl (by kernel_rfl) (by kernel_rfl) (by kernel_rfl) (fun _ _ _ h => h) (Or.inl ⟨by rfl, fun z hz => ?_⟩) hSn ?_
          · obtain ⟨z0q, z1q, z2q⟩ := hz
            go_simp
          try simp only [List.getElem_toArray, List.getElem_cons_zero, List.getElem_cons_succ, Act.put, List.setIfInBounds_toArray, List.set_cons_zero, List.set_cons_succ]
          refine wpAnyH_take (i := 7) (v := .bool ok) rfl (by kernel_rfl) (by kernel_rfl) (by kernel_rfl) (fun _ _ _ h => h) (Or.inl ⟨by rfl, fun z hz => ?_⟩) hSn ?_
          · obtain ⟨z0q, z1q, z2q⟩ := hz
            go_simp
          try simp only [List.getElem_toArray, List.getElem_cons_zero, List.getElem_cons_succ, Act.put, List.setIfInBounds_toArray, List.set_cons_zero, List.set_cons_succ]
          clear hS HBW HQ0 HQ1 hb hvz hwz 
          have HALL := And.intro hSn (And.intro HBWn (And.intro HLOn HRES0n))
          clear hSn HBWn HLOn HRES0n
          revert HALL
          revert hi
          revert lo
          revert h0c
          revert h0d
          revert x1c
          revert x1d
          revert x0c
          revert x0d
          revert v9
          exact kh3
        intro v x0d x0c x1d x1c h0d h0c lo hi HALL
        obtain ⟨hS, HBW, HLO, HRES0⟩ := HALL
        have hlo := HLO.out.1; have hhi := HLO.out.2
        refine wpAnyH_take (i := 8) (v := .slice h0d es.length h0c) rfl (by kernel_rfl) (by kernel_rfl) (by kernel_rfl) (fun _ _ _ h => h) (Or.inl ⟨by rfl, fun z hz => ?_⟩) hS ?_
        · obtain ⟨z0q, z1q, z2q⟩ := hz
          go_simp
        try simp only [List.getElem_toArray, List.getElem_cons_zero, List.getElem_cons_succ, Act.put, List.setIfInBounds_toArray, List.set_cons_zero, List.set_cons_succ]
        refine wpAnyH_take (i := 9) (v := .bool ok) rfl (by kernel_rfl) (by kernel_rfl) (by kernel_rfl) (fun _ _ _ h => h) (Or.inl ⟨by rfl, fun z hz => ?_⟩) hS ?_
        · obtain ⟨z0q, z1q, z2q⟩ := hz
          go_simp
        try simp only [List.getElem_toArray, List.getElem_cons_zero, List.getElem_cons_succ, Act.put, List.setIfInBounds_toArray, List.set_cons_zero, List.set_cons_succ]
        refine wpAnyH_done (by kernel_rfl) ?_ _
        go_wp2_with fail
        go_meet
        exact ⟨h0d, h0c, rfl, rfl, RowO.to foldE_ok HRES0.out (Below.refl _ _) (by omega) (by omega) (Nat.le_refl _), HBW.out⟩
      case rest =>
        obtain ⟨h0d, h0c, rfl, rfl, hrow0, hb⟩ := hcut
        have zzw19 : w18.heap.size ≤ wc.heap.size := hb.size
        have HB_21 := Lib.hid (HB_20.out.trans (hb.mono HB_20.out.size))
        have A0_21 := Lib.hid (A0_20.out.below hb)
        have A1_21 := Lib.hid (A1_20.out.below hb)
        have sL0_18 := Lib.hid (sL0_17.out.below foldE_ok hb)
        have X0_16 := Lib.hid (X0_15.out.below hb)
        have X1_14 := Lib.hid (X1_13.out.below hb)
        have mL0_2 := Lib.hid (mL0_1.out.below foldE_ok hb)
        clear HB_20 A0_20 A1_20 sL0_17 X0_15 X1_13 mL0_1 hb HS
        have hL0_0 := Lib.hid (hrow0)
        clear hrow0
        clear hWA
        generalize hww : wc = w19 at *
        clear hww
        go_wp2_with fail
        refine (eqEditS _ _ es _ (Flds.read hL0_0.out) (Flds.read sL0_18.out)).mono ?_
        rintro e w20 ⟨rfl, hb⟩
        have zw20 : w19.heap.size ≤ w20.heap.size := hb.size
        have HB_22 := Lib.hid (HB_21.out.trans (hb.mono HB_21.out.size))
        have A0_22 := Lib.hid (A0_21.out.below hb)
        have A1_22 := Lib.hid (A1_21.out.below hb)
        have sL0_19 := Lib.hid (sL0_18.out.below foldE_ok hb)
        have X0_17 := Lib.hid (X0_16.out.below hb)
        have X1_15 := Lib.hid (X1_14.out.below hb)
        have mL0_3 := Lib.hid (mL0_2.out.below foldE_ok hb)
        have hL0_1 := Lib.hid (hL0_0.out.below foldE_ok hb)
        clear HB_21 A0_21 A1_21 sL0_18 X0_16 X1_14 mL0_2 hL0_0 hb
        go_wp2_with fail
        refine (heldEditS _ es.length (1 : Int) _ (Flds.read mL0_3.out) HG0.out.1 HG0.out.2.1 (by have := HLEN.out; omega)).mono ?_
        rintro e w21 ⟨rfl, hb⟩
        have zw21 : w20.heap.size ≤ w21.heap.size := hb.size
        have HB_23 := Lib.hid (HB_22.out.trans (hb.mono HB_22.out.size))
        have A0_23 := Lib.hid (A0_22.out.below hb)
        have A1_23 := Lib.hid (A1_22.out.below hb)
        have sL0_20 := Lib.hid (sL0_19.out.below foldE_ok hb)
        have X0_18 := Lib.hid (X0_17.out.below hb)
        have X1_16 := Lib.hid (X1_15.out.below hb)
        have mL0_4 := Lib.hid (mL0_3.out.below foldE_ok hb)
        have hL0_2 := Lib.hid (hL0_1.out.below foldE_ok hb)
        clear HB_22 A0_22 A1_22 sL0_19 X0_17 X1_15 mL0_3 hL0_1 hb
        have hkn0 : ¬ ((1 : Int) + 2 * (es.length : Int)) < 0 := by have := HG0.out.2.2.2; omega
        go_wp2
        go_ret
        exact ⟨rfl, HB_23.out⟩
end Go.Proofs.YtpkahblajgaemaaGreatDoor
