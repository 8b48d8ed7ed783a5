/- Walks: strokes and the check of all elements (program). Walks: the check of all strokes (program). Walks: outlines (program). Walks: an entry (program). Walks: the order of outlines (program). Walks: a dictionary (program). -/
import Derived.Deep.DeepCutAuto
import Derived.Deep.RegionLaw
import Derived.IntWalk
import Derived.Test.YtmlklnimoknojaaGreatDoorOutD
namespace Go.Proofs.YtmlklnimoknojaaGreatDoor
section
open Go Go.RowKit
set_option maxHeartbeats 1000000
set_option maxRecDepth 100000
theorem isValidStroke (n : Int) (w : World) :
    Calls Tryz.prog 96 #[.int .i64 n] w fun e w' => e = .returned (.bool (P.stroke n)) ∧ w = w' := by
  go_enter Tryz.func96, Tryz.ntmps96
  go_wp2_with fail
  refine (impl_in _ _ _ _).mono ?_
  rintro e w' ⟨rfl, rfl⟩
  go_wp2
  go_ret
  exact ⟨ret_bool (by unfold P.stroke; simp), rfl⟩
end
section
open Go Go.RowKit
set_option maxHeartbeats 1000000
set_option maxRecDepth 100000
abbrev strokeF : Value := .func (Fn.func 96) #[] #[]
abbrev notF (C : Nat) : Value := .func (Fn.func 188) #[] #[.pointer (some ⟨C, 0, none⟩)]
theorem all_step (n : Int) (C : Nat) (w : World) (hf : w.cell? ⟨C, 0, none⟩ = some strokeF) :
    Calls Tryz.prog 188 #[.int .i64 n, .pointer (some ⟨C, 0, none⟩)] w fun e w' => e = .returned (.bool (!P.stroke n)) ∧ w = w' := by
  go_enter Tryz.func188, Tryz.ntmps188
  go_wp2_with fail
  refine (isValidStroke _ _).mono ?_
  rintro e w' ⟨rfl, rfl⟩
  go_wp2
  go_ret
  exact ⟨ret_bool (by simp), rfl⟩
theorem indexFunc (u : Value) (l : List Int) (C : Nat) (w : World) (hu : IntR w u l) (hf : w.cell? ⟨C, 0, none⟩ = some strokeF) :
    Calls Tryz.prog 218 #[u, notF C] w fun e w' => (∃ n : Int, e = .returned (.int .i64 n) ∧ decide (0 ≤ n) = !(l.all P.stroke)) ∧ w = w' := by
  have HU := Lib.hid hu
  obtain ⟨ad, cap, rfl, hl, _⟩ := hu
  go_enter Tryz.func218, Tryz.ntmps218
  go_wp2
  go_loop [5, 8] (fun _ i => ∃ j : Nat, j ≤ l.length ∧ i = .int .i64 j ∧ (l.take j).all P.stroke = true) (fun _ i => l.length - (intOf i).toNat)
  case atStart => exact ⟨0, Nat.zero_le _, rfl, by simp⟩
  case round =>
    obtain ⟨j, hj, rfl, ha⟩ := hrel
    have HA := Lib.hid ha; clear ha
    by_cases hlt : j < l.length
    · obtain ⟨g, o, rfl, hg, c0⟩ := HU.out.at j hlt
      have HSN := Lib.hid (take_snoc l j hlt)
      generalize l[j] = x at *
      cases hx : P.stroke x
      · have HNO := Lib.hid (show l.all P.stroke = false by
          rw [← List.take_append_drop (j + 1) l, HSN.out, List.all_append, List.all_append]
          simp [hx])
        go_wp2_with fail
        refine (all_step _ _ _ hf).mono ?_
        rintro e w' ⟨rfl, rfl⟩
        rw [hx]
        go_wp2
        go_ret
        exact ⟨⟨(j : Int), rfl, by rw [HNO.out]; simp⟩, rfl⟩
      · have HX := Lib.hid hx
        go_wp2_with fail
        refine (all_step _ _ _ hf).mono ?_
        rintro e w' ⟨rfl, rfl⟩
        rw [hx]
        go_wp2
        go_round
        case rel => exact ⟨j + 1, by omega, by go_num, by rw [HSN.out, List.all_append, HA.out]; simp [HX.out]⟩
        case measure => simp [intOf]; omega
    · have HT := Lib.hid (show l.all P.stroke = true by have := HA.out; rwa [List.take_of_length_le (by omega)] at this)
      go_wp2
      go_ret
      exact ⟨⟨-1, rfl, by rw [HT.out]; rfl⟩, rfl⟩
end
section
open Go Go.RowKit
set_option maxHeartbeats 1000000
set_option maxRecDepth 100000
theorem containsFunc (u : Value) (l : List Int) (C : Nat) (w : World) (hu : IntR w u l) (hf : w.cell? ⟨C, 0, none⟩ = some strokeF) :
    Calls Tryz.prog 187 #[u, notF C] w fun e w' => e = .returned (.bool (!(l.all P.stroke))) ∧ w = w' := by
  have HU := Lib.hid hu
  obtain ⟨ad, cap, rfl, hl, _⟩ := hu
  go_enter Tryz.func187, Tryz.ntmps187
  go_wp2_with fail
  refine (indexFunc _ l _ _ HU.out hf).mono ?_
  rintro e w' ⟨⟨n, rfl, hn⟩, rfl⟩
  have HN := Lib.hid hn; clear hn
  go_wp2
  go_ret
  exact ⟨ret_bool HN.out, rfl⟩
theorem allStrokes (u : Value) (l : List Int) (w : World) (hu : IntR w u l) :
    Calls Tryz.prog 155 #[u, strokeF] w fun e w' => e = .returned (.bool (l.all P.stroke)) ∧ Below w.heap.size w w' := by
  have HU := Lib.hid (hu.below ((Below.refl _ _).alloc (Nat.le_refl _) (.cells #[strokeF] 96)))
  obtain ⟨ad, cap, rfl, hl, _⟩ := hu
  go_enter Tryz.func155, Tryz.ntmps155
  go_wp2_with fail
  refine (containsFunc _ l _ _ HU.out (by go_simp)).mono ?_
  rintro e w' ⟨rfl, rfl⟩
  go_wp2
  go_ret
  exact ⟨ret_bool (by simp), (Below.refl _ _).alloc (Nat.le_refl _) _⟩
theorem isValidOutline (u : Value) (l : List Int) (w : World) (hu : IntR w u l) :
    Calls Tryz.prog 93 #[u] w fun e w' => e = .returned (.bool (P.outline l)) ∧ Below w.heap.size w w' := by
  have HU := Lib.hid hu
  obtain ⟨ad, cap, rfl, hl, _⟩ := hu
  cases h1 : decide (1 ≤ (l.length : Int) ∧ (l.length : Int) ≤ 6)
  · have HF := Lib.hid (show P.outline l = false by unfold P.outline; rw [h1]; rfl)
    go_enter Tryz.func93, Tryz.ntmps93
    go_wp2_with (go_at_call 125; refine (impl_in _ _ _ _).mono ?_; rintro e w' ⟨rfl, rfl⟩)
    go_ret
    exact ⟨ret_bool HF.out.symm, Below.refl _ _⟩
  · have HF := Lib.hid (show P.outline l = l.all P.stroke by unfold P.outline; rw [h1]; rfl)
    go_enter Tryz.func93, Tryz.ntmps93
    go_wp2_with (go_at_call 125; refine (impl_in _ _ _ _).mono ?_; rintro e w' ⟨rfl, rfl⟩)
    refine (allStrokes _ l _ HU.out).mono ?_
    rintro e w1 ⟨rfl, hb⟩
    have HB := Lib.hid hb; clear hb
    go_wp2
    go_ret
    exact ⟨ret_bool HF.out.symm, HB.out⟩
end
section
open Go Go.RowKit
set_option maxHeartbeats 1000000
set_option maxRecDepth 100000
theorem isTranslation (t : Str) (w : World) (ht : t.length ≤ 2 ^ 30) (hE : Env w) :
    Calls Tryz.prog 174 #[.string (S t)] w fun e w' => e = .returned (.bool (P.transS t).2) ∧ Below w.heap.size w w' := by
  go_enter Tryz.func174, Tryz.ntmps174
  go_wp2_with fail
  refine (impl_parseTranslation _ _ ht hE).mono ?_
  rintro e w1 ⟨v, rfl, _, hb⟩
  have HB := Lib.hid hb; clear hb
  generalize hok : (P.transS t).2 = ok at *
  have HK := Lib.hid hok; clear hok
  go_wp2
  go_ret
  exact ⟨ret_bool HK.out.symm, HB.out⟩
theorem isValidEntry (u : Value) (l : List Int) (t : Str) (w : World) (hu : IntR w u l) (ht : t.length ≤ 2 ^ 30) (hE : Env w) :
    Calls Tryz.prog 120 #[.agg #[u, .string (S t)]] w fun e w' => e = .returned (.bool (P.entry (l, t))) ∧ Below w.heap.size w w' := by
  have HU := Lib.hid (hu.below ((Below.refl _ _).alloc (Nat.le_refl _) (.cells #[u, .string (S t)] 47)))
  obtain ⟨ad, cap, rfl, _, _⟩ := hu
  have HE := Lib.hid hE; clear hE
  have HF := Lib.hid (show P.entry (l, t) = (P.outline l && (P.transS t).2) from rfl)
  go_enter Tryz.func120, Tryz.ntmps120
  go_wp2_with fail
  refine (isValidOutline _ l _ HU.out).mono ?_
  rintro e w1 ⟨rfl, hb⟩
  obtain ⟨hcc, _⟩ := bcell hb
  have hz := grew0 hb
  have c1 : w1.cell? ⟨w.heap.size, 1, none⟩ = some (.string (S t)) := by rw [hcc _ _ (by simp)]; go_simp
  have HE1 := Lib.hid ((HE.out.alloc (.cells #[.slice ad l.length cap, .string (S t)] 47)).below hb (HE.out.alloc _).size)
  have HB := Lib.hid (((Below.refl w.heap.size w).alloc (Nat.le_refl _) (.cells #[.slice ad l.length cap, .string (S t)] 47)).trans (hb.mono (by simp)))
  clear hb hcc HU
  generalize P.outline l = o at *
  cases o
  · go_wp2
    go_ret
    exact ⟨ret_bool (by rw [HF.out]; rfl), HB.out⟩
  · go_wp2_with fail
    refine (isTranslation _ _ ht HE1.out).mono ?_
    rintro e w2 ⟨rfl, hb⟩
    have HB2 := Lib.hid (HB.out.trans (hb.mono HB.out.size)); clear hb
    go_wp2
    go_ret
    exact ⟨ret_bool (by rw [HF.out]; rfl), HB2.out⟩
end
section
open Go Go.RowKit
set_option maxHeartbeats 1000000
set_option maxRecDepth 100000
theorem cmpInt (x y : Int) (w : World) :
    Calls Tryz.prog 175 #[.int .i64 x, .int .i64 y] w fun e w' => e = .returned (.int .i64 (if x < y then -1 else if y < x then 1 else 0)) ∧ w = w' := by
  refine (Tryz.cmp_Compare_int x y w).mono ?_
  rintro e w' ⟨rfl, rfl⟩
  refine ⟨ret_int ?_, rfl⟩
  unfold Lib.compareInt
  rcases Int.lt_trichotomy x y with h | h | h
  · simp [h]
  · subst h; simp
  · have h' : ¬ x < y := by omega
    simp [h, h']
theorem slicesCompare (u v : Value) (a b : List Int) (w : World) (hu : IntR w u a) (hv : IntR w v b) :
    Calls Tryz.prog 121 #[u, v] w fun e w' => e = .returned (.int .i64 (P.cmp a b)) ∧ w = w' := by
  have HU := Lib.hid hu; have HV := Lib.hid hv
  obtain ⟨ad, cap, rfl, hla, _⟩ := hu
  obtain ⟨bd, dap, rfl, hlb, _⟩ := hv
  go_enter Tryz.func121, Tryz.ntmps121
  go_wp2
  go_loop [11] (fun i => ∃ j : Nat, j ≤ a.length ∧ j ≤ b.length ∧ i = .int .i64 j ∧ P.cmp a b = P.cmp (a.drop j) (b.drop j)) (fun i => a.length - (intOf i).toNat)
  case atStart => exact ⟨0, Nat.zero_le _, Nat.zero_le _, rfl, rfl⟩
  case round =>
    obtain ⟨j, hja, hjb, rfl, hc⟩ := hrel
    have HC := Lib.hid hc; clear hc
    by_cases h1 : j < a.length
    · obtain ⟨g, o, hga, hgl, c0⟩ := HU.out.at j h1
      by_cases h2 : j < b.length
      · obtain ⟨g', o', hgb, hgl', d0⟩ := HV.out.at j h2
        have HST := Lib.hid (P.cmp_step h1 h2)
        subst hga hgb
        generalize a[j] = x at *
        generalize b[j] = y at *
        have i2 : ¬ (b.length : Int) ≤ (j : Int) := by omega
        rcases Int.lt_trichotomy x y with h | h | h
        · have HF := Lib.hid (show P.cmp a b = -1 by rw [HC.out, HST.out, if_pos h])
          go_wp2_with (go_at_call 175; refine (cmpInt _ _ _).mono ?_; rintro e w' ⟨rfl, rfl⟩; rw [if_pos h])
          go_ret
          exact ⟨(by first | (rw [HF.out]; done) | (rw [HF.out]; rfl)), rfl⟩
        · have n1 : ¬ x < y := by omega
          have n2 : ¬ y < x := by omega
          have HN := Lib.hid (show P.cmp a b = P.cmp (a.drop (j + 1)) (b.drop (j + 1)) by rw [HC.out, HST.out, if_neg n1, if_neg n2])
          clear h
          go_wp2_with (go_at_call 175; refine (cmpInt _ _ _).mono ?_; rintro e w' ⟨rfl, rfl⟩; rw [if_neg n1, if_neg n2])
          go_round
          case rel => exact ⟨j + 1, by omega, by omega, by go_num, HN.out⟩
          case measure => simp [intOf]; omega
        · have n1 : ¬ x < y := by omega
          have HF := Lib.hid (show P.cmp a b = 1 by rw [HC.out, HST.out, if_neg n1, if_pos h])
          go_wp2_with (go_at_call 175; refine (cmpInt _ _ _).mono ?_; rintro e w' ⟨rfl, rfl⟩; rw [if_neg n1, if_pos h])
          go_ret
          exact ⟨(by first | (rw [HF.out]; done) | (rw [HF.out]; rfl)), rfl⟩
      · have HF := Lib.hid (show P.cmp a b = 1 by
          rw [HC.out, List.drop_eq_getElem_cons h1, List.drop_of_length_le (l := b) (by omega)]; rfl)
        have i2 : (b.length : Int) ≤ (j : Int) := by omega
        subst hga
        go_wp2
        go_ret
        exact ⟨(by first | (rw [HF.out]; done) | (rw [HF.out]; rfl)), rfl⟩
    · have k0 : ¬ (j : Int) < (a.length : Int) := by omega
      by_cases h2 : j < b.length
      · have HF := Lib.hid (show P.cmp a b = -1 by
          rw [HC.out, List.drop_eq_getElem_cons h2, List.drop_of_length_le (l := a) (by omega)]; rfl)
        have k2 : (a.length : Int) < (b.length : Int) := by omega
        go_wp2
        go_ret
        exact ⟨(by first | (rw [HF.out]; done) | (rw [HF.out]; rfl)), rfl⟩
      · have HF := Lib.hid (show P.cmp a b = 0 by
          rw [HC.out, List.drop_of_length_le (l := a) (by omega), List.drop_of_length_le (l := b) (by omega)]; rfl)
        have k2 : ¬ (a.length : Int) < (b.length : Int) := by omega
        go_wp2
        go_ret
        exact ⟨(by first | (rw [HF.out]; done) | (rw [HF.out]; rfl)), rfl⟩
end
section
open Go Go.RowKit
set_option maxHeartbeats 2000000
set_option maxRecDepth 100000
def K8 (w : World) (u : Value) (l : P.Dic) (c : Nat) (x : Value) (eo : List Int) (et : Str) (v : World) : Prop :=
  v.cell? ⟨w.heap.size, 0, none⟩ = some u ∧ v.cell? ⟨c, 0, none⟩ = some x ∧ v.cell? ⟨c, 1, none⟩ = some (.string (S et)) ∧ c < v.heap.size ∧ IntR v x eo ∧ Env v ∧ KD w u l v
theorem K8.step {w v v' : World} {u : Value} {l : P.Dic} {c : Nat} {x : Value} {eo : List Int} {et : Str} (h : K8 w u l c x eo et v) (hb : Below v.heap.size v v') : K8 w u l c x eo et v' := by
  obtain ⟨h1, h2, h3, h4, h5, h6, h7⟩ := h
  exact ⟨(h7.step hb).1, (hb.cell (p := ⟨c, 0, none⟩) h4).trans h2, (hb.cell (p := ⟨c, 1, none⟩) h4).trans h3, Nat.lt_of_lt_of_le h4 hb.size, h5.below hb, h6.below hb h6.size, h7.step hb⟩
def K9 (w : World) (u : Value) (l : P.Dic) (c : Nat) (x : Value) (eo : List Int) (et : Str) (g q : Nat) (y : Value) (po : List Int) (v : World) : Prop :=
  v.cell? ⟨w.heap.size, 0, none⟩ = some u ∧ v.cell? ⟨c, 0, none⟩ = some x ∧ v.cell? ⟨c, 1, none⟩ = some (.string (S et)) ∧ v.cell? ⟨g, q, none⟩ = some y ∧ g < v.heap.size ∧ IntR v y po ∧ K8 w u l c x eo et v
theorem K9.step {w v v' : World} {u : Value} {l : P.Dic} {c : Nat} {x : Value} {eo : List Int} {et : Str} {g q : Nat} {y : Value} {po : List Int} (h : K9 w u l c x eo et g q y po v) (hb : Below v.heap.size v v') : K9 w u l c x eo et g q y po v' := by
  obtain ⟨h1, h2, h3, h4, h5, h6, h7⟩ := h
  exact ⟨(h7.step hb).1, (h7.step hb).2.1, (h7.step hb).2.2.1, (hb.cell (p := ⟨g, q, none⟩) h5).trans h4, Nat.lt_of_lt_of_le h5 hb.size, h6.below hb, h7.step hb⟩
theorem isValidDictionary (u : Value) (l : P.Dic) (w : World) (hu : EntR w u l) (ht : ∀ e ∈ l, e.2.length ≤ 2 ^ 30) (hE : Env w) :
    Calls Tryz.prog 54 #[.agg #[u]] w fun e w' => e = .returned (.bool (P.dic l)) ∧ Below w.heap.size w w' := by
  have K0 : KD w u l (w.alloc (.cells #[u] 26)) := ⟨by go_simp, by simp, hu.below ((Below.refl _ _).alloc (Nat.le_refl _) _), (Below.refl _ _).alloc (Nat.le_refl _) _⟩
  have HT := Lib.hid ht; clear ht
  have HE0 := Lib.hid (hE.alloc (.cells #[u] 26)); clear hE
  obtain ⟨ad, cap, rfl, hl, _⟩ := hu
  go_enter Tryz.func54, Tryz.ntmps54
  go_wp2_with fail
  go_loopw [8] (fun i wr => ∃ j : Nat, j ≤ l.length ∧ i = .int .i64 j ∧ (l.take j).all P.entry = true ∧ P.rising (l.take j) = true ∧ KD w (.slice ad l.length cap) l wr ∧ Env wr) (fun i _ => l.length - (intOf i).toNat)
  case atStart => exact ⟨0, Nat.zero_le _, rfl, by simp, rfl, K0, HE0.out⟩
  case round =>
    obtain ⟨j, hj, rfl, ha, hr, K1, hE⟩ := hrel
    clear K0 HE0
    have HA := Lib.hid ha; have HR := Lib.hid hr
    clear ha hr
    have HK := Lib.hid K1
    obtain ⟨d0, dz, hent, hbel⟩ := K1
    by_cases hlt : j < l.length
    · obtain ⟨g, o, rfl, hg, x, c0, c1, hx⟩ := hent.at j hlt
      have htl := HT.out _ (List.getElem_mem hlt)
      have HSN := Lib.hid (take_snoc l j hlt)
      have i1 : (j : Int) < (l.length : Int) := by omega
      have HS0 := Lib.hid (show ∀ t : TypeId, K8 w (.slice (some ⟨g, o, none⟩) l.length cap) l wr.heap.size x l[j].1 l[j].2 (wr.alloc (.cells #[x, .string (S l[j].2)] t)) from fun t =>
        have hbb : Below wr.heap.size wr (wr.alloc (.cells #[x, .string (S l[j].2)] t)) := (Below.refl _ _).alloc (Nat.le_refl _) _
        ⟨(HK.out.step hbb).1, by go_simp, by go_simp, by simp, hx.below hbb, hE.alloc _, HK.out.step hbb⟩)
      have HS := Lib.hid (show K8 w (.slice (some ⟨g, o, none⟩) l.length cap) l wr.heap.size x l[j].1 l[j].2 (wr.alloc (.cells #[x, .string (S l[j].2)] 47)).drew from (HS0.out _).step (Below.refl _ _).drew)
      have HBX := Lib.hid ((Below.refl wr.heap.size wr).alloc (Nat.le_refl _) (.cells #[x, .string (S l[j].2)] 47))
      obtain ⟨xd, xc, rfl, hxl, _⟩ := id hx
      cases hok : P.entry l[j]
      · have HNO := Lib.hid (show l.all P.entry = false by
          rw [← List.take_append_drop (j + 1) l, HSN.out, List.all_append, List.all_append]
          simp [hok])
        have HND := Lib.hid (show P.dic l = false by unfold P.dic; rw [HNO.out]; simp)
        clear hent hbel hx hE HS0 HBX
        generalize l[j] = en at *
        obtain ⟨eo, et⟩ := en
        simp only at c1 htl HS
        go_upto_region 4 with fail
        refine wp_region_held_drew (S := K8 w (.slice (some ⟨g, o, none⟩) l.length cap) l wr.heap.size (.slice xd eo.length xc) eo et) (by kernel_rfl) HS.out (fun hS0 => ?_)
        refine wpAnyH_take (i := 0) (v := .agg #[(.slice xd eo.length xc), .string (S et)]) rfl (by kernel_rfl) (by kernel_rfl) (by kernel_rfl) (fun _ _ _ h => h) (Or.inl ⟨by rfl, fun z hz => ?_⟩) hS0 ?_
        · obtain ⟨z1, z2, z3, z4, z5, z6⟩ := hz
          go_simp
        try simp only [qA, qB, Act.put, qD, qE, qF]
        refine wpAnyH_ready (rs := [1]) (by kernel_rfl) (by simp) ?_
        refine AllReadyH.cons rfl (fun K hK => ?_) AllReadyH.nil
        have HS1 := Lib.hid hS0
        have HX := Lib.hid (hS0.2.2.2.2.1)
        have HE := Lib.hid (hS0.2.2.2.2.2.1)
        go_simp
        refine (isValidEntry (.slice xd eo.length xc) eo et _ HX.out htl HE.out).mono ?_
        rintro e v ⟨rfl, hb⟩
        rw [hok]
        refine hK.out _ _ (HS1.out.step hb) (fun hS1 => ?_)
        clear hK K hb
        try simp only [qA, qB, qC, Act.put, qD, qE, qF]
        refine wpAnyH_take (i := 2) (v := .bool true) rfl (by kernel_rfl) (by kernel_rfl) (by kernel_rfl) (fun _ _ _ h => h) (Or.inl ⟨by rfl, fun z hz => ?_⟩) hS1 ?_
        · obtain ⟨z1, z2, z3, z4, z5, z6⟩ := hz
          go_simp
        try simp only [qA, qB, qC, Act.put, qD, qE, qF]
        refine wpAnyH_take (i := 3) (v := .bool true) rfl (by kernel_rfl) (by kernel_rfl) (by kernel_rfl) (fun _ _ _ h => h) (Or.inl ⟨by rfl, fun z hz => ?_⟩) hS1 ?_
        · obtain ⟨z1, z2, z3, z4, z5, z6⟩ := hz
          go_simp
        try simp only [qA, qB, qC, Act.put, qD, qE, qF]
        refine wpAnyH_take (i := 4) rfl (by kernel_rfl) (by kernel_rfl) (by kernel_rfl) (fun _ _ _ h => h) (Or.inr ⟨by rfl, rfl⟩) hS1 ?_
        try simp only [qA, qB, qC, Act.put, qD, qE, qF]
        refine wpAnyH_take (i := 5) rfl (by kernel_rfl) (by kernel_rfl) (by kernel_rfl) (fun _ _ _ h => h) (Or.inr ⟨by rfl, rfl⟩) hS1 ?_
        try simp only [qA, qB, qC, Act.put, qD, qE, qF]
        refine wpAnyH_take (i := 6) rfl (by kernel_rfl) (by kernel_rfl) (by kernel_rfl) (fun _ _ _ h => h) (Or.inr ⟨by rfl, rfl⟩) hS1 ?_
        try simp only [qA, qB, qC, Act.put, qD, qE, qF]
        refine wpAnyH_take (i := 7) rfl (by kernel_rfl) (by kernel_rfl) (by kernel_rfl) (fun _ _ _ h => h) (Or.inr ⟨by rfl, rfl⟩) hS1 ?_
        try simp only [qA, qB, qC, Act.put, qD, qE, qF]
        refine wpAnyH_take (i := 8) rfl (by kernel_rfl) (by kernel_rfl) (by kernel_rfl) (fun _ _ _ h => h) (Or.inr ⟨by rfl, rfl⟩) hS1 ?_
        try simp only [qA, qB, qC, Act.put, qD, qE, qF]
        refine wpAnyH_take (i := 9) rfl (by kernel_rfl) (by kernel_rfl) (by kernel_rfl) (fun _ _ _ h => h) (Or.inr ⟨by rfl, rfl⟩) hS1 ?_
        try simp only [qA, qB, qC, Act.put, qD, qE, qF]
        refine wpAnyH_take (i := 10) rfl (by kernel_rfl) (by kernel_rfl) (by kernel_rfl) (fun _ _ _ h => h) (Or.inr ⟨by rfl, rfl⟩) hS1 ?_
        try simp only [qA, qB, qC, Act.put, qD, qE, qF]
        refine wpAnyH_take (i := 11) rfl (by kernel_rfl) (by kernel_rfl) (by kernel_rfl) (fun _ _ _ h => h) (Or.inr ⟨by rfl, rfl⟩) hS1 ?_
        try simp only [qA, qB, qC, Act.put, qD, qE, qF]
        refine wpAnyH_take (i := 12) rfl (by kernel_rfl) (by kernel_rfl) (by kernel_rfl) (fun _ _ _ h => h) (Or.inr ⟨by rfl, rfl⟩) hS1 ?_
        try simp only [qA, qB, qC, Act.put, qD, qE, qF]
        refine wpAnyH_take (i := 13) rfl (by kernel_rfl) (by kernel_rfl) (by kernel_rfl) (fun _ _ _ h => h) (Or.inr ⟨by rfl, rfl⟩) hS1 ?_
        try simp only [qA, qB, qC, Act.put, qD, qE, qF]
        refine wpAnyH_take (i := 14) rfl (by kernel_rfl) (by kernel_rfl) (by kernel_rfl) (fun _ _ _ h => h) (Or.inr ⟨by rfl, rfl⟩) hS1 ?_
        try simp only [qA, qB, qC, Act.put, qD, qE, qF]
        refine wpAnyH_take (i := 15) rfl (by kernel_rfl) (by kernel_rfl) (by kernel_rfl) (fun _ _ _ h => h) (Or.inr ⟨by rfl, rfl⟩) hS1 ?_
        try simp only [qA, qB, qC, Act.put, qD, qE, qF]
        refine wpAnyH_take (i := 16) rfl (by kernel_rfl) (by kernel_rfl) (by kernel_rfl) (fun _ _ _ h => h) (Or.inr ⟨by rfl, rfl⟩) hS1 ?_
        try simp only [qA, qB, qC, Act.put, qD, qE, qF]
        refine wpAnyH_take (i := 17) rfl (by kernel_rfl) (by kernel_rfl) (by kernel_rfl) (fun _ _ _ h => h) (Or.inr ⟨by rfl, rfl⟩) hS1 ?_
        try simp only [qA, qB, qC, Act.put, qD, qE, qF]
        refine wpAnyH_take (i := 18) rfl (by kernel_rfl) (by kernel_rfl) (by kernel_rfl) (fun _ _ _ h => h) (Or.inr ⟨by rfl, rfl⟩) hS1 ?_
        try simp only [qA, qB, qC, Act.put, qD, qE, qF]
        refine wpAnyH_take (i := 19) (v := .bool true) rfl (by kernel_rfl) (by kernel_rfl) (by kernel_rfl) (fun _ _ _ h => h) (Or.inl ⟨by rfl, fun z hz => ?_⟩) hS1 ?_
        · obtain ⟨z1, z2, z3, z4, z5, z6⟩ := hz
          go_simp
        try simp only [qA, qB, qC, Act.put, qD, qE, qF]
        refine wpAnyH_done (by kernel_rfl) ?_ _
        have HB := Lib.hid (hS1.2.2.2.2.2.2.2.2.2)
        clear hS0 hS1 HS1
        go_wp2
        go_ret
        exact ⟨ret_bool (by rw [HND.out]), HB.out⟩
      · have HALL2 := Lib.hid (show (l.take (j + 1)).all P.entry = true by rw [HSN.out, List.all_append, HA.out]; simp [hok])
        by_cases hj0 : j = 0
        · have HR2 := Lib.hid (show P.rising (l.take (j + 1)) = true by rw [HSN.out]; subst hj0; rfl)
          subst hj0
          clear hent hbel hx hE HS0 HBX
          generalize l[0] = en at *
          obtain ⟨eo, et⟩ := en
          simp only [Nat.zero_mul, Nat.add_zero] at c0 c1 htl HS
          go_upto_region 4 with fail
          refine wp_region_held_drew (S := K8 w (.slice (some ⟨g, o, none⟩) l.length cap) l wr.heap.size (.slice xd eo.length xc) eo et) (by kernel_rfl) HS.out (fun hS0 => ?_)
          refine wpAnyH_take (i := 0) (v := .agg #[(.slice xd eo.length xc), .string (S et)]) rfl (by kernel_rfl) (by kernel_rfl) (by kernel_rfl) (fun _ _ _ h => h) (Or.inl ⟨by rfl, fun z hz => ?_⟩) hS0 ?_
          · obtain ⟨z1, z2, z3, z4, z5, z6⟩ := hz
            go_simp
          try simp only [qA, qB, Act.put, qD, qE, qF]
          refine wpAnyH_ready (rs := [1]) (by kernel_rfl) (by simp) ?_
          refine AllReadyH.cons rfl (fun K hK => ?_) AllReadyH.nil
          have HS1 := Lib.hid hS0
          have HX := Lib.hid (hS0.2.2.2.2.1)
          have HE := Lib.hid (hS0.2.2.2.2.2.1)
          go_simp
          refine (isValidEntry (.slice xd eo.length xc) eo et _ HX.out htl HE.out).mono ?_
          rintro e v ⟨rfl, hb⟩
          rw [hok]
          refine hK.out _ _ (HS1.out.step hb) (fun hS1 => ?_)
          clear hK K hb
          try simp only [qA, qB, qC, Act.put, qD, qE, qF]
          refine wpAnyH_take (i := 2) (v := .bool false) rfl (by kernel_rfl) (by kernel_rfl) (by kernel_rfl) (fun _ _ _ h => h) (Or.inl ⟨by rfl, fun z hz => ?_⟩) hS1 ?_
          · obtain ⟨z1, z2, z3, z4, z5, z6⟩ := hz
            go_simp
          try simp only [qA, qB, qC, Act.put, qD, qE, qF]
          refine wpAnyH_take (i := 3) (v := .bool false) rfl (by kernel_rfl) (by kernel_rfl) (by kernel_rfl) (fun _ _ _ h => h) (Or.inl ⟨by rfl, fun z hz => ?_⟩) hS1 ?_
          · obtain ⟨z1, z2, z3, z4, z5, z6⟩ := hz
            go_simp
          try simp only [qA, qB, qC, Act.put, qD, qE, qF]
          refine wpAnyH_take (i := 4) (v := .int .i64 0) rfl (by kernel_rfl) (by kernel_rfl) (by kernel_rfl) (fun _ _ _ h => h) (Or.inl ⟨by rfl, fun z hz => ?_⟩) hS1 ?_
          · obtain ⟨z1, z2, z3, z4, z5, z6⟩ := hz
            go_simp
          try simp only [qA, qB, qC, Act.put, qD, qE, qF]
          refine wpAnyH_take (i := 5) (v := .bool false) rfl (by kernel_rfl) (by kernel_rfl) (by kernel_rfl) (fun _ _ _ h => h) (Or.inl ⟨by rfl, fun z hz => ?_⟩) hS1 ?_
          · obtain ⟨z1, z2, z3, z4, z5, z6⟩ := hz
            go_simp
          try simp only [qA, qB, qC, Act.put, qD, qE, qF]
          refine wpAnyH_take (i := 6) (v := .bool false) rfl (by kernel_rfl) (by kernel_rfl) (by kernel_rfl) (fun _ _ _ h => h) (Or.inl ⟨by rfl, fun z hz => ?_⟩) hS1 ?_
          · obtain ⟨z1, z2, z3, z4, z5, z6⟩ := hz
            go_simp
          try simp only [qA, qB, qC, Act.put, qD, qE, qF]
          refine wpAnyH_take (i := 7) rfl (by kernel_rfl) (by kernel_rfl) (by kernel_rfl) (fun _ _ _ h => h) (Or.inr ⟨by rfl, rfl⟩) hS1 ?_
          try simp only [qA, qB, qC, Act.put, qD, qE, qF]
          refine wpAnyH_take (i := 8) rfl (by kernel_rfl) (by kernel_rfl) (by kernel_rfl) (fun _ _ _ h => h) (Or.inr ⟨by rfl, rfl⟩) hS1 ?_
          try simp only [qA, qB, qC, Act.put, qD, qE, qF]
          refine wpAnyH_take (i := 9) rfl (by kernel_rfl) (by kernel_rfl) (by kernel_rfl) (fun _ _ _ h => h) (Or.inr ⟨by rfl, rfl⟩) hS1 ?_
          try simp only [qA, qB, qC, Act.put, qD, qE, qF]
          refine wpAnyH_take (i := 10) rfl (by kernel_rfl) (by kernel_rfl) (by kernel_rfl) (fun _ _ _ h => h) (Or.inr ⟨by rfl, rfl⟩) hS1 ?_
          try simp only [qA, qB, qC, Act.put, qD, qE, qF]
          refine wpAnyH_take (i := 11) rfl (by kernel_rfl) (by kernel_rfl) (by kernel_rfl) (fun _ _ _ h => h) (Or.inr ⟨by rfl, rfl⟩) hS1 ?_
          try simp only [qA, qB, qC, Act.put, qD, qE, qF]
          refine wpAnyH_take (i := 12) rfl (by kernel_rfl) (by kernel_rfl) (by kernel_rfl) (fun _ _ _ h => h) (Or.inr ⟨by rfl, rfl⟩) hS1 ?_
          try simp only [qA, qB, qC, Act.put, qD, qE, qF]
          refine wpAnyH_take (i := 13) rfl (by kernel_rfl) (by kernel_rfl) (by kernel_rfl) (fun _ _ _ h => h) (Or.inr ⟨by rfl, rfl⟩) hS1 ?_
          try simp only [qA, qB, qC, Act.put, qD, qE, qF]
          refine wpAnyH_take (i := 14) rfl (by kernel_rfl) (by kernel_rfl) (by kernel_rfl) (fun _ _ _ h => h) (Or.inr ⟨by rfl, rfl⟩) hS1 ?_
          try simp only [qA, qB, qC, Act.put, qD, qE, qF]
          refine wpAnyH_take (i := 15) rfl (by kernel_rfl) (by kernel_rfl) (by kernel_rfl) (fun _ _ _ h => h) (Or.inr ⟨by rfl, rfl⟩) hS1 ?_
          try simp only [qA, qB, qC, Act.put, qD, qE, qF]
          refine wpAnyH_take (i := 16) rfl (by kernel_rfl) (by kernel_rfl) (by kernel_rfl) (fun _ _ _ h => h) (Or.inr ⟨by rfl, rfl⟩) hS1 ?_
          try simp only [qA, qB, qC, Act.put, qD, qE, qF]
          refine wpAnyH_take (i := 17) rfl (by kernel_rfl) (by kernel_rfl) (by kernel_rfl) (fun _ _ _ h => h) (Or.inr ⟨by rfl, rfl⟩) hS1 ?_
          try simp only [qA, qB, qC, Act.put, qD, qE, qF]
          refine wpAnyH_take (i := 18) (v := .bool false) rfl (by kernel_rfl) (by kernel_rfl) (by kernel_rfl) (fun _ _ _ h => h) (Or.inl ⟨by rfl, fun z hz => ?_⟩) hS1 ?_
          · obtain ⟨z1, z2, z3, z4, z5, z6⟩ := hz
            go_simp
          try simp only [qA, qB, qC, Act.put, qD, qE, qF]
          refine wpAnyH_take (i := 19) (v := .bool false) rfl (by kernel_rfl) (by kernel_rfl) (by kernel_rfl) (fun _ _ _ h => h) (Or.inl ⟨by rfl, fun z hz => ?_⟩) hS1 ?_
          · obtain ⟨z1, z2, z3, z4, z5, z6⟩ := hz
            go_simp
          try simp only [qA, qB, qC, Act.put, qD, qE, qF]
          refine wpAnyH_done (by kernel_rfl) ?_ _
          have HK2 := Lib.hid (hS1.2.2.2.2.2)
          clear hS0 hS1 HS1
          go_wp2
          go_roundw
          case rel => exact ⟨0 + 1, by omega, by go_num, HALL2.out, HR2.out, HK2.out.2, HK2.out.1⟩
          case measure => simp [intOf]; omega
        · obtain ⟨g', o', hgg, _, y, p0, _, hy⟩ := hent.at (j - 1) (by omega)
          injection hgg with hgg
          injection hgg with hg1 hg2 _
          subst hg1 hg2
          have HS' := Lib.hid (show K9 w (.slice (some ⟨g, o, none⟩) l.length cap) l wr.heap.size (.slice xd l[j].1.length xc) l[j].1 l[j].2 g (o + (j - 1) * 2) y (l[j - 1]'(by omega)).1 (wr.alloc (.cells #[.slice xd l[j].1.length xc, .string (S l[j].2)] 47)).drew from
            K9.step ⟨(HS0.out _).1, (HS0.out _).2.1, (HS0.out _).2.2.1, (HBX.out.cell (p := ⟨g, _, none⟩) hg).trans p0, Nat.lt_of_lt_of_le hg HBX.out.size, hy.below HBX.out, HS0.out _⟩ (Below.refl _ _).drew)
          have HCM := Lib.hid (show P.rising (l.take (j + 1)) = true ∨ ¬ P.cmp (l[j - 1]'(by omega)).1 l[j].1 < 0 from by
            by_cases hc : P.cmp (l[j - 1]'(by omega)).1 l[j].1 < 0
            · left
              have := P.rising_take (l := l) (j := j - 1) (by omega) (by rw [show j - 1 + 1 = j by omega]; exact HR.out) (by simpa [show j - 1 + 1 = j by omega] using hc)
              rwa [show j - 1 + 2 = j + 1 by omega] at this
            · exact .inr hc)
          have HCN := Lib.hid (show ¬ P.cmp (l[j - 1]'(by omega)).1 l[j].1 < 0 → P.dic l = false from by
            intro hc
            cases hr : P.rising l
            · unfold P.dic; rw [hr]; simp
            · exfalso
              have := P.rising_at hr (j := j - 1) (by omega)
              exact hc (by simpa [show j - 1 + 1 = j by omega] using this))
          have hj1 : 0 < (j : Int) := by omega
          have hj2 : 1 ≤ (j : Int) := by omega
          have hj3 : 0 < j := by omega
          have hw1 : IntKind.i64.wrap ((j : Int) - 1) = (j : Int) - 1 := IntWalk.i64_in _ (by omega)
          have hn3 : ¬ (l.length : Int) ≤ (j : Int) - 1 := by omega
          clear hent hbel hx hy HS hE HS0 HBX
          generalize (l[j - 1]'(by omega)).1 = po at *
          generalize l[j] = en at *
          obtain ⟨eo, et⟩ := en
          simp only at c1 htl HS' HCM HCN
          rcases Int.lt_or_le (P.cmp po eo) 0 with hc | hc
          · have HR2 := Lib.hid (HCM.out.resolve_right fun h => h hc)
            go_upto_region 4 with fail
            refine wp_region_held_drew (S := K9 w (.slice (some ⟨g, o, none⟩) l.length cap) l wr.heap.size (.slice xd eo.length xc) eo et g (o + (j - 1) * 2) y po) (by kernel_rfl) HS'.out (fun hS0 => ?_)
            refine wpAnyH_take (i := 0) (v := .agg #[(.slice xd eo.length xc), .string (S et)]) rfl (by kernel_rfl) (by kernel_rfl) (by kernel_rfl) (fun _ _ _ h => h) (Or.inl ⟨by rfl, fun z hz => ?_⟩) hS0 ?_
            · obtain ⟨z1, z2, z3, z4, z5, z6⟩ := hz
              go_simp
            try simp only [qA, qB, Act.put, qD, qE, qF]
            refine wpAnyH_ready (rs := [1]) (by kernel_rfl) (by simp) ?_
            refine AllReadyH.cons rfl (fun K hK => ?_) AllReadyH.nil
            have HS1 := Lib.hid hS0
            have HX := Lib.hid (hS0.2.2.2.2.2.2.2.2.2.2.1)
            have HE := Lib.hid (hS0.2.2.2.2.2.2.2.2.2.2.2.1)
            go_simp
            refine (isValidEntry (.slice xd eo.length xc) eo et _ HX.out htl HE.out).mono ?_
            rintro e v ⟨rfl, hb⟩
            rw [hok]
            refine hK.out _ _ (HS1.out.step hb) (fun hS1 => ?_)
            clear hK K hb
            try simp only [qA, qB, qC, Act.put, qD, qE, qF]
            refine wpAnyH_take (i := 2) (v := .bool false) rfl (by kernel_rfl) (by kernel_rfl) (by kernel_rfl) (fun _ _ _ h => h) (Or.inl ⟨by rfl, fun z hz => ?_⟩) hS1 ?_
            · obtain ⟨z1, z2, z3, z4, z5, z6⟩ := hz
              go_simp
            try simp only [qA, qB, qC, Act.put, qD, qE, qF]
            refine wpAnyH_take (i := 3) (v := .bool false) rfl (by kernel_rfl) (by kernel_rfl) (by kernel_rfl) (fun _ _ _ h => h) (Or.inl ⟨by rfl, fun z hz => ?_⟩) hS1 ?_
            · obtain ⟨z1, z2, z3, z4, z5, z6⟩ := hz
              go_simp
            try simp only [qA, qB, qC, Act.put, qD, qE, qF]
            refine wpAnyH_take (i := 4) (v := .int .i64 j) rfl (by kernel_rfl) (by kernel_rfl) (by kernel_rfl) (fun _ _ _ h => h) (Or.inl ⟨by rfl, fun z hz => ?_⟩) hS1 ?_
            · obtain ⟨z1, z2, z3, z4, z5, z6⟩ := hz
              go_simp
            try simp only [qA, qB, qC, Act.put, qD, qE, qF]
            refine wpAnyH_take (i := 5) (v := .bool true) rfl (by kernel_rfl) (by kernel_rfl) (by kernel_rfl) (fun _ _ _ h => h) (Or.inl ⟨by rfl, fun z hz => ?_⟩) hS1 ?_
            · obtain ⟨z1, z2, z3, z4, z5, z6⟩ := hz
              go_simp
            try simp only [qA, qB, qC, Act.put, qD, qE, qF]
            refine wpAnyH_take (i := 6) (v := .bool true) rfl (by kernel_rfl) (by kernel_rfl) (by kernel_rfl) (fun _ _ _ h => h) (Or.inl ⟨by rfl, fun z hz => ?_⟩) hS1 ?_
            · obtain ⟨z1, z2, z3, z4, z5, z6⟩ := hz
              go_simp
            try simp only [qA, qB, qC, Act.put, qD, qE, qF]
            refine wpAnyH_take (i := 7) (v := .pointer (some ⟨w.heap.size, 0, none⟩)) rfl (by kernel_rfl) (by kernel_rfl) (by kernel_rfl) (fun _ _ _ h => h) (Or.inl ⟨by rfl, fun z hz => ?_⟩) hS1 ?_
            · obtain ⟨z1, z2, z3, z4, z5, z6⟩ := hz
              go_simp
            try simp only [qA, qB, qC, Act.put, qD, qE, qF]
            refine wpAnyH_take (i := 8) (v := .slice (some ⟨g, o, none⟩) l.length cap) rfl (by kernel_rfl) (by kernel_rfl) (by kernel_rfl) (fun _ _ _ h => h) (Or.inl ⟨by rfl, fun z hz => ?_⟩) hS1 ?_
            · obtain ⟨z1, z2, z3, z4, z5, z6⟩ := hz
              go_simp
            try simp only [qA, qB, qC, Act.put, qD, qE, qF]
            refine wpAnyH_take (i := 9) (v := .int .i64 j) rfl (by kernel_rfl) (by kernel_rfl) (by kernel_rfl) (fun _ _ _ h => h) (Or.inl ⟨by rfl, fun z hz => ?_⟩) hS1 ?_
            · obtain ⟨z1, z2, z3, z4, z5, z6⟩ := hz
              go_simp
            try simp only [qA, qB, qC, Act.put, qD, qE, qF]
            refine wpAnyH_take (i := 10) (v := .int .i64 ((j : Int) - 1)) rfl (by kernel_rfl) (by kernel_rfl) (by kernel_rfl) (fun _ _ _ h => h) (Or.inl ⟨by rfl, fun z hz => ?_⟩) hS1 ?_
            · obtain ⟨z1, z2, z3, z4, z5, z6⟩ := hz
              go_simp
            try simp only [qA, qB, qC, Act.put, qD, qE, qF]
            refine wpAnyH_take (i := 11) (v := .pointer (some ⟨g, o + (j - 1) * 2, none⟩)) rfl (by kernel_rfl) (by kernel_rfl) (by kernel_rfl) (fun _ _ _ h => h) (Or.inl ⟨by rfl, fun z hz => ?_⟩) hS1 ?_
            · obtain ⟨z1, z2, z3, z4, z5, z6⟩ := hz
              go_simp
            try simp only [qA, qB, qC, Act.put, qD, qE, qF]
            refine wpAnyH_take (i := 12) (v := .pointer (some ⟨g, o + (j - 1) * 2, none⟩)) rfl (by kernel_rfl) (by kernel_rfl) (by kernel_rfl) (fun _ _ _ h => h) (Or.inl ⟨by rfl, fun z hz => ?_⟩) hS1 ?_
            · obtain ⟨z1, z2, z3, z4, z5, z6⟩ := hz
              go_simp
            try simp only [qA, qB, qC, Act.put, qD, qE, qF]
            refine wpAnyH_take (i := 13) (v := y) rfl (by kernel_rfl) (by kernel_rfl) (by kernel_rfl) (fun _ _ _ h => h) (Or.inl ⟨by rfl, fun z hz => ?_⟩) hS1 ?_
            · obtain ⟨z1, z2, z3, z4, z5, z6⟩ := hz
              go_simp
            try simp only [qA, qB, qC, Act.put, qD, qE, qF]
            refine wpAnyH_take (i := 14) (v := .pointer (some ⟨wr.heap.size, 0, none⟩)) rfl (by kernel_rfl) (by kernel_rfl) (by kernel_rfl) (fun _ _ _ h => h) (Or.inl ⟨by rfl, fun z hz => ?_⟩) hS1 ?_
            · obtain ⟨z1, z2, z3, z4, z5, z6⟩ := hz
              go_simp
            try simp only [qA, qB, qC, Act.put, qD, qE, qF]
            refine wpAnyH_take (i := 15) (v := (.slice xd eo.length xc)) rfl (by kernel_rfl) (by kernel_rfl) (by kernel_rfl) (fun _ _ _ h => h) (Or.inl ⟨by rfl, fun z hz => ?_⟩) hS1 ?_
            · obtain ⟨z1, z2, z3, z4, z5, z6⟩ := hz
              go_simp
            try simp only [qA, qB, qC, Act.put, qD, qE, qF]
            refine wpAnyH_ready (rs := [16]) (by kernel_rfl) (by simp) ?_
            refine AllReadyH.cons rfl (fun K hK => ?_) AllReadyH.nil
            have HS2 := Lib.hid hS1
            have HY := Lib.hid hS1.2.2.2.2.2.1
            have HX2 := Lib.hid hS1.2.2.2.2.2.2.2.2.2.2.1
            go_simp
            refine (slicesCompare y (.slice xd eo.length xc) po eo _ HY.out HX2.out).mono ?_
            rintro e v2 ⟨rfl, rfl⟩
            refine hK.out _ _ HS2.out (fun hS2 => ?_)
            clear hK K
            try simp only [qA, qB, qC, Act.put, qD, qE, qF]
            refine wpAnyH_take (i := 17) (v := .bool false) rfl (by kernel_rfl) (by kernel_rfl) (by kernel_rfl) (fun _ _ _ h => h) (Or.inl ⟨by rfl, fun z hz => ?_⟩) hS2 ?_
            · obtain ⟨z1, z2, z3, z4, z5, z6⟩ := hz
              go_simp
            try simp only [qA, qB, qC, Act.put, qD, qE, qF]
            refine wpAnyH_take (i := 18) (v := .bool false) rfl (by kernel_rfl) (by kernel_rfl) (by kernel_rfl) (fun _ _ _ h => h) (Or.inl ⟨by rfl, fun z hz => ?_⟩) hS2 ?_
            · obtain ⟨z1, z2, z3, z4, z5, z6⟩ := hz
              go_simp
            try simp only [qA, qB, qC, Act.put, qD, qE, qF]
            refine wpAnyH_take (i := 19) (v := .bool false) rfl (by kernel_rfl) (by kernel_rfl) (by kernel_rfl) (fun _ _ _ h => h) (Or.inl ⟨by rfl, fun z hz => ?_⟩) hS2 ?_
            · obtain ⟨z1, z2, z3, z4, z5, z6⟩ := hz
              go_simp
            try simp only [qA, qB, qC, Act.put, qD, qE, qF]
            refine wpAnyH_done (by kernel_rfl) ?_ _
            have HK2 := Lib.hid (hS2.2.2.2.2.2.2.2.2.2.2.2)
            clear hS0 hS1 hS2 HS1 HS2
            go_wp2
            go_roundw
            case rel => exact ⟨j + 1, by omega, by go_num, HALL2.out, HR2.out, HK2.out.2, HK2.out.1⟩
            case measure => simp [intOf]; omega
          · have HNO := Lib.hid (HCN.out (by omega))
            go_upto_region 4 with fail
            refine wp_region_held_drew (S := K9 w (.slice (some ⟨g, o, none⟩) l.length cap) l wr.heap.size (.slice xd eo.length xc) eo et g (o + (j - 1) * 2) y po) (by kernel_rfl) HS'.out (fun hS0 => ?_)
            refine wpAnyH_take (i := 0) (v := .agg #[(.slice xd eo.length xc), .string (S et)]) rfl (by kernel_rfl) (by kernel_rfl) (by kernel_rfl) (fun _ _ _ h => h) (Or.inl ⟨by rfl, fun z hz => ?_⟩) hS0 ?_
            · obtain ⟨z1, z2, z3, z4, z5, z6⟩ := hz
              go_simp
            try simp only [qA, qB, Act.put, qD, qE, qF]
            refine wpAnyH_ready (rs := [1]) (by kernel_rfl) (by simp) ?_
            refine AllReadyH.cons rfl (fun K hK => ?_) AllReadyH.nil
            have HS1 := Lib.hid hS0
            have HX := Lib.hid (hS0.2.2.2.2.2.2.2.2.2.2.1)
            have HE := Lib.hid (hS0.2.2.2.2.2.2.2.2.2.2.2.1)
            go_simp
            refine (isValidEntry (.slice xd eo.length xc) eo et _ HX.out htl HE.out).mono ?_
            rintro e v ⟨rfl, hb⟩
            rw [hok]
            refine hK.out _ _ (HS1.out.step hb) (fun hS1 => ?_)
            clear hK K hb
            try simp only [qA, qB, qC, Act.put, qD, qE, qF]
            refine wpAnyH_take (i := 2) (v := .bool false) rfl (by kernel_rfl) (by kernel_rfl) (by kernel_rfl) (fun _ _ _ h => h) (Or.inl ⟨by rfl, fun z hz => ?_⟩) hS1 ?_
            · obtain ⟨z1, z2, z3, z4, z5, z6⟩ := hz
              go_simp
            try simp only [qA, qB, qC, Act.put, qD, qE, qF]
            refine wpAnyH_take (i := 3) (v := .bool false) rfl (by kernel_rfl) (by kernel_rfl) (by kernel_rfl) (fun _ _ _ h => h) (Or.inl ⟨by rfl, fun z hz => ?_⟩) hS1 ?_
            · obtain ⟨z1, z2, z3, z4, z5, z6⟩ := hz
              go_simp
            try simp only [qA, qB, qC, Act.put, qD, qE, qF]
            refine wpAnyH_take (i := 4) (v := .int .i64 j) rfl (by kernel_rfl) (by kernel_rfl) (by kernel_rfl) (fun _ _ _ h => h) (Or.inl ⟨by rfl, fun z hz => ?_⟩) hS1 ?_
            · obtain ⟨z1, z2, z3, z4, z5, z6⟩ := hz
              go_simp
            try simp only [qA, qB, qC, Act.put, qD, qE, qF]
            refine wpAnyH_take (i := 5) (v := .bool true) rfl (by kernel_rfl) (by kernel_rfl) (by kernel_rfl) (fun _ _ _ h => h) (Or.inl ⟨by rfl, fun z hz => ?_⟩) hS1 ?_
            · obtain ⟨z1, z2, z3, z4, z5, z6⟩ := hz
              go_simp
            try simp only [qA, qB, qC, Act.put, qD, qE, qF]
            refine wpAnyH_take (i := 6) (v := .bool true) rfl (by kernel_rfl) (by kernel_rfl) (by kernel_rfl) (fun _ _ _ h => h) (Or.inl ⟨by rfl, fun z hz => ?_⟩) hS1 ?_
            · obtain ⟨z1, z2, z3, z4, z5, z6⟩ := hz
              go_simp
            try simp only [qA, qB, qC, Act.put, qD, qE, qF]
            refine wpAnyH_take (i := 7) (v := .pointer (some ⟨w.heap.size, 0, none⟩)) rfl (by kernel_rfl) (by kernel_rfl) (by kernel_rfl) (fun _ _ _ h => h) (Or.inl ⟨by rfl, fun z hz => ?_⟩) hS1 ?_
            · obtain ⟨z1, z2, z3, z4, z5, z6⟩ := hz
              go_simp
            try simp only [qA, qB, qC, Act.put, qD, qE, qF]
            refine wpAnyH_take (i := 8) (v := .slice (some ⟨g, o, none⟩) l.length cap) rfl (by kernel_rfl) (by kernel_rfl) (by kernel_rfl) (fun _ _ _ h => h) (Or.inl ⟨by rfl, fun z hz => ?_⟩) hS1 ?_
            · obtain ⟨z1, z2, z3, z4, z5, z6⟩ := hz
              go_simp
            try simp only [qA, qB, qC, Act.put, qD, qE, qF]
            refine wpAnyH_take (i := 9) (v := .int .i64 j) rfl (by kernel_rfl) (by kernel_rfl) (by kernel_rfl) (fun _ _ _ h => h) (Or.inl ⟨by rfl, fun z hz => ?_⟩) hS1 ?_
            · obtain ⟨z1, z2, z3, z4, z5, z6⟩ := hz
              go_simp
            try simp only [qA, qB, qC, Act.put, qD, qE, qF]
            refine wpAnyH_take (i := 10) (v := .int .i64 ((j : Int) - 1)) rfl (by kernel_rfl) (by kernel_rfl) (by kernel_rfl) (fun _ _ _ h => h) (Or.inl ⟨by rfl, fun z hz => ?_⟩) hS1 ?_
            · obtain ⟨z1, z2, z3, z4, z5, z6⟩ := hz
              go_simp
            try simp only [qA, qB, qC, Act.put, qD, qE, qF]
            refine wpAnyH_take (i := 11) (v := .pointer (some ⟨g, o + (j - 1) * 2, none⟩)) rfl (by kernel_rfl) (by kernel_rfl) (by kernel_rfl) (fun _ _ _ h => h) (Or.inl ⟨by rfl, fun z hz => ?_⟩) hS1 ?_
            · obtain ⟨z1, z2, z3, z4, z5, z6⟩ := hz
              go_simp
            try simp only [qA, qB, qC, Act.put, qD, qE, qF]
            refine wpAnyH_take (i := 12) (v := .pointer (some ⟨g, o + (j - 1) * 2, none⟩)) rfl (by kernel_rfl) (by kernel_rfl) (by kernel_rfl) (fun _ _ _ h => h) (Or.inl ⟨by rfl, fun z hz => ?_⟩) hS1 ?_
            · obtain ⟨z1, z2, z3, z4, z5, z6⟩ := hz
              go_simp
            try simp only [qA, qB, qC, Act.put, qD, qE, qF]
            refine wpAnyH_take (i := 13) (v := y) rfl (by kernel_rfl) (by kernel_rfl) (by kernel_rfl) (fun _ _ _ h => h) (Or.inl ⟨by rfl, fun z hz => ?_⟩) hS1 ?_
            · obtain ⟨z1, z2, z3, z4, z5, z6⟩ := hz
              go_simp
            try simp only [qA, qB, qC, Act.put, qD, qE, qF]
            refine wpAnyH_take (i := 14) (v := .pointer (some ⟨wr.heap.size, 0, none⟩)) rfl (by kernel_rfl) (by kernel_rfl) (by kernel_rfl) (fun _ _ _ h => h) (Or.inl ⟨by rfl, fun z hz => ?_⟩) hS1 ?_
            · obtain ⟨z1, z2, z3, z4, z5, z6⟩ := hz
              go_simp
            try simp only [qA, qB, qC, Act.put, qD, qE, qF]
            refine wpAnyH_take (i := 15) (v := (.slice xd eo.length xc)) rfl (by kernel_rfl) (by kernel_rfl) (by kernel_rfl) (fun _ _ _ h => h) (Or.inl ⟨by rfl, fun z hz => ?_⟩) hS1 ?_
            · obtain ⟨z1, z2, z3, z4, z5, z6⟩ := hz
              go_simp
            try simp only [qA, qB, qC, Act.put, qD, qE, qF]
            refine wpAnyH_ready (rs := [16]) (by kernel_rfl) (by simp) ?_
            refine AllReadyH.cons rfl (fun K hK => ?_) AllReadyH.nil
            have HS2 := Lib.hid hS1
            have HY := Lib.hid hS1.2.2.2.2.2.1
            have HX2 := Lib.hid hS1.2.2.2.2.2.2.2.2.2.2.1
            go_simp
            refine (slicesCompare y (.slice xd eo.length xc) po eo _ HY.out HX2.out).mono ?_
            rintro e v2 ⟨rfl, rfl⟩
            refine hK.out _ _ HS2.out (fun hS2 => ?_)
            clear hK K
            try simp only [qA, qB, qC, Act.put, qD, qE, qF]
            refine wpAnyH_take (i := 17) (v := .bool true) rfl (by kernel_rfl) (by kernel_rfl) (by kernel_rfl) (fun _ _ _ h => h) (Or.inl ⟨by rfl, fun z hz => ?_⟩) hS2 ?_
            · obtain ⟨z1, z2, z3, z4, z5, z6⟩ := hz
              go_simp
            try simp only [qA, qB, qC, Act.put, qD, qE, qF]
            refine wpAnyH_take (i := 18) (v := .bool true) rfl (by kernel_rfl) (by kernel_rfl) (by kernel_rfl) (fun _ _ _ h => h) (Or.inl ⟨by rfl, fun z hz => ?_⟩) hS2 ?_
            · obtain ⟨z1, z2, z3, z4, z5, z6⟩ := hz
              go_simp
            try simp only [qA, qB, qC, Act.put, qD, qE, qF]
            refine wpAnyH_take (i := 19) (v := .bool true) rfl (by kernel_rfl) (by kernel_rfl) (by kernel_rfl) (fun _ _ _ h => h) (Or.inl ⟨by rfl, fun z hz => ?_⟩) hS2 ?_
            · obtain ⟨z1, z2, z3, z4, z5, z6⟩ := hz
              go_simp
            try simp only [qA, qB, qC, Act.put, qD, qE, qF]
            refine wpAnyH_done (by kernel_rfl) ?_ _
            have HK2 := Lib.hid (hS2.2.2.2.2.2.2.2.2.2.2.2)
            clear hS0 hS1 hS2 HS1 HS2
            go_wp2
            go_ret
            exact ⟨ret_bool (by rw [HNO.out]), HK2.out.2.2.2.2⟩
    · have hjl : j = l.length := by omega
      subst hjl
      have h1 := HA.out; have h2 := HR.out
      rw [List.take_length] at h1 h2
      have HD := Lib.hid (show P.dic l = decide (l.length ≤ 40) by unfold P.dic; rw [h1, h2]; simp)
      clear h1 h2 hent
      by_cases h40 : l.length ≤ 40
      · have h40' : (l.length : Int) ≤ 40 := by omega
        go_wp2
        go_ret
        exact ⟨ret_bool (by rw [HD.out, decide_eq_true h40]), hbel⟩
      · have h40' : ¬ (l.length : Int) ≤ 40 := by omega
        go_wp2
        go_ret
        exact ⟨ret_bool (by rw [HD.out, decide_eq_false h40]), hbel⟩
end
end Go.Proofs.YtmlklnimoknojaaGreatDoor
