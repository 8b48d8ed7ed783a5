/- Walks: outlines (reference). Walks: an entry (reference). Walks: a dictionary (reference). -/
import Derived.Deep.DeepCutAuto
import Derived.Deep.RegionLaw
import Derived.IntWalk
import Derived.Test.YtmlklnimoknojaaGreatDoorTransD
namespace Go.Proofs.YtmlklnimoknojaaGreatDoor
section
namespace P
theorem cmp_step {a b : List Int} {j : Nat} (ha : j < a.length) (hb : j < b.length) : cmp (a.drop j) (b.drop j) = if a[j] < b[j] then -1 else if b[j] < a[j] then 1 else cmp (a.drop (j + 1)) (b.drop (j + 1)) := by
  rw [List.drop_eq_getElem_cons ha, List.drop_eq_getElem_cons hb]; rfl
end P
open Go Go.RowKit
set_option maxHeartbeats 1000000
set_option maxRecDepth 100000
theorem l2Good (n : Int) (w : World) :
    Calls Tryz.prog 97 #[.int .i64 n] w fun e w' => e = .returned (.bool (P.stroke n)) ∧ w = w' := by
  go_enter Tryz.func97, Tryz.ntmps97
  go_wp2_with fail
  refine (l1In _ _ _ _).mono ?_
  rintro e w' ⟨rfl, rfl⟩
  go_wp2
  go_ret
  exact ⟨ret_bool (by unfold P.stroke; simp), rfl⟩
theorem l4Good (u : Value) (l : List Int) (w : World) (hu : IntR w u l) :
    Calls Tryz.prog 150 #[u] w fun e w' => e = .returned (.bool (P.outline l)) ∧ w = w' := by
  obtain ⟨ad, cap, rfl, hl, _, hr⟩ := hu
  have HR := Lib.hid hr; clear hr
  cases h1 : decide (1 ≤ (l.length : Int) ∧ (l.length : Int) ≤ 6)
  · have HF := Lib.hid (show P.outline l = false by unfold P.outline; rw [h1]; rfl)
    go_enter Tryz.func150, Tryz.ntmps150
    go_wp2_with (go_at_call 161; refine (l1In _ _ _ _).mono ?_; rintro e w' ⟨rfl, rfl⟩)
    go_ret
    exact ⟨ret_bool HF.out.symm, rfl⟩
  · have hle := of_decide_eq_true h1
    obtain ⟨hle1, hle2⟩ := hle
    have HF := Lib.hid (show P.outline l = l.all P.stroke by unfold P.outline; rw [h1]; rfl)
    obtain ⟨g, o, rfl, hg, hat⟩ : ∃ g o, ad = some ⟨g, o, none⟩ ∧ g < w.heap.size ∧ ∀ (j : Nat) (h : j < l.length), w.cell? ⟨g, o + j, none⟩ = some (.int .i64 (l[j]'h)) := by
      rcases HR.out with h | h
      · rw [h] at hle1; exact absurd hle1 (by decide)
      · exact h
    have HAT := Lib.hid hat
    clear hat HR
    go_enter Tryz.func150, Tryz.ntmps150
    go_wp2_with (go_at_call 161; refine (l1In _ _ _ _).mono ?_; rintro e w' ⟨rfl, rfl⟩)
    go_loop [3] (fun i => ∃ j : Nat, j ≤ l.length ∧ i = .int .i64 j ∧ (l.take j).all P.stroke = true) (fun i => l.length - (intOf i).toNat)
    case atStart => exact ⟨0, Nat.zero_le _, rfl, by simp⟩
    case round =>
      obtain ⟨j, hj, rfl, ha⟩ := hrel
      have HA := Lib.hid ha; clear ha
      by_cases hlt : j < l.length
      · have hc := HAT.out j hlt
        have HSN := Lib.hid (take_snoc l j hlt)
        generalize l[j] = x at *
        cases hx : P.stroke x
        · have HNO := Lib.hid (show l.all P.stroke = false by
            rw [← List.take_append_drop (j + 1) l, HSN.out, List.all_append, List.all_append]
            simp [hx])
          go_wp2_with (go_at_call 97; refine (l2Good _ _).mono ?_; rintro e w' ⟨rfl, rfl⟩)
          go_ret
          exact ⟨ret_bool (by rw [HF.out, HNO.out]), rfl⟩
        · have HX := Lib.hid hx
          go_wp2_with (go_at_call 97; refine (l2Good _ _).mono ?_; rintro e w' ⟨rfl, rfl⟩)
          go_round
          case rel => exact ⟨j + 1, by omega, by go_num, by rw [HSN.out, List.all_append, HA.out]; simp [HX.out]⟩
          case measure => simp [intOf]; omega
      · have HT := Lib.hid (show l.all P.stroke = true by have := HA.out; rwa [List.take_of_length_le (by omega)] at this)
        go_wp2
        go_ret
        exact ⟨ret_bool (by rw [HF.out, HT.out]), rfl⟩
theorem l4Compare (u v : Value) (a b : List Int) (w : World) (hu : IntR w u a) (hv : IntR w v b) :
    Calls Tryz.prog 123 #[u, v] w fun e w' => e = .returned (.int .i64 (P.cmp a b)) ∧ Below w.heap.size w w' := by
  have HU := Lib.hid hu; have HV := Lib.hid hv
  obtain ⟨ad, cap, rfl, hla, _⟩ := hu
  obtain ⟨bd, dap, rfl, hlb, _⟩ := hv
  go_enter Tryz.func123, Tryz.ntmps123
  go_wp2
  go_loopw [5] (fun i wr => ∃ j : Nat, j ≤ a.length ∧ j ≤ b.length ∧ i = .int .i64 j ∧ P.cmp a b = P.cmp (a.drop j) (b.drop j) ∧ Below w.heap.size w wr) (fun i _ => a.length - (intOf i).toNat)
  case atStart => exact ⟨0, Nat.zero_le _, Nat.zero_le _, rfl, rfl, Below.refl _ _⟩
  case round =>
    obtain ⟨j, hja, hjb, rfl, hc, hb⟩ := hrel
    have HC := Lib.hid hc; clear hc
    have HB := Lib.hid hb
    by_cases h1 : j < a.length
    · by_cases h2 : j < b.length
      · obtain ⟨g, o, hga, hgl, c0⟩ := (HU.out.below hb).at j h1
        obtain ⟨g', o', hgb, hgl', d0⟩ := (HV.out.below hb).at j h2
        have HST := Lib.hid (P.cmp_step h1 h2)
        subst hga hgb
        generalize a[j] = x at *
        generalize b[j] = y at *
        clear hb
        have i1 : (j : Int) < (a.length : Int) := by omega
        have i2 : (j : Int) < (b.length : Int) := by omega
        rcases Int.lt_trichotomy x y with h | h | h
        · have HF := Lib.hid (show P.cmp a b = -1 by rw [HC.out, HST.out, if_pos h])
          go_wp2_with fail
          go_quiet (fail)
          go_wp2
          go_ret
          exact ⟨(by first | (rw [HF.out]; done) | (rw [HF.out]; rfl)), below_drewN HB.out _⟩
        · have n1 : ¬ x < y := by omega
          have n2 : ¬ y < x := by omega
          have HN := Lib.hid (show P.cmp a b = P.cmp (a.drop (j + 1)) (b.drop (j + 1)) by rw [HC.out, HST.out, if_neg n1, if_neg n2])
          clear h
          go_wp2_with fail
          go_quiet (fail)
          go_wp2_with fail
          go_quiet (fail)
          go_wp2
          go_roundw
          case rel => exact ⟨j + 1, by omega, by omega, by go_num, HN.out, by first | exact below_drewN (below_drewN HB.out _) _ | exact below_drewN HB.out _⟩
          case measure => simp [intOf]; omega
        · have n1 : ¬ x < y := by omega
          have HF := Lib.hid (show P.cmp a b = 1 by rw [HC.out, HST.out, if_neg n1, if_pos h])
          go_wp2_with fail
          go_quiet (fail)
          go_wp2_with fail
          go_quiet (fail)
          go_wp2
          go_ret
          exact ⟨(by first | (rw [HF.out]; done) | (rw [HF.out]; rfl)), by first | exact below_drewN (below_drewN HB.out _) _ | exact below_drewN HB.out _⟩
      · have hbl : b.length = j := by omega
        have HF := Lib.hid (show P.cmp a b = 1 by
          rw [HC.out, List.drop_eq_getElem_cons h1, List.drop_of_length_le (l := b) (by omega)]; rfl)
        have k1 : ¬ (j : Int) < (b.length : Int) := by omega
        have k2 : ¬ (a.length : Int) < (b.length : Int) := by omega
        have k3 : (b.length : Int) < (a.length : Int) := by omega
        clear hb
        go_wp2
        go_ret
        exact ⟨(by first | (rw [HF.out]; done) | (rw [HF.out]; rfl)), HB.out⟩
    · have k0 : ¬ (j : Int) < (a.length : Int) := by omega
      clear hb
      by_cases h2 : j < b.length
      · have HF := Lib.hid (show P.cmp a b = -1 by
          rw [HC.out, List.drop_eq_getElem_cons h2, List.drop_of_length_le (l := a) (by omega)]; rfl)
        have k2 : (a.length : Int) < (b.length : Int) := by omega
        go_wp2
        go_ret
        exact ⟨(by first | (rw [HF.out]; done) | (rw [HF.out]; rfl)), HB.out⟩
      · have HF := Lib.hid (show P.cmp a b = 0 by
          rw [HC.out, List.drop_of_length_le (l := a) (by omega), List.drop_of_length_le (l := b) (by omega)]; rfl)
        have k2 : ¬ (a.length : Int) < (b.length : Int) := by omega
        have k3 : ¬ (b.length : Int) < (a.length : Int) := by omega
        go_wp2
        go_ret
        exact ⟨(by first | (rw [HF.out]; done) | (rw [HF.out]; rfl)), HB.out⟩
end
section
open Go Go.RowKit
set_option maxHeartbeats 1000000
set_option maxRecDepth 100000
theorem l6Entry (u : Value) (l : List Int) (t : Str) (w : World) (hu : IntR w u l) (ht : t.length ≤ 2 ^ 30) :
    Calls Tryz.prog 122 #[.agg #[u, .string (S t)]] w fun e w' => e = .returned (.bool (P.entry (l, t))) ∧ Below w.heap.size w w' := by
  have HU := Lib.hid (hu.below ((Below.refl _ _).alloc (Nat.le_refl _) (.cells #[u, .string (S t)] 47)))
  obtain ⟨ad, cap, rfl, _, _⟩ := hu
  have HF := Lib.hid (show P.entry (l, t) = (P.outline l && (P.transS t).2) from rfl)
  go_enter Tryz.func122, Tryz.ntmps122
  go_wp2_with fail
  refine (l5Parse _ _ ht).mono ?_
  rintro e w1 ⟨v, rfl, _, hb⟩
  have HU1 := Lib.hid (HU.out.below hb)
  obtain ⟨hcc, _⟩ := bcell hb
  have hz := grew0 hb
  have c0 : w1.cell? ⟨w.heap.size, 0, none⟩ = some (.slice ad l.length cap) := by rw [hcc _ _ (by simp)]; go_simp
  have HB := Lib.hid (((Below.refl w.heap.size w).alloc (Nat.le_refl _) (.cells #[.slice ad l.length cap, .string (S t)] 47)).trans (hb.mono (by simp)))
  clear hb hcc HU
  generalize (P.transS t).2 = ok at *
  go_wp2_with fail
  refine (l4Good _ l _ HU1.out).mono ?_
  rintro e w2 ⟨rfl, rfl⟩
  generalize P.outline l = o at *
  cases o
  · go_wp2
    go_ret
    exact ⟨ret_bool (by rw [HF.out]; rfl), HB.out⟩
  · go_wp2
    go_ret
    exact ⟨ret_bool (by rw [HF.out]; rfl), HB.out⟩
end
section
namespace P
theorem rising_snoc (x y : Ent) : ∀ m : Dic, rising (m ++ [x, y]) = (rising (m ++ [x]) && decide (cmp x.1 y.1 < 0))
  | [] => by simp [rising]
  | [a] => by simp [rising]
  | a :: b :: m => by
    have h := rising_snoc x y (b :: m)
    simp only [List.cons_append] at h ⊢
    unfold rising
    rw [h, Bool.and_assoc]
theorem rising_at {l : Dic} (h : rising l = true) {j : Nat} (hj : j + 1 < l.length) : cmp (l[j]'(by omega)).1 (l[j + 1]).1 < 0 := by
  have := (rising_pair l).1 h
  rw [List.pairwise_iff_getElem] at this
  exact this j (j + 1) (by omega) hj (by omega)
theorem rising_take {l : Dic} {j : Nat} (hj : j + 1 < l.length) (h : rising (l.take (j + 1)) = true) (hc : cmp (l[j]'(by omega)).1 (l[j + 1]).1 < 0) : rising (l.take (j + 2)) = true := by
  have e1 : l.take (j + 1) = l.take j ++ [l[j]'(by omega)] := take_snoc l j (by omega)
  have e2 : l.take (j + 2) = l.take (j + 1) ++ [l[j + 1]] := take_snoc l (j + 1) hj
  rw [e2, e1, List.append_assoc]
  show rising (l.take j ++ [l[j]'(by omega), l[j + 1]]) = true
  rw [rising_snoc, ← e1, h, Bool.true_and, decide_eq_true hc]
end P
open Go Go.RowKit
set_option maxHeartbeats 2000000
set_option maxRecDepth 100000
def KD (w : World) (u : Value) (l : P.Dic) (v : World) : Prop :=
  v.cell? ⟨w.heap.size, 0, none⟩ = some u ∧ w.heap.size < v.heap.size ∧ EntR v u l ∧ Below w.heap.size w v
theorem KD.step {w v v' : World} {u : Value} {l : P.Dic} (h : KD w u l v) (hb : Below v.heap.size v v') : KD w u l v' := by
  obtain ⟨h1, h2, h3, h4⟩ := h
  exact ⟨(hb.cell (p := ⟨w.heap.size, 0, none⟩) h2).trans h1, Nat.lt_of_lt_of_le h2 hb.size, h3.below hb, h4.trans (hb.mono (by omega))⟩
theorem KD.drew {w v : World} {u : Value} {l : P.Dic} (h : KD w u l v) : KD w u l v.drew := h.step (Below.refl _ _).drew
def K6 (w : World) (u : Value) (l : P.Dic) (g p : Nat) (x : Value) (eo : List Int) (et : Str) (v : World) : Prop :=
  v.cell? ⟨w.heap.size, 0, none⟩ = some u ∧ v.cell? ⟨g, p, none⟩ = some x ∧ v.cell? ⟨g, p + 1, none⟩ = some (.string (S et)) ∧ g < v.heap.size ∧ IntR v x eo ∧ KD w u l v
theorem K6.step {w v v' : World} {u : Value} {l : P.Dic} {g p : Nat} {x : Value} {eo : List Int} {et : Str} (h : K6 w u l g p x eo et v) (hb : Below v.heap.size v v') : K6 w u l g p x eo et v' := by
  obtain ⟨h1, h2, h3, h4, h5, h6⟩ := h
  exact ⟨(h6.step hb).1, (hb.cell (p := ⟨g, p, none⟩) h4).trans h2, (hb.cell (p := ⟨g, p + 1, none⟩) h4).trans h3, Nat.lt_of_lt_of_le h4 hb.size, h5.below hb, h6.step hb⟩
def K7 (w : World) (u : Value) (l : P.Dic) (g p : Nat) (x : Value) (eo : List Int) (et : Str) (q : Nat) (y : Value) (po : List Int) (v : World) : Prop :=
  v.cell? ⟨w.heap.size, 0, none⟩ = some u ∧ v.cell? ⟨g, p, none⟩ = some x ∧ v.cell? ⟨g, p + 1, none⟩ = some (.string (S et)) ∧ v.cell? ⟨g, q, none⟩ = some y ∧ IntR v y po ∧ K6 w u l g p x eo et v
theorem K7.step {w v v' : World} {u : Value} {l : P.Dic} {g p : Nat} {x : Value} {eo : List Int} {et : Str} {q : Nat} {y : Value} {po : List Int} (h : K7 w u l g p x eo et q y po v) (hb : Below v.heap.size v v') : K7 w u l g p x eo et q y po v' := by
  obtain ⟨h1, h2, h3, h4, h5, h6⟩ := h
  exact ⟨(h6.step hb).1, (h6.step hb).2.1, (h6.step hb).2.2.1, (hb.cell (p := ⟨g, q, none⟩) h6.2.2.2.1).trans h4, h5.below hb, h6.step hb⟩
theorem l6Good (u : Value) (l : P.Dic) (w : World) (hu : EntR w u l) (ht : ∀ e ∈ l, e.2.length ≤ 2 ^ 30) :
    Calls Tryz.prog 55 #[.agg #[u]] w fun e w' => e = .returned (.bool (P.dic l)) ∧ Below w.heap.size w w' := by
  have K0 : KD w u l (w.alloc (.cells #[u] 26)) := ⟨by go_simp, by simp, hu.below ((Below.refl _ _).alloc (Nat.le_refl _) _), (Below.refl _ _).alloc (Nat.le_refl _) _⟩
  have HT := Lib.hid ht; clear ht
  obtain ⟨ad, cap, rfl, hl, _⟩ := hu
  by_cases h40 : 40 < l.length
  · have HF := Lib.hid (show P.dic l = false by unfold P.dic; rw [decide_eq_false (by omega)]; rfl)
    have h40' : (40 : Int) < (l.length : Int) := by omega
    go_enter Tryz.func55, Tryz.ntmps55
    go_wp2
    go_ret
    exact ⟨ret_bool HF.out.symm, K0.2.2.2⟩
  · have HF := Lib.hid (show P.dic l = (l.all P.entry && P.rising l) by unfold P.dic; rw [decide_eq_true (by omega)]; rfl)
    have h40' : ¬ (40 : Int) < (l.length : Int) := by omega
    go_enter Tryz.func55, Tryz.ntmps55
    go_wp2_with fail
    go_loopw [3] (fun i wr => ∃ j : Nat, j ≤ l.length ∧ i = .int .i64 j ∧ (l.take j).all P.entry = true ∧ P.rising (l.take j) = true ∧ KD w (.slice ad l.length cap) l wr) (fun i _ => l.length - (intOf i).toNat)
    case atStart => exact ⟨0, Nat.zero_le _, rfl, by simp, rfl, K0⟩
    case round =>
      obtain ⟨j, hj, rfl, ha, hr, K1⟩ := hrel
      clear K0
      have HA := Lib.hid ha; have HR := Lib.hid hr
      clear ha hr
      have HK := Lib.hid K1
      obtain ⟨d0, dz, hent, hbel⟩ := K1
      by_cases hlt : j < l.length
      · obtain ⟨g, o, rfl, hg, x, c0, c1, hx⟩ := hent.at j hlt
        have htl := HT.out _ (List.getElem_mem hlt)
        have HSN := Lib.hid (take_snoc l j hlt)
        have i1 : (j : Int) < (l.length : Int) := by omega
        have HS := Lib.hid (show K6 w (.slice (some ⟨g, o, none⟩) l.length cap) l g (o + j * 2) x l[j].1 l[j].2 wr.drew from K6.step ⟨d0, c0, c1, hg, hx, HK.out⟩ (Below.refl _ _).drew)
        cases hok : P.entry l[j]
        · have HNO := Lib.hid (show l.all P.entry = false by
            rw [← List.take_append_drop (j + 1) l, HSN.out, List.all_append, List.all_append]
            simp [hok])
          clear hent hbel hx
          generalize l[j] = en at *
          obtain ⟨eo, et⟩ := en
          simp only at c1 htl HS
          go_upto_region 6 with fail
          refine wp_region_held_drew (S := K6 w (.slice (some ⟨g, o, none⟩) l.length cap) l g (o + j * 2) x eo et) (by kernel_rfl) HS.out (fun hS0 => ?_)
          refine wpAnyH_take (i := 0) (v := .pointer (some ⟨w.heap.size, 0, none⟩)) rfl (by kernel_rfl) (by kernel_rfl) (by kernel_rfl) (fun _ _ _ h => h) (Or.inl ⟨by rfl, fun z hz => ?_⟩) hS0 ?_
          · obtain ⟨z1, z2, z3, z4, z5, z6⟩ := hz
            go_simp
          try simp only [qA, qB, Act.put, qD, qE, qF]
          refine wpAnyH_take (i := 1) (v := .slice (some ⟨g, o, none⟩) l.length cap) rfl (by kernel_rfl) (by kernel_rfl) (by kernel_rfl) (fun _ _ _ h => h) (Or.inl ⟨by rfl, fun z hz => ?_⟩) hS0 ?_
          · obtain ⟨z1, z2, z3, z4, z5, z6⟩ := hz
            go_simp
          try simp only [qA, qB, qC, Act.put, qD, qE, qF]
          refine wpAnyH_take (i := 2) (v := .int .i64 j) rfl (by kernel_rfl) (by kernel_rfl) (by kernel_rfl) (fun _ _ _ h => h) (Or.inl ⟨by rfl, fun z hz => ?_⟩) hS0 ?_
          · obtain ⟨z1, z2, z3, z4, z5, z6⟩ := hz
            go_simp
          try simp only [qA, qB, qC, Act.put, qD, qE, qF]
          refine wpAnyH_take (i := 3) (v := .pointer (some ⟨g, o + j * 2, none⟩)) rfl (by kernel_rfl) (by kernel_rfl) (by kernel_rfl) (fun _ _ _ h => h) (Or.inl ⟨by rfl, fun z hz => ?_⟩) hS0 ?_
          · obtain ⟨z1, z2, z3, z4, z5, z6⟩ := hz
            go_simp
          try simp only [qA, qB, qC, Act.put, qD, qE, qF]
          refine wpAnyH_take (i := 4) (v := .agg #[x, .string (S et)]) rfl (by kernel_rfl) (by kernel_rfl) (by kernel_rfl) (fun _ _ _ h => h) (Or.inl ⟨by rfl, fun z hz => ?_⟩) hS0 ?_
          · obtain ⟨z1, z2, z3, z4, z5, z6⟩ := hz
            go_simp
          try simp only [qA, qB, qC, Act.put, qD, qE, qF]
          refine wpAnyH_ready (rs := [5]) (by kernel_rfl) (by simp) ?_
          refine AllReadyH.cons rfl (fun K hK => ?_) AllReadyH.nil
          have HS1 := Lib.hid hS0
          have HX := Lib.hid (hS0.2.2.2.2.1)
          go_simp
          refine (l6Entry x eo et _ HX.out htl).mono ?_
          rintro e v ⟨rfl, hb⟩
          rw [hok]
          refine hK.out _ _ (HS1.out.step hb) (fun hS1 => ?_)
          clear hK K hb
          try simp only [qA, qB, qC, Act.put, qD, qE, qF]
          refine wpAnyH_take (i := 6) (v := .bool true) rfl (by kernel_rfl) (by kernel_rfl) (by kernel_rfl) (fun _ _ _ h => h) (Or.inl ⟨by rfl, fun z hz => ?_⟩) hS1 ?_
          · obtain ⟨z1, z2, z3, z4, z5, z6⟩ := hz
            go_simp
          try simp only [qA, qB, qC, Act.put, qD, qE, qF]
          refine wpAnyH_take (i := 7) (v := .bool true) rfl (by kernel_rfl) (by kernel_rfl) (by kernel_rfl) (fun _ _ _ h => h) (Or.inl ⟨by rfl, fun z hz => ?_⟩) hS1 ?_
          · obtain ⟨z1, z2, z3, z4, z5, z6⟩ := hz
            go_simp
          try simp only [qA, qB, qC, Act.put, qD, qE, qF]
          refine wpAnyH_take (i := 8) rfl (by kernel_rfl) (by kernel_rfl) (by kernel_rfl) (fun _ _ _ h => h) (Or.inr ⟨by rfl, rfl⟩) hS1 ?_
          try simp only [qA, qB, qC, Act.put, qD, qE, qF]
          refine wpAnyH_take (i := 9) rfl (by kernel_rfl) (by kernel_rfl) (by kernel_rfl) (fun _ _ _ h => h) (Or.inr ⟨by rfl, rfl⟩) hS1 ?_
          try simp only [qA, qB, qC, Act.put, qD, qE, qF]
          refine wpAnyH_take (i := 10) rfl (by kernel_rfl) (by kernel_rfl) (by kernel_rfl) (fun _ _ _ h => h) (Or.inr ⟨by rfl, rfl⟩) hS1 ?_
          try simp only [qA, qB, qC, Act.put, qD, qE, qF]
          refine wpAnyH_take (i := 11) rfl (by kernel_rfl) (by kernel_rfl) (by kernel_rfl) (fun _ _ _ h => h) (Or.inr ⟨by rfl, rfl⟩) hS1 ?_
          try simp only [qA, qB, qC, Act.put, qD, qE, qF]
          refine wpAnyH_take (i := 12) rfl (by kernel_rfl) (by kernel_rfl) (by kernel_rfl) (fun _ _ _ h => h) (Or.inr ⟨by rfl, rfl⟩) hS1 ?_
          try simp only [qA, qB, qC, Act.put, qD, qE, qF]
          refine wpAnyH_take (i := 13) rfl (by kernel_rfl) (by kernel_rfl) (by kernel_rfl) (fun _ _ _ h => h) (Or.inr ⟨by rfl, rfl⟩) hS1 ?_
          try simp only [qA, qB, qC, Act.put, qD, qE, qF]
          refine wpAnyH_take (i := 14) rfl (by kernel_rfl) (by kernel_rfl) (by kernel_rfl) (fun _ _ _ h => h) (Or.inr ⟨by rfl, rfl⟩) hS1 ?_
          try simp only [qA, qB, qC, Act.put, qD, qE, qF]
          refine wpAnyH_take (i := 15) rfl (by kernel_rfl) (by kernel_rfl) (by kernel_rfl) (fun _ _ _ h => h) (Or.inr ⟨by rfl, rfl⟩) hS1 ?_
          try simp only [qA, qB, qC, Act.put, qD, qE, qF]
          refine wpAnyH_take (i := 16) rfl (by kernel_rfl) (by kernel_rfl) (by kernel_rfl) (fun _ _ _ h => h) (Or.inr ⟨by rfl, rfl⟩) hS1 ?_
          try simp only [qA, qB, qC, Act.put, qD, qE, qF]
          refine wpAnyH_take (i := 17) rfl (by kernel_rfl) (by kernel_rfl) (by kernel_rfl) (fun _ _ _ h => h) (Or.inr ⟨by rfl, rfl⟩) hS1 ?_
          try simp only [qA, qB, qC, Act.put, qD, qE, qF]
          refine wpAnyH_take (i := 18) rfl (by kernel_rfl) (by kernel_rfl) (by kernel_rfl) (fun _ _ _ h => h) (Or.inr ⟨by rfl, rfl⟩) hS1 ?_
          try simp only [qA, qB, qC, Act.put, qD, qE, qF]
          refine wpAnyH_take (i := 19) rfl (by kernel_rfl) (by kernel_rfl) (by kernel_rfl) (fun _ _ _ h => h) (Or.inr ⟨by rfl, rfl⟩) hS1 ?_
          try simp only [qA, qB, qC, Act.put, qD, qE, qF]
          refine wpAnyH_take (i := 20) rfl (by kernel_rfl) (by kernel_rfl) (by kernel_rfl) (fun _ _ _ h => h) (Or.inr ⟨by rfl, rfl⟩) hS1 ?_
          try simp only [qA, qB, qC, Act.put, qD, qE, qF]
          refine wpAnyH_take (i := 21) rfl (by kernel_rfl) (by kernel_rfl) (by kernel_rfl) (fun _ _ _ h => h) (Or.inr ⟨by rfl, rfl⟩) hS1 ?_
          try simp only [qA, qB, qC, Act.put, qD, qE, qF]
          refine wpAnyH_take (i := 22) rfl (by kernel_rfl) (by kernel_rfl) (by kernel_rfl) (fun _ _ _ h => h) (Or.inr ⟨by rfl, rfl⟩) hS1 ?_
          try simp only [qA, qB, qC, Act.put, qD, qE, qF]
          refine wpAnyH_take (i := 23) rfl (by kernel_rfl) (by kernel_rfl) (by kernel_rfl) (fun _ _ _ h => h) (Or.inr ⟨by rfl, rfl⟩) hS1 ?_
          try simp only [qA, qB, qC, Act.put, qD, qE, qF]
          refine wpAnyH_take (i := 24) rfl (by kernel_rfl) (by kernel_rfl) (by kernel_rfl) (fun _ _ _ h => h) (Or.inr ⟨by rfl, rfl⟩) hS1 ?_
          try simp only [qA, qB, qC, Act.put, qD, qE, qF]
          refine wpAnyH_take (i := 25) rfl (by kernel_rfl) (by kernel_rfl) (by kernel_rfl) (fun _ _ _ h => h) (Or.inr ⟨by rfl, rfl⟩) hS1 ?_
          try simp only [qA, qB, qC, Act.put, qD, qE, qF]
          refine wpAnyH_take (i := 26) rfl (by kernel_rfl) (by kernel_rfl) (by kernel_rfl) (fun _ _ _ h => h) (Or.inr ⟨by rfl, rfl⟩) hS1 ?_
          try simp only [qA, qB, qC, Act.put, qD, qE, qF]
          refine wpAnyH_take (i := 27) (v := .bool true) rfl (by kernel_rfl) (by kernel_rfl) (by kernel_rfl) (fun _ _ _ h => h) (Or.inl ⟨by rfl, fun z hz => ?_⟩) hS1 ?_
          · obtain ⟨z1, z2, z3, z4, z5, z6⟩ := hz
            go_simp
          try simp only [qA, qB, qC, Act.put, qD, qE, qF]
          refine wpAnyH_done (by kernel_rfl) ?_ _
          have HB := Lib.hid (hS1.2.2.2.2.2.2.2.2)
          clear hS0 hS1 HS1
          go_wp2
          go_ret
          exact ⟨ret_bool (by rw [HF.out, HNO.out]; rfl), HB.out⟩
        · have HALL2 := Lib.hid (show (l.take (j + 1)).all P.entry = true by rw [HSN.out, List.all_append, HA.out]; simp [hok])
          by_cases hj0 : j = 0
          · have HR2 := Lib.hid (show P.rising (l.take (j + 1)) = true by rw [HSN.out]; subst hj0; rfl)
            subst hj0
            clear hent hbel hx
            generalize l[0] = en at *
            obtain ⟨eo, et⟩ := en
            simp only [Nat.zero_mul, Nat.add_zero] at c0 c1 htl HS
            go_upto_region 6 with fail
            refine wp_region_held_drew (S := K6 w (.slice (some ⟨g, o, none⟩) l.length cap) l g (o) x eo et) (by kernel_rfl) HS.out (fun hS0 => ?_)
            refine wpAnyH_take (i := 0) (v := .pointer (some ⟨w.heap.size, 0, none⟩)) rfl (by kernel_rfl) (by kernel_rfl) (by kernel_rfl) (fun _ _ _ h => h) (Or.inl ⟨by rfl, fun z hz => ?_⟩) hS0 ?_
            · obtain ⟨z1, z2, z3, z4, z5, z6⟩ := hz
              go_simp
            try simp only [qA, qB, Act.put, qD, qE, qF]
            refine wpAnyH_take (i := 1) (v := .slice (some ⟨g, o, none⟩) l.length cap) rfl (by kernel_rfl) (by kernel_rfl) (by kernel_rfl) (fun _ _ _ h => h) (Or.inl ⟨by rfl, fun z hz => ?_⟩) hS0 ?_
            · obtain ⟨z1, z2, z3, z4, z5, z6⟩ := hz
              go_simp
            try simp only [qA, qB, qC, Act.put, qD, qE, qF]
            refine wpAnyH_take (i := 2) (v := .int .i64 0) rfl (by kernel_rfl) (by kernel_rfl) (by kernel_rfl) (fun _ _ _ h => h) (Or.inl ⟨by rfl, fun z hz => ?_⟩) hS0 ?_
            · obtain ⟨z1, z2, z3, z4, z5, z6⟩ := hz
              go_simp
            try simp only [qA, qB, qC, Act.put, qD, qE, qF]
            refine wpAnyH_take (i := 3) (v := .pointer (some ⟨g, o, none⟩)) rfl (by kernel_rfl) (by kernel_rfl) (by kernel_rfl) (fun _ _ _ h => h) (Or.inl ⟨by rfl, fun z hz => ?_⟩) hS0 ?_
            · obtain ⟨z1, z2, z3, z4, z5, z6⟩ := hz
              go_simp
            try simp only [qA, qB, qC, Act.put, qD, qE, qF]
            refine wpAnyH_take (i := 4) (v := .agg #[x, .string (S et)]) rfl (by kernel_rfl) (by kernel_rfl) (by kernel_rfl) (fun _ _ _ h => h) (Or.inl ⟨by rfl, fun z hz => ?_⟩) hS0 ?_
            · obtain ⟨z1, z2, z3, z4, z5, z6⟩ := hz
              go_simp
            try simp only [qA, qB, qC, Act.put, qD, qE, qF]
            refine wpAnyH_ready (rs := [5]) (by kernel_rfl) (by simp) ?_
            refine AllReadyH.cons rfl (fun K hK => ?_) AllReadyH.nil
            have HS1 := Lib.hid hS0
            have HX := Lib.hid (hS0.2.2.2.2.1)
            go_simp
            refine (l6Entry x eo et _ HX.out htl).mono ?_
            rintro e v ⟨rfl, hb⟩
            rw [hok]
            refine hK.out _ _ (HS1.out.step hb) (fun hS1 => ?_)
            clear hK K hb
            try simp only [qA, qB, qC, Act.put, qD, qE, qF]
            refine wpAnyH_take (i := 6) (v := .bool false) rfl (by kernel_rfl) (by kernel_rfl) (by kernel_rfl) (fun _ _ _ h => h) (Or.inl ⟨by rfl, fun z hz => ?_⟩) hS1 ?_
            · obtain ⟨z1, z2, z3, z4, z5, z6⟩ := hz
              go_simp
            try simp only [qA, qB, qC, Act.put, qD, qE, qF]
            refine wpAnyH_take (i := 7) (v := .bool false) rfl (by kernel_rfl) (by kernel_rfl) (by kernel_rfl) (fun _ _ _ h => h) (Or.inl ⟨by rfl, fun z hz => ?_⟩) hS1 ?_
            · obtain ⟨z1, z2, z3, z4, z5, z6⟩ := hz
              go_simp
            try simp only [qA, qB, qC, Act.put, qD, qE, qF]
            refine wpAnyH_take (i := 8) (v := .int .i64 0) rfl (by kernel_rfl) (by kernel_rfl) (by kernel_rfl) (fun _ _ _ h => h) (Or.inl ⟨by rfl, fun z hz => ?_⟩) hS1 ?_
            · obtain ⟨z1, z2, z3, z4, z5, z6⟩ := hz
              go_simp
            try simp only [qA, qB, qC, Act.put, qD, qE, qF]
            refine wpAnyH_take (i := 9) (v := .bool false) rfl (by kernel_rfl) (by kernel_rfl) (by kernel_rfl) (fun _ _ _ h => h) (Or.inl ⟨by rfl, fun z hz => ?_⟩) hS1 ?_
            · obtain ⟨z1, z2, z3, z4, z5, z6⟩ := hz
              go_simp
            try simp only [qA, qB, qC, Act.put, qD, qE, qF]
            refine wpAnyH_take (i := 10) (v := .bool false) rfl (by kernel_rfl) (by kernel_rfl) (by kernel_rfl) (fun _ _ _ h => h) (Or.inl ⟨by rfl, fun z hz => ?_⟩) hS1 ?_
            · obtain ⟨z1, z2, z3, z4, z5, z6⟩ := hz
              go_simp
            try simp only [qA, qB, qC, Act.put, qD, qE, qF]
            refine wpAnyH_take (i := 11) rfl (by kernel_rfl) (by kernel_rfl) (by kernel_rfl) (fun _ _ _ h => h) (Or.inr ⟨by rfl, rfl⟩) hS1 ?_
            try simp only [qA, qB, qC, Act.put, qD, qE, qF]
            refine wpAnyH_take (i := 12) rfl (by kernel_rfl) (by kernel_rfl) (by kernel_rfl) (fun _ _ _ h => h) (Or.inr ⟨by rfl, rfl⟩) hS1 ?_
            try simp only [qA, qB, qC, Act.put, qD, qE, qF]
            refine wpAnyH_take (i := 13) rfl (by kernel_rfl) (by kernel_rfl) (by kernel_rfl) (fun _ _ _ h => h) (Or.inr ⟨by rfl, rfl⟩) hS1 ?_
            try simp only [qA, qB, qC, Act.put, qD, qE, qF]
            refine wpAnyH_take (i := 14) rfl (by kernel_rfl) (by kernel_rfl) (by kernel_rfl) (fun _ _ _ h => h) (Or.inr ⟨by rfl, rfl⟩) hS1 ?_
            try simp only [qA, qB, qC, Act.put, qD, qE, qF]
            refine wpAnyH_take (i := 15) rfl (by kernel_rfl) (by kernel_rfl) (by kernel_rfl) (fun _ _ _ h => h) (Or.inr ⟨by rfl, rfl⟩) hS1 ?_
            try simp only [qA, qB, qC, Act.put, qD, qE, qF]
            refine wpAnyH_take (i := 16) rfl (by kernel_rfl) (by kernel_rfl) (by kernel_rfl) (fun _ _ _ h => h) (Or.inr ⟨by rfl, rfl⟩) hS1 ?_
            try simp only [qA, qB, qC, Act.put, qD, qE, qF]
            refine wpAnyH_take (i := 17) rfl (by kernel_rfl) (by kernel_rfl) (by kernel_rfl) (fun _ _ _ h => h) (Or.inr ⟨by rfl, rfl⟩) hS1 ?_
            try simp only [qA, qB, qC, Act.put, qD, qE, qF]
            refine wpAnyH_take (i := 18) rfl (by kernel_rfl) (by kernel_rfl) (by kernel_rfl) (fun _ _ _ h => h) (Or.inr ⟨by rfl, rfl⟩) hS1 ?_
            try simp only [qA, qB, qC, Act.put, qD, qE, qF]
            refine wpAnyH_take (i := 19) rfl (by kernel_rfl) (by kernel_rfl) (by kernel_rfl) (fun _ _ _ h => h) (Or.inr ⟨by rfl, rfl⟩) hS1 ?_
            try simp only [qA, qB, qC, Act.put, qD, qE, qF]
            refine wpAnyH_take (i := 20) rfl (by kernel_rfl) (by kernel_rfl) (by kernel_rfl) (fun _ _ _ h => h) (Or.inr ⟨by rfl, rfl⟩) hS1 ?_
            try simp only [qA, qB, qC, Act.put, qD, qE, qF]
            refine wpAnyH_take (i := 21) rfl (by kernel_rfl) (by kernel_rfl) (by kernel_rfl) (fun _ _ _ h => h) (Or.inr ⟨by rfl, rfl⟩) hS1 ?_
            try simp only [qA, qB, qC, Act.put, qD, qE, qF]
            refine wpAnyH_take (i := 22) rfl (by kernel_rfl) (by kernel_rfl) (by kernel_rfl) (fun _ _ _ h => h) (Or.inr ⟨by rfl, rfl⟩) hS1 ?_
            try simp only [qA, qB, qC, Act.put, qD, qE, qF]
            refine wpAnyH_take (i := 23) rfl (by kernel_rfl) (by kernel_rfl) (by kernel_rfl) (fun _ _ _ h => h) (Or.inr ⟨by rfl, rfl⟩) hS1 ?_
            try simp only [qA, qB, qC, Act.put, qD, qE, qF]
            refine wpAnyH_take (i := 24) rfl (by kernel_rfl) (by kernel_rfl) (by kernel_rfl) (fun _ _ _ h => h) (Or.inr ⟨by rfl, rfl⟩) hS1 ?_
            try simp only [qA, qB, qC, Act.put, qD, qE, qF]
            refine wpAnyH_take (i := 25) rfl (by kernel_rfl) (by kernel_rfl) (by kernel_rfl) (fun _ _ _ h => h) (Or.inr ⟨by rfl, rfl⟩) hS1 ?_
            try simp only [qA, qB, qC, Act.put, qD, qE, qF]
            refine wpAnyH_take (i := 26) (v := .bool false) rfl (by kernel_rfl) (by kernel_rfl) (by kernel_rfl) (fun _ _ _ h => h) (Or.inl ⟨by rfl, fun z hz => ?_⟩) hS1 ?_
            · obtain ⟨z1, z2, z3, z4, z5, z6⟩ := hz
              go_simp
            try simp only [qA, qB, qC, Act.put, qD, qE, qF]
            refine wpAnyH_take (i := 27) (v := .bool false) rfl (by kernel_rfl) (by kernel_rfl) (by kernel_rfl) (fun _ _ _ h => h) (Or.inl ⟨by rfl, fun z hz => ?_⟩) hS1 ?_
            · obtain ⟨z1, z2, z3, z4, z5, z6⟩ := hz
              go_simp
            try simp only [qA, qB, qC, Act.put, qD, qE, qF]
            refine wpAnyH_done (by kernel_rfl) ?_ _
            have HK2 := Lib.hid (hS1.2.2.2.2.2)
            clear hS0 hS1 HS1
            go_wp2
            go_roundw
            case rel => exact ⟨0 + 1, by omega, by go_num, HALL2.out, HR2.out, HK2.out⟩
            case measure => simp [intOf]; omega
          · obtain ⟨g', o', hgg, _, y, p0, _, hy⟩ := hent.at (j - 1) (by omega)
            injection hgg with hgg
            injection hgg with hg1 hg2 _
            subst hg1 hg2
            have HS' := Lib.hid (show K7 w (.slice (some ⟨g, o, none⟩) l.length cap) l g (o + j * 2) x l[j].1 l[j].2 (o + (j - 1) * 2) y (l[j - 1]'(by omega)).1 wr.drew from K7.step ⟨d0, c0, c1, p0, hy, K6.step ⟨d0, c0, c1, hg, hx, HK.out⟩ (Below.refl _ _)⟩ (Below.refl _ _).drew)
            have HCM := Lib.hid (show P.rising (l.take (j + 1)) = true ∨ ¬ P.cmp (l[j - 1]'(by omega)).1 l[j].1 < 0 from by
              by_cases hc : P.cmp (l[j - 1]'(by omega)).1 l[j].1 < 0
              · left
                have := P.rising_take (l := l) (j := j - 1) (by omega) (by rw [show j - 1 + 1 = j by omega]; exact HR.out) (by simpa [show j - 1 + 1 = j by omega] using hc)
                rwa [show j - 1 + 2 = j + 1 by omega] at this
              · exact .inr hc)
            have HCN := Lib.hid (show ¬ P.cmp (l[j - 1]'(by omega)).1 l[j].1 < 0 → P.rising l = false from by
              intro hc
              cases hr : P.rising l
              · rfl
              · exfalso
                have := P.rising_at hr (j := j - 1) (by omega)
                exact hc (by simpa [show j - 1 + 1 = j by omega] using this))
            have hj1 : 0 < (j : Int) := by omega
            have hj2 : 1 ≤ (j : Int) := by omega
            have hj3 : 0 < j := by omega
            have hw1 : IntKind.i64.wrap ((j : Int) - 1) = (j : Int) - 1 := IntWalk.i64_in _ (by omega)
            have hn3 : ¬ (l.length : Int) ≤ (j : Int) - 1 := by omega
            clear hent hbel hx hy HS
            generalize (l[j - 1]'(by omega)).1 = po at *
            generalize l[j] = en at *
            obtain ⟨eo, et⟩ := en
            simp only at c1 htl HS' HCM HCN
            rcases Int.lt_or_le (P.cmp po eo) 0 with hc | hc
            · have HR2 := Lib.hid (HCM.out.resolve_right fun h => h hc)
              go_upto_region 6 with fail
              refine wp_region_held_drew (S := K7 w (.slice (some ⟨g, o, none⟩) l.length cap) l g (o + j * 2) x eo et (o + (j - 1) * 2) y po) (by kernel_rfl) HS'.out (fun hS0 => ?_)
              refine wpAnyH_take (i := 0) (v := .pointer (some ⟨w.heap.size, 0, none⟩)) rfl (by kernel_rfl) (by kernel_rfl) (by kernel_rfl) (fun _ _ _ h => h) (Or.inl ⟨by rfl, fun z hz => ?_⟩) hS0 ?_
              · obtain ⟨z1, z2, z3, z4, z5, z6⟩ := hz
                go_simp
              try simp only [qA, qB, Act.put, qD, qE, qF]
              refine wpAnyH_take (i := 1) (v := .slice (some ⟨g, o, none⟩) l.length cap) rfl (by kernel_rfl) (by kernel_rfl) (by kernel_rfl) (fun _ _ _ h => h) (Or.inl ⟨by rfl, fun z hz => ?_⟩) hS0 ?_
              · obtain ⟨z1, z2, z3, z4, z5, z6⟩ := hz
                go_simp
              try simp only [qA, qB, qC, Act.put, qD, qE, qF]
              refine wpAnyH_take (i := 2) (v := .int .i64 j) rfl (by kernel_rfl) (by kernel_rfl) (by kernel_rfl) (fun _ _ _ h => h) (Or.inl ⟨by rfl, fun z hz => ?_⟩) hS0 ?_
              · obtain ⟨z1, z2, z3, z4, z5, z6⟩ := hz
                go_simp
              try simp only [qA, qB, qC, Act.put, qD, qE, qF]
              refine wpAnyH_take (i := 3) (v := .pointer (some ⟨g, o + j * 2, none⟩)) rfl (by kernel_rfl) (by kernel_rfl) (by kernel_rfl) (fun _ _ _ h => h) (Or.inl ⟨by rfl, fun z hz => ?_⟩) hS0 ?_
              · obtain ⟨z1, z2, z3, z4, z5, z6⟩ := hz
                go_simp
              try simp only [qA, qB, qC, Act.put, qD, qE, qF]
              refine wpAnyH_take (i := 4) (v := .agg #[x, .string (S et)]) rfl (by kernel_rfl) (by kernel_rfl) (by kernel_rfl) (fun _ _ _ h => h) (Or.inl ⟨by rfl, fun z hz => ?_⟩) hS0 ?_
              · obtain ⟨z1, z2, z3, z4, z5, z6⟩ := hz
                go_simp
              try simp only [qA, qB, qC, Act.put, qD, qE, qF]
              refine wpAnyH_ready (rs := [5]) (by kernel_rfl) (by simp) ?_
              refine AllReadyH.cons rfl (fun K hK => ?_) AllReadyH.nil
              have HS1 := Lib.hid hS0
              have HX := Lib.hid (hS0.2.2.2.2.2.2.2.2.2.1)
              go_simp
              refine (l6Entry x eo et _ HX.out htl).mono ?_
              rintro e v ⟨rfl, hb⟩
              rw [hok]
              refine hK.out _ _ (HS1.out.step hb) (fun hS1 => ?_)
              clear hK K hb
              try simp only [qA, qB, qC, Act.put, qD, qE, qF]
              refine wpAnyH_take (i := 6) (v := .bool false) rfl (by kernel_rfl) (by kernel_rfl) (by kernel_rfl) (fun _ _ _ h => h) (Or.inl ⟨by rfl, fun z hz => ?_⟩) hS1 ?_
              · obtain ⟨z1, z2, z3, z4, z5, z6⟩ := hz
                go_simp
              try simp only [qA, qB, qC, Act.put, qD, qE, qF]
              refine wpAnyH_take (i := 7) (v := .bool false) rfl (by kernel_rfl) (by kernel_rfl) (by kernel_rfl) (fun _ _ _ h => h) (Or.inl ⟨by rfl, fun z hz => ?_⟩) hS1 ?_
              · obtain ⟨z1, z2, z3, z4, z5, z6⟩ := hz
                go_simp
              try simp only [qA, qB, qC, Act.put, qD, qE, qF]
              refine wpAnyH_take (i := 8) (v := .int .i64 j) rfl (by kernel_rfl) (by kernel_rfl) (by kernel_rfl) (fun _ _ _ h => h) (Or.inl ⟨by rfl, fun z hz => ?_⟩) hS1 ?_
              · obtain ⟨z1, z2, z3, z4, z5, z6⟩ := hz
                go_simp
              try simp only [qA, qB, qC, Act.put, qD, qE, qF]
              refine wpAnyH_take (i := 9) (v := .bool true) rfl (by kernel_rfl) (by kernel_rfl) (by kernel_rfl) (fun _ _ _ h => h) (Or.inl ⟨by rfl, fun z hz => ?_⟩) hS1 ?_
              · obtain ⟨z1, z2, z3, z4, z5, z6⟩ := hz
                go_simp
              try simp only [qA, qB, qC, Act.put, qD, qE, qF]
              refine wpAnyH_take (i := 10) (v := .bool true) rfl (by kernel_rfl) (by kernel_rfl) (by kernel_rfl) (fun _ _ _ h => h) (Or.inl ⟨by rfl, fun z hz => ?_⟩) hS1 ?_
              · obtain ⟨z1, z2, z3, z4, z5, z6⟩ := hz
                go_simp
              try simp only [qA, qB, qC, Act.put, qD, qE, qF]
              refine wpAnyH_take (i := 11) (v := .pointer (some ⟨w.heap.size, 0, none⟩)) rfl (by kernel_rfl) (by kernel_rfl) (by kernel_rfl) (fun _ _ _ h => h) (Or.inl ⟨by rfl, fun z hz => ?_⟩) hS1 ?_
              · obtain ⟨z1, z2, z3, z4, z5, z6⟩ := hz
                go_simp
              try simp only [qA, qB, qC, Act.put, qD, qE, qF]
              refine wpAnyH_take (i := 12) (v := .slice (some ⟨g, o, none⟩) l.length cap) rfl (by kernel_rfl) (by kernel_rfl) (by kernel_rfl) (fun _ _ _ h => h) (Or.inl ⟨by rfl, fun z hz => ?_⟩) hS1 ?_
              · obtain ⟨z1, z2, z3, z4, z5, z6⟩ := hz
                go_simp
              try simp only [qA, qB, qC, Act.put, qD, qE, qF]
              refine wpAnyH_take (i := 13) (v := .int .i64 j) rfl (by kernel_rfl) (by kernel_rfl) (by kernel_rfl) (fun _ _ _ h => h) (Or.inl ⟨by rfl, fun z hz => ?_⟩) hS1 ?_
              · obtain ⟨z1, z2, z3, z4, z5, z6⟩ := hz
                go_simp
              try simp only [qA, qB, qC, Act.put, qD, qE, qF]
              refine wpAnyH_take (i := 14) (v := .int .i64 ((j : Int) - 1)) rfl (by kernel_rfl) (by kernel_rfl) (by kernel_rfl) (fun _ _ _ h => h) (Or.inl ⟨by rfl, fun z hz => ?_⟩) hS1 ?_
              · obtain ⟨z1, z2, z3, z4, z5, z6⟩ := hz
                go_simp
              try simp only [qA, qB, qC, Act.put, qD, qE, qF]
              refine wpAnyH_take (i := 15) (v := .pointer (some ⟨g, o + (j - 1) * 2, none⟩)) rfl (by kernel_rfl) (by kernel_rfl) (by kernel_rfl) (fun _ _ _ h => h) (Or.inl ⟨by rfl, fun z hz => ?_⟩) hS1 ?_
              · obtain ⟨z1, z2, z3, z4, z5, z6⟩ := hz
                go_simp
              try simp only [qA, qB, qC, Act.put, qD, qE, qF]
              refine wpAnyH_take (i := 16) (v := .pointer (some ⟨g, o + (j - 1) * 2, none⟩)) rfl (by kernel_rfl) (by kernel_rfl) (by kernel_rfl) (fun _ _ _ h => h) (Or.inl ⟨by rfl, fun z hz => ?_⟩) hS1 ?_
              · obtain ⟨z1, z2, z3, z4, z5, z6⟩ := hz
                go_simp
              try simp only [qA, qB, qC, Act.put, qD, qE, qF]
              refine wpAnyH_take (i := 17) (v := y) rfl (by kernel_rfl) (by kernel_rfl) (by kernel_rfl) (fun _ _ _ h => h) (Or.inl ⟨by rfl, fun z hz => ?_⟩) hS1 ?_
              · obtain ⟨z1, z2, z3, z4, z5, z6⟩ := hz
                go_simp
              try simp only [qA, qB, qC, Act.put, qD, qE, qF]
              refine wpAnyH_take (i := 18) (v := .pointer (some ⟨w.heap.size, 0, none⟩)) rfl (by kernel_rfl) (by kernel_rfl) (by kernel_rfl) (fun _ _ _ h => h) (Or.inl ⟨by rfl, fun z hz => ?_⟩) hS1 ?_
              · obtain ⟨z1, z2, z3, z4, z5, z6⟩ := hz
                go_simp
              try simp only [qA, qB, qC, Act.put, qD, qE, qF]
              refine wpAnyH_take (i := 19) (v := .slice (some ⟨g, o, none⟩) l.length cap) rfl (by kernel_rfl) (by kernel_rfl) (by kernel_rfl) (fun _ _ _ h => h) (Or.inl ⟨by rfl, fun z hz => ?_⟩) hS1 ?_
              · obtain ⟨z1, z2, z3, z4, z5, z6⟩ := hz
                go_simp
              try simp only [qA, qB, qC, Act.put, qD, qE, qF]
              refine wpAnyH_take (i := 20) (v := .int .i64 j) rfl (by kernel_rfl) (by kernel_rfl) (by kernel_rfl) (fun _ _ _ h => h) (Or.inl ⟨by rfl, fun z hz => ?_⟩) hS1 ?_
              · obtain ⟨z1, z2, z3, z4, z5, z6⟩ := hz
                go_simp
              try simp only [qA, qB, qC, Act.put, qD, qE, qF]
              refine wpAnyH_take (i := 21) (v := .pointer (some ⟨g, o + j * 2, none⟩)) rfl (by kernel_rfl) (by kernel_rfl) (by kernel_rfl) (fun _ _ _ h => h) (Or.inl ⟨by rfl, fun z hz => ?_⟩) hS1 ?_
              · obtain ⟨z1, z2, z3, z4, z5, z6⟩ := hz
                go_simp
              try simp only [qA, qB, qC, Act.put, qD, qE, qF]
              refine wpAnyH_take (i := 22) (v := .pointer (some ⟨g, o + j * 2, none⟩)) rfl (by kernel_rfl) (by kernel_rfl) (by kernel_rfl) (fun _ _ _ h => h) (Or.inl ⟨by rfl, fun z hz => ?_⟩) hS1 ?_
              · obtain ⟨z1, z2, z3, z4, z5, z6⟩ := hz
                go_simp
              try simp only [qA, qB, qC, Act.put, qD, qE, qF]
              refine wpAnyH_take (i := 23) (v := x) rfl (by kernel_rfl) (by kernel_rfl) (by kernel_rfl) (fun _ _ _ h => h) (Or.inl ⟨by rfl, fun z hz => ?_⟩) hS1 ?_
              · obtain ⟨z1, z2, z3, z4, z5, z6⟩ := hz
                go_simp
              try simp only [qA, qB, qC, Act.put, qD, qE, qF]
              refine wpAnyH_ready (rs := [24]) (by kernel_rfl) (by simp) ?_
              refine AllReadyH.cons rfl (fun K hK => ?_) AllReadyH.nil
              have HS2 := Lib.hid hS1
              have HY := Lib.hid hS1.2.2.2.2.1
              have HX2 := Lib.hid hS1.2.2.2.2.2.2.2.2.2.1
              go_simp
              refine (l4Compare y x po eo _ HY.out HX2.out).mono ?_
              rintro e v2 ⟨rfl, hb⟩
              refine hK.out _ _ (HS2.out.step hb) (fun hS2 => ?_)
              clear hK K hb
              try simp only [qA, qB, qC, Act.put, qD, qE, qF]
              refine wpAnyH_take (i := 25) (v := .bool false) rfl (by kernel_rfl) (by kernel_rfl) (by kernel_rfl) (fun _ _ _ h => h) (Or.inl ⟨by rfl, fun z hz => ?_⟩) hS2 ?_
              · obtain ⟨z1, z2, z3, z4, z5, z6⟩ := hz
                go_simp
              try simp only [qA, qB, qC, Act.put, qD, qE, qF]
              refine wpAnyH_take (i := 26) (v := .bool false) rfl (by kernel_rfl) (by kernel_rfl) (by kernel_rfl) (fun _ _ _ h => h) (Or.inl ⟨by rfl, fun z hz => ?_⟩) hS2 ?_
              · obtain ⟨z1, z2, z3, z4, z5, z6⟩ := hz
                go_simp
              try simp only [qA, qB, qC, Act.put, qD, qE, qF]
              refine wpAnyH_take (i := 27) (v := .bool false) rfl (by kernel_rfl) (by kernel_rfl) (by kernel_rfl) (fun _ _ _ h => h) (Or.inl ⟨by rfl, fun z hz => ?_⟩) hS2 ?_
              · obtain ⟨z1, z2, z3, z4, z5, z6⟩ := hz
                go_simp
              try simp only [qA, qB, qC, Act.put, qD, qE, qF]
              refine wpAnyH_done (by kernel_rfl) ?_ _
              have HK2 := Lib.hid (hS2.2.2.2.2.2.2.2.2.2.2)
              clear hS0 hS1 hS2 HS1 HS2
              go_wp2
              go_roundw
              case rel => exact ⟨j + 1, by omega, by go_num, HALL2.out, HR2.out, HK2.out⟩
              case measure => simp [intOf]; omega
            · have HNO := Lib.hid (HCN.out (by omega))
              go_upto_region 6 with fail
              refine wp_region_held_drew (S := K7 w (.slice (some ⟨g, o, none⟩) l.length cap) l g (o + j * 2) x eo et (o + (j - 1) * 2) y po) (by kernel_rfl) HS'.out (fun hS0 => ?_)
              refine wpAnyH_take (i := 0) (v := .pointer (some ⟨w.heap.size, 0, none⟩)) rfl (by kernel_rfl) (by kernel_rfl) (by kernel_rfl) (fun _ _ _ h => h) (Or.inl ⟨by rfl, fun z hz => ?_⟩) hS0 ?_
              · obtain ⟨z1, z2, z3, z4, z5, z6⟩ := hz
                go_simp
              try simp only [qA, qB, Act.put, qD, qE, qF]
              refine wpAnyH_take (i := 1) (v := .slice (some ⟨g, o, none⟩) l.length cap) rfl (by kernel_rfl) (by kernel_rfl) (by kernel_rfl) (fun _ _ _ h => h) (Or.inl ⟨by rfl, fun z hz => ?_⟩) hS0 ?_
              · obtain ⟨z1, z2, z3, z4, z5, z6⟩ := hz
                go_simp
              try simp only [qA, qB, qC, Act.put, qD, qE, qF]
              refine wpAnyH_take (i := 2) (v := .int .i64 j) rfl (by kernel_rfl) (by kernel_rfl) (by kernel_rfl) (fun _ _ _ h => h) (Or.inl ⟨by rfl, fun z hz => ?_⟩) hS0 ?_
              · obtain ⟨z1, z2, z3, z4, z5, z6⟩ := hz
                go_simp
              try simp only [qA, qB, qC, Act.put, qD, qE, qF]
              refine wpAnyH_take (i := 3) (v := .pointer (some ⟨g, o + j * 2, none⟩)) rfl (by kernel_rfl) (by kernel_rfl) (by kernel_rfl) (fun _ _ _ h => h) (Or.inl ⟨by rfl, fun z hz => ?_⟩) hS0 ?_
              · obtain ⟨z1, z2, z3, z4, z5, z6⟩ := hz
                go_simp
              try simp only [qA, qB, qC, Act.put, qD, qE, qF]
              refine wpAnyH_take (i := 4) (v := .agg #[x, .string (S et)]) rfl (by kernel_rfl) (by kernel_rfl) (by kernel_rfl) (fun _ _ _ h => h) (Or.inl ⟨by rfl, fun z hz => ?_⟩) hS0 ?_
              · obtain ⟨z1, z2, z3, z4, z5, z6⟩ := hz
                go_simp
              try simp only [qA, qB, qC, Act.put, qD, qE, qF]
              refine wpAnyH_ready (rs := [5]) (by kernel_rfl) (by simp) ?_
              refine AllReadyH.cons rfl (fun K hK => ?_) AllReadyH.nil
              have HS1 := Lib.hid hS0
              have HX := Lib.hid (hS0.2.2.2.2.2.2.2.2.2.1)
              go_simp
              refine (l6Entry x eo et _ HX.out htl).mono ?_
              rintro e v ⟨rfl, hb⟩
              rw [hok]
              refine hK.out _ _ (HS1.out.step hb) (fun hS1 => ?_)
              clear hK K hb
              try simp only [qA, qB, qC, Act.put, qD, qE, qF]
              refine wpAnyH_take (i := 6) (v := .bool false) rfl (by kernel_rfl) (by kernel_rfl) (by kernel_rfl) (fun _ _ _ h => h) (Or.inl ⟨by rfl, fun z hz => ?_⟩) hS1 ?_
              · obtain ⟨z1, z2, z3, z4, z5, z6⟩ := hz
                go_simp
              try simp only [qA, qB, qC, Act.put, qD, qE, qF]
              refine wpAnyH_take (i := 7) (v := .bool false) rfl (by kernel_rfl) (by kernel_rfl) (by kernel_rfl) (fun _ _ _ h => h) (Or.inl ⟨by rfl, fun z hz => ?_⟩) hS1 ?_
              · obtain ⟨z1, z2, z3, z4, z5, z6⟩ := hz
                go_simp
              try simp only [qA, qB, qC, Act.put, qD, qE, qF]
              refine wpAnyH_take (i := 8) (v := .int .i64 j) rfl (by kernel_rfl) (by kernel_rfl) (by kernel_rfl) (fun _ _ _ h => h) (Or.inl ⟨by rfl, fun z hz => ?_⟩) hS1 ?_
              · obtain ⟨z1, z2, z3, z4, z5, z6⟩ := hz
                go_simp
              try simp only [qA, qB, qC, Act.put, qD, qE, qF]
              refine wpAnyH_take (i := 9) (v := .bool true) rfl (by kernel_rfl) (by kernel_rfl) (by kernel_rfl) (fun _ _ _ h => h) (Or.inl ⟨by rfl, fun z hz => ?_⟩) hS1 ?_
              · obtain ⟨z1, z2, z3, z4, z5, z6⟩ := hz
                go_simp
              try simp only [qA, qB, qC, Act.put, qD, qE, qF]
              refine wpAnyH_take (i := 10) (v := .bool true) rfl (by kernel_rfl) (by kernel_rfl) (by kernel_rfl) (fun _ _ _ h => h) (Or.inl ⟨by rfl, fun z hz => ?_⟩) hS1 ?_
              · obtain ⟨z1, z2, z3, z4, z5, z6⟩ := hz
                go_simp
              try simp only [qA, qB, qC, Act.put, qD, qE, qF]
              refine wpAnyH_take (i := 11) (v := .pointer (some ⟨w.heap.size, 0, none⟩)) rfl (by kernel_rfl) (by kernel_rfl) (by kernel_rfl) (fun _ _ _ h => h) (Or.inl ⟨by rfl, fun z hz => ?_⟩) hS1 ?_
              · obtain ⟨z1, z2, z3, z4, z5, z6⟩ := hz
                go_simp
              try simp only [qA, qB, qC, Act.put, qD, qE, qF]
              refine wpAnyH_take (i := 12) (v := .slice (some ⟨g, o, none⟩) l.length cap) rfl (by kernel_rfl) (by kernel_rfl) (by kernel_rfl) (fun _ _ _ h => h) (Or.inl ⟨by rfl, fun z hz => ?_⟩) hS1 ?_
              · obtain ⟨z1, z2, z3, z4, z5, z6⟩ := hz
                go_simp
              try simp only [qA, qB, qC, Act.put, qD, qE, qF]
              refine wpAnyH_take (i := 13) (v := .int .i64 j) rfl (by kernel_rfl) (by kernel_rfl) (by kernel_rfl) (fun _ _ _ h => h) (Or.inl ⟨by rfl, fun z hz => ?_⟩) hS1 ?_
              · obtain ⟨z1, z2, z3, z4, z5, z6⟩ := hz
                go_simp
              try simp only [qA, qB, qC, Act.put, qD, qE, qF]
              refine wpAnyH_take (i := 14) (v := .int .i64 ((j : Int) - 1)) rfl (by kernel_rfl) (by kernel_rfl) (by kernel_rfl) (fun _ _ _ h => h) (Or.inl ⟨by rfl, fun z hz => ?_⟩) hS1 ?_
              · obtain ⟨z1, z2, z3, z4, z5, z6⟩ := hz
                go_simp
              try simp only [qA, qB, qC, Act.put, qD, qE, qF]
              refine wpAnyH_take (i := 15) (v := .pointer (some ⟨g, o + (j - 1) * 2, none⟩)) rfl (by kernel_rfl) (by kernel_rfl) (by kernel_rfl) (fun _ _ _ h => h) (Or.inl ⟨by rfl, fun z hz => ?_⟩) hS1 ?_
              · obtain ⟨z1, z2, z3, z4, z5, z6⟩ := hz
                go_simp
              try simp only [qA, qB, qC, Act.put, qD, qE, qF]
              refine wpAnyH_take (i := 16) (v := .pointer (some ⟨g, o + (j - 1) * 2, none⟩)) rfl (by kernel_rfl) (by kernel_rfl) (by kernel_rfl) (fun _ _ _ h => h) (Or.inl ⟨by rfl, fun z hz => ?_⟩) hS1 ?_
              · obtain ⟨z1, z2, z3, z4, z5, z6⟩ := hz
                go_simp
              try simp only [qA, qB, qC, Act.put, qD, qE, qF]
              refine wpAnyH_take (i := 17) (v := y) rfl (by kernel_rfl) (by kernel_rfl) (by kernel_rfl) (fun _ _ _ h => h) (Or.inl ⟨by rfl, fun z hz => ?_⟩) hS1 ?_
              · obtain ⟨z1, z2, z3, z4, z5, z6⟩ := hz
                go_simp
              try simp only [qA, qB, qC, Act.put, qD, qE, qF]
              refine wpAnyH_take (i := 18) (v := .pointer (some ⟨w.heap.size, 0, none⟩)) rfl (by kernel_rfl) (by kernel_rfl) (by kernel_rfl) (fun _ _ _ h => h) (Or.inl ⟨by rfl, fun z hz => ?_⟩) hS1 ?_
              · obtain ⟨z1, z2, z3, z4, z5, z6⟩ := hz
                go_simp
              try simp only [qA, qB, qC, Act.put, qD, qE, qF]
              refine wpAnyH_take (i := 19) (v := .slice (some ⟨g, o, none⟩) l.length cap) rfl (by kernel_rfl) (by kernel_rfl) (by kernel_rfl) (fun _ _ _ h => h) (Or.inl ⟨by rfl, fun z hz => ?_⟩) hS1 ?_
              · obtain ⟨z1, z2, z3, z4, z5, z6⟩ := hz
                go_simp
              try simp only [qA, qB, qC, Act.put, qD, qE, qF]
              refine wpAnyH_take (i := 20) (v := .int .i64 j) rfl (by kernel_rfl) (by kernel_rfl) (by kernel_rfl) (fun _ _ _ h => h) (Or.inl ⟨by rfl, fun z hz => ?_⟩) hS1 ?_
              · obtain ⟨z1, z2, z3, z4, z5, z6⟩ := hz
                go_simp
              try simp only [qA, qB, qC, Act.put, qD, qE, qF]
              refine wpAnyH_take (i := 21) (v := .pointer (some ⟨g, o + j * 2, none⟩)) rfl (by kernel_rfl) (by kernel_rfl) (by kernel_rfl) (fun _ _ _ h => h) (Or.inl ⟨by rfl, fun z hz => ?_⟩) hS1 ?_
              · obtain ⟨z1, z2, z3, z4, z5, z6⟩ := hz
                go_simp
              try simp only [qA, qB, qC, Act.put, qD, qE, qF]
              refine wpAnyH_take (i := 22) (v := .pointer (some ⟨g, o + j * 2, none⟩)) rfl (by kernel_rfl) (by kernel_rfl) (by kernel_rfl) (fun _ _ _ h => h) (Or.inl ⟨by rfl, fun z hz => ?_⟩) hS1 ?_
              · obtain ⟨z1, z2, z3, z4, z5, z6⟩ := hz
                go_simp
              try simp only [qA, qB, qC, Act.put, qD, qE, qF]
              refine wpAnyH_take (i := 23) (v := x) rfl (by kernel_rfl) (by kernel_rfl) (by kernel_rfl) (fun _ _ _ h => h) (Or.inl ⟨by rfl, fun z hz => ?_⟩) hS1 ?_
              · obtain ⟨z1, z2, z3, z4, z5, z6⟩ := hz
                go_simp
              try simp only [qA, qB, qC, Act.put, qD, qE, qF]
              refine wpAnyH_ready (rs := [24]) (by kernel_rfl) (by simp) ?_
              refine AllReadyH.cons rfl (fun K hK => ?_) AllReadyH.nil
              have HS2 := Lib.hid hS1
              have HY := Lib.hid hS1.2.2.2.2.1
              have HX2 := Lib.hid hS1.2.2.2.2.2.2.2.2.2.1
              go_simp
              refine (l4Compare y x po eo _ HY.out HX2.out).mono ?_
              rintro e v2 ⟨rfl, hb⟩
              refine hK.out _ _ (HS2.out.step hb) (fun hS2 => ?_)
              clear hK K hb
              try simp only [qA, qB, qC, Act.put, qD, qE, qF]
              refine wpAnyH_take (i := 25) (v := .bool true) rfl (by kernel_rfl) (by kernel_rfl) (by kernel_rfl) (fun _ _ _ h => h) (Or.inl ⟨by rfl, fun z hz => ?_⟩) hS2 ?_
              · obtain ⟨z1, z2, z3, z4, z5, z6⟩ := hz
                go_simp
              try simp only [qA, qB, qC, Act.put, qD, qE, qF]
              refine wpAnyH_take (i := 26) (v := .bool true) rfl (by kernel_rfl) (by kernel_rfl) (by kernel_rfl) (fun _ _ _ h => h) (Or.inl ⟨by rfl, fun z hz => ?_⟩) hS2 ?_
              · obtain ⟨z1, z2, z3, z4, z5, z6⟩ := hz
                go_simp
              try simp only [qA, qB, qC, Act.put, qD, qE, qF]
              refine wpAnyH_take (i := 27) (v := .bool true) rfl (by kernel_rfl) (by kernel_rfl) (by kernel_rfl) (fun _ _ _ h => h) (Or.inl ⟨by rfl, fun z hz => ?_⟩) hS2 ?_
              · obtain ⟨z1, z2, z3, z4, z5, z6⟩ := hz
                go_simp
              try simp only [qA, qB, qC, Act.put, qD, qE, qF]
              refine wpAnyH_done (by kernel_rfl) ?_ _
              have HK2 := Lib.hid (hS2.2.2.2.2.2.2.2.2.2.2)
              clear hS0 hS1 hS2 HS1 HS2
              go_wp2
              go_ret
              exact ⟨ret_bool (by rw [HF.out, HNO.out]; simp), HK2.out.2.2.2⟩
      · have hjl : j = l.length := by omega
        subst hjl
        have h1 := HA.out; have h2 := HR.out
        rw [List.take_length] at h1 h2
        have HD := Lib.hid (show P.dic l = true by rw [HF.out, h1, h2]; rfl)
        clear h1 h2 hent
        go_wp2
        go_ret
        exact ⟨ret_bool HD.out.symm, hbel⟩
end
end Go.Proofs.YtmlklnimoknojaaGreatDoor
