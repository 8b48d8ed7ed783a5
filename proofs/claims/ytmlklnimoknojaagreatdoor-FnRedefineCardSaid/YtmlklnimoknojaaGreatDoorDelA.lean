/- Walks: an outline looked for in a dictionary (reference, program). Walks: an entry taken out of a dictionary (reference). Walks: an entry taken out of a dictionary (reference). Walks: an entry taken out of a dictionary (program). -/
import Derived.Deep.DeepCutAuto
import Derived.Deep.RegionLaw
import Derived.Test.YtmlklnimoknojaaGreatDoorCurD
import Derived.Test.YtmlklnimoknojaaGreatDoorLawD
import Derived.Test.YtmlklnimoknojaaGreatDoorOutD
import Derived.Test.YtmlklnimoknojaaGreatDoorValD
namespace Go.Proofs.YtmlklnimoknojaaGreatDoor
section
namespace P
def place (o : List Int) : Dic → Int
  | [] => -1
  | e :: l => if e.1 = o then 0 else if place o l < 0 then -1 else place o l + 1
theorem place_lo (o : List Int) : ∀ l : Dic, -1 ≤ place o l
  | [] => Int.le_refl _
  | e :: l => by
    have := place_lo o l
    unfold place
    split
    · decide
    · split <;> omega
theorem place_none {o : List Int} : ∀ {l : Dic}, (∀ (k : Nat) (h : k < l.length), (l[k]'h).1 ≠ o) → place o l = -1
  | [], _ => rfl
  | e :: l, h => by
    unfold place
    rw [if_neg (show ¬ e.1 = o from h 0 (Nat.succ_pos _)), if_pos]
    rw [place_none fun k hk => by have := h (k + 1) (by simpa using hk); simpa using this]
    decide
theorem place_at {o : List Int} : ∀ {l : Dic} (j : Nat) (hj : j < l.length), (l[j]'hj).1 = o → (∀ (k : Nat) (h : k < j), (l[k]'(by omega)).1 ≠ o) → place o l = j
  | e :: l, 0, _, h, _ => by
    unfold place
    rw [if_pos (by simpa using h)]; rfl
  | e :: l, j + 1, hj, h, hn => by
    unfold place
    have h0 := hn 0 (by omega)
    rw [if_neg (by simpa using h0), place_at j (by simpa using hj) (by simpa using h) (fun k hk => by have := hn (k + 1) (by omega); simpa using this), if_neg (by omega)]
    omega
theorem place_get {o : List Int} {l : Dic} {i : Nat} (h : place o l = i) : ∃ hi : i < l.length, (l[i]'hi).1 = o := by
  by_cases hx : ∃ k, ∃ hk : k < l.length, (l[k]'hk).1 = o
  · obtain ⟨k, hk, hko⟩ := hx
    have key : ∀ n, ∀ k, k ≤ n → ∀ hk : k < l.length, (l[k]'hk).1 = o → ∃ j, ∃ hj : j < l.length, (l[j]'hj).1 = o ∧ place o l = j := by
      intro n
      induction n with
      | zero =>
        intro k hkn hk hko
        refine ⟨k, hk, hko, place_at k hk hko fun m hm => by omega⟩
      | succ n ih =>
        intro k hkn hk hko
        by_cases hlt : ∃ m, ∃ hm : m < k, (l[m]'(by omega)).1 = o
        · obtain ⟨m, hm, hmo⟩ := hlt
          exact ih m (by omega) (by omega) hmo
        · exact ⟨k, hk, hko, place_at k hk hko fun m hm hmo => hlt ⟨m, hm, hmo⟩⟩
    obtain ⟨j, hj, hjo, hp⟩ := key k k (Nat.le_refl _) hk hko
    have : i = j := by omega
    subst this
    exact ⟨hj, hjo⟩
  · have := place_none (o := o) (l := l) fun k hk hko => hx ⟨k, hk, hko⟩
    omega
theorem place_lt {o : List Int} {l : Dic} : place o l < l.length := by
  by_cases h : place o l < 0
  · omega
  · obtain ⟨i, hi⟩ := Int.eq_ofNat_of_zero_le (show 0 ≤ place o l by omega)
    obtain ⟨hl, _⟩ := place_get hi
    omega
end P
open Go Go.RowKit
set_option maxHeartbeats 1000000
set_option maxRecDepth 100000
theorem take_eq_step {a b : List Int} {j : Nat} (ha : j < a.length) (hb : j < b.length) (h : a.take j = b.take j) (he : a[j] = b[j]) : a.take (j + 1) = b.take (j + 1) := by
  rw [take_snoc a j ha, take_snoc b j hb, h, he]
theorem l1Same (u v : Value) (a b : List Int) (w : World) (hu : IntR w u a) (hv : IntR w v b) :
    Calls Tryz.prog 154 #[u, v] w fun e w' => e = .returned (.bool (decide (a = b))) ∧ Below w.heap.size w w' := by
  have HU := Lib.hid hu; have HV := Lib.hid hv
  obtain ⟨ad, cap, rfl, hla, _⟩ := hu
  obtain ⟨bd, dap, rfl, hlb, _⟩ := hv
  by_cases hlen : a.length = b.length
  · have hl1 : ((a.length : Int) != (b.length : Int)) = false := by simp; omega
    have hl2 : ((a.length : Int) == (b.length : Int)) = true := by simp; omega
    have HLE := Lib.hid hlen; clear hlen
    go_enter Tryz.func154, Tryz.ntmps154
    go_wp2
    go_loopw [5] (fun i wr => ∃ j : Nat, j ≤ a.length ∧ i = .int .i64 j ∧ a.take j = b.take j ∧ Below w.heap.size w wr) (fun i _ => a.length - (intOf i).toNat)
    case atStart => exact ⟨0, Nat.zero_le _, rfl, by simp, Below.refl _ _⟩
    case round =>
      obtain ⟨j, hj, rfl, ht, hb⟩ := hrel
      have HB := Lib.hid hb; have HT := Lib.hid ht
      clear ht
      by_cases hlt : j < a.length
      · have hlb2 : j < b.length := by have := HLE.out; omega
        obtain ⟨g, o, hga, hgl, c0⟩ := (HU.out.below hb).at j hlt
        obtain ⟨g', o', hgb, hgl', d0⟩ := (HV.out.below hb).at j hlb2
        have HST := Lib.hid (fun h => take_eq_step hlt hlb2 HT.out h)
        have HNE := Lib.hid (show a[j] ≠ b[j] → decide (a = b) = false from fun h => decide_eq_false fun e => h (by subst e; rfl))
        subst hga hgb
        generalize a[j] = x at *
        generalize b[j] = y at *
        clear hb
        have i1 : (j : Int) < (a.length : Int) := by omega
        by_cases hxy : x = y
        · subst hxy
          have HS2 := Lib.hid (HST.out rfl); clear HST HNE
          go_wp2_with fail
          go_quiet (fail)
          go_wp2
          go_roundw
          case rel => exact ⟨j + 1, by omega, by go_num, HS2.out, below_drewN HB.out _⟩
          case measure => simp [intOf]; omega
        · have HF := Lib.hid (HNE.out hxy)
          have e1 : (x == y) = false := beq_eq_false_iff_ne.2 hxy
          have e2 : (x != y) = true := by simp [bne, e1]
          clear hxy HST HNE
          go_wp2_with fail
          go_quiet (fail)
          go_wp2
          go_ret
          exact ⟨ret_bool HF.out.symm, below_drewN HB.out _⟩
      · have HF := Lib.hid (show decide (a = b) = true from decide_eq_true (by
          have h := HT.out
          have h2 := HLE.out
          rwa [List.take_of_length_le (by omega), List.take_of_length_le (by omega)] at h))
        clear hb
        go_wp2
        go_ret
        exact ⟨ret_bool HF.out.symm, HB.out⟩
  · have hl1 : ((a.length : Int) != (b.length : Int)) = true := by simp; omega
    have hl2 : ((a.length : Int) == (b.length : Int)) = false := by simp; omega
    have HF := Lib.hid (show decide (a = b) = false from decide_eq_false fun e => hlen (by rw [e]))
    clear hlen
    go_enter Tryz.func154, Tryz.ntmps154
    go_wp2
    go_ret
    exact ⟨ret_bool HF.out.symm, Below.refl _ _⟩
theorem getD_of {l : List Int} {j : Nat} (h : j < l.length) : l.getD j 0 = l[j] := by
  rw [List.getD_eq_getElem?_getD, List.getElem?_eq_getElem h]; rfl
theorem equalInts (u v : Value) (a b : List Int) (w : World) (hu : IntR w u a) (hv : IntR w v b) :
    Calls Tryz.prog 136 #[u, v] w fun e w' => e = .returned (.bool (decide (a = b))) ∧ Below w.heap.size w w' := by
  obtain ⟨ad, cap, rfl, hla, _, hra⟩ := hu
  obtain ⟨bd, dap, rfl, hlb, _, hrb⟩ := hv
  by_cases hlen : a.length = b.length
  · rcases hra with rfl | ⟨g, o, rfl, _, hca⟩
    · have hb : b = [] := List.eq_nil_of_length_eq_zero (by simpa using hlen.symm)
      subst hb
      refine (Tryz.slices_Equal_int_empty _ _ _ _ _ w (by simp)).mono ?_
      rintro e w' ⟨rfl, rfl⟩
      exact ⟨rfl, Below.refl _ _⟩
    · rcases hrb with rfl | ⟨g', o', rfl, _, hcb⟩
      · have ha : a = [] := List.eq_nil_of_length_eq_zero (by simpa using hlen)
        subst ha
        refine (Tryz.slices_Equal_int_empty _ _ _ _ _ w (by simp)).mono ?_
        rintro e w' ⟨rfl, rfl⟩
        exact ⟨rfl, Below.refl _ _⟩
      · refine (Tryz.slices_Equal_int g o a.length cap g' o' b.length dap a b w (Nat.le_refl _) (Nat.le_refl _) (by omega) (by omega) (fun j hj => by rw [getD_of hj]; exact hca j hj) (fun j hj => by rw [getD_of hj]; exact hcb j hj)).mono ?_
        rintro e w' ⟨rfl, q, rfl⟩
        refine ⟨ret_bool ?_, below_drewN (Below.refl _ _) q⟩
        rw [List.take_length, List.take_length]
        by_cases h : a = b
        · subst h; simp
        · rw [decide_eq_false h, beq_eq_false_iff_ne.2 h]
  · refine (Tryz.slices_Equal_int_lens _ _ _ _ _ _ w hlen).mono ?_
    rintro e w' ⟨rfl, rfl⟩
    exact ⟨ret_bool (decide_eq_false fun e => hlen (by rw [e])).symm, Below.refl _ _⟩
theorem l6At (dv ov : Value) (l : P.Dic) (o : List Int) (w : World) (hu : EntR w dv l) (ho : IntR w ov o) :
    Calls Tryz.prog 92 #[.agg #[dv], ov] w fun e w' => e = .returned (.int .i64 (P.place o l)) ∧ Below w.heap.size w w' := by
  have HU := Lib.hid hu; have HO := Lib.hid ho
  have hb0 := (Below.refl w.heap.size w).alloc (Nat.le_refl _) (.cells #[dv] 26)
  have HB0 := Lib.hid hb0; clear hb0
  have HC0 := Lib.hid (show (w.alloc (.cells #[dv] 26)).cell? ⟨w.heap.size, 0, none⟩ = some dv by go_simp)
  obtain ⟨ad, cap, rfl, hl, _⟩ := hu
  obtain ⟨od, oc, rfl, hol, _⟩ := ho
  go_enter Tryz.func92, Tryz.ntmps92
  go_wp2_with fail
  go_loopw [5] (fun i wr => ∃ j : Nat, j ≤ l.length ∧ i = .int .i64 j ∧ (∀ (k : Nat) (h : k < j) (h' : k < l.length), (l[k]'h').1 ≠ o) ∧ wr.cell? ⟨w.heap.size, 0, none⟩ = some (.slice ad l.length cap) ∧ w.heap.size < wr.heap.size ∧ Below w.heap.size w wr) (fun i _ => l.length - (intOf i).toNat)
  case atStart => exact ⟨0, Nat.zero_le _, rfl, (fun k h => absurd h (Nat.not_lt_zero _)), HC0.out, by simp, HB0.out⟩
  case round =>
    obtain ⟨j, hj, rfl, hn, b0, hz, hb⟩ := hrel
    have HN := Lib.hid hn; have HB := Lib.hid hb
    clear hn HC0 HB0
    by_cases hlt : j < l.length
    · obtain ⟨g, p, hga, hgl, x, c0, _, hx⟩ := (HU.out.below hb).at j hlt
      have HX := Lib.hid hx
      have HO2 := Lib.hid (HO.out.below hb)
      have HP := Lib.hid (show l[j].1 = o → P.place o l = j from fun h => P.place_at j hlt h fun k hk => HN.out k hk (by omega))
      have HQ := Lib.hid (show l[j].1 ≠ o → ∀ (k : Nat) (h : k < j + 1) (h' : k < l.length), (l[k]'h').1 ≠ o from fun h k hk hk' => by
        by_cases e : k = j
        · subst e; exact h
        · exact HN.out k (by omega) hk')
      obtain ⟨xd, xc, rfl, _, _⟩ := hx
      subst hga
      generalize l[j].1 = eo at *
      clear hb
      have i1 : (j : Int) < (l.length : Int) := by omega
      go_wp2_with fail
      refine (l1Same _ _ eo o _ HX.out HO2.out).mono ?_
      rintro e w1 ⟨rfl, hb⟩
      have b1 := (hb.cell (p := ⟨w.heap.size, 0, none⟩) hz).trans b0
      have hz1 := Nat.lt_of_lt_of_le hz hb.size
      have HB1 := Lib.hid (HB.out.trans (hb.mono (Nat.le_of_lt hz)))
      clear hb b0
      by_cases heo : eo = o
      · have HPP := Lib.hid (HP.out heo)
        rw [decide_eq_true heo]
        clear heo
        go_wp2
        go_ret
        exact ⟨ret_int HPP.out.symm, HB1.out⟩
      · have HQQ := Lib.hid (HQ.out heo)
        rw [decide_eq_false heo]
        clear heo
        go_wp2
        go_roundw
        case rel => exact ⟨j + 1, by omega, by go_num, HQQ.out, b1, hz1, HB1.out⟩
        case measure => simp [intOf]; omega
    · have HP := Lib.hid (show P.place o l = -1 from P.place_none fun k hk => HN.out k (by omega) hk)
      clear hb
      go_wp2
      go_ret
      exact ⟨ret_int HP.out.symm, HB.out⟩
theorem find_step (x : Value) (eo o : List Int) (t : Str) (C : Nat) (ov : Value) (w : World) (hx : IntR w x eo) (hc : w.cell? ⟨C, 0, none⟩ = some ov) (ho : IntR w ov o) :
    Calls Tryz.prog 147 #[.agg #[x, .string (S t)], .pointer (some ⟨C, 0, none⟩)] w fun e w' => e = .returned (.bool (decide (eo = o))) ∧ Below w.heap.size w w' := by
  have hb0 := (Below.refl w.heap.size w).alloc (Nat.le_refl _) (.cells #[x, .string (S t)] 47)
  have HX := Lib.hid (hx.below hb0); have HO := Lib.hid (ho.below hb0)
  have hc' := (hb0.cell (p := ⟨C, 0, none⟩) (World.block_lt_of_cell? w _ hc)).trans hc
  have HB0 := Lib.hid hb0
  obtain ⟨xd, xc, rfl, _, _⟩ := hx
  obtain ⟨od, oc, rfl, _, _⟩ := ho
  clear hb0 hc
  go_enter Tryz.func147, Tryz.ntmps147
  go_wp2_with fail
  refine (equalInts _ _ eo o _ HX.out HO.out).mono ?_
  rintro e w1 ⟨rfl, hb⟩
  have HB1 := Lib.hid (HB0.out.trans (hb.mono (by simp)))
  clear hb
  go_wp2
  go_ret
  exact ⟨rfl, HB1.out⟩
theorem indexEnt (dv ov : Value) (l : P.Dic) (o : List Int) (C : Nat) (w : World) (hu : EntR w dv l) (hc : w.cell? ⟨C, 0, none⟩ = some ov) (ho : IntR w ov o) :
    Calls Tryz.prog 146 #[dv, .func (Fn.func 147) #[] #[.pointer (some ⟨C, 0, none⟩)]] w fun e w' => e = .returned (.int .i64 (P.place o l)) ∧ Below w.heap.size w w' := by
  have HU := Lib.hid hu; have HO := Lib.hid ho
  have HC := Lib.hid hc
  have HCL := Lib.hid (World.block_lt_of_cell? w _ hc)
  obtain ⟨ad, cap, rfl, hl, _⟩ := hu
  clear ho hc
  go_enter Tryz.func146, Tryz.ntmps146
  go_wp2
  go_loopw [5, 8] (fun _ i wr => ∃ j : Nat, j ≤ l.length ∧ i = .int .i64 j ∧ (∀ (k : Nat) (h : k < j) (h' : k < l.length), (l[k]'h').1 ≠ o) ∧ Below w.heap.size w wr) (fun _ i _ => l.length - (intOf i).toNat)
  case atStart => exact ⟨0, Nat.zero_le _, rfl, (fun k h => absurd h (Nat.not_lt_zero _)), Below.refl _ _⟩
  case round =>
    obtain ⟨j, hj, rfl, hn, hb⟩ := hrel
    have HN := Lib.hid hn; have HB := Lib.hid hb
    clear hn
    by_cases hlt : j < l.length
    · obtain ⟨g, p, hga, hgl, x, c0, c1, hx⟩ := (HU.out.below hb).at j hlt
      have HX := Lib.hid hx
      have HO2 := Lib.hid (HO.out.below hb)
      have HC2 := Lib.hid ((hb.cell (p := ⟨C, 0, none⟩) HCL.out).trans HC.out)
      have HP := Lib.hid (show l[j].1 = o → P.place o l = j from fun h => P.place_at j hlt h fun k hk => HN.out k hk (by omega))
      have HQ := Lib.hid (show l[j].1 ≠ o → ∀ (k : Nat) (h : k < j + 1) (h' : k < l.length), (l[k]'h').1 ≠ o from fun h k hk hk' => by
        by_cases e : k = j
        · subst e; exact h
        · exact HN.out k (by omega) hk')
      have hbz := hb.size
      obtain ⟨xd, xc, rfl, _, _⟩ := hx
      subst hga
      generalize l[j] = en at *
      obtain ⟨eo, et⟩ := en
      simp only at HX HP HQ c1
      clear hb
      have i1 : (j : Int) < (l.length : Int) := by omega
      go_wp2_with fail
      refine (find_step _ eo o et C ov _ HX.out HC2.out HO2.out).mono ?_
      rintro e w1 ⟨rfl, hb⟩
      have HB1 := Lib.hid (HB.out.trans (hb.mono hbz))
      clear hb
      by_cases heo : eo = o
      · have HPP := Lib.hid (HP.out heo)
        rw [decide_eq_true heo]
        clear heo
        go_wp2
        go_ret
        exact ⟨ret_int HPP.out.symm, HB1.out⟩
      · have HQQ := Lib.hid (HQ.out heo)
        rw [decide_eq_false heo]
        clear heo
        go_wp2
        go_roundw
        case rel => exact ⟨j + 1, by omega, by go_num, HQQ.out, HB1.out⟩
        case measure => simp [intOf]; omega
    · have HP := Lib.hid (show P.place o l = -1 from P.place_none fun k hk => HN.out k (by omega) hk)
      clear hb
      go_wp2
      go_ret
      exact ⟨ret_int HP.out.symm, HB.out⟩
theorem dicFind (dv ov : Value) (l : P.Dic) (o : List Int) (w : World) (hu : EntR w dv l) (ho : IntR w ov o) :
    Calls Tryz.prog 80 #[.agg #[dv], ov] w fun e w' => e = .returned (.int .i64 (P.place o l)) ∧ Below w.heap.size w w' := by
  have hb0 := ((Below.refl w.heap.size w).alloc (Nat.le_refl _) (.cells #[dv] 26)).alloc (by simp) (.cells #[ov] 27)
  have HU := Lib.hid (hu.below hb0); have HO := Lib.hid (ho.below hb0)
  have HB0 := Lib.hid hb0; clear hb0
  obtain ⟨ad, cap, rfl, hl, _⟩ := hu
  obtain ⟨od, oc, rfl, hol, _⟩ := ho
  go_enter Tryz.func80, Tryz.ntmps80
  go_wp2_with fail
  refine (indexEnt _ (.slice od o.length oc) l o _ _ HU.out (by go_simp) HO.out).mono ?_
  rintro e w1 ⟨rfl, hb⟩
  have HB1 := Lib.hid (HB0.out.trans (hb.mono (by simp; omega)))
  clear hb
  go_wp2
  go_ret
  exact ⟨rfl, HB1.out⟩
end
section
namespace P
theorem pair_of_dic {l : Dic} (h : dic l = true) : l.Pairwise lt := by
  unfold dic at h
  simp only [Bool.and_eq_true] at h
  exact (rising_pair l).1 h.2.2
theorem del_len (o : List Int) (l : Dic) : (del o l).length ≤ l.length := List.length_filter_le _ _
theorem del_sub {o : List Int} {l : Dic} {e : Ent} (h : e ∈ del o l) : e ∈ l := (del_mem.1 h).1
end P
open Go Go.RowKit
set_option maxHeartbeats 2000000
set_option maxRecDepth 100000
theorem setCells_size (b : Nat) : ∀ (vs : List Value) (o : Nat) (w : World), (w.setCells b o vs).heap.size = w.heap.size
  | [], _, _ => rfl
  | v :: vs, o, w => by
    show ((w.setCell ⟨b, o, none⟩ v).setCells b (o + 1) vs).heap.size = _
    rw [setCells_size b vs (o + 1) _]; simp [World.setCell]
theorem setCells_other (b : Nat) {k : Nat} (hk : k ≠ b) : ∀ (vs : List Value) (o : Nat) (w : World), (w.setCells b o vs).heap[k]? = w.heap[k]?
  | [], _, _ => rfl
  | v :: vs, o, w => by
    show ((w.setCell ⟨b, o, none⟩ v).setCells b (o + 1) vs).heap[k]? = _
    rw [setCells_other b hk vs (o + 1) _, Below.heap_setCell _ _ _ _ hk]
section
variable {α : Type} {E : ElT α} {wd : Nat}
theorem getElem_erase (l : List α) (i j : Nat) (hj : j < (l.eraseIdx i).length) (hi : i < l.length) : (l.eraseIdx i)[j] = if h : j < i then l[j]'(by omega) else l[j + 1]'(by rw [List.length_eraseIdx, if_pos hi] at hj; omega) := by
  rw [List.getElem_eraseIdx]
theorem RowC.del (hE : ElOk E) {v : World} {F : Blk} {g o : Nat} {G : Nat → Blk} {C : Nat → List Value} {l : List α} (h : RowC wd E v F g o G C l) (i : Nat) (hi : i < l.length) :
    RowC wd E (v.setCells g (o + i * wd) (flat (fun k => C (i + 1 + k)) (l.length - (i + 1)))) F g o (fun j => if j < i then G j else G (j + 1)) (fun j => if j < i then C j else C (j + 1)) (l.eraseIdx i) := by
  have hlen : (l.eraseIdx i).length = l.length - 1 := by rw [List.length_eraseIdx, if_pos hi]
  have hw : ∀ k, k < l.length - (i + 1) → (C (i + 1 + k)).length = wd := fun k hk => h.wid _ (by omega)
  have hfl : (flat (fun k => C (i + 1 + k)) (l.length - (i + 1))).length = (l.length - (i + 1)) * wd := flat_len hw
  have hsz : (v.setCells g (o + i * wd) (flat (fun k => C (i + 1 + k)) (l.length - (i + 1)))).heap.size = v.heap.size := setCells_size g _ _ _
  have hin : ∀ q, q < (flat (fun k => C (i + 1 + k)) (l.length - (i + 1))).length → (v.cell? ⟨g, o + i * wd + q, none⟩).isSome = true := by
    intro q hq
    rw [hfl] at hq
    have hwd : 0 < wd := by rcases Nat.eq_zero_or_pos wd with h0 | h0; · rw [h0] at hq; omega
                            · exact h0
    have h1 : q / wd < l.length - (i + 1) := (Nat.div_lt_iff_lt_mul hwd).2 hq
    have hc := h.cel (i + q / wd) (by omega) (q % wd) (by rw [h.wid _ (by omega)]; exact Nat.mod_lt _ hwd)
    have e : o + (i + q / wd) * wd + q % wd = o + i * wd + q := by
      have := Nat.div_add_mod q wd
      rw [Nat.add_mul, Nat.mul_comm (q / wd) wd]; omega
    rw [e] at hc
    rw [hc.1]; rfl
  have hblk : ∀ b, b < v.heap.size → b ≠ g → (v.setCells g (o + i * wd) (flat (fun k => C (i + 1 + k)) (l.length - (i + 1)))).heap[b]? = v.heap[b]? := fun b _ hne => setCells_other g hne _ _ _
  refine ⟨h.own, fun b hb => by rw [hsz]; exact h.lt b hb, fun j hj => ?_, fun j hj => ?_, fun j hj => ?_, fun j hj => ?_, fun j k hjk hk => ?_⟩
  · rw [hlen] at hj
    by_cases hji : j < i
    · simp only [hji, if_true]
      intro k hk
      have hwj := h.wid j (by omega)
      have hlt := Nat.mul_le_mul_right wd (show j + 1 ≤ i by omega)
      rw [Nat.add_mul] at hlt
      refine ⟨?_, by rw [World.frozen?_setCells]; exact (h.cel j (by omega) k hk).2⟩
      rw [World.cell?_setCells_out g _ _ _ _ (fun _ _ => .inl (by show o + j * wd + k < o + i * wd; omega))]
      exact (h.cel j (by omega) k hk).1
    · simp only [hji, if_false]
      intro k hk
      have hwj := h.wid (j + 1) (by omega)
      have e : o + j * wd + k = o + i * wd + ((j - i) * wd + k) := by
        have : j * wd = i * wd + (j - i) * wd := by rw [← Nat.add_mul]; congr 1; omega
        omega
      have hget := flat_get (wd := wd) (C := fun k => C (i + 1 + k)) (n := l.length - (i + 1)) hw (j - i) k (by omega) (by show k < (C (i + 1 + (j - i))).length; rw [show i + 1 + (j - i) = j + 1 by omega]; exact hk)
      obtain ⟨hq, hv⟩ := List.getElem?_eq_some_iff.1 hget
      rw [e]
      refine ⟨?_, ?_⟩
      · rw [World.cell?_setCells_in g _ _ _ hin _ hq, hv]
        simp only [show i + 1 + (j - i) = j + 1 by omega]
      · rw [World.frozen?_setCells, ← e]
        have := h.cel j (by omega) k (by rw [h.wid j (by omega), ← hwj]; exact hk)
        exact this.2
  · rw [hlen] at hj
    show (if j < i then C j else C (j + 1)).length = wd
    split
    · exact h.wid j (by omega)
    · exact h.wid (j + 1) (by omega)
  · have hj' := hj
    rw [hlen] at hj
    rw [getElem_erase l i j hj' hi]
    show E _ (if j < i then G j else G (j + 1)) (if j < i then C j else C (j + 1)) _
    by_cases hji : j < i
    · simp only [hji, if_true, dif_pos]
      exact hE.keep (h.el j (by omega)) ⟨by rw [hsz]; exact Nat.le_refl _, fun b hb => hblk b (h.lt _ (h.sub j (by omega) b hb).1) (h.sub j (by omega) b hb).2⟩
    · simp only [hji, if_false, dif_neg, not_false_eq_true]
      exact hE.keep (h.el (j + 1) (by omega)) ⟨by rw [hsz]; exact Nat.le_refl _, fun b hb => hblk b (h.lt _ (h.sub (j + 1) (by omega) b hb).1) (h.sub (j + 1) (by omega) b hb).2⟩
  · rw [hlen] at hj
    show ∀ b, (if j < i then G j else G (j + 1)) b → _
    split
    · exact h.sub j (by omega)
    · exact h.sub (j + 1) (by omega)
  · rw [hlen] at hk
    show ∀ b, (if j < i then G j else G (j + 1)) b → (if k < i then G k else G (k + 1)) b → False
    by_cases h1 : j < i
    · rw [if_pos h1]
      by_cases h2 : k < i
      · rw [if_pos h2]; exact h.apart j k hjk (by omega)
      · rw [if_neg h2]; exact h.apart j (k + 1) (by omega) (by omega)
    · rw [if_neg h1, if_neg (by omega)]
      exact h.apart (j + 1) (k + 1) (by omega) (by omega)
end
end
section
open Go Go.RowKit
set_option maxHeartbeats 2000000
set_option maxRecDepth 100000
end
section
open Go Go.RowKit
set_option maxHeartbeats 2000000
set_option maxRecDepth 100000
def refE (w : World) : ElT P.Ent := fun _ _ cs e => ∃ x, cs = [x, .string (S e.2)] ∧ IntR w x e.1
theorem refE_ok (w : World) : ElOk (refE w) := ⟨fun h _ => h, fun h _ _ => h⟩
theorem ref_read {w v : World} {F : Blk} {u : Value} {l : P.Dic} (h : RowO 2 (refE w) v F u l) (hb : Below w.heap.size w v) : EntR v u l := by
  obtain ⟨ad, cap, h1, h2, hn, h3⟩ := h
  refine ⟨ad, cap, h1, by omega, hn.1, h3.imp id ?_⟩
  rintro ⟨g, o, G, C, h4, h5⟩
  refine ⟨g, o, h4, h5.lt _ h5.own, fun j hj => ?_⟩
  obtain ⟨x, he, hx⟩ := h5.el j hj
  have hc := (h5.cel j hj 0 (by rw [he]; simp)).1
  have hd := (h5.cel j hj 1 (by rw [he]; simp)).1
  simp only [he, List.getElem_cons_zero, List.getElem_cons_succ, Nat.add_zero] at hc hd
  exact ⟨x, hc, hd, hx.below hb⟩
theorem P.del_snoc (o : List Int) (l : P.Dic) (e : P.Ent) : P.del o (l ++ [e]) = if e.1 = o then P.del o l else P.del o l ++ [e] := by
  unfold P.del
  rw [List.filter_append]
  by_cases h : e.1 = o
  · rw [if_pos h, List.filter_cons_of_neg (by simp [h])]; simp
  · rw [if_neg h, List.filter_cons_of_pos (by simp [h])]; simp
end
end Go.Proofs.YtmlklnimoknojaaGreatDoor
