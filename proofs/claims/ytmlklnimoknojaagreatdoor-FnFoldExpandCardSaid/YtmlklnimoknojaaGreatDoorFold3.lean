/- Walks: folds (program): an outline unfolded. -/
import Derived.Deep.DeepCutAuto
import Derived.Deep.RegionHeld
import Derived.Test.YtmlklnimoknojaaGreatDoorFold1
import Derived.Test.YtmlklnimoknojaaGreatDoorValD
namespace Go.Proofs.YtmlklnimoknojaaGreatDoor
open Go Go.RowKit
set_option maxHeartbeats 1000000
set_option maxRecDepth 100000
def UnfPost (r : Option (List Int)) (w : World) (e : Ending) (w' : World) : Prop := ∃ x, e = .returned (.tuple #[x, .bool r.isSome]) ∧ Ints w' (Bet w.heap.size w'.heap.size) x (r.getD []) ∧ Below w.heap.size w w'
theorem ints_nil (v : World) (F : Blk) : Ints v F (.slice none 0 0) [] := RowO.nil v _
theorem P.unf_nat {o : List Int} {m n k : Nat} (hm : P.lastI o = (m : Int)) (hn : o.length = n + 1) : P.unf (k : Int) o = if m.testBit k && !decide ((m : Int) = ((2 ^ k : Nat) : Int)) then some (o.take n ++ [(m : Int) - ((2 ^ k : Nat) : Int)]) else none := by
  unfold P.unf
  rw [hm, hn, Nat.add_sub_cancel, P.hasK_nat, P.bitI_nat]
theorem P.into_nat {o : List Int} {m n k : Nat} (hm : P.lastI o = (m : Int)) (hn : o.length = n + 1) : P.into (k : Int) o = if m.testBit k then none else some (o.take n ++ [(m : Int) + ((2 ^ k : Nat) : Int)]) := by
  unfold P.into
  rw [hm, hn, Nat.add_sub_cancel, P.hasK_nat, P.bitI_nat]
theorem unfoldF (k : Nat) (s : Str) (u : Value) (o : List Int) (w : World) (hu : IntR w u o) (ho : P.outline o = true) (hk : k ≤ 22) :
    Calls Tryz.prog 90 #[.agg #[.int .i64 (k : Int), .string (S s)], u] w (UnfPost (P.unf k o) w) := by
  have hb0 : Below w.heap.size w (w.alloc (.cells #[.int .i64 (k : Int), .string (S s)] 115)) := (Below.refl _ _).alloc (Nat.le_refl _) _
  have HU := Lib.hid (hu.below hb0); have HB0 := Lib.hid hb0; clear hb0
  obtain ⟨h0, h6, m, hm, hm1, hm2, hgd⟩ := P.outline_last ho
  obtain ⟨ad, cap, rfl, ⟨hl45, hcap⟩, _, _⟩ := hu
  obtain ⟨n, hn⟩ : ∃ n, o.length = n + 1 := ⟨o.length - 1, by omega⟩
  obtain ⟨g, p, hga, hgl, c0⟩ := HU.out.at n (by omega)
  have hon : o[n]'(by omega) = (m : Int) := by
    rw [hn] at hgd
    rw [List.getD_eq_getElem?_getD, Nat.add_sub_cancel, List.getElem?_eq_getElem (by omega)] at hgd
    exact hgd
  rw [hon] at c0
  subst hga
  have hp := pow_k hk
  have E1 := and_one (m := m) (k := k) hm2
  have E2 := shl_k hk
  have HUN := Lib.hid (P.unf_nat (k := k) hm hn)
  have HIN := Lib.hid (show IntR (w.alloc (.cells #[.int .i64 (k : Int), .string (S s)] 115)) (.slice (some ⟨g, p, none⟩) (n + 1) cap) o by rw [← hn]; exact HU.out)
  have HN := Lib.hid hn
  have HGD := Lib.hid hgd
  clear hgd hm hon
  have i1 : (o.length : Int) - 1 = (n : Int) := by omega
  have i2 : (n : Int) < (o.length : Int) := by omega
  generalize 2 ^ k = q at *
  cases hbk : m.testBit k
  · rw [hbk] at E1 HUN
    have E1' : bits .and .i64 ((m : Int) / 2 ^ k) 1 = 0 := E1
    clear E1 hbk
    go_enter Tryz.func90, Tryz.ntmps90
    go_wp2
    go_ret2
    have hun : P.unf (k : Int) o = none := HUN.out
    rw [hun]
    exact ⟨_, rfl, ints_nil _ _, HB0.out⟩
  · rw [hbk] at E1 HUN
    have E1' : bits .and .i64 ((m : Int) / 2 ^ k) 1 = 1 := E1
    clear E1 hbk
    by_cases hq : (m : Int) = (q : Int)
    · have HQ := Lib.hid hq
      have hq' : m = q := by omega
      subst hq'
      go_enter Tryz.func90, Tryz.ntmps90
      go_wp2
      go_ret2
      have hun : P.unf (k : Int) o = none := by rw [HUN.out]; simp
      rw [hun]
      exact ⟨_, rfl, ints_nil _ _, HB0.out⟩
    · have HQ := Lib.hid hq
      go_enter Tryz.func90, Tryz.ntmps90
      go_wp2_with fail
      refine (withLast _ o ((m : Int) - (q : Int)) _ HIN.out (by omega) (by omega)).mono ?_
      rintro e w1 ⟨x, rfl, hown, hb⟩
      rw [show o.length - 1 = n by have := HN.out; omega] at hown
      have HI := Lib.hid (ints_of_owns hown (by rw [List.length_append]; simp; omega))
      have HB1 := Lib.hid (HB0.out.trans (hb.mono HB0.out.size))
      obtain ⟨xa, xc, rfl, _, _⟩ := id HI.out
      clear hown hb
      go_wp2
      go_ret2
      have hun : P.unf k o = some (o.take n ++ [(m : Int) - (q : Int)]) := by rw [HUN.out, decide_eq_false HQ.out]; rfl
      have hln : (o.take n ++ [(m : Int) - (q : Int)]).length = n + 1 := by rw [List.length_append, List.length_take]; simp; have := HN.out; omega
      have hw : Ints w1 (Bet w.heap.size w1.heap.size) (.slice xa (n + 1) xc) (o.take n ++ [(m : Int) - (q : Int)]) := by
        have h := RowO.wide (F' := Bet w.heap.size w1.heap.size) HI.out (fun b hb => ⟨by have := hb.1; simp at this; omega, hb.2⟩) (fun b hb => hb.2)
        rwa [hln] at h
      rw [hun]
      exact ⟨_, rfl, hw, HB1.out⟩
end Go.Proofs.YtmlklnimoknojaaGreatDoor

namespace Go.Proofs.YtmlklnimoknojaaGreatDoor
namespace P
/-- a mask of keys -/
def MaskOf (q : Nat) (l : Folds) : Prop := q < 2 ^ 23 ∧ ∀ k : Nat, k ≤ 22 → (q.testBit k = true ↔ ∃ f ∈ l, f.1 = (k : Int))
theorem mask_nil : MaskOf 0 [] := ⟨by decide, fun k _ => by simp⟩
theorem mask_snoc {q k : Nat} {l : Folds} {s : Bs} (h : MaskOf q l) (hk : k ≤ 22) (hb : q.testBit k = false) : MaskOf (q + 2 ^ k) (l ++ [((k : Int), s)]) := by
  rw [← or_bit_new hb]
  refine ⟨Nat.or_lt_two_pow h.1 (Nat.pow_lt_pow_right (by decide) (by omega)), fun j hj => ?_⟩
  rw [Nat.testBit_or, Nat.testBit_two_pow, Bool.or_eq_true, h.2 j hj, decide_eq_true_eq]
  constructor
  · rintro (⟨f, hf, e⟩ | e)
    · exact ⟨f, by simp [hf], e⟩
    · exact ⟨((k : Int), s), by simp, by rw [e]⟩
  · rintro ⟨f, hf, e⟩
    rcases List.mem_append.1 hf with hf | hf
    · exact .inl ⟨f, hf, e⟩
    · simp only [List.mem_cons, List.not_mem_nil, or_false] at hf
      subst hf
      exact .inr (by simp only at e; omega)
theorem folds_bad {l : Folds} {j : Nat} (h : j < l.length) (hf : fold l[j] = false) : foldsOk l = false := by
  cases hh : foldsOk l with
  | false => rfl
  | true =>
    unfold foldsOk at hh
    simp only [Bool.and_eq_true, List.all_eq_true] at hh
    rw [hh.2.1 _ (List.getElem_mem h)] at hf; cases hf
theorem folds_twice {l : Folds} {j : Nat} (h : j < l.length) (hf : ∃ f ∈ l.take j, f.1 = l[j].1) : foldsOk l = false := by
  cases hh : foldsOk l with
  | false => rfl
  | true =>
    unfold foldsOk at hh
    simp only [Bool.and_eq_true, decide_eq_true_eq] at hh
    obtain ⟨f, hm, e⟩ := hf
    obtain ⟨i, hi, rfl⟩ := List.mem_iff_getElem.1 hm
    have hi' : i < j := by rw [List.length_take] at hi; omega
    have := List.pairwise_iff_getElem.1 hh.2.2 i j (by omega) h hi'
    rw [List.getElem_take] at e
    exact absurd e this
theorem folds_all {l : Folds} {j : Nat} (hj : l.length ≤ j) (h1 : (l.take j).all fold = true) (h2 : (l.take j).Pairwise other) : foldsOk l = decide ((l.length : Int) ≤ 6) := by
  rw [List.take_of_length_le hj] at h1 h2
  unfold foldsOk
  rw [h1, decide_eq_true h2]; simp
theorem fold_key {k : Int} {s : Bs} (h : fold (k, s) = true) : ∃ n : Nat, k = (n : Int) ∧ 13 ≤ n ∧ n ≤ 22 ∧ s.length ≤ 8 := by
  unfold fold keyOk suffix at h
  simp only [Bool.and_eq_true, decide_eq_true_eq] at h
  obtain ⟨n, rfl⟩ := Int.eq_ofNat_of_zero_le (show 0 ≤ k by omega)
  exact ⟨n, rfl, by omega, by omega, by omega⟩
theorem take_pair {l : Folds} {j : Nat} (h : j < l.length) (h2 : (l.take j).Pairwise other) (h3 : ∀ f ∈ l.take j, f.1 ≠ l[j].1) : (l.take (j + 1)).Pairwise other := by
  rw [take_snoc l j h, List.pairwise_append]
  exact ⟨h2, by simp, fun a ha b hb => by simp only [List.mem_cons, List.not_mem_nil, or_false] at hb; subst hb; exact h3 a ha⟩
end P
open Go Go.RowKit
set_option maxHeartbeats 2000000
set_option maxRecDepth 100000
/-- a slice of folds, as it is read -/
def FldR (v : World) (u : Value) (l : P.Folds) : Prop :=
  ∃ (ad : Option Addr) (cap : Nat), u = .slice ad l.length cap ∧ (l.length ≤ 2 ^ 45 ∧ l.length ≤ cap) ∧ (ad = none → cap = 0) ∧ (l = [] ∨ ∃ g o, ad = some ⟨g, o, none⟩ ∧ g < v.heap.size ∧ ∀ (j : Nat) (h : j < l.length), v.cell? ⟨g, o + j * 2, none⟩ = some (.int .i64 (l[j]'h).1) ∧ v.cell? ⟨g, o + j * 2 + 1, none⟩ = some (.string (S (l[j]'h).2)))
theorem FldR.below {v v' : World} {u : Value} {l : P.Folds} (h : FldR v u l) (hb : Below v.heap.size v v') : FldR v' u l := by
  obtain ⟨ad, cap, h1, h2, hn, h3⟩ := h
  refine ⟨ad, cap, h1, h2, hn, h3.imp id ?_⟩
  rintro ⟨g, o, h4, h5, h6⟩
  refine ⟨g, o, h4, Nat.lt_of_lt_of_le h5 hb.size, fun j hj => ?_⟩
  obtain ⟨a, b⟩ := h6 j hj
  exact ⟨(hb.cell (p := ⟨g, _, none⟩) h5).trans a, (hb.cell (p := ⟨g, _, none⟩) h5).trans b⟩
theorem FldR.at {v : World} {ad : Option Addr} {n cap : Nat} {l : P.Folds} (h : FldR v (.slice ad n cap) l) (j : Nat) (hj : j < l.length) : ∃ g o, ad = some ⟨g, o, none⟩ ∧ g < v.heap.size ∧ v.cell? ⟨g, o + j * 2, none⟩ = some (.int .i64 (l[j]'hj).1) ∧ v.cell? ⟨g, o + j * 2 + 1, none⟩ = some (.string (S (l[j]'hj).2)) := by
  obtain ⟨ad', cap', he, _, _, h3⟩ := h
  injection he with h1 h2 h4
  rcases h3 with h3 | ⟨g, o, h5, h6, h7⟩
  · rw [h3] at hj; exact absurd hj (Nat.not_lt_zero _)
  · exact ⟨g, o, h1.trans h5, h6, h7 j hj⟩
/-- a fold in its box -/
def FBx (b : Nat) (k : Int) (s : Str) (v : World) : Prop := (v.cell? ⟨b, 0, none⟩ = some (.int .i64 k) ∧ v.cell? ⟨b, 1, none⟩ = some (.string (S s))) ∧ b < v.heap.size
theorem FBx.below {b : Nat} {k : Int} {s : Str} {v v' : World} (h : FBx b k s v) (hb : Below v.heap.size v v') : FBx b k s v' := by
  obtain ⟨⟨h1, h2⟩, h3⟩ := h
  exact ⟨⟨(hb.cell (p := ⟨b, 0, none⟩) h3).trans h1, (hb.cell (p := ⟨b, 1, none⟩) h3).trans h2⟩, Nat.lt_of_lt_of_le h3 hb.size⟩
theorem FBx.new (k : Int) (s : Str) (T : TypeId) (v : World) : FBx v.heap.size k s (v.alloc (.cells #[.int .i64 k, .string (S s)] T)) := by
  refine ⟨⟨?_, ?_⟩, ?_⟩ <;> go_simp
theorem isValidFolds (u : Value) (l : P.Folds) (w : World) (hu : FldR w u l) (ht : ∀ f ∈ l, f.2.length ≤ 2 ^ 30) :
    Calls Tryz.prog 77 #[u] w fun e w' => e = .returned (.bool (P.foldsOk l)) ∧ Below w.heap.size w w' := by
  have HU := Lib.hid hu; have HT := Lib.hid ht; clear ht
  obtain ⟨ad, cap, rfl, ⟨hl45, _⟩, _, _⟩ := hu
  go_enter Tryz.func77, Tryz.ntmps77
  go_wp2_with fail
  go_loopw [3, 8] (fun m i wr => ∃ (j q : Nat), j ≤ l.length ∧ i = .int .i64 j ∧ m = .int .i64 q ∧ P.MaskOf q (l.take j) ∧ (l.take j).all P.fold = true ∧ (l.take j).Pairwise P.other ∧ Below w.heap.size w wr) (fun _ i _ => l.length - (intOf i).toNat)
  case atStart => exact ⟨0, 0, by omega, rfl, rfl, P.mask_nil, rfl, List.Pairwise.nil, Below.refl _ _⟩
  case round =>
    obtain ⟨j, q, hj, rfl, rfl, hm, ha, hp, hb⟩ := hrel
    have HM := Lib.hid hm; have HA := Lib.hid ha; have HP := Lib.hid hp; have HB := Lib.hid hb
    clear hm ha hp
    by_cases hlt : j < l.length
    · have i1 : (j : Int) < (l.length : Int) := by omega
      obtain ⟨g, o, hga, hgl, c0, c1⟩ := (HU.out.below hb).at j hlt
      subst hga
      have HTL := Lib.hid (HT.out l[j] (List.getElem_mem hlt))
      have HBAD := Lib.hid (P.folds_bad hlt)
      have HTW := Lib.hid (P.folds_twice hlt)
      have HSN := Lib.hid (take_snoc l j hlt)
      have HPR := Lib.hid (P.take_pair hlt HP.out)
      generalize l[j] = en at *
      obtain ⟨k, s⟩ := en
      simp only at HTL HTW HPR c0 c1
      have hba : Below wr.heap.size wr (wr.alloc (.cells #[.int .i64 k, .string (S s)] 115)) := (Below.refl _ _).alloc (Nat.le_refl _) _
      have HB2 := Lib.hid (hb.trans (hba.mono hb.size))
      have HX := Lib.hid (FBx.new k s 115 wr)
      clear hb hba
      go_wp2_with fail
      refine (isFold k s _ HTL.out).mono ?_
      rintro e w1 ⟨rfl, hb⟩
      have HB3 := Lib.hid (HB2.out.trans (hb.mono HB2.out.size)); have HX3 := Lib.hid (HX.out.below hb)
      clear hb HB2 HX c0 c1
      obtain ⟨f, hf⟩ : ∃ f, P.fold (k, s) = f := ⟨_, rfl⟩
      have HF := Lib.hid hf
      rw [hf]
      clear hf
      cases f
      · have HR := Lib.hid (HBAD.out HF.out)
        go_wp2
        go_ret
        exact ⟨ret_bool HR.out.symm, HB3.out⟩
      · obtain ⟨n, rfl, hn1, hn2, _⟩ := P.fold_key HF.out
        obtain ⟨⟨b0, b1⟩, _⟩ := HX3.out
        have E1 := and_one (m := q) (k := n) HM.out.1
        have E2 := shl_k hn2
        have E3 := or_bit_k (m := q) (k := n) HM.out.1 hn2
        cases hbk : q.testBit n
        · rw [hbk] at E1
          have E1' : bits .and .i64 ((q : Int) / 2 ^ n) 1 = 0 := E1
          have E4 : bits .or .i64 (q : Int) ((2 ^ n : Nat) : Int) = ((q + 2 ^ n : Nat) : Int) := by rw [E3 hbk]; simp
          have HMN := Lib.hid (P.mask_snoc (s := s) HM.out hn2 hbk)
          have HNO := Lib.hid (show ∀ f ∈ l.take j, f.1 ≠ (n : Int) from fun f hf e => by
            have := (HM.out.2 n hn2).2 ⟨f, hf, e⟩
            rw [hbk] at this; cases this)
          clear E1 E3 hbk
          generalize 2 ^ n = p at *
          go_wp2
          go_roundw
          case rel => exact ⟨j + 1, q + p, by omega, by go_num, rfl, by rw [HSN.out]; exact HMN.out, by rw [HSN.out, List.all_append, HA.out]; simp [HF.out], HPR.out HNO.out, HB3.out⟩
          case measure => simp [intOf]; omega
        · rw [hbk] at E1
          have E1' : bits .and .i64 ((q : Int) / 2 ^ n) 1 = 1 := E1
          have HR := Lib.hid (HTW.out ((HM.out.2 n hn2).1 hbk))
          clear E1 E3 hbk
          go_wp2
          go_ret
          exact ⟨ret_bool HR.out.symm, HB3.out⟩
    · have HR := Lib.hid (P.folds_all (by omega) HA.out HP.out)
      clear hb
      by_cases h6 : (l.length : Int) ≤ 6
      · go_wp2
        go_ret
        exact ⟨ret_bool (by rw [HR.out, decide_eq_true h6]), HB.out⟩
      · go_wp2
        go_ret
        exact ⟨ret_bool (by rw [HR.out, decide_eq_false (by omega)]), HB.out⟩
end Go.Proofs.YtmlklnimoknojaaGreatDoor
