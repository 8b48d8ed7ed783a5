/- Walks: encoding of records. -/
import Derived.Test.YtmlklnimoknojaaGreatDoorLLog1
import Derived.Test.YtmlklnimoknojaaGreatDoorPlainSplit
namespace Go.Proofs.YtmlklnimoknojaaGreatDoor.L
open Go Go.RowKit
set_option maxHeartbeats 400000
set_option maxRecDepth 100000
theorem appendChecksum (s : Str) (w : World) (hs : s.length ≤ 2 ^ 30) (hE : Env w) :
    Calls Tryz.prog 274 #[.string (S s)] w fun e w' => e = .returned (.tuple #[.string (S (P.appendChecksum s).1), .bool (P.appendChecksum s).2]) ∧ Below w.heap.size w w' := by
  have hs' : s.length ≤ maxLen := by unfold maxLen; omega
  have HE := Lib.hid hE; clear hE
  have hl := sum_lt s
  have hl2 := P.num_len (P.sum s) (by omega)
  by_cases h1 : (s.length : Int) ≤ 4000
  · have hp : P.sealed s = s ++ 35 :: P.num (P.sum s) := rfl
    have hps : (P.sealed s).length = s.length + ((P.num (P.sum s)).length + 1) := by rw [hp]; simp
    have HP := Lib.hid hp; clear hp
    have HPS := Lib.hid hps; clear hps
    have hd1 : decide ((s.length : Int) ≤ 4000) = true := decide_eq_true h1
    have HD1 := Lib.hid hd1; clear hd1
    cases h2 : Lib.contains s [35]
    · by_cases h3 : (s.length : Int) + (((P.num (P.sum s)).length : Int) + 1) ≤ 4000
      · have HF := Lib.hid (show P.appendChecksum s = (P.sealed s, true) by unfold P.appendChecksum P.sealable; rw [HD1.out, h2, HPS.out, decide_eq_true (by omega)]; rfl)
        have H1 := Lib.hid h1; clear h1
        have h3' : (s.length : Int) + ((P.num (P.sum s)).length : Int) < 4000 := by omega
        clear h3
        go_enter Tryz.func274, Tryz.ntmps274
        go_wp2_with (first | (go_at_call 286; refine (checksum _ _ hs').mono ?_; rintro e w' ⟨rfl, rfl⟩; rw [if_pos H1.out, HD1.out]) | (go_at_call 275; refine (itoa_any _ _ (by omega) (by omega) HE.out).mono ?_; rintro e w' ⟨rfl, hb⟩; have HB := Lib.hid hb; clear hb; rw [Int.toNat_natCast]) | (go_at_call 259; refine (contains_one _ 35 _).mono ?_; rintro e w' ⟨rfl, rfl⟩))
        go_ret2
        exact ⟨by rw [HF.out, HP.out]; rfl, HB.out⟩
      · have h3' := Int.not_le.1 h3
        clear h3
        have HF := Lib.hid (show P.appendChecksum s = ([], false) by unfold P.appendChecksum P.sealable; rw [HD1.out, h2, HPS.out, decide_eq_false (by omega)]; rfl)
        go_enter Tryz.func274, Tryz.ntmps274
        go_wp2_with (first | (go_at_call 286; refine (checksum _ _ hs').mono ?_; rintro e w' ⟨rfl, rfl⟩; rw [if_pos h1, HD1.out]) | (go_at_call 275; refine (itoa_any _ _ (by omega) (by omega) HE.out).mono ?_; rintro e w' ⟨rfl, hb⟩; have HB := Lib.hid hb; clear hb; rw [Int.toNat_natCast]) | (go_at_call 259; refine (contains_one _ 35 _).mono ?_; rintro e w' ⟨rfl, rfl⟩))
        go_ret2
        exact ⟨by rw [HF.out]; rfl, HB.out⟩
    · have HF := Lib.hid (show P.appendChecksum s = ([], false) by unfold P.appendChecksum P.sealable; rw [HD1.out, h2]; rfl)
      go_enter Tryz.func274, Tryz.ntmps274
      go_wp2_with (first | (go_at_call 286; refine (checksum _ _ hs').mono ?_; rintro e w' ⟨rfl, rfl⟩; rw [if_pos h1, HD1.out]) | (go_at_call 275; refine (itoa_any _ _ (by omega) (by omega) HE.out).mono ?_; rintro e w' ⟨rfl, hb⟩; have HB := Lib.hid hb; clear hb; rw [Int.toNat_natCast]) | (go_at_call 259; refine (contains_one _ 35 _).mono ?_; rintro e w' ⟨rfl, rfl⟩))
      go_ret2
      exact ⟨by rw [HF.out]; rfl, HB.out⟩
  · have HF := Lib.hid (show P.appendChecksum s = ([], false) by unfold P.appendChecksum P.sealable; rw [decide_eq_false h1]; rfl)
    have h0 := P.num_len 0 (by omega)
    have hd1 : decide ((s.length : Int) ≤ 4000) = false := decide_eq_false h1
    have HD1 := Lib.hid hd1; clear hd1
    go_enter Tryz.func274, Tryz.ntmps274
    go_wp2_with (first | (go_at_call 286; refine (checksum _ _ hs').mono ?_; rintro e w' ⟨rfl, rfl⟩; rw [if_neg h1, HD1.out]) | (go_at_call 275; refine (itoa_any _ _ (by omega) (by omega) HE.out).mono ?_; rintro e w' ⟨rfl, hb⟩; have HB := Lib.hid hb; clear hb; rw [show (0 : Int).toNat = 0 from rfl]) | (go_at_call 259; refine (contains_one _ 35 _).mono ?_; rintro e w' ⟨rfl, rfl⟩))
    go_ret2
    exact ⟨by rw [HF.out]; rfl, HB.out⟩
theorem appendChecksum_len (s : Str) : (P.appendChecksum s).1.length ≤ 4000 := by
  unfold P.appendChecksum
  cases h : P.sealable s
  · simp
  · unfold P.sealable at h
    simp only [Bool.and_eq_true, decide_eq_true_eq] at h
    have := h.2.2
    show (P.sealed s).length ≤ 4000
    omega
theorem encodeRecord (k : Int) (c r : Str) (w : World) (hc : c.length ≤ 2 ^ 28) (hr : r.length ≤ 2 ^ 28) (hE : Env w) :
    Calls Tryz.prog 248 #[.int .i64 k, .agg #[.string (S c), .string (S r)]] w fun e w' => e = .returned (.tuple #[.string (S (P.encode k c r).1), .bool (P.encode k c r).2]) ∧ Below w.heap.size w w' := by
  have HE := Lib.hid hE; clear hE
  cases h1 : decide (0 ≤ k ∧ k ≤ 59)
  · have HF := Lib.hid (show P.encode k c r = ([], false) by unfold P.encode; rw [h1]; rfl)
    go_enter Tryz.func248, Tryz.ntmps248
    go_wp2_with (go_at_call 125; refine (impl_in _ _ _ _).mono ?_; rintro e w' ⟨rfl, rfl⟩)
    go_ret2
    exact ⟨by rw [HF.out]; rfl, (Below.refl _ _).alloc (Nat.le_refl _) _⟩
  · have hk := of_decide_eq_true h1
    obtain ⟨hk0, hk1⟩ := hk
    cases h2 : P.vrec c r
    · have HF := Lib.hid (show P.encode k c r = ([], false) by unfold P.encode; rw [h1, h2]; rfl)
      go_enter Tryz.func248, Tryz.ntmps248
      go_wp2_with (first | (go_at_call 125; refine (impl_in _ _ _ _).mono ?_; rintro e w' ⟨rfl, rfl⟩) | (go_at_call 273; refine (isValidRecord _ _ _ (by omega) (by omega)).mono ?_; rintro e w' ⟨rfl, hb⟩; have HB := Lib.hid hb; clear hb))
      go_ret2
      exact ⟨by rw [HF.out]; rfl, ((Below.refl _ _).alloc (Nat.le_refl _) _).trans (HB.out.mono (by simp))⟩
    · have HF := Lib.hid (show P.encode k c r = ((P.appendChecksum (P.num k.toNat ++ 32 :: (c ++ 62 :: r))).1 ++ [10], true) by unfold P.encode; rw [h1, h2]; rfl)
      have hn := P.num_len k.toNat (by omega)
      have hl := appendChecksum_len (P.num k.toNat ++ 32 :: (c ++ 62 :: r))
      go_enter Tryz.func248, Tryz.ntmps248
      go_wp2_with (first | (go_at_call 125; refine (impl_in _ _ _ _).mono ?_; rintro e w' ⟨rfl, rfl⟩) | (go_at_call 273; refine (isValidRecord _ _ _ (by omega) (by omega)).mono ?_; rintro e w' ⟨rfl, hb⟩; have HB := Lib.hid hb; clear hb))
      have hb := HB.out
      have hc0 : w'.cell? ⟨w.heap.size, 0, none⟩ = some (.string (S c)) := by rw [hb.cell (p := ⟨w.heap.size, 0, none⟩) (by simp)]; go_simp
      have hc1 : w'.cell? ⟨w.heap.size, 1, none⟩ = some (.string (S r)) := by rw [hb.cell (p := ⟨w.heap.size, 1, none⟩) (by simp)]; go_simp
      have hsz : w.heap.size < w'.heap.size := by have := hb.size; simp at this; omega
      have hE1 : Env w' := (HE.out.alloc _).below hb (HE.out.alloc _).size
      have hb1 : Below w.heap.size w w' := ((Below.refl _ _).alloc (Nat.le_refl _) _).trans (hb.mono (by simp))
      clear hb
      have f1 : ¬ 9223372036854775807 < (P.num k.toNat).length + 1 := by omega
      have f2 : ¬ 9223372036854775807 < (P.num k.toNat).length + 1 + c.length := by omega
      have f3 : ¬ 9223372036854775807 < (P.num k.toNat).length + (c.length + 1) + 1 := by omega
      have f4 : ¬ 9223372036854775807 < (P.num k.toNat).length + (c.length + 1 + 1) + r.length := by omega
      go_region_held3 (fun v => v.cell? ⟨w.heap.size, 0, none⟩ = some (.string (S c)) ∧ v.cell? ⟨w.heap.size, 1, none⟩ = some (.string (S r)) ∧ w.heap.size < v.heap.size ∧ Env v ∧ Below w.heap.size w v) (first | assumption | exact ⟨hc0, hc1, hsz, hE1.drewN 1, below_drewN hb1 1⟩ | exact held2 (by assumption) hb)
        (first | (go_at_call 275; refine (itoa_any _ _ (by omega) (by omega) ?_).mono ?_; exact (by assumption : _ ∧ _ ∧ _ ∧ Env _ ∧ _).2.2.2.1; rintro e v ⟨rfl, hb⟩) | (go_at_call 274; refine (appendChecksum _ _ (by simp; omega) ?_).mono ?_; exact (by assumption : _ ∧ _ ∧ _ ∧ Env _ ∧ _).2.2.2.1; rintro e v ⟨rfl, hb⟩))
      have hx : Below w.heap.size w v := held_below (by assumption)
      have HX := Lib.hid hx
      clear hx f1 f2 f3 f4
      go_wp2
      go_ret2
      exact ⟨by rw [HF.out]; rfl, HX.out⟩
end Go.Proofs.YtmlklnimoknojaaGreatDoor.L

namespace Go.Proofs.YtmlklnimoknojaaGreatDoor.L
open Go Go.RowKit
set_option maxHeartbeats 400000
set_option maxRecDepth 100000
theorem info_str : (Tryz.prog.info? 9).map (fun i => (i.zero, i.size, i.bytes)) = some (some (.string ⟨#[]⟩), 1, 16) := by kernel_rfl
theorem OwnStrs.snoc {B : Nat} {w : World} {v : Value} {l : List Str} {x : Str} (h : w.ownsRow B 9 1 v (l.length + 1) (strVals l ++ [.string (S x)])) : OwnStrs B w v (l ++ [x]) := by
  unfold OwnStrs; rw [List.length_append]; simpa [strVals] using h
theorem split_rel {w w1 w2 : World} {v v' : Value} {l : List Str} {x : Str} {o : Obj} (hsz : w.heap.size ≤ w1.heap.size) (hown : OwnStrs w.heap.size w1 v l) (hb : Below w.heap.size w w1)
    (h : w2.ownsRow w.heap.size 9 1 v' (l.length + 1) (strVals l ++ [.string (S x)])) (hg : (w1.alloc o).grownBy w2 v.ownBlock) :
    OwnStrs w.heap.size w2 v' (l ++ [x]) ∧ Below w.heap.size w w2 :=
  ⟨OwnStrs.snoc h, (hb.alloc hsz _).grown hg (by simp; omega) (fun k hk => (World.ownsRow.lt hown k hk).1)⟩
theorem l1Split (s : Str) (c : UInt8) (w : World) (hs : s.length ≤ 2 ^ 40) :
    Calls Tryz.prog 208 #[.string (S s), .int .u8 c.toNat] w (SplitPost c s w) := by
  obtain ⟨i0, hi, hz0, hz1, hz2⟩ := info_parts info_str
  go_enter Tryz.func208, Tryz.ntmps208
  go_wp2
  go_loopw [5, 6, 7] (fun v fr i wr => ∃ (k f : Nat) (init : List Str), k ≤ s.length ∧ f ≤ k ∧ i = .int .i64 k ∧ fr = .int .i64 f ∧ init.length ≤ k ∧ P.split c (s.take k) = init ++ [(s.drop f).take (k - f)] ∧ OwnStrs w.heap.size wr v init ∧ Below w.heap.size w wr)
    (fun _ _ i _ => s.length - (intOf i).toNat)
  case atStart => exact ⟨0, 0, [], Nat.zero_le _, Nat.le_refl _, rfl, rfl, Nat.le_refl _, by simp [P.split], World.ownsRow_made _ _ _ (Nat.le_refl _) (by decide) (by rfl), (Below.refl _ _).alloc (Nat.le_refl _) _⟩
  case round =>
    obtain ⟨k, f, init, hk, hf, rfl, rfl, hil, hsp, hown, hbel⟩ := hrel
    have HSP := Lib.hid hsp; clear hsp
    have HOWN := Lib.hid hown; clear hown
    have HBEL := Lib.hid hbel; clear hbel
    have hsz := HBEL.out.size
    by_cases hlt : k < s.length
    · by_cases he : (s[k] == c) = true
      · have HH := Lib.hid (P.split_hit c s f k init hlt he HSP.out)
        clear HSP
        go_wp2_with (at_builtin; refine wpList_append_own _ rfl _ _ 141 rfl w.heap.size 9 i0 (.string ⟨#[]⟩) 1 16 Tryz.underlying141 hi hz0 hz1 hz2 rfl (by decide) _ _ _ rfl (HOWN.out.alloc _) ⟨wr.heap.size, 0, none⟩ 1 1 [.string (S ((s.drop f).take (k - f)))] rfl rfl ?c1 ?c2 ?c3 ?c4 ?c5 ?_)
        case c1 => intro j u hj; match j, hj with | 0, hj => (simp at hj; subst hj; simp [Addr.add])
        case c2 => intro u hu; simp at hu; subst hu; rfl
        case c3 => unfold maxLen; omega
        case c4 => omega
        case c5 => simp; omega
        intro v' w1 hown' hgrow _
        have R := Lib.hid (split_rel hsz HOWN.out HBEL.out hown' hgrow)
        clear hown' hgrow HOWN HBEL
        go_wp2
        go_roundw
        case rel => exact ⟨k + 1, k + 1, init ++ [(s.drop f).take (k - f)], by omega, by omega, by go_num, by go_num, by simp; omega, HH.out, R.out.1, R.out.2⟩
        case measure => simp [intOf]; omega
      · have he' : (s[k] == c) = false := by simpa using he
        clear he
        have HH := Lib.hid (P.split_miss c s f k init hlt hf he' HSP.out)
        clear HSP
        go_wp2
        go_roundw
        case rel => exact ⟨k + 1, f, init, by omega, by omega, by go_num, rfl, by omega, HH.out, HOWN.out, HBEL.out⟩
        case measure => simp [intOf]; omega
    · have HH := Lib.hid (P.split_end c s f k init (by omega) HSP.out)
      clear HSP
      go_wp2_with (at_builtin; refine wpList_append_own _ rfl _ _ 141 rfl w.heap.size 9 i0 (.string ⟨#[]⟩) 1 16 Tryz.underlying141 hi hz0 hz1 hz2 rfl (by decide) _ _ _ rfl (HOWN.out.alloc _) ⟨wr.heap.size, 0, none⟩ 1 1 [.string (S (s.drop f))] rfl rfl ?d1 ?d2 ?d3 ?d4 ?d5 ?_)
      case d1 => intro j u hj; match j, hj with | 0, hj => (simp at hj; subst hj; simp [Addr.add])
      case d2 => intro u hu; simp at hu; subst hu; rfl
      case d3 => unfold maxLen; omega
      case d4 => omega
      case d5 => simp; omega
      intro v' w1 hown' hgrow _
      have R := Lib.hid (split_rel hsz HOWN.out HBEL.out hown' hgrow)
      clear hown' hgrow HOWN HBEL
      go_wp2
      go_ret
      exact ⟨v', rfl, by rw [HH.out]; exact R.out.1, R.out.2⟩
theorem l1Split35 (s : Str) (w : World) (hs : s.length ≤ 2 ^ 40) :
    Calls Tryz.prog 208 #[.string (S s), .int .u8 35] w (SplitPost 35 s w) := l1Split s 35 w hs
theorem l1Split62 (s : Str) (w : World) (hs : s.length ≤ 2 ^ 40) :
    Calls Tryz.prog 208 #[.string (S s), .int .u8 62] w (SplitPost 62 s w) := l1Split s 62 w hs
theorem l1Split10 (s : Str) (w : World) (hs : s.length ≤ 2 ^ 40) :
    Calls Tryz.prog 208 #[.string (S s), .int .u8 10] w (SplitPost 10 s w) := l1Split s 10 w hs
end Go.Proofs.YtmlklnimoknojaaGreatDoor.L
