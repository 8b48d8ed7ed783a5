/- Walks: the screen of a list of strokes, least edits (program). -/
import Derived.BigQuiet
import Derived.Test.YtmlklnimoknojaaGreatDoorScrS
import Derived.Test.YtmlklnimoknojaaGreatDoorMemD
import Derived.Test.YtmlklnimoknojaaGreatDoorCurD
import Derived.Test.YtmlklnimoknojaaGreatDoorOutD
import Derived.Test.YtmlklnimoknojaaGreatDoorValD
import Derived.Test.YtmlklnimoknojaaGreatDoorLawD
namespace Go.Proofs.YtmlklnimoknojaaGreatDoor
open Go Go.RowKit
set_option maxRecDepth 100000
theorem impl_screenOf (dv sv : Value) (l : P.Dic) (st : List Int) (w : World) (hu : EntR w dv l) (hs : IntR w sv st) (hm : Small l) (hE : Env w) :
    Calls Tryz.prog 18 #[.agg #[dv], sv] w (RenPost (P.scr l st) w) := by
  have hb0 : Below w.heap.size w (w.alloc (.cells #[dv] 26)) := (Below.refl _ _).alloc (Nat.le_refl _) _
  have HU := Lib.hid (hu.below hb0); have HST := Lib.hid (hs.below hb0); have HB0 := Lib.hid hb0; have HE := Lib.hid (hE.below hb0 hE.size)
  have HX := Lib.hid (DBx.new dv 26 w)
  clear hb0
  obtain ⟨ad, cap, rfl, _, _⟩ := hu
  obtain ⟨sd, sc, rfl, _, _⟩ := hs
  go_enter Tryz.func18, Tryz.ntmps18
  go_wp2_with fail
  refine (isMatched _ _ l st _ HU.out HST.out hm HE.out).mono ?_
  rintro e w1 ⟨rfl, hb⟩
  have HB1 := Lib.hid (HB0.out.trans (hb.mono HB0.out.size)); have HST1 := Lib.hid (HST.out.below hb); have HU1 := Lib.hid (HU.out.below hb); have HX1 := Lib.hid (HX.out.below hb); have HE1 := Lib.hid (HE.out.below hb HE.out.size)
  clear hb
  obtain ⟨q, hq⟩ : ∃ q, (P.dic l && P.slist st) = q := ⟨_, rfl⟩
  have HQ := Lib.hid hq
  rw [hq]
  clear hq
  cases q
  · go_wp2
    go_ret2
    have h : P.scr l st = ([], false) := by unfold P.scr; rw [HQ.out]; rfl
    exact ⟨by rw [h]; rfl, HB1.out⟩
  · have HD := Lib.hid (show P.dic l = true ∧ P.slist st = true by have h := HQ.out; simpa only [Bool.and_eq_true] using h)
    have hl60 := P.slist_len HD.out.2
    obtain ⟨k0, _⟩ := HX1.out
    go_wp2_with fail
    refine (segment _ _ l st _ HU1.out HST1.out hl60).mono ?_
    rintro e w2 ⟨u, rfl, hp, hb⟩
    have HB2 := Lib.hid (HB1.out.trans (hb.mono HB1.out.size)); have HP := Lib.hid hp; have HST2 := Lib.hid (HST1.out.below hb); have HE2 := Lib.hid (HE1.out.below hb HE1.out.size)
    obtain ⟨ua, uc, rfl, _, _⟩ := hp
    clear hb
    go_wp2_with fail
    refine (screenOf _ _ st (P.segA l st) _ HST2.out HP.out HD.out.2 (Nat.le_trans (P.segA_len l st) hl60) (fun p hp => P.seg_piece HD.out.1 hp) HE2.out).mono ?_
    rintro e w3 ⟨rfl, hb3⟩
    have HB3 := Lib.hid (HB2.out.trans (hb3.mono HB2.out.size))
    clear hb3
    have HS := Lib.hid (show P.scr l st = P.render (P.atomsOf st (P.segA l st)) by unfold P.scr; rw [HQ.out]; rfl)
    go_wp2
    go_ret2
    exact ⟨by rw [HS.out]; rfl, HB3.out⟩
def EdPost (x : P.Edit) (w : World) (e : Ending) (w' : World) : Prop := e = .returned (.agg #[.int .i64 x.1, .string (S x.2)]) ∧ Below w.heap.size w w'
theorem leastEdit (a b : Str) (w : World) (ha : a.length ≤ 2 ^ 30) (hb : b.length ≤ 2 ^ 30) :
    Calls Tryz.prog 69 #[.string (S a), .string (S b)] w (EdPost (P.least a b) w) := by
  go_enter Tryz.func69, Tryz.ntmps69
  go_wp2
  go_loopw [5] (fun i wr => ∃ j : Nat, j ≤ a.length ∧ j ≤ b.length ∧ i = .int .i64 j ∧ a.take j = b.take j ∧ ∃ n, wr = (w.alloc (.cells #[.int .i64 0, .string (S [])] 38)).drewN n) (fun i _ => a.length - (intOf i).toNat)
  case atStart => exact ⟨0, Nat.zero_le _, Nat.zero_le _, rfl, rfl, 0, rfl⟩
  case round =>
    obtain ⟨j, hj, hk, rfl, hpre, n, rfl⟩ := hrel
    have HPRE := Lib.hid hpre
    have HSB := Lib.hid (show (a.length - j : Nat) = (a.length : Int) - (j : Int) by omega)
    clear hpre
    by_cases h1 : j < a.length
    · have i1 : (j : Int) < (a.length : Int) := by omega
      by_cases h2 : j < b.length
      · have i2 : (j : Int) < (b.length : Int) := by omega
        by_cases h3 : a[j] = b[j]
        · have f3 : ((((a[j]'h1).toNat : Nat) : Int) == (((b[j]'h2).toNat : Nat) : Int)) = true := by rw [h3]; simp
          have HT := Lib.hid (show a.take (j + 1) = b.take (j + 1) by rw [take_snoc a j h1, take_snoc b j h2, HPRE.out, h3])
          go_wp2_with fail
          go_quiet (fail)
          go_wp2
          go_roundw
          case rel => exact ⟨j + 1, by omega, by omega, by go_num, HT.out, _, rfl⟩
          case measure => simp [intOf]; omega
        · have f3 : ((((a[j]'h1).toNat : Nat) : Int) == (((b[j]'h2).toNat : Nat) : Int)) = false := by
            rw [beq_eq_false_iff_ne]
            intro h
            exact h3 (UInt8.toNat_inj.1 (by omega))
          have HL := Lib.hid (P.lcp_of j a b HPRE.out (by omega) (by omega) (.inr (.inr ⟨h1, h2, h3⟩)))
          go_wp2_with fail
          go_quiet (fail)
          go_wp2
          refine bodyPost_ret (v := .agg #[.int .i64 (P.least a b).1, .string (S (P.least a b).2)]) (by simp [P.least, HL.out, results, Tryz.results69, go_sem, HSB.out]) rfl ⟨rfl, ((below_drewN ((Below.refl _ _).alloc (Nat.le_refl _) _) _).setCell (Nat.le_refl _) _).setCell (Nat.le_refl _) _⟩
      · have i2 : ¬ (j : Int) < (b.length : Int) := by omega
        have HL := Lib.hid (P.lcp_of j a b HPRE.out (by omega) (by omega) (.inr (.inl (by omega))))
        go_wp2_with fail
        go_quiet (fail)
        go_wp2
        refine bodyPost_ret (v := .agg #[.int .i64 (P.least a b).1, .string (S (P.least a b).2)]) (by simp [P.least, HL.out, results, Tryz.results69, go_sem, HSB.out]) rfl ⟨rfl, ((below_drewN ((Below.refl _ _).alloc (Nat.le_refl _) _) _).setCell (Nat.le_refl _) _).setCell (Nat.le_refl _) _⟩
    · have i1 : ¬ (j : Int) < (a.length : Int) := by omega
      have HL := Lib.hid (P.lcp_of j a b HPRE.out (by omega) (by omega) (.inl (by omega)))
      go_wp2_with fail
      go_quiet (fail)
      go_wp2
      refine bodyPost_ret (v := .agg #[.int .i64 (P.least a b).1, .string (S (P.least a b).2)]) (by simp [P.least, HL.out, results, Tryz.results69, go_sem, HSB.out]) rfl ⟨rfl, ((below_drewN ((Below.refl _ _).alloc (Nat.le_refl _) _) _).setCell (Nat.le_refl _) _).setCell (Nat.le_refl _) _⟩
end Go.Proofs.YtmlklnimoknojaaGreatDoor
namespace Go.Proofs.YtmlklnimoknojaaGreatDoor
open Go Go.RowKit
set_option maxRecDepth 100000
theorem l13Least (a b : Str) (w : World) (ha : a.length ≤ 2 ^ 30) (hb : b.length ≤ 2 ^ 30) :
    Calls Tryz.prog 73 #[.string (S a), .string (S b)] w (EdPost (P.least a b) w) := by
  go_enter Tryz.func73, Tryz.ntmps73
  go_wp2
  go_loopw [5] (fun i wr => ∃ j : Nat, j ≤ a.length ∧ j ≤ b.length ∧ i = .int .i64 j ∧ a.take j = b.take j ∧ ∃ n, wr = (w.alloc (.cells #[.int .i64 0, .string (S [])] 38)).drewN n) (fun i _ => a.length - (intOf i).toNat)
  case atStart => exact ⟨0, Nat.zero_le _, Nat.zero_le _, rfl, rfl, 0, rfl⟩
  case round =>
    obtain ⟨j, hj, hk, rfl, hpre, n, rfl⟩ := hrel
    have HPRE := Lib.hid hpre
    have HSB := Lib.hid (show (a.length - j : Nat) = (a.length : Int) - (j : Int) by omega)
    clear hpre
    by_cases h1 : j < a.length
    · have i1 : (j : Int) < (a.length : Int) := by omega
      by_cases h2 : j < b.length
      · have i2 : (j : Int) < (b.length : Int) := by omega
        by_cases h3 : a[j] = b[j]
        · have f3 : ((((a[j]'h1).toNat : Nat) : Int) == (((b[j]'h2).toNat : Nat) : Int)) = true := by rw [h3]; simp
          have HT := Lib.hid (show a.take (j + 1) = b.take (j + 1) by rw [take_snoc a j h1, take_snoc b j h2, HPRE.out, h3])
          go_wp2_with fail
          go_quiet (fail)
          go_wp2
          go_roundw
          case rel => exact ⟨j + 1, by omega, by omega, by go_num, HT.out, _, rfl⟩
          case measure => simp [intOf]; omega
        · have f3 : ((((a[j]'h1).toNat : Nat) : Int) == (((b[j]'h2).toNat : Nat) : Int)) = false := by
            rw [beq_eq_false_iff_ne]
            intro h
            exact h3 (UInt8.toNat_inj.1 (by omega))
          have HL := Lib.hid (P.lcp_of j a b HPRE.out (by omega) (by omega) (.inr (.inr ⟨h1, h2, h3⟩)))
          go_wp2_with fail
          go_quiet (fail)
          go_wp2
          refine bodyPost_ret (v := .agg #[.int .i64 (P.least a b).1, .string (S (P.least a b).2)]) (by simp [P.least, HL.out, results, Tryz.results73, go_sem, HSB.out]) rfl ⟨rfl, ((below_drewN ((Below.refl _ _).alloc (Nat.le_refl _) _) _).setCell (Nat.le_refl _) _).setCell (Nat.le_refl _) _⟩
      · have i2 : ¬ (j : Int) < (b.length : Int) := by omega
        have HL := Lib.hid (P.lcp_of j a b HPRE.out (by omega) (by omega) (.inr (.inl (by omega))))
        go_wp2_with fail
        go_quiet (fail)
        go_wp2
        refine bodyPost_ret (v := .agg #[.int .i64 (P.least a b).1, .string (S (P.least a b).2)]) (by simp [P.least, HL.out, results, Tryz.results73, go_sem, HSB.out]) rfl ⟨rfl, ((below_drewN ((Below.refl _ _).alloc (Nat.le_refl _) _) _).setCell (Nat.le_refl _) _).setCell (Nat.le_refl _) _⟩
    · have i1 : ¬ (j : Int) < (a.length : Int) := by omega
      have HL := Lib.hid (P.lcp_of j a b HPRE.out (by omega) (by omega) (.inl (by omega)))
      go_wp2_with fail
      go_quiet (fail)
      go_wp2
      refine bodyPost_ret (v := .agg #[.int .i64 (P.least a b).1, .string (S (P.least a b).2)]) (by simp [P.least, HL.out, results, Tryz.results73, go_sem, HSB.out]) rfl ⟨rfl, ((below_drewN ((Below.refl _ _).alloc (Nat.le_refl _) _) _).setCell (Nat.le_refl _) _).setCell (Nat.le_refl _) _⟩
theorem l1Has (u : Value) (l : List Int) (x : Int) (w : World) (hu : IntR w u l) :
    Calls Tryz.prog 137 #[u, .int .i64 x] w fun e w' => e = .returned (.bool (l.contains x)) ∧ w = w' := by
  have HU := Lib.hid hu
  obtain ⟨ad, cap, rfl, hl, _⟩ := hu
  go_enter Tryz.func137, Tryz.ntmps137
  go_wp2
  go_loop [5] (fun i => ∃ j : Nat, j ≤ l.length ∧ i = .int .i64 j ∧ (l.take j).contains x = false) (fun i => l.length - (intOf i).toNat)
  case atStart => exact ⟨0, Nat.zero_le _, rfl, by simp⟩
  case round =>
    obtain ⟨j, hj, rfl, ha⟩ := hrel
    have HA := Lib.hid ha; clear ha
    by_cases hlt : j < l.length
    · obtain ⟨g, o, hga, _, hc⟩ := HU.out.at j hlt
      subst hga
      have HSN := Lib.hid (take_snoc l j hlt)
      have HMEM := Lib.hid (List.getElem_mem hlt)
      generalize l[j] = y at *
      have i1 : (j : Int) < (l.length : Int) := by omega
      by_cases h : y = x
      · subst h
        have HYES := Lib.hid (show decide (y ∈ l) = true from decide_eq_true HMEM.out)
        go_wp2
        go_ret
        exact ⟨by rw [HYES.out]; rfl, rfl⟩
      · have i2 : (y == x) = false := by simpa using h
        have HNX := Lib.hid (show (l.take (j + 1)).contains x = false by
          rw [HSN.out]
          have h2 := HA.out
          simp only [List.contains_eq_mem, decide_eq_false_iff_not, List.mem_append, List.mem_singleton, not_or] at h2 ⊢
          exact ⟨h2, fun h3 => h h3.symm⟩)
        go_wp2
        go_round
        case rel => exact ⟨j + 1, by omega, by go_num, HNX.out⟩
        case measure => simp [intOf]; omega
    · have i1 : ¬ (j : Int) < (l.length : Int) := by omega
      have HNO := Lib.hid (show decide (x ∈ l) = false by
        have h := HA.out
        rw [List.take_of_length_le (by omega)] at h
        simpa using h)
      go_wp2
      go_ret
      exact ⟨by rw [HNO.out]; rfl, rfl⟩
end Go.Proofs.YtmlklnimoknojaaGreatDoor
namespace Go.Proofs.YtmlklnimoknojaaGreatDoor
section
open Go Go.RowKit
set_option maxHeartbeats 2000000
set_option maxRecDepth 100000
abbrev transV (u : Value) (sc : Str) : Value := .agg #[u, .string (S sc)]
end
section
open Go Go.RowKit
set_option maxHeartbeats 2000000
set_option maxRecDepth 100000
end
end Go.Proofs.YtmlklnimoknojaaGreatDoor
namespace Go.Proofs.YtmlklnimoknojaaGreatDoor
open Go Go.RowKit
set_option maxRecDepth 100000
theorem has (u : Value) (l : List Int) (x : Int) (w : World) (hu : IntR w u l) :
    Calls Tryz.prog 75 #[u, .int .i64 x] w fun e w' => e = .returned (.bool (l.contains x)) ∧ w' = w := by
  obtain ⟨ad, cap, rfl, ⟨hl, hc⟩, hn, h3⟩ := hu
  have HC := Lib.hid (show Calls Tryz.prog 139 #[.slice ad l.length cap, .int .i64 x] w fun e w' => e = .returned (.bool (l.contains x)) ∧ w' = w by
    rcases h3 with rfl | ⟨g, o, rfl, hg, hcell⟩
    · exact Tryz.slices_Contains_int_empty ad cap x w
    · have h := Tryz.slices_Contains_int g o l.length cap l x w (Nat.le_refl _) (by omega) (fun j hj => by rw [hcell j hj]; simp [hj])
      rw [List.take_length] at h
      exact h)
  clear h3 hn
  obtain ⟨q, hq⟩ : ∃ q, l.contains x = q := ⟨_, rfl⟩
  rw [hq] at HC ⊢
  clear hq
  go_enter Tryz.func75, Tryz.ntmps75
  go_wp2_with fail
  refine HC.out.mono ?_
  rintro e w' ⟨rfl, rfl⟩
  go_wp2
  go_ret
  exact ⟨rfl, rfl⟩
def TBx (b : Nat) (u : Value) (t : Str) (v : World) : Prop := b < v.heap.size ∧ v.cell? ⟨b, 0, none⟩ = some u ∧ v.cell? ⟨b, 1, none⟩ = some (.string (S t)) ∧ v.frozen? ⟨b, 0, none⟩ = false ∧ v.frozen? ⟨b, 1, none⟩ = false
theorem TBx.below {b : Nat} {u : Value} {t : Str} {v v' : World} (h : TBx b u t v) (hb : Below v.heap.size v v') : TBx b u t v' := by
  obtain ⟨h1, h2, h3, h4, h5⟩ := h
  exact ⟨Nat.lt_of_lt_of_le h1 hb.size, (hb.cell (p := ⟨b, 0, none⟩) h1).trans h2, (hb.cell (p := ⟨b, 1, none⟩) h1).trans h3, (hb.frozen (p := ⟨b, 0, none⟩) h1).trans h4, (hb.frozen (p := ⟨b, 1, none⟩) h1).trans h5⟩
theorem TBx.new (u : Value) (t : Str) (v : World) : TBx v.heap.size u t (v.alloc (.cells #[u, .string (S t)] 32)) := ⟨by simp, by go_simp, by go_simp, by go_simp, by go_simp⟩
theorem impl_isValidTranslator (dv sv : Value) (l : P.Dic) (st : List Int) (t : Str) (w : World) (hu : EntR w dv l) (hs : IntR w sv st) (hm : Small l) (hE : Env w) :
    Calls Tryz.prog 25 #[.agg #[dv], transV sv t] w fun e w' => e = .returned (.bool (P.trans l (st, t))) ∧ Below w.heap.size w w' := by
  have hb0 : Below w.heap.size w ((w.alloc (.cells #[dv] 26)).alloc (.cells #[sv, .string (S t)] 32)) := ((Below.refl w.heap.size w).alloc (Nat.le_refl _) _).alloc (by simp) _
  have HU := Lib.hid (hu.below hb0); have HST := Lib.hid (hs.below hb0); have HB0 := Lib.hid hb0; have HE := Lib.hid (hE.below hb0 hE.size)
  have HX := Lib.hid (show TBx (w.heap.size + 1) sv t ((w.alloc (.cells #[dv] 26)).alloc (.cells #[sv, .string (S t)] 32)) by simpa using TBx.new sv t (w.alloc (.cells #[dv] 26)))
  clear hb0
  obtain ⟨ad, cap, rfl, _, _⟩ := hu
  obtain ⟨sd, sc, rfl, _, _⟩ := hs
  unfold transV
  go_enter Tryz.func25, Tryz.ntmps25
  go_wp2_with fail
  refine (impl_screenOf _ _ l st _ HU.out HST.out hm HE.out).mono ?_
  rintro e w1 ⟨rfl, hb⟩
  have HB1 := Lib.hid (HB0.out.trans (hb.mono HB0.out.size)); have HST1 := Lib.hid (HST.out.below hb); have HX1 := Lib.hid (HX.out.below hb)
  have HP := Lib.hid (show P.trans l (st, t) = ((P.scr l st).2 && ((P.scr l st).1 == t && !st.contains 1024)) from rfl)
  clear hb
  generalize P.scr l st = r at *
  obtain ⟨r1, r2⟩ := r
  obtain ⟨k0, k1, k2, _⟩ := HX1.out
  cases r2
  · go_wp2
    go_ret
    exact ⟨by rw [HP.out]; rfl, HB1.out⟩
  · by_cases h : r1 = t
    · subst h
      go_wp2_with fail
      refine (has _ st 1024 _ HST1.out).mono ?_
      rintro e w2 ⟨rfl, rfl⟩
      obtain ⟨q, hq⟩ : ∃ q, st.contains 1024 = q := ⟨_, rfl⟩
      rw [hq] at HP ⊢
      clear hq
      go_wp2
      go_ret
      exact ⟨by rw [HP.out]; simp, HB1.out⟩
    · have f1 : ¬ S r1 = S t := fun hx => h (S_inj hx)
      have f2 : decide (S r1 = S t) = false := decide_eq_false f1
      go_wp2
      go_ret
      exact ⟨by rw [HP.out]; simp [h], HB1.out⟩
end Go.Proofs.YtmlklnimoknojaaGreatDoor
