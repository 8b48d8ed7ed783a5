/- Walks: the screen of a list of strokes, least edits (program). -/
import Derived.BigQuiet
import Derived.Test.YtpkahblajgaemaaGreatDoorScrI
import Derived.Test.YtpkahblajgaemaaGreatDoorMemD
import Derived.Test.YtpkahblajgaemaaGreatDoorLawD
import Derived.Test.YtpkahblajgaemaaGreatDoorOutD
import Derived.Test.YtpkahblajgaemaaGreatDoorValD
import Derived.Test.YtpkahblajgaemaaGreatDoorLook1
import Derived.Deep.DeepCutAuto
import Derived.Deep.RegionHeld
import Derived.Test.YtpkahblajgaemaaGreatDoorCurE1
namespace Go.Proofs.YtpkahblajgaemaaGreatDoor
open Go Go.RowKit
set_option maxRecDepth 100000
theorem impl_screenOf (dv sv : Value) (l : P.Dic) (st : List Int) (w : World) (hu : EntR w dv l) (hs : IntR w sv st) (hm : Small l) (hE : Env w) :
    Calls Tryz.prog 20 #[.agg #[dv], sv] w (RenPost (P.scr l st) w) := by
  have hb0 : Below w.heap.size w (w.alloc (.cells #[dv] 26)) := (Below.refl _ _).alloc (Nat.le_refl _) _
  have HU := Lib.hid (hu.below hb0); have HST := Lib.hid (hs.below hb0); have HB0 := Lib.hid hb0; have HE := Lib.hid (hE.below hb0 hE.size)
  have HX := Lib.hid (DBx.new dv 26 w)
  clear hb0
  obtain ⟨ad, cap, rfl, _, _⟩ := hu
  obtain ⟨sd, sc, rfl, _, _⟩ := hs
  go_enter Tryz.func20, Tryz.ntmps20
  go_wp2_with fail
  refine (isMatched _ _ l st _ HU.out HST.out hm HE.out).mono ?_
  rintro e w1 ⟨rfl, hb⟩
  have HB1 := Lib.hid (HB0.out.trans (hb.mono HB0.out.size)); have HST1 := Lib.hid (HST.out.below hb); have HU1 := Lib.hid (HU.out.below hb); have HX1 := Lib.hid (HX.out.below hb); have HE1 := Lib.hid (HE.out.below hb HE.out.size)
  clear hb
  obtain ⟨q, hq⟩ : ∃ q, (P.dic l && P.slist st) = q := ⟨_, rfl⟩
  have HQ := Lib.hid hq
  rw [hq]
  clear hq
  cases q
  · go_wp2
    go_ret2
    have h : P.scr l st = ([], false) := by unfold P.scr; rw [HQ.out]; rfl
    exact ⟨by rw [h]; rfl, HB1.out⟩
  · have HD := Lib.hid (show P.dic l = true ∧ P.slist st = true by have h := HQ.out; simpa only [Bool.and_eq_true] using h)
    have hl60 := P.slist_len HD.out.2
    obtain ⟨k0, _⟩ := HX1.out
    go_wp2_with fail
    refine (segment _ _ l st _ HU1.out HST1.out hl60).mono ?_
    rintro e w2 ⟨u, rfl, hp, hb⟩
    have HB2 := Lib.hid (HB1.out.trans (hb.mono HB1.out.size)); have HP := Lib.hid hp; have HST2 := Lib.hid (HST1.out.below hb); have HE2 := Lib.hid (HE1.out.below hb HE1.out.size)
    obtain ⟨ua, uc, rfl, _, _⟩ := hp
    clear hb
    go_wp2_with fail
    refine (screenOf _ _ st (P.segA l st) _ HST2.out HP.out HD.out.2 (Nat.le_trans (P.segA_len l st) hl60) (fun p hp => P.seg_piece HD.out.1 hp) HE2.out).mono ?_
    rintro e w3 ⟨rfl, hb3⟩
    have HB3 := Lib.hid (HB2.out.trans (hb3.mono HB2.out.size))
    clear hb3
    have HS := Lib.hid (show P.scr l st = P.render (P.atomsOf st (P.segA l st)) by unfold P.scr; rw [HQ.out]; rfl)
    go_wp2
    go_ret2
    exact ⟨by rw [HS.out]; rfl, HB3.out⟩
def EdPost (x : P.Edit) (w : World) (e : Ending) (w' : World) : Prop := e = .returned (.agg #[.int .i64 x.1, .string (S x.2)]) ∧ Below w.heap.size w w'
theorem leastEdit (a b : Str) (w : World) (ha : a.length ≤ 2 ^ 30) (hb : b.length ≤ 2 ^ 30) :
    Calls Tryz.prog 76 #[.string (S a), .string (S b)] w (EdPost (P.least a b) w) := by
  go_enter Tryz.func76, Tryz.ntmps76
  go_wp2
  go_loopw [5] (fun i wr => ∃ j : Nat, j ≤ a.length ∧ j ≤ b.length ∧ i = .int .i64 j ∧ a.take j = b.take j ∧ ∃ n, wr = (w.alloc (.cells #[.int .i64 0, .string (S [])] 38)).drewN n) (fun i _ => a.length - (intOf i).toNat)
  case atStart => exact ⟨0, Nat.zero_le _, Nat.zero_le _, rfl, rfl, 0, rfl⟩
  case round =>
    obtain ⟨j, hj, hk, rfl, hpre, n, rfl⟩ := hrel
    have HPRE := Lib.hid hpre
    have HSB := Lib.hid (show (a.length - j : Nat) = (a.length : Int) - (j : Int) by omega)
    clear hpre
    by_cases h1 : j < a.length
    · have i1 : (j : Int) < (a.length : Int) := by omega
      by_cases h2 : j < b.length
      · have i2 : (j : Int) < (b.length : Int) := by omega
        by_cases h3 : a[j] = b[j]
        · have f3 : ((((a[j]'h1).toNat : Nat) : Int) == (((b[j]'h2).toNat : Nat) : Int)) = true := by rw [h3]; simp
          have HT := Lib.hid (show a.take (j + 1) = b.take (j + 1) by rw [take_snoc a j h1, take_snoc b j h2, HPRE.out, h3])
          go_wp2_with fail
          go_quiet (fail)
          go_wp2
          go_roundw
          case rel => exact ⟨j + 1, by omega, by omega, by go_num, HT.out, _, rfl⟩
          case measure => simp [intOf]; omega
        · have f3 : ((((a[j]'h1).toNat : Nat) : Int) == (((b[j]'h2).toNat : Nat) : Int)) = false := by
            rw [beq_eq_false_iff_ne]
            intro h
            exact h3 (UInt8.toNat_inj.1 (by omega))
          have HL := Lib.hid (P.lcp_of j a b HPRE.out (by omega) (by omega) (.inr (.inr ⟨h1, h2, h3⟩)))
          go_wp2_with fail
          go_quiet (fail)
          go_wp2
          refine bodyPost_ret (v := .agg #[.int .i64 (P.least a b).1, .string (S (P.least a b).2)]) (by simp [P.least, HL.out, results, Tryz.results76, go_sem, HSB.out]) rfl ⟨rfl, ((below_drewN ((Below.refl _ _).alloc (Nat.le_refl _) _) _).setCell (Nat.le_refl _) _).setCell (Nat.le_refl _) _⟩
      · have i2 : ¬ (j : Int) < (b.length : Int) := by omega
        have HL := Lib.hid (P.lcp_of j a b HPRE.out (by omega) (by omega) (.inr (.inl (by omega))))
        go_wp2_with fail
        go_quiet (fail)
        go_wp2
        refine bodyPost_ret (v := .agg #[.int .i64 (P.least a b).1, .string (S (P.least a b).2)]) (by simp [P.least, HL.out, results, Tryz.results76, go_sem, HSB.out]) rfl ⟨rfl, ((below_drewN ((Below.refl _ _).alloc (Nat.le_refl _) _) _).setCell (Nat.le_refl _) _).setCell (Nat.le_refl _) _⟩
    · have i1 : ¬ (j : Int) < (a.length : Int) := by omega
      have HL := Lib.hid (P.lcp_of j a b HPRE.out (by omega) (by omega) (.inl (by omega)))
      go_wp2_with fail
      go_quiet (fail)
      go_wp2
      refine bodyPost_ret (v := .agg #[.int .i64 (P.least a b).1, .string (S (P.least a b).2)]) (by simp [P.least, HL.out, results, Tryz.results76, go_sem, HSB.out]) rfl ⟨rfl, ((below_drewN ((Below.refl _ _).alloc (Nat.le_refl _) _) _).setCell (Nat.le_refl _) _).setCell (Nat.le_refl _) _⟩
end Go.Proofs.YtpkahblajgaemaaGreatDoor
namespace Go.Proofs.YtpkahblajgaemaaGreatDoor
section
open Go Go.RowKit
set_option maxHeartbeats 2000000
set_option maxRecDepth 100000
abbrev transV (u : Value) (sc : Str) : Value := .agg #[u, .string (S sc)]
theorem eqTranslator (u v : Value) (l : List Int) (t : Str) (w : World) (hu : IntR w u l) (hv : IntR w v l) :
    Calls Tryz.prog 34 #[transV u t, transV v t] w fun e w' => e = .returned (.bool true) ∧ Below w.heap.size w w' := by
  have hb0 : Below w.heap.size w ((w.alloc (.cells #[u, .string (S t)] 32)).alloc (.cells #[v, .string (S t)] 32)) :=
    ((Below.refl w.heap.size w).alloc (Nat.le_refl _) _).alloc (by simp) _
  have HU := Lib.hid (hu.below hb0); have HV := Lib.hid (hv.below hb0)
  have HB0 := Lib.hid hb0; clear hb0
  obtain ⟨ad, cap, rfl, hla, _⟩ := hu
  obtain ⟨bd, dap, rfl, _, _⟩ := hv
  go_enter Tryz.func34, Tryz.ntmps34
  go_wp2_with fail
  refine (eqIntS _ _ l _ HU.out HV.out).mono ?_
  rintro e w1 ⟨rfl, hb⟩
  have hz : w.heap.size + 1 < w1.heap.size := by have := hb.size; simp at this; omega
  obtain ⟨hcc, hff⟩ := bcell hb
  have r1 : w1.cell? ⟨w.heap.size, 1, none⟩ = some (.string (S t)) := by rw [hcc _ _ (by simp; omega)]; go_simp
  have q1 : w1.cell? ⟨w.heap.size + 1, 1, none⟩ = some (.string (S t)) := by rw [hcc _ _ (by simp)]; go_simp
  have HB1 := Lib.hid (HB0.out.trans (hb.mono (by simp; omega)))
  clear hb hcc hff HU HV HB0
  go_wp2
  first | go_quiet (fail) | skip
  go_wp2
  go_ret
  exact ⟨rfl, by first | exact HB1.out | exact below_drewN HB1.out _⟩
theorem markTranslator (u : Value) (l : List Int) (t : Str) (k : Int) (F : Blk) (w : World) (hu : Ints w F u l) (hk0 : 0 ≤ k) (hk : k ≤ 2 ^ 40) :
    Calls Tryz.prog 38 #[transV u t, .int .i64 k] w fun e w' => e = .returned (.int .i64 (k + l.length)) ∧ Ints w' F u (P.marks k l.length) ∧ Chg F w w' := by
  have HU := Lib.hid (hu.below intE_ok ((Below.refl w.heap.size w).alloc (Nat.le_refl _) (.cells #[u, .string (S t)] 32)))
  have HC := Lib.hid ((Chg.refl F w).alloc (.cells #[u, .string (S t)] 32))
  obtain ⟨ad, cap, rfl, _, _⟩ := hu
  go_enter Tryz.func38, Tryz.ntmps38
  go_wp2_with fail
  refine (markIntS _ l k F _ HU.out hk0 hk).mono ?_
  rintro e w1 ⟨rfl, hI, hc, _⟩
  have HI := Lib.hid hI; have HC1 := Lib.hid (HC.out.trans hc)
  clear hI hc
  go_wp2
  go_ret
  exact ⟨rfl, HI.out, HC1.out⟩
theorem heldTranslator (u : Value) (n : Nat) (t : Str) (k : Int) (w : World) (hu : IntR w u (P.marks k n)) (hk0 : 0 ≤ k) (hk : k ≤ 2 ^ 40) (hn : n ≤ 2 ^ 40) :
    Calls Tryz.prog 39 #[transV u t, .int .i64 k] w fun e w' => e = .returned (.int .i64 (k + n)) ∧ Below w.heap.size w w' := by
  have hb0 := (Below.refl w.heap.size w).alloc (Nat.le_refl _) (.cells #[u, .string (S t)] 32)
  have HU := Lib.hid (hu.below hb0); have HB0 := Lib.hid hb0; clear hb0
  obtain ⟨ad, cap, rfl, _, _⟩ := hu
  go_enter Tryz.func39, Tryz.ntmps39
  go_wp2_with fail
  refine (heldIntS _ n k _ HU.out hk0 hk hn).mono ?_
  rintro e w1 ⟨rfl, rfl⟩
  have hn1 : ¬ k + (n : Int) < 0 := by omega
  go_wp2
  go_ret
  exact ⟨rfl, HB0.out⟩
end
section
open Go Go.RowKit
set_option maxHeartbeats 2000000
set_option maxRecDepth 100000
end
end Go.Proofs.YtpkahblajgaemaaGreatDoor
namespace Go.Proofs.YtpkahblajgaemaaGreatDoor
open Go Go.RowKit
set_option maxRecDepth 100000
theorem has (u : Value) (l : List Int) (x : Int) (w : World) (hu : IntR w u l) :
    Calls Tryz.prog 82 #[u, .int .i64 x] w fun e w' => e = .returned (.bool (l.contains x)) ∧ w' = w := by
  obtain ⟨ad, cap, rfl, ⟨hl, hc⟩, hn, h3⟩ := hu
  have HC := Lib.hid (show Calls Tryz.prog 126 #[.slice ad l.length cap, .int .i64 x] w fun e w' => e = .returned (.bool (l.contains x)) ∧ w' = w by
    rcases h3 with rfl | ⟨g, o, rfl, hg, hcell⟩
    · exact Tryz.slices_Contains_int_empty ad cap x w
    · have h := Tryz.slices_Contains_int g o l.length cap l x w (Nat.le_refl _) (by omega) (fun j hj => by rw [hcell j hj]; simp [hj])
      rw [List.take_length] at h
      exact h)
  clear h3 hn
  obtain ⟨q, hq⟩ : ∃ q, l.contains x = q := ⟨_, rfl⟩
  rw [hq] at HC ⊢
  clear hq
  go_enter Tryz.func82, Tryz.ntmps82
  go_wp2_with fail
  refine HC.out.mono ?_
  rintro e w' ⟨rfl, rfl⟩
  go_wp2
  go_ret
  exact ⟨rfl, rfl⟩
def TBx (b : Nat) (u : Value) (t : Str) (v : World) : Prop := b < v.heap.size ∧ v.cell? ⟨b, 0, none⟩ = some u ∧ v.cell? ⟨b, 1, none⟩ = some (.string (S t)) ∧ v.frozen? ⟨b, 0, none⟩ = false ∧ v.frozen? ⟨b, 1, none⟩ = false
theorem TBx.below {b : Nat} {u : Value} {t : Str} {v v' : World} (h : TBx b u t v) (hb : Below v.heap.size v v') : TBx b u t v' := by
  obtain ⟨h1, h2, h3, h4, h5⟩ := h
  exact ⟨Nat.lt_of_lt_of_le h1 hb.size, (hb.cell (p := ⟨b, 0, none⟩) h1).trans h2, (hb.cell (p := ⟨b, 1, none⟩) h1).trans h3, (hb.frozen (p := ⟨b, 0, none⟩) h1).trans h4, (hb.frozen (p := ⟨b, 1, none⟩) h1).trans h5⟩
theorem TBx.new (u : Value) (t : Str) (v : World) : TBx v.heap.size u t (v.alloc (.cells #[u, .string (S t)] 32)) := ⟨by simp, by go_simp, by go_simp, by go_simp, by go_simp⟩
theorem impl_isValidTranslator (dv sv : Value) (l : P.Dic) (st : List Int) (t : Str) (w : World) (hu : EntR w dv l) (hs : IntR w sv st) (hm : Small l) (hE : Env w) :
    Calls Tryz.prog 27 #[.agg #[dv], transV sv t] w fun e w' => e = .returned (.bool (P.trans l (st, t))) ∧ Below w.heap.size w w' := by
  have hb0 : Below w.heap.size w ((w.alloc (.cells #[dv] 26)).alloc (.cells #[sv, .string (S t)] 32)) := ((Below.refl w.heap.size w).alloc (Nat.le_refl _) _).alloc (by simp) _
  have HU := Lib.hid (hu.below hb0); have HST := Lib.hid (hs.below hb0); have HB0 := Lib.hid hb0; have HE := Lib.hid (hE.below hb0 hE.size)
  have HX := Lib.hid (show TBx (w.heap.size + 1) sv t ((w.alloc (.cells #[dv] 26)).alloc (.cells #[sv, .string (S t)] 32)) by simpa using TBx.new sv t (w.alloc (.cells #[dv] 26)))
  clear hb0
  obtain ⟨ad, cap, rfl, _, _⟩ := hu
  obtain ⟨sd, sc, rfl, _, _⟩ := hs
  unfold transV
  go_enter Tryz.func27, Tryz.ntmps27
  go_wp2_with fail
  refine (impl_screenOf _ _ l st _ HU.out HST.out hm HE.out).mono ?_
  rintro e w1 ⟨rfl, hb⟩
  have HB1 := Lib.hid (HB0.out.trans (hb.mono HB0.out.size)); have HST1 := Lib.hid (HST.out.below hb); have HX1 := Lib.hid (HX.out.below hb)
  have HP := Lib.hid (show P.trans l (st, t) = ((P.scr l st).2 && ((P.scr l st).1 == t && !st.contains 1024)) from rfl)
  clear hb
  generalize P.scr l st = r at *
  obtain ⟨r1, r2⟩ := r
  obtain ⟨k0, k1, k2, _⟩ := HX1.out
  cases r2
  · go_wp2
    go_ret
    exact ⟨by rw [HP.out]; rfl, HB1.out⟩
  · by_cases h : r1 = t
    · subst h
      go_wp2_with fail
      refine (has _ st 1024 _ HST1.out).mono ?_
      rintro e w2 ⟨rfl, rfl⟩
      obtain ⟨q, hq⟩ : ∃ q, st.contains 1024 = q := ⟨_, rfl⟩
      rw [hq] at HP ⊢
      clear hq
      go_wp2
      go_ret
      exact ⟨by rw [HP.out]; simp, HB1.out⟩
    · have f1 : ¬ S r1 = S t := fun hx => h (S_inj hx)
      have f2 : decide (S r1 = S t) = false := decide_eq_false f1
      go_wp2
      go_ret
      exact ⟨by rw [HP.out]; simp [h], HB1.out⟩
end Go.Proofs.YtpkahblajgaemaaGreatDoor
namespace Go.Proofs.YtpkahblajgaemaaGreatDoor
namespace P
end P
open Go Go.RowKit
set_option maxHeartbeats 2000000
set_option maxRecDepth 100000
theorem IntR.cap {v : World} {a : Option Addr} {n c : Nat} {l : List Int} (h : IntR v (.slice a n c) l) : l.length ≤ c := by
  obtain ⟨ad, cap, h1, h2, _⟩ := h
  injection h1 with _ _ h3
  subst h3
  exact h2.2
def EBx (b : Nat) (v : World) : Prop := b < v.heap.size ∧ v.cell? ⟨b, 0, none⟩ = some (.int .i64 0) ∧ v.cell? ⟨b, 1, none⟩ = some (.string (S [])) ∧ v.frozen? ⟨b, 0, none⟩ = false ∧ v.frozen? ⟨b, 1, none⟩ = false
theorem EBx.below {b : Nat} {v v' : World} (h : EBx b v) (hb : Below v.heap.size v v') : EBx b v' := by
  obtain ⟨h1, h2, h3, h4, h5⟩ := h
  exact ⟨Nat.lt_of_lt_of_le h1 hb.size, (hb.cell (p := ⟨b, 0, none⟩) h1).trans h2, (hb.cell (p := ⟨b, 1, none⟩) h1).trans h3, (hb.frozen (p := ⟨b, 0, none⟩) h1).trans h4, (hb.frozen (p := ⟨b, 1, none⟩) h1).trans h5⟩
def editV (e : P.Edit) : Value := .agg #[.int .i64 e.1, .string (S e.2)]
end Go.Proofs.YtpkahblajgaemaaGreatDoor
namespace Go.Proofs.YtpkahblajgaemaaGreatDoor
namespace P
end P
open Go Go.RowKit
set_option maxHeartbeats 2000000
set_option maxRecDepth 100000
theorem eqEdit (n : Int) (t : Str) (w : World) :
    Calls Tryz.prog 35 #[.agg #[.int .i64 n, .string (S t)], .agg #[.int .i64 n, .string (S t)]] w fun e w' => e = .returned (.bool true) ∧ Below w.heap.size w w' := by
  have hb0 : Below w.heap.size w ((w.alloc (.cells #[.int .i64 n, .string (S t)] 38)).alloc (.cells #[.int .i64 n, .string (S t)] 38)) :=
    ((Below.refl w.heap.size w).alloc (Nat.le_refl _) _).alloc (by simp) _
  have HB0 := Lib.hid hb0; clear hb0
  go_enter Tryz.func35, Tryz.ntmps35
  go_wp2
  go_ret
  exact ⟨rfl, by first | exact HB0.out | exact below_drewN HB0.out _⟩
end Go.Proofs.YtpkahblajgaemaaGreatDoor
namespace Go.Proofs.YtpkahblajgaemaaGreatDoor
open Go Go.RowKit
set_option maxHeartbeats 2000000
set_option maxRecDepth 100000
def BetO (lo hi : Nat) (u : Value) : Blk := fun b => (lo ≤ b ∧ b < hi) ∧ u.ownBlock = some b
theorem ownK_ints {B : Nat} {v : World} {u : Value} {l : List Int} (h : OwnK B v u l) (hl : l.length ≤ 2 ^ 30) : Ints v (BetO B v.heap.size u) u l := by
  rcases id h.2 with ⟨rfl, h0⟩ | ⟨g, cap, cur, hv, hg, hh, hnc, _⟩
  · rw [List.eq_nil_of_length_eq_zero h0]
    exact RowO.nil _ _
  · have hob : u.ownBlock = some g := by rw [hv]; rfl
    have hlt := (World.ownsRow.lt h g hob).2
    have hBl : BetO B v.heap.size u g := ⟨⟨hg, hlt⟩, hob⟩
    subst hv
    refine ints_of_cel (fun j hj => ?_) hBl (fun b hb => hb.1.2) hl hnc
    have hj' : j < l.length := by simpa using hj
    have e := World.ownsRow.cellAt h j (by omega)
    rw [List.getElem?_eq_getElem hj] at e
    rw [Nat.zero_add]
    exact ⟨e, World.ownsRow.frozenAt h j⟩
end Go.Proofs.YtpkahblajgaemaaGreatDoor
namespace Go.Proofs.YtpkahblajgaemaaGreatDoor
open Go Go.RowKit
set_option maxHeartbeats 2000000
set_option maxRecDepth 100000
theorem szTranslator (u : Value) (l : List Int) (t : Str) (left : Int) (w : World) (hu : IntA w u l) (ht : t.length ≤ 9223372036854775807) (h0 : 0 ≤ left) (h1 : left ≤ 2 ^ 20) :
    Calls Tryz.prog 29 #[.agg #[u, .string (S t)], .int .i64 left] w (SzPost left (l.length + t.length) w) := by
  have hb0 := (Below.refl w.heap.size w).alloc (Nat.le_refl _) (.cells #[u, .string (S t)] 58)
  have HU := Lib.hid (hu.below hb0); have HB0 := Lib.hid hb0; clear hb0
  obtain ⟨ad, cap, rfl, hl, _⟩ := hu
  go_enter Tryz.func29, Tryz.ntmps29
  go_wp2_with fail
  refine (szIntS _ l left _ HU.out h0 h1).mono ?_
  rintro e w1 ⟨⟨r, rfl, hr1, hr2⟩, hb⟩
  have hz := grew0 hb
  obtain ⟨hcc, _⟩ := bcell hb
  have c1 : w1.cell? ⟨w.heap.size, 1, none⟩ = some (.string (S t)) := by rw [hcc _ _ (by simp)]; go_simp
  have HB1 := Lib.hid (HB0.out.trans (hb.mono (by simp)))
  clear hb hcc
  have HR := Lib.hid hr2; clear hr2
  by_cases hlt : r < 0
  · go_wp2
    go_ret
    exact ⟨⟨-1, rfl, by omega, by omega⟩, HB1.out⟩
  · have hr3 : r ≤ 2 ^ 20 := by have := HR.out (by omega); omega
    have hr0 : 0 ≤ r := by omega
    by_cases hlt2 : r - (t.length : Int) < 0
    · go_wp2
      go_ret
      exact ⟨⟨-1, rfl, by omega, by omega⟩, HB1.out⟩
    · go_wp2
      go_ret
      exact ⟨⟨_, rfl, by omega, fun _ => by have := HR.out hr0; omega⟩, HB1.out⟩
theorem toTranslator (u : Value) (l : List Int) (t : Str) (w : World) (hu : IntR w u l) (hl : l.length ≤ 2 ^ 20) :
    Calls Tryz.prog 32 #[.agg #[u, .string (S t)]] w (EntPost l t w) := by
  have hb0 : Below w.heap.size w (((w.alloc (.cells #[u, .string (S t)] 58)).alloc (.cells #[.slice none 0 0, .string (S [])] 32)).alloc (.cells #[.slice none 0 0, .string (S [])] 32)) :=
    (((Below.refl w.heap.size w).alloc (Nat.le_refl _) _).alloc (by simp) _).alloc (by simp; omega) _
  have HU := Lib.hid (hu.below hb0)
  have HB0 := Lib.hid hb0; clear hb0
  obtain ⟨ad, cap, rfl, _, _⟩ := hu
  go_enter Tryz.func32, Tryz.ntmps32
  go_wp2_with fail
  refine (toIntS _ l _ HU.out hl).mono ?_
  rintro e w1 ⟨u', rfl, hI, hb⟩
  have hz : w.heap.size + 2 < w1.heap.size := by have := hb.size; simp at this; omega
  obtain ⟨hcc, hff⟩ := bcell hb
  have c1 : w1.cell? ⟨w.heap.size, 1, none⟩ = some (.string (S t)) := by rw [hcc _ _ (by simp; omega)]; go_simp
  have r0 : w1.cell? ⟨w.heap.size + 1, 0, none⟩ = some (.slice none 0 0) := by rw [hcc _ _ (by simp)]; go_simp
  have r1 : w1.cell? ⟨w.heap.size + 1, 1, none⟩ = some (.string (S [])) := by rw [hcc _ _ (by simp)]; go_simp
  have q0 : w1.cell? ⟨w.heap.size + 2, 0, none⟩ = some (.slice none 0 0) := by rw [hcc _ _ (by simp)]; go_simp
  have q1 : w1.cell? ⟨w.heap.size + 2, 1, none⟩ = some (.string (S [])) := by rw [hcc _ _ (by simp)]; go_simp
  have s0 : w1.frozen? ⟨w.heap.size + 1, 0, none⟩ = false := by rw [hff _ _ (by simp)]; go_simp
  have s1 : w1.frozen? ⟨w.heap.size + 1, 1, none⟩ = false := by rw [hff _ _ (by simp)]; go_simp
  have p0 : w1.frozen? ⟨w.heap.size + 2, 0, none⟩ = false := by rw [hff _ _ (by simp)]; go_simp
  have p1 : w1.frozen? ⟨w.heap.size + 2, 1, none⟩ = false := by rw [hff _ _ (by simp)]; go_simp
  have HI := Lib.hid hI
  have HB1 := Lib.hid (HB0.out.trans (hb.mono (by simp; omega)))
  obtain ⟨ad', cap', rfl, _, _⟩ := hI
  clear hb hcc hff HU HB0
  go_wp2
  refine bodyPost_ret (v := .agg #[.slice ad' l.length cap', .string (S t)]) (by simp [results, Tryz.results32, go_sem, r0, r1]) rfl ⟨_, rfl, ?_, ?_⟩
  · refine (HI.out.stand (X := fun b => b < w.heap.size + 3) intE_ok (((((Chg.refl _ w1).setCell ?_ _).setCell ?_ _).setCell ?_ _).setCell ?_ _) ?_).wide ?_ ?_
    · simp
    · simp
    · simp
    · simp
    · intro b hb; simp [Bet] at hb ⊢; omega
    · intro b hb; simp [Bet, World.setCell] at hb ⊢; omega
    · intro b hb; exact hb.2
  · exact (((HB1.out.setCell (by simp; omega) _).setCell (by simp; omega) _).setCell (by simp) _).setCell (by simp) _
end Go.Proofs.YtpkahblajgaemaaGreatDoor
