/- Walks: the law's own functions on sessions. Walks: a new session (reference, program). -/
import Derived.Test.YtpkahblajgaemaaGreatDoorMemD
import Derived.Deep.DeepCutAuto
import Derived.Test.YtpkahblajgaemaaGreatDoorMemE
import Derived.Test.YtpkahblajgaemaaGreatDoorLawD
import Derived.Test.YtpkahblajgaemaaGreatDoorOutD
import Derived.Test.YtpkahblajgaemaaGreatDoorValD
import Derived.Test.YtpkahblajgaemaaGreatDoorScrI2
namespace Go.Proofs.YtpkahblajgaemaaGreatDoor
section
open Go Go.RowKit
set_option maxHeartbeats 2000000
set_option maxRecDepth 100000
abbrev transV (u : Value) (sc : Str) : Value := .agg #[u, .string (S sc)]
theorem eqTranslator (u v : Value) (l : List Int) (t : Str) (w : World) (hu : IntR w u l) (hv : IntR w v l) :
    Calls Tryz.prog 34 #[transV u t, transV v t] w fun e w' => e = .returned (.bool true) ∧ Below w.heap.size w w' := by
  have hb0 : Below w.heap.size w ((w.alloc (.cells #[u, .string (S t)] 32)).alloc (.cells #[v, .string (S t)] 32)) :=
    ((Below.refl w.heap.size w).alloc (Nat.le_refl _) _).alloc (by simp) _
  have HU := Lib.hid (hu.below hb0); have HV := Lib.hid (hv.below hb0)
  have HB0 := Lib.hid hb0; clear hb0
  obtain ⟨ad, cap, rfl, hla, _⟩ := hu
  obtain ⟨bd, dap, rfl, _, _⟩ := hv
  go_enter Tryz.func34, Tryz.ntmps34
  go_wp2_with fail
  refine (eqIntS _ _ l _ HU.out HV.out).mono ?_
  rintro e w1 ⟨rfl, hb⟩
  have hz : w.heap.size + 1 < w1.heap.size := by have := hb.size; simp at this; omega
  obtain ⟨hcc, hff⟩ := bcell hb
  have r1 : w1.cell? ⟨w.heap.size, 1, none⟩ = some (.string (S t)) := by rw [hcc _ _ (by simp; omega)]; go_simp
  have q1 : w1.cell? ⟨w.heap.size + 1, 1, none⟩ = some (.string (S t)) := by rw [hcc _ _ (by simp)]; go_simp
  have HB1 := Lib.hid (HB0.out.trans (hb.mono (by simp; omega)))
  clear hb hcc hff HU HV HB0
  go_wp2
  first | go_quiet (fail) | skip
  go_wp2
  go_ret
  exact ⟨rfl, by first | exact HB1.out | exact below_drewN HB1.out _⟩
theorem markTranslator (u : Value) (l : List Int) (t : Str) (k : Int) (F : Blk) (w : World) (hu : Ints w F u l) (hk0 : 0 ≤ k) (hk : k ≤ 2 ^ 40) :
    Calls Tryz.prog 38 #[transV u t, .int .i64 k] w fun e w' => e = .returned (.int .i64 (k + l.length)) ∧ Ints w' F u (P.marks k l.length) ∧ Chg F w w' := by
  have HU := Lib.hid (hu.below intE_ok ((Below.refl w.heap.size w).alloc (Nat.le_refl _) (.cells #[u, .string (S t)] 32)))
  have HC := Lib.hid ((Chg.refl F w).alloc (.cells #[u, .string (S t)] 32))
  obtain ⟨ad, cap, rfl, _, _⟩ := hu
  go_enter Tryz.func38, Tryz.ntmps38
  go_wp2_with fail
  refine (markIntS _ l k F _ HU.out hk0 hk).mono ?_
  rintro e w1 ⟨rfl, hI, hc, _⟩
  have HI := Lib.hid hI; have HC1 := Lib.hid (HC.out.trans hc)
  clear hI hc
  go_wp2
  go_ret
  exact ⟨rfl, HI.out, HC1.out⟩
theorem heldTranslator (u : Value) (n : Nat) (t : Str) (k : Int) (w : World) (hu : IntR w u (P.marks k n)) (hk0 : 0 ≤ k) (hk : k ≤ 2 ^ 40) (hn : n ≤ 2 ^ 40) :
    Calls Tryz.prog 39 #[transV u t, .int .i64 k] w fun e w' => e = .returned (.int .i64 (k + n)) ∧ Below w.heap.size w w' := by
  have hb0 := (Below.refl w.heap.size w).alloc (Nat.le_refl _) (.cells #[u, .string (S t)] 32)
  have HU := Lib.hid (hu.below hb0); have HB0 := Lib.hid hb0; clear hb0
  obtain ⟨ad, cap, rfl, _, _⟩ := hu
  go_enter Tryz.func39, Tryz.ntmps39
  go_wp2_with fail
  refine (heldIntS _ n k _ HU.out hk0 hk hn).mono ?_
  rintro e w1 ⟨rfl, rfl⟩
  have hn1 : ¬ k + (n : Int) < 0 := by omega
  go_wp2
  go_ret
  exact ⟨rfl, HB0.out⟩
end
section
open Go Go.RowKit
set_option maxHeartbeats 2000000
set_option maxRecDepth 100000
end
end Go.Proofs.YtpkahblajgaemaaGreatDoor

namespace Go.Proofs.YtpkahblajgaemaaGreatDoor
open Go Go.RowKit
set_option maxRecDepth 100000
theorem has (u : Value) (l : List Int) (x : Int) (w : World) (hu : IntR w u l) :
    Calls Tryz.prog 82 #[u, .int .i64 x] w fun e w' => e = .returned (.bool (l.contains x)) ∧ w' = w := by
  obtain ⟨ad, cap, rfl, ⟨hl, hc⟩, hn, h3⟩ := hu
  have HC := Lib.hid (show Calls Tryz.prog 126 #[.slice ad l.length cap, .int .i64 x] w fun e w' => e = .returned (.bool (l.contains x)) ∧ w' = w by
    rcases h3 with rfl | ⟨g, o, rfl, hg, hcell⟩
    · exact Tryz.slices_Contains_int_empty ad cap x w
    · have h := Tryz.slices_Contains_int g o l.length cap l x w (Nat.le_refl _) (by omega) (fun j hj => by rw [hcell j hj]; simp [hj])
      rw [List.take_length] at h
      exact h)
  clear h3 hn
  obtain ⟨q, hq⟩ : ∃ q, l.contains x = q := ⟨_, rfl⟩
  rw [hq] at HC ⊢
  clear hq
  go_enter Tryz.func82, Tryz.ntmps82
  go_wp2_with fail
  refine HC.out.mono ?_
  rintro e w' ⟨rfl, rfl⟩
  go_wp2
  go_ret
  exact ⟨rfl, rfl⟩
/-- a translator of the caller's, boxed -/
def TBx (b : Nat) (u : Value) (t : Str) (v : World) : Prop := b < v.heap.size ∧ v.cell? ⟨b, 0, none⟩ = some u ∧ v.cell? ⟨b, 1, none⟩ = some (.string (S t)) ∧ v.frozen? ⟨b, 0, none⟩ = false ∧ v.frozen? ⟨b, 1, none⟩ = false
theorem TBx.below {b : Nat} {u : Value} {t : Str} {v v' : World} (h : TBx b u t v) (hb : Below v.heap.size v v') : TBx b u t v' := by
  obtain ⟨h1, h2, h3, h4, h5⟩ := h
  exact ⟨Nat.lt_of_lt_of_le h1 hb.size, (hb.cell (p := ⟨b, 0, none⟩) h1).trans h2, (hb.cell (p := ⟨b, 1, none⟩) h1).trans h3, (hb.frozen (p := ⟨b, 0, none⟩) h1).trans h4, (hb.frozen (p := ⟨b, 1, none⟩) h1).trans h5⟩
theorem TBx.new (u : Value) (t : Str) (v : World) : TBx v.heap.size u t (v.alloc (.cells #[u, .string (S t)] 32)) := ⟨by simp, by go_simp, by go_simp, by go_simp, by go_simp⟩
theorem impl_isValidTranslator (dv sv : Value) (l : P.Dic) (st : List Int) (t : Str) (w : World) (hu : EntR w dv l) (hs : IntR w sv st) (hm : Small l) (hE : Env w) :
    Calls Tryz.prog 27 #[.agg #[dv], transV sv t] w fun e w' => e = .returned (.bool (P.trans l (st, t))) ∧ Below w.heap.size w w' := by
  have hb0 : Below w.heap.size w ((w.alloc (.cells #[dv] 26)).alloc (.cells #[sv, .string (S t)] 32)) := ((Below.refl w.heap.size w).alloc (Nat.le_refl _) _).alloc (by simp) _
  have HU := Lib.hid (hu.below hb0); have HST := Lib.hid (hs.below hb0); have HB0 := Lib.hid hb0; have HE := Lib.hid (hE.below hb0 hE.size)
  have HX := Lib.hid (show TBx (w.heap.size + 1) sv t ((w.alloc (.cells #[dv] 26)).alloc (.cells #[sv, .string (S t)] 32)) by simpa using TBx.new sv t (w.alloc (.cells #[dv] 26)))
  clear hb0
  obtain ⟨ad, cap, rfl, _, _⟩ := hu
  obtain ⟨sd, sc, rfl, _, _⟩ := hs
  unfold transV
  go_enter Tryz.func27, Tryz.ntmps27
  go_wp2_with fail
  refine (impl_screenOf _ _ l st _ HU.out HST.out hm HE.out).mono ?_
  rintro e w1 ⟨rfl, hb⟩
  have HB1 := Lib.hid (HB0.out.trans (hb.mono HB0.out.size)); have HST1 := Lib.hid (HST.out.below hb); have HX1 := Lib.hid (HX.out.below hb)
  have HP := Lib.hid (show P.trans l (st, t) = ((P.scr l st).2 && ((P.scr l st).1 == t && !st.contains 1024)) from rfl)
  clear hb
  generalize P.scr l st = r at *
  obtain ⟨r1, r2⟩ := r
  obtain ⟨k0, k1, k2, _⟩ := HX1.out
  cases r2
  · go_wp2
    go_ret
    exact ⟨by rw [HP.out]; rfl, HB1.out⟩
  · by_cases h : r1 = t
    · subst h
      go_wp2_with fail
      refine (has _ st 1024 _ HST1.out).mono ?_
      rintro e w2 ⟨rfl, rfl⟩
      obtain ⟨q, hq⟩ : ∃ q, st.contains 1024 = q := ⟨_, rfl⟩
      rw [hq] at HP ⊢
      clear hq
      go_wp2
      go_ret
      exact ⟨by rw [HP.out]; simp, HB1.out⟩
    · have f1 : ¬ S r1 = S t := fun hx => h (S_inj hx)
      have f2 : decide (S r1 = S t) = false := decide_eq_false f1
      go_wp2
      go_ret
      exact ⟨by rw [HP.out]; simp [h], HB1.out⟩
end Go.Proofs.YtpkahblajgaemaaGreatDoor
