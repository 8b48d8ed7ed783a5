/- Walks: the law's own functions on sessions. Walks: a new session (reference, program). -/
import Derived.Test.YtpkahblajgaemaaGreatDoorMemD
import Derived.Deep.DeepCutAuto
import Derived.Test.YtpkahblajgaemaaGreatDoorMemE
import Derived.Test.YtpkahblajgaemaaGreatDoorLawD
import Derived.Test.YtpkahblajgaemaaGreatDoorOutD
import Derived.Test.YtpkahblajgaemaaGreatDoorValD
import Derived.Test.YtpkahblajgaemaaGreatDoorScrS0
import Derived.Test.YtpkahblajgaemaaGreatDoorScrS4
namespace Go.Proofs.YtpkahblajgaemaaGreatDoor
section
open Go Go.RowKit
set_option maxHeartbeats 2000000
set_option maxRecDepth 100000
abbrev transV (u : Value) (sc : Str) : Value := .agg #[u, .string (S sc)]
end
section
open Go Go.RowKit
set_option maxHeartbeats 2000000
set_option maxRecDepth 100000
end
end Go.Proofs.YtpkahblajgaemaaGreatDoor

namespace Go.Proofs.YtpkahblajgaemaaGreatDoor
open Go Go.RowKit
set_option maxRecDepth 100000
theorem has (u : Value) (l : List Int) (x : Int) (w : World) (hu : IntR w u l) :
    Calls Tryz.prog 82 #[u, .int .i64 x] w fun e w' => e = .returned (.bool (l.contains x)) ∧ w' = w := by
  obtain ⟨ad, cap, rfl, ⟨hl, hc⟩, hn, h3⟩ := hu
  have HC := Lib.hid (show Calls Tryz.prog 126 #[.slice ad l.length cap, .int .i64 x] w fun e w' => e = .returned (.bool (l.contains x)) ∧ w' = w by
    rcases h3 with rfl | ⟨g, o, rfl, hg, hcell⟩
    · exact Tryz.slices_Contains_int_empty ad cap x w
    · have h := Tryz.slices_Contains_int g o l.length cap l x w (Nat.le_refl _) (by omega) (fun j hj => by rw [hcell j hj]; simp [hj])
      rw [List.take_length] at h
      exact h)
  clear h3 hn
  obtain ⟨q, hq⟩ : ∃ q, l.contains x = q := ⟨_, rfl⟩
  rw [hq] at HC ⊢
  clear hq
  go_enter Tryz.func82, Tryz.ntmps82
  go_wp2_with fail
  refine HC.out.mono ?_
  rintro e w' ⟨rfl, rfl⟩
  go_wp2
  go_ret
  exact ⟨rfl, rfl⟩
/-- a translator of the caller's, boxed -/
def TBx (b : Nat) (u : Value) (t : Str) (v : World) : Prop := b < v.heap.size ∧ v.cell? ⟨b, 0, none⟩ = some u ∧ v.cell? ⟨b, 1, none⟩ = some (.string (S t)) ∧ v.frozen? ⟨b, 0, none⟩ = false ∧ v.frozen? ⟨b, 1, none⟩ = false
theorem TBx.below {b : Nat} {u : Value} {t : Str} {v v' : World} (h : TBx b u t v) (hb : Below v.heap.size v v') : TBx b u t v' := by
  obtain ⟨h1, h2, h3, h4, h5⟩ := h
  exact ⟨Nat.lt_of_lt_of_le h1 hb.size, (hb.cell (p := ⟨b, 0, none⟩) h1).trans h2, (hb.cell (p := ⟨b, 1, none⟩) h1).trans h3, (hb.frozen (p := ⟨b, 0, none⟩) h1).trans h4, (hb.frozen (p := ⟨b, 1, none⟩) h1).trans h5⟩
theorem TBx.new (u : Value) (t : Str) (v : World) : TBx v.heap.size u t (v.alloc (.cells #[u, .string (S t)] 32)) := ⟨by simp, by go_simp, by go_simp, by go_simp, by go_simp⟩
theorem impl_isValidTranslator (dv sv : Value) (l : P.Dic) (st : List Int) (t : Str) (w : World) (hu : EntR w dv l) (hs : IntR w sv st) (hm : Small l) (hE : Env w) :
    Calls Tryz.prog 27 #[.agg #[dv], transV sv t] w fun e w' => e = .returned (.bool (P.trans l (st, t))) ∧ Below w.heap.size w w' := by
  have hb0 : Below w.heap.size w ((w.alloc (.cells #[dv] 26)).alloc (.cells #[sv, .string (S t)] 32)) := ((Below.refl w.heap.size w).alloc (Nat.le_refl _) _).alloc (by simp) _
  have HU := Lib.hid (hu.below hb0); have HST := Lib.hid (hs.below hb0); have HB0 := Lib.hid hb0; have HE := Lib.hid (hE.below hb0 hE.size)
  have HX := Lib.hid (show TBx (w.heap.size + 1) sv t ((w.alloc (.cells #[dv] 26)).alloc (.cells #[sv, .string (S t)] 32)) by simpa using TBx.new sv t (w.alloc (.cells #[dv] 26)))
  clear hb0
  obtain ⟨ad, cap, rfl, _, _⟩ := hu
  obtain ⟨sd, sc, rfl, _, _⟩ := hs
  unfold transV
  go_enter Tryz.func27, Tryz.ntmps27
  go_wp2_with fail
  refine (impl_screenOf _ _ l st _ HU.out HST.out hm HE.out).mono ?_
  rintro e w1 ⟨rfl, hb⟩
  have HB1 := Lib.hid (HB0.out.trans (hb.mono HB0.out.size)); have HST1 := Lib.hid (HST.out.below hb); have HX1 := Lib.hid (HX.out.below hb)
  have HP := Lib.hid (show P.trans l (st, t) = ((P.scr l st).2 && ((P.scr l st).1 == t && !st.contains 1024)) from rfl)
  clear hb
  generalize P.scr l st = r at *
  obtain ⟨r1, r2⟩ := r
  obtain ⟨k0, k1, k2, _⟩ := HX1.out
  cases r2
  · go_wp2
    go_ret
    exact ⟨by rw [HP.out]; rfl, HB1.out⟩
  · by_cases h : r1 = t
    · subst h
      go_wp2_with fail
      refine (has _ st 1024 _ HST1.out).mono ?_
      rintro e w2 ⟨rfl, rfl⟩
      obtain ⟨q, hq⟩ : ∃ q, st.contains 1024 = q := ⟨_, rfl⟩
      rw [hq] at HP ⊢
      clear hq
      go_wp2
      go_ret
      exact ⟨by rw [HP.out]; simp, HB1.out⟩
    · have f1 : ¬ S r1 = S t := fun hx => h (S_inj hx)
      have f2 : decide (S r1 = S t) = false := decide_eq_false f1
      go_wp2
      go_ret
      exact ⟨by rw [HP.out]; simp [h], HB1.out⟩
end Go.Proofs.YtpkahblajgaemaaGreatDoor

namespace Go.Proofs.YtpkahblajgaemaaGreatDoor
open Go Go.RowKit
set_option maxHeartbeats 2000000
set_option maxRecDepth 100000
/-- the screen of a translator's strokes, when the dictionary and the strokes are right -/
theorem P.scr_renderS {l : P.Dic} {st : List Int} (h1 : P.dic l = true) (h2 : P.slist st = true) : (P.renderS (P.atomsOf st (P.segA l st))).2 = (P.scr l st).2 ∧ ((P.scr l st).2 = true → (P.renderS (P.atomsOf st (P.segA l st))).1 = (P.scr l st).1) := by
  have h := P.render_eq (P.atomsOf st (P.segA l st))
  have e : P.scr l st = P.render (P.atomsOf st (P.segA l st)) := by unfold P.scr; rw [h1, h2]; rfl
  rw [e]
  exact ⟨h.1, h.2.1⟩
theorem spec_screenOf (dv sv : Value) (l : P.Dic) (st : List Int) (w : World) (hu : EntR w dv l) (hs : IntR w sv st) (hm : Small l) :
    Calls Tryz.prog 79 #[.agg #[dv], sv] w (RenPost (P.scr l st) w) := by
  have hb0 : Below w.heap.size w (w.alloc (.cells #[dv] 26)) := (Below.refl _ _).alloc (Nat.le_refl _) _
  have HU := Lib.hid (hu.below hb0); have HST := Lib.hid (hs.below hb0); have HB0 := Lib.hid hb0
  have HX := Lib.hid (DBx.new dv 26 w)
  clear hb0
  obtain ⟨ad, cap, rfl, _, _⟩ := hu
  obtain ⟨sd, sc, rfl, _, _⟩ := hs
  go_enter Tryz.func79, Tryz.ntmps79
  obtain ⟨k0, _⟩ := HX.out
  go_wp2_with fail
  refine (l6Good _ l _ HU.out hm.texts).mono ?_
  rintro e w1 ⟨rfl, hb⟩
  have HB1 := Lib.hid (HB0.out.trans (hb.mono HB0.out.size)); have HST1 := Lib.hid (HST.out.below hb); have HU1 := Lib.hid (HU.out.below hb); have HX1 := Lib.hid (HX.out.below hb)
  clear hb k0
  obtain ⟨q, hq⟩ : ∃ q, P.dic l = q := ⟨_, rfl⟩
  have HQ := Lib.hid hq
  rw [hq]
  clear hq
  cases q
  · have HN := Lib.hid (show P.scr l st = ([], false) by unfold P.scr; rw [HQ.out]; rfl)
    go_wp2
    go_ret2
    exact ⟨by rw [HN.out]; rfl, HB1.out⟩
  · go_wp2_with fail
    refine (l11Strokes _ st _ HST1.out).mono ?_
    rintro e w2 ⟨rfl, rfl⟩
    obtain ⟨q, hq⟩ : ∃ q, P.slist st = q := ⟨_, rfl⟩
    have HQ2 := Lib.hid hq
    rw [hq]
    clear hq
    cases q
    · have HN := Lib.hid (show P.scr l st = ([], false) by unfold P.scr; rw [HQ.out, HQ2.out]; rfl)
      go_wp2
      go_ret2
      exact ⟨by rw [HN.out]; rfl, HB1.out⟩
    · obtain ⟨k0, _⟩ := HX1.out
      go_wp2_with fail
      refine (l14Screen _ _ l st _ HU1.out HST1.out HQ.out HQ2.out).mono ?_
      rintro e w3 ⟨rfl, hb⟩
      have HB3 := Lib.hid (HB1.out.trans (hb.mono HB1.out.size))
      have HE := Lib.hid (P.scr_renderS HQ.out HQ2.out)
      have HNO := Lib.hid (P.scr_no (d := l) (st := st))
      clear hb k0
      generalize P.renderS (P.atomsOf st (P.segA l st)) = r at *
      obtain ⟨r1, r2⟩ := r
      cases r2
      · have HN := Lib.hid (show P.scr l st = ([], false) from Prod.ext (HNO.out HE.out.1.symm) HE.out.1.symm)
        go_wp2
        go_ret2
        exact ⟨by rw [HN.out]; rfl, HB3.out⟩
      · have HN := Lib.hid (show P.scr l st = (r1, true) from Prod.ext (HE.out.2 HE.out.1.symm).symm HE.out.1.symm)
        go_wp2
        go_ret2
        exact ⟨by rw [HN.out]; rfl, HB3.out⟩
theorem l14Good (dv sv : Value) (l : P.Dic) (st : List Int) (t : Str) (w : World) (hu : EntR w dv l) (hs : IntR w sv st) (hm : Small l) :
    Calls Tryz.prog 77 #[.agg #[dv], transV sv t] w fun e w' => e = .returned (.bool (P.trans l (st, t))) ∧ Below w.heap.size w w' := by
  have hb0 : Below w.heap.size w ((w.alloc (.cells #[dv] 26)).alloc (.cells #[sv, .string (S t)] 32)) := ((Below.refl w.heap.size w).alloc (Nat.le_refl _) _).alloc (by simp) _
  have HU := Lib.hid (hu.below hb0); have HST := Lib.hid (hs.below hb0); have HB0 := Lib.hid hb0
  have HX := Lib.hid (show TBx (w.heap.size + 1) sv t ((w.alloc (.cells #[dv] 26)).alloc (.cells #[sv, .string (S t)] 32)) by simpa using TBx.new sv t (w.alloc (.cells #[dv] 26)))
  clear hb0
  obtain ⟨ad, cap, rfl, _, _⟩ := hu
  obtain ⟨sd, sc, rfl, _, _⟩ := hs
  unfold transV
  go_enter Tryz.func77, Tryz.ntmps77
  go_wp2_with fail
  refine (spec_screenOf _ _ l st _ HU.out HST.out hm).mono ?_
  rintro e w1 ⟨rfl, hb⟩
  have HB1 := Lib.hid (HB0.out.trans (hb.mono HB0.out.size)); have HST1 := Lib.hid (HST.out.below hb); have HX1 := Lib.hid (HX.out.below hb)
  have HP := Lib.hid (show P.trans l (st, t) = ((P.scr l st).2 && ((P.scr l st).1 == t && !st.contains 1024)) from rfl)
  clear hb
  generalize P.scr l st = r at *
  obtain ⟨r1, r2⟩ := r
  obtain ⟨k0, k1, k2, _⟩ := HX1.out
  cases r2
  · go_wp2
    go_ret
    exact ⟨by rw [HP.out]; rfl, HB1.out⟩
  · go_wp2_with fail
    refine (l1Has _ st 1024 _ HST1.out).mono ?_
    rintro e w2 ⟨rfl, rfl⟩
    obtain ⟨q, hq⟩ : ∃ q, st.contains 1024 = q := ⟨_, rfl⟩
    rw [hq] at HP ⊢
    clear hq
    cases q
    · by_cases h : r1 = t
      · subst h
        go_wp2
        go_ret
        exact ⟨by rw [HP.out]; simp, HB1.out⟩
      · have f1 : ¬ S r1 = S t := fun hx => h (S_inj hx)
        have f2 : decide (S r1 = S t) = false := decide_eq_false f1
        go_wp2
        go_ret
        exact ⟨by rw [HP.out]; simp [], HB1.out⟩
    · go_wp2
      go_ret
      exact ⟨by rw [HP.out]; simp, HB1.out⟩
end Go.Proofs.YtpkahblajgaemaaGreatDoor
