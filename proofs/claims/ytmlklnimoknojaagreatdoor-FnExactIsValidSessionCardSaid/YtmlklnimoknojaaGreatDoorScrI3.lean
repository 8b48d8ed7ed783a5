/- Walks: the screen of a list of strokes, least edits (program). -/
import Derived.BigQuiet
import Derived.Test.YtmlklnimoknojaaGreatDoorScrI
import Derived.Test.YtmlklnimoknojaaGreatDoorMemD
import Derived.Deep.DeepCutAuto
import Derived.Test.YtmlklnimoknojaaGreatDoorMemE
import Derived.Test.YtmlklnimoknojaaGreatDoorLawD
import Derived.Test.YtmlklnimoknojaaGreatDoorOutD
import Derived.Test.YtmlklnimoknojaaGreatDoorValD
namespace Go.Proofs.YtmlklnimoknojaaGreatDoor
open Go Go.RowKit
set_option maxRecDepth 100000
theorem impl_screenOf (dv sv : Value) (l : P.Dic) (st : List Int) (w : World) (hu : EntR w dv l) (hs : IntR w sv st) (hm : Small l) (hE : Env w) :
    Calls Tryz.prog 18 #[.agg #[dv], sv] w (RenPost (P.scr l st) w) := by
  have hb0 : Below w.heap.size w (w.alloc (.cells #[dv] 26)) := (Below.refl _ _).alloc (Nat.le_refl _) _
  have HU := Lib.hid (hu.below hb0); have HST := Lib.hid (hs.below hb0); have HB0 := Lib.hid hb0; have HE := Lib.hid (hE.below hb0 hE.size)
  have HX := Lib.hid (DBx.new dv 26 w)
  clear hb0
  obtain ⟨ad, cap, rfl, _, _⟩ := hu
  obtain ⟨sd, sc, rfl, _, _⟩ := hs
  go_enter Tryz.func18, Tryz.ntmps18
  go_wp2_with fail
  refine (isMatched _ _ l st _ HU.out HST.out hm HE.out).mono ?_
  rintro e w1 ⟨rfl, hb⟩
  have HB1 := Lib.hid (HB0.out.trans (hb.mono HB0.out.size)); have HST1 := Lib.hid (HST.out.below hb); have HU1 := Lib.hid (HU.out.below hb); have HX1 := Lib.hid (HX.out.below hb); have HE1 := Lib.hid (HE.out.below hb HE.out.size)
  clear hb
  obtain ⟨q, hq⟩ : ∃ q, (P.dic l && P.slist st) = q := ⟨_, rfl⟩
  have HQ := Lib.hid hq
  rw [hq]
  clear hq
  cases q
  · go_wp2
    go_ret2
    have h : P.scr l st = ([], false) := by unfold P.scr; rw [HQ.out]; rfl
    exact ⟨by rw [h]; rfl, HB1.out⟩
  · have HD := Lib.hid (show P.dic l = true ∧ P.slist st = true by have h := HQ.out; simpa only [Bool.and_eq_true] using h)
    have hl60 := P.slist_len HD.out.2
    obtain ⟨k0, _⟩ := HX1.out
    go_wp2_with fail
    refine (segment _ _ l st _ HU1.out HST1.out hl60).mono ?_
    rintro e w2 ⟨u, rfl, hp, hb⟩
    have HB2 := Lib.hid (HB1.out.trans (hb.mono HB1.out.size)); have HP := Lib.hid hp; have HST2 := Lib.hid (HST1.out.below hb); have HE2 := Lib.hid (HE1.out.below hb HE1.out.size)
    obtain ⟨ua, uc, rfl, _, _⟩ := hp
    clear hb
    go_wp2_with fail
    refine (screenOf _ _ st (P.segA l st) _ HST2.out HP.out HD.out.2 (Nat.le_trans (P.segA_len l st) hl60) (fun p hp => P.seg_piece HD.out.1 hp) HE2.out).mono ?_
    rintro e w3 ⟨rfl, hb3⟩
    have HB3 := Lib.hid (HB2.out.trans (hb3.mono HB2.out.size))
    clear hb3
    have HS := Lib.hid (show P.scr l st = P.render (P.atomsOf st (P.segA l st)) by unfold P.scr; rw [HQ.out]; rfl)
    go_wp2
    go_ret2
    exact ⟨by rw [HS.out]; rfl, HB3.out⟩
end Go.Proofs.YtmlklnimoknojaaGreatDoor

namespace Go.Proofs.YtmlklnimoknojaaGreatDoor
section
open Go Go.RowKit
set_option maxHeartbeats 2000000
set_option maxRecDepth 100000
abbrev transV (u : Value) (sc : Str) : Value := .agg #[u, .string (S sc)]
abbrev logV (d p : Str) (n : Int) : Value := .agg #[.string (S d), .string (S p), .int .i64 n]
abbrev sessV (u us : Value) (sc d p : Str) (n : Int) : Value := .agg #[u, us, .string (S sc), .string (S d), .string (S p), .int .i64 n]
theorem eqTranslator (u v : Value) (l : List Int) (t : Str) (w : World) (hu : IntR w u l) (hv : IntR w v l) :
    Calls Tryz.prog 108 #[transV u t, transV v t] w fun e w' => e = .returned (.bool true) ∧ Below w.heap.size w w' := by
  have hb0 : Below w.heap.size w ((w.alloc (.cells #[u, .string (S t)] 32)).alloc (.cells #[v, .string (S t)] 32)) :=
    ((Below.refl w.heap.size w).alloc (Nat.le_refl _) _).alloc (by simp) _
  have HU := Lib.hid (hu.below hb0); have HV := Lib.hid (hv.below hb0)
  have HB0 := Lib.hid hb0; clear hb0
  obtain ⟨ad, cap, rfl, hla, _⟩ := hu
  obtain ⟨bd, dap, rfl, _, _⟩ := hv
  go_enter Tryz.func108, Tryz.ntmps108
  go_wp2_with fail
  refine (eqIntS _ _ l _ HU.out HV.out).mono ?_
  rintro e w1 ⟨rfl, hb⟩
  have hz : w.heap.size + 1 < w1.heap.size := by have := hb.size; simp at this; omega
  obtain ⟨hcc, hff⟩ := bcell hb
  have r1 : w1.cell? ⟨w.heap.size, 1, none⟩ = some (.string (S t)) := by rw [hcc _ _ (by simp; omega)]; go_simp
  have q1 : w1.cell? ⟨w.heap.size + 1, 1, none⟩ = some (.string (S t)) := by rw [hcc _ _ (by simp)]; go_simp
  have HB1 := Lib.hid (HB0.out.trans (hb.mono (by simp; omega)))
  clear hb hcc hff HU HV HB0
  go_wp2
  first | go_quiet (fail) | skip
  go_wp2
  go_ret
  exact ⟨rfl, by first | exact HB1.out | exact below_drewN HB1.out _⟩
theorem eqLog (d p : Str) (n : Int) (w : World) :
    Calls Tryz.prog 109 #[logV d p n, logV d p n] w fun e w' => e = .returned (.bool true) ∧ Below w.heap.size w w' := by
  have HB0 := Lib.hid (show Below w.heap.size w ((w.alloc (.cells #[.string (S d), .string (S p), .int .i64 n] 81)).alloc (.cells #[.string (S d), .string (S p), .int .i64 n] 81)) from
    ((Below.refl w.heap.size w).alloc (Nat.le_refl _) _).alloc (by simp) _)
  go_enter Tryz.func109, Tryz.ntmps109
  go_wp2
  go_ret
  exact ⟨rfl, HB0.out⟩
/-- the cells of a session in its box -/
def SBox (b : Nat) (u us : Value) (sc d p : Str) (n : Int) (v : World) : Prop :=
  v.cell? ⟨b, 0, none⟩ = some u ∧ v.cell? ⟨b, 1, none⟩ = some us ∧ v.cell? ⟨b, 2, none⟩ = some (.string (S sc)) ∧ v.cell? ⟨b, 3, none⟩ = some (.string (S d)) ∧ v.cell? ⟨b, 4, none⟩ = some (.string (S p)) ∧ v.cell? ⟨b, 5, none⟩ = some (.int .i64 n) ∧ b < v.heap.size
theorem SBox.stand {b : Nat} {u us : Value} {sc d p : Str} {n : Int} {v v' : World} {X : Blk} (h : SBox b u us sc d p n v) (hc : Chg X v v') (hX : ¬ X b) : SBox b u us sc d p n v' := by
  obtain ⟨h0, h1, h2, h3, h4, h5, h6⟩ := h
  exact ⟨(hc.cell (p := ⟨b, 0, none⟩) h6 hX).trans h0, (hc.cell (p := ⟨b, 1, none⟩) h6 hX).trans h1, (hc.cell (p := ⟨b, 2, none⟩) h6 hX).trans h2, (hc.cell (p := ⟨b, 3, none⟩) h6 hX).trans h3, (hc.cell (p := ⟨b, 4, none⟩) h6 hX).trans h4, (hc.cell (p := ⟨b, 5, none⟩) h6 hX).trans h5, Nat.lt_of_lt_of_le h6 hc.size⟩
theorem SBox.below {b : Nat} {u us : Value} {sc d p : Str} {n : Int} {v v' : World} (h : SBox b u us sc d p n v) (hb : Below v.heap.size v v') : SBox b u us sc d p n v' :=
  h.stand (Below.chg hb fun _ => False) fun h => h
abbrev sessCells (u us : Value) (sc d p : Str) (n : Int) : Obj := .cells #[u, us, .string (S sc), .string (S d), .string (S p), .int .i64 n] 83
theorem SBox.new (u us : Value) (sc d p : Str) (n : Int) (v : World) : SBox v.heap.size u us sc d p n (v.alloc (sessCells u us sc d p n)) := by
  refine ⟨?_, ?_, ?_, ?_, ?_, ?_, by simp⟩ <;> go_simp
theorem eqSession (u v us vs : Value) (l : P.Dic) (ks : List Int) (sc d p : Str) (n : Int) (w : World) (hu : EntR w u l) (hv : EntR w v l) (hus : IntR w us ks) (hvs : IntR w vs ks) :
    Calls Tryz.prog 45 #[sessV u us sc d p n, sessV v vs sc d p n] w fun e w' => e = .returned (.bool true) ∧ Below w.heap.size w w' := by
  have hb1 : Below w.heap.size w (w.alloc (sessCells u us sc d p n)) := (Below.refl w.heap.size w).alloc (Nat.le_refl _) _
  have hb0 : Below w.heap.size w ((w.alloc (sessCells u us sc d p n)).alloc (sessCells v vs sc d p n)) := hb1.alloc (by simp) _
  have B1 := Lib.hid ((SBox.new u us sc d p n w).below ((Below.refl _ _).alloc (Nat.le_refl _) (sessCells v vs sc d p n)))
  have B2 := Lib.hid (show SBox (w.heap.size + 1) v vs sc d p n ((w.alloc (sessCells u us sc d p n)).alloc (sessCells v vs sc d p n)) by have := SBox.new v vs sc d p n (w.alloc (sessCells u us sc d p n)); simpa using this)
  have HU := Lib.hid (hu.below hb0); have HV := Lib.hid (hv.below hb0); have HUS := Lib.hid (hus.below hb0); have HVS := Lib.hid (hvs.below hb0)
  have HB0 := Lib.hid hb0; clear hb0 hb1
  obtain ⟨ad, cap, rfl, _, _⟩ := hu
  obtain ⟨bd, dap, rfl, _, _⟩ := hv
  obtain ⟨sd, sap, rfl, _, _⟩ := hus
  obtain ⟨td, tap, rfl, _, _⟩ := hvs
  go_enter Tryz.func45, Tryz.ntmps45
  go_wp2_with fail
  refine (eqDictionary _ _ l _ HU.out HV.out).mono ?_
  rintro e w1 ⟨rfl, hb⟩
  have B11 := Lib.hid (B1.out.below hb); have B21 := Lib.hid (B2.out.below hb)
  have HUS1 := Lib.hid (HUS.out.below hb); have HVS1 := Lib.hid (HVS.out.below hb)
  have HB1 := Lib.hid (HB0.out.trans (hb.mono (by simp; omega)))
  clear hb HU HV HB0 B1 B2 HUS HVS
  obtain ⟨_, a1, a2, a3, a4, a5, a6⟩ := B11.out
  obtain ⟨_, b1, b2, b3, b4, b5, b6⟩ := B21.out
  go_wp2_with fail
  refine (eqTranslator _ _ ks sc _ HUS1.out HVS1.out).mono ?_
  rintro e w2 ⟨rfl, hb⟩
  have B12 := Lib.hid (B11.out.below hb); have B22 := Lib.hid (B21.out.below hb)
  have HB2 := Lib.hid (HB1.out.trans (hb.mono HB1.out.size))
  clear hb HB1 B11 B21 HUS1 HVS1 a1 a2 a3 a4 a5 b1 b2 b3 b4 b5
  obtain ⟨_, _, _, a3, a4, a5, _⟩ := B12.out
  obtain ⟨_, _, _, b3, b4, b5, _⟩ := B22.out
  go_wp2_with fail
  refine (eqLog d p n _).mono ?_
  rintro e w3 ⟨rfl, hb⟩
  have HB3 := Lib.hid (HB2.out.trans (hb.mono HB2.out.size))
  clear hb HB2
  go_wp2
  go_ret
  exact ⟨rfl, HB3.out⟩
end
section
open Go Go.RowKit
set_option maxHeartbeats 2000000
set_option maxRecDepth 100000
end
end Go.Proofs.YtmlklnimoknojaaGreatDoor

namespace Go.Proofs.YtmlklnimoknojaaGreatDoor
open Go Go.RowKit
set_option maxRecDepth 100000
theorem has (u : Value) (l : List Int) (x : Int) (w : World) (hu : IntR w u l) :
    Calls Tryz.prog 75 #[u, .int .i64 x] w fun e w' => e = .returned (.bool (l.contains x)) ∧ w' = w := by
  obtain ⟨ad, cap, rfl, ⟨hl, hc⟩, hn, h3⟩ := hu
  have HC := Lib.hid (show Calls Tryz.prog 139 #[.slice ad l.length cap, .int .i64 x] w fun e w' => e = .returned (.bool (l.contains x)) ∧ w' = w by
    rcases h3 with rfl | ⟨g, o, rfl, hg, hcell⟩
    · exact Tryz.slices_Contains_int_empty ad cap x w
    · have h := Tryz.slices_Contains_int g o l.length cap l x w (Nat.le_refl _) (by omega) (fun j hj => by rw [hcell j hj]; simp [hj])
      rw [List.take_length] at h
      exact h)
  clear h3 hn
  obtain ⟨q, hq⟩ : ∃ q, l.contains x = q := ⟨_, rfl⟩
  rw [hq] at HC ⊢
  clear hq
  go_enter Tryz.func75, Tryz.ntmps75
  go_wp2_with fail
  refine HC.out.mono ?_
  rintro e w' ⟨rfl, rfl⟩
  go_wp2
  go_ret
  exact ⟨rfl, rfl⟩
/-- a translator of the caller's, boxed -/
def TBx (b : Nat) (u : Value) (t : Str) (v : World) : Prop := b < v.heap.size ∧ v.cell? ⟨b, 0, none⟩ = some u ∧ v.cell? ⟨b, 1, none⟩ = some (.string (S t)) ∧ v.frozen? ⟨b, 0, none⟩ = false ∧ v.frozen? ⟨b, 1, none⟩ = false
theorem TBx.below {b : Nat} {u : Value} {t : Str} {v v' : World} (h : TBx b u t v) (hb : Below v.heap.size v v') : TBx b u t v' := by
  obtain ⟨h1, h2, h3, h4, h5⟩ := h
  exact ⟨Nat.lt_of_lt_of_le h1 hb.size, (hb.cell (p := ⟨b, 0, none⟩) h1).trans h2, (hb.cell (p := ⟨b, 1, none⟩) h1).trans h3, (hb.frozen (p := ⟨b, 0, none⟩) h1).trans h4, (hb.frozen (p := ⟨b, 1, none⟩) h1).trans h5⟩
theorem TBx.new (u : Value) (t : Str) (v : World) : TBx v.heap.size u t (v.alloc (.cells #[u, .string (S t)] 32)) := ⟨by simp, by go_simp, by go_simp, by go_simp, by go_simp⟩
theorem impl_isValidTranslator (dv sv : Value) (l : P.Dic) (st : List Int) (t : Str) (w : World) (hu : EntR w dv l) (hs : IntR w sv st) (hm : Small l) (hE : Env w) :
    Calls Tryz.prog 25 #[.agg #[dv], transV sv t] w fun e w' => e = .returned (.bool (P.trans l (st, t))) ∧ Below w.heap.size w w' := by
  have hb0 : Below w.heap.size w ((w.alloc (.cells #[dv] 26)).alloc (.cells #[sv, .string (S t)] 32)) := ((Below.refl w.heap.size w).alloc (Nat.le_refl _) _).alloc (by simp) _
  have HU := Lib.hid (hu.below hb0); have HST := Lib.hid (hs.below hb0); have HB0 := Lib.hid hb0; have HE := Lib.hid (hE.below hb0 hE.size)
  have HX := Lib.hid (show TBx (w.heap.size + 1) sv t ((w.alloc (.cells #[dv] 26)).alloc (.cells #[sv, .string (S t)] 32)) by simpa using TBx.new sv t (w.alloc (.cells #[dv] 26)))
  clear hb0
  obtain ⟨ad, cap, rfl, _, _⟩ := hu
  obtain ⟨sd, sc, rfl, _, _⟩ := hs
  unfold transV
  go_enter Tryz.func25, Tryz.ntmps25
  go_wp2_with fail
  refine (impl_screenOf _ _ l st _ HU.out HST.out hm HE.out).mono ?_
  rintro e w1 ⟨rfl, hb⟩
  have HB1 := Lib.hid (HB0.out.trans (hb.mono HB0.out.size)); have HST1 := Lib.hid (HST.out.below hb); have HX1 := Lib.hid (HX.out.below hb)
  have HP := Lib.hid (show P.trans l (st, t) = ((P.scr l st).2 && ((P.scr l st).1 == t && !st.contains 1024)) from rfl)
  clear hb
  generalize P.scr l st = r at *
  obtain ⟨r1, r2⟩ := r
  obtain ⟨k0, k1, k2, _⟩ := HX1.out
  cases r2
  · go_wp2
    go_ret
    exact ⟨by rw [HP.out]; rfl, HB1.out⟩
  · by_cases h : r1 = t
    · subst h
      go_wp2_with fail
      refine (has _ st 1024 _ HST1.out).mono ?_
      rintro e w2 ⟨rfl, rfl⟩
      obtain ⟨q, hq⟩ : ∃ q, st.contains 1024 = q := ⟨_, rfl⟩
      rw [hq] at HP ⊢
      clear hq
      go_wp2
      go_ret
      exact ⟨by rw [HP.out]; simp, HB1.out⟩
    · have f1 : ¬ S r1 = S t := fun hx => h (S_inj hx)
      have f2 : decide (S r1 = S t) = false := decide_eq_false f1
      go_wp2
      go_ret
      exact ⟨by rw [HP.out]; simp [h], HB1.out⟩
end Go.Proofs.YtmlklnimoknojaaGreatDoor
