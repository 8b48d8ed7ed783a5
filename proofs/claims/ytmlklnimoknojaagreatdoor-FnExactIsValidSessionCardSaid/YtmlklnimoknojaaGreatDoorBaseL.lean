/- Walks: least edits, lists searched (reference). -/
import Derived.Test.YtmlklnimoknojaaGreatDoorScrI3
import Derived.Test.YtmlklnimoknojaaGreatDoorScrS4
import Derived.Test.YtmlklnimoknojaaGreatDoorOutD
import Derived.Test.YtmlklnimoknojaaGreatDoorLawD
import Derived.Lib.ItoaLen
import Derived.Test.YtmlklnimoknojaaGreatDoorD0
namespace Go.Proofs.YtmlklnimoknojaaGreatDoor
open Go Go.RowKit
set_option maxRecDepth 100000
theorem l1Has (u : Value) (l : List Int) (x : Int) (w : World) (hu : IntR w u l) :
    Calls Tryz.prog 137 #[u, .int .i64 x] w fun e w' => e = .returned (.bool (l.contains x)) ∧ w = w' := by
  have HU := Lib.hid hu
  obtain ⟨ad, cap, rfl, hl, _⟩ := hu
  go_enter Tryz.func137, Tryz.ntmps137
  go_wp2
  go_loop [5] (fun i => ∃ j : Nat, j ≤ l.length ∧ i = .int .i64 j ∧ (l.take j).contains x = false) (fun i => l.length - (intOf i).toNat)
  case atStart => exact ⟨0, Nat.zero_le _, rfl, by simp⟩
  case round =>
    obtain ⟨j, hj, rfl, ha⟩ := hrel
    have HA := Lib.hid ha; clear ha
    by_cases hlt : j < l.length
    · obtain ⟨g, o, hga, _, hc⟩ := HU.out.at j hlt
      subst hga
      have HSN := Lib.hid (take_snoc l j hlt)
      have HMEM := Lib.hid (List.getElem_mem hlt)
      generalize l[j] = y at *
      have i1 : (j : Int) < (l.length : Int) := by omega
      by_cases h : y = x
      · subst h
        have HYES := Lib.hid (show decide (y ∈ l) = true from decide_eq_true HMEM.out)
        go_wp2
        go_ret
        exact ⟨by rw [HYES.out]; rfl, rfl⟩
      · have i2 : (y == x) = false := by simpa using h
        have HNX := Lib.hid (show (l.take (j + 1)).contains x = false by
          rw [HSN.out]
          have h2 := HA.out
          simp only [List.contains_eq_mem, decide_eq_false_iff_not, List.mem_append, List.mem_singleton, not_or] at h2 ⊢
          exact ⟨h2, fun h3 => h h3.symm⟩)
        go_wp2
        go_round
        case rel => exact ⟨j + 1, by omega, by go_num, HNX.out⟩
        case measure => simp [intOf]; omega
    · have i1 : ¬ (j : Int) < (l.length : Int) := by omega
      have HNO := Lib.hid (show decide (x ∈ l) = false by
        have h := HA.out
        rw [List.take_of_length_le (by omega)] at h
        simpa using h)
      go_wp2
      go_ret
      exact ⟨by rw [HNO.out]; rfl, rfl⟩
end Go.Proofs.YtmlklnimoknojaaGreatDoor

namespace Go.Proofs.YtmlklnimoknojaaGreatDoor
open Go Go.RowKit
set_option maxHeartbeats 2000000
set_option maxRecDepth 100000
/-- the screen of a translator's strokes, when the dictionary and the strokes are right -/
theorem P.scr_renderS {l : P.Dic} {st : List Int} (h1 : P.dic l = true) (h2 : P.slist st = true) : (P.renderS (P.atomsOf st (P.segA l st))).2 = (P.scr l st).2 ∧ ((P.scr l st).2 = true → (P.renderS (P.atomsOf st (P.segA l st))).1 = (P.scr l st).1) := by
  have h := P.render_eq (P.atomsOf st (P.segA l st))
  have e : P.scr l st = P.render (P.atomsOf st (P.segA l st)) := by unfold P.scr; rw [h1, h2]; rfl
  rw [e]
  exact ⟨h.1, h.2.1⟩
theorem spec_screenOf (dv sv : Value) (l : P.Dic) (st : List Int) (w : World) (hu : EntR w dv l) (hs : IntR w sv st) (hm : Small l) :
    Calls Tryz.prog 72 #[.agg #[dv], sv] w (RenPost (P.scr l st) w) := by
  have hb0 : Below w.heap.size w (w.alloc (.cells #[dv] 26)) := (Below.refl _ _).alloc (Nat.le_refl _) _
  have HU := Lib.hid (hu.below hb0); have HST := Lib.hid (hs.below hb0); have HB0 := Lib.hid hb0
  have HX := Lib.hid (DBx.new dv 26 w)
  clear hb0
  obtain ⟨ad, cap, rfl, _, _⟩ := hu
  obtain ⟨sd, sc, rfl, _, _⟩ := hs
  go_enter Tryz.func72, Tryz.ntmps72
  obtain ⟨k0, _⟩ := HX.out
  go_wp2_with fail
  refine (l6Good _ l _ HU.out hm.texts).mono ?_
  rintro e w1 ⟨rfl, hb⟩
  have HB1 := Lib.hid (HB0.out.trans (hb.mono HB0.out.size)); have HST1 := Lib.hid (HST.out.below hb); have HU1 := Lib.hid (HU.out.below hb); have HX1 := Lib.hid (HX.out.below hb)
  clear hb k0
  obtain ⟨q, hq⟩ : ∃ q, P.dic l = q := ⟨_, rfl⟩
  have HQ := Lib.hid hq
  rw [hq]
  clear hq
  cases q
  · have HN := Lib.hid (show P.scr l st = ([], false) by unfold P.scr; rw [HQ.out]; rfl)
    go_wp2
    go_ret2
    exact ⟨by rw [HN.out]; rfl, HB1.out⟩
  · go_wp2_with fail
    refine (l11Strokes _ st _ HST1.out).mono ?_
    rintro e w2 ⟨rfl, rfl⟩
    obtain ⟨q, hq⟩ : ∃ q, P.slist st = q := ⟨_, rfl⟩
    have HQ2 := Lib.hid hq
    rw [hq]
    clear hq
    cases q
    · have HN := Lib.hid (show P.scr l st = ([], false) by unfold P.scr; rw [HQ.out, HQ2.out]; rfl)
      go_wp2
      go_ret2
      exact ⟨by rw [HN.out]; rfl, HB1.out⟩
    · obtain ⟨k0, _⟩ := HX1.out
      go_wp2_with fail
      refine (l14Screen _ _ l st _ HU1.out HST1.out HQ.out HQ2.out).mono ?_
      rintro e w3 ⟨rfl, hb⟩
      have HB3 := Lib.hid (HB1.out.trans (hb.mono HB1.out.size))
      have HE := Lib.hid (P.scr_renderS HQ.out HQ2.out)
      have HNO := Lib.hid (P.scr_no (d := l) (st := st))
      clear hb k0
      generalize P.renderS (P.atomsOf st (P.segA l st)) = r at *
      obtain ⟨r1, r2⟩ := r
      cases r2
      · have HN := Lib.hid (show P.scr l st = ([], false) from Prod.ext (HNO.out HE.out.1.symm) HE.out.1.symm)
        go_wp2
        go_ret2
        exact ⟨by rw [HN.out]; rfl, HB3.out⟩
      · have HN := Lib.hid (show P.scr l st = (r1, true) from Prod.ext (HE.out.2 HE.out.1.symm).symm HE.out.1.symm)
        go_wp2
        go_ret2
        exact ⟨by rw [HN.out]; rfl, HB3.out⟩
theorem l14Good (dv sv : Value) (l : P.Dic) (st : List Int) (t : Str) (w : World) (hu : EntR w dv l) (hs : IntR w sv st) (hm : Small l) :
    Calls Tryz.prog 70 #[.agg #[dv], transV sv t] w fun e w' => e = .returned (.bool (P.trans l (st, t))) ∧ Below w.heap.size w w' := by
  have hb0 : Below w.heap.size w ((w.alloc (.cells #[dv] 26)).alloc (.cells #[sv, .string (S t)] 32)) := ((Below.refl w.heap.size w).alloc (Nat.le_refl _) _).alloc (by simp) _
  have HU := Lib.hid (hu.below hb0); have HST := Lib.hid (hs.below hb0); have HB0 := Lib.hid hb0
  have HX := Lib.hid (show TBx (w.heap.size + 1) sv t ((w.alloc (.cells #[dv] 26)).alloc (.cells #[sv, .string (S t)] 32)) by simpa using TBx.new sv t (w.alloc (.cells #[dv] 26)))
  clear hb0
  obtain ⟨ad, cap, rfl, _, _⟩ := hu
  obtain ⟨sd, sc, rfl, _, _⟩ := hs
  unfold transV
  go_enter Tryz.func70, Tryz.ntmps70
  go_wp2_with fail
  refine (spec_screenOf _ _ l st _ HU.out HST.out hm).mono ?_
  rintro e w1 ⟨rfl, hb⟩
  have HB1 := Lib.hid (HB0.out.trans (hb.mono HB0.out.size)); have HST1 := Lib.hid (HST.out.below hb); have HX1 := Lib.hid (HX.out.below hb)
  have HP := Lib.hid (show P.trans l (st, t) = ((P.scr l st).2 && ((P.scr l st).1 == t && !st.contains 1024)) from rfl)
  clear hb
  generalize P.scr l st = r at *
  obtain ⟨r1, r2⟩ := r
  obtain ⟨k0, k1, k2, _⟩ := HX1.out
  cases r2
  · go_wp2
    go_ret
    exact ⟨by rw [HP.out]; rfl, HB1.out⟩
  · go_wp2_with fail
    refine (l1Has _ st 1024 _ HST1.out).mono ?_
    rintro e w2 ⟨rfl, rfl⟩
    obtain ⟨q, hq⟩ : ∃ q, st.contains 1024 = q := ⟨_, rfl⟩
    rw [hq] at HP ⊢
    clear hq
    cases q
    · by_cases h : r1 = t
      · subst h
        go_wp2
        go_ret
        exact ⟨by rw [HP.out]; simp, HB1.out⟩
      · have f1 : ¬ S r1 = S t := fun hx => h (S_inj hx)
        have f2 : decide (S r1 = S t) = false := decide_eq_false f1
        go_wp2
        go_ret
        exact ⟨by rw [HP.out]; simp [], HB1.out⟩
    · go_wp2
      go_ret
      exact ⟨by rw [HP.out]; simp, HB1.out⟩
end Go.Proofs.YtmlklnimoknojaaGreatDoor

namespace Go.Proofs.YtmlklnimoknojaaGreatDoor
open Go Go.RowKit
set_option maxHeartbeats 2000000
set_option maxRecDepth 100000
theorem szTranslator (u : Value) (l : List Int) (t : Str) (left : Int) (w : World) (hu : IntA w u l) (ht : t.length ≤ 9223372036854775807) (h0 : 0 ≤ left) (h1 : left ≤ 2 ^ 20) :
    Calls Tryz.prog 100 #[.agg #[u, .string (S t)], .int .i64 left] w (SzPost left (l.length + t.length) w) := by
  have hb0 := (Below.refl w.heap.size w).alloc (Nat.le_refl _) (.cells #[u, .string (S t)] 74)
  have HU := Lib.hid (hu.below hb0); have HB0 := Lib.hid hb0; clear hb0
  obtain ⟨ad, cap, rfl, hl, _⟩ := hu
  go_enter Tryz.func100, Tryz.ntmps100
  go_wp2_with fail
  refine (szIntS _ l left _ HU.out h0 h1).mono ?_
  rintro e w1 ⟨⟨r, rfl, hr1, hr2⟩, hb⟩
  have hz := grew0 hb
  obtain ⟨hcc, _⟩ := bcell hb
  have c1 : w1.cell? ⟨w.heap.size, 1, none⟩ = some (.string (S t)) := by rw [hcc _ _ (by simp)]; go_simp
  have HB1 := Lib.hid (HB0.out.trans (hb.mono (by simp)))
  clear hb hcc
  have HR := Lib.hid hr2; clear hr2
  by_cases hlt : r < 0
  · go_wp2
    go_ret
    exact ⟨⟨-1, rfl, by omega, by omega⟩, HB1.out⟩
  · have hr3 : r ≤ 2 ^ 20 := by have := HR.out (by omega); omega
    have hr0 : 0 ≤ r := by omega
    by_cases hlt2 : r - (t.length : Int) < 0
    · go_wp2
      go_ret
      exact ⟨⟨-1, rfl, by omega, by omega⟩, HB1.out⟩
    · go_wp2
      go_ret
      exact ⟨⟨_, rfl, by omega, fun _ => by have := HR.out hr0; omega⟩, HB1.out⟩
theorem toTranslator (u : Value) (l : List Int) (t : Str) (w : World) (hu : IntR w u l) (hl : l.length ≤ 2 ^ 20) :
    Calls Tryz.prog 104 #[.agg #[u, .string (S t)]] w (EntPost l t w) := by
  have hb0 : Below w.heap.size w (((w.alloc (.cells #[u, .string (S t)] 74)).alloc (.cells #[.slice none 0 0, .string (S [])] 32)).alloc (.cells #[.slice none 0 0, .string (S [])] 32)) :=
    (((Below.refl w.heap.size w).alloc (Nat.le_refl _) _).alloc (by simp) _).alloc (by simp; omega) _
  have HU := Lib.hid (hu.below hb0)
  have HB0 := Lib.hid hb0; clear hb0
  obtain ⟨ad, cap, rfl, _, _⟩ := hu
  go_enter Tryz.func104, Tryz.ntmps104
  go_wp2_with fail
  refine (toIntS _ l _ HU.out hl).mono ?_
  rintro e w1 ⟨u', rfl, hI, hb⟩
  have hz : w.heap.size + 2 < w1.heap.size := by have := hb.size; simp at this; omega
  obtain ⟨hcc, hff⟩ := bcell hb
  have c1 : w1.cell? ⟨w.heap.size, 1, none⟩ = some (.string (S t)) := by rw [hcc _ _ (by simp; omega)]; go_simp
  have r0 : w1.cell? ⟨w.heap.size + 1, 0, none⟩ = some (.slice none 0 0) := by rw [hcc _ _ (by simp)]; go_simp
  have r1 : w1.cell? ⟨w.heap.size + 1, 1, none⟩ = some (.string (S [])) := by rw [hcc _ _ (by simp)]; go_simp
  have q0 : w1.cell? ⟨w.heap.size + 2, 0, none⟩ = some (.slice none 0 0) := by rw [hcc _ _ (by simp)]; go_simp
  have q1 : w1.cell? ⟨w.heap.size + 2, 1, none⟩ = some (.string (S [])) := by rw [hcc _ _ (by simp)]; go_simp
  have s0 : w1.frozen? ⟨w.heap.size + 1, 0, none⟩ = false := by rw [hff _ _ (by simp)]; go_simp
  have s1 : w1.frozen? ⟨w.heap.size + 1, 1, none⟩ = false := by rw [hff _ _ (by simp)]; go_simp
  have p0 : w1.frozen? ⟨w.heap.size + 2, 0, none⟩ = false := by rw [hff _ _ (by simp)]; go_simp
  have p1 : w1.frozen? ⟨w.heap.size + 2, 1, none⟩ = false := by rw [hff _ _ (by simp)]; go_simp
  have HI := Lib.hid hI
  have HB1 := Lib.hid (HB0.out.trans (hb.mono (by simp; omega)))
  obtain ⟨ad', cap', rfl, _, _⟩ := hI
  clear hb hcc hff HU HB0
  go_wp2
  refine bodyPost_ret (v := .agg #[.slice ad' l.length cap', .string (S t)]) (by simp [results, Tryz.results104, go_sem, r0, r1]) rfl ⟨_, rfl, ?_, ?_⟩
  · refine (HI.out.stand (X := fun b => b < w.heap.size + 3) intE_ok (((((Chg.refl _ w1).setCell ?_ _).setCell ?_ _).setCell ?_ _).setCell ?_ _) ?_).wide ?_ ?_
    · simp
    · simp
    · simp
    · simp
    · intro b hb; simp [Bet] at hb ⊢; omega
    · intro b hb; simp [Bet, World.setCell] at hb ⊢; omega
    · intro b hb; exact hb.2
  · exact (((HB1.out.setCell (by simp; omega) _).setCell (by simp; omega) _).setCell (by simp) _).setCell (by simp) _
end Go.Proofs.YtmlklnimoknojaaGreatDoor

namespace Go.Proofs.YtmlklnimoknojaaGreatDoor.L
open Go Go.RowKit
/-- a number above the package-level variables that the library's functions read -/
def EB : Nat := max 0 3 + 1
/-- the package-level variables that the library's functions read -/
def Env (w : World) : Prop := EB ≤ w.heap.size ∧ (∃ m, w.cell? ⟨0, 0, none⟩ = some (.int .i64 m)) ∧ Lib.TabIs Tryz.prog w "internal/strconv.uint64pow10" .u64 Lib.pow10Tab
theorem g_pow10 : Tryz.prog.globalNamed "internal/strconv.uint64pow10" = some 3 := by kernel_rfl
theorem Env.size {w : World} (h : Env w) : EB ≤ w.heap.size := h.1
theorem Env.below {B : Nat} {w w' : World} (h : Env w) (hb : Below B w w') (hB : EB ≤ B) : Env w' := by
  obtain ⟨h1, ⟨m, h2⟩, h3⟩ := h
  refine ⟨Nat.le_trans h1 hb.size, ⟨m, ?_⟩, ?_⟩
  · rw [hb.cell (p := ⟨0, 0, none⟩) (by show 0 < B; unfold EB at hB; omega)]; exact h2
  · exact var?_below hb g_pow10 (by unfold EB at hB; omega) h3
theorem Env.alloc {w : World} (h : Env w) (o : Obj) : Env (w.alloc o) :=
  h.below ((Below.refl w.heap.size _).alloc (Nat.le_refl _) o) h.1
theorem Env.drewN {w : World} (h : Env w) (k : Nat) : Env (w.drewN k) :=
  h.below (below_drewN (Below.refl w.heap.size _) k) h.1
theorem containsAny_hg (c : Str) (w : World) (hc : c.length ≤ 2 ^ 30) (ha : ∀ (j : Nat) (b : UInt8), c[j]? = some b → b.toNat < 128) :
    Calls Tryz.prog 285 #[.string (S c), .string ⟨#[35, 62]⟩] w fun e w' => e = .returned (.bool (Lib.containsAny c [35, 62])) ∧ Below w.heap.size w w' := by
  have h := Tryz.strings_ContainsAny_laid (S c) ⟨#[35, 62]⟩ w (by rw [S_size]; omega) (by decide) (by rw [S_dataList]; exact ha)
    (by intro j b hb; match j, hb with | 0, hb => (simp at hb; subst hb; decide) | 1, hb => (simp at hb; subst hb; decide))
  rw [S_dataList] at h
  exact h
theorem itoa_any (n : Int) (w : World) (h0 : 0 ≤ n) (h : n < 4611686018427387904) (hE : Env w) :
    Calls Tryz.prog 275 #[.int .i64 n] w fun e w' => e = .returned (.string (S (P.num n.toNat))) ∧ Below w.heap.size w w' := by
  refine (Tryz.strconv_Itoa n (by omega) (by omega) w hE.2.2).mono ?_
  rintro e w' ⟨rfl, k, os, rfl⟩
  refine ⟨?_, ?_⟩
  · obtain ⟨m, rfl⟩ := Int.eq_ofNat_of_zero_le h0
    rw [show ((m : Nat) : Int) = Int.ofNat m from rfl]
    exact ret_str (Lib.itoa_nonneg m)
  · exact (below_drewN (Below.refl _ _) k).trans ⟨rfl, rfl, rfl, by simp, fun i hi => Sort.heap_grow_old _ _ hi⟩
theorem cut_any (s sep : Str) (w : World) (hs : s.length ≤ 2 ^ 31) (hE : Env w) :
    Calls Tryz.prog 247 #[.string (S s), .string (S sep)] w fun e w' => e = .returned (.tuple #[.string (S (Lib.cut s sep).1), .string (S (Lib.cut s sep).2.1), .bool (Lib.cut s sep).2.2]) ∧ ∃ n, w' = w.drewN n := by
  obtain ⟨m, hm⟩ := hE.2.1
  have h := Tryz.strings_Cut (S s) (S sep) m w (by rw [S_size]; omega) hm
  rw [S_dataList, S_dataList] at h
  exact h
theorem held_below {B : Nat} {w v : World} {x y : Option Value} (h : v.cell? ⟨B, 0, none⟩ = x ∧ v.cell? ⟨B, 1, none⟩ = y ∧ B < v.heap.size ∧ Env v ∧ Below B w v) : Below B w v := h.2.2.2.2
theorem held2 {B : Nat} {w v v' : World} {x y : Option Value} (h : v.cell? ⟨B, 0, none⟩ = x ∧ v.cell? ⟨B, 1, none⟩ = y ∧ B < v.heap.size ∧ Env v ∧ Below B w v) (hb : Below v.heap.size v v') :
    v'.cell? ⟨B, 0, none⟩ = x ∧ v'.cell? ⟨B, 1, none⟩ = y ∧ B < v'.heap.size ∧ Env v' ∧ Below B w v' :=
  ⟨(hb.cell (p := ⟨B, 0, none⟩) h.2.2.1).trans h.1, (hb.cell (p := ⟨B, 1, none⟩) h.2.2.1).trans h.2.1, Nat.lt_of_lt_of_le h.2.2.1 hb.size, h.2.2.2.1.below hb h.2.2.2.1.size, h.2.2.2.2.trans (hb.mono (Nat.le_of_lt h.2.2.1))⟩
theorem Env.dic {w : World} (h : Env w) : Go.Proofs.YtmlklnimoknojaaGreatDoor.Env w := ⟨Nat.le_trans (by unfold Go.Proofs.YtmlklnimoknojaaGreatDoor.EB EB; omega) h.1, h.2.1⟩
end Go.Proofs.YtmlklnimoknojaaGreatDoor.L
