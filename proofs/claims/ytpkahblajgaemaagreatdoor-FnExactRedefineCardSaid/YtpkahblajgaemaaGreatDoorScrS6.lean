/- Walks: least edits, lists searched (reference). -/
import Derived.Test.YtpkahblajgaemaaGreatDoorTransL
import Derived.Test.YtpkahblajgaemaaGreatDoorScrS4
import Derived.Test.YtpkahblajgaemaaGreatDoorOutD
import Derived.Test.YtpkahblajgaemaaGreatDoorValD
namespace Go.Proofs.YtpkahblajgaemaaGreatDoor
open Go Go.RowKit
set_option maxRecDepth 100000
theorem l13Least (a b : Str) (w : World) (ha : a.length ≤ 2 ^ 30) (hb : b.length ≤ 2 ^ 30) :
  Calls Tryz.prog 80 #[.string (S a), .string (S b)] w (EdPost (P.least a b) w) := by
 go_enter Tryz.func80, Tryz.ntmps80
 go_wp2
 go_loopw [5] (fun i wr => ∃ j : Nat, j ≤ a.length ∧ j ≤ b.length ∧ i = .int .i64 j ∧ a.take j = b.take j ∧ ∃ n, wr = (w.alloc (.cells #[.int .i64 0, .string (S [])] 38)).drewN n) (fun i _ => a.length - (intOf i).toNat)
 case atStart => exact ⟨0, Nat.zero_le _, Nat.zero_le _, rfl, rfl, 0, rfl⟩
 case round =>
  obtain ⟨j, hj, hk, rfl, hpre, n, rfl⟩ := hrel
  have HPRE := Lib.hid hpre
  have HSB := Lib.hid (show (a.length - j : Nat) = (a.length : Int) - (j : Int) by omega)
  clear hpre
  by_cases h1 : j < a.length
  ·
   have i1 : (j : Int) < (a.length : Int) := by omega
   by_cases h2 : j < b.length
   ·
    have i2 : (j : Int) < (b.length : Int) := by omega
    by_cases h3 : a[j] = b[j]
    ·
     have f3 : ((((a[j]'h1).toNat : Nat) : Int) == (((b[j]'h2).toNat : Nat) : Int)) = true := by rw [h3]; simp
     have HT := Lib.hid (show a.take (j + 1) = b.take (j + 1) by rw [take_snoc a j h1, take_snoc b j h2, HPRE.out, h3])
     go_wp2_with fail
     go_quiet (fail)
     go_wp2
     go_roundw
     case rel => exact ⟨j + 1, by omega, by omega, by go_num, HT.out, _, rfl⟩
     case measure => simp [intOf]; omega
    ·
     have f3 : ((((a[j]'h1).toNat : Nat) : Int) == (((b[j]'h2).toNat : Nat) : Int)) = false := by
      rw [beq_eq_false_iff_ne]
      intro h
      exact h3 (UInt8.toNat_inj.1 (by omega))
     have HL := Lib.hid (P.lcp_of j a b HPRE.out (by omega) (by omega) (.inr (.inr ⟨h1, h2, h3⟩)))
     go_wp2_with fail
     go_quiet (fail)
     go_wp2
     refine bodyPost_ret (v := .agg #[.int .i64 (P.least a b).1, .string (S (P.least a b).2)]) (by simp [P.least, HL.out, results, Tryz.results80, go_sem, HSB.out]) rfl ⟨rfl, ((below_drewN ((Below.refl _ _).alloc (Nat.le_refl _) _) _).setCell (Nat.le_refl _) _).setCell (Nat.le_refl _) _⟩
   ·
    have i2 : ¬ (j : Int) < (b.length : Int) := by omega
    have HL := Lib.hid (P.lcp_of j a b HPRE.out (by omega) (by omega) (.inr (.inl (by omega))))
    go_wp2_with fail
    go_quiet (fail)
    go_wp2
    refine bodyPost_ret (v := .agg #[.int .i64 (P.least a b).1, .string (S (P.least a b).2)]) (by simp [P.least, HL.out, results, Tryz.results80, go_sem, HSB.out]) rfl ⟨rfl, ((below_drewN ((Below.refl _ _).alloc (Nat.le_refl _) _) _).setCell (Nat.le_refl _) _).setCell (Nat.le_refl _) _⟩
  ·
   have i1 : ¬ (j : Int) < (a.length : Int) := by omega
   have HL := Lib.hid (P.lcp_of j a b HPRE.out (by omega) (by omega) (.inl (by omega)))
   go_wp2_with fail
   go_quiet (fail)
   go_wp2
   refine bodyPost_ret (v := .agg #[.int .i64 (P.least a b).1, .string (S (P.least a b).2)]) (by simp [P.least, HL.out, results, Tryz.results80, go_sem, HSB.out]) rfl ⟨rfl, ((below_drewN ((Below.refl _ _).alloc (Nat.le_refl _) _) _).setCell (Nat.le_refl _) _).setCell (Nat.le_refl _) _⟩
theorem l1Has (u : Value) (l : List Int) (x : Int) (w : World) (hu : IntR w u l) :
  Calls Tryz.prog 122 #[u, .int .i64 x] w fun e w' => e = .returned (.bool (l.contains x)) ∧ w = w' := by
 have HU := Lib.hid hu
 obtain ⟨ad, cap, rfl, hl, _⟩ := hu
 go_enter Tryz.func122, Tryz.ntmps122
 go_wp2
 go_loop [5] (fun i => ∃ j : Nat, j ≤ l.length ∧ i = .int .i64 j ∧ (l.take j).contains x = false) (fun i => l.length - (intOf i).toNat)
 case atStart => exact ⟨0, Nat.zero_le _, rfl, by simp⟩
 case round =>
  obtain ⟨j, hj, rfl, ha⟩ := hrel
  have HA := Lib.hid ha; clear ha
  by_cases hlt : j < l.length
  ·
   obtain ⟨g, o, hga, _, hc⟩ := HU.out.at j hlt
   subst hga
   have HSN := Lib.hid (take_snoc l j hlt)
   have HMEM := Lib.hid (List.getElem_mem hlt)
   generalize l[j] = y at *
   have i1 : (j : Int) < (l.length : Int) := by omega
   by_cases h : y = x
   ·
    subst h
    have HYES := Lib.hid (show decide (y ∈ l) = true from decide_eq_true HMEM.out)
    go_wp2
    go_ret
    exact ⟨by rw [HYES.out]; rfl, rfl⟩
   ·
    have i2 : (y == x) = false := by simpa using h
    have HNX := Lib.hid (show (l.take (j + 1)).contains x = false by
     rw [HSN.out]
     have h2 := HA.out
     simp only [List.contains_eq_mem, decide_eq_false_iff_not, List.mem_append, List.mem_singleton, not_or] at h2 ⊢
     exact ⟨h2, fun h3 => h h3.symm⟩)
    go_wp2
    go_round
    case rel => exact ⟨j + 1, by omega, by go_num, HNX.out⟩
    case measure => simp [intOf]; omega
  ·
   have i1 : ¬ (j : Int) < (l.length : Int) := by omega
   have HNO := Lib.hid (show decide (x ∈ l) = false by
    have h := HA.out
    rw [List.take_of_length_le (by omega)] at h
    simpa using h)
   go_wp2
   go_ret
   exact ⟨by rw [HNO.out]; rfl, rfl⟩
end Go.Proofs.YtpkahblajgaemaaGreatDoor
namespace Go.Proofs.YtpkahblajgaemaaGreatDoor
open Go Go.RowKit
set_option maxHeartbeats 2000000
set_option maxRecDepth 100000
theorem P.scr_renderS {l : P.Dic} {st : List Int} (h1 : P.dic l = true) (h2 : P.slist st = true) : (P.renderS (P.atomsOf st (P.segA l st))).2 = (P.scr l st).2 ∧ ((P.scr l st).2 = true → (P.renderS (P.atomsOf st (P.segA l st))).1 = (P.scr l st).1) := by
 have h := P.render_eq (P.atomsOf st (P.segA l st))
 have e : P.scr l st = P.render (P.atomsOf st (P.segA l st)) := by unfold P.scr; rw [h1, h2]; rfl
 rw [e]
 exact ⟨h.1, h.2.1⟩
theorem spec_screenOf (dv sv : Value) (l : P.Dic) (st : List Int) (w : World) (hu : EntR w dv l) (hs : IntR w sv st) (hm : Small l) :
  Calls Tryz.prog 79 #[.agg #[dv], sv] w (RenPost (P.scr l st) w) := by
 have hb0 : Below w.heap.size w (w.alloc (.cells #[dv] 26)) := (Below.refl _ _).alloc (Nat.le_refl _) _
 have HU := Lib.hid (hu.below hb0); have HST := Lib.hid (hs.below hb0); have HB0 := Lib.hid hb0
 have HX := Lib.hid (DBx.new dv 26 w)
 clear hb0
 obtain ⟨ad, cap, rfl, _, _⟩ := hu
 obtain ⟨sd, sc, rfl, _, _⟩ := hs
 go_enter Tryz.func79, Tryz.ntmps79
 obtain ⟨k0, _⟩ := HX.out
 go_wp2_with fail
 refine (l6Good _ l _ HU.out hm.texts).mono ?_
 rintro e w1 ⟨rfl, hb⟩
 have HB1 := Lib.hid (HB0.out.trans (hb.mono HB0.out.size)); have HST1 := Lib.hid (HST.out.below hb); have HU1 := Lib.hid (HU.out.below hb); have HX1 := Lib.hid (HX.out.below hb)
 clear hb k0
 obtain ⟨q, hq⟩ : ∃ q, P.dic l = q := ⟨_, rfl⟩
 have HQ := Lib.hid hq
 rw [hq]
 clear hq
 cases q
 ·
  have HN := Lib.hid (show P.scr l st = ([], false) by unfold P.scr; rw [HQ.out]; rfl)
  go_wp2
  go_ret2
  exact ⟨by rw [HN.out]; rfl, HB1.out⟩
 ·
  go_wp2_with fail
  refine (l11Strokes _ st _ HST1.out).mono ?_
  rintro e w2 ⟨rfl, rfl⟩
  obtain ⟨q, hq⟩ : ∃ q, P.slist st = q := ⟨_, rfl⟩
  have HQ2 := Lib.hid hq
  rw [hq]
  clear hq
  cases q
  ·
   have HN := Lib.hid (show P.scr l st = ([], false) by unfold P.scr; rw [HQ.out, HQ2.out]; rfl)
   go_wp2
   go_ret2
   exact ⟨by rw [HN.out]; rfl, HB1.out⟩
  ·
   obtain ⟨k0, _⟩ := HX1.out
   go_wp2_with fail
   refine (l14Screen _ _ l st _ HU1.out HST1.out HQ.out HQ2.out).mono ?_
   rintro e w3 ⟨rfl, hb⟩
   have HB3 := Lib.hid (HB1.out.trans (hb.mono HB1.out.size))
   have HE := Lib.hid (P.scr_renderS HQ.out HQ2.out)
   have HNO := Lib.hid (P.scr_no (d := l) (st := st))
   clear hb k0
   generalize P.renderS (P.atomsOf st (P.segA l st)) = r at *
   obtain ⟨r1, r2⟩ := r
   cases r2
   ·
    have HN := Lib.hid (show P.scr l st = ([], false) from Prod.ext (HNO.out HE.out.1.symm) HE.out.1.symm)
    go_wp2
    go_ret2
    exact ⟨by rw [HN.out]; rfl, HB3.out⟩
   ·
    have HN := Lib.hid (show P.scr l st = (r1, true) from Prod.ext (HE.out.2 HE.out.1.symm).symm HE.out.1.symm)
    go_wp2
    go_ret2
    exact ⟨by rw [HN.out]; rfl, HB3.out⟩
theorem l14Good (dv sv : Value) (l : P.Dic) (st : List Int) (t : Str) (w : World) (hu : EntR w dv l) (hs : IntR w sv st) (hm : Small l) :
  Calls Tryz.prog 77 #[.agg #[dv], transV sv t] w fun e w' => e = .returned (.bool (P.trans l (st, t))) ∧ Below w.heap.size w w' := by
 have hb0 : Below w.heap.size w ((w.alloc (.cells #[dv] 26)).alloc (.cells #[sv, .string (S t)] 32)) := ((Below.refl w.heap.size w).alloc (Nat.le_refl _) _).alloc (by simp) _
 have HU := Lib.hid (hu.below hb0); have HST := Lib.hid (hs.below hb0); have HB0 := Lib.hid hb0
 have HX := Lib.hid (show TBx (w.heap.size + 1) sv t ((w.alloc (.cells #[dv] 26)).alloc (.cells #[sv, .string (S t)] 32)) by simpa using TBx.new sv t (w.alloc (.cells #[dv] 26)))
 clear hb0
 obtain ⟨ad, cap, rfl, _, _⟩ := hu
 obtain ⟨sd, sc, rfl, _, _⟩ := hs
 unfold transV
 go_enter Tryz.func77, Tryz.ntmps77
 go_wp2_with fail
 refine (spec_screenOf _ _ l st _ HU.out HST.out hm).mono ?_
 rintro e w1 ⟨rfl, hb⟩
 have HB1 := Lib.hid (HB0.out.trans (hb.mono HB0.out.size)); have HST1 := Lib.hid (HST.out.below hb); have HX1 := Lib.hid (HX.out.below hb)
 have HP := Lib.hid (show P.trans l (st, t) = ((P.scr l st).2 && ((P.scr l st).1 == t && !st.contains 1024)) from rfl)
 clear hb
 generalize P.scr l st = r at *
 obtain ⟨r1, r2⟩ := r
 obtain ⟨k0, k1, k2, _⟩ := HX1.out
 cases r2
 ·
  go_wp2
  go_ret
  exact ⟨by rw [HP.out]; rfl, HB1.out⟩
 ·
  go_wp2_with fail
  refine (l1Has _ st 1024 _ HST1.out).mono ?_
  rintro e w2 ⟨rfl, rfl⟩
  obtain ⟨q, hq⟩ : ∃ q, st.contains 1024 = q := ⟨_, rfl⟩
  rw [hq] at HP ⊢
  clear hq
  cases q
  ·
   by_cases h : r1 = t
   ·
    subst h
    go_wp2
    go_ret
    exact ⟨by rw [HP.out]; simp, HB1.out⟩
   ·
    have f1 : ¬ S r1 = S t := fun hx => h (S_inj hx)
    have f2 : decide (S r1 = S t) = false := decide_eq_false f1
    go_wp2
    go_ret
    exact ⟨by rw [HP.out]; simp [], HB1.out⟩
  ·
   go_wp2
   go_ret
   exact ⟨by rw [HP.out]; simp, HB1.out⟩
end Go.Proofs.YtpkahblajgaemaaGreatDoor
namespace Go.Proofs.YtpkahblajgaemaaGreatDoor
open Go Go.RowKit
set_option maxHeartbeats 2000000
set_option maxRecDepth 100000
theorem l1OwnO (u : Value) (l : List Int) (w : World) (hu : IntR w u l) (hl : l.length ≤ 2 ^ 30) :
  Calls Tryz.prog 73 #[u] w (OwnPost l w) := by
 obtain ⟨i0, hi, hz0, hz1, hz2⟩ := info_parts info_int
 have hb0 := (Below.refl w.heap.size w).alloc (Nat.le_refl _) (.cells #[] 3)
 have HSRC := Lib.hid (src_of_ints (hu.below hb0))
 have HB := Lib.hid hb0; clear hb0
 have HOWN := Lib.hid (World.ownsRow_lit (base := w.heap.size) (e := 3) (size := 1) w #[] 0 (Nat.le_refl _) (Nat.zero_le _) (by simp))
 obtain ⟨ad, cap, rfl, _, _⟩ := hu
 go_enter Tryz.func73, Tryz.ntmps73
 go_wp2_with (at_builtin; refine wpList_append_src rfl _ _ 27 rfl w.heap.size 3 i0 (.int .i64 0) 1 8 Tryz.underlying27 hi hz0 hz1 hz2 rfl (by decide) _ 0 [] rfl HOWN.out _ l.length (ints l) rfl HSRC.out ?_ ?_ (by simp) ?_)
 ·
  unfold maxLen; omega
 ·
  omega
 intro v' w' hown hgr _
 have HOW := Lib.hid hown
 have HBB := Lib.hid (HB.out.grown hgr (by simp) (fun k hk => by simp [Value.ownBlock] at hk; omega))
 clear hown hgr
 go_wp2
 go_ret
 refine ⟨_, rfl, ?_, HBB.out⟩
 exact HOW.out
end Go.Proofs.YtpkahblajgaemaaGreatDoor
