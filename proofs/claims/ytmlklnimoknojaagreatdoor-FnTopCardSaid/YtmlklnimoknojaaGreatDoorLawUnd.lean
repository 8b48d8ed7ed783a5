/- Plain facts of the law of dictionaries; the law's own comparisons; validity (reference); a dictionary, an entry, an outline drawn from bytes. -/
import Derived.BigQuiet
import Derived.IntWalk
import Derived.Deep.DeepCutAuto
import Derived.Deep.RegionHeld
import Derived.Test.YtmlklnimoknojaaGreatDoorCurE4
import Derived.Test.YtmlklnimoknojaaGreatDoorVBig
import Derived.Test.YtmlklnimoknojaaGreatDoorSpellI2
import Derived.Test.YtmlklnimoknojaaGreatDoorTool3
import Derived.Test.YtmlklnimoknojaaGreatDoorScrS5
import Derived.Test.YtmlklnimoknojaaGreatDoorScrS8
namespace Go.Proofs.YtmlklnimoknojaaGreatDoor
namespace P
end P
open Go Go.RowKit
set_option maxHeartbeats 4000000
set_option maxRecDepth 100000
theorem vInts (u v : Value) (l m : List Int) (w : World) (hu : IntR w u l) (hv : IntR w v m) :
    Calls Tryz.prog 56 #[u, v] w fun e w' => e = .returned (.bool (decide (l = m))) ∧ Below w.heap.size w w' := by
  have HU := Lib.hid hu; have HV := Lib.hid hv
  obtain ⟨ad, cap, rfl, hla, _⟩ := hu
  obtain ⟨bd, dap, rfl, hlb, _⟩ := hv
  go_enter Tryz.func56, Tryz.ntmps56
  by_cases hlen : l.length = m.length
  · have hli : (l.length : Int) = (m.length : Int) := by omega
    go_wp2
    go_loopw [5] (fun i wr => ∃ j : Nat, j ≤ l.length ∧ i = .int .i64 j ∧ (∀ k (h : k < j) (h1 : k < l.length) (h2 : k < m.length), l[k] = m[k]) ∧ Below w.heap.size w wr) (fun i _ => l.length - (intOf i).toNat)
    case atStart => exact ⟨0, Nat.zero_le _, rfl, fun k h => absurd h (Nat.not_lt_zero _), Below.refl _ _⟩
    case round =>
      obtain ⟨j, hj, rfl, hsame, hb⟩ := hrel
      have HB := Lib.hid hb; have HS := Lib.hid hsame
      clear hsame
      by_cases hlt : j < l.length
      · obtain ⟨g, o, hga, hgl, c0⟩ := (HU.out.below hb).at j hlt
        obtain ⟨g', o', hgb, hgl', d0⟩ := (HV.out.below hb).at j (by omega)
        subst hga hgb
        clear hb
        have i1 : (j : Int) < (l.length : Int) := by omega
        have i2 : (j : Int) < (m.length : Int) := by omega
        have hjm : j < m.length := by omega
        by_cases hx : l[j] = m[j]
        · have HX := Lib.hid hx
          rw [hx] at c0
          go_wp2_with fail
          go_quiet (fail)
          go_wp2
          go_roundw
          case rel =>
            refine ⟨j + 1, by omega, by go_num, fun k hk h1 h2 => ?_, below_drewN HB.out _⟩
            by_cases e : k = j
            · subst e; exact HX.out
            · exact HS.out k (by omega) h1 h2
          case measure => simp [intOf]; omega
        · have hne : ¬ l = m := fun e => hx (by subst e; rfl)
          go_wp2_with fail
          go_quiet (fail)
          go_wp2
          go_ret
          exact ⟨by rw [decide_eq_false hne]; rfl, below_drewN HB.out _⟩
      · clear hb
        have he : l = m := List.ext_getElem hlen fun k h1 h2 => HS.out k (by omega) h1 h2
        go_wp2
        go_ret
        exact ⟨by rw [decide_eq_true he]; rfl, HB.out⟩
  · have hli : ¬ (l.length : Int) = (m.length : Int) := by omega
    have hne : ¬ l = m := fun e => hlen (by rw [e])
    go_wp2
    go_ret
    exact ⟨by rw [decide_eq_false hne]; rfl, Below.refl _ _⟩
end Go.Proofs.YtmlklnimoknojaaGreatDoor

namespace Go.Proofs.YtmlklnimoknojaaGreatDoor
open Go Go.RowKit
set_option maxHeartbeats 2000000
set_option maxRecDepth 100000
theorem vEdits (u v : Value) (l : P.Folds) (w : World) (hu : FldR w u l) (hv : FldR w v l) :
    Calls Tryz.prog 14 #[u, v] w fun e w' => e = .returned (.bool true) ∧ Below w.heap.size w w' := by
  have HU := Lib.hid hu; have HV := Lib.hid hv
  obtain ⟨ad, cap, rfl, hla, _⟩ := hu
  obtain ⟨bd, dap, rfl, _, _⟩ := hv
  go_enter Tryz.func14, Tryz.ntmps14
  go_wp2
  go_loopw [5] (fun i wr => ∃ j : Nat, j ≤ l.length ∧ i = .int .i64 j ∧ Below w.heap.size w wr) (fun i _ => l.length - (intOf i).toNat)
  case atStart => exact ⟨0, Nat.zero_le _, rfl, Below.refl _ _⟩
  case round =>
    obtain ⟨j, hj, rfl, hb⟩ := hrel
    have HB := Lib.hid hb
    by_cases hlt : j < l.length
    · obtain ⟨c, p, hga, hgl, c0, c1⟩ := (HU.out.below hb).at j hlt
      obtain ⟨g, q, hgb, hgl', d0, d1⟩ := (HV.out.below hb).at j hlt
      subst hga hgb
      have HS := Lib.hid (show KF w c (p + j * 2) g (q + j * 2) l[j].1 l[j].2 wr.drew from KF.step ⟨c0, c1, d0, d1, hgl, hgl', hb.size, hb⟩ (Below.refl _ _).drew)
      generalize l[j] = en at *
      obtain ⟨eo, et⟩ := en
      simp only at c0 c1 d0 d1 HS
      clear hb
      have i1 : (j : Int) < (l.length : Int) := by omega
      go_upto_region 6 with fail
      refine wp_region_held_drew (S := KF w c (p + j * 2) g (q + j * 2) eo et) (by kernel_rfl) HS.out (fun hS0 => ?_)
      refine wpAnyH_take (i := 0) (v := .slice (some ⟨c, p, none⟩) l.length cap) rfl (by kernel_rfl) (by kernel_rfl) (by kernel_rfl) (fun _ _ _ h => h) (Or.inl ⟨by rfl, fun z hz => ?_⟩) hS0 ?_
      · obtain ⟨z1, z2, z3, z4, z5, z6⟩ := hz
        go_simp
      try simp only [qA, qB, Act.put, qD, qE, qF]
      refine wpAnyH_take (i := 1) (v := .int .i64 j) rfl (by kernel_rfl) (by kernel_rfl) (by kernel_rfl) (fun _ _ _ h => h) (Or.inl ⟨by rfl, fun z hz => ?_⟩) hS0 ?_
      · obtain ⟨z1, z2, z3, z4, z5, z6⟩ := hz
        go_simp
      try simp only [qA, qB, qC, Act.put, qD, qE, qF]
      refine wpAnyH_take (i := 2) (v := .pointer (some ⟨c, p + j * 2, none⟩)) rfl (by kernel_rfl) (by kernel_rfl) (by kernel_rfl) (fun _ _ _ h => h) (Or.inl ⟨by rfl, fun z hz => ?_⟩) hS0 ?_
      · obtain ⟨z1, z2, z3, z4, z5, z6⟩ := hz
        go_simp
      try simp only [qA, qB, qC, Act.put, qD, qE, qF]
      refine wpAnyH_take (i := 3) (v := .agg #[.int .i64 eo, .string (S et)]) rfl (by kernel_rfl) (by kernel_rfl) (by kernel_rfl) (fun _ _ _ h => h) (Or.inl ⟨by rfl, fun z hz => ?_⟩) hS0 ?_
      · obtain ⟨z1, z2, z3, z4, z5, z6⟩ := hz
        go_simp
      try simp only [qA, qB, qC, Act.put, qD, qE, qF]
      refine wpAnyH_take (i := 4) (v := .slice (some ⟨g, q, none⟩) l.length dap) rfl (by kernel_rfl) (by kernel_rfl) (by kernel_rfl) (fun _ _ _ h => h) (Or.inl ⟨by rfl, fun z hz => ?_⟩) hS0 ?_
      · obtain ⟨z1, z2, z3, z4, z5, z6⟩ := hz
        go_simp
      try simp only [qA, qB, qC, Act.put, qD, qE, qF]
      refine wpAnyH_take (i := 5) (v := .int .i64 j) rfl (by kernel_rfl) (by kernel_rfl) (by kernel_rfl) (fun _ _ _ h => h) (Or.inl ⟨by rfl, fun z hz => ?_⟩) hS0 ?_
      · obtain ⟨z1, z2, z3, z4, z5, z6⟩ := hz
        go_simp
      try simp only [qA, qB, qC, Act.put, qD, qE, qF]
      refine wpAnyH_take (i := 6) (v := .pointer (some ⟨g, q + j * 2, none⟩)) rfl (by kernel_rfl) (by kernel_rfl) (by kernel_rfl) (fun _ _ _ h => h) (Or.inl ⟨by rfl, fun z hz => ?_⟩) hS0 ?_
      · obtain ⟨z1, z2, z3, z4, z5, z6⟩ := hz
        go_simp
      try simp only [qA, qB, qC, Act.put, qD, qE, qF]
      refine wpAnyH_take (i := 7) (v := .agg #[.int .i64 eo, .string (S et)]) rfl (by kernel_rfl) (by kernel_rfl) (by kernel_rfl) (fun _ _ _ h => h) (Or.inl ⟨by rfl, fun z hz => ?_⟩) hS0 ?_
      · obtain ⟨z1, z2, z3, z4, z5, z6⟩ := hz
        go_simp
      try simp only [qA, qB, qC, Act.put, qD, qE, qF]
      refine wpAnyH_take (i := 8) (v := .bool false) rfl (by kernel_rfl) (by kernel_rfl) (by kernel_rfl) (fun _ _ _ h => h) (Or.inl ⟨by rfl, fun z hz => ?_⟩) hS0 ?_
      · obtain ⟨z1, z2, z3, z4, z5, z6⟩ := hz
        go_simp
      try simp only [qA, qB, qC, Act.put, qD, qE, qF]
      refine wpAnyH_done (by kernel_rfl) ?_ _
      have HB2 := Lib.hid (HB.out.drew)
      clear hS0
      go_wp2
      go_roundw
      case rel => exact ⟨j + 1, by omega, by go_num, HB2.out⟩
      case measure => simp [intOf]; omega
    · clear hb
      go_wp2
      go_ret
      exact ⟨rfl, HB.out⟩
theorem vTranslator (u v : Value) (l : List Int) (t : Str) (w : World) (hu : IntR w u l) (hv : IntR w v l) :
    Calls Tryz.prog 15 #[.agg #[u, .string (S t)], .agg #[v, .string (S t)]] w fun e w' => e = .returned (.bool true) ∧ Below w.heap.size w w' := by
  have hb0 : Below w.heap.size w ((w.alloc (.cells #[u, .string (S t)] 32)).alloc (.cells #[v, .string (S t)] 32)) :=
    ((Below.refl w.heap.size w).alloc (Nat.le_refl _) _).alloc (by simp) _
  have HU := Lib.hid (hu.below hb0); have HV := Lib.hid (hv.below hb0)
  have HB0 := Lib.hid hb0; clear hb0
  obtain ⟨ad, cap, rfl, hla, _⟩ := hu
  obtain ⟨bd, dap, rfl, _, _⟩ := hv
  go_enter Tryz.func15, Tryz.ntmps15
  go_wp2_with fail
  refine (vInts _ _ l l _ HU.out HV.out).mono ?_
  rintro e w1 ⟨rfl, hb⟩
  rw [show decide (l = l) = true from decide_eq_true rfl]
  have HB1 := Lib.hid (HB0.out.trans (hb.mono (by simp; omega)))
  clear hb
  go_wp2
  go_ret
  exact ⟨rfl, HB1.out⟩
end Go.Proofs.YtmlklnimoknojaaGreatDoor

namespace Go.Proofs.YtmlklnimoknojaaGreatDoor
open Go Go.RowKit
set_option maxHeartbeats 8000000
set_option maxRecDepth 100000
theorem law_und (v : Value) (w : World) (hc : CodeAny w v) (hE : Env w) :
    Calls Tryz.prog 6 #[v] w fun e w' => e = .returned (.bool true) ∧ Below w.heap.size w w' := by
  obtain ⟨ad0, n0, cap0, rfl, hn, hr⟩ := hc
  have HE := Lib.hid hE
  clear hE
  go_enter Tryz.func6, Tryz.ntmps6
  go_wp2_with fail
  refine (vBig _ n0 ad0 cap0 rfl hn _).mono ?_
  rintro e w' ⟨rfl, rfl⟩
  cases hbig : decide (65536 < n0)
  · have HCD := Lib.hid (show CodeIs w (.slice ad0 n0 cap0) from ⟨ad0, n0, cap0, rfl, by have := of_decide_eq_false hbig; omega, hr⟩)
    clear hbig hr
    go_wp2_with fail
    refine (drawUndoAll _ _ HCD.out).mono ?_
    rintro e w1 ⟨l, u, st, us, sc, rfl, hdl, hrd, hrow, hst, hsc, hb⟩
    have HSM := Lib.hid hdl.small
    obtain ⟨da, dc, rfl, _, _⟩ := hrd.now
    obtain ⟨sa, sc1, rfl⟩ := ownK_form hrow
    have HU := Lib.hid hrd.now; have HST := Lib.hid (ownK_read hrow (by omega)); have HBW := Lib.hid hb
    have HLN := Lib.hid (show st.length ≤ 70 ∧ sc.length ≤ 2001 from ⟨hst, hsc⟩)
    clear hrd hrow hdl hst hsc hb HCD
    unfold transV
    have hba : Below w1.heap.size w1 ((w1.alloc (.cells #[.slice da l.length dc] 26)).alloc (.cells #[.slice sa st.length sc1, .string (S sc)] 32)) := ((Below.refl w1.heap.size w1).alloc (Nat.le_refl _) _).alloc (by simp) _
    have HB_0 := Lib.hid (HBW.out.trans (hba.mono HBW.out.size))
    have A_0 := Lib.hid ((Box1.new (.slice da l.length dc) 26 w1).below ((Below.refl _ _).alloc (Nat.le_refl _) (.cells #[.slice sa st.length sc1, .string (S sc)] 32)))
    have T_0 := Lib.hid (show Box2E (w1.heap.size + 1) (.slice sa st.length sc1) sc ((w1.alloc (.cells #[.slice da l.length dc] 26)).alloc (.cells #[.slice sa st.length sc1, .string (S sc)] 32)) from by have h := Box2E.new (.slice sa st.length sc1) sc 32 (w1.alloc (.cells #[.slice da l.length dc] 26)); simpa using h)
    have U_0 := Lib.hid (HU.out.below hba)
    have I_0 := Lib.hid (HST.out.below hba)
    have HQ := Lib.hid (show w.heap.size ≤ w1.heap.size from HBW.out.size)
    clear hba HU HST HBW
    obtain ⟨ud, ok, hr⟩ : ∃ ud ok, P.undo l (st, sc) = (ud, ok) := ⟨_, _, rfl⟩
    have HR := Lib.hid hr
    have HUL := Lib.hid (show ud.length ≤ 70 from by have h := P.undoL_len l (st, sc); rw [hr] at h; simp only at h; have := HLN.out.1; omega)
    have HFAL := Lib.hid (fun h : ok = false => P.undo_false (d := l) (t := (st, sc)) (es := ud) (by rw [hr, h]))
    have HTRU := Lib.hid (fun h : ok = true => P.undo_true (d := l) (t := (st, sc)) (es := ud) (by rw [hr, h]))
    clear hr
    go_upto_region 4 with fail
    generalize ((w1.alloc (.cells #[.slice da l.length dc] 26)).alloc (.cells #[.slice sa st.length sc1, .string (S sc)] 32)) = v0 at *
    obtain ⟨c_A, _⟩ := A_0.out
    obtain ⟨c_T0, c_T1, _⟩ := T_0.out
    go_wp2_with fail
    refine ((impl_undoAll _ _ l st sc _ U_0.out I_0.out HSM.out (HE.out.below HB_0.out HE.out.size)).mono (un_read HR.out (by have := HUL.out; omega))).mono ?_
    rintro e w2 ⟨d1, c1, rfl, hf, hb⟩
    clear c_A c_T0 c_T1
    have HB_1 := Lib.hid (HB_0.out.trans (hb.mono HB_0.out.size))
    have A_1 := Lib.hid (A_0.out.below hb)
    have T_1 := Lib.hid (T_0.out.below hb)
    have U_1 := Lib.hid (U_0.out.below hb)
    have I_1 := Lib.hid (I_0.out.below hb)
    clear HB_0 A_0 T_0 U_0 I_0 hb
    have F1_0 := Lib.hid (hf)
    clear hf
    obtain ⟨c_A, _⟩ := A_1.out
    obtain ⟨c_T0, c_T1, _⟩ := T_1.out
    go_wp2_with fail
    refine ((spec_undoAll _ _ l st sc _ U_1.out I_1.out HSM.out).mono (un_read HR.out (by have := HUL.out; omega))).mono ?_
    rintro e w3 ⟨d2, c2, rfl, hf, hb⟩
    clear c_A c_T0 c_T1
    have HB_2 := Lib.hid (HB_1.out.trans (hb.mono HB_1.out.size))
    have A_2 := Lib.hid (A_1.out.below hb)
    have T_2 := Lib.hid (T_1.out.below hb)
    have U_2 := Lib.hid (U_1.out.below hb)
    have I_2 := Lib.hid (I_1.out.below hb)
    have F1_1 := Lib.hid (F1_0.out.below hb)
    clear HB_1 A_1 T_1 U_1 I_1 F1_0 hb
    have F2_0 := Lib.hid (hf)
    clear hf
    go_wp2_with fail
    refine (vEdits _ _ ud _ F1_1.out F2_0.out).mono ?_
    rintro e w4 ⟨rfl, hb⟩
    have HB_3 := Lib.hid (HB_2.out.trans (hb.mono HB_2.out.size))
    have A_3 := Lib.hid (A_2.out.below hb)
    have T_3 := Lib.hid (T_2.out.below hb)
    have U_3 := Lib.hid (U_2.out.below hb)
    have I_3 := Lib.hid (I_2.out.below hb)
    have F1_2 := Lib.hid (F1_1.out.below hb)
    have F2_1 := Lib.hid (F2_0.out.below hb)
    clear HB_2 A_2 T_2 U_2 I_2 F1_1 F2_0 hb
    cases ok
    · have hes := HFAL.out rfl
      subst hes
      go_wp2
      go_ret
      exact ⟨rfl, HB_3.out⟩
    obtain ⟨htr, hun, hul⟩ := HTRU.out rfl
    have HUN := Lib.hid (show P.undoN l (st, sc) st.length = some (ud, []) from hun)
    have HUE := Lib.hid (show ud.length = st.length from hul)
    have HSC := Lib.hid (show P.screen sc = true from P.trans_screen htr)
    clear htr hun hul HFAL HTRU HR F2_1
    have hue := HUE.out; have h70 := HUL.out
    obtain ⟨c_A, _⟩ := A_3.out
    obtain ⟨c_T0, c_T1, _⟩ := T_3.out
    go_wp2
    go_loopw [9, 10, 11] (fun sv fv i wr => ∃ (k : Nat) (s : Str), k ≤ ud.length ∧ i = .int .i64 k ∧ sv = .string (S s) ∧ fv = .bool true ∧ P.undoN l (st, sc) k = some (ud.take k, s) ∧ Below w4.heap.size w4 wr) (fun _ _ i _ => ud.length - (intOf i).toNat)
    case atStart => exact ⟨0, sc, Nat.zero_le _, rfl, rfl, rfl, rfl, Below.refl _ _⟩
    case round =>
      clear c_A c_T0 c_T1
      obtain ⟨k, s, hk, rfl, rfl, rfl, hNk, hbk⟩ := hrel
      have HNK := Lib.hid hNk; have HBK := Lib.hid hbk
      clear hNk hbk
      by_cases hkt : k < ud.length
      · have hks : k < st.length := by omega
        obtain ⟨hl0, h1, h2, h3⟩ := P.undo_edit (t := (st, sc)) HSC.out HUN.out hks HNK.out
        have hs2 := P.screen_len (P.undoN_screen (t := (st, sc)) HSC.out HNK.out)
        simp only at h1 h2 h3
        obtain ⟨n, hn⟩ : ∃ n, n = st.length - 1 - k := ⟨_, rfl⟩
        rw [← hn] at h1 h2 h3
        obtain ⟨s2, hs3⟩ : ∃ s2, (P.scr l (st.take n)).1 = s2 := ⟨_, rfl⟩
        rw [hs3] at h1 h3
        have HSQ := Lib.hid (show P.scr l (st.take n) = (s2, true) from Prod.ext hs3 h2)
        have HK1 := Lib.hid h1; have HK3 := Lib.hid h3
        have hel := P.apply_text (by rw [h3])
        clear h1 h2 h3 hs3
        obtain ⟨gg, o, hga, hgs, d0, d1'⟩ := (F1_2.out.below HBK.out).at k hkt
        subst hga
        obtain ⟨en, et, hee⟩ : ∃ en et, ud[k] = (en, et) := ⟨_, _, rfl⟩
        rw [hee] at d0 d1' HK3 hel
        simp only at d0 d1' hel
        clear hee
        have i2 : (k : Int) < (ud.length : Int) := by omega
        go_wp2_with fail
        refine (applyEdit s en et _ (by omega) (by omega)).mono ?_
        rintro e w5 ⟨rfl, hb⟩
        rw [HK3.out]
        have HB5 := Lib.hid (HBK.out.trans (hb.mono HBK.out.size))
        clear hb d0 d1' hgs HBK
        have HU5 := Lib.hid ((U_3.out.below HB5.out).below (Below.refl _ _).drew)
        have HI5 := Lib.hid ((I_3.out.below HB5.out).below (Below.refl _ _).drew)
        have HRD := Lib.hid (show TwoRd w1.heap.size (.slice da l.length dc) (.slice sa st.length sc1) w5.drew from TwoRd.below (TwoRd.below ⟨A_3.out.1, T_3.out.1, T_3.out.2.2⟩ HB5.out) (Below.refl _ _).drew)
        have HB6 := Lib.hid (HB5.out.trans ((Below.refl _ _).drew.mono HB5.out.size))
        have HE6 := Lib.hid (HE.out.below (HB_3.out.trans (HB6.out.mono HB_3.out.size)) HE.out.size)
        clear HB5
        have hcap := HI5.out.cap
        have j1 : IntKind.i64.wrap ((st.length : Int) - 1) = (st.length : Int) - 1 := by have := HLN.out.1; rw [IntKind.wrap_i64]; omega
        have j2 : IntKind.i64.wrap ((st.length : Int) - 1 - (k : Int)) = (n : Int) := by have := HLN.out.1; rw [IntKind.wrap_i64]; omega
        have j3 : n ≤ sc1 := by omega
        have HN := Lib.hid hn
        clear hn
        have j4 : ((n : Nat) : Int) ≤ (sc1 : Int) := by omega
        go_upto_region 15 with fail
        refine wp_region_held_drew (S := TwoRd w1.heap.size (.slice da l.length dc) (.slice sa st.length sc1)) (by kernel_rfl) HRD.out (fun hS0 => ?_)
        generalize w5.drew = v5 at *
        refine wpAnyH_take (i := 0) (v := .agg #[.slice da l.length dc]) rfl (by kernel_rfl) (by kernel_rfl) (by kernel_rfl) (fun _ _ _ h => h) (Or.inl ⟨by rfl, fun z hz => ?_⟩) hS0 ?_
        · obtain ⟨z1, z2, z3⟩ := hz
          go_simp
        try simp only [qA, qB, Act.put, qD, qE, qF]
        refine wpAnyH_take (i := 1) (v := .pointer (some ⟨w1.heap.size + 1, 0, none⟩)) rfl (by kernel_rfl) (by kernel_rfl) (by kernel_rfl) (fun _ _ _ h => h) (Or.inl ⟨by rfl, fun z hz => ?_⟩) hS0 ?_
        · obtain ⟨z1, z2, z3⟩ := hz
          go_simp
        try simp only [qA, qB, qC, Act.put, qD, qE, qF]
        refine wpAnyH_take (i := 2) (v := .slice sa st.length sc1) rfl (by kernel_rfl) (by kernel_rfl) (by kernel_rfl) (fun _ _ _ h => h) (Or.inl ⟨by rfl, fun z hz => ?_⟩) hS0 ?_
        · obtain ⟨z1, z2, z3⟩ := hz
          go_simp
        try simp only [qA, qB, qC, Act.put, qD, qE, qF]
        refine wpAnyH_take (i := 3) (v := .pointer (some ⟨w1.heap.size + 1, 0, none⟩)) rfl (by kernel_rfl) (by kernel_rfl) (by kernel_rfl) (fun _ _ _ h => h) (Or.inl ⟨by rfl, fun z hz => ?_⟩) hS0 ?_
        · obtain ⟨z1, z2, z3⟩ := hz
          go_simp
        try simp only [qA, qB, qC, Act.put, qD, qE, qF]
        refine wpAnyH_take (i := 4) (v := .slice sa st.length sc1) rfl (by kernel_rfl) (by kernel_rfl) (by kernel_rfl) (fun _ _ _ h => h) (Or.inl ⟨by rfl, fun z hz => ?_⟩) hS0 ?_
        · obtain ⟨z1, z2, z3⟩ := hz
          go_simp
        try simp only [qA, qB, qC, Act.put, qD, qE, qF]
        refine wpAnyH_take (i := 5) (v := .int .i64 (st.length : Int)) rfl (by kernel_rfl) (by kernel_rfl) (by kernel_rfl) (fun _ _ _ h => h) (Or.inl ⟨by rfl, fun z hz => ?_⟩) hS0 ?_
        · obtain ⟨z1, z2, z3⟩ := hz
          go_simp
        try simp only [qA, qB, qC, Act.put, qD, qE, qF]
        refine wpAnyH_take (i := 6) (v := .int .i64 ((st.length : Int) - 1)) rfl (by kernel_rfl) (by kernel_rfl) (by kernel_rfl) (fun _ _ _ h => h) (Or.inl ⟨by rfl, fun z hz => ?_⟩) hS0 ?_
        · obtain ⟨z1, z2, z3⟩ := hz
          go_simp
        try simp only [qA, qB, qC, Act.put, qD, qE, qF]
        refine wpAnyH_take (i := 7) (v := .int .i64 (k : Int)) rfl (by kernel_rfl) (by kernel_rfl) (by kernel_rfl) (fun _ _ _ h => h) (Or.inl ⟨by rfl, fun z hz => ?_⟩) hS0 ?_
        · obtain ⟨z1, z2, z3⟩ := hz
          go_simp
        try simp only [qA, qB, qC, Act.put, qD, qE, qF]
        refine wpAnyH_take (i := 8) (v := .int .i64 (n : Int)) rfl (by kernel_rfl) (by kernel_rfl) (by kernel_rfl) (fun _ _ _ h => h) (Or.inl ⟨by rfl, fun z hz => ?_⟩) hS0 ?_
        · obtain ⟨z1, z2, z3⟩ := hz
          go_simp
        try simp only [qA, qB, qC, Act.put, qD, qE, qF]
        refine wpAnyH_take (i := 9) (v := .slice sa n sc1) rfl (by kernel_rfl) (by kernel_rfl) (by kernel_rfl) (fun _ _ _ h => h) (Or.inl ⟨by rfl, fun z hz => ?_⟩) hS0 ?_
        · obtain ⟨z1, z2, z3⟩ := hz
          go_simp
        try simp only [qA, qB, qC, Act.put, qD, qE, qF]
        refine wpAnyH_ready (rs := [10]) (by kernel_rfl) (by simp) ?_
        refine AllReadyH.cons rfl (fun K hK => ?_) AllReadyH.nil
        go_simp
        refine (impl_screenOf _ _ l (st.take n) _ HU5.out (HI5.out.take (by have := HN.out; omega)) HSM.out HE6.out).mono ?_
        rintro e w6 ⟨rfl, hb⟩
        rw [HSQ.out]
        have HB7 := Lib.hid (HB6.out.trans (hb.mono HB6.out.size))
        refine hK.out _ _ (hS0.below hb) (fun hS1 => ?_)
        clear hK K hb HB6 hS0 HU5 HI5
        try simp only []
        refine wpAnyH_take (i := 11) (v := .tuple #[.string (S s2), .bool true]) rfl (by kernel_rfl) (by kernel_rfl) (by kernel_rfl) (fun _ _ _ h => h) (Or.inl ⟨by rfl, fun z hz => ?_⟩) hS1 ?_
        · obtain ⟨z1, z2, z3⟩ := hz
          go_simp
        try simp only [qA, qB, qC, Act.put, qD, qE, qF]
        refine wpAnyH_take (i := 12) (v := .string (S s2)) rfl (by kernel_rfl) (by kernel_rfl) (by kernel_rfl) (fun _ _ _ h => h) (Or.inl ⟨by rfl, fun z hz => ?_⟩) hS1 ?_
        · obtain ⟨z1, z2, z3⟩ := hz
          go_simp
        try simp only [qA, qB, qC, Act.put, qD, qE, qF]
        refine wpAnyH_take (i := 13) (v := .bool true) rfl (by kernel_rfl) (by kernel_rfl) (by kernel_rfl) (fun _ _ _ h => h) (Or.inl ⟨by rfl, fun z hz => ?_⟩) hS1 ?_
        · obtain ⟨z1, z2, z3⟩ := hz
          go_simp
        try simp only [qA, qB, qC, Act.put, qD, qE, qF]
        refine wpAnyH_ready (rs := [14]) (by kernel_rfl) (by simp) ?_
        refine AllReadyH.cons rfl (fun K hK => ?_) AllReadyH.nil
        go_simp
        refine hK.out _ _ hS1 (fun hS1 => ?_)
        clear hK K
        try simp only [qA, qB, qC, Act.put, qD, qE, qF]
        refine wpAnyH_ready (rs := [15]) (by kernel_rfl) (by simp) ?_
        refine AllReadyH.cons rfl (fun K hK => ?_) AllReadyH.nil
        go_simp
        refine hK.out _ _ hS1 (fun hS1 => ?_)
        clear hK K
        try simp only [qA, qB, qC, Act.put, qD, qE, qF]
        refine wpAnyH_done (by kernel_rfl) ?_ _
        clear hS1
        go_wp2
        go_roundw
        case rel => exact ⟨k + 1, s2, by omega, by go_num, rfl, rfl, HK1.out, HB7.out⟩
        case measure => simp [intOf]; omega
      · have hkl : k = ud.length := by omega
        subst hkl
        have hs : s = [] := by
          have h1 := HNK.out
          rw [HUE.out, HUN.out] at h1
          injection h1 with h1
          injection h1 with _ h2
          exact h2.symm
        subst hs
        have HBZ := Lib.hid (HB_3.out.trans (HBK.out.mono HB_3.out.size))
        have HTZ := Lib.hid (T_3.out.below HBK.out)
        obtain ⟨c_T0, c_T1, _⟩ := HTZ.out
        have hue2 : (ud.length : Int) = (st.length : Int) := by omega
        go_wp2
        go_ret
        exact ⟨by simp [hue], HBZ.out⟩
  · have hn2 := of_decide_eq_true hbig
    go_wp2
    go_ret
    exact ⟨rfl, Below.refl _ _⟩
end Go.Proofs.YtmlklnimoknojaaGreatDoor
