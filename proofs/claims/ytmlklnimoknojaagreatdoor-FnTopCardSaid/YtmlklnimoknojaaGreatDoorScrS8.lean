/- Tools of the translators' laws: what a replay and an undoing read, plain facts of both. -/
import Derived.Test.YtmlklnimoknojaaGreatDoorScrI7
import Derived.Test.YtmlklnimoknojaaGreatDoorScrI8
import Derived.Test.YtmlklnimoknojaaGreatDoorPlainTop
import Derived.Test.YtmlklnimoknojaaGreatDoorScrI5
import Derived.Test.YtmlklnimoknojaaGreatDoorValD
import Derived.Test.YtmlklnimoknojaaGreatDoorTool3
namespace Go.Proofs.YtmlklnimoknojaaGreatDoor
namespace P
theorem dic_of_trans {d : Dic} {t : Tr} (h : trans d t = true) : dic d = true := by
  obtain ⟨h1, _⟩ := trans_parts h
  unfold scr at h1
  cases q : (dic d && slist t.1) with
  | false => rw [q] at h1; cases h1
  | true => simp only [Bool.and_eq_true] at q; exact q.1
theorem replay_true {d : Dic} {st : List Int} {es : List Edit} {t : Tr} (h : replay d st = ((es, t), true)) : dic d = true ∧ st.length ≤ 120 ∧ replayN d st st.length = some (es, t) := by
  unfold replay at h
  split at h
  · rename_i hc
    simp only [Bool.and_eq_true, decide_eq_true_eq] at hc
    split at h
    · simp at h
    · rename_i r hr
      injection h with h1 _
      exact ⟨hc.1, hc.2, by rw [hr, h1]⟩
  · simp at h
theorem replay_false {d : Dic} {st : List Int} {es : List Edit} {t : Tr} (h : replay d st = ((es, t), false)) : es = [] := by
  unfold replay at h
  split at h
  · split at h
    · injection h with h1 _
      injection h1 with h1 _
      exact h1.symm
    · injection h with _ h2
      cases h2
  · injection h with h1 _
    injection h1 with h1 _
    exact h1.symm
/-- all undone: what the undoing gives -/
theorem undo_whole {d : Dic} {t : Tr} (ht : trans d t = true) (hp : prefOk d t.1) : ∃ ud, undo d t = (ud, true) ∧ undoN d t t.1.length = some (ud, []) ∧ ud.length = t.1.length := by
  obtain ⟨es, h1, h2⟩ := undoN_all hp (trans_parts ht).2.1 t.1.length (Nat.le_refl _)
  rw [Nat.sub_self, List.take_zero] at h1
  have h3 : (scr d []).1 = [] := by rw [scr_nil (dic_of_trans ht)]
  rw [h3] at h1
  exact ⟨es, undo_all ht h1, h1, h2⟩
theorem apply_text {s : Bs} {e : Edit} (h : (applyE s e).2 = true) : e.2.length ≤ 2000 := by
  unfold applyE at h
  split at h
  · rename_i hc
    simp only [Bool.and_eq_true] at hc
    have h1 := hc.2.1
    unfold editOk at h1
    simp only [Bool.and_eq_true] at h1
    exact screen_len h1.2
  · cases h
theorem undo_false {d : Dic} {t : Tr} {es : List Edit} (h : undo d t = (es, false)) : es = [] := by
  unfold undo at h
  split at h
  · split at h
    · injection h with h1 _
      exact h1.symm
    · injection h with _ h2
      cases h2
  · injection h with h1 _
    exact h1.symm
theorem undo_true {d : Dic} {t : Tr} {es : List Edit} (h : undo d t = (es, true)) : trans d t = true ∧ undoN d t t.1.length = some (es, []) ∧ es.length = t.1.length := by
  unfold undo at h
  split at h
  · rename_i hc
    split at h
    · simp at h
    · rename_i r hr
      obtain ⟨e1, s1⟩ := r
      injection h with h1 _
      simp only at h1
      subst h1
      have hl := undoN_len hr
      have h3 : (scr d []).1 = [] := by rw [scr_nil (dic_of_trans hc)]
      have hs : s1 = [] := by
        cases hn : t.1.length with
        | zero =>
          rw [hn] at hr
          unfold undoN at hr
          injection hr with hr
          injection hr with _ h4
          rw [← h4, ← (trans_parts hc).2.1, List.length_eq_zero_iff.1 hn, h3]
        | succ n =>
          rw [hn] at hr
          obtain ⟨_, _, _, _, h5, _⟩ := undoN_step hr
          rw [h5, hn, show n + 1 - 1 - n = 0 by omega, List.take_zero, h3]
      subst hs
      exact ⟨hc, hr, hl⟩
  · simp at h
theorem undoL_len (d : Dic) (t : Tr) : (undo d t).1.length ≤ t.1.length := by
  unfold undo
  split
  · split
    · exact Nat.zero_le _
    · rename_i r h
      rw [undoN_len h]
      exact Nat.le_refl _
  · exact Nat.zero_le _
end P
open Go Go.RowKit
set_option maxHeartbeats 2000000
def RpRead (es : List P.Edit) (nx : List Int) (sc : Str) (ok : Bool) (w : World) (e : Ending) (w' : World) : Prop :=
  ∃ d c d2 c2, e = .returned (.tuple #[.slice d es.length c, .agg #[.slice d2 nx.length c2, .string (S sc)], .bool ok]) ∧ FldR w' (.slice d es.length c) es ∧ IntR w' (.slice d2 nx.length c2) nx ∧ Below w.heap.size w w'
theorem rp_read {r : (List P.Edit × P.Tr) × Bool} {es : List P.Edit} {nx : List Int} {sc : Str} {ok : Bool} (hr : r = ((es, (nx, sc)), ok)) (hl : es.length ≤ 2 ^ 30 ∧ nx.length ≤ 2 ^ 30) {w : World} (e : Ending) (w' : World) (h : ReplayPost r w e w') : RpRead es nx sc ok w e w' := by
  subst hr
  obtain ⟨u, us, he, ho, hk, hb⟩ := h
  simp only at ho hk
  obtain ⟨a, c, rfl⟩ := ownE_form ho
  obtain ⟨a2, c2, rfl⟩ := ownK_form hk
  exact ⟨a, c, a2, c2, he, ownE_read ho hl.1, ownK_read hk (by omega), hb⟩
def UnRead (es : List P.Edit) (ok : Bool) (w : World) (e : Ending) (w' : World) : Prop :=
  ∃ d c, e = .returned (.tuple #[.slice d es.length c, .bool ok]) ∧ FldR w' (.slice d es.length c) es ∧ Below w.heap.size w w'
theorem un_read {r : List P.Edit × Bool} {es : List P.Edit} {ok : Bool} (hr : r = (es, ok)) (hl : es.length ≤ 2 ^ 30) {w : World} (e : Ending) (w' : World) (h : UndoPost r w e w') : UnRead es ok w e w' := by
  subst hr
  obtain ⟨u, he, ho, hb⟩ := h
  simp only at ho
  obtain ⟨a, c, rfl⟩ := ownE_form ho
  exact ⟨a, c, he, ownE_read ho hl, hb⟩
/-- the box of the composed edit -/
def AllBx (b : Nat) (x : Int) (t : Str) (v : World) : Prop := b < v.heap.size ∧ v.cell? ⟨b, 0, none⟩ = some (.int .i64 x) ∧ v.cell? ⟨b, 1, none⟩ = some (.string (S t)) ∧ v.frozen? ⟨b, 0, none⟩ = false ∧ v.frozen? ⟨b, 1, none⟩ = false
theorem AllBx.below {b : Nat} {x : Int} {t : Str} {v v' : World} (h : AllBx b x t v) (hb : Below v.heap.size v v') : AllBx b x t v' := by
  obtain ⟨h1, h2, h3, h4, h5⟩ := h
  exact ⟨Nat.lt_of_lt_of_le h1 hb.size, (hb.cell (p := ⟨b, 0, none⟩) h1).trans h2, (hb.cell (p := ⟨b, 1, none⟩) h1).trans h3, (hb.frozen (p := ⟨b, 0, none⟩) h1).trans h4, (hb.frozen (p := ⟨b, 1, none⟩) h1).trans h5⟩
/-- what the composing reads -/
def AllRd (b g p : Nat) (x y : Int) (t r : Str) (v : World) : Prop := v.cell? ⟨b, 0, none⟩ = some (.int .i64 x) ∧ v.cell? ⟨b, 1, none⟩ = some (.string (S t)) ∧ v.cell? ⟨g, p, none⟩ = some (.int .i64 y) ∧ v.cell? ⟨g, p + 1, none⟩ = some (.string (S r)) ∧ b < v.heap.size ∧ g < v.heap.size
theorem AllRd.below {b g p : Nat} {x y : Int} {t r : Str} {v v' : World} (h : AllRd b g p x y t r v) (hb : Below v.heap.size v v') : AllRd b g p x y t r v' := by
  obtain ⟨h1, h2, h3, h4, h5, h6⟩ := h
  exact ⟨(hb.cell (p := ⟨b, 0, none⟩) h5).trans h1, (hb.cell (p := ⟨b, 1, none⟩) h5).trans h2, (hb.cell (p := ⟨g, p, none⟩) h6).trans h3, (hb.cell (p := ⟨g, p + 1, none⟩) h6).trans h4, Nat.lt_of_lt_of_le h5 hb.size, Nat.lt_of_lt_of_le h6 hb.size⟩
/-- two boxes' first cells -/
def TwoRd (a : Nat) (x y : Value) (v : World) : Prop := v.cell? ⟨a, 0, none⟩ = some x ∧ v.cell? ⟨a + 1, 0, none⟩ = some y ∧ a + 1 < v.heap.size
theorem TwoRd.below {a : Nat} {x y : Value} {v v' : World} (h : TwoRd a x y v) (hb : Below v.heap.size v v') : TwoRd a x y v' :=
  ⟨(hb.cell (p := ⟨a, 0, none⟩) (Nat.lt_of_succ_lt h.2.2)).trans h.1, (hb.cell (p := ⟨a + 1, 0, none⟩) h.2.2).trans h.2.1, Nat.lt_of_lt_of_le h.2.2 hb.size⟩
end Go.Proofs.YtmlklnimoknojaaGreatDoor

namespace Go.Proofs.YtmlklnimoknojaaGreatDoor
open Go Go.RowKit
set_option maxHeartbeats 2000000
set_option maxRecDepth 100000
theorem isScreen (s : Str) (w : World) (hs : s.length ≤ 2 ^ 40) :
    Calls Tryz.prog 57 #[.string (S s)] w fun e w' => e = .returned (.bool (P.screen s)) ∧ w = w' := by
  have HP := Lib.hid (show P.screen s = (decide ((s.length : Int) ≤ 2000) && s.all P.prn) from rfl)
  go_enter Tryz.func57, Tryz.ntmps57
  by_cases h : (s.length : Int) ≤ 2000
  · rw [decide_eq_true h, Bool.true_and] at HP
    go_wp2_with fail
    refine (isPrintable s _ hs).mono ?_
    rintro e w' ⟨rfl, rfl⟩
    generalize s.all P.prn = q at *
    go_wp2
    go_ret
    exact ⟨by rw [HP.out]; rfl, rfl⟩
  · rw [decide_eq_false h, Bool.false_and] at HP
    go_wp2
    go_ret
    exact ⟨by rw [HP.out]; rfl, rfl⟩
theorem isValidEdit (x : Int) (t : Str) (w : World) (hs : t.length ≤ 2 ^ 40) :
    Calls Tryz.prog 58 #[.agg #[.int .i64 x, .string (S t)]] w fun e w' => e = .returned (.bool (P.editOk (x, t))) ∧ Below w.heap.size w w' := by
  have HB := Lib.hid ((Below.refl w.heap.size w).alloc (Nat.le_refl _) (.cells #[.int .i64 x, .string (S t)] 38))
  have HP := Lib.hid (show P.editOk (x, t) = (decide (0 ≤ x ∧ x ≤ 2000) && P.screen t) from rfl)
  go_enter Tryz.func58, Tryz.ntmps58
  go_wp2_with fail
  refine (impl_in _ _ _ _).mono ?_
  rintro e w1 ⟨rfl, rfl⟩
  obtain ⟨q, hq⟩ : ∃ q, decide (0 ≤ x ∧ x ≤ 2000) = q := ⟨_, rfl⟩
  rw [hq] at HP ⊢
  clear hq
  cases q
  · go_wp2
    go_ret
    exact ⟨by rw [HP.out]; rfl, HB.out⟩
  · go_wp2_with fail
    refine (isScreen t _ hs).mono ?_
    rintro e w2 ⟨rfl, rfl⟩
    rw [Bool.true_and] at HP
    generalize P.screen t = q at *
    go_wp2
    go_ret
    exact ⟨by rw [HP.out]; rfl, HB.out⟩
theorem applyEdit (s : Str) (x : Int) (t : Str) (w : World) (hs : s.length ≤ 2 ^ 30) (ht : t.length ≤ 2 ^ 30) :
    Calls Tryz.prog 16 #[.string (S s), .agg #[.int .i64 x, .string (S t)]] w (RenPost (P.applyE s (x, t)) w) := by
  have hb0 := (Below.refl w.heap.size w).alloc (Nat.le_refl _) (.cells #[.int .i64 x, .string (S t)] 38)
  have HB := Lib.hid hb0
  have HX := Lib.hid (show w.heap.size < (w.alloc (.cells #[.int .i64 x, .string (S t)] 38)).heap.size ∧ (w.alloc (.cells #[.int .i64 x, .string (S t)] 38)).cell? ⟨w.heap.size, 0, none⟩ = some (.int .i64 x) ∧ (w.alloc (.cells #[.int .i64 x, .string (S t)] 38)).cell? ⟨w.heap.size, 1, none⟩ = some (.string (S t)) from ⟨by simp, by go_simp, by go_simp⟩)
  clear hb0
  go_enter Tryz.func16, Tryz.ntmps16
  go_wp2_with fail
  generalize (World.alloc _ _) = W at *
  refine (isScreen s _ (by omega)).mono ?_
  rintro e w1 ⟨rfl, rfl⟩
  have HP := Lib.hid (show P.applyE s (x, t) = (if P.screen s && (P.editOk (x, t) && decide (x ≤ (s.length : Int))) then (if 2000 < (s.take (s.length - x.toNat) ++ t).length then ([], false) else (s.take (s.length - x.toNat) ++ t, true)) else ([], false)) from rfl)
  generalize P.screen s = q at *
  obtain ⟨_, k0, k1⟩ := HX.out
  cases q
  · go_wp2
    go_ret2
    exact ⟨by rw [HP.out]; rfl, HB.out⟩
  · go_wp2_with fail
    refine (isValidEdit x t _ (by omega)).mono ?_
    rintro e w2 ⟨rfl, hb⟩
    have HB2 := Lib.hid (HB.out.trans (hb.mono HB.out.size))
    have h0 := hb.cell (p := ⟨w.heap.size, 0, none⟩) HX.out.1
    have h1 := hb.cell (p := ⟨w.heap.size, 1, none⟩) HX.out.1
    rw [k0] at h0; rw [k1] at h1
    have HE := Lib.hid (show P.editOk (x, t) = true → 0 ≤ x ∧ x ≤ 2000 from fun h => by unfold P.editOk at h; simp only [Bool.and_eq_true, decide_eq_true_eq] at h; exact h.1)
    generalize P.editOk (x, t) = q at *
    clear hb k0 k1 HX HB
    cases q
    · go_wp2
      go_ret2
      exact ⟨by rw [HP.out]; rfl, HB2.out⟩
    · obtain ⟨x0, _⟩ := HE.out rfl
      obtain ⟨n, rfl⟩ := Int.eq_ofNat_of_zero_le x0
      by_cases hx : n ≤ s.length
      · have i1 : ¬ (s.length : Int) < (n : Int) := by omega
        obtain ⟨m, hm⟩ : ∃ m, m + n = s.length := ⟨s.length - n, by omega⟩
        have i2 : (s.length : Int) - (n : Int) = (m : Int) := by omega
        have i3 : m ≤ s.length := by omega
        have hlen : (s.take m).length = m := by rw [List.length_take]; omega
        have HV := Lib.hid (show s.take (s.length - (n : Int).toNat) = s.take m by congr 1; omega)
        rw [HV.out] at HP
        have HD := Lib.hid (show decide ((n : Int) ≤ (s.length : Int)) = true from decide_eq_true (by omega))
        have i4 : ((s.take m ++ t).length : Int) = (m : Int) + (t.length : Int) := by rw [List.length_append, hlen]; omega
        by_cases h2 : 2000 < (s.take m ++ t).length
        · have i5 : (2000 : Int) < (m : Int) + (t.length : Int) := by omega
          go_wp2_with fail
          go_quiet (fail)
          go_wp2
          go_ret2
          exact ⟨by rw [HP.out, if_pos h2, HD.out]; rfl, by first | exact HB2.out | exact below_drewN HB2.out _⟩
        · have i5 : ¬ (2000 : Int) < (m : Int) + (t.length : Int) := by omega
          go_wp2_with fail
          go_quiet (fail)
          go_wp2
          go_ret2
          exact ⟨by rw [HP.out, if_neg h2, HD.out]; rfl, by first | exact HB2.out | exact below_drewN HB2.out _⟩
      · have i1 : (s.length : Int) < (n : Int) := by omega
        go_wp2
        go_ret2
        exact ⟨by rw [HP.out, decide_eq_false (by omega)]; rfl, HB2.out⟩
end Go.Proofs.YtmlklnimoknojaaGreatDoor

namespace Go.Proofs.YtmlklnimoknojaaGreatDoor
open Go Go.RowKit
set_option maxHeartbeats 4000000
set_option maxRecDepth 100000
/-- the cells that the reference's undoing reads -/
def RdU (a : Nat) (dv sv : Value) (v : World) : Prop := v.cell? ⟨a, 0, none⟩ = some dv ∧ v.cell? ⟨a + 1, 0, none⟩ = some sv
theorem RdU.step {a : Nat} {dv sv : Value} {v v' : World} {B : Nat} (h : RdU a dv sv v) (hb : Below B v v') (hB : a + 1 < B) : RdU a dv sv v' :=
  ⟨(hb.cell (p := ⟨a, 0, none⟩) (by show a < B; omega)).trans h.1, (hb.cell (p := ⟨a + 1, 0, none⟩) hB).trans h.2⟩
theorem spec_undoAll (dv sv : Value) (l : P.Dic) (st : List Int) (t : Str) (w : World) (hu : EntR w dv l) (hs : IntR w sv st) (hm : Small l) :
    Calls Tryz.prog 36 #[.agg #[dv], transV sv t] w (UndoPost (P.undo l (st, t)) w) := by
  obtain ⟨i0, hi, hy0, hy1, hy2⟩ := info_parts info_edit
  have HU := Lib.hid hu; have HST := Lib.hid hs
  obtain ⟨ad, cap, rfl, _, _⟩ := hu
  obtain ⟨sd, sc, rfl, hsl, _⟩ := hs
  have HB0 := Lib.hid (show Below w.heap.size w (((w.alloc (.cells #[.slice ad l.length cap] 26)).alloc (.cells #[.slice sd st.length sc, .string (S t)] 32)).alloc (.cells #[] 38)) from (((Below.refl w.heap.size w).alloc (Nat.le_refl _) _).alloc (by simp) _).alloc (by simp; omega) _)
  have HR0 := Lib.hid (show RdU w.heap.size (.slice ad l.length cap) (.slice sd st.length sc) (((w.alloc (.cells #[.slice ad l.length cap] 26)).alloc (.cells #[.slice sd st.length sc, .string (S t)] 32)).alloc (.cells #[] 38)) from ⟨by go_simp, by go_simp⟩)
  have HX0 := Lib.hid (show (((w.alloc (.cells #[.slice ad l.length cap] 26)).alloc (.cells #[.slice sd st.length sc, .string (S t)] 32)).alloc (.cells #[] 38)).cell? ⟨w.heap.size + 1, 1, none⟩ = some (.string (S t)) by go_simp)
  have HOW0 := Lib.hid (show OwnE (w.heap.size + 1 + 1) (((w.alloc (.cells #[.slice ad l.length cap] 26)).alloc (.cells #[.slice sd st.length sc, .string (S t)] 32)).alloc (.cells #[] 38)) (.slice (some ⟨w.heap.size + 1 + 1, 0, none⟩) 0 0) [] by
    have h1 := ownE_nil ((w.alloc (.cells #[.slice ad l.length cap] 26)).alloc (.cells #[.slice sd st.length sc, .string (S t)] 32))
    simpa using h1)
  have hz0 : (((w.alloc (.cells #[.slice ad l.length cap] 26)).alloc (.cells #[.slice sd st.length sc, .string (S t)] 32)).alloc (.cells #[] 38)).heap.size = w.heap.size + 3 := by simp
  unfold transV
  go_enter Tryz.func36, Tryz.ntmps36
  obtain ⟨k0, k1⟩ := HR0.out
  have k2 := HX0.out
  go_upto_region 2 with (fail)
  generalize (((w.alloc (.cells #[.slice ad l.length cap] 26)).alloc (.cells #[.slice sd st.length sc, .string (S t)] 32)).alloc (.cells #[] 38)) = W0 at *
  go_wp2_with fail
  refine (l14Good _ _ l st t _ (HU.out.below HB0.out) (HST.out.below HB0.out) hm).mono ?_
  rintro e w1 ⟨rfl, hb⟩
  have hz1 : w.heap.size + 3 ≤ w1.heap.size := by have h1 := hb.size; omega
  have HB1 := Lib.hid (HB0.out.trans (hb.mono HB0.out.size))
  have HR1 := Lib.hid (HR0.out.step hb (by omega))
  have HX1 := Lib.hid ((hb.cell (p := ⟨w.heap.size + 1, 1, none⟩) (by show w.heap.size + 1 < _; omega)).trans HX0.out)
  have HOW1 := Lib.hid (own_kept HOW0.out hb (Nat.le_refl _))
  clear hb k0 k1 k2 HB0 HR0 HX0 HOW0
  cases hd : P.trans l (st, t)
  · have HP := Lib.hid (P.undo_no hd)
    clear hd
    go_wp2
    refine bodyPost_ret (v := .tuple #[.slice (some ⟨w.heap.size + 1 + 1, 0, none⟩) 0 0, .bool false]) (by simp [results, Tryz.results36, go_sem]) rfl ⟨_, by rw [HP.out], by rw [HP.out]; exact own_base HOW1.out (by omega), HB1.out⟩
  · have HD := Lib.hid hd
    have hlen := P.trans_len hd
    simp only at hlen
    obtain ⟨hl60, hl2⟩ := hlen
    have HSC := Lib.hid (P.trans_screen hd)
    obtain ⟨hdic, hslist⟩ : P.dic l = true ∧ P.slist st = true := by
      obtain ⟨h1, _⟩ := P.trans_parts hd
      unfold P.scr at h1
      cases q : (P.dic l && P.slist st)
      · simp only at h1; rw [q] at h1; exact absurd h1 (by simp)
      · simpa using q
    have HDI := Lib.hid hdic; have HSI := Lib.hid hslist
    clear hd hdic hslist
    obtain ⟨k0, k1⟩ := HR1.out
    have k2 := HX1.out
    have hw1 : IntKind.i64.wrap ((st.length : Int) - 1) = (st.length : Int) - 1 := IntWalk.i64_in _ (by omega)
    go_wp2
    clear k0 k1 k2
    go_loopw [6, 7, 8] (fun u x i wr => ∃ (j : Nat) (es : List P.Edit) (s : Str), j ≤ st.length ∧ i = .int .i64 ((st.length : Int) - 1 - j) ∧ x = .string (S s) ∧ P.undoN l (st, t) j = some (es, s) ∧ OwnE (w.heap.size + 1 + 1) wr u es ∧ Below w.heap.size w wr ∧ RdU w.heap.size (.slice ad l.length cap) (.slice sd st.length sc) wr ∧ w.heap.size + 3 ≤ wr.heap.size) (fun _ _ i _ => (intOf i + 1).toNat)
    case atStart => exact ⟨0, [], t, Nat.zero_le _, by simp, rfl, rfl, HOW1.out, HB1.out, HR1.out, hz1⟩
    case round =>
      obtain ⟨j, es, s, hj, rfl, rfl, hN, how, hbl, hrd, hzr⟩ := hrel
      have HN := Lib.hid hN; have HOW := Lib.hid how; have HBW := Lib.hid hbl; have HRD := Lib.hid hrd
      have HJ := Lib.hid (P.undoN_len hN)
      have hsl2 := P.screen_len (P.undoN_screen HSC.out hN)
      obtain ⟨ua, uc, rfl⟩ := ownE_form how
      clear hN how hbl hrd HOW1 HB1 HR1 HX1
      by_cases hlt : j < st.length
      · have HN1 := Lib.hid (P.undoN_succ HN.out)
        simp only at HN1
        obtain ⟨m, hmm⟩ : ∃ m, st.length - 1 - j = m := ⟨_, rfl⟩
        have hmi : (st.length : Int) - 1 - j = (m : Int) := by omega
        have hml : m ≤ st.length := by omega
        have hcap := (HST.out).cap
        have HIT := Lib.hid ((HST.out.below (HBW.out.trans ((Below.refl wr.heap.size wr).drew.mono HBW.out.size))).take hml)
        have HSE := Lib.hid (P.scr_renderS HDI.out (P.slist_take HSI.out m))
        rw [hmm] at HN1
        have hi0 : (0 : Int) ≤ (m : Int) := by omega
        have HS := Lib.hid (show RdU w.heap.size (.slice ad l.length cap) (.slice sd st.length sc) wr.drew from HRD.out.step (Below.refl wr.heap.size wr).drew (by omega))
        have HBD := Lib.hid (HBW.out.trans ((Below.refl wr.heap.size wr).drew.mono HBW.out.size)); have HOD := Lib.hid (own_kept HOW.out (Below.refl wr.heap.size wr).drew (Nat.le_refl _))
        have hzd : w.heap.size + 3 ≤ wr.drew.heap.size := hzr
        have HSN := Lib.hid (P.scr_no (d := l) (st := st.take m))
        have hsl3 := P.scr_len l (st.take m)
        rw [hmi]
        go_upto_region 8 with fail
        refine wp_region_held_drew (S := RdU w.heap.size (.slice ad l.length cap) (.slice sd st.length sc)) (by kernel_rfl) HS.out (fun hS0 => ?_)
        generalize wr.drew = v0 at *
        refine wpAnyH_take (i := 0) (v := .agg #[.slice ad l.length cap]) rfl (by kernel_rfl) (by kernel_rfl) (by kernel_rfl) (fun _ _ _ h => h) (Or.inl ⟨by rfl, fun z hz => ?_⟩) hS0 ?_
        · obtain ⟨z1, z2⟩ := hz
          go_simp
        try simp only [qA, qB, Act.put, qD, qE, qF]
        refine wpAnyH_take (i := 1) (v := .pointer (some ⟨w.heap.size + 1, 0, none⟩)) rfl (by kernel_rfl) (by kernel_rfl) (by kernel_rfl) (fun _ _ _ h => h) (Or.inl ⟨by rfl, fun z hz => ?_⟩) hS0 ?_
        · obtain ⟨z1, z2⟩ := hz
          go_simp
        try simp only [qA, qB, qC, Act.put, qD, qE, qF]
        refine wpAnyH_take (i := 2) (v := .slice sd st.length sc) rfl (by kernel_rfl) (by kernel_rfl) (by kernel_rfl) (fun _ _ _ h => h) (Or.inl ⟨by rfl, fun z hz => ?_⟩) hS0 ?_
        · obtain ⟨z1, z2⟩ := hz
          go_simp
        try simp only [qA, qB, qC, Act.put, qD, qE, qF]
        refine wpAnyH_take (i := 3) (v := .int .i64 m) rfl (by kernel_rfl) (by kernel_rfl) (by kernel_rfl) (fun _ _ _ h => h) (Or.inl ⟨by rfl, fun z hz => ?_⟩) hS0 ?_
        · obtain ⟨z1, z2⟩ := hz
          go_simp
        try simp only [qA, qB, qC, Act.put, qD, qE, qF]
        have i5 : (m : Int) ≤ (sc : Int) := by omega
        have i6 : m ≤ sc := by omega
        refine wpAnyH_take (i := 4) (v := .slice sd m sc) rfl (by kernel_rfl) (by kernel_rfl) (by kernel_rfl) (fun _ _ _ h => h) (Or.inl ⟨by rfl, fun z hz => ?_⟩) hS0 ?_
        · obtain ⟨z1, z2⟩ := hz
          go_simp
        try simp only [qA, qB, qC, Act.put, qD, qE, qF]
        refine wpAnyH_ready (rs := [5]) (by kernel_rfl) (by simp) ?_
        refine AllReadyH.cons rfl (fun K hK => ?_) AllReadyH.nil
        go_simp
        refine (l14Screen _ _ l (st.take m) _ (HU.out.below HBD.out) HIT.out HDI.out (P.slist_take HSI.out m)).mono ?_
        rintro e w3 ⟨rfl, hb⟩
        have HB3 := Lib.hid (HBD.out.trans (hb.mono HBD.out.size)); have HO3 := Lib.hid (own_kept HOD.out hb (Nat.le_refl _))
        have hz3 : w.heap.size + 3 ≤ w3.heap.size := by have := hb.size; omega
        have HR3 := Lib.hid (hS0.step hb (by omega))
        refine hK.out _ _ HR3.out (fun hS1 => ?_)
        clear hK K hb hS0 HIT HS HBD HOD
        try simp only [qA, qB, qC, Act.put, qD, qE, qF]
        generalize P.renderS (P.atomsOf (st.take m) (P.segA l (st.take m))) = q at *
        obtain ⟨q1, q2⟩ := q
        refine wpAnyH_take (i := 6) (v := .tuple #[.string (S q1), .bool q2]) rfl (by kernel_rfl) (by kernel_rfl) (by kernel_rfl) (fun _ _ _ h => h) (Or.inl ⟨by rfl, fun z hz => ?_⟩) hS1 ?_
        · obtain ⟨z1, z2⟩ := hz
          go_simp
        try simp only [qA, qB, qC, Act.put, qD, qE, qF]
        refine wpAnyH_take (i := 7) (v := .string (S q1)) rfl (by kernel_rfl) (by kernel_rfl) (by kernel_rfl) (fun _ _ _ h => h) (Or.inl ⟨by rfl, fun z hz => ?_⟩) hS1 ?_
        · obtain ⟨z1, z2⟩ := hz
          go_simp
        try simp only [qA, qB, qC, Act.put, qD, qE, qF]
        refine wpAnyH_take (i := 8) (v := .bool q2) rfl (by kernel_rfl) (by kernel_rfl) (by kernel_rfl) (fun _ _ _ h => h) (Or.inl ⟨by rfl, fun z hz => ?_⟩) hS1 ?_
        · obtain ⟨z1, z2⟩ := hz
          go_simp
        try simp only [qA, qB, qC, Act.put, qD, qE, qF]
        refine wpAnyH_take (i := 9) (v := .string (S q1)) rfl (by kernel_rfl) (by kernel_rfl) (by kernel_rfl) (fun _ _ _ h => h) (Or.inl ⟨by rfl, fun z hz => ?_⟩) hS1 ?_
        · obtain ⟨z1, z2⟩ := hz
          go_simp
        try simp only [qA, qB, qC, Act.put, qD, qE, qF]
        refine wpAnyH_take (i := 10) (v := .bool q2) rfl (by kernel_rfl) (by kernel_rfl) (by kernel_rfl) (fun _ _ _ h => h) (Or.inl ⟨by rfl, fun z hz => ?_⟩) hS1 ?_
        · obtain ⟨z1, z2⟩ := hz
          go_simp
        try simp only [qA, qB, qC, Act.put, qD, qE, qF]
        refine wpAnyH_done (by kernel_rfl) ?_ _
        clear hS1
        generalize P.scr l (st.take m) = cr at *
        obtain ⟨scr, ok⟩ := cr
        have hqe := HSE.out.1
        simp only at hqe HN1 HSN hsl3
        subst hqe
        cases q2
        · have HP := Lib.hid (P.undo_bad (t := (st, t)) (j := j + 1) (by rw [HN1.out]; rfl) (by show j + 1 ≤ st.length; omega))
          have HOE := Lib.hid (show OwnE w.heap.size (w3.alloc (.cells #[] 38)) (.slice (some ⟨w3.heap.size, 0, none⟩) 0 0) [] from own_base (ownE_nil w3) (by omega))
          go_wp2
          refine bodyPost_ret (v := .tuple #[.slice (some ⟨w3.heap.size, 0, none⟩) 0 0, .bool false]) (by simp [results, Tryz.results36, go_sem]) rfl ⟨_, by rw [HP.out], by rw [HP.out]; exact HOE.out, ?_⟩
          exact HB3.out.alloc (by omega) _
        · have hq1 : q1 = scr := HSE.out.2 rfl
          subst hq1
          go_wp2_with fail
          refine (l13Least s q1 _ (by omega) (by omega)).mono ?_
          rintro e w4 ⟨rfl, hb⟩
          have HB4 := Lib.hid (HB3.out.trans (hb.mono HB3.out.size)); have HO4 := Lib.hid (own_kept HO3.out hb (Nat.le_refl _)); have HR4 := Lib.hid (HR3.out.step hb (by omega))
          have hz4 : w.heap.size + 3 ≤ w4.heap.size := by have := hb.size; omega
          clear hb
          obtain ⟨en, et, hle⟩ : ∃ en et, P.least s q1 = (en, et) := ⟨_, _, rfl⟩
          have HN2 := Lib.hid (show P.undoN l (st, t) (j + 1) = some (es ++ [(en, et)], q1) by rw [HN1.out, ← hle]; rfl)
          rw [hle]
          simp only
          clear hle
          have hba := (Below.refl w4.heap.size w4).alloc (Nat.le_refl _) (.cells #[.int .i64 en, .string (S et)] 38)
          have HBA := Lib.hid hba
          have HRA := Lib.hid (own_kept HO4.out hba (Nat.le_refl _))
          have hza : (w.heap.size + 1 + 1) ≤ (w4.alloc (.cells #[.int .i64 en, .string (S et)] 38)).heap.size := by simp; omega
          have hna0 : (w4.alloc (.cells #[.int .i64 en, .string (S et)] 38)).cell? ⟨w4.heap.size, 0, none⟩ = some (.int .i64 en) := by go_simp
          have hna1 : (w4.alloc (.cells #[.int .i64 en, .string (S et)] 38)).cell? ⟨w4.heap.size, 1, none⟩ = some (.string (S et)) := by go_simp
          clear hba
          go_wp2_with (at_builtin; refine wpList_append_lies _ rfl _ _ 30 rfl (w.heap.size + 1 + 1) 38 i0 (.agg #[.int .i64 0, .string ⟨#[]⟩]) 2 24 Tryz.underlying30 hi hy0 hy1 hy2 rfl (by decide) (.slice ua es.length uc) es.length (atomVals es) rfl HRA.out ⟨w4.heap.size, 0, none⟩ 1 1 [.int .i64 en, .string (S et)] rfl rfl ?_ ?_ (by decide) (by have := HJ.out; unfold maxLen; omega) (by have := HJ.out; omega) hza _ rfl ?_)
          · intro k y hy
            match k, hy with
            | 0, hy => injection hy with hy; subst hy; rw [add0]; exact hna0
            | 1, hy => injection hy with hy; subst hy; exact hna1
          · intro y hy
            simp only [List.mem_cons, List.not_mem_nil, or_false] at hy
            rcases hy with rfl | rfl <;> rfl
          intro g3 cap3 z hown hgr hat hlt3
          have hcz := chg_grown hgr
          have hlo : ∀ k, (Value.slice ua es.length uc).ownBlock = some k → (w.heap.size + 1 + 1) ≤ k := fun k hk => (World.ownsRow.lt HO4.out k hk).1
          have HBZ := Lib.hid (Chg.belowB (HB4.out.trans (HBA.out.mono HB4.out.size)) hcz (by first | omega | (simp; done) | (simp; omega)) (fun k hk => by have := hlo k hk; omega))
          have HRZ := Lib.hid ((HR4.out.step (HBA.out) (by omega)).step (B := (w.heap.size + 1 + 1)) (hcz.below hza hlo) (by omega))
          have HOZ := Lib.hid (show OwnE (w.heap.size + 1 + 1) z (.slice (some ⟨g3, 0, none⟩) (es.length + 1) cap3) (es ++ [(en, et)]) by unfold OwnE; rw [atomVals_snoc, List.length_append]; exact hown)
          have hzz : w.heap.size + 3 ≤ z.heap.size := by have h1 := hgr.size; simp at h1; omega
          have hwm : IntKind.i64.wrap ((m : Int) - 1) = (m : Int) - 1 := IntWalk.i64_in _ (by omega)
          clear hown hgr hat hcz hna0 hna1 hza hlo
          go_wp2
          go_roundw
          case rel => exact ⟨j + 1, es ++ [(en, et)], q1, by omega, by go_num, rfl, HN2.out, HOZ.out, HBZ.out, HRZ.out, hzz⟩
          case measure => simp [intOf] <;> omega
      · have hjl : j = st.length := by omega
        subst hjl
        have HP := Lib.hid (P.undo_all (t := (st, t)) HD.out HN.out)
        have HROW := Lib.hid (own_base HOW.out (show w.heap.size ≤ (w.heap.size + 1 + 1) by omega))
        have hneg : ¬ (0 : Int) ≤ (st.length : Int) - 1 - st.length := by omega
        clear HOW HN
        go_wp2
        refine bodyPost_ret (v := .tuple #[.slice ua es.length uc, .bool true]) (by simp [results, Tryz.results36, go_sem]) rfl ⟨.slice ua es.length uc, by rw [HP.out], by rw [HP.out]; exact HROW.out, HBW.out⟩
end Go.Proofs.YtmlklnimoknojaaGreatDoor
