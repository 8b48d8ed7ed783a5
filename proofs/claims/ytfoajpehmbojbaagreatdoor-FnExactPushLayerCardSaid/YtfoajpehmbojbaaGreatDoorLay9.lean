/- Walks: a layer laid on top (program). -/
import Derived.Deep.DeepCutAuto
import Derived.Test.YtfoajpehmbojbaaGreatDoorLay8
namespace Go.Proofs.YtfoajpehmbojbaaGreatDoor
namespace P
/-- a dictionary may be laid on top -/
def pushOk (d : Dic) (l : Lays) : Bool := stack l && (dic d && !decide ((l.length : Int) = 4))
def push (d : Dic) (l : Lays) : Lays := (d, true) :: l
end P
open Go Go.RowKit
set_option maxHeartbeats 4000000
set_option maxRecDepth 100000
theorem flat_in {C : Nat → List Value} {y : Value} : ∀ (n : Nat), y ∈ flat C n → ∃ j, j < n ∧ y ∈ C j
  | 0, h => by cases h
  | n + 1, h => by
    rcases List.mem_append.1 h with h | h
    · obtain ⟨j, hj, hy⟩ := flat_in n h; exact ⟨j, by omega, hy⟩
    · exact ⟨n, by omega, h⟩
theorem addr_add (g o j : Nat) : (⟨g, o, none⟩ : Addr).add j = ⟨g, o + j, none⟩ := by unfold Addr.add; split <;> simp_all
/-- the cells of a row of layers, to be appended -/
theorem LayR.src {v : World} {u : Value} {l : P.Lays} (h : LayR v u l) : ∃ C : Nat → List Value, SrcIs v 2 u l.length (flat C l.length) ∧ ∀ j (hj : j < l.length), ∃ x, C j = [x, .bool (l[j]'hj).2] ∧ EntR v x (l[j]'hj).1 := by
  obtain ⟨ad, cap, rfl, h1, hn, h3⟩ := h
  rcases h3 with rfl | ⟨g, o, rfl, hg, hc⟩
  · refine ⟨fun _ => [], ⟨rfl, (fun x hx => by cases hx), ?_⟩, fun j hj => absurd hj (Nat.not_lt_zero _)⟩
    cases ad with
    | none => exact .inl ⟨by rw [hn rfl]; rfl, rfl⟩
    | some a => exact .inr ⟨a, cap, rfl, fun j x hx => by simp [flat] at hx⟩
  · have key : ∀ j, ∃ x, ∀ hj : j < l.length, v.cell? ⟨g, o + j * 2, none⟩ = some x ∧ v.cell? ⟨g, o + j * 2 + 1, none⟩ = some (.bool (l[j]'hj).2) ∧ EntR v x (l[j]'hj).1 := by
      intro j
      by_cases hj : j < l.length
      · obtain ⟨x, a, b, c⟩ := hc j hj
        exact ⟨x, fun _ => ⟨a, b, c⟩⟩
      · exact ⟨.int .i64 0, fun h => absurd h hj⟩
    obtain ⟨f, hf⟩ := Classical.axiomOfChoice key
    have hC : ∀ j (hj : j < l.length), (fun j => if hj : j < l.length then [f j, Value.bool (l[j]'hj).2] else []) j = [f j, Value.bool (l[j]'hj).2] := fun j hj => dif_pos hj
    have hw : ∀ j, j < l.length → ((fun j => if hj : j < l.length then [f j, Value.bool (l[j]'hj).2] else []) j).length = 2 := fun j hj => by rw [hC j hj]; rfl
    refine ⟨_, ⟨flat_len hw, ?_, .inr ⟨_, cap, rfl, fun j x hx => ?_⟩⟩, fun j hj => ⟨f j, hC j hj, (hf j hj).2.2⟩⟩
    · intro x hx
      obtain ⟨j, hj, hm⟩ := flat_in _ hx
      rw [dif_pos hj] at hm
      simp only [List.mem_cons, List.not_mem_nil, or_false] at hm
      rcases hm with rfl | rfl
      · obtain ⟨_, _, he, _⟩ := (hf j hj).2.2; rw [he]; rfl
      · rfl
    · have hlt : j < (flat (fun j => if hj : j < l.length then [f j, Value.bool (l[j]'hj).2] else []) l.length).length := by
        obtain ⟨h, _⟩ := List.getElem?_eq_some_iff.1 hx; exact h
      rw [flat_len hw] at hlt
      have hq : j / 2 < l.length := by omega
      rw [addr_add]
      rcases Nat.mod_two_eq_zero_or_one j with hm | hm
      · have e := flat_get hw (j / 2) 0 hq (by rw [hw _ hq]; decide)
        rw [show j / 2 * 2 + 0 = j by omega, hx] at e
        simp only [hC _ hq, List.getElem_cons_zero, Option.some.injEq] at e
        rw [e, show o + j = o + j / 2 * 2 by omega]
        exact (hf _ hq).1
      · have e := flat_get hw (j / 2) 1 hq (by rw [hw _ hq]; decide)
        rw [show j / 2 * 2 + 1 = j by omega, hx] at e
        simp only [hC _ hq, List.getElem_cons_zero, List.getElem_cons_succ, Option.some.injEq] at e
        rw [e, show o + j = o + j / 2 * 2 + 1 by omega]
        exact (hf _ hq).2.1
theorem SrcIs.below {w w' : World} {n m : Nat} {u : Value} {news : List Value} (h : SrcIs w n u m news) (hb : Below w.heap.size w w') : SrcIs w' n u m news := by
  obtain ⟨h1, h2, h3⟩ := h
  refine ⟨h1, h2, h3.imp id ?_⟩
  rintro ⟨ad, c, rfl, hc⟩
  exact ⟨ad, c, rfl, fun j x hx => (hb.cell (World.block_lt_of_cell? _ _ (hc j x hx))).trans (hc j x hx)⟩
/-- a row with a new head, as it is read -/
theorem layR_push {B : Nat} {v : World} {u ev : Value} {d : P.Dic} {t : Bool} {l : P.Lays} {C : Nat → List Value} (hown : v.ownsRow B 84 2 u (1 + l.length) ([ev, .bool t] ++ flat C l.length)) (he : EntR v ev d)
    (hC : ∀ j (hj : j < l.length), ∃ x, C j = [x, .bool (l[j]'hj).2] ∧ EntR v x (l[j]'hj).1) (hl : l.length ≤ 2 ^ 20) : LayR v u ((d, t) :: l) := by
  obtain ⟨g, cap, cur, rfl, _⟩ := hown.2.resolve_left (by omega)
  have hlt := (World.ownsRow.lt hown g rfl).2
  have hw : ∀ j, j < l.length → (C j).length = 2 := fun j hj => by obtain ⟨x, h, _⟩ := hC j hj; rw [h]; rfl
  refine ⟨_, cap, by rw [List.length_cons, Nat.add_comm], by simp; omega, (fun h => by cases h), .inr ⟨g, 0, rfl, hlt, fun j hj => ?_⟩⟩
  cases j with
  | zero =>
    have a := World.ownsRow.cellAt hown 0 (by omega)
    have b := World.ownsRow.cellAt hown 1 (by omega)
    exact ⟨ev, by simpa using a, by simpa using b, he⟩
  | succ j =>
    have hj' : j < l.length := by simpa using hj
    obtain ⟨x, hx, hr⟩ := hC j hj'
    have a := World.ownsRow.cellAt hown ((j + 1) * 2) (by omega)
    have b := World.ownsRow.cellAt hown ((j + 1) * 2 + 1) (by omega)
    have e0 := flat_get hw j 0 hj' (by rw [hw _ hj']; decide)
    have e1 := flat_get hw j 1 hj' (by rw [hw _ hj']; decide)
    simp only [hx, List.getElem_cons_zero, List.getElem_cons_succ] at e0 e1
    rw [List.getElem?_append_right (by simp; omega)] at a b
    rw [show (j + 1) * 2 - [ev, Value.bool t].length = j * 2 + 0 by simp; omega, e0] at a
    rw [show (j + 1) * 2 + 1 - [ev, Value.bool t].length = j * 2 + 1 by simp; omega, e1] at b
    refine ⟨x, ?_, ?_, ?_⟩
    · rw [Nat.zero_add]; exact a
    · rw [Nat.zero_add]; simpa using b
    · simpa using hr
/-- the boxes of PushLayer -/
def PkBox (W : Nat) (dv ov : Value) (v : World) : Prop :=
  v.cell? ⟨W, 0, none⟩ = some dv ∧ v.cell? ⟨W + 1, 0, none⟩ = some ov ∧ v.cell? ⟨W + 2, 0, none⟩ = some (.slice none 0 0) ∧ v.frozen? ⟨W + 2, 0, none⟩ = false ∧ W + 2 < v.heap.size
theorem PkBox.below {W : Nat} {dv ov : Value} {v v' : World} (h : PkBox W dv ov v) (hb : Below v.heap.size v v') : PkBox W dv ov v' := by
  obtain ⟨a, b, c, d, e⟩ := h
  exact ⟨(hb.cell (p := ⟨W, 0, none⟩) (by show W < _; omega)).trans a, (hb.cell (p := ⟨W + 1, 0, none⟩) (by show W + 1 < _; omega)).trans b, (hb.cell (p := ⟨W + 2, 0, none⟩) e).trans c, (hb.frozen (p := ⟨W + 2, 0, none⟩) e).trans d, Nat.lt_of_lt_of_le e hb.size⟩
theorem PkBox.new (dv ov : Value) (w : World) : PkBox w.heap.size dv ov (((w.alloc (.cells #[dv] 56)).alloc (.cells #[ov] 29)).alloc (.cells #[.slice none 0 0] 56)) := by
  refine ⟨?_, ?_, ?_, ?_, ?_⟩ <;> go_simp
abbrev PushPost (d : P.Dic) (l : P.Lays) := SkPost (P.pushOk d l) (P.push d l)
theorem impl_pushLayer (dv ev : Value) (l : P.Lays) (d : P.Dic) (w : World) (hu : LayR w dv l) (he : EntR w ev d) (hs : SmallS l) (hd : Small d) (hE : Env w) :
    Calls Tryz.prog 25 #[.agg #[dv], .agg #[ev]] w (PushPost d l w) := by
  obtain ⟨i0, hi, hz0, hz1, hz2⟩ := info_parts info_lay
  have hb0 : Below w.heap.size w (((w.alloc (.cells #[dv] 56)).alloc (.cells #[ev] 29)).alloc (.cells #[.slice none 0 0] 56)) := (((Below.refl w.heap.size w).alloc (Nat.le_refl _) _).alloc (by simp) _).alloc (by simp; omega) _
  have HU := Lib.hid (hu.below hb0); have HD := Lib.hid (he.below hb0); have HE := Lib.hid (hE.below hb0 hE.size)
  have HB0 := Lib.hid hb0; clear hb0 hE
  have HN := Lib.hid (PkBox.new dv ev w)
  have HSM := Lib.hid hs; have HSD := Lib.hid hd; clear hs hd
  obtain ⟨ad, cap, rfl, _, _⟩ := hu
  obtain ⟨ed, ec, rfl, _, _⟩ := he
  go_enter Tryz.func25, Tryz.ntmps25
  go_wp2_with fail
  refine (impl_isValidStack _ l _ HU.out HSM.out.each HE.out).mono ?_
  rintro e w1 ⟨rfl, hb⟩
  have HU1 := Lib.hid (HU.out.below hb); have HD1 := Lib.hid (HD.out.below hb); have HE1 := Lib.hid (HE.out.below hb HE.out.size)
  have HN1 := Lib.hid (HN.out.below hb)
  have HB1 := Lib.hid (HB0.out.trans (hb.mono (by simp; omega)))
  clear hb HU HB0 HN HD HE
  cases hst : P.stack l
  · have HF := Lib.hid (show P.pushOk d l = false by unfold P.pushOk; rw [hst]; rfl); clear hst
    obtain ⟨_, _, b0, f0, _⟩ := HN1.out
    go_wp2
    refine bodyPost_ret (v := .tuple #[.agg #[.slice none 0 0], .bool false]) (by simp [results, Tryz.results25, go_sem, b0]) rfl ⟨_, by rw [HF.out], ?_, ?_⟩
    · rw [HF.out]; exact RowO.nil _ _
    · exact HB1.out.setCell (by simp; omega) _
  · have HST := Lib.hid hst; clear hst
    obtain ⟨_, a1, _⟩ := HN1.out
    go_wp2_with fail
    refine (isValidDictionary _ d _ HD1.out HSD.out.texts HE1.out).mono ?_
    rintro e w2 ⟨rfl, hb⟩
    have HU2 := Lib.hid (HU1.out.below hb); have HD2 := Lib.hid (HD1.out.below hb)
    have HN2 := Lib.hid (HN1.out.below hb)
    have HB2 := Lib.hid (HB1.out.trans (hb.mono HB1.out.size))
    clear hb HU1 HB1 HN1 HD1 HE1 a1
    cases hdc : P.dic d
    · have HF := Lib.hid (show P.pushOk d l = false by unfold P.pushOk; rw [hdc, Bool.false_and, Bool.and_false]); clear hdc
      obtain ⟨a0, _, b0, f0, _⟩ := HN2.out
      go_wp2
      refine bodyPost_ret (v := .tuple #[.agg #[.slice none 0 0], .bool false]) (by simp [results, Tryz.results25, go_sem, b0]) rfl ⟨_, by rw [HF.out], ?_, ?_⟩
      · rw [HF.out]; exact RowO.nil _ _
      · exact HB2.out.setCell (by simp; omega) _
    · have HDC := Lib.hid hdc; clear hdc
      by_cases h4 : (l.length : Int) = 4
      · have HF := Lib.hid (show P.pushOk d l = false by unfold P.pushOk; rw [decide_eq_true h4]; simp)
        have hq : ((l.length : Int) == 4) = true := by simp [h4]
        have H4 := Lib.hid h4; clear h4
        obtain ⟨a0, _, b0, f0, _⟩ := HN2.out
        go_wp2
        refine bodyPost_ret (v := .tuple #[.agg #[.slice none 0 0], .bool false]) (by simp [results, Tryz.results25, go_sem, b0]) rfl ⟨_, by rw [HF.out], ?_, ?_⟩
        · rw [HF.out]; exact RowO.nil _ _
        · exact HB2.out.setCell (by simp; omega) _
      · have HF := Lib.hid (show P.pushOk d l = true by unfold P.pushOk; rw [decide_eq_false h4, HST.out, HDC.out]; rfl)
        have hq : ((l.length : Int) == 4) = false := by simp [h4]
        have HL4 := Lib.hid (show l.length ≤ 4 by have h := HST.out; unfold P.stack at h; simp only [Bool.and_eq_true, decide_eq_true_eq] at h; omega)
        have H4 := Lib.hid h4; clear h4
        have hba := (Below.refl w2.heap.size w2).alloc (Nat.le_refl _) (.cells #[.slice ed d.length ec, .bool true] 84)
        have HU3 := Lib.hid (HU2.out.below hba); have HD3 := Lib.hid (HD2.out.below hba); have HN3 := Lib.hid (HN2.out.below hba)
        have HB3 := Lib.hid (HB2.out.trans (hba.mono HB2.out.size))
        have hW2 : w.heap.size + 2 < w2.heap.size := HN2.out.2.2.2.2
        obtain ⟨C, hsrc, hC⟩ := HU2.out.src
        have HSRC := Lib.hid (hsrc.below hba); have HCC := Lib.hid hC
        clear hba hsrc hC
        have HOWN := Lib.hid (show (w2.alloc (.cells #[.slice ed d.length ec, .bool true] 84)).ownsRow w2.heap.size 84 2 (.slice (some ⟨w2.heap.size, 0, none⟩) 1 1) 1 [.slice ed d.length ec, .bool true] from by
          have h := World.ownsRow_lit (base := w2.heap.size) (e := 84) (size := 2) w2 #[.slice ed d.length ec, .bool true] 1 (Nat.le_refl _) (by decide) rfl
          simpa using h)
        obtain ⟨a0, a1, _⟩ := HN2.out
        obtain ⟨a2, _⟩ := HN3.out
        go_wp2_with (at_builtin; refine wpList_append_src rfl _ _ 54 rfl w2.heap.size 84 i0 (.agg #[.slice none 0 0, .bool false]) 2 32 Tryz.underlying54 hi hz0 hz1 hz2 rfl (by decide) _ 1 [.slice ed d.length ec, .bool true] rfl HOWN.out _ l.length (flat C l.length) rfl HSRC.out ?_ ?_ (by simp) ?_)
        · have := HL4.out; unfold maxLen; omega
        · have := HL4.out; omega
        intro v' w3 hown hgr _
        have HBG := Lib.hid (show Below w2.heap.size (w2.alloc (.cells #[.slice ed d.length ec, .bool true] 84)) w3 from (Below.refl _ _).grown hgr (by simp) (fun k hk => (World.ownsRow.lt HOWN.out k hk).1))
        have HUP := Lib.hid (show ∀ e ∈ P.push d l, Small e.1 ∧ P.Up e.1 from by
          intro e he
          rcases List.mem_cons.1 he with rfl | he
          · exact ⟨HSD.out, P.up_of_dic HDC.out⟩
          · exact ⟨HSM.out.each e he, P.layers_up (P.stack_layers HST.out) e he⟩)
        have hb23 := ((Below.refl w2.heap.size w2).alloc (Nat.le_refl _) (.cells #[.slice ed d.length ec, .bool true] 84)).trans HBG.out
        have HLR := Lib.hid (show LayR w3 v' (P.push d l) from layR_push hown (HD2.out.below hb23) (fun j hj => by
          obtain ⟨x, h1, h2⟩ := HCC.out j hj
          exact ⟨x, h1, h2.below hb23⟩) HSM.out.len)
        have HN5 := Lib.hid (HN2.out.below hb23)
        have HB5 := Lib.hid (HB2.out.trans (hb23.mono HB2.out.size))
        have HPL := Lib.hid (show (P.push d l).length ≤ 2 ^ 20 by have := HL4.out; unfold P.push; simp; omega)
        obtain ⟨g, cp, cur, rfl, _⟩ := hown.2.resolve_left (by omega)
        clear hown hgr hb23 HN2 HN3 HB2 HB3 HSRC HCC HOWN HU2 HU3 HD2 HD3 HBG a0 a1 a2 hW2
        go_wp2_with fail
        refine (stackOf_up _ (P.push d l) _ HLR.out HPL.out HUP.out).mono ?_
        rintro e w4 ⟨u4, rfl, hI, hb⟩
        have HN6 := Lib.hid (HN5.out.below hb)
        have hW3 : w.heap.size + 2 < w3.heap.size := HN5.out.2.2.2.2
        have HB6 := Lib.hid (HB5.out.trans (hb.mono HB5.out.size))
        have HI := Lib.hid hI
        obtain ⟨u4d, u4c, rfl, _, _⟩ := hI
        clear hb HN5 HB5
        obtain ⟨_, _, b0, f0, _⟩ := HN6.out
        go_wp2
        refine bodyPost_ret (v := .tuple #[.agg #[.slice u4d (P.push d l).length u4c], .bool true]) (by simp [results, Tryz.results25, go_sem, b0]) rfl ⟨_, by rw [HF.out], ?_, ?_⟩
        · rw [HF.out]
          show Lays _ _ _ (P.push d l)
          refine (HI.out.stand (X := fun b => b = w.heap.size + 2) layE_ok ((Chg.refl (fun b => b = w.heap.size + 2) w4).setCell (p := ⟨w.heap.size + 2, 0, none⟩) rfl _) ?_).wide ?_ ?_
          · intro b hb e; have := hb.1; omega
          · intro b hb; have h1 := hb.1; have h2 := hb.2; exact ⟨by omega, by simp [World.setCell]; omega⟩
          · intro b hb; exact hb.2
        · exact HB6.out.setCell (by simp; omega) _
end Go.Proofs.YtfoajpehmbojbaaGreatDoor
