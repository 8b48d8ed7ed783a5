/- Walks: a layer laid on top (program). A row of layers with a new head: its memory. Walks: a layer laid on top (reference). -/
import Derived.Deep.DeepCutAuto
import Derived.Deep.RegionLaw
import Derived.Deep.RegionHeld
import Derived.Test.YtngbkdlicknmhaaGreatDoorLayB2
namespace Go.Proofs.YtngbkdlicknmhaaGreatDoor
section
namespace P
/-- a dictionary may be laid on top -/
def pushOk (d : Dic) (l : Lays) : Bool := stack l && (dic d && !decide ((l.length : Int) = 4))
def push (d : Dic) (l : Lays) : Lays := (d, true) :: l
end P
open Go Go.RowKit
set_option maxHeartbeats 4000000
set_option maxRecDepth 100000
theorem flat_in {C : Nat → List Value} {y : Value} : ∀ (n : Nat), y ∈ flat C n → ∃ j, j < n ∧ y ∈ C j
  | 0, h => by cases h
  | n + 1, h => by
    rcases List.mem_append.1 h with h | h
    · obtain ⟨j, hj, hy⟩ := flat_in n h; exact ⟨j, by omega, hy⟩
    · exact ⟨n, by omega, h⟩
theorem addr_add (g o j : Nat) : (⟨g, o, none⟩ : Addr).add j = ⟨g, o + j, none⟩ := by unfold Addr.add; split <;> simp_all
/-- the cells of a row of layers, to be appended -/
theorem LayR.src {v : World} {u : Value} {l : P.Lays} (h : LayR v u l) : ∃ C : Nat → List Value, SrcIs v 2 u l.length (flat C l.length) ∧ ∀ j (hj : j < l.length), ∃ x, C j = [x, .bool (l[j]'hj).2] ∧ EntR v x (l[j]'hj).1 := by
  obtain ⟨ad, cap, rfl, h1, hn, h3⟩ := h
  rcases h3 with rfl | ⟨g, o, rfl, hg, hc⟩
  · refine ⟨fun _ => [], ⟨rfl, (fun x hx => by cases hx), ?_⟩, fun j hj => absurd hj (Nat.not_lt_zero _)⟩
    cases ad with
    | none => exact .inl ⟨by rw [hn rfl]; rfl, rfl⟩
    | some a => exact .inr ⟨a, cap, rfl, fun j x hx => by simp [flat] at hx⟩
  · have key : ∀ j, ∃ x, ∀ hj : j < l.length, v.cell? ⟨g, o + j * 2, none⟩ = some x ∧ v.cell? ⟨g, o + j * 2 + 1, none⟩ = some (.bool (l[j]'hj).2) ∧ EntR v x (l[j]'hj).1 := by
      intro j
      by_cases hj : j < l.length
      · obtain ⟨x, a, b, c⟩ := hc j hj
        exact ⟨x, fun _ => ⟨a, b, c⟩⟩
      · exact ⟨.int .i64 0, fun h => absurd h hj⟩
    obtain ⟨f, hf⟩ := Classical.axiomOfChoice key
    have hC : ∀ j (hj : j < l.length), (fun j => if hj : j < l.length then [f j, Value.bool (l[j]'hj).2] else []) j = [f j, Value.bool (l[j]'hj).2] := fun j hj => dif_pos hj
    have hw : ∀ j, j < l.length → ((fun j => if hj : j < l.length then [f j, Value.bool (l[j]'hj).2] else []) j).length = 2 := fun j hj => by rw [hC j hj]; rfl
    refine ⟨_, ⟨flat_len hw, ?_, .inr ⟨_, cap, rfl, fun j x hx => ?_⟩⟩, fun j hj => ⟨f j, hC j hj, (hf j hj).2.2⟩⟩
    · intro x hx
      obtain ⟨j, hj, hm⟩ := flat_in _ hx
      rw [dif_pos hj] at hm
      simp only [List.mem_cons, List.not_mem_nil, or_false] at hm
      rcases hm with rfl | rfl
      · obtain ⟨_, _, he, _⟩ := (hf j hj).2.2; rw [he]; rfl
      · rfl
    · have hlt : j < (flat (fun j => if hj : j < l.length then [f j, Value.bool (l[j]'hj).2] else []) l.length).length := by
        obtain ⟨h, _⟩ := List.getElem?_eq_some_iff.1 hx; exact h
      rw [flat_len hw] at hlt
      have hq : j / 2 < l.length := by omega
      rw [addr_add]
      rcases Nat.mod_two_eq_zero_or_one j with hm | hm
      · have e := flat_get hw (j / 2) 0 hq (by rw [hw _ hq]; decide)
        rw [show j / 2 * 2 + 0 = j by omega, hx] at e
        simp only [hC _ hq, List.getElem_cons_zero, Option.some.injEq] at e
        rw [e, show o + j = o + j / 2 * 2 by omega]
        exact (hf _ hq).1
      · have e := flat_get hw (j / 2) 1 hq (by rw [hw _ hq]; decide)
        rw [show j / 2 * 2 + 1 = j by omega, hx] at e
        simp only [hC _ hq, List.getElem_cons_zero, List.getElem_cons_succ, Option.some.injEq] at e
        rw [e, show o + j = o + j / 2 * 2 + 1 by omega]
        exact (hf _ hq).2.1
theorem SrcIs.below {w w' : World} {n m : Nat} {u : Value} {news : List Value} (h : SrcIs w n u m news) (hb : Below w.heap.size w w') : SrcIs w' n u m news := by
  obtain ⟨h1, h2, h3⟩ := h
  refine ⟨h1, h2, h3.imp id ?_⟩
  rintro ⟨ad, c, rfl, hc⟩
  exact ⟨ad, c, rfl, fun j x hx => (hb.cell (World.block_lt_of_cell? _ _ (hc j x hx))).trans (hc j x hx)⟩
/-- a row with a new head, as it is read -/
theorem layR_push {B : Nat} {v : World} {u ev : Value} {d : P.Dic} {t : Bool} {l : P.Lays} {C : Nat → List Value} (hown : v.ownsRow B 85 2 u (1 + l.length) ([ev, .bool t] ++ flat C l.length)) (he : EntR v ev d)
    (hC : ∀ j (hj : j < l.length), ∃ x, C j = [x, .bool (l[j]'hj).2] ∧ EntR v x (l[j]'hj).1) (hl : l.length ≤ 2 ^ 20) : LayR v u ((d, t) :: l) := by
  obtain ⟨g, cap, cur, rfl, _⟩ := hown.2.resolve_left (by omega)
  have hlt := (World.ownsRow.lt hown g rfl).2
  have hw : ∀ j, j < l.length → (C j).length = 2 := fun j hj => by obtain ⟨x, h, _⟩ := hC j hj; rw [h]; rfl
  refine ⟨_, cap, by rw [List.length_cons, Nat.add_comm], by simp; omega, (fun h => by cases h), .inr ⟨g, 0, rfl, hlt, fun j hj => ?_⟩⟩
  cases j with
  | zero =>
    have a := World.ownsRow.cellAt hown 0 (by omega)
    have b := World.ownsRow.cellAt hown 1 (by omega)
    exact ⟨ev, by simpa using a, by simpa using b, he⟩
  | succ j =>
    have hj' : j < l.length := by simpa using hj
    obtain ⟨x, hx, hr⟩ := hC j hj'
    have a := World.ownsRow.cellAt hown ((j + 1) * 2) (by omega)
    have b := World.ownsRow.cellAt hown ((j + 1) * 2 + 1) (by omega)
    have e0 := flat_get hw j 0 hj' (by rw [hw _ hj']; decide)
    have e1 := flat_get hw j 1 hj' (by rw [hw _ hj']; decide)
    simp only [hx, List.getElem_cons_zero, List.getElem_cons_succ] at e0 e1
    rw [List.getElem?_append_right (by simp; omega)] at a b
    rw [show (j + 1) * 2 - [ev, Value.bool t].length = j * 2 + 0 by simp; omega, e0] at a
    rw [show (j + 1) * 2 + 1 - [ev, Value.bool t].length = j * 2 + 1 by simp; omega, e1] at b
    refine ⟨x, ?_, ?_, ?_⟩
    · rw [Nat.zero_add]; exact a
    · rw [Nat.zero_add]; simpa using b
    · simpa using hr
/-- the boxes of PushLayer -/
def PkBox (W : Nat) (dv ov : Value) (v : World) : Prop :=
  v.cell? ⟨W, 0, none⟩ = some dv ∧ v.cell? ⟨W + 1, 0, none⟩ = some ov ∧ v.cell? ⟨W + 2, 0, none⟩ = some (.slice none 0 0) ∧ v.frozen? ⟨W + 2, 0, none⟩ = false ∧ W + 2 < v.heap.size
theorem PkBox.below {W : Nat} {dv ov : Value} {v v' : World} (h : PkBox W dv ov v) (hb : Below v.heap.size v v') : PkBox W dv ov v' := by
  obtain ⟨a, b, c, d, e⟩ := h
  exact ⟨(hb.cell (p := ⟨W, 0, none⟩) (by show W < _; omega)).trans a, (hb.cell (p := ⟨W + 1, 0, none⟩) (by show W + 1 < _; omega)).trans b, (hb.cell (p := ⟨W + 2, 0, none⟩) e).trans c, (hb.frozen (p := ⟨W + 2, 0, none⟩) e).trans d, Nat.lt_of_lt_of_le e hb.size⟩
theorem PkBox.new (dv ov : Value) (w : World) : PkBox w.heap.size dv ov (((w.alloc (.cells #[dv] 70)).alloc (.cells #[ov] 26)).alloc (.cells #[.slice none 0 0] 70)) := by
  refine ⟨?_, ?_, ?_, ?_, ?_⟩ <;> go_simp
abbrev PushPost (d : P.Dic) (l : P.Lays) := SkPost (P.pushOk d l) (P.push d l)
theorem impl_pushLayer (dv ev : Value) (l : P.Lays) (d : P.Dic) (w : World) (hu : LayR w dv l) (he : EntR w ev d) (hs : SmallS l) (hd : Small d) (hE : Env w) :
    Calls Tryz.prog 45 #[.agg #[dv], .agg #[ev]] w (PushPost d l w) := by
  obtain ⟨i0, hi, hz0, hz1, hz2⟩ := info_parts info_lay
  have hb0 : Below w.heap.size w (((w.alloc (.cells #[dv] 70)).alloc (.cells #[ev] 26)).alloc (.cells #[.slice none 0 0] 70)) := (((Below.refl w.heap.size w).alloc (Nat.le_refl _) _).alloc (by simp) _).alloc (by simp; omega) _
  have HU := Lib.hid (hu.below hb0); have HD := Lib.hid (he.below hb0); have HE := Lib.hid (hE.below hb0 hE.size)
  have HB0 := Lib.hid hb0; clear hb0 hE
  have HN := Lib.hid (PkBox.new dv ev w)
  have HSM := Lib.hid hs; have HSD := Lib.hid hd; clear hs hd
  obtain ⟨ad, cap, rfl, _, _⟩ := hu
  obtain ⟨ed, ec, rfl, _, _⟩ := he
  go_enter Tryz.func45, Tryz.ntmps45
  go_wp2_with fail
  refine (impl_isValidStack _ l _ HU.out HSM.out.each HE.out).mono ?_
  rintro e w1 ⟨rfl, hb⟩
  have HU1 := Lib.hid (HU.out.below hb); have HD1 := Lib.hid (HD.out.below hb); have HE1 := Lib.hid (HE.out.below hb HE.out.size)
  have HN1 := Lib.hid (HN.out.below hb)
  have HB1 := Lib.hid (HB0.out.trans (hb.mono (by simp; omega)))
  clear hb HU HB0 HN HD HE
  cases hst : P.stack l
  · have HF := Lib.hid (show P.pushOk d l = false by unfold P.pushOk; rw [hst]; rfl); clear hst
    obtain ⟨_, _, b0, f0, _⟩ := HN1.out
    go_wp2
    refine bodyPost_ret (v := .tuple #[.agg #[.slice none 0 0], .bool false]) (by simp [results, Tryz.results45, go_sem, b0]) rfl ⟨_, by rw [HF.out], ?_, ?_⟩
    · rw [HF.out]; exact RowO.nil _ _
    · exact HB1.out.setCell (by simp; omega) _
  · have HST := Lib.hid hst; clear hst
    obtain ⟨_, a1, _⟩ := HN1.out
    go_wp2_with fail
    refine (isValidDictionary _ d _ HD1.out HSD.out.texts HE1.out).mono ?_
    rintro e w2 ⟨rfl, hb⟩
    have HU2 := Lib.hid (HU1.out.below hb); have HD2 := Lib.hid (HD1.out.below hb)
    have HN2 := Lib.hid (HN1.out.below hb)
    have HB2 := Lib.hid (HB1.out.trans (hb.mono HB1.out.size))
    clear hb HU1 HB1 HN1 HD1 HE1 a1
    cases hdc : P.dic d
    · have HF := Lib.hid (show P.pushOk d l = false by unfold P.pushOk; rw [hdc, Bool.false_and, Bool.and_false]); clear hdc
      obtain ⟨a0, _, b0, f0, _⟩ := HN2.out
      go_wp2
      refine bodyPost_ret (v := .tuple #[.agg #[.slice none 0 0], .bool false]) (by simp [results, Tryz.results45, go_sem, b0]) rfl ⟨_, by rw [HF.out], ?_, ?_⟩
      · rw [HF.out]; exact RowO.nil _ _
      · exact HB2.out.setCell (by simp; omega) _
    · have HDC := Lib.hid hdc; clear hdc
      by_cases h4 : (l.length : Int) = 4
      · have HF := Lib.hid (show P.pushOk d l = false by unfold P.pushOk; rw [decide_eq_true h4]; simp)
        have hq : ((l.length : Int) == 4) = true := by simp [h4]
        have H4 := Lib.hid h4; clear h4
        obtain ⟨a0, _, b0, f0, _⟩ := HN2.out
        go_wp2
        refine bodyPost_ret (v := .tuple #[.agg #[.slice none 0 0], .bool false]) (by simp [results, Tryz.results45, go_sem, b0]) rfl ⟨_, by rw [HF.out], ?_, ?_⟩
        · rw [HF.out]; exact RowO.nil _ _
        · exact HB2.out.setCell (by simp; omega) _
      · have HF := Lib.hid (show P.pushOk d l = true by unfold P.pushOk; rw [decide_eq_false h4, HST.out, HDC.out]; rfl)
        have hq : ((l.length : Int) == 4) = false := by simp [h4]
        have HL4 := Lib.hid (show l.length ≤ 4 by have h := HST.out; unfold P.stack at h; simp only [Bool.and_eq_true, decide_eq_true_eq] at h; omega)
        have H4 := Lib.hid h4; clear h4
        have hba := (Below.refl w2.heap.size w2).alloc (Nat.le_refl _) (.cells #[.slice ed d.length ec, .bool true] 85)
        have HU3 := Lib.hid (HU2.out.below hba); have HD3 := Lib.hid (HD2.out.below hba); have HN3 := Lib.hid (HN2.out.below hba)
        have HB3 := Lib.hid (HB2.out.trans (hba.mono HB2.out.size))
        have hW2 : w.heap.size + 2 < w2.heap.size := HN2.out.2.2.2.2
        obtain ⟨C, hsrc, hC⟩ := HU2.out.src
        have HSRC := Lib.hid (hsrc.below hba); have HCC := Lib.hid hC
        clear hba hsrc hC
        have HOWN := Lib.hid (show (w2.alloc (.cells #[.slice ed d.length ec, .bool true] 85)).ownsRow w2.heap.size 85 2 (.slice (some ⟨w2.heap.size, 0, none⟩) 1 1) 1 [.slice ed d.length ec, .bool true] from by
          have h := World.ownsRow_lit (base := w2.heap.size) (e := 85) (size := 2) w2 #[.slice ed d.length ec, .bool true] 1 (Nat.le_refl _) (by decide) rfl
          simpa using h)
        obtain ⟨a0, a1, _⟩ := HN2.out
        obtain ⟨a2, _⟩ := HN3.out
        go_wp2_with (at_builtin; refine wpList_append_src rfl _ _ 68 rfl w2.heap.size 85 i0 (.agg #[.slice none 0 0, .bool false]) 2 32 Tryz.underlying68 hi hz0 hz1 hz2 rfl (by decide) _ 1 [.slice ed d.length ec, .bool true] rfl HOWN.out _ l.length (flat C l.length) rfl HSRC.out ?_ ?_ (by simp) ?_)
        · have := HL4.out; unfold maxLen; omega
        · have := HL4.out; omega
        intro v' w3 hown hgr _
        have HBG := Lib.hid (show Below w2.heap.size (w2.alloc (.cells #[.slice ed d.length ec, .bool true] 85)) w3 from (Below.refl _ _).grown hgr (by simp) (fun k hk => (World.ownsRow.lt HOWN.out k hk).1))
        have HUP := Lib.hid (show ∀ e ∈ P.push d l, Small e.1 ∧ P.Up e.1 from by
          intro e he
          rcases List.mem_cons.1 he with rfl | he
          · exact ⟨HSD.out, P.up_of_dic HDC.out⟩
          · exact ⟨HSM.out.each e he, P.layers_up (P.stack_layers HST.out) e he⟩)
        have hb23 := ((Below.refl w2.heap.size w2).alloc (Nat.le_refl _) (.cells #[.slice ed d.length ec, .bool true] 85)).trans HBG.out
        have HLR := Lib.hid (show LayR w3 v' (P.push d l) from layR_push hown (HD2.out.below hb23) (fun j hj => by
          obtain ⟨x, h1, h2⟩ := HCC.out j hj
          exact ⟨x, h1, h2.below hb23⟩) HSM.out.len)
        have HN5 := Lib.hid (HN2.out.below hb23)
        have HB5 := Lib.hid (HB2.out.trans (hb23.mono HB2.out.size))
        have HPL := Lib.hid (show (P.push d l).length ≤ 2 ^ 20 by have := HL4.out; unfold P.push; simp; omega)
        obtain ⟨g, cp, cur, rfl, _⟩ := hown.2.resolve_left (by omega)
        clear hown hgr hb23 HN2 HN3 HB2 HB3 HSRC HCC HOWN HU2 HU3 HD2 HD3 HBG a0 a1 a2 hW2
        go_wp2_with fail
        refine (stackOf_up _ (P.push d l) _ HLR.out HPL.out HUP.out).mono ?_
        rintro e w4 ⟨u4, rfl, hI, hb⟩
        have HN6 := Lib.hid (HN5.out.below hb)
        have hW3 : w.heap.size + 2 < w3.heap.size := HN5.out.2.2.2.2
        have HB6 := Lib.hid (HB5.out.trans (hb.mono HB5.out.size))
        have HI := Lib.hid hI
        obtain ⟨u4d, u4c, rfl, _, _⟩ := hI
        clear hb HN5 HB5
        obtain ⟨_, _, b0, f0, _⟩ := HN6.out
        go_wp2
        refine bodyPost_ret (v := .tuple #[.agg #[.slice u4d (P.push d l).length u4c], .bool true]) (by simp [results, Tryz.results45, go_sem, b0]) rfl ⟨_, by rw [HF.out], ?_, ?_⟩
        · rw [HF.out]
          show Lays _ _ _ (P.push d l)
          refine (HI.out.stand (X := fun b => b = w.heap.size + 2) layE_ok ((Chg.refl (fun b => b = w.heap.size + 2) w4).setCell (p := ⟨w.heap.size + 2, 0, none⟩) rfl _) ?_).wide ?_ ?_
          · intro b hb e; have := hb.1; omega
          · intro b hb; have h1 := hb.1; have h2 := hb.2; exact ⟨by omega, by simp [World.setCell]; omega⟩
          · intro b hb; exact hb.2
        · exact HB6.out.setCell (by simp; omega) _
end
section
open Go Go.RowKit
set_option maxHeartbeats 1000000
set_option maxRecDepth 100000
section
variable {P : Program} (w : World)
/-- append onto a row that holds something, from a slice which may be nil: at a step of a region that draws -/
theorem step_append_any {ops : Array Oper} {o : Oper} {a : Act} {K : Act → World → Prop} {Q : Exit → Act → World → Prop} {E : Prop} (hgd : o.guard = none) (s x : Operand) (t : TypeId)
    (ho : o.op = .call { callee := .builtin .append, args := #[s, x], argTypes := #[t, t] })
    (base : Nat) (e : TypeId) (i : TypeInfo) (z : Value) (size bytes : Nat) (ht : P.underlying t = some (.slice e)) (hi : P.info? e = some i) (hz : i.zero = some z)
    (hsize : i.size = size) (hby : i.bytes = bytes) (hzs : z.cells.size = size) (hsz : 0 < size)
    (v : Value) (n : Nat) (xs : List Value) (hs : a.eval s = v) (hown : w.ownsRow base e size v n xs)
    (u : Value) (m : Nat) (news : List Value) (hx : a.eval x = u) (hsrc : SrcIs w size u m news) (hn : 0 < n)
    (h63 : n + m ≤ maxLen) (hbytes : (n + m) * bytes ≤ 140737488355328) (hbase : base ≤ w.heap.size)
    (h : ∀ g cap w', w'.ownsRow base e size (.slice (some ⟨g, 0, none⟩) (n + m) cap) (n + m) (xs ++ news) → w.grownBy w' v.ownBlock → (v.ownBlock = some g ∨ g = w.heap.size) → g < w'.heap.size → K (a.put o.dst (.slice (some ⟨g, 0, none⟩) (n + m) cap)) w') :
    if Region.wanted o (yielded ops a.tmps) = true then Oper.wp P o a w K Q else E := by
  have hw : Region.wanted o (yielded ops a.tmps) = true := by simp [Region.wanted, hgd]
  rw [if_pos hw]
  have key : ∃ g cap w', (Builtin.append_ #[t, t] o.type #[v, u]).run P w = .ok (.slice (some ⟨g, 0, none⟩) (n + m) cap) w' ∧
      w'.ownsRow base e size (.slice (some ⟨g, 0, none⟩) (n + m) cap) (n + m) (xs ++ news) ∧ w.grownBy w' v.ownBlock ∧ (v.ownBlock = some g ∨ g = w.heap.size) ∧ g < w'.heap.size := by
    obtain ⟨hl, h1, ⟨rfl, rfl⟩ | ⟨ad, c, rfl, hnews⟩⟩ := hsrc
    · have hn0 : news = [] := List.eq_nil_of_length_eq_zero (by simpa using hl)
      subst hn0
      subst hsize
      have hlt := hown.form hn
      obtain ⟨g, cap, rfl, _, hlt⟩ := hlt
      refine ⟨g, cap, w, ?_, by simpa using hown, ⟨rfl, rfl, rfl, Nat.le_refl _, fun _ _ _ => rfl⟩, .inl rfl, hlt⟩
      rcases hown.2 with ⟨hv, _⟩ | ⟨g', cap', cur, hv, hbg, hg, hnc, hcm, hcs, htake⟩
      · cases hv
      · simp only [Value.slice.injEq, Option.some.injEq, Addr.mk.injEq, and_true, true_and] at hv
        obtain ⟨rfl, rfl⟩ := hv
        simp [Builtin.append_, run_underlying ht, sizeOf, typeInfo, hi, Builtin.lenOf, Builtin.firstCells, loadCells, hnc, storeCells]
    · obtain ⟨v', w', hr, h2, h3, _, h5⟩ := run_append_own_at (P := P) w base t o.type e i z size bytes ht hi hz hsize hby hzs hsz v n xs hown ad m c news hl hnews h1 h63 hbytes hbase
      obtain ⟨g, cap, rfl, _, hlt⟩ := h2.form (by omega)
      refine ⟨g, cap, w', hr, h2, h3, ?_, hlt⟩
      rcases h5 with h5 | h5
      · exact .inl (by rw [← h5]; rfl)
      · right
        simpa [Value.ownBlock] using h5
  obtain ⟨g, cap, w', hr, h2, h3, h4, h5⟩ := key
  unfold Oper.wp execOp
  simp only [ho, resolve, invoke, builtin, Sem.run_bind, Sem.run_pure, Result.andThen_ok, List.map_toArray, List.map_cons, List.map_nil, hs, hx, hr]
  exact h g cap w' h2 h3 h4 h5
end
theorem flat_cons {C : Nat → List Value} : ∀ n, flat C (n + 1) = C 0 ++ flat (fun j => C (j + 1)) n
  | 0 => by simp [flat]
  | n + 1 => by rw [flat, flat_cons n, flat, List.append_assoc]
/-- what a row of layers is made of -/
theorem Lays.parts {v : World} {F : Blk} {u : Value} {l : P.Lays} (h : Lays v F u l) : ∃ (C : Nat → List Value) (G : Nat → Blk), SrcIs v 2 u l.length (flat C l.length) ∧ (∀ j (hj : j < l.length), layE v (G j) (C j) (l[j]'hj)) ∧ (∀ j, j < l.length → ∀ b, G j b → F b) ∧ (∀ i j, i < j → j < l.length → ∀ b, G i b → G j b → False) := by
  obtain ⟨ad, cap, rfl, h1, hn, h3⟩ := h
  rcases h3 with rfl | ⟨g, o, G, C, rfl, hr⟩
  · refine ⟨fun _ => [], fun _ _ => False, ⟨rfl, (fun x hx => by cases hx), ?_⟩, fun j hj => absurd hj (Nat.not_lt_zero _), fun j hj => absurd hj (Nat.not_lt_zero _), fun i j _ hj => absurd hj (Nat.not_lt_zero _)⟩
    cases ad with
    | none => exact .inl ⟨by rw [hn.1 rfl]; rfl, rfl⟩
    | some a => exact .inr ⟨a, cap, rfl, fun j x hx => by simp [flat] at hx⟩
  · refine ⟨C, G, ⟨flat_len hr.wid, ?_, .inr ⟨_, cap, rfl, fun j x hx => ?_⟩⟩, hr.el, fun j hj b hb => (hr.sub j hj b hb).1, hr.apart⟩
    · intro x hx
      obtain ⟨j, hj, hm⟩ := flat_in _ hx
      obtain ⟨y, hC, hy⟩ := hr.el j hj
      rw [hC] at hm
      simp only [List.mem_cons, List.not_mem_nil, or_false] at hm
      rcases hm with rfl | rfl
      · obtain ⟨_, _, rfl, _⟩ := hy; rfl
      · rfl
    · have hlt : j < (flat C l.length).length := by
        obtain ⟨h, _⟩ := List.getElem?_eq_some_iff.1 hx; exact h
      rw [flat_len hr.wid] at hlt
      have hq : j / 2 < l.length := by omega
      have hm : j % 2 < (C (j / 2)).length := by rw [hr.wid _ hq]; omega
      have e := flat_get hr.wid (j / 2) (j % 2) hq hm
      rw [show j / 2 * 2 + j % 2 = j by omega, hx] at e
      injection e with e
      rw [addr_add, e, show o + j = o + j / 2 * 2 + j % 2 by omega]
      exact (hr.cel _ hq _ hm).1
/-- the row with the new head -/
theorem lays_push {A q : Nat} {X : Blk} {v : World} {x1 u : Value} {d : P.Dic} {t : Bool} {l : P.Lays} {F1 F2 : Blk} (hd : Ents v F1 x1 d) (h1 : ∀ b, F1 b → A ≤ b ∧ b < v.heap.size ∧ b ≠ q) (hu : Lays v F2 u l) (h2 : ∀ b, F2 b → A ≤ b ∧ b < v.heap.size ∧ b ≠ q)
    (h12 : ∀ b, F1 b → F2 b → False) (hX1 : ∀ b, F1 b → ¬ X b) (hX2 : ∀ b, F2 b → ¬ X b) (hXq : ¬ X q) (hXs : ∀ b, X b → b < v.heap.size) (hl : l.length ≤ 2 ^ 20) :
    ∃ C, SrcIs v 2 u l.length (flat C l.length) ∧ ∀ v3 g cap, v3.ownsRow A 85 2 (.slice (some ⟨g, 0, none⟩) (1 + l.length) cap) (1 + l.length) ([x1, .bool t] ++ flat C l.length) → v.grownBy v3 (some q) → (some q = some g ∨ g = v.heap.size) → g < v3.heap.size →
      Lays v3 (fun b => Bet A v3.heap.size b ∧ ¬ X b) (.slice (some ⟨g, 0, none⟩) (1 + l.length) cap) ((d, t) :: l) := by
  obtain ⟨C, G, hs, hel, hG, hap⟩ := hu.parts
  refine ⟨C, hs, fun v3 g cap hown hgr hat hg3 => ?_⟩
  have hw : ∀ j, j < (l.length + 1) → ((fun j => match j with | 0 => [x1, Value.bool t] | j + 1 => C j) j : List Value).length = 2 := by
    intro j hj
    cases j with
    | zero => rfl
    | succ j => obtain ⟨y, hC, _⟩ := hel j (by omega); show (C j).length = 2; rw [hC]; rfl
  have hfl : [x1, Value.bool t] ++ flat C l.length = flat (fun j => match j with | 0 => [x1, Value.bool t] | j + 1 => C j) (l.length + 1) := by rw [flat_cons]
  rw [hfl] at hown
  have hgA := (World.ownsRow.lt hown g rfl).1
  have hne : ∀ b, b < v.heap.size → b ≠ q → b ≠ g := by
    intro b hb hbq e
    rcases hat with h | h
    · injection h with h; omega
    · omega
  have hXg : ¬ X g := by
    rcases hat with h | h
    · rw [← Option.some.inj h]; exact hXq
    · intro hx; have := hXs g hx; omega
  have hcap : 1 + l.length ≤ cap := by
    rcases hown.2 with ⟨h, _⟩ | ⟨g', cap', cur, hv, _, _, hnc, _⟩
    · cases h
    · injection hv with _ _ hv; omega
  refine ⟨_, cap, by rw [List.length_cons, Nat.add_comm], by simp; omega, ⟨(fun h => by cases h), by simp; omega⟩, .inr ⟨g, 0, (fun j => match j with | 0 => F1 | j + 1 => G j), (fun j => match j with | 0 => [x1, Value.bool t] | j + 1 => C j), rfl, ⟨⟨⟨hgA, hg3⟩, hXg⟩, fun b hb => hb.1.2, fun j hj i hi => ?_, fun j hj => hw j hj, fun j hj => ?_, fun j hj => ?_, fun i j hij hj => ?_⟩⟩⟩
  · have hj' : j < l.length + 1 := by simpa using hj
    have e := flat_get hw j i hj' hi
    have hi2 : i < 2 := by rw [hw j hj'] at hi; exact hi
    have c := World.ownsRow.cellAt hown (j * 2 + i) (by omega)
    rw [e] at c
    rw [Nat.zero_add]
    exact ⟨c, World.ownsRow.frozenAt hown _⟩
  · cases j with
    | zero => exact ⟨x1, rfl, hd.keep entE_ok ⟨hgr.size, fun b hb => hgr.block b (h1 b hb).2.1 (fun e => (h1 b hb).2.2 (Option.some.inj e))⟩⟩
    | succ j =>
      have hj' : j < l.length := by simpa using hj
      exact layE_ok.keep (hel j hj') ⟨hgr.size, fun b hb => hgr.block b (h2 b (hG j hj' b hb)).2.1 (fun e => (h2 b (hG j hj' b hb)).2.2 (Option.some.inj e))⟩
  · have hsz := hgr.size
    cases j with
    | zero => intro b hb; have := h1 b hb; exact ⟨⟨⟨this.1, by omega⟩, hX1 b hb⟩, hne b this.2.1 this.2.2⟩
    | succ j =>
      have hj' : j < l.length := by simpa using hj
      intro b hb
      have := h2 b (hG j hj' b hb)
      exact ⟨⟨⟨this.1, by omega⟩, hX2 b (hG j hj' b hb)⟩, hne b this.2.1 this.2.2⟩
  · cases j with
    | zero => exact absurd hij (Nat.not_lt_zero _)
    | succ j =>
      have hj' : j < l.length := by simpa using hj
      cases i with
      | zero => intro b hb1 hb2; exact h12 b hb1 (hG j hj' b hb2)
      | succ i => exact hap i j (by omega) hj'
end
section
open Go Go.RowKit
set_option maxHeartbeats 8000000
set_option maxRecDepth 100000
theorem field_stack (a : Option Addr) (n c : Nat) (z : World) : (Instr.field 70 (.agg #[.slice a n c]) 0).run Tryz.prog z = .ok (.slice a n c) z := by kernel_rfl
/-- what region 3 of PushLayer keeps -/
def KPU (W : Nat) (dv ev : Value) (v : World) : Prop := v.cell? ⟨W, 0, none⟩ = some dv ∧ v.cell? ⟨W + 1, 0, none⟩ = some ev
theorem KPU.step {W B : Nat} {dv ev : Value} {v v' : World} (h : KPU W dv ev v) (hb : Below B v v') (hW : W + 1 < B) : KPU W dv ev v' :=
  ⟨(hb.cell (p := ⟨W, 0, none⟩) (by show W < B; omega)).trans h.1, (hb.cell (p := ⟨W + 1, 0, none⟩) hW).trans h.2⟩
theorem spec_pushLayer (dv ev : Value) (l : P.Lays) (d : P.Dic) (w : World) (hu : LayR w dv l) (he : EntR w ev d) (hs : SmallS l) (hd : Small d) :
    Calls Tryz.prog 46 #[.agg #[dv], .agg #[ev]] w (PushPost d l w) := by
  obtain ⟨i0, hi, hz0, hz1, hz2⟩ := info_parts info_lay
  have hb0 : Below w.heap.size w (((w.alloc (.cells #[dv] 70)).alloc (.cells #[ev] 26)).alloc (.cells #[.slice none 0 0] 70)) := (((Below.refl w.heap.size w).alloc (Nat.le_refl _) _).alloc (by simp) _).alloc (by simp; omega) _
  have HU := Lib.hid (hu.below hb0); have HD := Lib.hid (he.below hb0)
  have HB0 := Lib.hid hb0; clear hb0
  have HN := Lib.hid (PkBox.new dv ev w)
  have HSM := Lib.hid hs; have HSD := Lib.hid hd; clear hs hd
  obtain ⟨ad, cap, rfl, _, _⟩ := hu
  obtain ⟨ed, ec, rfl, _, _⟩ := he
  go_enter Tryz.func46, Tryz.ntmps46
  go_wp2_with fail
  refine (spec_isValidStack _ l _ HU.out HSM.out.each).mono ?_
  rintro e w1 ⟨rfl, hb⟩
  have HU1 := Lib.hid (HU.out.below hb); have HD1 := Lib.hid (HD.out.below hb)
  have HN1 := Lib.hid (HN.out.below hb)
  have HB1 := Lib.hid (HB0.out.trans (hb.mono (by simp; omega)))
  clear hb HU HB0 HN HD
  cases hst : P.stack l
  · have HF := Lib.hid (show P.pushOk d l = false by unfold P.pushOk; rw [hst]; rfl); clear hst
    obtain ⟨_, _, b0, f0, _⟩ := HN1.out
    go_wp2
    refine bodyPost_ret (v := .tuple #[.agg #[.slice none 0 0], .bool false]) (by simp [results, Tryz.results46, go_sem, b0]) rfl ⟨_, by rw [HF.out], ?_, ?_⟩
    · rw [HF.out]; exact RowO.nil _ _
    · exact HB1.out.setCell (by simp; omega) _
  · have HST := Lib.hid hst; clear hst
    obtain ⟨_, a1, _⟩ := HN1.out
    go_wp2_with fail
    refine (l6Good _ d _ HD1.out HSD.out.texts).mono ?_
    rintro e w2 ⟨rfl, hb⟩
    have HU2 := Lib.hid (HU1.out.below hb); have HD2 := Lib.hid (HD1.out.below hb)
    have HN2 := Lib.hid (HN1.out.below hb)
    have HB2 := Lib.hid (HB1.out.trans (hb.mono HB1.out.size))
    clear hb HU1 HB1 HN1 HD1 a1
    cases hdc : P.dic d
    · have HF := Lib.hid (show P.pushOk d l = false by unfold P.pushOk; rw [hdc, Bool.false_and, Bool.and_false]); clear hdc
      obtain ⟨a0, _, b0, f0, _⟩ := HN2.out
      go_wp2
      refine bodyPost_ret (v := .tuple #[.agg #[.slice none 0 0], .bool false]) (by simp [results, Tryz.results46, go_sem, b0]) rfl ⟨_, by rw [HF.out], ?_, ?_⟩
      · rw [HF.out]; exact RowO.nil _ _
      · exact HB2.out.setCell (by simp; omega) _
    · have HDC := Lib.hid hdc; clear hdc
      by_cases h4 : (l.length : Int) = 4
      · have HF := Lib.hid (show P.pushOk d l = false by unfold P.pushOk; rw [decide_eq_true h4]; simp)
        have hq : ((l.length : Int) == 4) = true := by simp [h4]
        have H4 := Lib.hid h4; clear h4
        obtain ⟨a0, _, b0, f0, _⟩ := HN2.out
        go_wp2
        refine bodyPost_ret (v := .tuple #[.agg #[.slice none 0 0], .bool false]) (by simp [results, Tryz.results46, go_sem, b0]) rfl ⟨_, by rw [HF.out], ?_, ?_⟩
        · rw [HF.out]; exact RowO.nil _ _
        · exact HB2.out.setCell (by simp; omega) _
      · have HF := Lib.hid (show P.pushOk d l = true by unfold P.pushOk; rw [decide_eq_false h4, HST.out, HDC.out]; rfl)
        have hq : ((l.length : Int) == 4) = false := by simp [h4]
        have HL4 := Lib.hid (show l.length ≤ 4 by have h := HST.out; unfold P.stack at h; simp only [Bool.and_eq_true, decide_eq_true_eq] at h; omega)
        have H4 := Lib.hid h4; clear h4
        have hW2 : w.heap.size + 2 < w2.heap.size := HN2.out.2.2.2.2
        have HS := Lib.hid (show KPU w.heap.size (.slice ad l.length cap) (.slice ed d.length ec) w2.drew from KPU.step (B := w2.heap.size) ⟨HN2.out.1, HN2.out.2.1⟩ (Below.refl _ _).drew (by omega))
        obtain ⟨a0, a1, _⟩ := HN2.out
        go_upto_region 3 with fail
        go_cut [6] (fun p wx => ∃ bx g cap, p = .pointer (some ⟨bx, 0, none⟩) ∧ wx.cell? ⟨bx, 0, none⟩ = some (.slice (some ⟨g, 0, none⟩) (1 + l.length) cap) ∧ w2.heap.size ≤ bx ∧ bx < wx.heap.size ∧ Lays wx (Bet w2.heap.size wx.heap.size) (.slice (some ⟨g, 0, none⟩) (1 + l.length) cap) (P.push d l) ∧ Below w2.heap.size w2 wx)
        case first =>
          have hWA : w.heap.size + 1 < w2.heap.size := by omega
          have HB := Lib.hid (show Below w2.heap.size w2 w2.drew from (Below.refl _ _).drew)
          have z0 : w2.heap.size ≤ w2.drew.heap.size := Nat.le_refl _
          clear a0 a1
          refine wp_region_held_drew (S := KPU w.heap.size (.slice ad l.length cap) (.slice ed d.length ec)) (by kernel_rfl) HS.out (fun hS0 => ?_)
          refine wpAnyH_take (i := 0) (v := .agg #[.slice ed d.length ec]) rfl (by kernel_rfl) (by kernel_rfl) (by kernel_rfl) (fun _ _ _ h => h) (Or.inl ⟨by rfl, fun z hz => ?_⟩) hS0 ?_
          · obtain ⟨z1, z2⟩ := hz
            go_simp
          try simp only [qA, qB, Act.put, qD, qE, qF]
          refine wpAnyH_take (i := 4) (v := .agg #[.slice ad l.length cap]) rfl (by kernel_rfl) (by kernel_rfl) (by kernel_rfl) (fun _ _ _ h => h) (Or.inl ⟨by rfl, fun z hz => ?_⟩) hS0 ?_
          · obtain ⟨z1, z2⟩ := hz
            go_simp
          try simp only [qA, qB, qC, Act.put, qD, qE, qF]
          generalize w2.drew = v0 at *
          refine wpAnyH_ready (rs := [1, 9]) (by kernel_rfl) (by simp) ?_
          refine AllReadyH.cons rfl (fun K hK => ?_) (AllReadyH.cons rfl (fun K hK => ?_) AllReadyH.nil)
          · skip
            go_simp
            refine (l6Own _ d _ (HD2.out.below HB.out) HSD.out.len HSD.out.outs).mono ?_
            rintro e v2 ⟨x3, rfl, hI, hb⟩
            have zv2 : v0.heap.size ≤ v2.heap.size := hb.size
            refine hK.out _ _ (hS0.step (hb.mono HB.out.size) hWA) (fun hS1 => ?_)
            clear hK K
            have HB4 := Lib.hid (HB.out.trans (hb.mono HB.out.size))
            clear HB
            have D5 := Lib.hid (show Ents v2 (Bet v0.heap.size v2.heap.size) x3 d from hI)
            obtain ⟨x3d, x3c, rfl, _, _⟩ := hI
            clear hb
            try simp only [qA, qB, qC, Act.put, qD, qE, qF]
            refine wpAnyH_take (i := 2) (v := .agg #[.slice x3d d.length x3c, .bool true]) rfl (by kernel_rfl) (by kernel_rfl) (by kernel_rfl) (fun _ _ _ h => h) (Or.inl ⟨by rfl, fun z hz => ?_⟩) hS1 ?_
            · obtain ⟨z1, z2⟩ := hz
              go_simp
            try simp only [qA, qB, qC, Act.put, qD, qE, qF]
            refine wpAnyH_ready (rs := [3, 5, 9]) (by kernel_rfl) (by simp) ?_
            refine AllReadyH.cons rfl (fun K hK => ?_) (AllReadyH.cons rfl (fun K hK => ?_) (AllReadyH.cons rfl (fun K hK => ?_) AllReadyH.nil))
            · skip
              go_simp
              have hb := (Below.refl v2.heap.size v2).alloc (Nat.le_refl _) (.cells #[.slice x3d d.length x3c, .bool true] 85)
              have zv7 : v2.heap.size < (v2.alloc (.cells #[.slice x3d d.length x3c, .bool true] 85)).heap.size := by simp
              refine hK.out _ _ (hS1.step (hb.mono HB4.out.size) hWA) (fun hS6 => ?_)
              clear hK K
              have OWN8 := Lib.hid (show (v2.alloc (.cells #[.slice x3d d.length x3c, .bool true] 85)).ownsRow w2.heap.size 85 2 (.slice (some ⟨v2.heap.size, 0, none⟩) 1 1) 1 [.slice x3d d.length x3c, .bool true] from World.ownsRow_lit (base := w2.heap.size) (e := 85) (size := 2) v2 #[.slice x3d d.length x3c, .bool true] 1 HB4.out.size (by decide) rfl)
              have HB9 := Lib.hid (HB4.out.trans (hb.mono HB4.out.size))
              have D10 := Lib.hid (D5.out.below entE_ok hb)
              clear HB4 D5
              clear hb
              generalize v2.alloc (.cells #[.slice x3d d.length x3c, .bool true] 85) = v7 at *
              try simp only [qA, qB, qC, Act.put, qD, qE, qF]
              refine wpAnyH_ready (rs := [5, 9]) (by kernel_rfl) (by simp) ?_
              refine AllReadyH.cons rfl (fun K hK => ?_) (AllReadyH.cons rfl (fun K hK => ?_) AllReadyH.nil)
              · skip
                go_simp
                refine (l8Own _ l _ (HU2.out.below HB9.out) HSM.out.len HSM.out.each).mono ?_
                rintro e v12 ⟨u13, rfl, hI, hb⟩
                have zv12 : v7.heap.size ≤ v12.heap.size := hb.size
                refine hK.out _ _ (hS6.step (hb.mono HB9.out.size) hWA) (fun hS11 => ?_)
                clear hK K
                have HB14 := Lib.hid (HB9.out.trans (hb.mono HB9.out.size))
                have D15 := Lib.hid (D10.out.below entE_ok hb)
                have OWN16 := Lib.hid (own_kept OWN8.out hb (Nat.le_refl _))
                clear HB9 D10 OWN8
                have LL17 := Lib.hid (show Lays v12 (Bet v7.heap.size v12.heap.size) u13 l from hI)
                obtain ⟨u13d, u13c, rfl, _, _⟩ := hI
                clear hb
                try simp only [qA, qB, qC, Act.put, qD, qE, qF]
                refine wpAnyH_take (i := 6) (v := .slice u13d l.length u13c) rfl (by kernel_rfl) (by kernel_rfl) (by kernel_rfl) (fun _ _ _ h => h) (Or.inl ⟨by rfl, fun z hz => ?_⟩) hS11 ?_
                · go_simp
                  rw [field_stack]
                  rfl
                try simp only [qA, qB, qC, Act.put, qD, qE, qF]
                refine wpAnyH_ready (rs := [7, 9]) (by kernel_rfl) (by simp) ?_
                refine AllReadyH.cons rfl (fun K hK => ?_) (AllReadyH.cons rfl (fun K hK => ?_) AllReadyH.nil)
                · skip
                  have zA := HB14.out.size
                  have zq := (World.ownsRow.lt OWN16.out _ rfl).2
                  obtain ⟨C, hsrc, hfin⟩ := lays_push (A := w2.heap.size) (q := v2.heap.size) (X := (fun _ => False)) (t := true) D15.out (fun b hb => by have h1 := hb.1; have h2 := hb.2; exact ⟨by omega, by omega, by omega⟩) LL17.out (fun b hb => by have h1 := hb.1; have h2 := hb.2; exact ⟨by omega, by omega, by omega⟩) (fun b hb hc => by have h1 := hb.1; have h2 := hb.2; have h3 := hc.1; have h4 := hc.2; omega) (fun _ _ h => h) (fun _ _ h => h) (fun h => h) (fun _ h => h.elim) HSM.out.len
                  have HFIN := Lib.hid hfin; clear hfin
                  refine step_append_any _ rfl _ _ 68 rfl w2.heap.size 85 i0 (.agg #[.slice none 0 0, .bool false]) 2 32 Tryz.underlying68 hi hz0 hz1 hz2 rfl (by decide) (.slice (some ⟨v2.heap.size, 0, none⟩) 1 1) 1 [.slice x3d d.length x3c, .bool true] rfl OWN16.out (.slice u13d l.length u13c) l.length (flat C l.length) rfl hsrc (by decide) (by have := HL4.out; unfold maxLen; omega) (by have := HL4.out; omega) zA ?_
                  intro g20 cp21 v19 hown hgr hat hlt
                  have hb : Below w2.heap.size v12 v19 := (Below.refl _ _).grown hgr zA (fun k hk => (World.ownsRow.lt OWN16.out k hk).1)
                  have zv19 : v12.heap.size ≤ v19.heap.size := hgr.size
                  have RES22 := Lib.hid (HFIN.out v19 g20 cp21 hown hgr hat hlt)
                  refine hK.out _ _ (hS11.step hb hWA) (fun hS18 => ?_)
                  clear hK K
                  clear D15
                  clear LL17
                  have HB23 := Lib.hid (HB14.out.trans hb)
                  clear HB14
                  clear OWN16 HFIN hown hgr hat hlt hb hsrc zA zq
                  try simp only [qA, qB, qC, Act.put, qD, qE, qF]
                  refine wpAnyH_take (i := 8) (v := .agg #[.slice (some ⟨g20, 0, none⟩) (1 + l.length) cp21]) rfl (by kernel_rfl) (by kernel_rfl) (by kernel_rfl) (fun _ _ _ h => h) (Or.inl ⟨by rfl, fun z hz => ?_⟩) hS18 ?_
                  · obtain ⟨z1, z2⟩ := hz
                    go_simp
                  try simp only [qA, qB, qC, Act.put, qD, qE, qF]
                  refine wpAnyH_ready (rs := [9]) (by kernel_rfl) (by simp) ?_
                  refine AllReadyH.cons rfl (fun K hK => ?_) AllReadyH.nil
                  go_simp
                  have hb := (Below.refl v19.heap.size v19).alloc (Nat.le_refl _) (.cells #[.slice none 0 0] 70)
                  have zv25 : v19.heap.size < (v19.alloc (.cells #[.slice none 0 0] 70)).heap.size := by simp
                  refine hK.out _ _ (hS18.step (hb.mono HB23.out.size) hWA) (fun hS24 => ?_)
                  clear hK K
                  have BX26 := Lib.hid (NBx.new v19 70)
                  have HB27 := Lib.hid (HB23.out.trans (hb.mono HB23.out.size))
                  have RES28 := Lib.hid (RES22.out.below layE_ok hb)
                  clear HB23 RES22
                  clear hb
                  generalize v19.alloc (.cells #[.slice none 0 0] 70) = v25 at *
                  try simp only [qA, qB, qC, Act.put, qD, qE, qF]
                  refine wpAnyH_ready (rs := [10]) (by kernel_rfl) (by simp) ?_
                  refine AllReadyH.cons rfl (fun K hK => ?_) AllReadyH.nil
                  have zA := HB27.out.size
                  obtain ⟨cb, fb, zb⟩ := BX26.out
                  go_simp
                  refine hK.out _ _ (hS24.step ((Below.refl w2.heap.size v25).setCell (p := ⟨v19.heap.size, 0, none⟩) (by show w2.heap.size ≤ v19.heap.size; omega) _) hWA) (fun hS29 => ?_)
                  clear hK K
                  try simp only [qA, qB, qC, Act.put, qD, qE, qF]
                  refine wpAnyH_done (by kernel_rfl) ?_ _
                  go_wp2_with fail
                  go_meet
                  refine ⟨v19.heap.size, g20, cp21, rfl, World.cell?_setCell_same _ _ _ cb, by omega, by simpa [World.setCell] using zb, ?_, HB27.out.setCell (by show w2.heap.size ≤ v19.heap.size; omega) _⟩
                  exact (RES28.out.stand (X := fun b => b = v19.heap.size) layE_ok ((Chg.refl (fun b => b = v19.heap.size) v25).setCell (p := ⟨v19.heap.size, 0, none⟩) rfl _) (fun b hb e => by have h1 := hb.1.2; omega)).wide (fun b hb => ⟨hb.1.1, by have h1 := hb.1.2; simp only [World.setCell, Array.size_modify]; omega⟩) (fun b hb => hb.2)
                · skip
                  go_simp
                  have hb := (Below.refl v12.heap.size v12).alloc (Nat.le_refl _) (.cells #[.slice none 0 0] 70)
                  have zv31 : v12.heap.size < (v12.alloc (.cells #[.slice none 0 0] 70)).heap.size := by simp
                  refine hK.out _ _ (hS11.step (hb.mono HB14.out.size) hWA) (fun hS30 => ?_)
                  clear hK K
                  have BX32 := Lib.hid (NBx.new v12 70)
                  have HB33 := Lib.hid (HB14.out.trans (hb.mono HB14.out.size))
                  have D34 := Lib.hid (D15.out.below entE_ok hb)
                  have LL35 := Lib.hid (LL17.out.below layE_ok hb)
                  have OWN36 := Lib.hid (own_kept OWN16.out hb (Nat.le_refl _))
                  clear HB14 D15 LL17 OWN16
                  clear hb
                  generalize v12.alloc (.cells #[.slice none 0 0] 70) = v31 at *
                  try simp only [qA, qB, qC, Act.put, qD, qE, qF]
                  refine wpAnyH_ready (rs := [7]) (by kernel_rfl) (by simp) ?_
                  refine AllReadyH.cons rfl (fun K hK => ?_) AllReadyH.nil
                  have zA := HB33.out.size
                  have zq := (World.ownsRow.lt OWN36.out _ rfl).2
                  obtain ⟨C, hsrc, hfin⟩ := lays_push (A := w2.heap.size) (q := v2.heap.size) (X := (fun b => b = v12.heap.size)) (t := true) D34.out (fun b hb => by have h1 := hb.1; have h2 := hb.2; exact ⟨by omega, by omega, by omega⟩) LL35.out (fun b hb => by have h1 := hb.1; have h2 := hb.2; exact ⟨by omega, by omega, by omega⟩) (fun b hb hc => by have h1 := hb.1; have h2 := hb.2; have h3 := hc.1; have h4 := hc.2; omega) (fun b hb e => by have h1 := hb.1; have h2 := hb.2; omega) (fun b hb e => by have h1 := hb.1; have h2 := hb.2; omega) (fun e => by omega) (fun b e => by rw [e]; exact BX32.out.2.2) HSM.out.len
                  have HFIN := Lib.hid hfin; clear hfin
                  refine step_append_any _ rfl _ _ 68 rfl w2.heap.size 85 i0 (.agg #[.slice none 0 0, .bool false]) 2 32 Tryz.underlying68 hi hz0 hz1 hz2 rfl (by decide) (.slice (some ⟨v2.heap.size, 0, none⟩) 1 1) 1 [.slice x3d d.length x3c, .bool true] rfl OWN36.out (.slice u13d l.length u13c) l.length (flat C l.length) rfl hsrc (by decide) (by have := HL4.out; unfold maxLen; omega) (by have := HL4.out; omega) zA ?_
                  intro g39 cp40 v38 hown hgr hat hlt
                  have hb : Below w2.heap.size v31 v38 := (Below.refl _ _).grown hgr zA (fun k hk => (World.ownsRow.lt OWN36.out k hk).1)
                  have zv38 : v31.heap.size ≤ v38.heap.size := hgr.size
                  have RES41 := Lib.hid (HFIN.out v38 g39 cp40 hown hgr hat hlt)
                  refine hK.out _ _ (hS30.step hb hWA) (fun hS37 => ?_)
                  clear hK K
                  clear D34
                  clear LL35
                  have HB42 := Lib.hid (HB33.out.trans hb)
                  have BX43 := Lib.hid (BX32.out.stand (X := fun b => some v2.heap.size = some b) ⟨hgr.os, hgr.tape, hgr.output, hgr.size, fun b hb hf => hgr.block b hb fun e => hf e.symm⟩ (fun e => by have := Option.some.inj e; omega))
                  clear HB33 BX32
                  clear OWN36 HFIN hown hgr hat hlt hb hsrc zA zq
                  try simp only [qA, qB, qC, Act.put, qD, qE, qF]
                  refine wpAnyH_take (i := 8) (v := .agg #[.slice (some ⟨g39, 0, none⟩) (1 + l.length) cp40]) rfl (by kernel_rfl) (by kernel_rfl) (by kernel_rfl) (fun _ _ _ h => h) (Or.inl ⟨by rfl, fun z hz => ?_⟩) hS37 ?_
                  · obtain ⟨z1, z2⟩ := hz
                    go_simp
                  try simp only [qA, qB, qC, Act.put, qD, qE, qF]
                  refine wpAnyH_ready (rs := [10]) (by kernel_rfl) (by simp) ?_
                  refine AllReadyH.cons rfl (fun K hK => ?_) AllReadyH.nil
                  have zA := HB42.out.size
                  obtain ⟨cb, fb, zb⟩ := BX43.out
                  go_simp
                  refine hK.out _ _ (hS37.step ((Below.refl w2.heap.size v38).setCell (p := ⟨v12.heap.size, 0, none⟩) (by show w2.heap.size ≤ v12.heap.size; omega) _) hWA) (fun hS44 => ?_)
                  clear hK K
                  try simp only [qA, qB, qC, Act.put, qD, qE, qF]
                  refine wpAnyH_done (by kernel_rfl) ?_ _
                  go_wp2_with fail
                  go_meet
                  refine ⟨v12.heap.size, g39, cp40, rfl, World.cell?_setCell_same _ _ _ cb, by omega, by simpa [World.setCell] using zb, ?_, HB42.out.setCell (by show w2.heap.size ≤ v12.heap.size; omega) _⟩
                  exact (RES41.out.stand (X := fun b => b = v12.heap.size) layE_ok ((Chg.refl (fun b => b = v12.heap.size) v38).setCell (p := ⟨v12.heap.size, 0, none⟩) rfl _) (fun b hb e => hb.2 e)).wide (fun b hb => ⟨hb.1.1, by have h1 := hb.1.2; simp only [World.setCell, Array.size_modify]; omega⟩) (fun b hb => hb.2)
              · skip
                go_simp
                have hb := (Below.refl v7.heap.size v7).alloc (Nat.le_refl _) (.cells #[.slice none 0 0] 70)
                have zv46 : v7.heap.size < (v7.alloc (.cells #[.slice none 0 0] 70)).heap.size := by simp
                refine hK.out _ _ (hS6.step (hb.mono HB9.out.size) hWA) (fun hS45 => ?_)
                clear hK K
                have BX47 := Lib.hid (NBx.new v7 70)
                have HB48 := Lib.hid (HB9.out.trans (hb.mono HB9.out.size))
                have D49 := Lib.hid (D10.out.below entE_ok hb)
                have OWN50 := Lib.hid (own_kept OWN8.out hb (Nat.le_refl _))
                clear HB9 D10 OWN8
                clear hb
                generalize v7.alloc (.cells #[.slice none 0 0] 70) = v46 at *
                try simp only [qA, qB, qC, Act.put, qD, qE, qF]
                refine wpAnyH_ready (rs := [5]) (by kernel_rfl) (by simp) ?_
                refine AllReadyH.cons rfl (fun K hK => ?_) AllReadyH.nil
                go_simp
                refine (l8Own _ l _ (HU2.out.below HB48.out) HSM.out.len HSM.out.each).mono ?_
                rintro e v52 ⟨u53, rfl, hI, hb⟩
                have zv52 : v46.heap.size ≤ v52.heap.size := hb.size
                refine hK.out _ _ (hS45.step (hb.mono HB48.out.size) hWA) (fun hS51 => ?_)
                clear hK K
                have HB54 := Lib.hid (HB48.out.trans (hb.mono HB48.out.size))
                have D55 := Lib.hid (D49.out.below entE_ok hb)
                have OWN56 := Lib.hid (own_kept OWN50.out hb (Nat.le_refl _))
                have BX57 := Lib.hid (BX47.out.below hb)
                clear HB48 D49 OWN50 BX47
                have LL58 := Lib.hid (show Lays v52 (Bet v46.heap.size v52.heap.size) u53 l from hI)
                obtain ⟨u53d, u53c, rfl, _, _⟩ := hI
                clear hb
                try simp only [qA, qB, qC, Act.put, qD, qE, qF]
                refine wpAnyH_take (i := 6) (v := .slice u53d l.length u53c) rfl (by kernel_rfl) (by kernel_rfl) (by kernel_rfl) (fun _ _ _ h => h) (Or.inl ⟨by rfl, fun z hz => ?_⟩) hS51 ?_
                · go_simp
                  rw [field_stack]
                  rfl
                try simp only [qA, qB, qC, Act.put, qD, qE, qF]
                refine wpAnyH_ready (rs := [7]) (by kernel_rfl) (by simp) ?_
                refine AllReadyH.cons rfl (fun K hK => ?_) AllReadyH.nil
                have zA := HB54.out.size
                have zq := (World.ownsRow.lt OWN56.out _ rfl).2
                obtain ⟨C, hsrc, hfin⟩ := lays_push (A := w2.heap.size) (q := v2.heap.size) (X := (fun b => b = v7.heap.size)) (t := true) D55.out (fun b hb => by have h1 := hb.1; have h2 := hb.2; exact ⟨by omega, by omega, by omega⟩) LL58.out (fun b hb => by have h1 := hb.1; have h2 := hb.2; exact ⟨by omega, by omega, by omega⟩) (fun b hb hc => by have h1 := hb.1; have h2 := hb.2; have h3 := hc.1; have h4 := hc.2; omega) (fun b hb e => by have h1 := hb.1; have h2 := hb.2; omega) (fun b hb e => by have h1 := hb.1; have h2 := hb.2; omega) (fun e => by omega) (fun b e => by rw [e]; exact BX57.out.2.2) HSM.out.len
                have HFIN := Lib.hid hfin; clear hfin
                refine step_append_any _ rfl _ _ 68 rfl w2.heap.size 85 i0 (.agg #[.slice none 0 0, .bool false]) 2 32 Tryz.underlying68 hi hz0 hz1 hz2 rfl (by decide) (.slice (some ⟨v2.heap.size, 0, none⟩) 1 1) 1 [.slice x3d d.length x3c, .bool true] rfl OWN56.out (.slice u53d l.length u53c) l.length (flat C l.length) rfl hsrc (by decide) (by have := HL4.out; unfold maxLen; omega) (by have := HL4.out; omega) zA ?_
                intro g61 cp62 v60 hown hgr hat hlt
                have hb : Below w2.heap.size v52 v60 := (Below.refl _ _).grown hgr zA (fun k hk => (World.ownsRow.lt OWN56.out k hk).1)
                have zv60 : v52.heap.size ≤ v60.heap.size := hgr.size
                have RES63 := Lib.hid (HFIN.out v60 g61 cp62 hown hgr hat hlt)
                refine hK.out _ _ (hS51.step hb hWA) (fun hS59 => ?_)
                clear hK K
                clear D55
                clear LL58
                have HB64 := Lib.hid (HB54.out.trans hb)
                have BX65 := Lib.hid (BX57.out.stand (X := fun b => some v2.heap.size = some b) ⟨hgr.os, hgr.tape, hgr.output, hgr.size, fun b hb hf => hgr.block b hb fun e => hf e.symm⟩ (fun e => by have := Option.some.inj e; omega))
                clear HB54 BX57
                clear OWN56 HFIN hown hgr hat hlt hb hsrc zA zq
                try simp only [qA, qB, qC, Act.put, qD, qE, qF]
                refine wpAnyH_take (i := 8) (v := .agg #[.slice (some ⟨g61, 0, none⟩) (1 + l.length) cp62]) rfl (by kernel_rfl) (by kernel_rfl) (by kernel_rfl) (fun _ _ _ h => h) (Or.inl ⟨by rfl, fun z hz => ?_⟩) hS59 ?_
                · obtain ⟨z1, z2⟩ := hz
                  go_simp
                try simp only [qA, qB, qC, Act.put, qD, qE, qF]
                refine wpAnyH_ready (rs := [10]) (by kernel_rfl) (by simp) ?_
                refine AllReadyH.cons rfl (fun K hK => ?_) AllReadyH.nil
                have zA := HB64.out.size
                obtain ⟨cb, fb, zb⟩ := BX65.out
                go_simp
                refine hK.out _ _ (hS59.step ((Below.refl w2.heap.size v60).setCell (p := ⟨v7.heap.size, 0, none⟩) (by show w2.heap.size ≤ v7.heap.size; omega) _) hWA) (fun hS66 => ?_)
                clear hK K
                try simp only [qA, qB, qC, Act.put, qD, qE, qF]
                refine wpAnyH_done (by kernel_rfl) ?_ _
                go_wp2_with fail
                go_meet
                refine ⟨v7.heap.size, g61, cp62, rfl, World.cell?_setCell_same _ _ _ cb, by omega, by simpa [World.setCell] using zb, ?_, HB64.out.setCell (by show w2.heap.size ≤ v7.heap.size; omega) _⟩
                exact (RES63.out.stand (X := fun b => b = v7.heap.size) layE_ok ((Chg.refl (fun b => b = v7.heap.size) v60).setCell (p := ⟨v7.heap.size, 0, none⟩) rfl _) (fun b hb e => hb.2 e)).wide (fun b hb => ⟨hb.1.1, by have h1 := hb.1.2; simp only [World.setCell, Array.size_modify]; omega⟩) (fun b hb => hb.2)
            · skip
              go_simp
              refine (l8Own _ l _ (HU2.out.below HB4.out) HSM.out.len HSM.out.each).mono ?_
              rintro e v68 ⟨u69, rfl, hI, hb⟩
              have zv68 : v2.heap.size ≤ v68.heap.size := hb.size
              refine hK.out _ _ (hS1.step (hb.mono HB4.out.size) hWA) (fun hS67 => ?_)
              clear hK K
              have HB70 := Lib.hid (HB4.out.trans (hb.mono HB4.out.size))
              have D71 := Lib.hid (D5.out.below entE_ok hb)
              clear HB4 D5
              have LL72 := Lib.hid (show Lays v68 (Bet v2.heap.size v68.heap.size) u69 l from hI)
              obtain ⟨u69d, u69c, rfl, _, _⟩ := hI
              clear hb
              try simp only [qA, qB, qC, Act.put, qD, qE, qF]
              refine wpAnyH_take (i := 6) (v := .slice u69d l.length u69c) rfl (by kernel_rfl) (by kernel_rfl) (by kernel_rfl) (fun _ _ _ h => h) (Or.inl ⟨by rfl, fun z hz => ?_⟩) hS67 ?_
              · go_simp
                rw [field_stack]
                rfl
              try simp only [qA, qB, qC, Act.put, qD, qE, qF]
              refine wpAnyH_ready (rs := [3, 9]) (by kernel_rfl) (by simp) ?_
              refine AllReadyH.cons rfl (fun K hK => ?_) (AllReadyH.cons rfl (fun K hK => ?_) AllReadyH.nil)
              · skip
                go_simp
                have hb := (Below.refl v68.heap.size v68).alloc (Nat.le_refl _) (.cells #[.slice x3d d.length x3c, .bool true] 85)
                have zv74 : v68.heap.size < (v68.alloc (.cells #[.slice x3d d.length x3c, .bool true] 85)).heap.size := by simp
                refine hK.out _ _ (hS67.step (hb.mono HB70.out.size) hWA) (fun hS73 => ?_)
                clear hK K
                have OWN75 := Lib.hid (show (v68.alloc (.cells #[.slice x3d d.length x3c, .bool true] 85)).ownsRow w2.heap.size 85 2 (.slice (some ⟨v68.heap.size, 0, none⟩) 1 1) 1 [.slice x3d d.length x3c, .bool true] from World.ownsRow_lit (base := w2.heap.size) (e := 85) (size := 2) v68 #[.slice x3d d.length x3c, .bool true] 1 HB70.out.size (by decide) rfl)
                have HB76 := Lib.hid (HB70.out.trans (hb.mono HB70.out.size))
                have D77 := Lib.hid (D71.out.below entE_ok hb)
                have LL78 := Lib.hid (LL72.out.below layE_ok hb)
                clear HB70 D71 LL72
                clear hb
                generalize v68.alloc (.cells #[.slice x3d d.length x3c, .bool true] 85) = v74 at *
                try simp only [qA, qB, qC, Act.put, qD, qE, qF]
                refine wpAnyH_ready (rs := [7, 9]) (by kernel_rfl) (by simp) ?_
                refine AllReadyH.cons rfl (fun K hK => ?_) (AllReadyH.cons rfl (fun K hK => ?_) AllReadyH.nil)
                · skip
                  have zA := HB76.out.size
                  have zq := (World.ownsRow.lt OWN75.out _ rfl).2
                  obtain ⟨C, hsrc, hfin⟩ := lays_push (A := w2.heap.size) (q := v68.heap.size) (X := (fun _ => False)) (t := true) D77.out (fun b hb => by have h1 := hb.1; have h2 := hb.2; exact ⟨by omega, by omega, by omega⟩) LL78.out (fun b hb => by have h1 := hb.1; have h2 := hb.2; exact ⟨by omega, by omega, by omega⟩) (fun b hb hc => by have h1 := hb.1; have h2 := hb.2; have h3 := hc.1; have h4 := hc.2; omega) (fun _ _ h => h) (fun _ _ h => h) (fun h => h) (fun _ h => h.elim) HSM.out.len
                  have HFIN := Lib.hid hfin; clear hfin
                  refine step_append_any _ rfl _ _ 68 rfl w2.heap.size 85 i0 (.agg #[.slice none 0 0, .bool false]) 2 32 Tryz.underlying68 hi hz0 hz1 hz2 rfl (by decide) (.slice (some ⟨v68.heap.size, 0, none⟩) 1 1) 1 [.slice x3d d.length x3c, .bool true] rfl OWN75.out (.slice u69d l.length u69c) l.length (flat C l.length) rfl hsrc (by decide) (by have := HL4.out; unfold maxLen; omega) (by have := HL4.out; omega) zA ?_
                  intro g81 cp82 v80 hown hgr hat hlt
                  have hb : Below w2.heap.size v74 v80 := (Below.refl _ _).grown hgr zA (fun k hk => (World.ownsRow.lt OWN75.out k hk).1)
                  have zv80 : v74.heap.size ≤ v80.heap.size := hgr.size
                  have RES83 := Lib.hid (HFIN.out v80 g81 cp82 hown hgr hat hlt)
                  refine hK.out _ _ (hS73.step hb hWA) (fun hS79 => ?_)
                  clear hK K
                  clear D77
                  clear LL78
                  have HB84 := Lib.hid (HB76.out.trans hb)
                  clear HB76
                  clear OWN75 HFIN hown hgr hat hlt hb hsrc zA zq
                  try simp only [qA, qB, qC, Act.put, qD, qE, qF]
                  refine wpAnyH_take (i := 8) (v := .agg #[.slice (some ⟨g81, 0, none⟩) (1 + l.length) cp82]) rfl (by kernel_rfl) (by kernel_rfl) (by kernel_rfl) (fun _ _ _ h => h) (Or.inl ⟨by rfl, fun z hz => ?_⟩) hS79 ?_
                  · obtain ⟨z1, z2⟩ := hz
                    go_simp
                  try simp only [qA, qB, qC, Act.put, qD, qE, qF]
                  refine wpAnyH_ready (rs := [9]) (by kernel_rfl) (by simp) ?_
                  refine AllReadyH.cons rfl (fun K hK => ?_) AllReadyH.nil
                  go_simp
                  have hb := (Below.refl v80.heap.size v80).alloc (Nat.le_refl _) (.cells #[.slice none 0 0] 70)
                  have zv86 : v80.heap.size < (v80.alloc (.cells #[.slice none 0 0] 70)).heap.size := by simp
                  refine hK.out _ _ (hS79.step (hb.mono HB84.out.size) hWA) (fun hS85 => ?_)
                  clear hK K
                  have BX87 := Lib.hid (NBx.new v80 70)
                  have HB88 := Lib.hid (HB84.out.trans (hb.mono HB84.out.size))
                  have RES89 := Lib.hid (RES83.out.below layE_ok hb)
                  clear HB84 RES83
                  clear hb
                  generalize v80.alloc (.cells #[.slice none 0 0] 70) = v86 at *
                  try simp only [qA, qB, qC, Act.put, qD, qE, qF]
                  refine wpAnyH_ready (rs := [10]) (by kernel_rfl) (by simp) ?_
                  refine AllReadyH.cons rfl (fun K hK => ?_) AllReadyH.nil
                  have zA := HB88.out.size
                  obtain ⟨cb, fb, zb⟩ := BX87.out
                  go_simp
                  refine hK.out _ _ (hS85.step ((Below.refl w2.heap.size v86).setCell (p := ⟨v80.heap.size, 0, none⟩) (by show w2.heap.size ≤ v80.heap.size; omega) _) hWA) (fun hS90 => ?_)
                  clear hK K
                  try simp only [qA, qB, qC, Act.put, qD, qE, qF]
                  refine wpAnyH_done (by kernel_rfl) ?_ _
                  go_wp2_with fail
                  go_meet
                  refine ⟨v80.heap.size, g81, cp82, rfl, World.cell?_setCell_same _ _ _ cb, by omega, by simpa [World.setCell] using zb, ?_, HB88.out.setCell (by show w2.heap.size ≤ v80.heap.size; omega) _⟩
                  exact (RES89.out.stand (X := fun b => b = v80.heap.size) layE_ok ((Chg.refl (fun b => b = v80.heap.size) v86).setCell (p := ⟨v80.heap.size, 0, none⟩) rfl _) (fun b hb e => by have h1 := hb.1.2; omega)).wide (fun b hb => ⟨hb.1.1, by have h1 := hb.1.2; simp only [World.setCell, Array.size_modify]; omega⟩) (fun b hb => hb.2)
                · skip
                  go_simp
                  have hb := (Below.refl v74.heap.size v74).alloc (Nat.le_refl _) (.cells #[.slice none 0 0] 70)
                  have zv92 : v74.heap.size < (v74.alloc (.cells #[.slice none 0 0] 70)).heap.size := by simp
                  refine hK.out _ _ (hS73.step (hb.mono HB76.out.size) hWA) (fun hS91 => ?_)
                  clear hK K
                  have BX93 := Lib.hid (NBx.new v74 70)
                  have HB94 := Lib.hid (HB76.out.trans (hb.mono HB76.out.size))
                  have D95 := Lib.hid (D77.out.below entE_ok hb)
                  have LL96 := Lib.hid (LL78.out.below layE_ok hb)
                  have OWN97 := Lib.hid (own_kept OWN75.out hb (Nat.le_refl _))
                  clear HB76 D77 LL78 OWN75
                  clear hb
                  generalize v74.alloc (.cells #[.slice none 0 0] 70) = v92 at *
                  try simp only [qA, qB, qC, Act.put, qD, qE, qF]
                  refine wpAnyH_ready (rs := [7]) (by kernel_rfl) (by simp) ?_
                  refine AllReadyH.cons rfl (fun K hK => ?_) AllReadyH.nil
                  have zA := HB94.out.size
                  have zq := (World.ownsRow.lt OWN97.out _ rfl).2
                  obtain ⟨C, hsrc, hfin⟩ := lays_push (A := w2.heap.size) (q := v68.heap.size) (X := (fun b => b = v74.heap.size)) (t := true) D95.out (fun b hb => by have h1 := hb.1; have h2 := hb.2; exact ⟨by omega, by omega, by omega⟩) LL96.out (fun b hb => by have h1 := hb.1; have h2 := hb.2; exact ⟨by omega, by omega, by omega⟩) (fun b hb hc => by have h1 := hb.1; have h2 := hb.2; have h3 := hc.1; have h4 := hc.2; omega) (fun b hb e => by have h1 := hb.1; have h2 := hb.2; omega) (fun b hb e => by have h1 := hb.1; have h2 := hb.2; omega) (fun e => by omega) (fun b e => by rw [e]; exact BX93.out.2.2) HSM.out.len
                  have HFIN := Lib.hid hfin; clear hfin
                  refine step_append_any _ rfl _ _ 68 rfl w2.heap.size 85 i0 (.agg #[.slice none 0 0, .bool false]) 2 32 Tryz.underlying68 hi hz0 hz1 hz2 rfl (by decide) (.slice (some ⟨v68.heap.size, 0, none⟩) 1 1) 1 [.slice x3d d.length x3c, .bool true] rfl OWN97.out (.slice u69d l.length u69c) l.length (flat C l.length) rfl hsrc (by decide) (by have := HL4.out; unfold maxLen; omega) (by have := HL4.out; omega) zA ?_
                  intro g100 cp101 v99 hown hgr hat hlt
                  have hb : Below w2.heap.size v92 v99 := (Below.refl _ _).grown hgr zA (fun k hk => (World.ownsRow.lt OWN97.out k hk).1)
                  have zv99 : v92.heap.size ≤ v99.heap.size := hgr.size
                  have RES102 := Lib.hid (HFIN.out v99 g100 cp101 hown hgr hat hlt)
                  refine hK.out _ _ (hS91.step hb hWA) (fun hS98 => ?_)
                  clear hK K
                  clear D95
                  clear LL96
                  have HB103 := Lib.hid (HB94.out.trans hb)
                  have BX104 := Lib.hid (BX93.out.stand (X := fun b => some v68.heap.size = some b) ⟨hgr.os, hgr.tape, hgr.output, hgr.size, fun b hb hf => hgr.block b hb fun e => hf e.symm⟩ (fun e => by have := Option.some.inj e; omega))
                  clear HB94 BX93
                  clear OWN97 HFIN hown hgr hat hlt hb hsrc zA zq
                  try simp only [qA, qB, qC, Act.put, qD, qE, qF]
                  refine wpAnyH_take (i := 8) (v := .agg #[.slice (some ⟨g100, 0, none⟩) (1 + l.length) cp101]) rfl (by kernel_rfl) (by kernel_rfl) (by kernel_rfl) (fun _ _ _ h => h) (Or.inl ⟨by rfl, fun z hz => ?_⟩) hS98 ?_
                  · obtain ⟨z1, z2⟩ := hz
                    go_simp
                  try simp only [qA, qB, qC, Act.put, qD, qE, qF]
                  refine wpAnyH_ready (rs := [10]) (by kernel_rfl) (by simp) ?_
                  refine AllReadyH.cons rfl (fun K hK => ?_) AllReadyH.nil
                  have zA := HB103.out.size
                  obtain ⟨cb, fb, zb⟩ := BX104.out
                  go_simp
                  refine hK.out _ _ (hS98.step ((Below.refl w2.heap.size v99).setCell (p := ⟨v74.heap.size, 0, none⟩) (by show w2.heap.size ≤ v74.heap.size; omega) _) hWA) (fun hS105 => ?_)
                  clear hK K
                  try simp only [qA, qB, qC, Act.put, qD, qE, qF]
                  refine wpAnyH_done (by kernel_rfl) ?_ _
                  go_wp2_with fail
                  go_meet
                  refine ⟨v74.heap.size, g100, cp101, rfl, World.cell?_setCell_same _ _ _ cb, by omega, by simpa [World.setCell] using zb, ?_, HB103.out.setCell (by show w2.heap.size ≤ v74.heap.size; omega) _⟩
                  exact (RES102.out.stand (X := fun b => b = v74.heap.size) layE_ok ((Chg.refl (fun b => b = v74.heap.size) v99).setCell (p := ⟨v74.heap.size, 0, none⟩) rfl _) (fun b hb e => hb.2 e)).wide (fun b hb => ⟨hb.1.1, by have h1 := hb.1.2; simp only [World.setCell, Array.size_modify]; omega⟩) (fun b hb => hb.2)
              · skip
                go_simp
                have hb := (Below.refl v68.heap.size v68).alloc (Nat.le_refl _) (.cells #[.slice none 0 0] 70)
                have zv107 : v68.heap.size < (v68.alloc (.cells #[.slice none 0 0] 70)).heap.size := by simp
                refine hK.out _ _ (hS67.step (hb.mono HB70.out.size) hWA) (fun hS106 => ?_)
                clear hK K
                have BX108 := Lib.hid (NBx.new v68 70)
                have HB109 := Lib.hid (HB70.out.trans (hb.mono HB70.out.size))
                have D110 := Lib.hid (D71.out.below entE_ok hb)
                have LL111 := Lib.hid (LL72.out.below layE_ok hb)
                clear HB70 D71 LL72
                clear hb
                generalize v68.alloc (.cells #[.slice none 0 0] 70) = v107 at *
                try simp only [qA, qB, qC, Act.put, qD, qE, qF]
                refine wpAnyH_ready (rs := [3]) (by kernel_rfl) (by simp) ?_
                refine AllReadyH.cons rfl (fun K hK => ?_) AllReadyH.nil
                go_simp
                have hb := (Below.refl v107.heap.size v107).alloc (Nat.le_refl _) (.cells #[.slice x3d d.length x3c, .bool true] 85)
                have zv113 : v107.heap.size < (v107.alloc (.cells #[.slice x3d d.length x3c, .bool true] 85)).heap.size := by simp
                refine hK.out _ _ (hS106.step (hb.mono HB109.out.size) hWA) (fun hS112 => ?_)
                clear hK K
                have OWN114 := Lib.hid (show (v107.alloc (.cells #[.slice x3d d.length x3c, .bool true] 85)).ownsRow w2.heap.size 85 2 (.slice (some ⟨v107.heap.size, 0, none⟩) 1 1) 1 [.slice x3d d.length x3c, .bool true] from World.ownsRow_lit (base := w2.heap.size) (e := 85) (size := 2) v107 #[.slice x3d d.length x3c, .bool true] 1 HB109.out.size (by decide) rfl)
                have HB115 := Lib.hid (HB109.out.trans (hb.mono HB109.out.size))
                have D116 := Lib.hid (D110.out.below entE_ok hb)
                have LL117 := Lib.hid (LL111.out.below layE_ok hb)
                have BX118 := Lib.hid (BX108.out.below hb)
                clear HB109 D110 LL111 BX108
                clear hb
                generalize v107.alloc (.cells #[.slice x3d d.length x3c, .bool true] 85) = v113 at *
                try simp only [qA, qB, qC, Act.put, qD, qE, qF]
                refine wpAnyH_ready (rs := [7]) (by kernel_rfl) (by simp) ?_
                refine AllReadyH.cons rfl (fun K hK => ?_) AllReadyH.nil
                have zA := HB115.out.size
                have zq := (World.ownsRow.lt OWN114.out _ rfl).2
                obtain ⟨C, hsrc, hfin⟩ := lays_push (A := w2.heap.size) (q := v107.heap.size) (X := (fun b => b = v68.heap.size)) (t := true) D116.out (fun b hb => by have h1 := hb.1; have h2 := hb.2; exact ⟨by omega, by omega, by omega⟩) LL117.out (fun b hb => by have h1 := hb.1; have h2 := hb.2; exact ⟨by omega, by omega, by omega⟩) (fun b hb hc => by have h1 := hb.1; have h2 := hb.2; have h3 := hc.1; have h4 := hc.2; omega) (fun b hb e => by have h1 := hb.1; have h2 := hb.2; omega) (fun b hb e => by have h1 := hb.1; have h2 := hb.2; omega) (fun e => by omega) (fun b e => by rw [e]; exact BX118.out.2.2) HSM.out.len
                have HFIN := Lib.hid hfin; clear hfin
                refine step_append_any _ rfl _ _ 68 rfl w2.heap.size 85 i0 (.agg #[.slice none 0 0, .bool false]) 2 32 Tryz.underlying68 hi hz0 hz1 hz2 rfl (by decide) (.slice (some ⟨v107.heap.size, 0, none⟩) 1 1) 1 [.slice x3d d.length x3c, .bool true] rfl OWN114.out (.slice u69d l.length u69c) l.length (flat C l.length) rfl hsrc (by decide) (by have := HL4.out; unfold maxLen; omega) (by have := HL4.out; omega) zA ?_
                intro g121 cp122 v120 hown hgr hat hlt
                have hb : Below w2.heap.size v113 v120 := (Below.refl _ _).grown hgr zA (fun k hk => (World.ownsRow.lt OWN114.out k hk).1)
                have zv120 : v113.heap.size ≤ v120.heap.size := hgr.size
                have RES123 := Lib.hid (HFIN.out v120 g121 cp122 hown hgr hat hlt)
                refine hK.out _ _ (hS112.step hb hWA) (fun hS119 => ?_)
                clear hK K
                clear D116
                clear LL117
                have HB124 := Lib.hid (HB115.out.trans hb)
                have BX125 := Lib.hid (BX118.out.stand (X := fun b => some v107.heap.size = some b) ⟨hgr.os, hgr.tape, hgr.output, hgr.size, fun b hb hf => hgr.block b hb fun e => hf e.symm⟩ (fun e => by have := Option.some.inj e; omega))
                clear HB115 BX118
                clear OWN114 HFIN hown hgr hat hlt hb hsrc zA zq
                try simp only [qA, qB, qC, Act.put, qD, qE, qF]
                refine wpAnyH_take (i := 8) (v := .agg #[.slice (some ⟨g121, 0, none⟩) (1 + l.length) cp122]) rfl (by kernel_rfl) (by kernel_rfl) (by kernel_rfl) (fun _ _ _ h => h) (Or.inl ⟨by rfl, fun z hz => ?_⟩) hS119 ?_
                · obtain ⟨z1, z2⟩ := hz
                  go_simp
                try simp only [qA, qB, qC, Act.put, qD, qE, qF]
                refine wpAnyH_ready (rs := [10]) (by kernel_rfl) (by simp) ?_
                refine AllReadyH.cons rfl (fun K hK => ?_) AllReadyH.nil
                have zA := HB124.out.size
                obtain ⟨cb, fb, zb⟩ := BX125.out
                go_simp
                refine hK.out _ _ (hS119.step ((Below.refl w2.heap.size v120).setCell (p := ⟨v68.heap.size, 0, none⟩) (by show w2.heap.size ≤ v68.heap.size; omega) _) hWA) (fun hS126 => ?_)
                clear hK K
                try simp only [qA, qB, qC, Act.put, qD, qE, qF]
                refine wpAnyH_done (by kernel_rfl) ?_ _
                go_wp2_with fail
                go_meet
                refine ⟨v68.heap.size, g121, cp122, rfl, World.cell?_setCell_same _ _ _ cb, by omega, by simpa [World.setCell] using zb, ?_, HB124.out.setCell (by show w2.heap.size ≤ v68.heap.size; omega) _⟩
                exact (RES123.out.stand (X := fun b => b = v68.heap.size) layE_ok ((Chg.refl (fun b => b = v68.heap.size) v120).setCell (p := ⟨v68.heap.size, 0, none⟩) rfl _) (fun b hb e => hb.2 e)).wide (fun b hb => ⟨hb.1.1, by have h1 := hb.1.2; simp only [World.setCell, Array.size_modify]; omega⟩) (fun b hb => hb.2)
            · skip
              go_simp
              have hb := (Below.refl v2.heap.size v2).alloc (Nat.le_refl _) (.cells #[.slice none 0 0] 70)
              have zv128 : v2.heap.size < (v2.alloc (.cells #[.slice none 0 0] 70)).heap.size := by simp
              refine hK.out _ _ (hS1.step (hb.mono HB4.out.size) hWA) (fun hS127 => ?_)
              clear hK K
              have BX129 := Lib.hid (NBx.new v2 70)
              have HB130 := Lib.hid (HB4.out.trans (hb.mono HB4.out.size))
              have D131 := Lib.hid (D5.out.below entE_ok hb)
              clear HB4 D5
              clear hb
              generalize v2.alloc (.cells #[.slice none 0 0] 70) = v128 at *
              try simp only [qA, qB, qC, Act.put, qD, qE, qF]
              refine wpAnyH_ready (rs := [3, 5]) (by kernel_rfl) (by simp) ?_
              refine AllReadyH.cons rfl (fun K hK => ?_) (AllReadyH.cons rfl (fun K hK => ?_) AllReadyH.nil)
              · skip
                go_simp
                have hb := (Below.refl v128.heap.size v128).alloc (Nat.le_refl _) (.cells #[.slice x3d d.length x3c, .bool true] 85)
                have zv133 : v128.heap.size < (v128.alloc (.cells #[.slice x3d d.length x3c, .bool true] 85)).heap.size := by simp
                refine hK.out _ _ (hS127.step (hb.mono HB130.out.size) hWA) (fun hS132 => ?_)
                clear hK K
                have OWN134 := Lib.hid (show (v128.alloc (.cells #[.slice x3d d.length x3c, .bool true] 85)).ownsRow w2.heap.size 85 2 (.slice (some ⟨v128.heap.size, 0, none⟩) 1 1) 1 [.slice x3d d.length x3c, .bool true] from World.ownsRow_lit (base := w2.heap.size) (e := 85) (size := 2) v128 #[.slice x3d d.length x3c, .bool true] 1 HB130.out.size (by decide) rfl)
                have HB135 := Lib.hid (HB130.out.trans (hb.mono HB130.out.size))
                have D136 := Lib.hid (D131.out.below entE_ok hb)
                have BX137 := Lib.hid (BX129.out.below hb)
                clear HB130 D131 BX129
                clear hb
                generalize v128.alloc (.cells #[.slice x3d d.length x3c, .bool true] 85) = v133 at *
                try simp only [qA, qB, qC, Act.put, qD, qE, qF]
                refine wpAnyH_ready (rs := [5]) (by kernel_rfl) (by simp) ?_
                refine AllReadyH.cons rfl (fun K hK => ?_) AllReadyH.nil
                go_simp
                refine (l8Own _ l _ (HU2.out.below HB135.out) HSM.out.len HSM.out.each).mono ?_
                rintro e v139 ⟨u140, rfl, hI, hb⟩
                have zv139 : v133.heap.size ≤ v139.heap.size := hb.size
                refine hK.out _ _ (hS132.step (hb.mono HB135.out.size) hWA) (fun hS138 => ?_)
                clear hK K
                have HB141 := Lib.hid (HB135.out.trans (hb.mono HB135.out.size))
                have D142 := Lib.hid (D136.out.below entE_ok hb)
                have OWN143 := Lib.hid (own_kept OWN134.out hb (Nat.le_refl _))
                have BX144 := Lib.hid (BX137.out.below hb)
                clear HB135 D136 OWN134 BX137
                have LL145 := Lib.hid (show Lays v139 (Bet v133.heap.size v139.heap.size) u140 l from hI)
                obtain ⟨u140d, u140c, rfl, _, _⟩ := hI
                clear hb
                try simp only [qA, qB, qC, Act.put, qD, qE, qF]
                refine wpAnyH_take (i := 6) (v := .slice u140d l.length u140c) rfl (by kernel_rfl) (by kernel_rfl) (by kernel_rfl) (fun _ _ _ h => h) (Or.inl ⟨by rfl, fun z hz => ?_⟩) hS138 ?_
                · go_simp
                  rw [field_stack]
                  rfl
                try simp only [qA, qB, qC, Act.put, qD, qE, qF]
                refine wpAnyH_ready (rs := [7]) (by kernel_rfl) (by simp) ?_
                refine AllReadyH.cons rfl (fun K hK => ?_) AllReadyH.nil
                have zA := HB141.out.size
                have zq := (World.ownsRow.lt OWN143.out _ rfl).2
                obtain ⟨C, hsrc, hfin⟩ := lays_push (A := w2.heap.size) (q := v128.heap.size) (X := (fun b => b = v2.heap.size)) (t := true) D142.out (fun b hb => by have h1 := hb.1; have h2 := hb.2; exact ⟨by omega, by omega, by omega⟩) LL145.out (fun b hb => by have h1 := hb.1; have h2 := hb.2; exact ⟨by omega, by omega, by omega⟩) (fun b hb hc => by have h1 := hb.1; have h2 := hb.2; have h3 := hc.1; have h4 := hc.2; omega) (fun b hb e => by have h1 := hb.1; have h2 := hb.2; omega) (fun b hb e => by have h1 := hb.1; have h2 := hb.2; omega) (fun e => by omega) (fun b e => by rw [e]; exact BX144.out.2.2) HSM.out.len
                have HFIN := Lib.hid hfin; clear hfin
                refine step_append_any _ rfl _ _ 68 rfl w2.heap.size 85 i0 (.agg #[.slice none 0 0, .bool false]) 2 32 Tryz.underlying68 hi hz0 hz1 hz2 rfl (by decide) (.slice (some ⟨v128.heap.size, 0, none⟩) 1 1) 1 [.slice x3d d.length x3c, .bool true] rfl OWN143.out (.slice u140d l.length u140c) l.length (flat C l.length) rfl hsrc (by decide) (by have := HL4.out; unfold maxLen; omega) (by have := HL4.out; omega) zA ?_
                intro g148 cp149 v147 hown hgr hat hlt
                have hb : Below w2.heap.size v139 v147 := (Below.refl _ _).grown hgr zA (fun k hk => (World.ownsRow.lt OWN143.out k hk).1)
                have zv147 : v139.heap.size ≤ v147.heap.size := hgr.size
                have RES150 := Lib.hid (HFIN.out v147 g148 cp149 hown hgr hat hlt)
                refine hK.out _ _ (hS138.step hb hWA) (fun hS146 => ?_)
                clear hK K
                clear D142
                clear LL145
                have HB151 := Lib.hid (HB141.out.trans hb)
                have BX152 := Lib.hid (BX144.out.stand (X := fun b => some v128.heap.size = some b) ⟨hgr.os, hgr.tape, hgr.output, hgr.size, fun b hb hf => hgr.block b hb fun e => hf e.symm⟩ (fun e => by have := Option.some.inj e; omega))
                clear HB141 BX144
                clear OWN143 HFIN hown hgr hat hlt hb hsrc zA zq
                try simp only [qA, qB, qC, Act.put, qD, qE, qF]
                refine wpAnyH_take (i := 8) (v := .agg #[.slice (some ⟨g148, 0, none⟩) (1 + l.length) cp149]) rfl (by kernel_rfl) (by kernel_rfl) (by kernel_rfl) (fun _ _ _ h => h) (Or.inl ⟨by rfl, fun z hz => ?_⟩) hS146 ?_
                · obtain ⟨z1, z2⟩ := hz
                  go_simp
                try simp only [qA, qB, qC, Act.put, qD, qE, qF]
                refine wpAnyH_ready (rs := [10]) (by kernel_rfl) (by simp) ?_
                refine AllReadyH.cons rfl (fun K hK => ?_) AllReadyH.nil
                have zA := HB151.out.size
                obtain ⟨cb, fb, zb⟩ := BX152.out
                go_simp
                refine hK.out _ _ (hS146.step ((Below.refl w2.heap.size v147).setCell (p := ⟨v2.heap.size, 0, none⟩) (by show w2.heap.size ≤ v2.heap.size; omega) _) hWA) (fun hS153 => ?_)
                clear hK K
                try simp only [qA, qB, qC, Act.put, qD, qE, qF]
                refine wpAnyH_done (by kernel_rfl) ?_ _
                go_wp2_with fail
                go_meet
                refine ⟨v2.heap.size, g148, cp149, rfl, World.cell?_setCell_same _ _ _ cb, by omega, by simpa [World.setCell] using zb, ?_, HB151.out.setCell (by show w2.heap.size ≤ v2.heap.size; omega) _⟩
                exact (RES150.out.stand (X := fun b => b = v2.heap.size) layE_ok ((Chg.refl (fun b => b = v2.heap.size) v147).setCell (p := ⟨v2.heap.size, 0, none⟩) rfl _) (fun b hb e => hb.2 e)).wide (fun b hb => ⟨hb.1.1, by have h1 := hb.1.2; simp only [World.setCell, Array.size_modify]; omega⟩) (fun b hb => hb.2)
              · skip
                go_simp
                refine (l8Own _ l _ (HU2.out.below HB130.out) HSM.out.len HSM.out.each).mono ?_
                rintro e v155 ⟨u156, rfl, hI, hb⟩
                have zv155 : v128.heap.size ≤ v155.heap.size := hb.size
                refine hK.out _ _ (hS127.step (hb.mono HB130.out.size) hWA) (fun hS154 => ?_)
                clear hK K
                have HB157 := Lib.hid (HB130.out.trans (hb.mono HB130.out.size))
                have D158 := Lib.hid (D131.out.below entE_ok hb)
                have BX159 := Lib.hid (BX129.out.below hb)
                clear HB130 D131 BX129
                have LL160 := Lib.hid (show Lays v155 (Bet v128.heap.size v155.heap.size) u156 l from hI)
                obtain ⟨u156d, u156c, rfl, _, _⟩ := hI
                clear hb
                try simp only [qA, qB, qC, Act.put, qD, qE, qF]
                refine wpAnyH_take (i := 6) (v := .slice u156d l.length u156c) rfl (by kernel_rfl) (by kernel_rfl) (by kernel_rfl) (fun _ _ _ h => h) (Or.inl ⟨by rfl, fun z hz => ?_⟩) hS154 ?_
                · go_simp
                  rw [field_stack]
                  rfl
                try simp only [qA, qB, qC, Act.put, qD, qE, qF]
                refine wpAnyH_ready (rs := [3]) (by kernel_rfl) (by simp) ?_
                refine AllReadyH.cons rfl (fun K hK => ?_) AllReadyH.nil
                go_simp
                have hb := (Below.refl v155.heap.size v155).alloc (Nat.le_refl _) (.cells #[.slice x3d d.length x3c, .bool true] 85)
                have zv162 : v155.heap.size < (v155.alloc (.cells #[.slice x3d d.length x3c, .bool true] 85)).heap.size := by simp
                refine hK.out _ _ (hS154.step (hb.mono HB157.out.size) hWA) (fun hS161 => ?_)
                clear hK K
                have OWN163 := Lib.hid (show (v155.alloc (.cells #[.slice x3d d.length x3c, .bool true] 85)).ownsRow w2.heap.size 85 2 (.slice (some ⟨v155.heap.size, 0, none⟩) 1 1) 1 [.slice x3d d.length x3c, .bool true] from World.ownsRow_lit (base := w2.heap.size) (e := 85) (size := 2) v155 #[.slice x3d d.length x3c, .bool true] 1 HB157.out.size (by decide) rfl)
                have HB164 := Lib.hid (HB157.out.trans (hb.mono HB157.out.size))
                have D165 := Lib.hid (D158.out.below entE_ok hb)
                have LL166 := Lib.hid (LL160.out.below layE_ok hb)
                have BX167 := Lib.hid (BX159.out.below hb)
                clear HB157 D158 LL160 BX159
                clear hb
                generalize v155.alloc (.cells #[.slice x3d d.length x3c, .bool true] 85) = v162 at *
                try simp only [qA, qB, qC, Act.put, qD, qE, qF]
                refine wpAnyH_ready (rs := [7]) (by kernel_rfl) (by simp) ?_
                refine AllReadyH.cons rfl (fun K hK => ?_) AllReadyH.nil
                have zA := HB164.out.size
                have zq := (World.ownsRow.lt OWN163.out _ rfl).2
                obtain ⟨C, hsrc, hfin⟩ := lays_push (A := w2.heap.size) (q := v155.heap.size) (X := (fun b => b = v2.heap.size)) (t := true) D165.out (fun b hb => by have h1 := hb.1; have h2 := hb.2; exact ⟨by omega, by omega, by omega⟩) LL166.out (fun b hb => by have h1 := hb.1; have h2 := hb.2; exact ⟨by omega, by omega, by omega⟩) (fun b hb hc => by have h1 := hb.1; have h2 := hb.2; have h3 := hc.1; have h4 := hc.2; omega) (fun b hb e => by have h1 := hb.1; have h2 := hb.2; omega) (fun b hb e => by have h1 := hb.1; have h2 := hb.2; omega) (fun e => by omega) (fun b e => by rw [e]; exact BX167.out.2.2) HSM.out.len
                have HFIN := Lib.hid hfin; clear hfin
                refine step_append_any _ rfl _ _ 68 rfl w2.heap.size 85 i0 (.agg #[.slice none 0 0, .bool false]) 2 32 Tryz.underlying68 hi hz0 hz1 hz2 rfl (by decide) (.slice (some ⟨v155.heap.size, 0, none⟩) 1 1) 1 [.slice x3d d.length x3c, .bool true] rfl OWN163.out (.slice u156d l.length u156c) l.length (flat C l.length) rfl hsrc (by decide) (by have := HL4.out; unfold maxLen; omega) (by have := HL4.out; omega) zA ?_
                intro g170 cp171 v169 hown hgr hat hlt
                have hb : Below w2.heap.size v162 v169 := (Below.refl _ _).grown hgr zA (fun k hk => (World.ownsRow.lt OWN163.out k hk).1)
                have zv169 : v162.heap.size ≤ v169.heap.size := hgr.size
                have RES172 := Lib.hid (HFIN.out v169 g170 cp171 hown hgr hat hlt)
                refine hK.out _ _ (hS161.step hb hWA) (fun hS168 => ?_)
                clear hK K
                clear D165
                clear LL166
                have HB173 := Lib.hid (HB164.out.trans hb)
                have BX174 := Lib.hid (BX167.out.stand (X := fun b => some v155.heap.size = some b) ⟨hgr.os, hgr.tape, hgr.output, hgr.size, fun b hb hf => hgr.block b hb fun e => hf e.symm⟩ (fun e => by have := Option.some.inj e; omega))
                clear HB164 BX167
                clear OWN163 HFIN hown hgr hat hlt hb hsrc zA zq
                try simp only [qA, qB, qC, Act.put, qD, qE, qF]
                refine wpAnyH_take (i := 8) (v := .agg #[.slice (some ⟨g170, 0, none⟩) (1 + l.length) cp171]) rfl (by kernel_rfl) (by kernel_rfl) (by kernel_rfl) (fun _ _ _ h => h) (Or.inl ⟨by rfl, fun z hz => ?_⟩) hS168 ?_
                · obtain ⟨z1, z2⟩ := hz
                  go_simp
                try simp only [qA, qB, qC, Act.put, qD, qE, qF]
                refine wpAnyH_ready (rs := [10]) (by kernel_rfl) (by simp) ?_
                refine AllReadyH.cons rfl (fun K hK => ?_) AllReadyH.nil
                have zA := HB173.out.size
                obtain ⟨cb, fb, zb⟩ := BX174.out
                go_simp
                refine hK.out _ _ (hS168.step ((Below.refl w2.heap.size v169).setCell (p := ⟨v2.heap.size, 0, none⟩) (by show w2.heap.size ≤ v2.heap.size; omega) _) hWA) (fun hS175 => ?_)
                clear hK K
                try simp only [qA, qB, qC, Act.put, qD, qE, qF]
                refine wpAnyH_done (by kernel_rfl) ?_ _
                go_wp2_with fail
                go_meet
                refine ⟨v2.heap.size, g170, cp171, rfl, World.cell?_setCell_same _ _ _ cb, by omega, by simpa [World.setCell] using zb, ?_, HB173.out.setCell (by show w2.heap.size ≤ v2.heap.size; omega) _⟩
                exact (RES172.out.stand (X := fun b => b = v2.heap.size) layE_ok ((Chg.refl (fun b => b = v2.heap.size) v169).setCell (p := ⟨v2.heap.size, 0, none⟩) rfl _) (fun b hb e => hb.2 e)).wide (fun b hb => ⟨hb.1.1, by have h1 := hb.1.2; simp only [World.setCell, Array.size_modify]; omega⟩) (fun b hb => hb.2)
          · skip
            go_simp
            have hb := (Below.refl v0.heap.size v0).alloc (Nat.le_refl _) (.cells #[.slice none 0 0] 70)
            have zv177 : v0.heap.size < (v0.alloc (.cells #[.slice none 0 0] 70)).heap.size := by simp
            refine hK.out _ _ (hS0.step (hb.mono HB.out.size) hWA) (fun hS176 => ?_)
            clear hK K
            have BX178 := Lib.hid (NBx.new v0 70)
            have HB179 := Lib.hid (HB.out.trans (hb.mono HB.out.size))
            clear HB
            clear hb
            generalize v0.alloc (.cells #[.slice none 0 0] 70) = v177 at *
            try simp only [qA, qB, qC, Act.put, qD, qE, qF]
            refine wpAnyH_ready (rs := [1]) (by kernel_rfl) (by simp) ?_
            refine AllReadyH.cons rfl (fun K hK => ?_) AllReadyH.nil
            go_simp
            refine (l6Own _ d _ (HD2.out.below HB179.out) HSD.out.len HSD.out.outs).mono ?_
            rintro e v181 ⟨x182, rfl, hI, hb⟩
            have zv181 : v177.heap.size ≤ v181.heap.size := hb.size
            refine hK.out _ _ (hS176.step (hb.mono HB179.out.size) hWA) (fun hS180 => ?_)
            clear hK K
            have HB183 := Lib.hid (HB179.out.trans (hb.mono HB179.out.size))
            have BX184 := Lib.hid (BX178.out.below hb)
            clear HB179 BX178
            have D185 := Lib.hid (show Ents v181 (Bet v177.heap.size v181.heap.size) x182 d from hI)
            obtain ⟨x182d, x182c, rfl, _, _⟩ := hI
            clear hb
            try simp only [qA, qB, qC, Act.put, qD, qE, qF]
            refine wpAnyH_take (i := 2) (v := .agg #[.slice x182d d.length x182c, .bool true]) rfl (by kernel_rfl) (by kernel_rfl) (by kernel_rfl) (fun _ _ _ h => h) (Or.inl ⟨by rfl, fun z hz => ?_⟩) hS180 ?_
            · obtain ⟨z1, z2⟩ := hz
              go_simp
            try simp only [qA, qB, qC, Act.put, qD, qE, qF]
            refine wpAnyH_ready (rs := [3, 5]) (by kernel_rfl) (by simp) ?_
            refine AllReadyH.cons rfl (fun K hK => ?_) (AllReadyH.cons rfl (fun K hK => ?_) AllReadyH.nil)
            · skip
              go_simp
              have hb := (Below.refl v181.heap.size v181).alloc (Nat.le_refl _) (.cells #[.slice x182d d.length x182c, .bool true] 85)
              have zv187 : v181.heap.size < (v181.alloc (.cells #[.slice x182d d.length x182c, .bool true] 85)).heap.size := by simp
              refine hK.out _ _ (hS180.step (hb.mono HB183.out.size) hWA) (fun hS186 => ?_)
              clear hK K
              have OWN188 := Lib.hid (show (v181.alloc (.cells #[.slice x182d d.length x182c, .bool true] 85)).ownsRow w2.heap.size 85 2 (.slice (some ⟨v181.heap.size, 0, none⟩) 1 1) 1 [.slice x182d d.length x182c, .bool true] from World.ownsRow_lit (base := w2.heap.size) (e := 85) (size := 2) v181 #[.slice x182d d.length x182c, .bool true] 1 HB183.out.size (by decide) rfl)
              have HB189 := Lib.hid (HB183.out.trans (hb.mono HB183.out.size))
              have D190 := Lib.hid (D185.out.below entE_ok hb)
              have BX191 := Lib.hid (BX184.out.below hb)
              clear HB183 D185 BX184
              clear hb
              generalize v181.alloc (.cells #[.slice x182d d.length x182c, .bool true] 85) = v187 at *
              try simp only [qA, qB, qC, Act.put, qD, qE, qF]
              refine wpAnyH_ready (rs := [5]) (by kernel_rfl) (by simp) ?_
              refine AllReadyH.cons rfl (fun K hK => ?_) AllReadyH.nil
              go_simp
              refine (l8Own _ l _ (HU2.out.below HB189.out) HSM.out.len HSM.out.each).mono ?_
              rintro e v193 ⟨u194, rfl, hI, hb⟩
              have zv193 : v187.heap.size ≤ v193.heap.size := hb.size
              refine hK.out _ _ (hS186.step (hb.mono HB189.out.size) hWA) (fun hS192 => ?_)
              clear hK K
              have HB195 := Lib.hid (HB189.out.trans (hb.mono HB189.out.size))
              have D196 := Lib.hid (D190.out.below entE_ok hb)
              have OWN197 := Lib.hid (own_kept OWN188.out hb (Nat.le_refl _))
              have BX198 := Lib.hid (BX191.out.below hb)
              clear HB189 D190 OWN188 BX191
              have LL199 := Lib.hid (show Lays v193 (Bet v187.heap.size v193.heap.size) u194 l from hI)
              obtain ⟨u194d, u194c, rfl, _, _⟩ := hI
              clear hb
              try simp only [qA, qB, qC, Act.put, qD, qE, qF]
              refine wpAnyH_take (i := 6) (v := .slice u194d l.length u194c) rfl (by kernel_rfl) (by kernel_rfl) (by kernel_rfl) (fun _ _ _ h => h) (Or.inl ⟨by rfl, fun z hz => ?_⟩) hS192 ?_
              · go_simp
                rw [field_stack]
                rfl
              try simp only [qA, qB, qC, Act.put, qD, qE, qF]
              refine wpAnyH_ready (rs := [7]) (by kernel_rfl) (by simp) ?_
              refine AllReadyH.cons rfl (fun K hK => ?_) AllReadyH.nil
              have zA := HB195.out.size
              have zq := (World.ownsRow.lt OWN197.out _ rfl).2
              obtain ⟨C, hsrc, hfin⟩ := lays_push (A := w2.heap.size) (q := v181.heap.size) (X := (fun b => b = v0.heap.size)) (t := true) D196.out (fun b hb => by have h1 := hb.1; have h2 := hb.2; exact ⟨by omega, by omega, by omega⟩) LL199.out (fun b hb => by have h1 := hb.1; have h2 := hb.2; exact ⟨by omega, by omega, by omega⟩) (fun b hb hc => by have h1 := hb.1; have h2 := hb.2; have h3 := hc.1; have h4 := hc.2; omega) (fun b hb e => by have h1 := hb.1; have h2 := hb.2; omega) (fun b hb e => by have h1 := hb.1; have h2 := hb.2; omega) (fun e => by omega) (fun b e => by rw [e]; exact BX198.out.2.2) HSM.out.len
              have HFIN := Lib.hid hfin; clear hfin
              refine step_append_any _ rfl _ _ 68 rfl w2.heap.size 85 i0 (.agg #[.slice none 0 0, .bool false]) 2 32 Tryz.underlying68 hi hz0 hz1 hz2 rfl (by decide) (.slice (some ⟨v181.heap.size, 0, none⟩) 1 1) 1 [.slice x182d d.length x182c, .bool true] rfl OWN197.out (.slice u194d l.length u194c) l.length (flat C l.length) rfl hsrc (by decide) (by have := HL4.out; unfold maxLen; omega) (by have := HL4.out; omega) zA ?_
              intro g202 cp203 v201 hown hgr hat hlt
              have hb : Below w2.heap.size v193 v201 := (Below.refl _ _).grown hgr zA (fun k hk => (World.ownsRow.lt OWN197.out k hk).1)
              have zv201 : v193.heap.size ≤ v201.heap.size := hgr.size
              have RES204 := Lib.hid (HFIN.out v201 g202 cp203 hown hgr hat hlt)
              refine hK.out _ _ (hS192.step hb hWA) (fun hS200 => ?_)
              clear hK K
              clear D196
              clear LL199
              have HB205 := Lib.hid (HB195.out.trans hb)
              have BX206 := Lib.hid (BX198.out.stand (X := fun b => some v181.heap.size = some b) ⟨hgr.os, hgr.tape, hgr.output, hgr.size, fun b hb hf => hgr.block b hb fun e => hf e.symm⟩ (fun e => by have := Option.some.inj e; omega))
              clear HB195 BX198
              clear OWN197 HFIN hown hgr hat hlt hb hsrc zA zq
              try simp only [qA, qB, qC, Act.put, qD, qE, qF]
              refine wpAnyH_take (i := 8) (v := .agg #[.slice (some ⟨g202, 0, none⟩) (1 + l.length) cp203]) rfl (by kernel_rfl) (by kernel_rfl) (by kernel_rfl) (fun _ _ _ h => h) (Or.inl ⟨by rfl, fun z hz => ?_⟩) hS200 ?_
              · obtain ⟨z1, z2⟩ := hz
                go_simp
              try simp only [qA, qB, qC, Act.put, qD, qE, qF]
              refine wpAnyH_ready (rs := [10]) (by kernel_rfl) (by simp) ?_
              refine AllReadyH.cons rfl (fun K hK => ?_) AllReadyH.nil
              have zA := HB205.out.size
              obtain ⟨cb, fb, zb⟩ := BX206.out
              go_simp
              refine hK.out _ _ (hS200.step ((Below.refl w2.heap.size v201).setCell (p := ⟨v0.heap.size, 0, none⟩) (by show w2.heap.size ≤ v0.heap.size; omega) _) hWA) (fun hS207 => ?_)
              clear hK K
              try simp only [qA, qB, qC, Act.put, qD, qE, qF]
              refine wpAnyH_done (by kernel_rfl) ?_ _
              go_wp2_with fail
              go_meet
              refine ⟨v0.heap.size, g202, cp203, rfl, World.cell?_setCell_same _ _ _ cb, by omega, by simpa [World.setCell] using zb, ?_, HB205.out.setCell (by show w2.heap.size ≤ v0.heap.size; omega) _⟩
              exact (RES204.out.stand (X := fun b => b = v0.heap.size) layE_ok ((Chg.refl (fun b => b = v0.heap.size) v201).setCell (p := ⟨v0.heap.size, 0, none⟩) rfl _) (fun b hb e => hb.2 e)).wide (fun b hb => ⟨hb.1.1, by have h1 := hb.1.2; simp only [World.setCell, Array.size_modify]; omega⟩) (fun b hb => hb.2)
            · skip
              go_simp
              refine (l8Own _ l _ (HU2.out.below HB183.out) HSM.out.len HSM.out.each).mono ?_
              rintro e v209 ⟨u210, rfl, hI, hb⟩
              have zv209 : v181.heap.size ≤ v209.heap.size := hb.size
              refine hK.out _ _ (hS180.step (hb.mono HB183.out.size) hWA) (fun hS208 => ?_)
              clear hK K
              have HB211 := Lib.hid (HB183.out.trans (hb.mono HB183.out.size))
              have D212 := Lib.hid (D185.out.below entE_ok hb)
              have BX213 := Lib.hid (BX184.out.below hb)
              clear HB183 D185 BX184
              have LL214 := Lib.hid (show Lays v209 (Bet v181.heap.size v209.heap.size) u210 l from hI)
              obtain ⟨u210d, u210c, rfl, _, _⟩ := hI
              clear hb
              try simp only [qA, qB, qC, Act.put, qD, qE, qF]
              refine wpAnyH_take (i := 6) (v := .slice u210d l.length u210c) rfl (by kernel_rfl) (by kernel_rfl) (by kernel_rfl) (fun _ _ _ h => h) (Or.inl ⟨by rfl, fun z hz => ?_⟩) hS208 ?_
              · go_simp
                rw [field_stack]
                rfl
              try simp only [qA, qB, qC, Act.put, qD, qE, qF]
              refine wpAnyH_ready (rs := [3]) (by kernel_rfl) (by simp) ?_
              refine AllReadyH.cons rfl (fun K hK => ?_) AllReadyH.nil
              go_simp
              have hb := (Below.refl v209.heap.size v209).alloc (Nat.le_refl _) (.cells #[.slice x182d d.length x182c, .bool true] 85)
              have zv216 : v209.heap.size < (v209.alloc (.cells #[.slice x182d d.length x182c, .bool true] 85)).heap.size := by simp
              refine hK.out _ _ (hS208.step (hb.mono HB211.out.size) hWA) (fun hS215 => ?_)
              clear hK K
              have OWN217 := Lib.hid (show (v209.alloc (.cells #[.slice x182d d.length x182c, .bool true] 85)).ownsRow w2.heap.size 85 2 (.slice (some ⟨v209.heap.size, 0, none⟩) 1 1) 1 [.slice x182d d.length x182c, .bool true] from World.ownsRow_lit (base := w2.heap.size) (e := 85) (size := 2) v209 #[.slice x182d d.length x182c, .bool true] 1 HB211.out.size (by decide) rfl)
              have HB218 := Lib.hid (HB211.out.trans (hb.mono HB211.out.size))
              have D219 := Lib.hid (D212.out.below entE_ok hb)
              have LL220 := Lib.hid (LL214.out.below layE_ok hb)
              have BX221 := Lib.hid (BX213.out.below hb)
              clear HB211 D212 LL214 BX213
              clear hb
              generalize v209.alloc (.cells #[.slice x182d d.length x182c, .bool true] 85) = v216 at *
              try simp only [qA, qB, qC, Act.put, qD, qE, qF]
              refine wpAnyH_ready (rs := [7]) (by kernel_rfl) (by simp) ?_
              refine AllReadyH.cons rfl (fun K hK => ?_) AllReadyH.nil
              have zA := HB218.out.size
              have zq := (World.ownsRow.lt OWN217.out _ rfl).2
              obtain ⟨C, hsrc, hfin⟩ := lays_push (A := w2.heap.size) (q := v209.heap.size) (X := (fun b => b = v0.heap.size)) (t := true) D219.out (fun b hb => by have h1 := hb.1; have h2 := hb.2; exact ⟨by omega, by omega, by omega⟩) LL220.out (fun b hb => by have h1 := hb.1; have h2 := hb.2; exact ⟨by omega, by omega, by omega⟩) (fun b hb hc => by have h1 := hb.1; have h2 := hb.2; have h3 := hc.1; have h4 := hc.2; omega) (fun b hb e => by have h1 := hb.1; have h2 := hb.2; omega) (fun b hb e => by have h1 := hb.1; have h2 := hb.2; omega) (fun e => by omega) (fun b e => by rw [e]; exact BX221.out.2.2) HSM.out.len
              have HFIN := Lib.hid hfin; clear hfin
              refine step_append_any _ rfl _ _ 68 rfl w2.heap.size 85 i0 (.agg #[.slice none 0 0, .bool false]) 2 32 Tryz.underlying68 hi hz0 hz1 hz2 rfl (by decide) (.slice (some ⟨v209.heap.size, 0, none⟩) 1 1) 1 [.slice x182d d.length x182c, .bool true] rfl OWN217.out (.slice u210d l.length u210c) l.length (flat C l.length) rfl hsrc (by decide) (by have := HL4.out; unfold maxLen; omega) (by have := HL4.out; omega) zA ?_
              intro g224 cp225 v223 hown hgr hat hlt
              have hb : Below w2.heap.size v216 v223 := (Below.refl _ _).grown hgr zA (fun k hk => (World.ownsRow.lt OWN217.out k hk).1)
              have zv223 : v216.heap.size ≤ v223.heap.size := hgr.size
              have RES226 := Lib.hid (HFIN.out v223 g224 cp225 hown hgr hat hlt)
              refine hK.out _ _ (hS215.step hb hWA) (fun hS222 => ?_)
              clear hK K
              clear D219
              clear LL220
              have HB227 := Lib.hid (HB218.out.trans hb)
              have BX228 := Lib.hid (BX221.out.stand (X := fun b => some v209.heap.size = some b) ⟨hgr.os, hgr.tape, hgr.output, hgr.size, fun b hb hf => hgr.block b hb fun e => hf e.symm⟩ (fun e => by have := Option.some.inj e; omega))
              clear HB218 BX221
              clear OWN217 HFIN hown hgr hat hlt hb hsrc zA zq
              try simp only [qA, qB, qC, Act.put, qD, qE, qF]
              refine wpAnyH_take (i := 8) (v := .agg #[.slice (some ⟨g224, 0, none⟩) (1 + l.length) cp225]) rfl (by kernel_rfl) (by kernel_rfl) (by kernel_rfl) (fun _ _ _ h => h) (Or.inl ⟨by rfl, fun z hz => ?_⟩) hS222 ?_
              · obtain ⟨z1, z2⟩ := hz
                go_simp
              try simp only [qA, qB, qC, Act.put, qD, qE, qF]
              refine wpAnyH_ready (rs := [10]) (by kernel_rfl) (by simp) ?_
              refine AllReadyH.cons rfl (fun K hK => ?_) AllReadyH.nil
              have zA := HB227.out.size
              obtain ⟨cb, fb, zb⟩ := BX228.out
              go_simp
              refine hK.out _ _ (hS222.step ((Below.refl w2.heap.size v223).setCell (p := ⟨v0.heap.size, 0, none⟩) (by show w2.heap.size ≤ v0.heap.size; omega) _) hWA) (fun hS229 => ?_)
              clear hK K
              try simp only [qA, qB, qC, Act.put, qD, qE, qF]
              refine wpAnyH_done (by kernel_rfl) ?_ _
              go_wp2_with fail
              go_meet
              refine ⟨v0.heap.size, g224, cp225, rfl, World.cell?_setCell_same _ _ _ cb, by omega, by simpa [World.setCell] using zb, ?_, HB227.out.setCell (by show w2.heap.size ≤ v0.heap.size; omega) _⟩
              exact (RES226.out.stand (X := fun b => b = v0.heap.size) layE_ok ((Chg.refl (fun b => b = v0.heap.size) v223).setCell (p := ⟨v0.heap.size, 0, none⟩) rfl _) (fun b hb e => hb.2 e)).wide (fun b hb => ⟨hb.1.1, by have h1 := hb.1.2; simp only [World.setCell, Array.size_modify]; omega⟩) (fun b hb => hb.2)
        case rest =>
          obtain ⟨bx, g, cp, rfl, c0, zbx, zbx2, hl, hb⟩ := hcut
          have HN3 := Lib.hid (HN2.out.below hb)
          have HB3 := Lib.hid (HB2.out.trans (hb.mono HB2.out.size))
          have HL := Lib.hid hl
          clear hb hl a0 a1 HN2
          obtain ⟨_, _, b0, f0, _⟩ := HN3.out
          go_wp2
          refine bodyPost_ret (v := .tuple #[.agg #[.slice (some ⟨g, 0, none⟩) (1 + l.length) cp], .bool true]) (by simp [results, Tryz.results46, go_sem, b0]) rfl ⟨_, by rw [HF.out], ?_, ?_⟩
          · rw [HF.out]
            show Lays _ _ _ (P.push d l)
            refine (HL.out.stand (X := fun b => b = w.heap.size + 2) layE_ok ((Chg.refl (fun b => b = w.heap.size + 2) wc).setCell (p := ⟨w.heap.size + 2, 0, none⟩) rfl _) ?_).wide ?_ ?_
            · intro b hb e; have := hb.1; omega
            · intro b hb; have h1 := hb.1; have h2 := hb.2; exact ⟨by omega, by simp [World.setCell]; omega⟩
            · intro b hb; exact hb.2
          · exact HB3.out.setCell (by simp; omega) _
end
end Go.Proofs.YtngbkdlicknmhaaGreatDoor
