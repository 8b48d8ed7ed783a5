/- Walks: the child of a node, the way of strokes through a trie, an outline looked up in it (program, reference). -/
import Derived.Deep.DeepCutAuto
import Derived.Deep.RegionHeld
import Derived.BigQuiet
import Derived.Test.YtojcfpjoikmgcaaGreatDoorPlainWalk
import Derived.Test.YtojcfpjoikmgcaaGreatDoorSpecT
import Derived.Test.YtojcfpjoikmgcaaGreatDoorLook1
namespace Go.Proofs.YtojcfpjoikmgcaaGreatDoor
section
namespace P
theorem walkT_app (t : Tri) (q : List Int) : ∀ (p : List Int) (k : Nat), walkT t k (p ++ q) = if walkT t k p < 0 then -1 else walkT t (walkT t k p).toNat q
  | [], k => by
    have h : walkT t k [] = k := rfl
    rw [h, if_neg (by omega), Int.toNat_natCast]; rfl
  | a :: p, k => by
    have h : ∀ r, walkT t k (a :: r) = if childK t k a < 0 then -1 else walkT t (childK t k a).toNat r := fun _ => rfl
    rw [List.cons_append, h, h]
    by_cases hc : childK t k a < 0
    · rw [if_pos hc, if_pos hc]; rfl
    · rw [if_neg hc, if_neg hc]; exact walkT_app t q p _
theorem walkT_stop {t : Tri} {st : List Int} {j : Nat} (h : walkT t 0 (st.take j) = -1) : walkT t 0 st = -1 := by
  rw [← List.take_append_drop j st, walkT_app, h]; rfl
theorem kidIn_from (s : Int) : ∀ (st ch : List Int) (i : Nat), st.length = ch.length → (Go.Lib.idxFrom st s i = -1 ∧ kidIn s st ch = -1) ∨ ∃ j, ∃ (_ : j < st.length) (h : j < ch.length), Go.Lib.idxFrom st s i = ((i + j : Nat) : Int) ∧ kidIn s st ch = ch[j]
  | [], _, _, _ => .inl ⟨rfl, by unfold kidIn; rfl⟩
  | a :: st, [], _, h => by simp at h
  | a :: st, c :: ch, i, h => by
    by_cases ha : a = s
    · exact .inr ⟨0, by simp, by simp, by simp [Go.Lib.idxFrom, ha], by simp [kidIn, ha]⟩
    · have e1 : Go.Lib.idxFrom (a :: st) s i = Go.Lib.idxFrom st s (i + 1) := by simp [Go.Lib.idxFrom, ha]
      have e2 : kidIn s (a :: st) (c :: ch) = kidIn s st ch := by simp [kidIn, ha]
      rw [e1, e2]
      rcases kidIn_from s st ch (i + 1) (by simpa using h) with h1 | ⟨j, h1, h2, h3, h4⟩
      · exact .inl h1
      · exact .inr ⟨j + 1, by simp; omega, by simp; omega, by rw [h3]; congr 1; omega, by rw [h4]; rfl⟩
theorem kidIn_idx (s : Int) (st ch : List Int) (h : st.length = ch.length) : (Go.Lib.idxOf st s = -1 ∧ kidIn s st ch = -1) ∨ ∃ j, ∃ (_ : j < st.length) (h : j < ch.length), Go.Lib.idxOf st s = (j : Int) ∧ kidIn s st ch = ch[j] := by
  rcases kidIn_from s st ch 0 h with h1 | ⟨j, h1, h2, h3, h4⟩
  · exact .inl h1
  · exact .inr ⟨j, h1, h2, by unfold Go.Lib.idxOf; rw [h3, Nat.zero_add], h4⟩
theorem kidIn_at {s : Int} : ∀ {st ch : List Int} {j : Nat} (h1 : j < st.length) (h2 : j < ch.length), st[j] = s → (∀ i, (h : i < j) → st[i]'(by omega) ≠ s) → kidIn s st ch = ch[j]
  | a :: st, c :: ch, 0, _, _, h, _ => by
    have h : a = s := h
    simp [kidIn, h]
  | a :: st, c :: ch, j + 1, h1, h2, h, hn => by
    have h0 : a ≠ s := hn 0 (by omega)
    have e2 : kidIn s (a :: st) (c :: ch) = kidIn s st ch := by simp [kidIn, h0]
    rw [e2, kidIn_at (j := j) (by simpa using h1) (by simpa using h2) (by simpa using h) (fun i hi => by have := hn (i + 1) (by omega); simpa using this)]
    rfl
theorem kidIn_no {s : Int} : ∀ {st ch : List Int}, (∀ i, (h : i < st.length) → st[i] ≠ s) → kidIn s st ch = -1
  | [], _, _ => by unfold kidIn; rfl
  | a :: st, [], _ => by unfold kidIn; rfl
  | a :: st, c :: ch, h => by
    have h0 : a ≠ s := h 0 (by simp)
    have e2 : kidIn s (a :: st) (c :: ch) = kidIn s st ch := by simp [kidIn, h0]
    rw [e2]
    exact kidIn_no fun i hi => by have := h (i + 1) (by simp; omega); simpa using this
theorem dic_sub {t : Tri} {l : Dic} (h : dictI t = some l) : dic l = true ∧ Sub l t [] 0 l ∧ Shaped t := by
  obtain ⟨h1, rfl⟩ := dictI_of h
  exact ⟨h1, Sub.start h1, shaped_of (trie_shape h1)⟩
/-- the child for a stroke, or 0 -/
def childI (t : Tri) (k : Nat) (s : Int) : Int := if childK t k s = -1 then 0 else childK t k s
theorem childI_no {t : Tri} {k : Nat} {s : Int} (h : childK t k s = -1) : childI t k s = 0 := by unfold childI; rw [if_pos h]
theorem childI_yes {t : Tri} {k : Nat} {s c : Int} (h : childK t k s = c) (hc : 0 ≤ c) : childI t k s = c := by unfold childI; rw [h, if_neg (by omega)]
/-- the kind of a node: texts, strokes, children -/
theorem Sub.kids {l : Dic} {t : Tri} {p : List Int} {k : Nat} {es : Dic} (hS : Shaped t) (h : Sub l t p k es) : (t.getD k nd0).1.length = (t.getD k nd0).2.1.length ∧ ∀ c ∈ (t.getD k nd0).2.1, 1 ≤ c ∧ c < t.length :=
  ⟨hS.len k h.node.2, fun c hc => by have := hS.child k h.node.2 c hc; omega⟩
end P
end
open Go Go.RowKit
set_option maxHeartbeats 4000000
set_option maxRecDepth 100000
theorem IntR.front {v : World} {ad : Option Addr} {cap k : Nat} {l : List Int} (h : IntR v (.slice ad l.length cap) l) (hk : k ≤ l.length) : IntR v (.slice ad k cap) (l.take k) := by
  obtain ⟨ad', cap', he, h1, hn, h3⟩ := h
  injection he with e1 e2 e3
  subst e1 e3
  have hlk : (l.take k).length = k := by rw [List.length_take]; omega
  refine ⟨ad, cap, by rw [hlk], by omega, hn, ?_⟩
  rcases h3 with h3 | ⟨g, o, h4, h5, h6⟩
  · left; rw [h3]; simp
  · refine .inr ⟨g, o, h4, h5, fun j hj => ?_⟩
    have hj' : j < l.length := by omega
    rw [List.getElem_take]
    exact h6 j hj'
/-- slices.Index, whatever the slice -/
theorem index_ints (u : Value) (l : List Int) (s : Int) (w : World) (hu : IntR w u l) :
    Calls Tryz.prog 133 #[u, .int .i64 s] w fun e w' => e = .returned (.int .i64 (Go.Lib.idxOf l s)) ∧ w = w' := by
  obtain ⟨ad, cap, rfl, hl, _, h⟩ := hu
  rcases h with rfl | ⟨g, o, rfl, _, hc⟩
  · exact (Tryz.slices_Index_int_empty ad cap s w).mono fun _ _ ⟨h1, h2⟩ => ⟨h1, h2.symm⟩
  · have h := Tryz.slices_Index_int g o l.length cap l s w (Nat.le_refl _) (by omega) (fun j hj => by rw [hc j hj, P.getD_int hj])
    rw [List.take_length] at h
    exact h.mono fun _ _ ⟨h1, h2⟩ => ⟨h1, h2.symm⟩
/-- the program's child of a node -/
theorem childP (tv : Value) (t : P.Tri) (k : Nat) (s : Int) (w : World) (hu : NodR w tv t) (hk : k < t.length) (hl : (t.getD k P.nd0).1.length = (t.getD k P.nd0).2.1.length) (hp : ∀ c ∈ (t.getD k P.nd0).2.1, 1 ≤ c ∧ c < t.length) :
    Calls Tryz.prog 83 #[.agg #[tv], .int .i64 k, .int .i64 s] w fun e w' => e = .returned (.int .i64 (P.childI t k s)) ∧ Below w.heap.size w w' := by
  have HU := Lib.hid hu
  obtain ⟨ad, cap, rfl, _, _⟩ := hu
  obtain ⟨g, o, x, y, st, ch, tt, tx, hg, rfl, hgl, ⟨c0, c1, c2, c3⟩, hx, hy⟩ := HU.out.node hk
  have HC := Lib.hid (show P.childK t k s = P.kidIn s st ch by unfold P.childK; rw [hg])
  rw [hg] at hl hp
  simp only at hl hp
  have HX := Lib.hid hx; have HY := Lib.hid hy
  obtain ⟨xd, xc, rfl, hxl, _⟩ := hx
  obtain ⟨yd, yc, rfl, hyl, _⟩ := hy
  have hba := ((Below.refl w.heap.size w).alloc (Nat.le_refl _) (.cells #[.slice (some ⟨g, o, none⟩) t.length cap] 30)).alloc (by simp) (.cells #[.slice xd st.length xc, .slice yd ch.length yc, .bool tt, .string (S tx)] 63)
  have HB := Lib.hid hba; have HX1 := Lib.hid (HX.out.below hba); have HY1 := Lib.hid (HY.out.below hba)
  have HI := Lib.hid (P.kidIn_idx s st ch hl)
  have i1 : (k : Int) < (t.length : Int) := by omega
  clear hg hba hl
  go_enter Tryz.func83, Tryz.ntmps83
  go_wp2_with fail
  refine (index_ints _ st s _ HX1.out).mono ?_
  rintro e w1 ⟨rfl, rfl⟩
  rcases HI.out with ⟨h1, h2⟩ | ⟨j, hj1, hj2, h1, h2⟩
  · have HF := Lib.hid (show P.childK t k s = -1 by rw [HC.out, h2])
    rw [h1]
    clear h1 h2
    go_wp2
    go_ret
    exact ⟨ret_int (P.childI_no HF.out).symm, HB.out⟩
  · rw [h1]
    obtain ⟨gy, oy, hya, hgy, y0⟩ := HY.out.at j hj2
    have hgyl : gy < w.heap.size := hgy
    subst hya
    obtain ⟨c, hc⟩ : ∃ c, ch[j] = c := ⟨_, rfl⟩
    rw [hc] at y0 h2
    have HF := Lib.hid (show P.childK t k s = c by rw [HC.out, h2])
    have i3 : (j : Int) < (ch.length : Int) := by omega
    have HP := Lib.hid (show 0 ≤ c by have := hp c (by rw [← hc]; exact List.getElem_mem hj2); omega)
    clear h1 h2 hc hp
    go_wp2
    go_ret
    exact ⟨ret_int (P.childI_yes HF.out HP.out).symm, HB.out⟩
/-- the reference's child of a node -/
theorem l7Child (tv : Value) (t : P.Tri) (k : Nat) (s : Int) (w : World) (hu : NodR w tv t) (hk : k < t.length) (hl : (t.getD k P.nd0).1.length = (t.getD k P.nd0).2.1.length) :
    Calls Tryz.prog 81 #[.agg #[tv], .int .i64 k, .int .i64 s] w fun e w' => e = .returned (.int .i64 (P.childK t k s)) ∧ Below w.heap.size w w' := by
  have HU := Lib.hid hu
  obtain ⟨ad, cap, rfl, _, _⟩ := hu
  obtain ⟨g, o, x, y, st, ch, tt, tx, hg, rfl, hgl, ⟨c0, c1, c2, c3⟩, hx, hy⟩ := HU.out.node hk
  have HC := Lib.hid (show P.childK t k s = P.kidIn s st ch by unfold P.childK; rw [hg])
  rw [hg] at hl
  simp only at hl
  have HX := Lib.hid hx; have HY := Lib.hid hy
  obtain ⟨xd, xc, rfl, hxl, _⟩ := hx
  obtain ⟨yd, yc, rfl, hyl, _⟩ := hy
  have hba := ((Below.refl w.heap.size w).alloc (Nat.le_refl _) (.cells #[.slice (some ⟨g, o, none⟩) t.length cap] 30)).alloc (by simp) (.cells #[.slice xd st.length xc, .slice yd ch.length yc, .bool tt, .string (S tx)] 63)
  have HB := Lib.hid hba
  have HNB := Lib.hid (show NB (w.heap.size + 1) (.slice xd st.length xc) (.slice yd ch.length yc) tt tx ((w.alloc (.cells #[.slice (some ⟨g, o, none⟩) t.length cap] 30)).alloc (.cells #[.slice xd st.length xc, .slice yd ch.length yc, .bool tt, .string (S tx)] 63)) by refine ⟨?_, ?_, ?_, ?_, ?_, ?_, ?_, ?_, ?_⟩ <;> go_simp)
  have i1 : (k : Int) < (t.length : Int) := by omega
  have hle1 : st.length ≤ ch.length := by omega
  clear hg hba hl
  go_enter Tryz.func81, Tryz.ntmps81
  go_wp2_with fail
  clear c0 c1 c2 c3
  generalize ((w.alloc (.cells #[.slice (some ⟨g, o, none⟩) t.length cap] 30)).alloc (.cells #[.slice xd st.length xc, .slice yd ch.length yc, .bool tt, .string (S tx)] 63)) = w1 at *
  obtain ⟨n0, n1, _, _, _, _, _, _, hN⟩ := HNB.out
  go_loop [8] (fun i => ∃ j : Nat, j ≤ st.length ∧ i = .int .i64 j ∧ ∀ q, (h : q < j) → (h' : q < st.length) → st[q] ≠ s) (fun i => st.length - (intOf i).toNat)
  case atStart => exact ⟨0, Nat.zero_le _, rfl, fun q h => absurd h (Nat.not_lt_zero _)⟩
  case round =>
    obtain ⟨j, hj, rfl, hno⟩ := hrel
    have HNO := Lib.hid hno; clear hno
    by_cases hlt : j < st.length
    · have hlt2 : j < ch.length := by omega
      obtain ⟨gx, ox, hxa, hgx, x0⟩ := (HX.out.below HB.out).at j hlt
      obtain ⟨gy, oy, hya, hgy, y0⟩ := (HY.out.below HB.out).at j hlt2
      subst hxa hya
      obtain ⟨sj, hsj⟩ : ∃ c, st[j] = c := ⟨_, rfl⟩
      obtain ⟨c, hc⟩ : ∃ c, ch[j] = c := ⟨_, rfl⟩
      rw [hsj] at x0
      rw [hc] at y0
      have i3 : (j : Int) < (st.length : Int) := by omega
      have i4 : (j : Int) < (ch.length : Int) := by omega
      by_cases he : sj = s
      · have HF := Lib.hid (show P.childK t k s = c by rw [HC.out, P.kidIn_at hlt hlt2 (hsj.trans he) (fun i hi => HNO.out i hi (by omega)), hc])
        subst he
        clear hsj hc
        go_wp2
        go_ret
        exact ⟨ret_int HF.out.symm, HB.out⟩
      · have HNX := Lib.hid (show ∀ q, (h : q < j + 1) → (h' : q < st.length) → st[q] ≠ s from fun q h h' => by
          rcases Nat.lt_or_ge q j with h1 | h1
          · exact HNO.out q h1 h'
          · obtain rfl : q = j := by omega
            rw [hsj]; exact he)
        have hq : (sj == s) = false := by simpa using he
        clear hsj hc he
        go_wp2
        go_round
        case rel => exact ⟨j + 1, by omega, by go_num, HNX.out⟩
        case measure => simp [intOf]; omega
    · have HF := Lib.hid (show P.childK t k s = -1 by rw [HC.out, P.kidIn_no (fun i hi => HNO.out i (by omega) hi)])
      have i3 : ¬ (j : Int) < (st.length : Int) := by omega
      go_wp2
      go_ret
      exact ⟨ret_int HF.out.symm, HB.out⟩
/-- whether a list is one of strokes, program and reference -/
theorem isStrokeList (u : Value) (l : List Int) (w : World) (hu : IntR w u l) :
    Calls Tryz.prog 82 #[u] w fun e w' => e = .returned (.bool (P.slist l)) ∧ Below w.heap.size w w' := by
  have HU := Lib.hid hu
  obtain ⟨ad, cap, rfl, hl, _⟩ := hu
  by_cases h : l.length ≤ 60
  · have HF := Lib.hid (show P.slist l = l.all P.stroke by unfold P.slist; rw [decide_eq_true h]; rfl)
    have i1 : (l.length : Int) ≤ 60 := by omega
    clear h
    go_enter Tryz.func82, Tryz.ntmps82
    go_wp2_with fail
    refine (allStrokes _ l _ HU.out).mono ?_
    rintro e w1 ⟨rfl, hb⟩
    have HB := Lib.hid hb; clear hb
    generalize l.all P.stroke = q at *
    go_wp2
    go_ret
    exact ⟨ret_bool HF.out.symm, HB.out⟩
  · have HF := Lib.hid (show P.slist l = false by unfold P.slist; rw [decide_eq_false h]; rfl)
    have i1 : ¬ (l.length : Int) ≤ 60 := by omega
    clear h
    go_enter Tryz.func82, Tryz.ntmps82
    go_wp2
    go_ret
    exact ⟨ret_bool HF.out.symm, Below.refl _ _⟩
theorem l7Strokes (u : Value) (l : List Int) (w : World) (hu : IntR w u l) :
    Calls Tryz.prog 80 #[u] w fun e w' => e = .returned (.bool (P.slist l)) ∧ Below w.heap.size w w' := by
  have HU := Lib.hid hu
  obtain ⟨ad, cap, rfl, hl, _⟩ := hu
  go_enter Tryz.func80, Tryz.ntmps80
  go_wp2
  go_loop [3] (fun i => ∃ j : Nat, j ≤ l.length ∧ i = .int .i64 j ∧ (l.take j).all P.stroke = true) (fun i => l.length - (intOf i).toNat)
  case atStart => exact ⟨0, Nat.zero_le _, rfl, by simp⟩
  case round =>
    obtain ⟨j, hj, rfl, ha⟩ := hrel
    have HA := Lib.hid ha; clear ha
    by_cases hlt : j < l.length
    · obtain ⟨g, o, hga, _, hc⟩ := HU.out.at j hlt
      subst hga
      have HSN := Lib.hid (take_snoc l j hlt)
      generalize l[j] = x at *
      have i1 : (j : Int) < (l.length : Int) := by omega
      cases hx : P.stroke x
      · have HNO := Lib.hid (show P.slist l = false by
          unfold P.slist
          rw [← List.take_append_drop (j + 1) l, HSN.out, List.all_append, List.all_append]
          simp [hx])
        have HX := Lib.hid hx
        go_wp2_with (go_at_call 130; refine (l2Good _ _).mono ?_; rintro e w' ⟨rfl, rfl⟩)
        go_ret
        exact ⟨ret_bool HNO.out.symm, Below.refl _ _⟩
      · have HX := Lib.hid hx
        go_wp2_with (go_at_call 130; refine (l2Good _ _).mono ?_; rintro e w' ⟨rfl, rfl⟩)
        go_round
        case rel => exact ⟨j + 1, by omega, by go_num, by rw [HSN.out, List.all_append, HA.out]; simp [HX.out]⟩
        case measure => simp [intOf]; omega
    · have HT := Lib.hid (show l.all P.stroke = true by have := HA.out; rwa [List.take_of_length_le (by omega)] at this)
      have i1 : ¬ (j : Int) < (l.length : Int) := by omega
      have HE := Lib.hid (show P.slist l = decide ((l.length : Int) ≤ 60) by unfold P.slist; rw [HT.out, Bool.and_true]; apply decide_eq_decide.2; omega)
      go_wp2
      go_ret
      exact ⟨ret_bool (by rw [HE.out]), Below.refl _ _⟩
def WalkPost (r : Int × Bool) (w : World) (e : Ending) (w' : World) : Prop := e = .returned (.tuple #[.int .i64 r.1, .bool r.2]) ∧ Below w.heap.size w w'
theorem impl_walkTrie (tv sv : Value) (t : P.Tri) (st : List Int) (w : World) (hu : NodR w tv t) (hs : IntR w sv st) (hx : ∀ n ∈ t, n.2.2.2.length ≤ 2 ^ 30) (hE : Env w) :
    Calls Tryz.prog 37 #[.agg #[tv], sv] w (WalkPost (P.walkR t (P.dictI t) st) w) := by
  have hba := (Below.refl w.heap.size w).alloc (Nat.le_refl _) (.cells #[tv] 30)
  have HTB := Lib.hid (Box1.new tv 30 w)
  have HB0 := Lib.hid hba; have HU := Lib.hid hu; have HST := Lib.hid hs; have HX := Lib.hid hx; have HE := Lib.hid (hE.below hba hE.size)
  clear hba hx hE
  obtain ⟨ad, cap, rfl, _, _⟩ := hu
  obtain ⟨sd, sc, rfl, hsl, _⟩ := hs
  go_enter Tryz.func37, Tryz.ntmps37
  go_wp2_with fail
  refine (impl_isValidTrie _ t _ (HU.out.below HB0.out) HX.out HE.out).mono ?_
  rintro e w1 ⟨rfl, hb⟩
  have HB1 := Lib.hid (HB0.out.trans (hb.mono HB0.out.size)); have HT1 := Lib.hid (HTB.out.below hb)
  clear hb HB0 HTB
  cases hd : P.dictI t with
  | none =>
    have HR := Lib.hid (show P.walkR t (P.dictI t) st = (0, false) by rw [hd]; rfl)
    clear hd
    simp only [Option.isSome_none]
    go_wp2
    go_ret2
    exact ⟨by rw [HR.out]; rfl, HB1.out⟩
  | some l =>
    obtain ⟨hdl, hsub, hsh⟩ := P.dic_sub hd
    have HSUB := Lib.hid hsub; have HSH := Lib.hid hsh; have HD := Lib.hid hd
    clear hd hsub hsh hdl
    simp only [Option.isSome_some]
    go_wp2_with fail
    refine (isStrokeList _ st _ (HST.out.below HB1.out)).mono ?_
    rintro e w2 ⟨rfl, hb⟩
    have HB2 := Lib.hid (HB1.out.trans (hb.mono HB1.out.size)); have HT2 := Lib.hid (HT1.out.below hb)
    clear hb HB1 HT1
    cases hq : P.slist st
    · have HR := Lib.hid (show P.walkR t (P.dictI t) st = (0, false) by rw [HD.out]; unfold P.walkR; rw [hq]; rfl)
      clear hq
      go_wp2
      go_ret2
      exact ⟨by rw [HR.out]; rfl, HB2.out⟩
    · have HQ := Lib.hid hq; clear hq
      go_wp2_with fail
      go_loopw [6, 19] (fun c i wr => ∃ (j k : Nat) (es : P.Dic), j ≤ st.length ∧ i = .int .i64 j ∧ c = .int .i64 k ∧ P.walkT t 0 (st.take j) = k ∧ P.Sub l t (st.take j) k es ∧ Box1 w.heap.size (.slice ad t.length cap) wr ∧ Below w.heap.size w wr) (fun _ i _ => st.length - (intOf i).toNat)
      case atStart => exact ⟨0, 0, l, Nat.zero_le _, rfl, rfl, rfl, HSUB.out, HT2.out, HB2.out⟩
      case round =>
        clear HB2 HT2
        obtain ⟨j, k, es, hj, rfl, rfl, hwk, hsb, htb, hb⟩ := hrel
        have HWK := Lib.hid hwk; have HSB := Lib.hid hsb; have HB := Lib.hid hb; have HTB := Lib.hid htb
        have hkl := hsb.node.2
        clear hwk hsb
        obtain ⟨b0, b1⟩ := htb
        by_cases hlt : j < st.length
        · obtain ⟨g, o, hga, hgl, x0⟩ := (HST.out.below hb).at j hlt
          subst hga
          have hsn := take_snoc st j hlt
          obtain ⟨s, hs⟩ : ∃ s, st[j] = s := ⟨_, rfl⟩
          rw [hs] at x0 hsn
          have HSN := Lib.hid hsn
          have HWS := Lib.hid (show P.walkT t 0 (st.take (j + 1)) = if P.childK t k s < 0 then -1 else ((P.childK t k s).toNat : Int) by rw [hsn, P.walkT_snoc, HWK.out, if_neg (by omega), Int.toNat_natCast])
          have i1 : (j : Int) < (st.length : Int) := by omega
          obtain ⟨hk1, hk2⟩ := P.Sub.kids HSH.out HSB.out
          have HK1 := Lib.hid hk1; have HK2 := Lib.hid hk2
          clear hsn hs hk1 hk2 hb
          rcases HSB.out.child s with ⟨c, g2, h1, h2, h3⟩ | ⟨h1, _⟩
          · have HW := Lib.hid (show P.walkT t 0 (st.take (j + 1)) = (c : Int) by rw [HWS.out, h1, if_neg (by omega), Int.toNat_natCast])
            have HS3 := Lib.hid (show P.Sub l t (st.take (j + 1)) c g2 by rw [HSN.out]; exact h3)
            have HCI := Lib.hid (P.childI_yes h1 (by omega))
            have hc0 : ((c : Int) == 0) = false := by simp; omega
            clear h1 h3
            go_wp2_with fail
            refine (childP _ t k s _ (HU.out.below HB.out) hkl HK1.out HK2.out).mono ?_
            rintro e w3 ⟨rfl, hb⟩
            rw [HCI.out]
            have HB3 := Lib.hid (HB.out.trans (hb.mono HB.out.size)); have HT3 := Lib.hid (HTB.out.below hb)
            clear hb
            go_wp2
            go_roundw
            case rel => exact ⟨j + 1, c, g2, by omega, by go_num, rfl, HW.out, HS3.out, HT3.out, HB3.out⟩
            case measure => simp [intOf]; omega
          · have HW := Lib.hid (P.walkT_stop (show P.walkT t 0 (st.take (j + 1)) = -1 by rw [HWS.out, h1]; rfl))
            have HR := Lib.hid (show P.walkR t (P.dictI t) st = (0, false) by rw [HD.out]; unfold P.walkR; rw [HW.out]; simp)
            have HCI := Lib.hid (P.childI_no h1)
            clear h1
            go_wp2_with fail
            refine (childP _ t k s _ (HU.out.below HB.out) hkl HK1.out HK2.out).mono ?_
            rintro e w3 ⟨rfl, hb⟩
            rw [HCI.out]
            have HB3 := Lib.hid (HB.out.trans (hb.mono HB.out.size))
            clear hb
            go_wp2
            go_ret2
            exact ⟨by rw [HR.out]; rfl, HB3.out⟩
        · have HR := Lib.hid (show P.walkR t (P.dictI t) st = ((k : Int), true) by
            rw [HD.out]
            have h := HWK.out
            rw [List.take_of_length_le (by omega)] at h
            unfold P.walkR
            rw [h, HQ.out, decide_eq_true (show (0 : Int) ≤ (k : Int) by omega)]; rfl)
          have i1 : ¬ (j : Int) < (st.length : Int) := by omega
          clear hb
          go_wp2
          go_ret2
          exact ⟨by rw [HR.out]; rfl, HB.out⟩
theorem spec_walkTrie (tv sv : Value) (t : P.Tri) (st : List Int) (w : World) (hu : NodR w tv t) (hs : IntR w sv st) (hx : ∀ n ∈ t, n.2.2.2.length ≤ 2 ^ 30) :
    Calls Tryz.prog 36 #[.agg #[tv], sv] w (WalkPost (P.walkR t (P.dictI t) st) w) := by
  have hba := (Below.refl w.heap.size w).alloc (Nat.le_refl _) (.cells #[tv] 30)
  have HTB := Lib.hid (Box1.new tv 30 w)
  have HB0 := Lib.hid hba; have HU := Lib.hid hu; have HST := Lib.hid hs; have HX := Lib.hid hx
  clear hba hx
  obtain ⟨ad, cap, rfl, _, _⟩ := hu
  obtain ⟨sd, sc, rfl, hsl, _⟩ := hs
  go_enter Tryz.func36, Tryz.ntmps36
  go_wp2_with fail
  refine (spec_isValidTrie _ t _ (HU.out.below HB0.out) HX.out).mono ?_
  rintro e w1 ⟨rfl, hb⟩
  rw [← P.dict_eq]
  have HB1 := Lib.hid (HB0.out.trans (hb.mono HB0.out.size)); have HT1 := Lib.hid (HTB.out.below hb)
  clear hb HB0 HTB
  cases hd : P.dictI t with
  | none =>
    have HR := Lib.hid (show P.walkR t (P.dictI t) st = (0, false) by rw [hd]; rfl)
    clear hd
    simp only [Option.isSome_none]
    go_wp2
    go_ret2
    exact ⟨by rw [HR.out]; rfl, HB1.out⟩
  | some l =>
    obtain ⟨hdl, hsub, hsh⟩ := P.dic_sub hd
    have HSUB := Lib.hid hsub; have HSH := Lib.hid hsh; have HD := Lib.hid hd
    clear hd hsub hsh hdl
    simp only [Option.isSome_some]
    go_wp2_with fail
    refine (l7Strokes _ st _ (HST.out.below HB1.out)).mono ?_
    rintro e w2 ⟨rfl, hb⟩
    have HB2 := Lib.hid (HB1.out.trans (hb.mono HB1.out.size)); have HT2 := Lib.hid (HT1.out.below hb)
    clear hb HB1 HT1
    cases hq : P.slist st
    · have HR := Lib.hid (show P.walkR t (P.dictI t) st = (0, false) by rw [HD.out]; unfold P.walkR; rw [hq]; rfl)
      clear hq
      go_wp2
      go_ret2
      exact ⟨by rw [HR.out]; rfl, HB2.out⟩
    · have HQ := Lib.hid hq; clear hq
      go_wp2_with fail
      go_loopw [6, 7] (fun c i wr => ∃ (j k : Nat) (es : P.Dic), j ≤ st.length ∧ i = .int .i64 j ∧ c = .int .i64 k ∧ P.walkT t 0 (st.take j) = k ∧ P.Sub l t (st.take j) k es ∧ Box1 w.heap.size (.slice ad t.length cap) wr ∧ Below w.heap.size w wr) (fun _ i _ => st.length - (intOf i).toNat)
      case atStart => exact ⟨0, 0, l, Nat.zero_le _, rfl, rfl, rfl, HSUB.out, HT2.out, HB2.out⟩
      case round =>
        clear HB2 HT2
        obtain ⟨j, k, es, hj, rfl, rfl, hwk, hsb, htb, hb⟩ := hrel
        have HWK := Lib.hid hwk; have HSB := Lib.hid hsb; have HB := Lib.hid hb; have HTB := Lib.hid htb
        have hkl := hsb.node.2
        clear hwk hsb
        obtain ⟨b0, b1⟩ := htb
        by_cases hlt : j < st.length
        · obtain ⟨g, o, hga, hgl, x0⟩ := (HST.out.below hb).at j hlt
          subst hga
          have hsn := take_snoc st j hlt
          obtain ⟨s, hs⟩ : ∃ s, st[j] = s := ⟨_, rfl⟩
          rw [hs] at x0 hsn
          have HSN := Lib.hid hsn
          have HWS := Lib.hid (show P.walkT t 0 (st.take (j + 1)) = if P.childK t k s < 0 then -1 else ((P.childK t k s).toNat : Int) by rw [hsn, P.walkT_snoc, HWK.out, if_neg (by omega), Int.toNat_natCast])
          have i1 : (j : Int) < (st.length : Int) := by omega
          obtain ⟨hk1, _⟩ := P.Sub.kids HSH.out HSB.out
          have HK1 := Lib.hid hk1
          have hbd := (Below.refl wr.heap.size wr).drew
          have HBD := Lib.hid (hb.trans (hbd.mono hb.size)); have HTD := Lib.hid (HTB.out.below hbd)
          have HS := Lib.hid (show wr.drew.cell? ⟨w.heap.size, 0, none⟩ = some (.slice ad t.length cap) ∧ wr.drew.cell? ⟨g, o + j, none⟩ = some (.int .i64 s) ∧ w.heap.size < wr.drew.heap.size ∧ g < wr.drew.heap.size from ⟨HTD.out.1, (hbd.cell (p := ⟨g, o + j, none⟩) hgl).trans x0, HTD.out.2, hgl⟩)
          clear hsn hs hk1 hb hbd
          go_upto_region 7 with fail
          refine wp_region_held_drew (S := fun v : World => v.cell? ⟨w.heap.size, 0, none⟩ = some (.slice ad t.length cap) ∧ v.cell? ⟨g, o + j, none⟩ = some (.int .i64 s) ∧ w.heap.size < v.heap.size ∧ g < v.heap.size) (by kernel_rfl) HS.out (fun hS0 => ?_)
          generalize wr.drew = v0 at *
          refine wpAnyH_take (i := 0) (v := .agg #[.slice ad t.length cap]) rfl (by kernel_rfl) (by kernel_rfl) (by kernel_rfl) (fun _ _ _ h => h) (Or.inl ⟨by rfl, fun z hz => ?_⟩) hS0 ?_
          · obtain ⟨z1, z2, z3, z4⟩ := hz
            go_simp
          try simp only [List.getElem_toArray, List.getElem_cons_zero, Act.put, List.setIfInBounds_toArray, List.set_cons_zero, List.set_cons_succ]
          refine wpAnyH_take (i := 1) (v := .int .i64 k) rfl (by kernel_rfl) (by kernel_rfl) (by kernel_rfl) (fun _ _ _ h => h) (Or.inl ⟨by rfl, fun z hz => ?_⟩) hS0 ?_
          · obtain ⟨z1, z2, z3, z4⟩ := hz
            go_simp
          try simp only [List.getElem_toArray, List.getElem_cons_zero, List.getElem_cons_succ, Act.put, List.setIfInBounds_toArray, List.set_cons_zero, List.set_cons_succ]
          refine wpAnyH_take (i := 2) (v := .slice (some ⟨g, o, none⟩) st.length sc) rfl (by kernel_rfl) (by kernel_rfl) (by kernel_rfl) (fun _ _ _ h => h) (Or.inl ⟨by rfl, fun z hz => ?_⟩) hS0 ?_
          · obtain ⟨z1, z2, z3, z4⟩ := hz
            go_simp
          try simp only [List.getElem_toArray, List.getElem_cons_zero, List.getElem_cons_succ, Act.put, List.setIfInBounds_toArray, List.set_cons_zero, List.set_cons_succ]
          refine wpAnyH_take (i := 3) (v := .int .i64 j) rfl (by kernel_rfl) (by kernel_rfl) (by kernel_rfl) (fun _ _ _ h => h) (Or.inl ⟨by rfl, fun z hz => ?_⟩) hS0 ?_
          · obtain ⟨z1, z2, z3, z4⟩ := hz
            go_simp
          try simp only [List.getElem_toArray, List.getElem_cons_zero, List.getElem_cons_succ, Act.put, List.setIfInBounds_toArray, List.set_cons_zero, List.set_cons_succ]
          refine wpAnyH_take (i := 4) (v := .pointer (some ⟨g, o + j, none⟩)) rfl (by kernel_rfl) (by kernel_rfl) (by kernel_rfl) (fun _ _ _ h => h) (Or.inl ⟨by rfl, fun z hz => ?_⟩) hS0 ?_
          · obtain ⟨z1, z2, z3, z4⟩ := hz
            go_simp
          try simp only [List.getElem_toArray, List.getElem_cons_zero, List.getElem_cons_succ, Act.put, List.setIfInBounds_toArray, List.set_cons_zero, List.set_cons_succ]
          refine wpAnyH_take (i := 5) (v := .int .i64 s) rfl (by kernel_rfl) (by kernel_rfl) (by kernel_rfl) (fun _ _ _ h => h) (Or.inl ⟨by rfl, fun z hz => ?_⟩) hS0 ?_
          · obtain ⟨z1, z2, z3, z4⟩ := hz
            go_simp
          try simp only [List.getElem_toArray, List.getElem_cons_zero, List.getElem_cons_succ, Act.put, List.setIfInBounds_toArray, List.set_cons_zero, List.set_cons_succ]
          refine wpAnyH_ready (rs := [6]) (by kernel_rfl) (by simp) ?_
          refine AllReadyH.cons rfl (fun K hK => ?_) AllReadyH.nil
          go_simp
          refine (l7Child _ t k s _ (HU.out.below HBD.out) hkl HK1.out).mono ?_
          rintro e w3 ⟨rfl, hb⟩
          have HB3 := Lib.hid (HBD.out.trans (hb.mono HBD.out.size)); have HT3 := Lib.hid (HTD.out.below hb)
          refine hK.out _ _ ⟨(hb.cell (p := ⟨w.heap.size, 0, none⟩) hS0.2.2.1).trans hS0.1, (hb.cell (p := ⟨g, o + j, none⟩) hS0.2.2.2).trans hS0.2.1, Nat.lt_of_lt_of_le hS0.2.2.1 hb.size, Nat.lt_of_lt_of_le hS0.2.2.2 hb.size⟩ (fun hS1 => ?_)
          clear hK K hb hS0
          try simp only [List.getElem_toArray, List.getElem_cons_zero, List.getElem_cons_succ, Act.put, List.setIfInBounds_toArray, List.set_cons_zero, List.set_cons_succ]
          rcases HSB.out.child s with ⟨c, g2, h1, h2, h3⟩ | ⟨h1, _⟩
          · have HW := Lib.hid (show P.walkT t 0 (st.take (j + 1)) = (c : Int) by rw [HWS.out, h1, if_neg (by omega), Int.toNat_natCast])
            have HS3 := Lib.hid (show P.Sub l t (st.take (j + 1)) c g2 by rw [HSN.out]; exact h3)
            rw [h1]
            clear h1 h3
            refine wpAnyH_take (i := 7) (v := .int .i64 c) rfl (by kernel_rfl) (by kernel_rfl) (by kernel_rfl) (fun _ _ _ h => h) (Or.inl ⟨by rfl, fun z hz => ?_⟩) hS1 ?_
            · obtain ⟨z1, z2, z3, z4⟩ := hz
              go_simp
            try simp only [List.getElem_toArray, List.getElem_cons_zero, List.getElem_cons_succ, Act.put, List.setIfInBounds_toArray, List.set_cons_zero, List.set_cons_succ]
            refine wpAnyH_done (by kernel_rfl) ?_ _
            clear hS1
            go_wp2
            go_roundw
            case rel => exact ⟨j + 1, c, g2, by omega, by go_num, rfl, HW.out, HS3.out, HT3.out, HB3.out⟩
            case measure => simp [intOf]; omega
          · have HW := Lib.hid (P.walkT_stop (show P.walkT t 0 (st.take (j + 1)) = -1 by rw [HWS.out, h1]; rfl))
            have HR := Lib.hid (show P.walkR t (P.dictI t) st = (0, false) by rw [HD.out]; unfold P.walkR; rw [HW.out]; simp)
            rw [h1]
            clear h1
            refine wpAnyH_take (i := 7) (v := .int .i64 (-1)) rfl (by kernel_rfl) (by kernel_rfl) (by kernel_rfl) (fun _ _ _ h => h) (Or.inl ⟨by rfl, fun z hz => ?_⟩) hS1 ?_
            · obtain ⟨z1, z2, z3, z4⟩ := hz
              go_simp
            try simp only [List.getElem_toArray, List.getElem_cons_zero, List.getElem_cons_succ, Act.put, List.setIfInBounds_toArray, List.set_cons_zero, List.set_cons_succ]
            refine wpAnyH_done (by kernel_rfl) ?_ _
            clear hS1
            go_wp2
            go_ret2
            exact ⟨by rw [HR.out]; rfl, HB3.out⟩
        · have HR := Lib.hid (show P.walkR t (P.dictI t) st = ((k : Int), true) by
            rw [HD.out]
            have h := HWK.out
            rw [List.take_of_length_le (by omega)] at h
            unfold P.walkR
            rw [h, HQ.out, decide_eq_true (show (0 : Int) ≤ (k : Int) by omega)]; rfl)
          have i1 : ¬ (j : Int) < (st.length : Int) := by omega
          clear hb
          go_wp2
          go_ret2
          exact ⟨by rw [HR.out]; rfl, HB.out⟩
def LookTPost (r : P.Bs × Bool) (w : World) (e : Ending) (w' : World) : Prop := e = .returned (.tuple #[.string (S r.1), .bool r.2]) ∧ Below w.heap.size w w'
theorem impl_lookupTrie (tv ov : Value) (t : P.Tri) (o : List Int) (w : World) (hu : NodR w tv t) (ho : IntR w ov o) (hx : ∀ n ∈ t, n.2.2.2.length ≤ 2 ^ 30) (hE : Env w) :
    Calls Tryz.prog 26 #[.agg #[tv], ov] w (LookTPost (P.lookR (P.dictI t) o) w) := by
  have hba := (Below.refl w.heap.size w).alloc (Nat.le_refl _) (.cells #[tv] 30)
  have HB0 := Lib.hid hba; have HU := Lib.hid hu; have HO := Lib.hid ho; have HX := Lib.hid hx; have HE := Lib.hid (hE.below hba hE.size)
  clear hba hx hE
  obtain ⟨ad, cap, rfl, _, _⟩ := hu
  obtain ⟨od, oc, rfl, _, _⟩ := ho
  go_enter Tryz.func26, Tryz.ntmps26
  go_wp2_with fail
  refine (dictT _ t _ (HU.out.below HB0.out) HX.out HE.out).mono ?_
  rintro e w1 ⟨u, rfl, hI, hb⟩
  have HB1 := Lib.hid (HB0.out.trans (hb.mono HB0.out.size)); have HI := Lib.hid hI
  clear hb HB0
  obtain ⟨ud, uc, rfl, _, _⟩ := hI
  obtain ⟨d, hd⟩ : ∃ d, P.dictI t = d := ⟨_, rfl⟩
  have HD := Lib.hid hd
  rw [hd] at HI ⊢
  clear hd
  have hba := (Below.refl w1.heap.size w1).alloc (Nat.le_refl _) (.cells #[.slice ud (d.getD []).length uc] 26)
  have HB2 := Lib.hid (HB1.out.trans (hba.mono HB1.out.size)); have HI2 := Lib.hid (HI.out.below entE_ok hba)
  clear hba HI
  cases d with
  | none =>
    have HR := Lib.hid (show P.lookR (P.dictI t) o = ([], false) by rw [HD.out]; rfl)
    simp only [Option.isSome_none, Option.getD_none] at HI2 HB2 ⊢
    go_wp2
    go_ret2
    exact ⟨by rw [HR.out]; rfl, HB2.out⟩
  | some l =>
    have HR := Lib.hid (show P.lookR (P.dictI t) o = (P.textAt o l, P.hasE o l) by rw [HD.out]; rfl)
    simp only [Option.isSome_some, Option.getD_some] at HI2 HB2 ⊢
    go_wp2_with fail
    refine (dicLookup _ _ l o _ (Ents.read HI2.out) (HO.out.below HB2.out)).mono ?_
    rintro e w2 ⟨rfl, hb⟩
    have HB3 := Lib.hid (HB2.out.trans (hb.mono HB2.out.size))
    clear hb
    generalize P.textAt o l = tx at *
    generalize P.hasE o l = q at *
    go_wp2
    go_ret2
    exact ⟨by rw [HR.out]; rfl, HB3.out⟩
theorem spec_lookupTrie (tv ov : Value) (t : P.Tri) (o : List Int) (w : World) (hu : NodR w tv t) (ho : IntR w ov o) (hx : ∀ n ∈ t, n.2.2.2.length ≤ 2 ^ 30) :
    Calls Tryz.prog 23 #[.agg #[tv], ov] w (LookTPost (P.lookR (P.dictI t) o) w) := by
  have hba := (Below.refl w.heap.size w).alloc (Nat.le_refl _) (.cells #[tv] 30)
  have HTB := Lib.hid (Box1.new tv 30 w)
  have HB0 := Lib.hid hba; have HU := Lib.hid hu; have HO := Lib.hid ho; have HX := Lib.hid hx
  clear hba hx
  obtain ⟨ad, cap, rfl, _, _⟩ := hu
  obtain ⟨od, oc, rfl, _, _⟩ := ho
  go_enter Tryz.func23, Tryz.ntmps23
  go_wp2_with fail
  refine (spec_walkTrie _ _ t o _ (HU.out.below HB0.out) (HO.out.below HB0.out) HX.out).mono ?_
  rintro e w1 ⟨rfl, hb⟩
  have HB1 := Lib.hid (HB0.out.trans (hb.mono HB0.out.size)); have HT1 := Lib.hid (HTB.out.below hb)
  clear hb HB0 HTB
  by_cases hok : (P.walkR t (P.dictI t) o).2 = true
  · cases hd : P.dictI t with
    | none => rw [hd] at hok; exact absurd hok (by unfold P.walkR; simp)
    | some l =>
      obtain ⟨hdl, hsub, hsh⟩ := P.dic_sub hd
      have HD := Lib.hid hd
      rw [hd] at hok
      have hw : P.slist o = true ∧ 0 ≤ P.walkT t 0 o := by
        unfold P.walkR at hok
        split at hok
        · rename_i h
          simp only [Bool.and_eq_true, decide_eq_true_eq] at h
          exact ⟨h.1.2, h.2⟩
        · cases hok
      rcases P.Sub.walk o [] 0 l hsub with ⟨c, es, h1, h2⟩ | ⟨h1, _⟩
      · rw [List.nil_append] at h2
        have hc := h2.node.2
        have htx := h2.text hdl
        have HR := Lib.hid (show P.lookR (P.dictI t) o = (P.textAt o l, P.hasE o l) by rw [HD.out]; rfl)
        have HNT := Lib.hid (fun (h : P.hasE o l = false) => P.textAt_not h)
        have hwr : P.walkR t (some l) o = ((c : Int), true) := by unfold P.walkR; rw [hw.1, h1, decide_eq_true (show (0 : Int) ≤ (c : Int) by omega)]; rfl
        rw [hwr]
        clear hd hok hw hwr h1 h2 hsub hsh hdl
        obtain ⟨g, q, x, y, st, ch, tt, tx, hg, rfl, hgl, ⟨c0, c1, c2, c3⟩, _, _⟩ := (HU.out.below HB1.out).node hc
        rw [hg] at htx
        simp only [Prod.mk.injEq] at htx
        obtain ⟨rfl, rfl⟩ := htx
        obtain ⟨b0, b1⟩ := HT1.out
        have i1 : (c : Int) < (t.length : Int) := by omega
        clear hg
        generalize P.textAt o l = tx at *
        cases hh : P.hasE o l
        · rw [hh] at c2 HR HNT
          have HN := Lib.hid (HNT.out rfl)
          clear hh
          go_wp2
          go_ret2
          exact ⟨by rw [HR.out, HN.out]; rfl, HB1.out⟩
        · rw [hh] at c2 HR
          clear hh
          go_wp2
          go_ret2
          exact ⟨by rw [HR.out]; rfl, HB1.out⟩
      · rw [h1] at hw; exact absurd hw.2 (by decide)
  · have hwr : P.walkR t (P.dictI t) o = (0, false) := by
      unfold P.walkR at hok ⊢
      split
      · rename_i h; rw [if_pos h] at hok; exact absurd rfl hok
      · rfl
    have HR := Lib.hid (show P.lookR (P.dictI t) o = ([], false) by
      cases hd : P.dictI t with
      | none => rfl
      | some l =>
        obtain ⟨hdl, hsub, hsh⟩ := P.dic_sub hd
        have hn : P.hasE o l = false := by
          cases hs : P.slist o
          · exact (P.hasE_slist hdl hs).1
          · rcases P.Sub.walk o [] 0 l hsub with ⟨c, es, h1, h2⟩ | ⟨_, h2⟩
            · rw [hd] at hok
              unfold P.walkR at hok
              rw [hs, h1, decide_eq_true (show (0 : Int) ≤ (c : Int) by omega)] at hok
              exact absurd rfl hok
            · exact P.hasE_none h2
        show (P.textAt o l, P.hasE o l) = _
        rw [hn, P.textAt_not hn])
    rw [hwr]
    clear hok hwr
    go_wp2
    go_ret2
    exact ⟨by rw [HR.out]; rfl, HB1.out⟩
end Go.Proofs.YtojcfpjoikmgcaaGreatDoor
