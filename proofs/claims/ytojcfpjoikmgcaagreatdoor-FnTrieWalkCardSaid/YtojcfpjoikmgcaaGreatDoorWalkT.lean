/- Walks: the child of a node, the way of strokes through a trie, an outline looked up in it (program, reference). -/
import Derived.Deep.DeepCutAuto
import Derived.Deep.RegionHeld
import Derived.BigQuiet
import Derived.Test.YtojcfpjoikmgcaaGreatDoorPlainWalk
import Derived.Test.YtojcfpjoikmgcaaGreatDoorSpecT
import Derived.Test.YtojcfpjoikmgcaaGreatDoorLook1
namespace Go.Proofs.YtojcfpjoikmgcaaGreatDoor
section
namespace P
theorem kidIn_at {s : Int} : ∀ {st ch : List Int} {j : Nat} (h1 : j < st.length) (h2 : j < ch.length), st[j] = s → (∀ i, (h : i < j) → st[i]'(by omega) ≠ s) → kidIn s st ch = ch[j]
  | a :: st, c :: ch, 0, _, _, h, _ => by
    have h : a = s := h
    simp [kidIn, h]
  | a :: st, c :: ch, j + 1, h1, h2, h, hn => by
    have h0 : a ≠ s := hn 0 (by omega)
    have e2 : kidIn s (a :: st) (c :: ch) = kidIn s st ch := by simp [kidIn, h0]
    rw [e2, kidIn_at (j := j) (by simpa using h1) (by simpa using h2) (by simpa using h) (fun i hi => by have := hn (i + 1) (by omega); simpa using this)]
    rfl
theorem kidIn_no {s : Int} : ∀ {st ch : List Int}, (∀ i, (h : i < st.length) → st[i] ≠ s) → kidIn s st ch = -1
  | [], _, _ => by unfold kidIn; rfl
  | a :: st, [], _ => by unfold kidIn; rfl
  | a :: st, c :: ch, h => by
    have h0 : a ≠ s := h 0 (by simp)
    have e2 : kidIn s (a :: st) (c :: ch) = kidIn s st ch := by simp [kidIn, h0]
    rw [e2]
    exact kidIn_no fun i hi => by have := h (i + 1) (by simp; omega); simpa using this
theorem dic_sub {t : Tri} {l : Dic} (h : dictI t = some l) : dic l = true ∧ Sub l t [] 0 l ∧ Shaped t := by
  obtain ⟨h1, rfl⟩ := dictI_of h
  exact ⟨h1, Sub.start h1, shaped_of (trie_shape h1)⟩
/-- the kind of a node: texts, strokes, children -/
theorem Sub.kids {l : Dic} {t : Tri} {p : List Int} {k : Nat} {es : Dic} (hS : Shaped t) (h : Sub l t p k es) : (t.getD k nd0).1.length = (t.getD k nd0).2.1.length ∧ ∀ c ∈ (t.getD k nd0).2.1, 1 ≤ c ∧ c < t.length :=
  ⟨hS.len k h.node.2, fun c hc => by have := hS.child k h.node.2 c hc; omega⟩
end P
end
open Go Go.RowKit
set_option maxHeartbeats 4000000
set_option maxRecDepth 100000
theorem IntR.front {v : World} {ad : Option Addr} {cap k : Nat} {l : List Int} (h : IntR v (.slice ad l.length cap) l) (hk : k ≤ l.length) : IntR v (.slice ad k cap) (l.take k) := by
  obtain ⟨ad', cap', he, h1, hn, h3⟩ := h
  injection he with e1 e2 e3
  subst e1 e3
  have hlk : (l.take k).length = k := by rw [List.length_take]; omega
  refine ⟨ad, cap, by rw [hlk], by omega, hn, ?_⟩
  rcases h3 with h3 | ⟨g, o, h4, h5, h6⟩
  · left; rw [h3]; simp
  · refine .inr ⟨g, o, h4, h5, fun j hj => ?_⟩
    have hj' : j < l.length := by omega
    rw [List.getElem_take]
    exact h6 j hj'
/-- the reference's child of a node -/
theorem l7Child (tv : Value) (t : P.Tri) (k : Nat) (s : Int) (w : World) (hu : NodR w tv t) (hk : k < t.length) (hl : (t.getD k P.nd0).1.length = (t.getD k P.nd0).2.1.length) :
    Calls Tryz.prog 81 #[.agg #[tv], .int .i64 k, .int .i64 s] w fun e w' => e = .returned (.int .i64 (P.childK t k s)) ∧ Below w.heap.size w w' := by
  have HU := Lib.hid hu
  obtain ⟨ad, cap, rfl, _, _⟩ := hu
  obtain ⟨g, o, x, y, st, ch, tt, tx, hg, rfl, hgl, ⟨c0, c1, c2, c3⟩, hx, hy⟩ := HU.out.node hk
  have HC := Lib.hid (show P.childK t k s = P.kidIn s st ch by unfold P.childK; rw [hg])
  rw [hg] at hl
  simp only at hl
  have HX := Lib.hid hx; have HY := Lib.hid hy
  obtain ⟨xd, xc, rfl, hxl, _⟩ := hx
  obtain ⟨yd, yc, rfl, hyl, _⟩ := hy
  have hba := ((Below.refl w.heap.size w).alloc (Nat.le_refl _) (.cells #[.slice (some ⟨g, o, none⟩) t.length cap] 30)).alloc (by simp) (.cells #[.slice xd st.length xc, .slice yd ch.length yc, .bool tt, .string (S tx)] 63)
  have HB := Lib.hid hba
  have HNB := Lib.hid (show NB (w.heap.size + 1) (.slice xd st.length xc) (.slice yd ch.length yc) tt tx ((w.alloc (.cells #[.slice (some ⟨g, o, none⟩) t.length cap] 30)).alloc (.cells #[.slice xd st.length xc, .slice yd ch.length yc, .bool tt, .string (S tx)] 63)) by refine ⟨?_, ?_, ?_, ?_, ?_, ?_, ?_, ?_, ?_⟩ <;> go_simp)
  have i1 : (k : Int) < (t.length : Int) := by omega
  have hle1 : st.length ≤ ch.length := by omega
  clear hg hba hl
  go_enter Tryz.func81, Tryz.ntmps81
  go_wp2_with fail
  clear c0 c1 c2 c3
  generalize ((w.alloc (.cells #[.slice (some ⟨g, o, none⟩) t.length cap] 30)).alloc (.cells #[.slice xd st.length xc, .slice yd ch.length yc, .bool tt, .string (S tx)] 63)) = w1 at *
  obtain ⟨n0, n1, _, _, _, _, _, _, hN⟩ := HNB.out
  go_loop [8] (fun i => ∃ j : Nat, j ≤ st.length ∧ i = .int .i64 j ∧ ∀ q, (h : q < j) → (h' : q < st.length) → st[q] ≠ s) (fun i => st.length - (intOf i).toNat)
  case atStart => exact ⟨0, Nat.zero_le _, rfl, fun q h => absurd h (Nat.not_lt_zero _)⟩
  case round =>
    obtain ⟨j, hj, rfl, hno⟩ := hrel
    have HNO := Lib.hid hno; clear hno
    by_cases hlt : j < st.length
    · have hlt2 : j < ch.length := by omega
      obtain ⟨gx, ox, hxa, hgx, x0⟩ := (HX.out.below HB.out).at j hlt
      obtain ⟨gy, oy, hya, hgy, y0⟩ := (HY.out.below HB.out).at j hlt2
      subst hxa hya
      obtain ⟨sj, hsj⟩ : ∃ c, st[j] = c := ⟨_, rfl⟩
      obtain ⟨c, hc⟩ : ∃ c, ch[j] = c := ⟨_, rfl⟩
      rw [hsj] at x0
      rw [hc] at y0
      have i3 : (j : Int) < (st.length : Int) := by omega
      have i4 : (j : Int) < (ch.length : Int) := by omega
      by_cases he : sj = s
      · have HF := Lib.hid (show P.childK t k s = c by rw [HC.out, P.kidIn_at hlt hlt2 (hsj.trans he) (fun i hi => HNO.out i hi (by omega)), hc])
        subst he
        clear hsj hc
        go_wp2
        go_ret
        exact ⟨ret_int HF.out.symm, HB.out⟩
      · have HNX := Lib.hid (show ∀ q, (h : q < j + 1) → (h' : q < st.length) → st[q] ≠ s from fun q h h' => by
          rcases Nat.lt_or_ge q j with h1 | h1
          · exact HNO.out q h1 h'
          · obtain rfl : q = j := by omega
            rw [hsj]; exact he)
        have hq : (sj == s) = false := by simpa using he
        clear hsj hc he
        go_wp2
        go_round
        case rel => exact ⟨j + 1, by omega, by go_num, HNX.out⟩
        case measure => simp [intOf]; omega
    · have HF := Lib.hid (show P.childK t k s = -1 by rw [HC.out, P.kidIn_no (fun i hi => HNO.out i (by omega) hi)])
      have i3 : ¬ (j : Int) < (st.length : Int) := by omega
      go_wp2
      go_ret
      exact ⟨ret_int HF.out.symm, HB.out⟩
/-- whether a list is one of strokes, program and reference -/
theorem isStrokeList (u : Value) (l : List Int) (w : World) (hu : IntR w u l) :
    Calls Tryz.prog 82 #[u] w fun e w' => e = .returned (.bool (P.slist l)) ∧ Below w.heap.size w w' := by
  have HU := Lib.hid hu
  obtain ⟨ad, cap, rfl, hl, _⟩ := hu
  by_cases h : l.length ≤ 60
  · have HF := Lib.hid (show P.slist l = l.all P.stroke by unfold P.slist; rw [decide_eq_true h]; rfl)
    have i1 : (l.length : Int) ≤ 60 := by omega
    clear h
    go_enter Tryz.func82, Tryz.ntmps82
    go_wp2_with fail
    refine (allStrokes _ l _ HU.out).mono ?_
    rintro e w1 ⟨rfl, hb⟩
    have HB := Lib.hid hb; clear hb
    generalize l.all P.stroke = q at *
    go_wp2
    go_ret
    exact ⟨ret_bool HF.out.symm, HB.out⟩
  · have HF := Lib.hid (show P.slist l = false by unfold P.slist; rw [decide_eq_false h]; rfl)
    have i1 : ¬ (l.length : Int) ≤ 60 := by omega
    clear h
    go_enter Tryz.func82, Tryz.ntmps82
    go_wp2
    go_ret
    exact ⟨ret_bool HF.out.symm, Below.refl _ _⟩
theorem l7Strokes (u : Value) (l : List Int) (w : World) (hu : IntR w u l) :
    Calls Tryz.prog 80 #[u] w fun e w' => e = .returned (.bool (P.slist l)) ∧ Below w.heap.size w w' := by
  have HU := Lib.hid hu
  obtain ⟨ad, cap, rfl, hl, _⟩ := hu
  go_enter Tryz.func80, Tryz.ntmps80
  go_wp2
  go_loop [3] (fun i => ∃ j : Nat, j ≤ l.length ∧ i = .int .i64 j ∧ (l.take j).all P.stroke = true) (fun i => l.length - (intOf i).toNat)
  case atStart => exact ⟨0, Nat.zero_le _, rfl, by simp⟩
  case round =>
    obtain ⟨j, hj, rfl, ha⟩ := hrel
    have HA := Lib.hid ha; clear ha
    by_cases hlt : j < l.length
    · obtain ⟨g, o, hga, _, hc⟩ := HU.out.at j hlt
      subst hga
      have HSN := Lib.hid (take_snoc l j hlt)
      generalize l[j] = x at *
      have i1 : (j : Int) < (l.length : Int) := by omega
      cases hx : P.stroke x
      · have HNO := Lib.hid (show P.slist l = false by
          unfold P.slist
          rw [← List.take_append_drop (j + 1) l, HSN.out, List.all_append, List.all_append]
          simp [hx])
        have HX := Lib.hid hx
        go_wp2_with (go_at_call 130; refine (l2Good _ _).mono ?_; rintro e w' ⟨rfl, rfl⟩)
        go_ret
        exact ⟨ret_bool HNO.out.symm, Below.refl _ _⟩
      · have HX := Lib.hid hx
        go_wp2_with (go_at_call 130; refine (l2Good _ _).mono ?_; rintro e w' ⟨rfl, rfl⟩)
        go_round
        case rel => exact ⟨j + 1, by omega, by go_num, by rw [HSN.out, List.all_append, HA.out]; simp [HX.out]⟩
        case measure => simp [intOf]; omega
    · have HT := Lib.hid (show l.all P.stroke = true by have := HA.out; rwa [List.take_of_length_le (by omega)] at this)
      have i1 : ¬ (j : Int) < (l.length : Int) := by omega
      have HE := Lib.hid (show P.slist l = decide ((l.length : Int) ≤ 60) by unfold P.slist; rw [HT.out, Bool.and_true]; apply decide_eq_decide.2; omega)
      go_wp2
      go_ret
      exact ⟨ret_bool (by rw [HE.out]), Below.refl _ _⟩
def LookTPost (r : P.Bs × Bool) (w : World) (e : Ending) (w' : World) : Prop := e = .returned (.tuple #[.string (S r.1), .bool r.2]) ∧ Below w.heap.size w w'
theorem impl_lookupTrie (tv ov : Value) (t : P.Tri) (o : List Int) (w : World) (hu : NodR w tv t) (ho : IntR w ov o) (hx : ∀ n ∈ t, n.2.2.2.length ≤ 2 ^ 30) (hE : Env w) :
    Calls Tryz.prog 26 #[.agg #[tv], ov] w (LookTPost (P.lookR (P.dictI t) o) w) := by
  have hba := (Below.refl w.heap.size w).alloc (Nat.le_refl _) (.cells #[tv] 30)
  have HB0 := Lib.hid hba; have HU := Lib.hid hu; have HO := Lib.hid ho; have HX := Lib.hid hx; have HE := Lib.hid (hE.below hba hE.size)
  clear hba hx hE
  obtain ⟨ad, cap, rfl, _, _⟩ := hu
  obtain ⟨od, oc, rfl, _, _⟩ := ho
  go_enter Tryz.func26, Tryz.ntmps26
  go_wp2_with fail
  refine (dictT _ t _ (HU.out.below HB0.out) HX.out HE.out).mono ?_
  rintro e w1 ⟨u, rfl, hI, hb⟩
  have HB1 := Lib.hid (HB0.out.trans (hb.mono HB0.out.size)); have HI := Lib.hid hI
  clear hb HB0
  obtain ⟨ud, uc, rfl, _, _⟩ := hI
  obtain ⟨d, hd⟩ : ∃ d, P.dictI t = d := ⟨_, rfl⟩
  have HD := Lib.hid hd
  rw [hd] at HI ⊢
  clear hd
  have hba := (Below.refl w1.heap.size w1).alloc (Nat.le_refl _) (.cells #[.slice ud (d.getD []).length uc] 26)
  have HB2 := Lib.hid (HB1.out.trans (hba.mono HB1.out.size)); have HI2 := Lib.hid (HI.out.below entE_ok hba)
  clear hba HI
  cases d with
  | none =>
    have HR := Lib.hid (show P.lookR (P.dictI t) o = ([], false) by rw [HD.out]; rfl)
    simp only [Option.isSome_none, Option.getD_none] at HI2 HB2 ⊢
    go_wp2
    go_ret2
    exact ⟨by rw [HR.out]; rfl, HB2.out⟩
  | some l =>
    have HR := Lib.hid (show P.lookR (P.dictI t) o = (P.textAt o l, P.hasE o l) by rw [HD.out]; rfl)
    simp only [Option.isSome_some, Option.getD_some] at HI2 HB2 ⊢
    go_wp2_with fail
    refine (dicLookup _ _ l o _ (Ents.read HI2.out) (HO.out.below HB2.out)).mono ?_
    rintro e w2 ⟨rfl, hb⟩
    have HB3 := Lib.hid (HB2.out.trans (hb.mono HB2.out.size))
    clear hb
    generalize P.textAt o l = tx at *
    generalize P.hasE o l = q at *
    go_wp2
    go_ret2
    exact ⟨by rw [HR.out]; rfl, HB3.out⟩
end Go.Proofs.YtojcfpjoikmgcaaGreatDoor
