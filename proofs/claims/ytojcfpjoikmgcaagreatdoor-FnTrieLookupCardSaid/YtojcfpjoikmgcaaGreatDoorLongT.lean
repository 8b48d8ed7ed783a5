/- Walks: the longest outline of a trie at the head of strokes (program, reference). -/
import Derived.Deep.DeepCutAuto
import Derived.Deep.RegionHeld
import Derived.Test.YtojcfpjoikmgcaaGreatDoorWalkT
namespace Go.Proofs.YtojcfpjoikmgcaaGreatDoor
section
namespace P
theorem longR_none {d : Option Dic} {st : List Int} (h : d = none ∨ slist st = false) : longR d st = (0, [], false) := by
  rcases h with rfl | h
  · rfl
  · cases d with
    | none => rfl
    | some l => unfold longR; simp only; rw [h]; rfl
theorem longR_some {l : Dic} {st : List Int} (h : slist st = true) : longR (some l) st = longA l st := by unfold longR; simp only; rw [h]; rfl
theorem longA_hit {l : Dic} {st : List Int} {n : Nat} (h1 : 1 ≤ n) (h2 : n ≤ st.length) (h3 : hasE (st.take n) l = true) (h4 : best l st st.length = best l st n) : longA l st = ((n : Int), textAt (st.take n) l, true) := by
  obtain ⟨m, rfl⟩ : ∃ m, n = m + 1 := ⟨n - 1, by omega⟩
  have e : best l st (m + 1) = m + 1 := by
    show (if hasE (st.take (m + 1)) l then m + 1 else best l st m) = _
    rw [if_pos h3]
  unfold longA
  rw [h4, e, decide_eq_true (by omega)]
theorem longA_miss {l : Dic} {st : List Int} (h : dic l = true) (h4 : best l st st.length = 0) : longA l st = (0, [], false) := by
  unfold longA
  rw [textAt_best h st _ h4, h4]; rfl
theorem best_step {l : Dic} {st : List Int} {n : Nat} (h : hasE (st.take (n + 1)) l = false) : best l st (n + 1) = best l st n := by
  show (if hasE (st.take (n + 1)) l then n + 1 else best l st n) = _
  rw [if_neg (by rw [h]; decide)]
end P
end
open Go Go.RowKit
set_option maxHeartbeats 4000000
set_option maxRecDepth 100000
def LongPost (r : Int × P.Bs × Bool) (w : World) (e : Ending) (w' : World) : Prop := e = .returned (.tuple #[.int .i64 r.1, .string (S r.2.1), .bool r.2.2]) ∧ Below w.heap.size w w'
theorem impl_longest (tv sv : Value) (t : P.Tri) (st : List Int) (w : World) (hu : NodR w tv t) (hs : IntR w sv st) (hx : ∀ n ∈ t, n.2.2.2.length ≤ 2 ^ 30) (hE : Env w) :
    Calls Tryz.prog 35 #[.agg #[tv], sv] w (LongPost (P.longR (P.dictI t) st) w) := by
  have hba := (Below.refl w.heap.size w).alloc (Nat.le_refl _) (.cells #[tv] 30)
  have HB0 := Lib.hid hba; have HU := Lib.hid hu; have HST := Lib.hid hs; have HX := Lib.hid hx; have HE := Lib.hid (hE.below hba hE.size)
  clear hba hx hE
  obtain ⟨ad, cap, rfl, _, _⟩ := hu
  obtain ⟨sd, sc, rfl, hsl, _⟩ := hs
  go_enter Tryz.func35, Tryz.ntmps35
  go_wp2_with fail
  refine (dictT _ t _ (HU.out.below HB0.out) HX.out HE.out).mono ?_
  rintro e w1 ⟨u, rfl, hI, hb⟩
  have HB1 := Lib.hid (HB0.out.trans (hb.mono HB0.out.size)); have HI := Lib.hid hI
  clear hb HB0
  obtain ⟨ud, uc, rfl, _, _⟩ := hI
  obtain ⟨d, hd⟩ : ∃ d, P.dictI t = d := ⟨_, rfl⟩
  have HD := Lib.hid hd
  rw [hd] at HI ⊢
  clear hd
  have hba := (Below.refl w1.heap.size w1).alloc (Nat.le_refl _) (.cells #[.slice ud (d.getD []).length uc] 26)
  have HB2 := Lib.hid (HB1.out.trans (hba.mono HB1.out.size)); have HI2 := Lib.hid (HI.out.below entE_ok hba)
  have HK2 := Lib.hid (Box1.new (.slice ud (d.getD []).length uc) 26 w1)
  clear hba HI
  cases d with
  | none =>
    have HR := Lib.hid (show P.longR (P.dictI t) st = (0, [], false) by rw [HD.out]; rfl)
    simp only [Option.isSome_none, Option.getD_none] at HI2 HB2 HK2 ⊢
    go_wp2
    go_ret3
    exact ⟨by rw [HR.out]; rfl, HB2.out⟩
  | some l =>
    simp only [Option.isSome_some, Option.getD_some] at HI2 HB2 HK2 ⊢
    obtain ⟨hdl, _, _⟩ := P.dic_sub HD.out
    have HDL := Lib.hid hdl; clear hdl
    go_wp2_with fail
    refine (isStrokeList _ st _ (HST.out.below HB2.out)).mono ?_
    rintro e w2 ⟨rfl, hb⟩
    have HB3 := Lib.hid (HB2.out.trans (hb.mono HB2.out.size)); have HI3 := Lib.hid (HI2.out.below entE_ok hb); have HK3 := Lib.hid (HK2.out.below hb)
    clear hb HB2 HI2 HK2
    cases hq : P.slist st
    · have HR := Lib.hid (show P.longR (P.dictI t) st = (0, [], false) from P.longR_none (.inr hq))
      clear hq
      go_wp2
      go_ret3
      exact ⟨by rw [HR.out]; rfl, HB3.out⟩
    · have HR := Lib.hid (show P.longR (P.dictI t) st = P.longA l st by rw [HD.out]; exact P.longR_some hq)
      have HSIX := Lib.hid (P.best_six HDL.out st)
      have hmn : IntKind.i64.wrap 0 = 0 := rfl
      clear hq hmn
      go_wp2_with fail
      go_loopw [9] (fun i wr => ∃ n : Nat, n ≤ 6 ∧ n ≤ st.length ∧ i = .int .i64 n ∧ P.best l st st.length = P.best l st n ∧ Box1 w1.heap.size (.slice ud l.length uc) wr ∧ EntR wr (.slice ud l.length uc) l ∧ Below w.heap.size w wr) (fun i _ => (intOf i).toNat)
      case atStart => exact ⟨min st.length 6, Nat.min_le_right _ _, Nat.min_le_left _ _, by congr 1; omega, HSIX.out, HK3.out, Ents.read HI3.out, HB3.out⟩
      case round =>
        clear HB3 HI3 HK3 HSIX
        obtain ⟨n, hn6, hns, rfl, hbs, hbx, hen, hb⟩ := hrel
        have HBS := Lib.hid hbs; have HBX := Lib.hid hbx; have HEN := Lib.hid hen; have HB := Lib.hid hb
        clear hbs hen
        obtain ⟨k0, k1⟩ := hbx
        by_cases hn1 : 1 ≤ n
        · have i1 : (1 : Int) ≤ (n : Int) := by omega
          have i2 : (n : Int) ≤ (sc : Int) := by omega
          have hbd := (Below.refl wr.heap.size wr).drew
          have HBD := Lib.hid (hb.trans (hbd.mono hb.size)); have HXD := Lib.hid (HBX.out.below hbd); have HED := Lib.hid (HEN.out.below hbd)
          obtain ⟨g, o, hga, _⟩ := HST.out.at 0 (by omega)
          subst hga
          have HFR := Lib.hid (HST.out.front hns)
          clear hb hbd
          go_upto_region 7 with fail
          refine wp_region_held_drew (S := Box1 w1.heap.size (.slice ud l.length uc)) (by kernel_rfl) HXD.out (fun hS0 => ?_)
          generalize wr.drew = v0 at *
          refine wpAnyH_take (i := 0) (v := .agg #[.slice ud l.length uc]) rfl (by kernel_rfl) (by kernel_rfl) (by kernel_rfl) (fun _ _ _ h => h) (Or.inl ⟨by rfl, fun z hz => ?_⟩) hS0 ?_
          · obtain ⟨z1, z2⟩ := hz
            go_simp
          try simp only [List.getElem_toArray, List.getElem_cons_zero, Act.put, List.setIfInBounds_toArray, List.set_cons_zero, List.set_cons_succ]
          refine wpAnyH_take (i := 1) (v := .slice (some ⟨g, o, none⟩) st.length sc) rfl (by kernel_rfl) (by kernel_rfl) (by kernel_rfl) (fun _ _ _ h => h) (Or.inl ⟨by rfl, fun z hz => ?_⟩) hS0 ?_
          · obtain ⟨z1, z2⟩ := hz
            go_simp
          try simp only [List.getElem_toArray, List.getElem_cons_zero, List.getElem_cons_succ, Act.put, List.setIfInBounds_toArray, List.set_cons_zero, List.set_cons_succ]
          refine wpAnyH_take (i := 2) (v := .int .i64 n) rfl (by kernel_rfl) (by kernel_rfl) (by kernel_rfl) (fun _ _ _ h => h) (Or.inl ⟨by rfl, fun z hz => ?_⟩) hS0 ?_
          · obtain ⟨z1, z2⟩ := hz
            go_simp
          try simp only [List.getElem_toArray, List.getElem_cons_zero, List.getElem_cons_succ, Act.put, List.setIfInBounds_toArray, List.set_cons_zero, List.set_cons_succ]
          refine wpAnyH_take (i := 3) (v := .slice (some ⟨g, o, none⟩) n sc) rfl (by kernel_rfl) (by kernel_rfl) (by kernel_rfl) (fun _ _ _ h => h) (Or.inl ⟨by rfl, fun z hz => ?_⟩) hS0 ?_
          · obtain ⟨z1, z2⟩ := hz
            go_simp
          try simp only [List.getElem_toArray, List.getElem_cons_zero, List.getElem_cons_succ, Act.put, List.setIfInBounds_toArray, List.set_cons_zero, List.set_cons_succ]
          refine wpAnyH_ready (rs := [4]) (by kernel_rfl) (by simp) ?_
          refine AllReadyH.cons rfl (fun K hK => ?_) AllReadyH.nil
          go_simp
          refine (dicLookup _ _ l (st.take n) _ HED.out (HFR.out.below HBD.out)).mono ?_
          rintro e v1 ⟨rfl, hb⟩
          have HB4 := Lib.hid (HBD.out.trans (hb.mono HBD.out.size)); have HX4 := Lib.hid (HXD.out.below hb); have HE4 := Lib.hid (HED.out.below hb)
          refine hK.out _ _ (hS0.below hb) (fun hS1 => ?_)
          clear hK K hb hS0
          try simp only [List.getElem_toArray, List.getElem_cons_zero, List.getElem_cons_succ, Act.put, List.setIfInBounds_toArray, List.set_cons_zero, List.set_cons_succ]
          have HT := Lib.hid (show P.hasE (st.take n) l = true → P.longA l st = ((n : Int), P.textAt (st.take n) l, true) from fun h => P.longA_hit hn1 hns h HBS.out)
          have HN := Lib.hid (show P.hasE (st.take n) l = false → P.best l st st.length = P.best l st (n - 1) from fun h => by
            obtain ⟨m, rfl⟩ : ∃ m, n = m + 1 := ⟨n - 1, by omega⟩
            rw [HBS.out]; exact P.best_step h)
          generalize P.textAt (st.take n) l = tx at *
          generalize P.hasE (st.take n) l = q at *
          refine wpAnyH_take (i := 5) (v := .tuple #[.string (S tx), .bool q]) rfl (by kernel_rfl) (by kernel_rfl) (by kernel_rfl) (fun _ _ _ h => h) (Or.inl ⟨by rfl, fun z hz => ?_⟩) hS1 ?_
          · obtain ⟨z1, z2⟩ := hz
            go_simp
          try simp only [List.getElem_toArray, List.getElem_cons_zero, List.getElem_cons_succ, Act.put, List.setIfInBounds_toArray, List.set_cons_zero, List.set_cons_succ]
          refine wpAnyH_take (i := 6) (v := .string (S tx)) rfl (by kernel_rfl) (by kernel_rfl) (by kernel_rfl) (fun _ _ _ h => h) (Or.inl ⟨by rfl, fun z hz => ?_⟩) hS1 ?_
          · obtain ⟨z1, z2⟩ := hz
            go_simp
          try simp only [List.getElem_toArray, List.getElem_cons_zero, List.getElem_cons_succ, Act.put, List.setIfInBounds_toArray, List.set_cons_zero, List.set_cons_succ]
          refine wpAnyH_take (i := 7) (v := .bool q) rfl (by kernel_rfl) (by kernel_rfl) (by kernel_rfl) (fun _ _ _ h => h) (Or.inl ⟨by rfl, fun z hz => ?_⟩) hS1 ?_
          · obtain ⟨z1, z2⟩ := hz
            go_simp
          try simp only [List.getElem_toArray, List.getElem_cons_zero, List.getElem_cons_succ, Act.put, List.setIfInBounds_toArray, List.set_cons_zero, List.set_cons_succ]
          refine wpAnyH_take (i := 8) (v := .string (S tx)) rfl (by kernel_rfl) (by kernel_rfl) (by kernel_rfl) (fun _ _ _ h => h) (Or.inl ⟨by rfl, fun z hz => ?_⟩) hS1 ?_
          · obtain ⟨z1, z2⟩ := hz
            go_simp
          try simp only [List.getElem_toArray, List.getElem_cons_zero, List.getElem_cons_succ, Act.put, List.setIfInBounds_toArray, List.set_cons_zero, List.set_cons_succ]
          refine wpAnyH_take (i := 9) (v := .bool q) rfl (by kernel_rfl) (by kernel_rfl) (by kernel_rfl) (fun _ _ _ h => h) (Or.inl ⟨by rfl, fun z hz => ?_⟩) hS1 ?_
          · obtain ⟨z1, z2⟩ := hz
            go_simp
          try simp only [List.getElem_toArray, List.getElem_cons_zero, List.getElem_cons_succ, Act.put, List.setIfInBounds_toArray, List.set_cons_zero, List.set_cons_succ]
          refine wpAnyH_done (by kernel_rfl) ?_ _
          clear hS1
          cases q
          · have HNN := Lib.hid (HN.out rfl)
            clear HT HN
            go_wp2
            go_roundw
            case rel => exact ⟨n - 1, by omega, by omega, by congr 1; omega, HNN.out, HX4.out, HE4.out, HB4.out⟩
            case measure => simp [intOf]; omega
          · have HTT := Lib.hid (HT.out rfl)
            clear HT HN
            go_wp2
            go_ret3
            exact ⟨by rw [HR.out, HTT.out]; rfl, HB4.out⟩
        · have HM := Lib.hid (P.longA_miss HDL.out (show P.best l st st.length = 0 by rw [HBS.out, show n = 0 by omega]; rfl))
          have i1 : ¬ (1 : Int) ≤ (n : Int) := by omega
          clear hb
          go_wp2
          go_ret3
          exact ⟨by rw [HR.out, HM.out]; rfl, HB.out⟩
theorem spec_longest (tv sv : Value) (t : P.Tri) (st : List Int) (w : World) (hu : NodR w tv t) (hs : IntR w sv st) (hx : ∀ n ∈ t, n.2.2.2.length ≤ 2 ^ 30) :
    Calls Tryz.prog 34 #[.agg #[tv], sv] w (LongPost (P.longR (P.dictI t) st) w) := by
  have hba := (Below.refl w.heap.size w).alloc (Nat.le_refl _) (.cells #[tv] 30)
  have HTB := Lib.hid (Box1.new tv 30 w)
  have HB0 := Lib.hid hba; have HU := Lib.hid hu; have HST := Lib.hid hs; have HX := Lib.hid hx
  clear hba hx
  obtain ⟨ad, cap, rfl, _, _⟩ := hu
  obtain ⟨sd, sc, rfl, hsl, _⟩ := hs
  go_enter Tryz.func34, Tryz.ntmps34
  go_wp2_with fail
  refine (spec_isValidTrie _ t _ (HU.out.below HB0.out) HX.out).mono ?_
  rintro e w1 ⟨rfl, hb⟩
  rw [← P.dict_eq]
  have HB1 := Lib.hid (HB0.out.trans (hb.mono HB0.out.size)); have HT1 := Lib.hid (HTB.out.below hb)
  clear hb HB0 HTB
  cases hd : P.dictI t with
  | none =>
    have HR := Lib.hid (show P.longR (P.dictI t) st = (0, [], false) by rw [hd]; rfl)
    clear hd
    simp only [Option.isSome_none]
    go_wp2
    go_ret3
    exact ⟨by rw [HR.out]; rfl, HB1.out⟩
  | some l =>
    obtain ⟨hdl, hsub, hsh⟩ := P.dic_sub hd
    have HSUB := Lib.hid hsub; have HSH := Lib.hid hsh; have HD := Lib.hid hd; have HDL := Lib.hid hdl
    clear hd hsub hsh hdl
    simp only [Option.isSome_some]
    go_wp2_with fail
    refine (l7Strokes _ st _ (HST.out.below HB1.out)).mono ?_
    rintro e w2 ⟨rfl, hb⟩
    have HB2 := Lib.hid (HB1.out.trans (hb.mono HB1.out.size)); have HT2 := Lib.hid (HT1.out.below hb)
    clear hb HB1 HT1
    cases hq : P.slist st
    · have HR := Lib.hid (show P.longR (P.dictI t) st = (0, [], false) from P.longR_none (.inr hq))
      clear hq
      go_wp2
      go_ret3
      exact ⟨by rw [HR.out]; rfl, HB2.out⟩
    · have HR := Lib.hid (show P.longR (P.dictI t) st = P.longA l st by rw [HD.out]; exact P.longR_some hq)
      clear hq
      go_wp2_with fail
      go_loopw [7, 8, 9, 10] (fun n x c i wr => ∃ (j k : Nat) (es : P.Dic), j ≤ st.length ∧ i = .int .i64 j ∧ c = .int .i64 k ∧ n = .int .i64 (P.best l st j : Nat) ∧ x = .string (S (P.textAt (st.take (P.best l st j)) l)) ∧ P.Sub l t (st.take j) k es ∧ Box1 w.heap.size (.slice ad t.length cap) wr ∧ Below w.heap.size w wr) (fun _ _ _ i _ => st.length - (intOf i).toNat)
      case atStart => exact ⟨0, 0, l, Nat.zero_le _, rfl, rfl, rfl, by rw [P.textAt_best HDL.out st 0 rfl]; rfl, HSUB.out, HT2.out, HB2.out⟩
      case round =>
        clear HB2 HT2
        obtain ⟨j, k, es, hj, rfl, rfl, rfl, rfl, hsb, htb, hb⟩ := hrel
        have HSB := Lib.hid hsb; have HB := Lib.hid hb; have HTB := Lib.hid htb
        have hkl := hsb.node.2
        clear hsb
        obtain ⟨b0, b1⟩ := htb
        by_cases hlt : j < st.length
        · obtain ⟨g, o, hga, hgl, x0⟩ := (HST.out.below hb).at j hlt
          subst hga
          have hsn := take_snoc st j hlt
          obtain ⟨s, hs⟩ : ∃ s, st[j] = s := ⟨_, rfl⟩
          rw [hs] at x0 hsn
          have HSN := Lib.hid hsn
          have i1 : (j : Int) < (st.length : Int) := by omega
          obtain ⟨hk1, _⟩ := P.Sub.kids HSH.out HSB.out
          have HK1 := Lib.hid hk1
          have hbd := (Below.refl wr.heap.size wr).drew
          have HBD := Lib.hid (hb.trans (hbd.mono hb.size)); have HTD := Lib.hid (HTB.out.below hbd)
          have HS := Lib.hid (show wr.drew.cell? ⟨w.heap.size, 0, none⟩ = some (.slice ad t.length cap) ∧ wr.drew.cell? ⟨g, o + j, none⟩ = some (.int .i64 s) ∧ w.heap.size < wr.drew.heap.size ∧ g < wr.drew.heap.size from ⟨HTD.out.1, (hbd.cell (p := ⟨g, o + j, none⟩) hgl).trans x0, HTD.out.2, hgl⟩)
          have hbl := P.best_le l st j
          have HBN := Lib.hid (show ∀ b, P.hasE (st.take (j + 1)) l = b → P.best l st (j + 1) = if b then j + 1 else P.best l st j from fun b h => by
            show (if P.hasE (st.take (j + 1)) l then j + 1 else P.best l st j) = _
            rw [h])
          have HBM := Lib.hid (show (∀ e ∈ l, e.1.take (st.take (j + 1)).length ≠ st.take (j + 1)) → P.best l st st.length = P.best l st j from fun h => P.best_same hj fun i hi1 hi2 => P.hasE_none fun e he ht => h e he (by
            have l1 : (st.take i).length = i := by rw [List.length_take]; omega
            have l2 : (st.take (j + 1)).length = j + 1 := by rw [List.length_take]; omega
            rw [l1] at ht
            rw [l2, show e.1.take (j + 1) = (e.1.take i).take (j + 1) by rw [List.take_take, Nat.min_eq_left (by omega)], ht, List.take_take, Nat.min_eq_left (by omega)]))
          generalize hbj : P.best l st j = bj at *
          have HBJ := Lib.hid hbj
          generalize hbt : P.textAt (st.take bj) l = bt at *
          have HBT := Lib.hid hbt
          have HLA := Lib.hid (show ∀ b, decide (0 < bj) = b → P.best l st st.length = bj → P.longA l st = ((bj : Int), bt, b) from fun b h1 h2 => by unfold P.longA; rw [h2, hbt, h1])
          clear hbt
          clear hsn hs hk1 hb hbd hbj
          go_upto_region 8 with fail
          refine wp_region_held_drew (S := fun v : World => v.cell? ⟨w.heap.size, 0, none⟩ = some (.slice ad t.length cap) ∧ v.cell? ⟨g, o + j, none⟩ = some (.int .i64 s) ∧ w.heap.size < v.heap.size ∧ g < v.heap.size) (by kernel_rfl) HS.out (fun hS0 => ?_)
          generalize wr.drew = v0 at *
          refine wpAnyH_take (i := 0) (v := .agg #[.slice ad t.length cap]) rfl (by kernel_rfl) (by kernel_rfl) (by kernel_rfl) (fun _ _ _ h => h) (Or.inl ⟨by rfl, fun z hz => ?_⟩) hS0 ?_
          · obtain ⟨z1, z2, z3, z4⟩ := hz
            go_simp
          try simp only [List.getElem_toArray, List.getElem_cons_zero, Act.put, List.setIfInBounds_toArray, List.set_cons_zero, List.set_cons_succ]
          refine wpAnyH_take (i := 1) (v := .int .i64 k) rfl (by kernel_rfl) (by kernel_rfl) (by kernel_rfl) (fun _ _ _ h => h) (Or.inl ⟨by rfl, fun z hz => ?_⟩) hS0 ?_
          · obtain ⟨z1, z2, z3, z4⟩ := hz
            go_simp
          try simp only [List.getElem_toArray, List.getElem_cons_zero, List.getElem_cons_succ, Act.put, List.setIfInBounds_toArray, List.set_cons_zero, List.set_cons_succ]
          refine wpAnyH_take (i := 2) (v := .slice (some ⟨g, o, none⟩) st.length sc) rfl (by kernel_rfl) (by kernel_rfl) (by kernel_rfl) (fun _ _ _ h => h) (Or.inl ⟨by rfl, fun z hz => ?_⟩) hS0 ?_
          · obtain ⟨z1, z2, z3, z4⟩ := hz
            go_simp
          try simp only [List.getElem_toArray, List.getElem_cons_zero, List.getElem_cons_succ, Act.put, List.setIfInBounds_toArray, List.set_cons_zero, List.set_cons_succ]
          refine wpAnyH_take (i := 3) (v := .int .i64 j) rfl (by kernel_rfl) (by kernel_rfl) (by kernel_rfl) (fun _ _ _ h => h) (Or.inl ⟨by rfl, fun z hz => ?_⟩) hS0 ?_
          · obtain ⟨z1, z2, z3, z4⟩ := hz
            go_simp
          try simp only [List.getElem_toArray, List.getElem_cons_zero, List.getElem_cons_succ, Act.put, List.setIfInBounds_toArray, List.set_cons_zero, List.set_cons_succ]
          refine wpAnyH_take (i := 4) (v := .pointer (some ⟨g, o + j, none⟩)) rfl (by kernel_rfl) (by kernel_rfl) (by kernel_rfl) (fun _ _ _ h => h) (Or.inl ⟨by rfl, fun z hz => ?_⟩) hS0 ?_
          · obtain ⟨z1, z2, z3, z4⟩ := hz
            go_simp
          try simp only [List.getElem_toArray, List.getElem_cons_zero, List.getElem_cons_succ, Act.put, List.setIfInBounds_toArray, List.set_cons_zero, List.set_cons_succ]
          refine wpAnyH_take (i := 5) (v := .int .i64 s) rfl (by kernel_rfl) (by kernel_rfl) (by kernel_rfl) (fun _ _ _ h => h) (Or.inl ⟨by rfl, fun z hz => ?_⟩) hS0 ?_
          · obtain ⟨z1, z2, z3, z4⟩ := hz
            go_simp
          try simp only [List.getElem_toArray, List.getElem_cons_zero, List.getElem_cons_succ, Act.put, List.setIfInBounds_toArray, List.set_cons_zero, List.set_cons_succ]
          refine wpAnyH_ready (rs := [6]) (by kernel_rfl) (by simp) ?_
          refine AllReadyH.cons rfl (fun K hK => ?_) AllReadyH.nil
          go_simp
          refine (l7Child _ t k s _ (HU.out.below HBD.out) hkl HK1.out).mono ?_
          rintro e w3 ⟨rfl, hb⟩
          have HB3 := Lib.hid (HBD.out.trans (hb.mono HBD.out.size)); have HT3 := Lib.hid (HTD.out.below hb)
          refine hK.out _ _ ⟨(hb.cell (p := ⟨w.heap.size, 0, none⟩) hS0.2.2.1).trans hS0.1, (hb.cell (p := ⟨g, o + j, none⟩) hS0.2.2.2).trans hS0.2.1, Nat.lt_of_lt_of_le hS0.2.2.1 hb.size, Nat.lt_of_lt_of_le hS0.2.2.2 hb.size⟩ (fun hS1 => ?_)
          clear hK K hb hS0
          try simp only [List.getElem_toArray, List.getElem_cons_zero, List.getElem_cons_succ, Act.put, List.setIfInBounds_toArray, List.set_cons_zero, List.set_cons_succ]
          rcases HSB.out.child s with ⟨c, g2, h1, h2, h3⟩ | ⟨h1, h2⟩
          · have HS3 := Lib.hid (show P.Sub l t (st.take (j + 1)) c g2 by rw [HSN.out]; exact h3)
            rw [h1]
            clear h1 h3
            refine wpAnyH_take (i := 7) (v := .int .i64 c) rfl (by kernel_rfl) (by kernel_rfl) (by kernel_rfl) (fun _ _ _ h => h) (Or.inl ⟨by rfl, fun z hz => ?_⟩) hS1 ?_
            · obtain ⟨z1, z2, z3, z4⟩ := hz
              go_simp
            try simp only [List.getElem_toArray, List.getElem_cons_zero, List.getElem_cons_succ, Act.put, List.setIfInBounds_toArray, List.set_cons_zero, List.set_cons_succ]
            refine wpAnyH_done (by kernel_rfl) ?_ _
            clear hS1
            have hcl := HS3.out.node.2
            have htx := HS3.out.text HDL.out
            obtain ⟨gn, on, x, y, sn, cn, tt, tx, hg, rfl, hgl2, ⟨c0, c1, c2, c3⟩, _, _⟩ := (HU.out.below HB3.out).node hcl
            rw [hg] at htx
            simp only [Prod.mk.injEq] at htx
            obtain ⟨hh, ht⟩ := htx
            have HH := Lib.hid hh; have HTX := Lib.hid ht
            obtain ⟨q0, q1⟩ := HT3.out
            have i2 : (c : Int) < (t.length : Int) := by omega
            clear hg hh ht
            cases tt
            · have HNB := Lib.hid (HBN.out false HH.out.symm)
              go_wp2
              go_roundw
              case rel =>
                refine ⟨j + 1, c, g2, by omega, by go_num, rfl, ?_, ?_, HS3.out, HT3.out, HB3.out⟩
                · rw [HNB.out]; rfl
                · rw [HNB.out, if_neg (by decide), HBT.out]
              case measure => simp [intOf]; omega
            · have HNB := Lib.hid (HBN.out true HH.out.symm)
              go_wp2
              go_roundw
              case rel =>
                refine ⟨j + 1, c, g2, by omega, by go_num, rfl, ?_, ?_, HS3.out, HT3.out, HB3.out⟩
                · rw [HNB.out]; go_num
                · rw [HNB.out, if_pos rfl, HTX.out]
              case measure => simp [intOf]; omega
          · have HF := Lib.hid (HBM.out (by rw [HSN.out]; exact h2))
            rw [h1]
            clear h1 h2
            refine wpAnyH_take (i := 7) (v := .int .i64 (-1)) rfl (by kernel_rfl) (by kernel_rfl) (by kernel_rfl) (fun _ _ _ h => h) (Or.inl ⟨by rfl, fun z hz => ?_⟩) hS1 ?_
            · obtain ⟨z1, z2, z3, z4⟩ := hz
              go_simp
            try simp only [List.getElem_toArray, List.getElem_cons_zero, List.getElem_cons_succ, Act.put, List.setIfInBounds_toArray, List.set_cons_zero, List.set_cons_succ]
            refine wpAnyH_done (by kernel_rfl) ?_ _
            clear hS1
            by_cases hp : 0 < bj
            · have HL := Lib.hid (HLA.out true (decide_eq_true hp) HF.out)
              go_wp2
              go_ret3
              exact ⟨by rw [HR.out, HL.out]; rfl, HB3.out⟩
            · have HL := Lib.hid (HLA.out false (decide_eq_false hp) HF.out)
              go_wp2
              go_ret3
              exact ⟨by rw [HR.out, HL.out]; rfl, HB3.out⟩
        · have hjl : j = st.length := by omega
          have i1 : ¬ (j : Int) < (st.length : Int) := by omega
          have HLA := Lib.hid (show ∀ b, decide (0 < P.best l st j) = b → P.longA l st = ((P.best l st j : Int), P.textAt (st.take (P.best l st j)) l, b) from fun b h1 => by unfold P.longA; rw [← hjl, h1])
          generalize P.best l st j = bj at *
          generalize P.textAt (st.take bj) l = bt at *
          clear hb hjl
          by_cases hp : 0 < bj
          · have HL := Lib.hid (HLA.out true (decide_eq_true hp))
            go_wp2
            go_ret3
            exact ⟨by rw [HR.out, HL.out]; rfl, HB.out⟩
          · have HL := Lib.hid (HLA.out false (decide_eq_false hp))
            go_wp2
            go_ret3
            exact ⟨by rw [HR.out, HL.out]; rfl, HB.out⟩
end Go.Proofs.YtojcfpjoikmgcaaGreatDoor
