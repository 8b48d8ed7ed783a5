/- Walks: the reference's entries of a trie, two tries held against each other, whether a trie is valid. Tries that are valid: what is known of their dictionary; a node as it is read; whether a trie is valid (program). -/
import Derived.Deep.DeepCutAuto
import Derived.Deep.RegionHeld
import Derived.RegionTactic
import Derived.BigRegion
import Derived.Test.YtkjidjomlpnnlaaGreatDoorColl
import Derived.Test.YtkjidjomlpnnlaaGreatDoorTrieOf
import Derived.Test.YtkjidjomlpnnlaaGreatDoorDictT
namespace Go.Proofs.YtkjidjomlpnnlaaGreatDoor
section
section
namespace P
theorem collect_texts (t : Tri) (B : Nat) (hB : ∀ n ∈ t, n.2.2.2.length ≤ B) : ∀ (f k : Nat) (o : List Int), ∀ e ∈ collect t f k o, e.2.length ≤ B
  | 0, _, _, _, h => by cases h
  | f + 1, k, o, e, he => by
    rw [collect_succ] at he
    rcases List.mem_append.1 he with he | he
    · unfold own at he
      split at he
      · rename_i ht
        rw [List.mem_singleton] at he
        subst he
        rcases Nat.lt_or_ge k t.length with h | h
        · rw [List.getD_eq_getElem?_getD, List.getElem?_eq_getElem h]
          exact hB _ (List.getElem_mem h)
        · rw [List.getD_eq_getElem?_getD, List.getElem?_eq_none h] at ht
          exact absurd ht (by decide)
      · cases he
    · obtain ⟨sc, _, h⟩ := List.mem_flatMap.1 he
      exact collect_texts t B hB f _ _ e h
theorem dictS_no_shape {t : Tri} (h : shape t = false) : dictS t = none := by unfold dictS; rw [h]; rfl
theorem dictS_no_dic {t : Tri} (h : dic (collect t t.length 0 []) = false) : dictS t = none := by unfold dictS; rw [h]; simp
theorem dictS_if {t : Tri} (h1 : shape t = true) (h2 : dic (collect t t.length 0 []) = true) : dictS t = if decide (t = trie (collect t t.length 0 [])) then some (collect t t.length 0 []) else none := by
  unfold dictS
  rw [h1, h2, Bool.true_and, Bool.true_and]
  congr 1
  simp
end P
end
open Go Go.RowKit
set_option maxHeartbeats 4000000
set_option maxRecDepth 100000
def ColPost (l : P.Dic) (w : World) (e : Ending) (w' : World) : Prop := ∃ u, e = .returned (.agg #[u]) ∧ Ents w' (Bet w.heap.size w'.heap.size) u l ∧ Below w.heap.size w w'
theorem l7Entries (tv : Value) (t : P.Tri) (w : World) (hu : NodR w tv t) (hS : P.Shaped t) :
    Calls Tryz.prog 119 #[.agg #[tv]] w (ColPost (P.collect t t.length 0 []) w) := by
  have hb0 : Below w.heap.size w ((((w.alloc (.cells #[tv] 86)).alloc (.cells #[.slice none 0 0] 26)).alloc (.cells #[.slice none 0 0] 26)).alloc (.cells #[] 3)) :=
    ((((Below.refl w.heap.size w).alloc (Nat.le_refl _) _).alloc (by simp) _).alloc (by simp; omega) _).alloc (by simp; omega) _
  have HB0 := Lib.hid hb0; clear hb0
  have HRB := Lib.hid (show BL (w.heap.size + 1) (.slice none 0 0) ((((w.alloc (.cells #[tv] 86)).alloc (.cells #[.slice none 0 0] 26)).alloc (.cells #[.slice none 0 0] 26)).alloc (.cells #[] 3)) by refine ⟨?_, ?_, ?_⟩ <;> go_simp)
  have HBB := Lib.hid (show BL (w.heap.size + 1 + 1) (.slice none 0 0) ((((w.alloc (.cells #[tv] 86)).alloc (.cells #[.slice none 0 0] 26)).alloc (.cells #[.slice none 0 0] 26)).alloc (.cells #[] 3)) by refine ⟨?_, ?_, ?_⟩ <;> go_simp)
  have HU := Lib.hid hu; have HS := Lib.hid hS
  obtain ⟨ad, cap, rfl, _, _⟩ := hu
  clear hS
  have h0 : (0 : Int) = ((0 : Nat) : Int) := rfl
  go_enter Tryz.func119, Tryz.ntmps119
  clear h0
  go_wp2_with fail
  refine (l7Collect w (.slice ad t.length cap) t HU.out HS.out (w.heap.size + 1 + 1) (by omega) t.length 0 _ [] (.slice none 0 0) [] [] _ (by omega) HS.out.pos ⟨_, _, rfl, by simp, (fun h => by cases h), .inl rfl⟩ (Nat.zero_le _) (fun b hb => ⟨fun e => by simp [Value.ownBlock] at hb; omega, fun e => by cases e⟩) HBB.out (Acc.nil (World.ownsRow_nil _ _ _ _) (by simp)) (by have := HS.out.few; simp; omega) HB0.out).mono ?_
  rintro e w1 ⟨rfl, u', xs', hbl, hacc, _, hch⟩
  rw [List.nil_append] at hacc
  have hrow := hacc.row (by have := HS.out.few; omega)
  have hrb := HRB.out.stand hch (fun e => e.elim (fun e => by omega) (fun e => by cases e))
  have HROW := Lib.hid hrow
  have HBW := Lib.hid (HB0.out.trans (hch.below (B := w.heap.size) HB0.out.size (fun b e => e.elim (fun e => by omega) (fun e => by cases e))))
  obtain ⟨c0, _, _⟩ := hbl
  obtain ⟨r0, s0, _⟩ := hrb
  obtain ⟨ud, uc, rfl, _, _⟩ := hrow
  clear hacc hch
  generalize P.collect t t.length 0 [] = col at *
  go_wp2
  refine bodyPost_ret (v := .agg #[.slice ud col.length uc]) (by simp [results, Tryz.results119, go_sem, r0]) rfl ⟨_, rfl, ?_, ?_⟩
  · refine (HROW.out.stand (X := fun b => b = w.heap.size + 1) entE_ok ((Chg.refl (fun b => b = w.heap.size + 1) _).setCell (p := ⟨w.heap.size + 1, 0, none⟩) rfl _) (fun b hb e => by have := hb.1; omega)).wide (fun b hb => ⟨by have := hb.1; omega, by simpa [World.setCell] using hb.2⟩) (fun b hb => hb.2)
  · exact HBW.out.setCell (by simp) _
theorem l7Same (u v : Value) (a b : P.Tri) (w : World) (hu : NodR w u a) (hv : NodR w v b) :
    Calls Tryz.prog 180 #[.agg #[u], .agg #[v]] w fun e w' => e = .returned (.bool (decide (a = b))) ∧ Below w.heap.size w w' := by
  have hb0 : Below w.heap.size w ((w.alloc (.cells #[u] 86)).alloc (.cells #[v] 86)) :=
    ((Below.refl w.heap.size w).alloc (Nat.le_refl _) _).alloc (by simp) _
  have HU := Lib.hid hu; have HV := Lib.hid hv; have HB0 := Lib.hid hb0; clear hb0
  have HXB := Lib.hid (show Box1 w.heap.size u ((w.alloc (.cells #[u] 86)).alloc (.cells #[v] 86)) from (Box1.new u 86 w).below ((Below.refl _ _).alloc (Nat.le_refl _) _))
  have HYB := Lib.hid (show Box1 (w.heap.size + 1) v ((w.alloc (.cells #[u] 86)).alloc (.cells #[v] 86)) by have h := Box1.new v 86 (w.alloc (.cells #[u] 86)); simpa using h)
  obtain ⟨ad, cap, rfl, hla, _⟩ := hu
  obtain ⟨bd, dap, rfl, hlb, _⟩ := hv
  by_cases hlen : a.length = b.length
  · have hl1 : a.length ≤ b.length := by omega
    have hl2 : b.length ≤ a.length := by omega
    have i0 : ((a.length : Int) == (b.length : Int)) = true := by simp; omega
    have i1 : ((a.length : Int) != (b.length : Int)) = false := by simp; omega
    have HLEN := Lib.hid hlen; clear hlen
    go_enter Tryz.func180, Tryz.ntmps180
    go_wp2_with fail
    go_loopw [5] (fun i wr => ∃ j : Nat, j ≤ a.length ∧ i = .int .i64 j ∧ a.take j = b.take j ∧ Below w.heap.size w wr ∧ Box1 w.heap.size (.slice ad a.length cap) wr ∧ Box1 (w.heap.size + 1) (.slice bd b.length dap) wr) (fun i _ => a.length - (intOf i).toNat)
    case atStart => exact ⟨0, Nat.zero_le _, rfl, rfl, HB0.out, HXB.out, HYB.out⟩
    case round =>
      clear HXB HYB HB0
      obtain ⟨j, hj, rfl, htk, hb, hxb, hyb⟩ := hrel
      have HB := Lib.hid hb; have HTK := Lib.hid htk; have HXB := Lib.hid hxb; have HYB := Lib.hid hyb; clear htk
      obtain ⟨k0, k1⟩ := hxb
      obtain ⟨l0, l1⟩ := hyb
      by_cases hlt : j < a.length
      · have hlt2 : j < b.length := by omega
        obtain ⟨c, p, hga, hgl, x, y, c0, c1, c2, c3, hx, hy⟩ := (HU.out.below hb).at j hlt
        obtain ⟨g, q, hgb, hgl', x', y', d0, d1, d2, d3, hx', hy'⟩ := (HV.out.below hb).at j hlt2
        have HT1 := Lib.hid (take_snoc a j hlt); have HT2 := Lib.hid (take_snoc b j hlt2)
        have HNE := Lib.hid (fun (h : a = b) => (show a[j] = b[j] by subst h; rfl))
        obtain ⟨na, hna⟩ : ∃ n, a[j] = n := ⟨_, rfl⟩
        obtain ⟨nb, hnb⟩ : ∃ n, b[j] = n := ⟨_, rfl⟩
        rw [hna] at c2 c3 hx hy HT1 HNE
        rw [hnb] at d2 d3 hx' hy' HT2 HNE
        clear hna hnb
        subst hga hgb
        obtain ⟨xs, ys, t, s⟩ := na
        obtain ⟨xs', ys', t', s'⟩ := nb
        simp only at c2 c3 hx hy d2 d3 hx' hy'
        have HX := Lib.hid hx; have HY := Lib.hid hy; have HX' := Lib.hid hx'; have HY' := Lib.hid hy'
        obtain ⟨xd, xc, rfl, _, _⟩ := hx
        obtain ⟨yd, yc, rfl, _, _⟩ := hy
        obtain ⟨xd', xc', rfl, _, _⟩ := hx'
        obtain ⟨yd', yc', rfl, _, _⟩ := hy'
        have i2 : (j : Int) < (a.length : Int) := by omega
        have i3 : (j : Int) < (b.length : Int) := by omega
        clear hb
        go_upto_region 6 with fail
        go_cut [6, 7] (fun m n wx => ∃ N M, m = .pointer (some ⟨N, 0, none⟩) ∧ n = .pointer (some ⟨M, 0, none⟩) ∧ NB N (.slice xd xs.length xc) (.slice yd ys.length yc) t s wx ∧ NB M (.slice xd' xs'.length xc') (.slice yd' ys'.length yc') t' s' wx ∧ Below wr.heap.size wr wx)
        case first =>
          go_region
          all_goals
            go_wp2_with fail
            go_meet
            case rel =>
              refine ⟨_, _, rfl, rfl, ?_, ?_, ?_⟩
              · refine ⟨?_, ?_, ?_, ?_, ?_, ?_, ?_, ?_, ?_⟩ <;> go_simp
              · refine ⟨?_, ?_, ?_, ?_, ?_, ?_, ?_, ?_, ?_⟩ <;> go_simp
              · exact (((Below.refl _ _).alloc (Nat.le_refl _) _).alloc (by simp) _).drew
        case rest =>
          obtain ⟨N, M, rfl, rfl, hn, hm, hbc⟩ := hcut
          have HN := Lib.hid hn; have HM := Lib.hid hm
          have HB1 := Lib.hid (HB.out.trans (hbc.mono HB.out.size))
          have HXB1 := Lib.hid (HXB.out.below hbc); have HYB1 := Lib.hid (HYB.out.below hbc)
          have HX1 := Lib.hid (HX.out.below hbc); have HY1 := Lib.hid (HY.out.below hbc); have HX1' := Lib.hid (HX'.out.below hbc); have HY1' := Lib.hid (HY'.out.below hbc)
          clear hbc HX HY HX' HY' c0 c1 c2 c3 d0 d1 d2 d3 HXB HYB k0 k1 l0 l1
          obtain ⟨n0, n1, n2, n3, _, _, _, _, hN⟩ := hn
          obtain ⟨m0, m1, m2, m3, _, _, _, _, hM⟩ := hm
          cases h1 : decide (xs = xs')
          · have H1 := Lib.hid h1; clear h1
            go_wp2_with fail
            refine (l1Same _ _ xs xs' _ HX1.out HX1'.out).mono ?_
            rintro e w1 ⟨rfl, hb⟩
            rw [H1.out]
            have HB2 := Lib.hid (HB1.out.trans (hb.mono HB1.out.size))
            clear hb
            go_wp2
            go_ret
            exact ⟨ret_bool (by rw [eq_comm, decide_eq_false_iff_not]; exact fun h => of_decide_eq_false H1.out (congrArg (fun z : P.Nd => z.1) (HNE.out h))), HB2.out⟩
          · have H1 := Lib.hid h1; clear h1
            go_wp2_with fail
            refine (l1Same _ _ xs xs' _ HX1.out HX1'.out).mono ?_
            rintro e w1 ⟨rfl, hb⟩
            rw [H1.out]
            have HB2 := Lib.hid (HB1.out.trans (hb.mono HB1.out.size))
            have HXB2 := Lib.hid (HXB1.out.below hb); have HYB2 := Lib.hid (HYB1.out.below hb)
            have HY2 := Lib.hid (HY1.out.below hb); have HY2' := Lib.hid (HY1'.out.below hb)
            have HN2 := Lib.hid (HN.out.below hb); have HM2 := Lib.hid (HM.out.below hb)
            clear hb n0 n1 n2 n3 m0 m1 m2 m3 hN hM HX1 HX1' HY1 HY1' HXB1 HYB1 HN HM
            obtain ⟨n0, n1, n2, n3, _, _, _, _, hN⟩ := HN2.out
            obtain ⟨m0, m1, m2, m3, _, _, _, _, hM⟩ := HM2.out
            cases h2 : decide (ys = ys')
            · have H2 := Lib.hid h2; clear h2
              go_wp2_with fail
              refine (l1Same _ _ ys ys' _ HY2.out HY2'.out).mono ?_
              rintro e w2 ⟨rfl, hb⟩
              rw [H2.out]
              have HB3 := Lib.hid (HB2.out.trans (hb.mono HB2.out.size))
              clear hb
              go_wp2
              go_ret
              exact ⟨ret_bool (by rw [eq_comm, decide_eq_false_iff_not]; exact fun h => of_decide_eq_false H2.out (congrArg (fun z : P.Nd => z.2.1) (HNE.out h))), HB3.out⟩
            · have H2 := Lib.hid h2; clear h2
              go_wp2_with fail
              refine (l1Same _ _ ys ys' _ HY2.out HY2'.out).mono ?_
              rintro e w2 ⟨rfl, hb⟩
              rw [H2.out]
              have HB3 := Lib.hid (HB2.out.trans (hb.mono HB2.out.size))
              have HXB3 := Lib.hid (HXB2.out.below hb); have HYB3 := Lib.hid (HYB2.out.below hb)
              have HN3 := Lib.hid (HN2.out.below hb); have HM3 := Lib.hid (HM2.out.below hb)
              clear hb n0 n1 n2 n3 m0 m1 m2 m3 hN hM HXB2 HYB2 HN2 HM2
              obtain ⟨_, _, n2, n3, _, _, _, _, hN⟩ := HN3.out
              obtain ⟨_, _, m2, m3, _, _, _, _, hM⟩ := HM3.out
              by_cases h3 : t = t'
              · subst h3
                by_cases h4 : s = s'
                · subst h4
                  have HEQ := Lib.hid (show a.take (j + 1) = b.take (j + 1) by rw [HT1.out, HT2.out, HTK.out, of_decide_eq_true H1.out, of_decide_eq_true H2.out])
                  cases t
                  all_goals
                    go_wp2
                    go_roundw
                    case rel => exact ⟨j + 1, by omega, by go_num, HEQ.out, HB3.out, HXB3.out, HYB3.out⟩
                    case measure => simp [intOf]; omega
                · have H4 := Lib.hid h4
                  have hq : (s == s') = false := by simpa using h4
                  clear h4
                  cases t
                  all_goals
                    go_wp2
                    go_ret
                    exact ⟨ret_bool (by rw [eq_comm, decide_eq_false_iff_not]; exact fun h => H4.out (congrArg (fun z : P.Nd => z.2.2.2) (HNE.out h))), HB3.out⟩
              · have H3 := Lib.hid h3
                cases t <;> cases t'
                all_goals first | exact absurd rfl H3.out | skip
                all_goals
                  clear h3
                  go_wp2
                  go_ret
                  exact ⟨ret_bool (by rw [eq_comm, decide_eq_false_iff_not]; exact fun h => H3.out (congrArg (fun z : P.Nd => z.2.2.1) (HNE.out h))), HB3.out⟩
      · have HE := Lib.hid (show a = b by have h := HTK.out; rwa [List.take_of_length_le (by omega), List.take_of_length_le (by omega)] at h)
        have i2 : ¬ (j : Int) < (a.length : Int) := by omega
        clear hb
        go_wp2
        go_ret
        exact ⟨ret_bool (decide_eq_true HE.out).symm, HB.out⟩
  · have i0 : ((a.length : Int) == (b.length : Int)) = false := by simp; omega
    have i1 : ((a.length : Int) != (b.length : Int)) = true := by simp; omega
    have HLEN := Lib.hid hlen; clear hlen
    go_enter Tryz.func180, Tryz.ntmps180
    go_wp2_with fail
    go_ret
    exact ⟨ret_bool (by rw [eq_comm, decide_eq_false_iff_not]; intro h; exact HLEN.out (congrArg List.length h)), HB0.out⟩
/-- whether a trie is valid, as the reference sees it -/
theorem spec_isValidTrie (tv : Value) (t : P.Tri) (w : World) (hu : NodR w tv t) (hx : ∀ n ∈ t, n.2.2.2.length ≤ 2 ^ 30) :
    Calls Tryz.prog 118 #[.agg #[tv]] w fun e w' => e = .returned (.bool (P.dictS t).isSome) ∧ Below w.heap.size w w' := by
  have HTB := Lib.hid (Box1.new tv 86 w)
  have hba := (Below.refl w.heap.size w).alloc (Nat.le_refl _) (.cells #[tv] 86)
  have HB0 := Lib.hid hba; have HU := Lib.hid hu; have HX := Lib.hid hx
  clear hba hx
  obtain ⟨ad, cap, rfl, _, _⟩ := hu
  go_enter Tryz.func118, Tryz.ntmps118
  go_wp2_with fail
  refine (l7Shape _ t _ (HU.out.below HB0.out)).mono ?_
  rintro e w1 ⟨rfl, hb⟩
  have HB1 := Lib.hid (HB0.out.trans (hb.mono HB0.out.size)); have HT1 := Lib.hid (HTB.out.below hb)
  clear hb HTB HB0
  cases hs : P.shape t
  · have HD := Lib.hid (show (P.dictS t).isSome = false by rw [P.dictS_no_shape hs]; rfl)
    clear hs
    go_wp2
    go_ret
    exact ⟨ret_bool HD.out.symm, HB1.out⟩
  · have HSH := Lib.hid hs; clear hs
    obtain ⟨c0, c1⟩ := HT1.out
    go_wp2_with fail
    refine (l7Entries _ t _ (HU.out.below HB1.out) (P.shaped_of HSH.out)).mono ?_
    rintro e w2 ⟨u, rfl, hI, hb⟩
    have HB2 := Lib.hid (HB1.out.trans (hb.mono HB1.out.size)); have HT2 := Lib.hid (HT1.out.below hb)
    have HTX := Lib.hid (P.collect_texts t (2 ^ 30) HX.out t.length 0 [])
    have HDI := Lib.hid (fun h => P.dictS_if HSH.out h); have HDN := Lib.hid (P.dictS_no_dic (t := t))
    have HI := Lib.hid hI
    clear hb c0 c1 HB1 HT1
    generalize P.collect t t.length 0 [] = col at *
    obtain ⟨ud, uc, rfl, _, _⟩ := hI
    have hba := (Below.refl w2.heap.size w2).alloc (Nat.le_refl _) (.cells #[.slice ud col.length uc] 26)
    have hbb := (hba.drew)
    have HS := Lib.hid (show KDT w.heap.size w2.heap.size (.slice ad t.length cap) (.slice ud col.length uc) (w2.alloc (.cells #[.slice ud col.length uc] 26)).drew from
      KDT.step ⟨(Box1.new _ _ w2).1, (HT2.out.below hba).1, (Box1.new _ _ w2).2, (HT2.out.below hba).2⟩ (Below.refl _ _).drew)
    have HB3 := Lib.hid (HB2.out.trans (hbb.mono HB2.out.size)); have HI3 := Lib.hid (HI.out.below entE_ok hbb)
    clear hba hbb HB2 HI
    go_upto_region 4 with fail
    refine wp_region_held_drew (S := KDT w.heap.size w2.heap.size (.slice ad t.length cap) (.slice ud col.length uc)) (by kernel_rfl) HS.out (fun hS0 => ?_)
    generalize (w2.alloc (.cells #[.slice ud col.length uc] 26)).drew = w3 at *
    refine wpAnyH_take (i := 0) (v := .agg #[.slice ud col.length uc]) rfl (by kernel_rfl) (by kernel_rfl) (by kernel_rfl) (fun _ _ _ h => h) (Or.inl ⟨by rfl, fun z hz => ?_⟩) hS0 ?_
    · obtain ⟨z1, z2, z3, z4⟩ := hz
      go_simp
    try simp only [qA, qB, Act.put, qD, qE, qF]
    refine wpAnyH_ready (rs := [1]) (by kernel_rfl) (by simp) ?_
    refine AllReadyH.cons rfl (fun K hK => ?_) AllReadyH.nil
    have HS1 := Lib.hid hS0
    go_simp
    refine (l6Good _ col _ (Ents.read HI3.out) HTX.out).mono ?_
    rintro e v1 ⟨rfl, hb⟩
    have HB4 := Lib.hid (HB3.out.trans (hb.mono HB3.out.size)); have HI4 := Lib.hid (HI3.out.below entE_ok hb)
    refine hK.out _ _ (HS1.out.step hb) (fun hS1 => ?_)
    clear hK K hb HB3 HI3 hS0
    try simp only [qA, qB, qC, Act.put, qD, qE, qF]
    cases hd : P.dic col
    · have HD := Lib.hid (show (P.dictS t).isSome = false by rw [HDN.out hd]; rfl)
      refine wpAnyH_take (i := 2) (v := .bool false) rfl (by kernel_rfl) (by kernel_rfl) (by kernel_rfl) (fun _ _ _ h => h) (Or.inl ⟨by rfl, fun z hz => ?_⟩) hS1 ?_
      · obtain ⟨z1, z2, z3, z4⟩ := hz
        go_simp
      try simp only [qA, qB, qC, Act.put, qD, qE, qF]
      refine wpAnyH_take (i := 3) rfl (by kernel_rfl) (by kernel_rfl) (by kernel_rfl) (fun _ _ _ h => h) (Or.inr ⟨by rfl, rfl⟩) hS1 ?_
      try simp only [qA, qB, qC, Act.put, qD, qE, qF]
      refine wpAnyH_take (i := 4) rfl (by kernel_rfl) (by kernel_rfl) (by kernel_rfl) (fun _ _ _ h => h) (Or.inr ⟨by rfl, rfl⟩) hS1 ?_
      try simp only [qA, qB, qC, Act.put, qD, qE, qF]
      refine wpAnyH_take (i := 5) rfl (by kernel_rfl) (by kernel_rfl) (by kernel_rfl) (fun _ _ _ h => h) (Or.inr ⟨by rfl, rfl⟩) hS1 ?_
      try simp only [qA, qB, qC, Act.put, qD, qE, qF]
      refine wpAnyH_take (i := 6) rfl (by kernel_rfl) (by kernel_rfl) (by kernel_rfl) (fun _ _ _ h => h) (Or.inr ⟨by rfl, rfl⟩) hS1 ?_
      try simp only [qA, qB, qC, Act.put, qD, qE, qF]
      refine wpAnyH_take (i := 7) (v := .bool false) rfl (by kernel_rfl) (by kernel_rfl) (by kernel_rfl) (fun _ _ _ h => h) (Or.inl ⟨by rfl, fun z hz => ?_⟩) hS1 ?_
      · obtain ⟨z1, z2, z3, z4⟩ := hz
        go_simp
      try simp only [qA, qB, qC, Act.put, qD, qE, qF]
      refine wpAnyH_take (i := 8) (v := .bool false) rfl (by kernel_rfl) (by kernel_rfl) (by kernel_rfl) (fun _ _ _ h => h) (Or.inl ⟨by rfl, fun z hz => ?_⟩) hS1 ?_
      · obtain ⟨z1, z2, z3, z4⟩ := hz
        go_simp
      try simp only [qA, qB, qC, Act.put, qD, qE, qF]
      refine wpAnyH_done (by kernel_rfl) ?_ _
      clear hS1 HS1 hd
      go_wp2
      go_ret
      exact ⟨ret_bool HD.out.symm, HB4.out⟩
    · have HDC := Lib.hid hd
      have HDD := Lib.hid (HDI.out hd)
      clear hd
      refine wpAnyH_take (i := 2) (v := .bool true) rfl (by kernel_rfl) (by kernel_rfl) (by kernel_rfl) (fun _ _ _ h => h) (Or.inl ⟨by rfl, fun z hz => ?_⟩) hS1 ?_
      · obtain ⟨z1, z2, z3, z4⟩ := hz
        go_simp
      try simp only [qA, qB, qC, Act.put, qD, qE, qF]
      refine wpAnyH_take (i := 3) (v := .agg #[.slice ad t.length cap]) rfl (by kernel_rfl) (by kernel_rfl) (by kernel_rfl) (fun _ _ _ h => h) (Or.inl ⟨by rfl, fun z hz => ?_⟩) hS1 ?_
      · obtain ⟨z1, z2, z3, z4⟩ := hz
        go_simp
      try simp only [qA, qB, qC, Act.put, qD, qE, qF]
      refine wpAnyH_take (i := 4) (v := .agg #[.slice ud col.length uc]) rfl (by kernel_rfl) (by kernel_rfl) (by kernel_rfl) (fun _ _ _ h => h) (Or.inl ⟨by rfl, fun z hz => ?_⟩) hS1 ?_
      · obtain ⟨z1, z2, z3, z4⟩ := hz
        go_simp
      try simp only [qA, qB, qC, Act.put, qD, qE, qF]
      refine wpAnyH_ready (rs := [5]) (by kernel_rfl) (by simp) ?_
      refine AllReadyH.cons rfl (fun K hK => ?_) AllReadyH.nil
      have HS2 := Lib.hid hS1
      go_simp
      refine (l7Build _ col _ (Ents.read HI4.out) HDC.out).mono ?_
      rintro e v2 ⟨u2, rfl, hI, hb⟩
      have HI2 := Lib.hid hI; have HB5 := Lib.hid (HB4.out.trans (hb.mono HB4.out.size))
      obtain ⟨u2d, u2c, rfl, _, _⟩ := hI
      refine hK.out _ _ (HS2.out.step hb) (fun hS2 => ?_)
      clear hK K hb HB4 hS1
      try simp only [qA, qB, qC, Act.put, qD, qE, qF]
      refine wpAnyH_ready (rs := [6]) (by kernel_rfl) (by simp) ?_
      refine AllReadyH.cons rfl (fun K hK => ?_) AllReadyH.nil
      have HS3 := Lib.hid hS2
      go_simp
      refine (l7Same _ _ t (P.trie col) _ (HU.out.below HB5.out) (Nods.read HI2.out)).mono ?_
      rintro e v3 ⟨rfl, hb⟩
      have HB6 := Lib.hid (HB5.out.trans (hb.mono HB5.out.size))
      refine hK.out _ _ (HS3.out.step hb) (fun hS3 => ?_)
      clear hK K hb HB5 hS2
      try simp only [qA, qB, qC, Act.put, qD, qE, qF]
      have HE := Lib.hid (show (P.dictS t).isSome = decide (t = P.trie col) by rw [HDD.out]; cases decide (t = P.trie col) <;> rfl)
      generalize decide (t = P.trie col) = q at *
      refine wpAnyH_take (i := 7) (v := .bool q) rfl (by kernel_rfl) (by kernel_rfl) (by kernel_rfl) (fun _ _ _ h => h) (Or.inl ⟨by rfl, fun z hz => ?_⟩) hS3 ?_
      · obtain ⟨z1, z2, z3, z4⟩ := hz
        go_simp
      try simp only [qA, qB, qC, Act.put, qD, qE, qF]
      refine wpAnyH_take (i := 8) (v := .bool q) rfl (by kernel_rfl) (by kernel_rfl) (by kernel_rfl) (fun _ _ _ h => h) (Or.inl ⟨by rfl, fun z hz => ?_⟩) hS3 ?_
      · obtain ⟨z1, z2, z3, z4⟩ := hz
        go_simp
      try simp only [qA, qB, qC, Act.put, qD, qE, qF]
      refine wpAnyH_done (by kernel_rfl) ?_ _
      clear hS3 HS3 HS2
      go_wp2
      go_ret
      exact ⟨ret_bool HE.out.symm, HB6.out⟩
end
section
section
namespace P
theorem dictI_texts {t : Tri} {l : Dic} {B : Nat} (h : dictI t = some l) (hB : ∀ n ∈ t, n.2.2.2.length ≤ B) : ∀ e ∈ l, e.2.length ≤ B := by
  unfold dictI at h
  split at h
  · cases h
  · split at h
    · cases h
    · rename_i r hr
      split at h
      · injection h with h
        subst h
        exact read_texts t B hB 7 0 [] 0 r.1 r.2 hr
      · cases h
end P
end
open Go Go.RowKit
set_option maxHeartbeats 4000000
set_option maxRecDepth 100000
theorem small_dic {l : P.Dic} (h : P.dic l = true) (ht : ∀ e ∈ l, e.2.length ≤ 2 ^ 30) : Small l :=
  ⟨by have := (P.dic_parts h).1; omega, fun e he => by have := (P.entry_parts ((P.dic_parts h).2.1 e he)).2.1; omega, ht⟩
/-- a node as it is read -/
theorem NodR.node {v : World} {ad : Option Addr} {cap : Nat} {t : P.Tri} (h : NodR v (.slice ad t.length cap) t) {k : Nat} (hk : k < t.length) : ∃ g o x y st ch tt tx, t.getD k P.nd0 = (st, ch, tt, tx) ∧ ad = some ⟨g, o, none⟩ ∧ g < v.heap.size ∧ (v.cell? ⟨g, o + k * 4, none⟩ = some x ∧ v.cell? ⟨g, o + k * 4 + 1, none⟩ = some y ∧ v.cell? ⟨g, o + k * 4 + 2, none⟩ = some (.bool tt) ∧ v.cell? ⟨g, o + k * 4 + 3, none⟩ = some (.string (S tx))) ∧ IntR v x st ∧ IntR v y ch := by
  obtain ⟨g, o, h1, h2, x, y, c0, c1, c2, c3, hx, hy⟩ := h.at k hk
  exact ⟨g, o, x, y, (t[k]).1, (t[k]).2.1, (t[k]).2.2.1, (t[k]).2.2.2, P.getD_at hk, h1, h2, ⟨c0, c1, c2, c3⟩, hx, hy⟩
theorem impl_isValidTrie (tv : Value) (t : P.Tri) (w : World) (hu : NodR w tv t) (hx : ∀ n ∈ t, n.2.2.2.length ≤ 2 ^ 30) (hE : Env w) :
    Calls Tryz.prog 59 #[.agg #[tv]] w fun e w' => e = .returned (.bool (P.dictI t).isSome) ∧ Below w.heap.size w w' := by
  have hba := (Below.refl w.heap.size w).alloc (Nat.le_refl _) (.cells #[tv] 86)
  have HB0 := Lib.hid hba; have HU := Lib.hid hu; have HX := Lib.hid hx; have HE := Lib.hid (hE.below hba hE.size)
  clear hba hx hE
  obtain ⟨ad, cap, rfl, _, _⟩ := hu
  go_enter Tryz.func59, Tryz.ntmps59
  go_wp2_with fail
  refine (dictT _ t _ (HU.out.below HB0.out) HX.out HE.out).mono ?_
  rintro e w1 ⟨u, rfl, hI, hb⟩
  have HB1 := Lib.hid (HB0.out.trans (hb.mono HB0.out.size))
  obtain ⟨ud, uc, rfl, _, _⟩ := hI
  have HB2 := Lib.hid (HB1.out.alloc HB1.out.size (.cells #[.slice ud (List.length ((P.dictI t).getD [])) uc] 26))
  clear hb
  obtain ⟨q, hq⟩ : ∃ q, (P.dictI t).isSome = q := ⟨_, rfl⟩
  have HQ := Lib.hid hq
  rw [hq]
  clear hq
  go_wp2
  go_ret
  exact ⟨ret_bool HQ.out.symm, HB2.out⟩
theorem small_getD {t : P.Tri} (hx : ∀ n ∈ t, n.2.2.2.length ≤ 2 ^ 30) : Small ((P.dictI t).getD []) := by
  cases hd : P.dictI t with
  | none => exact ⟨by simp, (fun e h => by cases h), (fun e h => by cases h)⟩
  | some l => exact small_dic (P.dictI_of hd).1 (P.dictI_texts hd hx)
theorem small_fun {t : P.Tri} {l : P.Dic} (hd : P.dictI t = some l) (hx : ∀ n ∈ t, n.2.2.2.length ≤ 2 ^ 30) : Small l := small_dic (P.dictI_of hd).1 (P.dictI_texts hd hx)
end
end Go.Proofs.YtkjidjomlpnnlaaGreatDoor
