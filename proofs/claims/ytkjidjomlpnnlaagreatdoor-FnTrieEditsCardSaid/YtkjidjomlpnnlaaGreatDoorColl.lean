/- Walks: the reference looks at the shape of a trie. Walks: the reference collects the entries of a trie. -/
import Derived.Deep.DeepCutAuto
import Derived.BigQuiet
import Derived.IntWalk
import Derived.BigRegion
import Derived.RegionTactic
import Derived.Test.YtkjidjomlpnnlaaGreatDoorTrieB
import Derived.Test.YtkjidjomlpnnlaaGreatDoorOutD
import Derived.Test.YtkjidjomlpnnlaaGreatDoorLawD
import Derived.Test.YtkjidjomlpnnlaaGreatDoorReadA
namespace Go.Proofs.YtkjidjomlpnnlaaGreatDoor
section
section
namespace P
theorem shape_no_len {t : Tri} (h : ¬ (1 ≤ t.length ∧ t.length ≤ 241)) : shape t = false := by
  unfold shape; rw [decide_eq_false h]; rfl
theorem shape_no_node {t : Tri} {i : Nat} (hi : i < t.length) (h : nodeOk t.length i (t.getD i nd0) = false) : shape t = false := by
  unfold shape
  rw [show (List.range t.length).all (fun i => nodeOk t.length i (t.getD i nd0)) = false from List.all_eq_false.2 ⟨i, by simpa using hi, by rw [h]; decide⟩]
  simp
theorem shape_no_count {t : Tri} {i : Nat} (hi : i < t.length) (h0 : i ≠ 0) (h : (chs t).count (i : Int) ≠ 1) : shape t = false := by
  unfold shape
  rw [show (List.range t.length).all (fun i => decide (i = 0) || decide ((chs t).count (i : Int) = 1)) = false from List.all_eq_false.2 ⟨i, by simpa using hi, by rw [decide_eq_false h0, decide_eq_false h]; decide⟩]
  simp
theorem shape_yes {t : Tri} (h : 1 ≤ t.length ∧ t.length ≤ 241) (h1 : ∀ i, i < t.length → nodeOk t.length i (t.getD i nd0) = true) (h2 : ∀ i, i < t.length → i ≠ 0 → (chs t).count (i : Int) = 1) : shape t = true := by
  unfold shape
  rw [decide_eq_true h, Bool.true_and, Bool.and_eq_true, List.all_eq_true, List.all_eq_true]
  refine ⟨fun i hi => h1 i (by simpa using hi), fun i hi => ?_⟩
  by_cases h0 : i = 0
  · simp [h0]
  · rw [h2 i (by simpa using hi) h0]; simp
theorem nodeOk_no_len {n i : Nat} {x : Nd} (h : x.1.length ≠ x.2.1.length) : nodeOk n i x = false := by
  unfold nodeOk; rw [decide_eq_false h]; rfl
theorem nodeOk_no_kid {n i k : Nat} {x : Nd} (hk : k < x.1.length) (h : kidOk n i x k = false) : nodeOk n i x = false := by
  unfold nodeOk
  rw [show (List.range x.1.length).all (kidOk n i x) = false from List.all_eq_false.2 ⟨k, by simpa using hk, by rw [h]; decide⟩]
  simp
theorem nodeOk_yes {n i : Nat} {x : Nd} (h : x.1.length = x.2.1.length) (h1 : ∀ k, k < x.1.length → kidOk n i x k = true) : nodeOk n i x = true := by
  unfold nodeOk
  rw [decide_eq_true h, Bool.true_and, List.all_eq_true]
  exact fun k hk => h1 k (by simpa using hk)
theorem chs_snoc {t : Tri} {i : Nat} (h : i < t.length) : chs (t.take (i + 1)) = chs (t.take i) ++ (t[i]).2.1 := by
  unfold chs
  rw [List.take_succ_eq_append_getElem h, List.flatMap_append]
  simp
theorem chs_len {B : Nat} : ∀ {t : Tri}, (∀ n ∈ t, n.2.1.length ≤ B) → (chs t).length ≤ t.length * B
  | [], _ => Nat.zero_le _
  | n :: t, h => by
    have h1 := chs_len (t := t) (B := B) fun m hm => h m (by simp [hm])
    have h2 := h n (by simp)
    unfold chs at *
    rw [List.flatMap_cons, List.length_append, List.length_cons, Nat.add_mul]
    omega
theorem getD_at {t : Tri} {i : Nat} (h : i < t.length) : t.getD i nd0 = t[i] := by
  rw [List.getD_eq_getElem?_getD, List.getElem?_eq_getElem h]; rfl
theorem getD_int {l : List Int} {i : Nat} (h : i < l.length) : l.getD i 0 = l[i] := by
  rw [List.getD_eq_getElem?_getD, List.getElem?_eq_getElem h]; rfl
end P
end
open Go Go.RowKit
set_option maxHeartbeats 8000000
set_option maxRecDepth 100000
/-- how often each index is a child, in a row of the call's own -/
structure Cnt (B n : Nat) (l : List Int) (v : World) : Prop where
  lt : B < v.heap.size
  is : ∀ c, c < n → v.cell? ⟨B, c, none⟩ = some (.int .i64 ((l.count (c : Int) : Nat) : Int)) ∧ v.frozen? ⟨B, c, none⟩ = false
theorem Cnt.stand {B n : Nat} {l : List Int} {v v' : World} {X : Blk} (h : Cnt B n l v) (hc : Chg X v v') (hX : ¬ X B) : Cnt B n l v' :=
  ⟨Nat.lt_of_lt_of_le h.lt hc.size, fun c hcn => ⟨(hc.cell (p := ⟨B, c, none⟩) h.lt hX).trans (h.is c hcn).1, (hc.frozen (p := ⟨B, c, none⟩) h.lt hX).trans (h.is c hcn).2⟩⟩
theorem Cnt.below {B n : Nat} {l : List Int} {v v' : World} (h : Cnt B n l v) (hb : Below v.heap.size v v') : Cnt B n l v' := h.stand (Below.chg hb fun _ => False) fun h => h
theorem Cnt.made (n : Nat) (w : World) (t : TypeId) : Cnt w.heap.size n [] (w.alloc (.cells (madeCells #[.int .i64 0] n) t)) := by
  refine ⟨by simp, fun c hc => ?_⟩
  have h := made_cel (.int .i64 0) n w t c (by simpa using hc)
  simp only [Nat.zero_add, List.getElem_replicate] at h
  simpa using h
theorem Cnt.put {B n c : Nat} {l : List Int} {v : World} (h : Cnt B n l v) (hc : c < n) : Cnt B n (l ++ [(c : Int)]) (v.setCell ⟨B, c, none⟩ (.int .i64 (((l.count (c : Int) : Nat) : Int) + 1))) := by
  refine ⟨by simpa [World.setCell] using h.lt, fun d hd => ⟨?_, by simpa using (h.is d hd).2⟩⟩
  by_cases e : d = c
  · subst e
    rw [World.cell?_setCell_same _ _ _ (h.is d hd).1, List.count_append]
    simp
  · rw [World.cell?_setCell_other _ _ _ _ (by intro e'; injection e'; omega), (h.is d hd).1, List.count_append]
    rw [show [(c : Int)].count (d : Int) = 0 from List.count_eq_zero.2 (by simp; omega)]
    rfl
theorem l2Q (n : Int) (b : Bool) (h : P.stroke n = b) (w : World) : Calls Tryz.prog 145 #[.int .i64 n] w fun e w' => e = .returned (.bool b) ∧ w' = w :=
  (l2Good n w).mono fun _ _ ⟨h1, h2⟩ => ⟨by rw [h1, h], h2.symm⟩
theorem l1Q (n lo hi : Int) (b : Bool) (h : decide (lo ≤ n ∧ n ≤ hi) = b) (w : World) : Calls Tryz.prog 144 #[.int .i64 n, .int .i64 lo, .int .i64 hi] w fun e w' => e = .returned (.bool b) ∧ w' = w :=
  (l1In n lo hi w).mono fun _ _ ⟨h1, h2⟩ => ⟨by rw [h1, h], h2.symm⟩
/-- how the look at a node's strokes stands -/
structure SI (w : World) (W B : Nat) (tv : Value) (n : Nat) (l : List Int) (v : World) : Prop where
  box : Box1 W tv v
  cnt : Cnt B n l v
  bel : Below w.heap.size w v
theorem SI.below {w : World} {W B : Nat} {tv : Value} {n : Nat} {l : List Int} {v v' : World} (h : SI w W B tv n l v) (hb : Below v.heap.size v v') : SI w W B tv n l v' :=
  ⟨h.box.below hb, h.cnt.below hb, h.bel.trans (hb.mono h.bel.size)⟩
theorem SI.put {w : World} {W B c : Nat} {tv : Value} {n : Nat} {l : List Int} {v : World} (h : SI w W B tv n l v) (hc : c < n) (hW : W ≠ B) (hB : w.heap.size ≤ B) : SI w W B tv n (l ++ [(c : Int)]) (v.setCell ⟨B, c, none⟩ (.int .i64 (((l.count (c : Int) : Nat) : Int) + 1))) :=
  ⟨h.box.stand ((Chg.refl (fun b => b = B) v).setCell (p := ⟨B, c, none⟩) rfl _) hW, h.cnt.put hc, h.bel.setCell hB _⟩
theorem SI.drewN {w : World} {W B : Nat} {tv : Value} {n : Nat} {l : List Int} {v : World} (h : SI w W B tv n l v) (k : Nat) : SI w W B tv n l (v.drewN k) := h.below (below_drewN (Below.refl _ _) k)
theorem NB.drewN {N : Nat} {x y : Value} {t : Bool} {s : Str} {v : World} (h : NB N x y t s v) (k : Nat) : NB N x y t s (v.drewN k) := h.below (below_drewN (Below.refl _ _) k)
theorem NB.apart {N B c : Nat} {x y : Value} {t : Bool} {s : Str} {v : World} (h : NB N x y t s v) (hc : N ≠ B) (u : Value) : NB N x y t s (v.setCell ⟨B, c, none⟩ u) := h.stand ((Chg.refl (fun b => b = B) v).setCell (p := ⟨B, c, none⟩) rfl u) hc
theorem l7Shape (tv : Value) (t : P.Tri) (w : World) (hu : NodR w tv t) :
    Calls Tryz.prog 179 #[.agg #[tv]] w fun e w' => e = .returned (.bool (P.shape t)) ∧ Below w.heap.size w w' := by
  have HX0 := Lib.hid (Box1.new tv 86 w)
  have hba := (Below.refl w.heap.size w).alloc (Nat.le_refl _) (.cells #[tv] 86)
  have HB0 := Lib.hid hba; have HU0 := Lib.hid hu; clear hba
  obtain ⟨ad, cap, rfl, htl, _⟩ := hu
  by_cases hlen : 1 ≤ t.length ∧ t.length ≤ 241
  · have HLEN := Lib.hid hlen
    have HDL := Lib.hid (show decide ((1 : Int) ≤ (t.length : Int) ∧ (t.length : Int) ≤ 241) = true by apply decide_eq_true; omega)
    have hmk := run_mkI t.length (w.alloc (.cells #[.slice ad t.length cap] 86)) (by omega)
    have hbm := (Below.refl (w.alloc (.cells #[.slice ad t.length cap] 86)).heap.size (w.alloc (.cells #[.slice ad t.length cap] 86))).alloc (Nat.le_refl _) (.cells (madeCells #[.int .i64 0] t.length) 3)
    have HI0 := Lib.hid (show SI w w.heap.size (w.heap.size + 1) (.slice ad t.length cap) t.length (P.chs (t.take 0)) ((w.alloc (.cells #[.slice ad t.length cap] 86)).alloc (.cells (madeCells #[.int .i64 0] t.length) 3)) from
      ⟨HX0.out.below hbm, by have h := Cnt.made t.length (w.alloc (.cells #[.slice ad t.length cap] 86)) 3; simpa [P.chs] using h, HB0.out.trans (hbm.mono (by simp))⟩)
    have HKL := Lib.hid (show ∀ n ∈ t, n.2.1.length ≤ 2 ^ 45 from fun n hn => by
      obtain ⟨j, hj, rfl⟩ := List.mem_iff_getElem.1 hn
      obtain ⟨_, _, _, _, _, y, _, _, _, _, _, hy⟩ := HU0.out.at j hj
      obtain ⟨_, _, _, h, _⟩ := hy
      exact h.1)
    clear hbm HX0 HB0 hlen
    go_enter Tryz.func179, Tryz.ntmps179
    go_wp2_with (go_at_call 144; refine (l1In _ _ _ _).mono ?_; rintro e w' ⟨rfl, rfl⟩; rw [HDL.out])
    go_loopw [4] (fun i wr => ∃ j : Nat, j ≤ t.length ∧ i = .int .i64 j ∧ (∀ k, k < j → P.nodeOk t.length k (t.getD k P.nd0) = true) ∧ SI w w.heap.size (w.heap.size + 1) (.slice ad t.length cap) t.length (P.chs (t.take j)) wr) (fun i _ => t.length - (intOf i).toNat)
    case atStart => exact ⟨0, Nat.zero_le _, rfl, (fun k hk => absurd hk (Nat.not_lt_zero _)), HI0.out⟩
    case round =>
      clear HI0 hmk
      obtain ⟨j, hj, rfl, hok, hsi⟩ := hrel
      have HOK := Lib.hid hok; have HSI := Lib.hid hsi; clear hok hsi
      obtain ⟨b0, b1⟩ := HSI.out.box
      by_cases hlt : j < t.length
      · have i1 : (j : Int) < (t.length : Int) := by omega
        obtain ⟨g, o, hga, hgl, x, y, c0, c1, c2, c3, hx, hy⟩ := HU0.out.at j hlt
        subst hga
        have HTS := Lib.hid (P.chs_snoc hlt); have HGD := Lib.hid (P.getD_at hlt)
        obtain ⟨nd, hnd⟩ : ∃ nd, t[j] = nd := ⟨_, rfl⟩
        obtain ⟨st, ch, tt, tx⟩ := nd
        rw [hnd] at c2 c3 hx hy HTS HGD
        clear hnd
        simp only at c2 c3 hx hy HTS
        have d0 := (HSI.out.bel.cell (p := ⟨g, o + j * 4, none⟩) hgl).trans c0
        have d1 := (HSI.out.bel.cell (p := ⟨g, o + j * 4 + 1, none⟩) hgl).trans c1
        have d2 := (HSI.out.bel.cell (p := ⟨g, o + j * 4 + 2, none⟩) hgl).trans c2
        have d3 := (HSI.out.bel.cell (p := ⟨g, o + j * 4 + 3, none⟩) hgl).trans c3
        have HX := Lib.hid hx; have HY := Lib.hid hy
        obtain ⟨xd, xc, rfl, hxl, _⟩ := hx
        obtain ⟨yd, yc, rfl, hyl, _⟩ := hy
        have hba := (Below.refl wr.heap.size wr).alloc (Nat.le_refl _) (.cells #[.slice xd st.length xc, .slice yd ch.length yc, .bool tt, .string (S tx)] 162)
        have HS1 := Lib.hid (HSI.out.below hba)
        have HNB := Lib.hid (show NB wr.heap.size (.slice xd st.length xc) (.slice yd ch.length yc) tt tx (wr.alloc (.cells #[.slice xd st.length xc, .slice yd ch.length yc, .bool tt, .string (S tx)] 162)) by refine ⟨?_, ?_, ?_, ?_, ?_, ?_, ?_, ?_, ?_⟩ <;> go_simp)
        clear c0 c1 c2 c3 hba
        by_cases hsl : st.length = ch.length
        · have hq1 : ((st.length : Int) == (ch.length : Int)) = true := by simp; omega
          have hq2 : ((st.length : Int) != (ch.length : Int)) = false := by simp; omega
          have hsl1 : st.length ≤ ch.length := by omega
          have HSL := Lib.hid hsl; clear hsl
          go_wp2_with fail
          obtain ⟨wo, rfl⟩ : ∃ wo : World, wo = wr := ⟨_, rfl⟩
          go_loopw [6] (fun i wr => ∃ k : Nat, k ≤ st.length ∧ i = .int .i64 k ∧ (∀ q, q < k → P.kidOk t.length j (st, ch, tt, tx) q = true) ∧ NB wo.heap.size (.slice xd st.length xc) (.slice yd ch.length yc) tt tx wr ∧ SI w w.heap.size (w.heap.size + 1) (.slice (some ⟨g, o, none⟩) t.length cap) t.length (P.chs (t.take j) ++ ch.take k) wr) (fun i _ => st.length - (intOf i).toNat)
          case atStart => exact ⟨0, Nat.zero_le _, rfl, (fun k hk => absurd hk (Nat.not_lt_zero _)), HNB.out, by rw [List.take_zero, List.append_nil]; exact HS1.out⟩
          case round =>
            clear HNB HS1
            obtain ⟨k, hk, rfl, hkd, hnb, hsi⟩ := hrel
            have HNE := Lib.hid (show wo.heap.size ≠ w.heap.size + 1 by have := HSI.out.cnt.lt; omega)
            have HKD := Lib.hid hkd; have HNB := Lib.hid hnb; have HS2 := Lib.hid hsi; clear hkd hsi
            obtain ⟨n0, n1, n2, n3, m0, m1, m2, m3, nlt⟩ := hnb
            obtain ⟨e0, e1⟩ := HS2.out.box
            by_cases hkl : k < st.length
            · have hkc : k < ch.length := by omega
              obtain ⟨gx, ox, hgx, hgxl, x0⟩ := (HX.out.below HS2.out.bel).at k hkl
              obtain ⟨gy, oy, hgy, hgyl, y0⟩ := (HY.out.below HS2.out.bel).at k hkc
              subst hgx hgy
              have HGS := Lib.hid (P.getD_int hkl); have HGC := Lib.hid (P.getD_int hkc)
              have HTC := Lib.hid (take_snoc ch k hkc)
              have i2 : (k : Int) < (st.length : Int) := by omega
              have i3 : (k : Int) < (ch.length : Int) := by omega
              have HX2 := Lib.hid (HX.out.below HS2.out.bel)
              obtain ⟨sk, hsk⟩ : ∃ s, st[k] = s := ⟨_, rfl⟩
              obtain ⟨ck, hck⟩ : ∃ s, ch[k] = s := ⟨_, rfl⟩
              rw [hsk] at x0 HGS; rw [hck] at y0 HGC HTC
              clear hsk hck
              cases hs : P.stroke sk
              · have HQ := Lib.hid hs
                have HF := Lib.hid (P.shape_no_node hlt (by rw [HGD.out]; exact P.nodeOk_no_kid (k := k) hkl (by unfold P.kidOk; simp only; rw [HGS.out, HQ.out]; rfl)))
                clear hs
                go_upto_region 13 with fail
                go_quiet ((go_at_call 145; exact Calls.quiet_of_same (l2Q _ _ HQ.out _)))
                go_wp2
                go_ret
                exact ⟨ret_bool HF.out.symm, below_drewN HS2.out.bel _⟩
              · have HQ := Lib.hid hs; clear hs
                have hkp : ∀ k1 : Nat, k = k1 + 1 → k1 < st.length := fun k1 h => by omega
                obtain ⟨cc, hcc⟩ : ∃ b : Bool, decide ((j : Int) + 1 ≤ ck ∧ ck ≤ (t.length : Int) - 1) = b := ⟨_, rfl⟩
                have HCC := Lib.hid hcc; clear hcc
                by_cases hk0 : k = 0
                · subst hk0
                  rw [Nat.add_zero] at x0 y0
                  have HKO := Lib.hid (show P.kidOk t.length j (st, ch, tt, tx) 0 = cc by unfold P.kidOk; simp only; rw [HGS.out, HQ.out, HGC.out, HCC.out]; simp)
                  cases cc
                  · have HF := Lib.hid (P.shape_no_node hlt (by rw [HGD.out]; exact P.nodeOk_no_kid (k := 0) hkl HKO.out))
                    have w1 : IntKind.i64.wrap ((j : Int) + 1) = (j : Int) + 1 := IntWalk.i64_in _ (by omega)
                    have w2 : IntKind.i64.wrap ((t.length : Int) - 1) = (t.length : Int) - 1 := IntWalk.i64_in _ (by omega)
                    go_upto_region 13 with fail
                    go_quiet ((first | (go_at_call 145; exact Calls.quiet_of_same (l2Q _ _ HQ.out _)) | (go_at_call 144; exact Calls.quiet_of_same (l1Q _ _ _ _ HCC.out _))))
                    clear w1 w2
                    go_wp2
                    go_ret
                    exact ⟨ret_bool HF.out.symm, below_drewN HS2.out.bel _⟩
                  · have hck := of_decide_eq_true HCC.out
                    obtain ⟨c, rfl⟩ : ∃ c : Nat, ck = (c : Int) := ⟨ck.toNat, by omega⟩
                    have hcn : c < t.length := by omega
                    obtain ⟨r0, r1⟩ := HS2.out.cnt.is c hcn
                    have hcb : (P.chs (t.take j) ++ ch.take (0)).count (c : Int) ≤ 2 ^ 60 := by
                      have a1 := List.count_le_length (a := (c : Int)) (l := P.chs (t.take j) ++ ch.take (0))
                      have a2 := P.chs_len (t := t.take j) (B := 2 ^ 45) fun n hn => HKL.out n (List.mem_of_mem_take hn)
                      have a3 : (t.take j).length * 2 ^ 45 ≤ 241 * 2 ^ 45 := Nat.mul_le_mul_right _ (by have := HLEN.out; rw [List.length_take]; omega)
                      have a4 : (ch.take (0)).length ≤ ch.length := List.length_take_le' _ _
                      have a5 : (P.chs (t.take j) ++ ch.take (0)).length = (P.chs (t.take j)).length + (ch.take (0)).length := List.length_append
                      have a6 := HLEN.out
                      omega
                    have HNX := Lib.hid (show SI w w.heap.size (w.heap.size + 1) (.slice (some ⟨g, o, none⟩) t.length cap) t.length (P.chs (t.take j) ++ ch.take ((0) + 1)) (wr.setCell ⟨w.heap.size + 1, c, none⟩ (.int .i64 (((P.chs (t.take j) ++ ch.take (0)).count (c : Int) : Nat) + 1))) by
                      have h := HS2.out.put hcn (by omega) (by omega)
                      rwa [List.append_assoc, ← HTC.out] at h)
                    have HKX := Lib.hid (show ∀ q, q < (0) + 1 → P.kidOk t.length j (st, ch, tt, tx) q = true from fun q hq => by
                      rcases Nat.lt_or_ge q (0) with h | h
                      · exact HKD.out q h
                      · rw [show q = (0) by omega]; exact HKO.out)
                    have HNY := Lib.hid (HNB.out.apart (c := c) (B := w.heap.size + 1) HNE.out (.int .i64 (((P.chs (t.take j) ++ ch.take (0)).count (c : Int) : Nat) + 1)))
                    generalize (P.chs (t.take j) ++ ch.take (0)).count (c : Int) = cn at *
                    have w1 : IntKind.i64.wrap ((j : Int) + 1) = (j : Int) + 1 := IntWalk.i64_in _ (by omega)
                    have w2 : IntKind.i64.wrap ((t.length : Int) - 1) = (t.length : Int) - 1 := IntWalk.i64_in _ (by omega)
                    go_upto_region 13 with fail
                    go_quiet ((first | (go_at_call 145; exact Calls.quiet_of_same (l2Q _ _ HQ.out _)) | (go_at_call 144; exact Calls.quiet_of_same (l1Q _ _ _ _ HCC.out _))))
                    clear w1 w2
                    go_wp2
                    go_roundw
                    case rel => exact ⟨(0) + 1, by omega, by go_num, HKX.out, by first | exact HNY.out.drewN _ | exact (HNB.out.drewN _).apart HNE.out _, by first | exact HNX.out.drewN _ | exact HNX.out⟩
                    case measure => simp [intOf]; omega
                · obtain ⟨k1, hk1⟩ : ∃ k1 : Nat, k = k1 + 1 := ⟨k - 1, by omega⟩
                  have hk1l : k1 < st.length := by omega
                  have i4 : 0 < k := by omega
                  have i5 : (k1 : Int) < (st.length : Int) := by omega
                  have hxp := ((HX.out.below HS2.out.bel).at k1 hk1l)
                  obtain ⟨gp, op, hgp, _, x1⟩ := hxp
                  injection hgp with hgp
                  injection hgp with hgp hop
                  subst hgp hop
                  have HGP := Lib.hid (P.getD_int hk1l)
                  obtain ⟨sp, hsp⟩ : ∃ s, st[k1] = s := ⟨_, rfl⟩
                  rw [hsp] at x1 HGP
                  have HKP := Lib.hid hk1
                  clear hsp hk1 hk0
                  by_cases hge : sk ≤ sp
                  · have HF := Lib.hid (P.shape_no_node hlt (by rw [HGD.out]; exact P.nodeOk_no_kid (k := k) hkl (by unfold P.kidOk; simp only; rw [HGS.out, HQ.out, show k - 1 = k1 by have := HKP.out; omega, HGP.out, decide_eq_false (show ¬ k = 0 by have := HKP.out; omega), decide_eq_false (show ¬ sp < sk by omega)]; rfl)))
                    have w3 : IntKind.i64.wrap ((k : Int) - 1) = (k1 : Int) := by have h := HKP.out; rw [IntWalk.i64_in _ (by omega)]; omega
                    go_upto_region 13 with fail
                    go_quiet ((first | (go_at_call 145; exact Calls.quiet_of_same (l2Q _ _ HQ.out _)) | (go_at_call 144; exact Calls.quiet_of_same (l1Q _ _ _ _ HCC.out _))))
                    clear w3
                    go_wp2
                    go_ret
                    exact ⟨ret_bool HF.out.symm, below_drewN HS2.out.bel _⟩
                  · have HKO := Lib.hid (show P.kidOk t.length j (st, ch, tt, tx) k = cc by unfold P.kidOk; simp only; rw [HGS.out, HQ.out, HGC.out, HCC.out, show k - 1 = k1 by have := HKP.out; omega, HGP.out, decide_eq_true (show sp < sk by omega)]; simp)
                    cases cc
                    · have HF := Lib.hid (P.shape_no_node hlt (by rw [HGD.out]; exact P.nodeOk_no_kid (k := k) hkl HKO.out))
                      have w1 : IntKind.i64.wrap ((j : Int) + 1) = (j : Int) + 1 := IntWalk.i64_in _ (by omega)
                      have w3 : IntKind.i64.wrap ((k : Int) - 1) = (k1 : Int) := by have h := HKP.out; rw [IntWalk.i64_in _ (by omega)]; omega
                      have w2 : IntKind.i64.wrap ((t.length : Int) - 1) = (t.length : Int) - 1 := IntWalk.i64_in _ (by omega)
                      go_upto_region 13 with fail
                      go_quiet ((first | (go_at_call 145; exact Calls.quiet_of_same (l2Q _ _ HQ.out _)) | (go_at_call 144; exact Calls.quiet_of_same (l1Q _ _ _ _ HCC.out _))))
                      clear w1 w2 w3
                      go_wp2
                      go_ret
                      exact ⟨ret_bool HF.out.symm, below_drewN HS2.out.bel _⟩
                    · have hck := of_decide_eq_true HCC.out
                      obtain ⟨c, rfl⟩ : ∃ c : Nat, ck = (c : Int) := ⟨ck.toNat, by omega⟩
                      have hcn : c < t.length := by omega
                      obtain ⟨r0, r1⟩ := HS2.out.cnt.is c hcn
                      have hcb : (P.chs (t.take j) ++ ch.take k).count (c : Int) ≤ 2 ^ 60 := by
                        have a1 := List.count_le_length (a := (c : Int)) (l := P.chs (t.take j) ++ ch.take k)
                        have a2 := P.chs_len (t := t.take j) (B := 2 ^ 45) fun n hn => HKL.out n (List.mem_of_mem_take hn)
                        have a3 : (t.take j).length * 2 ^ 45 ≤ 241 * 2 ^ 45 := Nat.mul_le_mul_right _ (by have := HLEN.out; rw [List.length_take]; omega)
                        have a4 : (ch.take k).length ≤ ch.length := List.length_take_le' _ _
                        have a5 : (P.chs (t.take j) ++ ch.take k).length = (P.chs (t.take j)).length + (ch.take k).length := List.length_append
                        have a6 := HLEN.out
                        omega
                      have HNX := Lib.hid (show SI w w.heap.size (w.heap.size + 1) (.slice (some ⟨g, o, none⟩) t.length cap) t.length (P.chs (t.take j) ++ ch.take (k + 1)) (wr.setCell ⟨w.heap.size + 1, c, none⟩ (.int .i64 (((P.chs (t.take j) ++ ch.take k).count (c : Int) : Nat) + 1))) by
                        have h := HS2.out.put hcn (by omega) (by omega)
                        rwa [List.append_assoc, ← HTC.out] at h)
                      have HKX := Lib.hid (show ∀ q, q < k + 1 → P.kidOk t.length j (st, ch, tt, tx) q = true from fun q hq => by
                        rcases Nat.lt_or_ge q k with h | h
                        · exact HKD.out q h
                        · rw [show q = k by omega]; exact HKO.out)
                      have HNY := Lib.hid (HNB.out.apart (c := c) (B := w.heap.size + 1) HNE.out (.int .i64 (((P.chs (t.take j) ++ ch.take k).count (c : Int) : Nat) + 1)))
                      generalize (P.chs (t.take j) ++ ch.take k).count (c : Int) = cn at *
                      have w1 : IntKind.i64.wrap ((j : Int) + 1) = (j : Int) + 1 := IntWalk.i64_in _ (by omega)
                      have w3 : IntKind.i64.wrap ((k : Int) - 1) = (k1 : Int) := by have h := HKP.out; rw [IntWalk.i64_in _ (by omega)]; omega
                      have w2 : IntKind.i64.wrap ((t.length : Int) - 1) = (t.length : Int) - 1 := IntWalk.i64_in _ (by omega)
                      go_upto_region 13 with fail
                      go_quiet ((first | (go_at_call 145; exact Calls.quiet_of_same (l2Q _ _ HQ.out _)) | (go_at_call 144; exact Calls.quiet_of_same (l1Q _ _ _ _ HCC.out _))))
                      clear w1 w2 w3
                      go_wp2
                      go_roundw
                      case rel => exact ⟨k + 1, by omega, by go_num, HKX.out, by first | exact HNY.out.drewN _ | exact (HNB.out.drewN _).apart HNE.out _, by first | exact HNX.out.drewN _ | exact HNX.out⟩
                      case measure => simp [intOf]; omega
            · have HND := Lib.hid (show ∀ q, q < j + 1 → P.nodeOk t.length q (t.getD q P.nd0) = true from fun q hq => by
                rcases Nat.lt_or_ge q j with h | h
                · exact HOK.out q h
                · rw [show q = j by omega, HGD.out]
                  exact P.nodeOk_yes HSL.out fun k' hk' => HKD.out k' (by simp only at hk'; omega))
              have HNX := Lib.hid (show SI w w.heap.size (w.heap.size + 1) (.slice (some ⟨g, o, none⟩) t.length cap) t.length (P.chs (t.take (j + 1))) wr by
                have h := HS2.out
                rwa [List.take_of_length_le (l := ch) (by have := HSL.out; omega), ← HTS.out] at h)
              have i2 : ¬ (k : Int) < (st.length : Int) := by omega
              go_wp2
              go_roundw
              case rel => exact ⟨j + 1, by omega, by go_num, HND.out, HNX.out⟩
              case measure => simp [intOf]; omega
        · have hq1 : ((st.length : Int) == (ch.length : Int)) = false := by simp; omega
          have hq2 : ((st.length : Int) != (ch.length : Int)) = true := by simp; omega
          have HF := Lib.hid (P.shape_no_node hlt (by rw [HGD.out]; exact P.nodeOk_no_len hsl)); clear hsl
          go_wp2
          go_ret
          exact ⟨ret_bool HF.out.symm, HS1.out.bel⟩
      · have HCH := Lib.hid (show P.chs (t.take j) = P.chs t by rw [List.take_of_length_le (by omega)])
        have i1 : ¬ (j : Int) < (t.length : Int) := by omega
        have hjl : j = t.length := by omega
        have HJ := Lib.hid hjl; clear hjl
        go_wp2_with fail
        clear b0 b1
        go_loopw [7] (fun i wr => ∃ k : Nat, 1 ≤ k ∧ k ≤ t.length ∧ i = .int .i64 k ∧ (∀ q, q < k → q ≠ 0 → (P.chs t).count (q : Int) = 1) ∧ SI w w.heap.size (w.heap.size + 1) (.slice ad t.length cap) t.length (P.chs t) wr) (fun i _ => t.length - (intOf i).toNat)
        case atStart => exact ⟨1, Nat.le_refl _, HLEN.out.1, rfl, (fun q h1 h2 => by omega), by have h := HSI.out; rwa [HCH.out] at h⟩
        case round =>
          clear HSI
          obtain ⟨k, hk1, hk, rfl, hct, hsi⟩ := hrel
          have HCT := Lib.hid hct; have HSI := Lib.hid hsi; clear hct hsi
          obtain ⟨b0, b1⟩ := HSI.out.box
          by_cases hkl : k < t.length
          · have i2 : (k : Int) < (t.length : Int) := by omega
            obtain ⟨r0, _⟩ := HSI.out.cnt.is k hkl
            by_cases hone : (P.chs t).count (k : Int) = 1
            · have HNX := Lib.hid (show ∀ q, q < k + 1 → q ≠ 0 → (P.chs t).count (q : Int) = 1 from fun q h1 h2 => by
                rcases Nat.lt_or_ge q k with h | h
                · exact HCT.out q h h2
                · rw [show q = k by omega]; exact hone)
              rw [hone] at r0
              clear hone
              go_wp2
              go_roundw
              case rel => exact ⟨k + 1, by omega, by omega, by go_num, HNX.out, HSI.out⟩
              case measure => simp [intOf]; omega
            · have HF := Lib.hid (P.shape_no_count hkl (by omega) hone)
              generalize (P.chs t).count (k : Int) = cn at *
              have i3 : ((cn : Int) == 1) = false := by simp; omega
              have i4 : ((cn : Int) != 1) = true := by simp; omega
              clear hone
              go_wp2
              go_ret
              exact ⟨ret_bool HF.out.symm, HSI.out.bel⟩
          · have HF := Lib.hid (P.shape_yes HLEN.out (fun i hi => HOK.out i (by have := HJ.out; omega)) (fun i hi h0 => HCT.out i (by omega) h0))
            have i2 : ¬ (k : Int) < (t.length : Int) := by omega
            go_wp2
            go_ret
            exact ⟨ret_bool HF.out.symm, HSI.out.bel⟩
  · have HDL := Lib.hid (show decide ((1 : Int) ≤ (t.length : Int) ∧ (t.length : Int) ≤ 241) = false by apply decide_eq_false; omega)
    have HF := Lib.hid (P.shape_no_len hlen); clear hlen
    go_enter Tryz.func179, Tryz.ntmps179
    go_wp2_with (go_at_call 144; refine (l1In _ _ _ _).mono ?_; rintro e w' ⟨rfl, rfl⟩; rw [HDL.out])
    go_ret
    exact ⟨ret_bool HF.out.symm, HB0.out⟩
end
section
section
open Go Go.RowKit
variable {P : Program} {w : World}
theorem step_append_src {ops : Array Oper} {o : Oper} {a : Act} {K : Act → World → Prop} {Q : Exit → Act → World → Prop} {E : Prop} (hgd : o.guard = none) (s x : Operand) (t : TypeId)
    (ho : o.op = .call { callee := .builtin .append, args := #[s, x], argTypes := #[t, t] })
    (base : Nat) (e : TypeId) (i : TypeInfo) (z : Value) (size bytes : Nat) (ht : P.underlying t = some (.slice e)) (hi : P.info? e = some i) (hz : i.zero = some z)
    (hsize : i.size = size) (hby : i.bytes = bytes) (hzs : z.cells.size = size) (hsz : 0 < size)
    (v : Value) (n : Nat) (xs : List Value) (hs : a.eval s = v) (hown : w.ownsRow base e size v n xs)
    (u : Value) (m : Nat) (news : List Value) (hx : a.eval x = u) (hsrc : SrcIs w size u m news)
    (h63 : n + m ≤ maxLen) (hbytes : (n + m) * bytes ≤ 140737488355328) (hbase : base ≤ w.heap.size)
    (h : ∀ v' w', w'.ownsRow base e size v' (n + m) (xs ++ news) → w.grownBy w' v.ownBlock → K (a.put o.dst v') w') :
    if Region.wanted o (yielded ops a.tmps) = true then Oper.wp P o a w K Q else E := by
  have hw : Region.wanted o (yielded ops a.tmps) = true := by simp [Region.wanted, hgd]
  rw [if_pos hw]
  obtain ⟨v', w', hr, h2, h3, _⟩ := run_append_src (P := P) w base t o.type e i z size bytes ht hi hz hsize hby hzs hsz v n xs hown u m news hsrc h63 hbytes hbase
  unfold Oper.wp execOp
  simp only [ho, resolve, invoke, builtin, Sem.run_bind, Sem.run_pure, Result.andThen_ok, List.map_toArray, List.map_cons, List.map_nil, hs, hx, hr]
  exact h v' w' h2 h3
end
section
namespace P
theorem collect_succ (t : Tri) (f k : Nat) (o : List Int) : collect t (f + 1) k o = own o (t.getD k nd0) ++ ((t.getD k nd0).1.zip (t.getD k nd0).2.1).flatMap fun sc => collect t f sc.2.toNat (o ++ [sc.1]) := rfl
end P
open Go Go.RowKit
set_option maxHeartbeats 8000000
set_option maxRecDepth 100000
/-- what a collection leaves -/
def CollP (D : Nat) (r : P.Dic) (u : Value) (es : P.Dic) (w w' : World) : Prop :=
  ∃ u' xs', BL D u' w' ∧ AccE (D + 1) w' u' (es ++ r) xs' ∧ (∀ b, u'.ownBlock = some b → u.ownBlock = some b ∨ w.heap.size ≤ b) ∧ Chg (fun b => b = D ∨ u.ownBlock = some b) w w'
/-- how the collection below a node stands -/
structure CI (w : World) (D : Nat) (tv u x y : Value) (tt : Bool) (ss : Str) (u1 : Value) (es1 : P.Dic) (xs1 : List Value) (v : World) : Prop where
  rd : BL D u1 v
  acc : AccE (D + 1) v u1 es1 xs1
  tb : Box1 w.heap.size tv v
  box : NB (w.heap.size + 1) x y tt ss v
  un : ∀ b, u1.ownBlock = some b → u.ownBlock = some b ∨ w.heap.size + 2 ≤ b
  chg : Chg (fun b => b = D ∨ u.ownBlock = some b) w v
  rz : D < w.heap.size
  uz : ∀ b, u.ownBlock = some b → b < w.heap.size
variable {w : World} {D : Nat} {tv u x y : Value} {tt : Bool} {ss : Str} {u1 : Value} {es1 : P.Dic} {xs1 : List Value} {v v' : World}
theorem CI.below (h : CI w D tv u x y tt ss u1 es1 xs1 v) (hb : Below v.heap.size v v') : CI w D tv u x y tt ss u1 es1 xs1 v' :=
  ⟨h.rd.below hb, h.acc.keep entE_ok hb, h.tb.below hb, h.box.below hb, h.un, h.chg.late (Below.chg hb fun _ => False) fun _ h => h.elim, h.rz, h.uz⟩
theorem CI.unW (h : CI w D tv u x y tt ss u1 es1 xs1 v) (b : Nat) (hb : w.heap.size ≤ b) (hb2 : b < w.heap.size + 2) : u1.ownBlock ≠ some b := fun e => by
  rcases h.un b e with h1 | h1
  · have := h.uz b h1; omega
  · omega
theorem CI.call (h : CI w D tv u x y tt ss u1 es1 xs1 v) {r : P.Dic} (hp : CollP D r u1 es1 v v') : ∃ u2 xs2, CI w D tv u x y tt ss u2 (es1 ++ r) xs2 v' := by
  obtain ⟨u2, xs2, h1, h2, h3, h4⟩ := hp
  have hnl := h.box.lt
  have hrz := h.rz
  refine ⟨u2, xs2, h1, h2, h.tb.stand h4 (fun e => e.elim (fun e => by omega) (h.unW _ (by omega) (by omega))), h.box.stand h4 (fun e => e.elim (fun e => by omega) (h.unW _ (by omega) (by omega))), fun b hb => ?_, h.chg.late h4 (fun b hb => ?_), hrz, h.uz⟩
  · rcases h3 b hb with e | e
    · exact h.un b e
    · right; omega
  · rcases hb with e | e
    · exact .inl (.inl e)
    · rcases h.un b e with e | e
      · exact .inl (.inr e)
      · exact .inr (by omega)
/-- behind an entry: its memory was made behind v, the append went from v2 to v3 -/
theorem CI.entry (h : CI w D tv u x y tt ss u1 es1 xs1 v) {v1 v2 v3 : World} {cs : List Value} {a : P.Ent} {g cap : Nat} {F : Blk}
    (hb1 : Below v.heap.size v v1) (hF : ∀ b, F b → v.heap.size ≤ b ∧ b < v1.heap.size) (ha : entE v1 F cs a) (hw : cs.length = 2) (hb2 : Below v1.heap.size v1 v2)
    (hown : v3.ownsRow (D + 1) 38 2 (.slice (some ⟨g, 0, none⟩) (es1.length + 1) cap) (es1.length + 1) (xs1 ++ cs)) (hgr : v2.grownBy v3 u1.ownBlock) (hat : u1.ownBlock = some g ∨ g = v2.heap.size) :
    CI w D tv u x y tt ss (.slice (some ⟨g, 0, none⟩) (es1.length + 1) cap) (es1 ++ [a]) (xs1 ++ cs) (v3.setCell ⟨D, 0, none⟩ (.slice (some ⟨g, 0, none⟩) (es1.length + 1) cap)) := by
  have hacc := h.acc.snoc entE_ok hb1 hF ha hw hb2 hown hgr hat
  have hb12 := hb1.trans (hb2.mono hb1.size)
  have h2 := h.below hb12
  have hc1 := chg_grown hgr
  have hc2 := (Chg.refl (fun b => b = D) v3).setCell (p := ⟨D, 0, none⟩) rfl (.slice (some ⟨g, 0, none⟩) (es1.length + 1) cap)
  have hul := accE_lt h2.acc
  have hnl := h2.box.lt
  have hrz := h.rz
  have hsz := h2.chg.size
  refine ⟨(h2.rd.stand hc1 (fun e => by have := (hul D e).1; omega)).put, hacc.stand entE_ok hc2 (fun b hb => by omega), (h2.tb.stand hc1 (h2.unW _ (by omega) (by omega))).stand hc2 (fun e => by omega), (h2.box.stand hc1 (h2.unW _ (by omega) (by omega))).stand hc2 (fun e => by omega), fun b hb => ?_, (h2.chg.late hc1 (fun b hb => ?_)).late hc2 (fun b hb => .inl (.inl hb)), hrz, h.uz⟩
  · simp only [Value.ownBlock, Option.some.injEq] at hb
    subst hb
    rcases hat with h1 | h1
    · exact h.un g h1
    · right; omega
  · rcases h.un b hb with e | e
    · exact .inl (.inr e)
    · exact .inr (by omega)
/-- what the region of a child keeps -/
def KCo (W : Nat) (tv x y : Value) (tt : Bool) (ss : Str) (gx px : Nat) (s : Int) (gy py : Nat) (c : Int) (v : World) : Prop :=
  (NB (W + 1) x y tt ss v ∧ Box1 W tv v) ∧ (v.cell? ⟨gx, px, none⟩ = some (.int .i64 s) ∧ v.cell? ⟨gy, py, none⟩ = some (.int .i64 c)) ∧ gx < v.heap.size ∧ gy < v.heap.size
theorem KCo.step {W : Nat} {tv x y : Value} {tt : Bool} {ss : Str} {gx px : Nat} {s : Int} {gy py : Nat} {c : Int} {v v' : World} (h : KCo W tv x y tt ss gx px s gy py c v) (hb : Below v.heap.size v v') : KCo W tv x y tt ss gx px s gy py c v' :=
  ⟨⟨h.1.1.below hb, h.1.2.below hb⟩, ⟨(hb.cell (p := ⟨gx, px, none⟩) h.2.2.1).trans h.2.1.1, (hb.cell (p := ⟨gy, py, none⟩) h.2.2.2).trans h.2.1.2⟩, Nat.lt_of_lt_of_le h.2.2.1 hb.size, Nat.lt_of_lt_of_le h.2.2.2 hb.size⟩
theorem KCo.chg {W : Nat} {tv x y : Value} {tt : Bool} {ss : Str} {gx px : Nat} {s : Int} {gy py : Nat} {c : Int} {v v' : World} {X : Blk} (h : KCo W tv x y tt ss gx px s gy py c v) (hc : Chg X v v') (h1 : ¬ X W) (h2 : ¬ X (W + 1)) (h3 : ¬ X gx) (h4 : ¬ X gy) : KCo W tv x y tt ss gx px s gy py c v' :=
  ⟨⟨h.1.1.stand hc h2, h.1.2.stand hc h1⟩, ⟨(hc.cell (p := ⟨gx, px, none⟩) h.2.2.1 h3).trans h.2.1.1, (hc.cell (p := ⟨gy, py, none⟩) h.2.2.2 h4).trans h.2.1.2⟩, Nat.lt_of_lt_of_le h.2.2.1 hc.size, Nat.lt_of_lt_of_le h.2.2.2 hc.size⟩
theorem l7Collect (wb : World) (tv : Value) (t : P.Tri) (hT : NodR wb tv t) (hS : P.Shaped t) (D : Nat) (hD : wb.heap.size ≤ D) : ∀ (f k : Nat) (ov : Value) (o : List Int) (u : Value) (es : P.Dic) (xs : List Value) (w : World), t.length ≤ k + f → k < t.length → IntR w ov o → o.length ≤ k → (∀ b, ov.ownBlock = some b → b ≠ D ∧ u.ownBlock ≠ some b) → BL D u w → AccE (D + 1) w u es xs → es.length + (P.collect t f k o).length ≤ 2 ^ 20 → Below wb.heap.size wb w →
    Calls Tryz.prog 181 #[.agg #[tv], .int .i64 k, ov, .pointer (some ⟨D, 0, none⟩)] w fun e w' => e = .returned (.tuple #[]) ∧ CollP D (P.collect t f k o) u es w w' := by
  have HT := Lib.hid hT; have HS := Lib.hid hS
  obtain ⟨tad, tcap, rfl, _, _⟩ := hT
  have htl := hS.le
  clear hS
  intro f
  induction f with
  | zero => intro k ov o u es xs w hf hk; omega
  | succ f ih =>
    intro k ov o u es xs w hf hk ho hok hob hrd hacc hes hb
    obtain ⟨g, q, hga, hgl, x, y, d0, d1, d2, d3, hx, hy⟩ := HT.out.at k hk
    have hgd : t.getD k P.nd0 = t[k] := P.getD_at hk
    have hkid := HS.out.child k hk
    have hlen := HS.out.len k hk
    rw [P.collect_succ] at hes ⊢
    rw [hgd] at hes hkid hlen ⊢
    obtain ⟨nd, hnd⟩ : ∃ nd, t[k] = nd := ⟨_, rfl⟩
    rw [hnd] at hes hkid hlen d2 d3 hx hy ⊢
    clear hgd hnd
    obtain ⟨st, ch, tt, tx⟩ := nd
    simp only at hes hkid hlen d2 d3 hx hy ⊢
    obtain ⟨xad, xcap, rfl, hxl, _⟩ := id hx
    obtain ⟨yad, ycap, rfl, hyl, _⟩ := id hy
    have HX := Lib.hid hx; have HY := Lib.hid hy
    have HRB := Lib.hid hb; have HO := Lib.hid ho; have HOB := Lib.hid hob; have HF := Lib.hid hf; have IH := Lib.hid ih; have HKID := Lib.hid hkid; have HES := Lib.hid hes
    have e0 := (hb.cell (p := ⟨g, q + k * 4, none⟩) hgl).trans d0
    have e1 := (hb.cell (p := ⟨g, q + k * 4 + 1, none⟩) hgl).trans d1
    have e2 := (hb.cell (p := ⟨g, q + k * 4 + 2, none⟩) hgl).trans d2
    have e3 := (hb.cell (p := ⟨g, q + k * 4 + 3, none⟩) hgl).trans d3
    have hDw := hrd.2.2
    have hbz := hb.size
    have hgw : g < w.heap.size := by omega
    have huz := accE_lt hacc
    obtain ⟨uad, ucap, hu⟩ := hacc.form
    subst hu
    subst hga
    have HUL := Lib.hid huz
    have hba := ((Below.refl w.heap.size w).alloc (Nat.le_refl _) (.cells #[.slice (some ⟨g, q, none⟩) t.length tcap] 86)).alloc (by simp) (.cells #[.slice xad st.length xcap, .slice yad ch.length ycap, .bool tt, .string (S tx)] 162)
    have HCI := Lib.hid (show CI w D (.slice (some ⟨g, q, none⟩) t.length tcap) (.slice uad es.length ucap) (.slice xad st.length xcap) (.slice yad ch.length ycap) tt tx (.slice uad es.length ucap) es xs ((w.alloc (.cells #[.slice (some ⟨g, q, none⟩) t.length tcap] 86)).alloc (.cells #[.slice xad st.length xcap, .slice yad ch.length ycap, .bool tt, .string (S tx)] 162)) from
      ⟨hrd.below hba, hacc.keep entE_ok hba, (Box1.new _ _ w).below ((Below.refl _ _).alloc (Nat.le_refl _) _), (by refine ⟨?_, ?_, ?_, ?_, ?_, ?_, ?_, ?_, ?_⟩ <;> go_simp), (fun b h => .inl h), Below.chg hba _, hDw, (fun b h => (huz b h).2)⟩)
    obtain ⟨c0, f0, _⟩ := hrd
    obtain ⟨oad, ocap, rfl, hol, _⟩ := ho
    have i1 : (k : Int) < (t.length : Int) := by omega
    have hle1 : st.length ≤ ch.length := by omega
    have hle2 : ch.length ≤ st.length := by omega
    clear d0 d1 d2 d3 hx hy hb hob hf ih huz hkid hlen hes hacc hba
    obtain ⟨i0, hi, hz0, hz1, hz2⟩ := info_parts info_ent
    obtain ⟨j0, hj, hy0, hy1, hy2⟩ := info_parts info_int
    go_enter Tryz.func181, Tryz.ntmps181
    go_upto_region 2 with fail
    clear c0 f0 e0 e1 e2 e3
    generalize ((w.alloc (.cells #[.slice (some ⟨g, q, none⟩) t.length tcap] 86)).alloc (.cells #[.slice xad st.length xcap, .slice yad ch.length ycap, .bool tt, .string (S tx)] 162)) = v0 at *
    obtain ⟨q0, q1, q2, q3, _, _, _, _, hN⟩ := HCI.out.box
    go_upto_if 16 with fail
    go_cut [] (fun wx => ∃ u2 xs2, CI w D (.slice (some ⟨g, q, none⟩) t.length tcap) (.slice uad es.length ucap) (.slice xad st.length xcap) (.slice yad ch.length ycap) tt tx u2 (es ++ P.own o (st, ch, tt, tx)) xs2 wx)
    case first =>
      cases tt
      · go_wp2
        go_meet
        case rel =>
          refine ⟨.slice uad es.length ucap, xs, ?_⟩
          rw [show es ++ P.own o (st, ch, false, tx) = es by simp [P.own]]
          exact HCI.out
      · clear q0 q1 q2 q3
        have hba := (Below.refl v0.heap.size v0).drew
        have HR1 := Lib.hid (HCI.out.below hba)
        have HO1 := Lib.hid (HO.out.chg HR1.out.chg (fun b hb e => e.elim (HOB.out b hb).1 (HOB.out b hb).2))
        have HEL := Lib.hid (show es.length ≤ 2 ^ 20 by have := HES.out; omega)
        clear hba
        go_upto_region 3 with fail
        refine Left.region [15] (S := fun v => BL D (.slice uad es.length ucap) v ∧ NB (w.heap.size + 1) (.slice xad st.length xcap) (.slice yad ch.length ycap) true tx v) (by kernel_rfl) ⟨HR1.out.rd, HR1.out.box⟩ (fun hS0 => ?_)
        generalize v0.drew = v1 at *
        refine Left.take (i := 0) (v := .pointer (some ⟨D, 0, none⟩)) rfl (by kernel_rfl) (by kernel_rfl) (by kernel_rfl) (by kernel_rfl) (fun _ _ _ h => h) (Or.inl ⟨by rfl, fun z hz => ?_⟩) hS0 ?_
        · obtain ⟨⟨c0, f0, hl⟩, ⟨b0, b1, b2, b3, k0, k1, k2, k3, hl2⟩⟩ := hz
          go_simp
        try simp only [qA, qB, Act.put, qD, qE, qF]
        refine Left.take (i := 1) (v := .pointer (some ⟨D, 0, none⟩)) rfl (by kernel_rfl) (by kernel_rfl) (by kernel_rfl) (by kernel_rfl) (fun _ _ _ h => h) (Or.inl ⟨by rfl, fun z hz => ?_⟩) hS0 ?_
        · obtain ⟨⟨c0, f0, hl⟩, ⟨b0, b1, b2, b3, k0, k1, k2, k3, hl2⟩⟩ := hz
          go_simp
        try simp only [qA, qB, qC, Act.put, qD, qE, qF]
        refine Left.take (i := 2) (v := .pointer (some ⟨D, 0, none⟩)) rfl (by kernel_rfl) (by kernel_rfl) (by kernel_rfl) (by kernel_rfl) (fun _ _ _ h => h) (Or.inl ⟨by rfl, fun z hz => ?_⟩) hS0 ?_
        · obtain ⟨⟨c0, f0, hl⟩, ⟨b0, b1, b2, b3, k0, k1, k2, k3, hl2⟩⟩ := hz
          go_simp
        try simp only [qA, qB, qC, Act.put, qD, qE, qF]
        refine Left.take (i := 3) (v := .pointer (some ⟨D, 0, none⟩)) rfl (by kernel_rfl) (by kernel_rfl) (by kernel_rfl) (by kernel_rfl) (fun _ _ _ h => h) (Or.inl ⟨by rfl, fun z hz => ?_⟩) hS0 ?_
        · obtain ⟨⟨c0, f0, hl⟩, ⟨b0, b1, b2, b3, k0, k1, k2, k3, hl2⟩⟩ := hz
          go_simp
        try simp only [qA, qB, qC, Act.put, qD, qE, qF]
        refine Left.take (i := 4) (v := .slice uad es.length ucap) rfl (by kernel_rfl) (by kernel_rfl) (by kernel_rfl) (by kernel_rfl) (fun _ _ _ h => h) (Or.inl ⟨by rfl, fun z hz => ?_⟩) hS0 ?_
        · obtain ⟨⟨c0, f0, hl⟩, ⟨b0, b1, b2, b3, k0, k1, k2, k3, hl2⟩⟩ := hz
          go_simp
        try simp only [qA, qB, qC, Act.put, qD, qE, qF]
        refine Left.take (i := 6) (v := .slice oad o.length ocap) rfl (by kernel_rfl) (by kernel_rfl) (by kernel_rfl) (by kernel_rfl) (fun _ _ _ h => h) (Or.inl ⟨by rfl, fun z hz => ?_⟩) hS0 ?_
        · obtain ⟨⟨c0, f0, hl⟩, ⟨b0, b1, b2, b3, k0, k1, k2, k3, hl2⟩⟩ := hz
          go_simp
        try simp only [qA, qB, qC, Act.put, qD, qE, qF]
        refine Left.take (i := 8) (v := .pointer (some ⟨w.heap.size + 1, 3, none⟩)) rfl (by kernel_rfl) (by kernel_rfl) (by kernel_rfl) (by kernel_rfl) (fun _ _ _ h => h) (Or.inl ⟨by rfl, fun z hz => ?_⟩) hS0 ?_
        · obtain ⟨⟨c0, f0, hl⟩, ⟨b0, b1, b2, b3, k0, k1, k2, k3, hl2⟩⟩ := hz
          go_simp
        try simp only [qA, qB, qC, Act.put, qD, qE, qF]
        refine Left.take (i := 9) (v := .string (S tx)) rfl (by kernel_rfl) (by kernel_rfl) (by kernel_rfl) (by kernel_rfl) (fun _ _ _ h => h) (Or.inl ⟨by rfl, fun z hz => ?_⟩) hS0 ?_
        · obtain ⟨⟨c0, f0, hl⟩, ⟨b0, b1, b2, b3, k0, k1, k2, k3, hl2⟩⟩ := hz
          go_simp
        try simp only [qA, qB, qC, Act.put, qD, qE, qF]
        refine Left.ready (rs := [5]) (by kernel_rfl) (by simp) ?_
        refine Nexts.cons rfl (fun K hK => ?_) Nexts.nil
        go_simp
        have hba := (Below.refl v1.heap.size v1).alloc (Nat.le_refl _) (.cells #[] 3)
        have HBa := Lib.hid hba
        have OWN := Lib.hid (World.ownsRow_lit (base := v1.heap.size) (e := 3) (size := 1) v1 #[] 0 (Nat.le_refl _) (Nat.zero_le _) (by simp))
        refine on_held hK (by decide) ⟨hS0.1.below hba, hS0.2.below hba⟩ (fun hS1 => ?_)
        clear hK K hba
        generalize v1.alloc (.cells #[] 3) = va at *
        try simp only [qA, qB, qC, Act.put, qD, qE, qF]
        refine Left.ready (rs := [7]) (by kernel_rfl) (by simp) ?_
        refine Nexts.cons rfl (fun K hK => ?_) Nexts.nil
        refine step_append_src rfl _ _ 27 rfl v1.heap.size 3 j0 (.int .i64 0) 1 8 Tryz.underlying27 hj hy0 hy1 hy2 rfl (by decide) (.slice (some ⟨v1.heap.size, 0, none⟩) 0 0) 0 [] rfl OWN.out (.slice oad o.length ocap) o.length (ints o) rfl (src_of_ints (HO1.out.below HBa.out)) (by unfold maxLen; omega) (by omega) HBa.out.size ?_
        intro cv v2 hown hgr
        have HB1 := Lib.hid (HBa.out.grown hgr HBa.out.size (fun k hk => by simp only [Value.ownBlock, Option.some.injEq] at hk; omega))
        rw [Nat.zero_add, List.nil_append] at hown
        have HI := Lib.hid (ints_of_owns hown (by omega))
        obtain ⟨cd, cc, rfl⟩ := own_form hown
        refine on_held hK (by decide) ⟨hS0.1.below HB1.out, hS0.2.below HB1.out⟩ (fun hS2 => ?_)
        clear hK K hown hgr hS0 hS1 OWN HBa
        try simp only [qA, qB, qC, Act.put, qD, qE, qF]
        refine Left.take (i := 10) (v := .agg #[.slice cd o.length cc, .string (S tx)]) rfl (by kernel_rfl) (by kernel_rfl) (by kernel_rfl) (by kernel_rfl) (fun _ _ _ h => h) (Or.inl ⟨by rfl, fun z hz => ?_⟩) hS2 ?_
        · obtain ⟨⟨c0, f0, hl⟩, ⟨b0, b1, b2, b3, k0, k1, k2, k3, hl2⟩⟩ := hz
          go_simp
        try simp only [qA, qB, qC, Act.put, qD, qE, qF]
        refine Left.ready (rs := [11]) (by kernel_rfl) (by simp) ?_
        refine Nexts.cons rfl (fun K hK => ?_) Nexts.nil
        go_simp
        have hba := (Below.refl v2.heap.size v2).alloc (Nat.le_refl _) (.cells #[.slice cd o.length cc, .string (S tx)] 38)
        have HBA := Lib.hid hba
        refine on_held hK (by decide) ⟨hS2.1.below hba, hS2.2.below hba⟩ (fun hS3 => ?_)
        clear hK K hba hS2
        try simp only [qA, qB, qC, Act.put, qD, qE, qF]
        refine Left.ready (rs := [12]) (by kernel_rfl) (by simp) ?_
        refine Nexts.cons rfl (fun K hK => ?_) Nexts.nil
        have HR2 := Lib.hid ((HR1.out.below HB1.out).below HBA.out)
        have hzz := HR2.out.rd.2.2
        have hee := HEL.out
        refine step_append_lies _ rfl _ _ 24 rfl (D + 1) 38 i0 (.agg #[.slice none 0 0, .string ⟨#[]⟩]) 2 40 Tryz.underlying24 hi hz0 hz1 hz2 rfl (by decide) (.slice uad es.length ucap) es.length xs rfl HR2.out.acc.owns ⟨v2.heap.size, 0, none⟩ 1 1 [.slice cd o.length cc, .string (S tx)] rfl rfl ?_ ?_ (by decide) (by unfold maxLen; omega) (by omega) (by omega) _ rfl ?_
        · intro i y hy
          match i, hy with
          | 0, hy => injection hy with hy; subst hy; rw [add0]; go_simp
          | 1, hy => injection hy with hy; subst hy; rw [add0]; go_simp
        · intro y hy
          simp only [List.mem_cons, List.not_mem_nil, or_false] at hy
          rcases hy with rfl | rfl <;> rfl
        intro g1 cap1 v3 hown hgr hat hlt3
        have HFIN := Lib.hid (HR1.out.entry (a := (o, tx)) HB1.out (fun b hb => hb) (entE_mk HI.out) rfl HBA.out hown hgr hat)
        have hch := chg_grown hgr
        have hS4 : BL D (.slice uad es.length ucap) v3 ∧ NB (w.heap.size + 1) (.slice xad st.length xcap) (.slice yad ch.length ycap) true tx v3 := ⟨hS3.1.stand hch (fun e => by have := (HUL.out D e).1; omega), hS3.2.stand hch (fun e => by have := (HUL.out _ e).2; omega)⟩
        refine on_held hK (by decide) hS4 (fun hS5 => ?_)
        clear hK K hown hgr hat hS3 hch hzz hee
        try simp only [qA, qB, qC, Act.put, qD, qE, qF]
        refine Left.take (i := 13) (v := .pointer (some ⟨D, 0, none⟩)) rfl (by kernel_rfl) (by kernel_rfl) (by kernel_rfl) (by kernel_rfl) (fun _ _ _ h => h) (Or.inl ⟨by rfl, fun z hz => ?_⟩) hS5 ?_
        · obtain ⟨⟨c0, f0, hl⟩, ⟨b0, b1, b2, b3, k0, k1, k2, k3, hl2⟩⟩ := hz
          go_simp
        try simp only [qA, qB, qC, Act.put, qD, qE, qF]
        refine Left.take (i := 14) (v := .pointer (some ⟨D, 0, none⟩)) rfl (by kernel_rfl) (by kernel_rfl) (by kernel_rfl) (by kernel_rfl) (fun _ _ _ h => h) (Or.inl ⟨by rfl, fun z hz => ?_⟩) hS5 ?_
        · obtain ⟨⟨c0, f0, hl⟩, ⟨b0, b1, b2, b3, k0, k1, k2, k3, hl2⟩⟩ := hz
          go_simp
        try simp only [qA, qB, qC, Act.put, qD, qE, qF]
        refine Left.ready (rs := [15]) (by kernel_rfl) (by simp) ?_
        refine Nexts.cons rfl (fun K hK => ?_) Nexts.nil
        obtain ⟨⟨z2, z5, _⟩, _⟩ := hS4
        go_simp
        refine on_last hK (by decide) ?_
        clear hK K z2 z5 hS5
        try simp only [qA, qB, qC, Act.put, qD, qE, qF]
        refine Left.done (by kernel_rfl) ?_ _
        go_wp2
        go_meet
        case rel =>
          refine ⟨.slice (some ⟨g1, 0, none⟩) (es.length + 1) cap1, xs ++ [.slice cd o.length cc, .string (S tx)], ?_⟩
          rw [show P.own o (st, ch, true, tx) = [(o, tx)] from rfl]
          exact HFIN.out
    case rest =>
      obtain ⟨u2, xs2, hri⟩ := hcut
      have HR9 := Lib.hid hri
      clear q0 q1 q2 q3
      obtain ⟨q0, _, _, _, _, _, _, _, _⟩ := hri.box
      clear hri
      obtain ⟨ow, how⟩ : ∃ ow, P.own o (st, ch, tt, tx) = ow := ⟨_, rfl⟩
      rw [how] at HR9 HES
      have HOW := Lib.hid how; clear how
      go_wp2_with fail
      clear q0
      go_loopw [9] (fun i wr => ∃ (j : Nat) (u1 : Value) (xs1 : List Value), j ≤ st.length ∧ i = .int .i64 j ∧ CI w D (.slice (some ⟨g, q, none⟩) t.length tcap) (.slice uad es.length ucap) (.slice xad st.length xcap) (.slice yad ch.length ycap) tt tx u1 (es ++ (ow ++ ((st.zip ch).take j).flatMap fun sc => P.collect t f sc.2.toNat (o ++ [sc.1]))) xs1 wr) (fun i _ => st.length - (intOf i).toNat)
      case atStart => exact ⟨0, u2, xs2, Nat.zero_le _, rfl, by rw [List.take_zero, List.flatMap_nil, List.append_nil]; exact HR9.out⟩
      case round =>
        obtain ⟨j, u1, xs1, hjl, rfl, hri⟩ := hrel
        have HRR := Lib.hid hri
        obtain ⟨u1ad, u1cap, hu1⟩ := hri.acc.form
        subst hu1
        have hbr : Below wb.heap.size wb wr := HRB.out.trans (hri.chg.below hbz (fun b hb => hb.elim (fun e => by omega) (fun e => by have := (HUL.out b e).1; omega)))
        have HBR := Lib.hid hbr
        obtain ⟨p0, p1⟩ := hri.tb
        obtain ⟨q0, q1, q2, q3, _, _, _, _, hN1⟩ := hri.box
        clear HR9 hri
        by_cases hlt : j < st.length
        · have hlt2 : j < ch.length := by omega
          obtain ⟨gx, ox, hxa, hgx, x0⟩ := (HX.out.below hbr).at j hlt
          obtain ⟨gy, oy, hya, hgy, y0⟩ := (HY.out.below hbr).at j hlt2
          subst hxa hya
          have hgxb : gx < wb.heap.size := by obtain ⟨_, _, h, h1, _⟩ := HX.out.at j hlt; injection h with h; injection h with h2 h3; omega
          have hgyb : gy < wb.heap.size := by obtain ⟨_, _, h, h1, _⟩ := HY.out.at j hlt2; injection h with h; injection h with h2 h3; omega
          have hzl : j < (st.zip ch).length := by rw [List.length_zip]; omega
          have hcm := HKID.out (ch[j]) (List.getElem_mem hlt2)
          have hsn := take_snoc (st.zip ch) j hzl
          rw [List.getElem_zip] at hsn
          obtain ⟨sj, hsj⟩ : ∃ sj, st[j] = sj := ⟨_, rfl⟩
          obtain ⟨cj, hcj⟩ : ∃ cj, ch[j] = cj := ⟨_, rfl⟩
          rw [hsj, hcj] at hsn
          rw [hsj] at x0
          rw [hcj] at y0 hcm
          clear hsj hcj
          obtain ⟨c, rfl⟩ : ∃ c : Nat, cj = (c : Int) := ⟨cj.toNat, by omega⟩
          have hck : k + 1 ≤ c ∧ c < t.length := by omega
          obtain ⟨hck1, hck2⟩ := hck
          have HSN := Lib.hid (show ((st.zip ch).take (j + 1)).flatMap (fun sc => P.collect t f sc.2.toNat (o ++ [sc.1])) = ((st.zip ch).take j).flatMap (fun sc => P.collect t f sc.2.toNat (o ++ [sc.1])) ++ P.collect t f c (o ++ [sj]) by rw [hsn, List.flatMap_append]; simp)
          have HLS := Lib.hid (show (es ++ (ow ++ ((st.zip ch).take j).flatMap fun sc => P.collect t f sc.2.toNat (o ++ [sc.1]))).length + (P.collect t f c (o ++ [sj])).length ≤ 2 ^ 20 by
            have h1 := HES.out
            have h2 : ((st.zip ch).flatMap fun sc => P.collect t f sc.2.toNat (o ++ [sc.1])) = (((st.zip ch).take (j + 1)).flatMap fun sc => P.collect t f sc.2.toNat (o ++ [sc.1])) ++ (((st.zip ch).drop (j + 1)).flatMap fun sc => P.collect t f sc.2.toNat (o ++ [sc.1])) := by rw [← List.flatMap_append, List.take_append_drop]
            rw [h2, HSN.out] at h1
            simp only [List.length_append] at h1 ⊢
            omega)
          clear hsn hcm
          generalize hpre : (es ++ (ow ++ ((st.zip ch).take j).flatMap fun sc => P.collect t f sc.2.toNat (o ++ [sc.1]))) = pre at *
          have HPRE := Lib.hid hpre; clear hpre
          have i5 : (j : Int) < (st.length : Int) := by omega
          have i6 : (j : Int) < (ch.length : Int) := by omega
          have hbd := (Below.refl wr.heap.size wr).drew
          have HR1 := Lib.hid (HRR.out.below hbd)
          have HB1 := Lib.hid (hbr.trans (hbd.mono hbr.size))
          have HO1 := Lib.hid (HO.out.chg HR1.out.chg (fun b hb e => e.elim (HOB.out b hb).1 (HOB.out b hb).2))
          have HS0 := Lib.hid (show KCo w.heap.size (.slice (some ⟨g, q, none⟩) t.length tcap) (.slice (some ⟨gx, ox, none⟩) st.length xcap) (.slice (some ⟨gy, oy, none⟩) ch.length ycap) tt tx gx (ox + j) sj gy (oy + j) (c : Int) wr.drew from ⟨⟨HR1.out.box, HR1.out.tb⟩, ⟨(hbd.cell (p := ⟨gx, ox + j, none⟩) hgx).trans x0, (hbd.cell (p := ⟨gy, oy + j, none⟩) hgy).trans y0⟩, hgx, hgy⟩)
          clear hbd hbr
          go_upto_region 7 with fail
          clear x0 y0 p0 q0 q1 q2 q3
          · refine Left.region [] (S := KCo w.heap.size (.slice (some ⟨g, q, none⟩) t.length tcap) (.slice (some ⟨gx, ox, none⟩) st.length xcap) (.slice (some ⟨gy, oy, none⟩) ch.length ycap) tt tx gx (ox + j) sj gy (oy + j) (c : Int)) (by kernel_rfl) HS0.out (fun hS0 => ?_)
            generalize wr.drew = v1 at *
            refine Left.take (i := 0) (v := .agg #[.slice (some ⟨g, q, none⟩) t.length tcap]) rfl (by kernel_rfl) (by kernel_rfl) (by kernel_rfl) (by kernel_rfl) (fun _ _ _ h => h) (Or.inl ⟨by rfl, fun z hz => ?_⟩) hS0 ?_
            · obtain ⟨⟨⟨b0, b1, b2, b3, k0, k1, k2, k3, hl2⟩, ⟨t0, t1⟩⟩, ⟨x0, y0⟩, g1, g2⟩ := hz
              go_simp
            try simp only [qA, qB, Act.put, qD, qE, qF]
            refine Left.take (i := 1) (v := .pointer (some ⟨w.heap.size + 1, 1, none⟩)) rfl (by kernel_rfl) (by kernel_rfl) (by kernel_rfl) (by kernel_rfl) (fun _ _ _ h => h) (Or.inl ⟨by rfl, fun z hz => ?_⟩) hS0 ?_
            · obtain ⟨⟨⟨b0, b1, b2, b3, k0, k1, k2, k3, hl2⟩, ⟨t0, t1⟩⟩, ⟨x0, y0⟩, g1, g2⟩ := hz
              go_simp
            try simp only [qA, qB, qC, Act.put, qD, qE, qF]
            refine Left.take (i := 2) (v := .slice (some ⟨gy, oy, none⟩) ch.length ycap) rfl (by kernel_rfl) (by kernel_rfl) (by kernel_rfl) (by kernel_rfl) (fun _ _ _ h => h) (Or.inl ⟨by rfl, fun z hz => ?_⟩) hS0 ?_
            · obtain ⟨⟨⟨b0, b1, b2, b3, k0, k1, k2, k3, hl2⟩, ⟨t0, t1⟩⟩, ⟨x0, y0⟩, g1, g2⟩ := hz
              go_simp
            try simp only [qA, qB, qC, Act.put, qD, qE, qF]
            refine Left.take (i := 3) (v := .int .i64 j) rfl (by kernel_rfl) (by kernel_rfl) (by kernel_rfl) (by kernel_rfl) (fun _ _ _ h => h) (Or.inl ⟨by rfl, fun z hz => ?_⟩) hS0 ?_
            · obtain ⟨⟨⟨b0, b1, b2, b3, k0, k1, k2, k3, hl2⟩, ⟨t0, t1⟩⟩, ⟨x0, y0⟩, g1, g2⟩ := hz
              go_simp
            try simp only [qA, qB, qC, Act.put, qD, qE, qF]
            refine Left.take (i := 4) (v := .pointer (some ⟨gy, oy + j, none⟩)) rfl (by kernel_rfl) (by kernel_rfl) (by kernel_rfl) (by kernel_rfl) (fun _ _ _ h => h) (Or.inl ⟨by rfl, fun z hz => ?_⟩) hS0 ?_
            · obtain ⟨⟨⟨b0, b1, b2, b3, k0, k1, k2, k3, hl2⟩, ⟨t0, t1⟩⟩, ⟨x0, y0⟩, g1, g2⟩ := hz
              go_simp
            try simp only [qA, qB, qC, Act.put, qD, qE, qF]
            refine Left.take (i := 5) (v := .int .i64 (c : Int)) rfl (by kernel_rfl) (by kernel_rfl) (by kernel_rfl) (by kernel_rfl) (fun _ _ _ h => h) (Or.inl ⟨by rfl, fun z hz => ?_⟩) hS0 ?_
            · obtain ⟨⟨⟨b0, b1, b2, b3, k0, k1, k2, k3, hl2⟩, ⟨t0, t1⟩⟩, ⟨x0, y0⟩, g1, g2⟩ := hz
              go_simp
            try simp only [qA, qB, qC, Act.put, qD, qE, qF]
            refine Left.take (i := 7) (v := .slice oad o.length ocap) rfl (by kernel_rfl) (by kernel_rfl) (by kernel_rfl) (by kernel_rfl) (fun _ _ _ h => h) (Or.inl ⟨by rfl, fun z hz => ?_⟩) hS0 ?_
            · obtain ⟨⟨⟨b0, b1, b2, b3, k0, k1, k2, k3, hl2⟩, ⟨t0, t1⟩⟩, ⟨x0, y0⟩, g1, g2⟩ := hz
              go_simp
            try simp only [qA, qB, qC, Act.put, qD, qE, qF]
            refine Left.take (i := 9) (v := .pointer (some ⟨w.heap.size + 1, 0, none⟩)) rfl (by kernel_rfl) (by kernel_rfl) (by kernel_rfl) (by kernel_rfl) (fun _ _ _ h => h) (Or.inl ⟨by rfl, fun z hz => ?_⟩) hS0 ?_
            · obtain ⟨⟨⟨b0, b1, b2, b3, k0, k1, k2, k3, hl2⟩, ⟨t0, t1⟩⟩, ⟨x0, y0⟩, g1, g2⟩ := hz
              go_simp
            try simp only [qA, qB, qC, Act.put, qD, qE, qF]
            refine Left.take (i := 10) (v := .slice (some ⟨gx, ox, none⟩) st.length xcap) rfl (by kernel_rfl) (by kernel_rfl) (by kernel_rfl) (by kernel_rfl) (fun _ _ _ h => h) (Or.inl ⟨by rfl, fun z hz => ?_⟩) hS0 ?_
            · obtain ⟨⟨⟨b0, b1, b2, b3, k0, k1, k2, k3, hl2⟩, ⟨t0, t1⟩⟩, ⟨x0, y0⟩, g1, g2⟩ := hz
              go_simp
            try simp only [qA, qB, qC, Act.put, qD, qE, qF]
            refine Left.take (i := 11) (v := .int .i64 j) rfl (by kernel_rfl) (by kernel_rfl) (by kernel_rfl) (by kernel_rfl) (fun _ _ _ h => h) (Or.inl ⟨by rfl, fun z hz => ?_⟩) hS0 ?_
            · obtain ⟨⟨⟨b0, b1, b2, b3, k0, k1, k2, k3, hl2⟩, ⟨t0, t1⟩⟩, ⟨x0, y0⟩, g1, g2⟩ := hz
              go_simp
            try simp only [qA, qB, qC, Act.put, qD, qE, qF]
            refine Left.take (i := 12) (v := .pointer (some ⟨gx, ox + j, none⟩)) rfl (by kernel_rfl) (by kernel_rfl) (by kernel_rfl) (by kernel_rfl) (fun _ _ _ h => h) (Or.inl ⟨by rfl, fun z hz => ?_⟩) hS0 ?_
            · obtain ⟨⟨⟨b0, b1, b2, b3, k0, k1, k2, k3, hl2⟩, ⟨t0, t1⟩⟩, ⟨x0, y0⟩, g1, g2⟩ := hz
              go_simp
            try simp only [qA, qB, qC, Act.put, qD, qE, qF]
            refine Left.take (i := 13) (v := .int .i64 sj) rfl (by kernel_rfl) (by kernel_rfl) (by kernel_rfl) (by kernel_rfl) (fun _ _ _ h => h) (Or.inl ⟨by rfl, fun z hz => ?_⟩) hS0 ?_
            · obtain ⟨⟨⟨b0, b1, b2, b3, k0, k1, k2, k3, hl2⟩, ⟨t0, t1⟩⟩, ⟨x0, y0⟩, g1, g2⟩ := hz
              go_simp
            try simp only [qA, qB, qC, Act.put, qD, qE, qF]
            refine Left.take (i := 16) (v := .pointer (some ⟨D, 0, none⟩)) rfl (by kernel_rfl) (by kernel_rfl) (by kernel_rfl) (by kernel_rfl) (fun _ _ _ h => h) (Or.inl ⟨by rfl, fun z hz => ?_⟩) hS0 ?_
            · obtain ⟨⟨⟨b0, b1, b2, b3, k0, k1, k2, k3, hl2⟩, ⟨t0, t1⟩⟩, ⟨x0, y0⟩, g1, g2⟩ := hz
              go_simp
            try simp only [qA, qB, qC, Act.put, qD, qE, qF]
            clear hS0
            have HBB := Lib.hid (Below.refl v1.heap.size v1)
            refine Left.ready (rs := [6, 14]) (by kernel_rfl) (by simp) ?_
            refine Nexts.cons rfl (fun K hK => ?_) (Nexts.cons rfl (fun K hK => ?_) Nexts.nil)
            · skip
              go_simp
              have hba := (Below.refl v1.heap.size v1).alloc (Nat.le_refl _) (.cells #[] 3)
              have zn1 : v1.heap.size < (v1.alloc (.cells #[] 3)).heap.size := by simp
              have OWNn1 := Lib.hid (World.ownsRow_lit (base := v1.heap.size) (e := 3) (size := 1) v1 #[] 0 HBB.out.size (Nat.zero_le _) (by simp))
              have HBn1 := Lib.hid (HBB.out.trans (hba.mono HBB.out.size))
              refine on_held hK (by decide) (HS0.out.step HBn1.out) (fun hSn1 => ?_)
              clear hK K hba hSn1
              generalize v1.alloc (.cells #[] 3) = n1 at *
              try simp only [qA, qB, qC, Act.put, qD, qE, qF]
              refine Left.ready (rs := [8, 14]) (by kernel_rfl) (by simp) ?_
              refine Nexts.cons rfl (fun K hK => ?_) (Nexts.cons rfl (fun K hK => ?_) Nexts.nil)
              · skip
                refine step_append_src rfl _ _ 27 rfl v1.heap.size 3 j0 (.int .i64 0) 1 8 Tryz.underlying27 hj hy0 hy1 hy2 rfl (by decide) (.slice (some ⟨v1.heap.size, 0, none⟩) 0 0) 0 [] rfl OWNn1.out (.slice oad o.length ocap) o.length (ints o) rfl (src_of_ints (HO1.out.below HBn1.out)) (by unfold maxLen; omega) (by omega) HBn1.out.size ?_
                intro cv n2 hown hgr
                have HBn2 := Lib.hid (HBn1.out.grown hgr HBn1.out.size (fun k hk => (World.ownsRow.lt OWNn1.out k hk).1))
                have zn2 : n1.heap.size ≤ n2.heap.size := hgr.size
                rw [Nat.zero_add, List.nil_append] at hown
                obtain ⟨cd, cc, rfl⟩ := own_form hown
                have CPn2 := Lib.hid hown
                refine on_held hK (by decide) (HS0.out.step HBn2.out) (fun hSn2 => ?_)
                clear hK K hown hgr hSn2
                try simp only [qA, qB, qC, Act.put, qD, qE, qF]
                refine Left.ready (rs := [14]) (by kernel_rfl) (by simp) ?_
                refine Nexts.cons rfl (fun K hK => ?_) Nexts.nil
                go_simp
                have hba := (Below.refl n2.heap.size n2).alloc (Nat.le_refl _) (.cells #[.int .i64 sj] 3)
                have zn3 : n2.heap.size < (n2.alloc (.cells #[.int .i64 sj] 3)).heap.size := by simp
                have STRn3 := Lib.hid (show (n2.alloc (.cells #[.int .i64 sj] 3)).cell? ⟨n2.heap.size, 0, none⟩ = some (.int .i64 sj) by go_simp)
                have CPn3 := Lib.hid (owns_st CPn2.out (Below.chg hba fun _ => False) (fun _ _ h => h))
                have HBn3 := Lib.hid (HBn2.out.trans (hba.mono HBn2.out.size))
                refine on_held hK (by decide) (HS0.out.step HBn3.out) (fun hSn3 => ?_)
                clear hK K hba hSn3
                generalize n2.alloc (.cells #[.int .i64 sj] 3) = n3 at *
                try simp only [qA, qB, qC, Act.put, qD, qE, qF]
                refine Left.ready (rs := [15]) (by kernel_rfl) (by simp) ?_
                refine Nexts.cons rfl (fun K hK => ?_) Nexts.nil
                refine step_append_lies _ rfl _ _ 27 rfl v1.heap.size 3 j0 (.int .i64 0) 1 8 Tryz.underlying27 hj hy0 hy1 hy2 rfl (by decide) (.slice cd o.length cc) o.length (ints o) rfl CPn3.out ⟨n2.heap.size, 0, none⟩ 1 1 [.int .i64 sj] rfl rfl ?_ ?_ (by decide) (by unfold maxLen; omega) (by omega) HBn3.out.size _ rfl ?_
                · intro i y hy
                  match i, hy with
                  | 0, hy => injection hy with hy; subst hy; rw [add0]; exact STRn3.out
                · intro y hy
                  simp only [List.mem_cons, List.not_mem_nil, or_false] at hy
                  subst hy; rfl
                intro g3 cap3 n4 hown hgr hat hlt3
                have HB3 := Lib.hid (HBn3.out.grown hgr HBn3.out.size (fun k hk => (World.ownsRow.lt CPn3.out k hk).1))
                have HR3 := Lib.hid (HR1.out.below HB3.out)
                have HI3 := Lib.hid (Ints.read (ints_of_owns (B := v1.heap.size) (l := o ++ [sj]) (u := .slice (some ⟨g3, 0, none⟩) (o.length + 1) cap3) (v := n4) (by rw [List.length_append, show ints (o ++ [sj]) = ints o ++ [.int .i64 sj] by simp]; exact hown) (by simp; omega)))
                have hg3 := (World.ownsRow.lt hown g3 rfl).1
                refine on_held hK (by decide) (HS0.out.step HB3.out) (fun hSn4 => ?_)
                clear hK K hown hgr hat hSn4
                try simp only [qA, qB, qC, Act.put, qD, qE, qF]
                refine Left.ready (rs := [17]) (by kernel_rfl) (by simp) ?_
                refine Nexts.cons rfl (fun K hK => ?_) Nexts.nil
                go_simp
                refine (IH.out c _ (o ++ [sj]) _ pre xs1 n4 (by have := HF.out; omega) hck2 HI3.out (by simp; omega) (fun b hb => by simp only [Value.ownBlock, Option.some.injEq] at hb; subst hb; exact ⟨by have := HR3.out.rd.2.2; have := HR1.out.rd.2.2; omega, fun e => by have := (accE_lt HR1.out.acc g3 e).2; omega⟩) HR3.out.rd HR3.out.acc HLS.out (HB1.out.trans (HB3.out.mono HB1.out.size))).mono ?_
                rintro e v9 ⟨rfl, hrp⟩
                have HRC := Lib.hid (HR3.out.call hrp)
                obtain ⟨_, _, _, _, _, hch4⟩ := hrp
                refine on_held hK (by decide) ((HS0.out.step HB3.out).chg hch4 (fun e => e.elim (fun e => by have := HR1.out.rz; omega) (HR3.out.unW _ (by omega) (by omega))) (fun e => e.elim (fun e => by have := HR1.out.rz; omega) (HR3.out.unW _ (by omega) (by omega))) (fun e => e.elim (fun e => by omega) (fun e => by have := (accE_lt HR3.out.acc gx e).1; omega)) (fun e => e.elim (fun e => by omega) (fun e => by have := (accE_lt HR3.out.acc gy e).1; omega))) (fun hS9 => ?_)
                clear hK K hch4 hS9
                try simp only [qA, qB, qC, Act.put, qD, qE, qF]
                refine Left.done (by kernel_rfl) ?_ _
                obtain ⟨u3, xs3, hri⟩ := HRC.out
                have HR9 := Lib.hid hri; clear hri HRC
                have HNX := Lib.hid (show pre ++ P.collect t f c (o ++ [sj]) = es ++ (ow ++ ((st.zip ch).take (j + 1)).flatMap fun sc => P.collect t f sc.2.toNat (o ++ [sc.1])) by rw [HSN.out, ← HPRE.out]; simp)
                go_wp2
                go_roundw
                case rel => exact ⟨j + 1, u3, xs3, by omega, by go_num, by rw [← HNX.out]; exact HR9.out⟩
                case measure => simp [intOf]; omega
              · skip
                go_simp
                have hba := (Below.refl n1.heap.size n1).alloc (Nat.le_refl _) (.cells #[.int .i64 sj] 3)
                have zn5 : n1.heap.size < (n1.alloc (.cells #[.int .i64 sj] 3)).heap.size := by simp
                have STRn5 := Lib.hid (show (n1.alloc (.cells #[.int .i64 sj] 3)).cell? ⟨n1.heap.size, 0, none⟩ = some (.int .i64 sj) by go_simp)
                have OWNn5 := Lib.hid (owns_st OWNn1.out (Below.chg hba fun _ => False) (fun _ _ h => h))
                have HBn5 := Lib.hid (HBn1.out.trans (hba.mono HBn1.out.size))
                refine on_held hK (by decide) (HS0.out.step HBn5.out) (fun hSn5 => ?_)
                clear hK K hba hSn5
                generalize n1.alloc (.cells #[.int .i64 sj] 3) = n5 at *
                try simp only [qA, qB, qC, Act.put, qD, qE, qF]
                refine Left.ready (rs := [8]) (by kernel_rfl) (by simp) ?_
                refine Nexts.cons rfl (fun K hK => ?_) Nexts.nil
                refine step_append_src rfl _ _ 27 rfl v1.heap.size 3 j0 (.int .i64 0) 1 8 Tryz.underlying27 hj hy0 hy1 hy2 rfl (by decide) (.slice (some ⟨v1.heap.size, 0, none⟩) 0 0) 0 [] rfl OWNn5.out (.slice oad o.length ocap) o.length (ints o) rfl (src_of_ints (HO1.out.below HBn5.out)) (by unfold maxLen; omega) (by omega) HBn5.out.size ?_
                intro cv n6 hown hgr
                have HBn6 := Lib.hid (HBn5.out.grown hgr HBn5.out.size (fun k hk => (World.ownsRow.lt OWNn5.out k hk).1))
                have STRn6 := Lib.hid (((chg_grown hgr).cell (p := ⟨n1.heap.size, 0, none⟩) (by show n1.heap.size < n5.heap.size; omega) (fun e => by simp only [Value.ownBlock, Option.some.injEq] at e; omega)).trans STRn5.out)
                have zn6 : n5.heap.size ≤ n6.heap.size := hgr.size
                rw [Nat.zero_add, List.nil_append] at hown
                obtain ⟨cd, cc, rfl⟩ := own_form hown
                have CPn6 := Lib.hid hown
                refine on_held hK (by decide) (HS0.out.step HBn6.out) (fun hSn6 => ?_)
                clear hK K hown hgr hSn6
                try simp only [qA, qB, qC, Act.put, qD, qE, qF]
                refine Left.ready (rs := [15]) (by kernel_rfl) (by simp) ?_
                refine Nexts.cons rfl (fun K hK => ?_) Nexts.nil
                refine step_append_lies _ rfl _ _ 27 rfl v1.heap.size 3 j0 (.int .i64 0) 1 8 Tryz.underlying27 hj hy0 hy1 hy2 rfl (by decide) (.slice cd o.length cc) o.length (ints o) rfl CPn6.out ⟨n1.heap.size, 0, none⟩ 1 1 [.int .i64 sj] rfl rfl ?_ ?_ (by decide) (by unfold maxLen; omega) (by omega) HBn6.out.size _ rfl ?_
                · intro i y hy
                  match i, hy with
                  | 0, hy => injection hy with hy; subst hy; rw [add0]; exact STRn6.out
                · intro y hy
                  simp only [List.mem_cons, List.not_mem_nil, or_false] at hy
                  subst hy; rfl
                intro g3 cap3 n7 hown hgr hat hlt3
                have HB3 := Lib.hid (HBn6.out.grown hgr HBn6.out.size (fun k hk => (World.ownsRow.lt CPn6.out k hk).1))
                have HR3 := Lib.hid (HR1.out.below HB3.out)
                have HI3 := Lib.hid (Ints.read (ints_of_owns (B := v1.heap.size) (l := o ++ [sj]) (u := .slice (some ⟨g3, 0, none⟩) (o.length + 1) cap3) (v := n7) (by rw [List.length_append, show ints (o ++ [sj]) = ints o ++ [.int .i64 sj] by simp]; exact hown) (by simp; omega)))
                have hg3 := (World.ownsRow.lt hown g3 rfl).1
                refine on_held hK (by decide) (HS0.out.step HB3.out) (fun hSn7 => ?_)
                clear hK K hown hgr hat hSn7
                try simp only [qA, qB, qC, Act.put, qD, qE, qF]
                refine Left.ready (rs := [17]) (by kernel_rfl) (by simp) ?_
                refine Nexts.cons rfl (fun K hK => ?_) Nexts.nil
                go_simp
                refine (IH.out c _ (o ++ [sj]) _ pre xs1 n7 (by have := HF.out; omega) hck2 HI3.out (by simp; omega) (fun b hb => by simp only [Value.ownBlock, Option.some.injEq] at hb; subst hb; exact ⟨by have := HR3.out.rd.2.2; have := HR1.out.rd.2.2; omega, fun e => by have := (accE_lt HR1.out.acc g3 e).2; omega⟩) HR3.out.rd HR3.out.acc HLS.out (HB1.out.trans (HB3.out.mono HB1.out.size))).mono ?_
                rintro e v9 ⟨rfl, hrp⟩
                have HRC := Lib.hid (HR3.out.call hrp)
                obtain ⟨_, _, _, _, _, hch4⟩ := hrp
                refine on_held hK (by decide) ((HS0.out.step HB3.out).chg hch4 (fun e => e.elim (fun e => by have := HR1.out.rz; omega) (HR3.out.unW _ (by omega) (by omega))) (fun e => e.elim (fun e => by have := HR1.out.rz; omega) (HR3.out.unW _ (by omega) (by omega))) (fun e => e.elim (fun e => by omega) (fun e => by have := (accE_lt HR3.out.acc gx e).1; omega)) (fun e => e.elim (fun e => by omega) (fun e => by have := (accE_lt HR3.out.acc gy e).1; omega))) (fun hS9 => ?_)
                clear hK K hch4 hS9
                try simp only [qA, qB, qC, Act.put, qD, qE, qF]
                refine Left.done (by kernel_rfl) ?_ _
                obtain ⟨u3, xs3, hri⟩ := HRC.out
                have HR9 := Lib.hid hri; clear hri HRC
                have HNX := Lib.hid (show pre ++ P.collect t f c (o ++ [sj]) = es ++ (ow ++ ((st.zip ch).take (j + 1)).flatMap fun sc => P.collect t f sc.2.toNat (o ++ [sc.1])) by rw [HSN.out, ← HPRE.out]; simp)
                go_wp2
                go_roundw
                case rel => exact ⟨j + 1, u3, xs3, by omega, by go_num, by rw [← HNX.out]; exact HR9.out⟩
                case measure => simp [intOf]; omega
            · skip
              go_simp
              have hba := (Below.refl v1.heap.size v1).alloc (Nat.le_refl _) (.cells #[.int .i64 sj] 3)
              have zn8 : v1.heap.size < (v1.alloc (.cells #[.int .i64 sj] 3)).heap.size := by simp
              have STRn8 := Lib.hid (show (v1.alloc (.cells #[.int .i64 sj] 3)).cell? ⟨v1.heap.size, 0, none⟩ = some (.int .i64 sj) by go_simp)
              have HBn8 := Lib.hid (HBB.out.trans (hba.mono HBB.out.size))
              refine on_held hK (by decide) (HS0.out.step HBn8.out) (fun hSn8 => ?_)
              clear hK K hba hSn8
              generalize v1.alloc (.cells #[.int .i64 sj] 3) = n8 at *
              try simp only [qA, qB, qC, Act.put, qD, qE, qF]
              refine Left.ready (rs := [6]) (by kernel_rfl) (by simp) ?_
              refine Nexts.cons rfl (fun K hK => ?_) Nexts.nil
              go_simp
              have hba := (Below.refl n8.heap.size n8).alloc (Nat.le_refl _) (.cells #[] 3)
              have zn9 : n8.heap.size < (n8.alloc (.cells #[] 3)).heap.size := by simp
              have OWNn9 := Lib.hid (World.ownsRow_lit (base := v1.heap.size) (e := 3) (size := 1) n8 #[] 0 HBn8.out.size (Nat.zero_le _) (by simp))
              have STRn9 := Lib.hid ((hba.cell (p := ⟨v1.heap.size, 0, none⟩) (by show v1.heap.size < n8.heap.size; omega)).trans STRn8.out)
              have HBn9 := Lib.hid (HBn8.out.trans (hba.mono HBn8.out.size))
              refine on_held hK (by decide) (HS0.out.step HBn9.out) (fun hSn9 => ?_)
              clear hK K hba hSn9
              generalize n8.alloc (.cells #[] 3) = n9 at *
              try simp only [qA, qB, qC, Act.put, qD, qE, qF]
              refine Left.ready (rs := [8]) (by kernel_rfl) (by simp) ?_
              refine Nexts.cons rfl (fun K hK => ?_) Nexts.nil
              refine step_append_src rfl _ _ 27 rfl v1.heap.size 3 j0 (.int .i64 0) 1 8 Tryz.underlying27 hj hy0 hy1 hy2 rfl (by decide) (.slice (some ⟨n8.heap.size, 0, none⟩) 0 0) 0 [] rfl OWNn9.out (.slice oad o.length ocap) o.length (ints o) rfl (src_of_ints (HO1.out.below HBn9.out)) (by unfold maxLen; omega) (by omega) HBn9.out.size ?_
              intro cv n10 hown hgr
              have HBn10 := Lib.hid (HBn9.out.grown hgr HBn9.out.size (fun k hk => (World.ownsRow.lt OWNn9.out k hk).1))
              have STRn10 := Lib.hid (((chg_grown hgr).cell (p := ⟨v1.heap.size, 0, none⟩) (by show v1.heap.size < n9.heap.size; omega) (fun e => by simp only [Value.ownBlock, Option.some.injEq] at e; omega)).trans STRn9.out)
              have zn10 : n9.heap.size ≤ n10.heap.size := hgr.size
              rw [Nat.zero_add, List.nil_append] at hown
              obtain ⟨cd, cc, rfl⟩ := own_form hown
              have CPn10 := Lib.hid hown
              refine on_held hK (by decide) (HS0.out.step HBn10.out) (fun hSn10 => ?_)
              clear hK K hown hgr hSn10
              try simp only [qA, qB, qC, Act.put, qD, qE, qF]
              refine Left.ready (rs := [15]) (by kernel_rfl) (by simp) ?_
              refine Nexts.cons rfl (fun K hK => ?_) Nexts.nil
              refine step_append_lies _ rfl _ _ 27 rfl v1.heap.size 3 j0 (.int .i64 0) 1 8 Tryz.underlying27 hj hy0 hy1 hy2 rfl (by decide) (.slice cd o.length cc) o.length (ints o) rfl CPn10.out ⟨v1.heap.size, 0, none⟩ 1 1 [.int .i64 sj] rfl rfl ?_ ?_ (by decide) (by unfold maxLen; omega) (by omega) HBn10.out.size _ rfl ?_
              · intro i y hy
                match i, hy with
                | 0, hy => injection hy with hy; subst hy; rw [add0]; exact STRn10.out
              · intro y hy
                simp only [List.mem_cons, List.not_mem_nil, or_false] at hy
                subst hy; rfl
              intro g3 cap3 n11 hown hgr hat hlt3
              have HB3 := Lib.hid (HBn10.out.grown hgr HBn10.out.size (fun k hk => (World.ownsRow.lt CPn10.out k hk).1))
              have HR3 := Lib.hid (HR1.out.below HB3.out)
              have HI3 := Lib.hid (Ints.read (ints_of_owns (B := v1.heap.size) (l := o ++ [sj]) (u := .slice (some ⟨g3, 0, none⟩) (o.length + 1) cap3) (v := n11) (by rw [List.length_append, show ints (o ++ [sj]) = ints o ++ [.int .i64 sj] by simp]; exact hown) (by simp; omega)))
              have hg3 := (World.ownsRow.lt hown g3 rfl).1
              refine on_held hK (by decide) (HS0.out.step HB3.out) (fun hSn11 => ?_)
              clear hK K hown hgr hat hSn11
              try simp only [qA, qB, qC, Act.put, qD, qE, qF]
              refine Left.ready (rs := [17]) (by kernel_rfl) (by simp) ?_
              refine Nexts.cons rfl (fun K hK => ?_) Nexts.nil
              go_simp
              refine (IH.out c _ (o ++ [sj]) _ pre xs1 n11 (by have := HF.out; omega) hck2 HI3.out (by simp; omega) (fun b hb => by simp only [Value.ownBlock, Option.some.injEq] at hb; subst hb; exact ⟨by have := HR3.out.rd.2.2; have := HR1.out.rd.2.2; omega, fun e => by have := (accE_lt HR1.out.acc g3 e).2; omega⟩) HR3.out.rd HR3.out.acc HLS.out (HB1.out.trans (HB3.out.mono HB1.out.size))).mono ?_
              rintro e v9 ⟨rfl, hrp⟩
              have HRC := Lib.hid (HR3.out.call hrp)
              obtain ⟨_, _, _, _, _, hch4⟩ := hrp
              refine on_held hK (by decide) ((HS0.out.step HB3.out).chg hch4 (fun e => e.elim (fun e => by have := HR1.out.rz; omega) (HR3.out.unW _ (by omega) (by omega))) (fun e => e.elim (fun e => by have := HR1.out.rz; omega) (HR3.out.unW _ (by omega) (by omega))) (fun e => e.elim (fun e => by omega) (fun e => by have := (accE_lt HR3.out.acc gx e).1; omega)) (fun e => e.elim (fun e => by omega) (fun e => by have := (accE_lt HR3.out.acc gy e).1; omega))) (fun hS9 => ?_)
              clear hK K hch4 hS9
              try simp only [qA, qB, qC, Act.put, qD, qE, qF]
              refine Left.done (by kernel_rfl) ?_ _
              obtain ⟨u3, xs3, hri⟩ := HRC.out
              have HR9 := Lib.hid hri; clear hri HRC
              have HNX := Lib.hid (show pre ++ P.collect t f c (o ++ [sj]) = es ++ (ow ++ ((st.zip ch).take (j + 1)).flatMap fun sc => P.collect t f sc.2.toNat (o ++ [sc.1])) by rw [HSN.out, ← HPRE.out]; simp)
              go_wp2
              go_roundw
              case rel => exact ⟨j + 1, u3, xs3, by omega, by go_num, by rw [← HNX.out]; exact HR9.out⟩
              case measure => simp [intOf]; omega
        · have hz : ((st.zip ch).take j) = st.zip ch := List.take_of_length_le (by rw [List.length_zip]; omega)
          have i5 : ¬ (j : Int) < (st.length : Int) := by omega
          have HFIN := Lib.hid (show CollP D (P.own o (st, ch, tt, tx) ++ (st.zip ch).flatMap fun sc => P.collect t f sc.2.toNat (o ++ [sc.1])) (.slice uad es.length ucap) es w wr by
            have h := HRR.out
            rw [hz] at h
            rw [HOW.out]
            exact ⟨_, _, h.rd, h.acc, fun b hb => (h.un b hb).imp id fun h => by omega, h.chg⟩)
          clear hz hbr
          go_wp2
          go_end0
          exact ⟨rfl, HFIN.out⟩
end
end
end Go.Proofs.YtkjidjomlpnnlaaGreatDoor
