/- Walks: a dictionary with entries for all folded outlines (reference). -/
import Derived.Deep.DeepCutAuto
import Derived.Deep.RegionHeld
import Derived.Test.YtmlklnimoknojaaGreatDoorFoldS4
import Derived.Test.YtmlklnimoknojaaGreatDoorPut3
import Derived.Test.YtmlklnimoknojaaGreatDoorFold1
namespace Go.Proofs.YtmlklnimoknojaaGreatDoor
namespace P
theorem into_outline {k : Nat} {o q : List Int} (ho : outline o = true) (hk : k ≤ 22) (h : into (k : Int) o = some q) : outline q = true ∧ q.length = o.length := by
  obtain ⟨h0, h6, m, hm, hm1, hm2, _⟩ := outline_last ho
  obtain ⟨n, hn⟩ : ∃ n, o.length = n + 1 := ⟨o.length - 1, by omega⟩
  rw [into_nat hm hn] at h
  cases hb : m.testBit k with
  | true => rw [hb] at h; cases h
  | false =>
    rw [hb] at h
    have h' : some (o.take n ++ [(m : Int) + ((2 ^ k : Nat) : Int)]) = some q := h
    injection h' with h'
    have hlt : m + 2 ^ k < 2 ^ 23 := by
      rw [← or_bit_new hb]
      exact Nat.or_lt_two_pow hm2 (Nat.pow_lt_pow_right (by decide) (by omega))
    have hlen : q.length = o.length := by rw [← h', List.length_append, List.length_take]; simp; omega
    refine ⟨?_, hlen⟩
    unfold outline
    simp only [Bool.and_eq_true, decide_eq_true_eq, List.all_eq_true]
    refine ⟨by omega, fun x hx => ?_⟩
    rw [← h'] at hx
    rcases List.mem_append.1 hx with hx | hx
    · unfold outline at ho
      simp only [Bool.and_eq_true, List.all_eq_true] at ho
      exact ho.2 x (List.mem_of_mem_take hx)
    · simp only [List.mem_cons, List.not_mem_nil, or_false] at hx
      subst hx
      unfold stroke
      rw [decide_eq_true_eq]
      generalize 2 ^ k = z at *
      omega
theorem cand_none {d : Dic} {l : Folds} {o : List Int} {f : Fold} (h : into f.1 o = none) : cand d l o f = none := by unfold cand; rw [h]; rfl
theorem cand_some {d : Dic} {l : Folds} {o q : List Int} {f : Fold} (h : into f.1 o = some q) : cand d l o f = if (lookF d l q).2.2 && decide (0 ≤ (lookF d l q).2.1) then some (q, (lookF d l q).1) else none := by unfold cand; rw [h]; rfl
theorem foS_none {d : Dic} {l : Folds} {o : List Int} {f : Fold} {out : Dic} (h : cand d l o f = none) : foS d l o out f = out := by unfold foS; rw [h]
theorem foS_some {d : Dic} {l : Folds} {o : List Int} {f : Fold} {out : Dic} {x : Ent} (h : cand d l o f = some x) : foS d l o out f = putF x false out := by unfold foS; rw [h]
end P
open Go Go.RowKit
set_option maxHeartbeats 4000000
set_option maxRecDepth 100000
/-- how the expansion stands: the new dictionary in block B -/
structure ESt (w : World) (B : Nat) (dv u : Value) (out : P.Dic) (v : World) : Prop where
  bd : DBx w.heap.size dv v
  br : DBx (w.heap.size + 1) (.slice none 0 0) v
  bo : DBx B u v
  en : Ents v (fun b => Bet (w.heap.size + 2) v.heap.size b ∧ b ≠ B) u out
  low : w.heap.size + 2 ≤ B
  bel : Below w.heap.size w v
theorem ESt.below {w v v' : World} {B : Nat} {dv u : Value} {out : P.Dic} (h : ESt w B dv u out v) (hb : Below v.heap.size v v') : ESt w B dv u out v' := by
  obtain ⟨h1, h2, h3, h4, h5, h6⟩ := h
  have hz := hb.size
  exact ⟨h1.below hb, h2.below hb, h3.below hb, (h4.below entE_ok hb).wide (fun b hb => ⟨⟨hb.1.1, by have := hb.1.2; omega⟩, hb.2⟩) (fun b hb => hb.1.2), h5, h6.trans (hb.mono h6.size)⟩
theorem ESt.put {w v v' : World} {B : Nat} {dv u u' : Value} {out out' : P.Dic} (h : ESt w B dv u out v) (hb : Below v.heap.size v v') (he : Ents v' (Bet v.heap.size v'.heap.size) u' out') : ESt w B dv u' out' (v'.setCell ⟨B, 0, none⟩ u') := by
  obtain ⟨h1, h2, h3, h4, h5, h6⟩ := h.below hb
  have hB : B < v.heap.size := h.bo.2.2
  have hw : w.heap.size + 1 < v.heap.size := h.br.2.2
  have hc : Chg (fun b => b = B) v' (v'.setCell ⟨B, 0, none⟩ u') := (Chg.refl (fun b => b = B) v').setCell (p := ⟨B, 0, none⟩) rfl _
  have hz : (v'.setCell ⟨B, 0, none⟩ u').heap.size = v'.heap.size := by simp [World.setCell]
  refine ⟨h1.stand hc (by omega), h2.stand hc (by omega), h3.put, ?_, h5, h6.setCell (by show w.heap.size ≤ B; omega) _⟩
  exact (he.stand entE_ok hc (fun b hb e => by have := hb.1; omega)).wide (fun b hb => ⟨⟨by have := hb.1; omega, by rw [hz]; exact hb.2⟩, by have := hb.1; omega⟩) (fun b hb => by rw [hz]; exact (by have := hb.1.2; rw [hz] at this; exact this))
/-- what region 10 reads -/
def K10 (W : Nat) (dv : Value) (g p : Nat) (x : Value) (gf pf : Nat) (k : Int) (s : Str) (v : World) : Prop :=
  (v.cell? ⟨W, 0, none⟩ = some dv ∧ v.cell? ⟨g, p, none⟩ = some x ∧ v.cell? ⟨gf, pf, none⟩ = some (.int .i64 k) ∧ v.cell? ⟨gf, pf + 1, none⟩ = some (.string (S s))) ∧ W < v.heap.size ∧ g < v.heap.size ∧ gf < v.heap.size
theorem K10.below {W : Nat} {dv : Value} {g p : Nat} {x : Value} {gf pf : Nat} {k : Int} {s : Str} {v v' : World} (h : K10 W dv g p x gf pf k s v) (hb : Below v.heap.size v v') : K10 W dv g p x gf pf k s v' := by
  obtain ⟨⟨h1, h2, h3, h4⟩, h5, h6, h7⟩ := h
  have hz := hb.size
  exact ⟨⟨(hb.cell (p := ⟨W, 0, none⟩) h5).trans h1, (hb.cell (p := ⟨g, p, none⟩) h6).trans h2, (hb.cell (p := ⟨gf, pf, none⟩) h7).trans h3, (hb.cell (p := ⟨gf, pf + 1, none⟩) h7).trans h4⟩, by omega, by omega, by omega⟩
theorem lookG_len {d : P.Dic} {o : List Int} (h29 : ∀ e ∈ d, e.2.length ≤ 2 ^ 29) : ∀ (l : P.Folds) (i : Nat), (∀ f ∈ l, P.fold f = true) → (P.lookG d o i l).1.length ≤ 2 ^ 30
  | [], _, _ => by simp [P.lookG]
  | f :: l, i, h => by
    unfold P.lookG
    cases hh : P.hit d o f with
    | none => exact lookG_len h29 l (i + 1) fun f hf => h f (by simp [hf])
    | some x =>
      show x.length ≤ 2 ^ 30
      unfold P.hit at hh
      cases hu : P.unf f.1 o with
      | none => rw [hu] at hh; cases hh
      | some r =>
        rw [hu] at hh
        simp only [Option.bind_some] at hh
        split at hh
        · unfold P.foldT at hh
          split at hh
          · injection hh with hh
            have h1 := textAt_len (o := r) h29
            obtain ⟨_, _, _, _, h2⟩ := P.fold_key (k := f.1) (s := f.2) (h f (by simp))
            rw [← hh]
            unfold P.foldTxt
            simp
            omega
          · cases hh
        · cases hh
theorem lookF_len {d : P.Dic} {l : P.Folds} {o : List Int} (h29 : ∀ e ∈ d, e.2.length ≤ 2 ^ 29) (h : ∀ f ∈ l, P.fold f = true) : (P.lookF d l o).1.length ≤ 2 ^ 30 := by
  unfold P.lookF
  split
  · have := textAt_len (o := o) h29; show (P.textAt o d).length ≤ _; omega
  · exact lookG_len h29 l 0 h
theorem foldtext_len {d : P.Dic} {l : P.Folds} {x : P.Ent} (h29 : ∀ e ∈ d, e.2.length ≤ 2 ^ 29) (hf : ∀ f ∈ l, P.fold f = true) (h : P.goodF d l x) : x.2.length ≤ 2 ^ 30 := by
  rcases h with h | ⟨o, f, h⟩
  · have := h29 x h; omega
  · obtain ⟨i, hi, he⟩ := P.cand_look h
    have := lookF_len (l := l) (o := x.1) h29 hf
    rw [he] at this
    exact this
theorem dic_kept {ok : Bool} {l : P.Dic} (h : ok = true) : P.kept ok l = l := by rw [h]; rfl
theorem spec_expandFolds (dv fv : Value) (d : P.Dic) (l : P.Folds) (w : World) (hd : EntR w dv d) (hf : FldR w fv l) (hs : Small d) (h29 : ∀ e ∈ d, e.2.length ≤ 2 ^ 29) (hft : ∀ f ∈ l, f.2.length ≤ 2 ^ 30) :
    Calls Tryz.prog 29 #[.agg #[dv], fv] w (DkPost (P.expOk d l) (P.expS d l) w) := by
  have hb0 : Below w.heap.size w ((w.alloc (.cells #[dv] 26)).alloc (.cells #[.slice none 0 0] 26)) := ((Below.refl w.heap.size w).alloc (Nat.le_refl _) _).alloc (by simp) _
  have HD := Lib.hid hd; have HFR := Lib.hid hf; have HB0 := Lib.hid hb0
  have HX := Lib.hid ((DBx.new dv 26 w).below ((Below.refl _ _).alloc (Nat.le_refl _) (.cells #[.slice none 0 0] 26)))
  have HR := Lib.hid (show DBx (w.heap.size + 1) (.slice none 0 0) ((w.alloc (.cells #[dv] 26)).alloc (.cells #[.slice none 0 0] 26)) by
    have h := DBx.new (.slice none 0 0) 26 (w.alloc (.cells #[dv] 26)); simpa using h)
  have HS := Lib.hid hs; have H29 := Lib.hid h29; have HFT := Lib.hid hft
  have HEX := Lib.hid (show P.expOk d l = (P.dic d && (P.foldsOk l && P.dic (P.expS d l))) from rfl)
  clear hb0 hs h29 hft
  obtain ⟨ad, cap, rfl, _, _⟩ := hd
  obtain ⟨fa, fc, rfl, ⟨hl45, _⟩, _, _⟩ := hf
  go_enter Tryz.func29, Tryz.ntmps29
  go_wp2_with fail
  refine (l6Good _ d _ (HD.out.below HB0.out) HS.out.texts).mono ?_
  rintro e w1 ⟨rfl, hb⟩
  have HB1 := Lib.hid (HB0.out.trans (hb.mono HB0.out.size)); have HX1 := Lib.hid (HX.out.below hb); have HR1 := Lib.hid (HR.out.below hb)
  clear hb HB0 HX HR
  obtain ⟨q, hq⟩ : ∃ q, P.dic d = q := ⟨_, rfl⟩
  have HQ := Lib.hid hq
  rw [hq]
  clear hq
  cases q
  · have hno : P.expOk d l = false := by rw [HEX.out, HQ.out]; rfl
    have HNO := Lib.hid hno
    obtain ⟨r0, r1, r2⟩ := HR1.out
    clear hno
    go_wp2
    refine bodyPost_ret (v := .tuple #[.agg #[.slice none 0 0], .bool false]) (by simp [results, Tryz.results29, go_sem, r0]) rfl ⟨_, by rw [HNO.out], by rw [HNO.out]; exact RowO.nil _ _, HB1.out.setCell (by simp) _⟩
  · go_wp2_with fail
    refine (spec_isValidFolds _ l _ (HFR.out.below HB1.out) HFT.out).mono ?_
    rintro e w2 ⟨rfl, hb⟩
    have HB2 := Lib.hid (HB1.out.trans (hb.mono HB1.out.size)); have HX2 := Lib.hid (HX1.out.below hb); have HR2 := Lib.hid (HR1.out.below hb)
    clear hb HB1 HX1 HR1
    obtain ⟨q, hq⟩ : ∃ q, P.foldsOk l = q := ⟨_, rfl⟩
    have HQF := Lib.hid hq
    rw [hq]
    clear hq
    cases q
    · have hno : P.expOk d l = false := by rw [HEX.out, HQ.out, HQF.out]; rfl
      have HNO := Lib.hid hno
      obtain ⟨r0, r1, r2⟩ := HR2.out
      clear hno
      go_wp2
      refine bodyPost_ret (v := .tuple #[.agg #[.slice none 0 0], .bool false]) (by simp [results, Tryz.results29, go_sem, r0]) rfl ⟨_, by rw [HNO.out], by rw [HNO.out]; exact RowO.nil _ _, HB2.out.setCell (by simp) _⟩
    · have HDL := Lib.hid (P.dic_len HQ.out)
      have HL6 := Lib.hid (show l.length ≤ 6 by have h := HQF.out; unfold P.foldsOk at h; simp only [Bool.and_eq_true, decide_eq_true_eq] at h; omega)
      have HFO := Lib.hid (show ∀ f ∈ l, P.fold f = true by have h := HQF.out; unfold P.foldsOk at h; simp only [Bool.and_eq_true, List.all_eq_true] at h; exact h.2.1)
      obtain ⟨k0, _⟩ := HX2.out
      go_wp2_with fail
      refine (l6Own _ d _ (HD.out.below HB2.out) HS.out.len HS.out.outs).mono ?_
      rintro e w3 ⟨u, rfl, hO, hb⟩
      have hba : Below w3.heap.size w3 (w3.alloc (.cells #[u] 26)) := (Below.refl _ _).alloc (Nat.le_refl _) _
      have hb2 := hb.trans (hba.mono hb.size)
      have hz2 : w.heap.size + 2 ≤ w2.heap.size := HR2.out.2.2
      have HE := Lib.hid (show ESt w w3.heap.size (.slice ad d.length cap) u d (w3.alloc (.cells #[u] 26)) from
        ⟨HX2.out.below hb2, HR2.out.below hb2, DBx.new _ _ _, (hO.below entE_ok hba).wide (fun b hb => ⟨⟨by have := hb.1; omega, by have := hb.2; simp; omega⟩, by have := hb.2; omega⟩) (fun b hb => hb.1.2), by have := hb.size; omega, HB2.out.trans (hb2.mono HB2.out.size)⟩)
      have HOUT := Lib.hid (show ∀ e ∈ d, e.1.length ≤ 6 from fun e he => by
        have h := HQ.out
        unfold P.dic at h
        simp only [Bool.and_eq_true, List.all_eq_true] at h
        have h2 := h.2.1 e he
        unfold P.entry at h2
        simp only [Bool.and_eq_true] at h2
        have h3 := h2.1
        unfold P.outline at h3
        simp only [Bool.and_eq_true, decide_eq_true_eq] at h3
        omega)
      have HOV := Lib.hid (show ∀ e ∈ d, P.outline e.1 = true from fun e he => by
        have h := HQ.out
        unfold P.dic at h
        simp only [Bool.and_eq_true, List.all_eq_true] at h
        have h2 := h.2.1 e he
        unfold P.entry at h2
        simp only [Bool.and_eq_true] at h2
        exact h2.1)
      obtain ⟨ua, uc, rfl, _, _⟩ := id hO
      clear hO hb hba hb2 hz2 k0 HB2 HX2 HR2
      go_wp2_with fail
      go_loopw [7] (fun i wr => ∃ (j : Nat) (u : Value) (out : P.Dic), j ≤ d.length ∧ i = .int .i64 j ∧ out = (d.take j).foldl (P.rowS d l l) d ∧ out.length ≤ 40 + 6 * j ∧ (∀ e ∈ out, e.1.length ≤ 6) ∧ ESt w w3.heap.size (.slice ad d.length cap) u out wr) (fun i _ => d.length - (intOf i).toNat)
      case atStart => exact ⟨0, _, d, by omega, rfl, rfl, by have := HDL.out; omega, HOUT.out, HE.out⟩
      case round =>
        clear HE
        obtain ⟨j, u, out, hj, rfl, hout, hol, ho6, he⟩ := hrel
        have HOT := Lib.hid hout; have HO6 := Lib.hid ho6; have HE := Lib.hid he
        clear hout ho6
        obtain ⟨k0, _⟩ := he.bd
        by_cases hlt : j < d.length
        · have i1 : (j : Int) < (d.length : Int) := by omega
          have HEV := Lib.hid (HOV.out _ (List.getElem_mem hlt))
          have HTK := Lib.hid (P.foldl_take_succ (P.rowS d l l) d d j hlt)
          obtain ⟨g, p, hga, hgl, x, c0, c1, hx⟩ := (HD.out).at j hlt
          subst hga
          have HXX := Lib.hid hx; have C0 := Lib.hid c0; have HGL := Lib.hid hgl
          obtain ⟨xa, xc, rfl, _, _⟩ := id hx
          generalize d[j] = en at *
          obtain ⟨eo, et⟩ := en
          simp only at HEV HXX C0
          clear he hx c0 c1 hgl
          go_wp2_with fail
          go_loopw [8] (fun i wx => ∃ (b : Nat) (u : Value) (o2 : P.Dic), b ≤ l.length ∧ i = .int .i64 b ∧ o2 = (l.take b).foldl (P.foS d l eo) out ∧ o2.length ≤ 40 + 6 * j + b ∧ (∀ e ∈ o2, e.1.length ≤ 6) ∧ ESt w w3.heap.size (.slice (some ⟨g, p, none⟩) d.length cap) u o2 wx) (fun i _ => l.length - (intOf i).toNat)
          case atStart => exact ⟨0, u, out, by omega, rfl, rfl, by omega, HO6.out, HE.out⟩
          case round =>
            clear HE k0
            obtain ⟨b, u, o2, hb, rfl, ho2, hol2, ho6, he⟩ := hrel
            have HOT2 := Lib.hid ho2; have HO62 := Lib.hid ho6; have HE := Lib.hid he
            clear ho2 ho6
            obtain ⟨k0, k1, k2⟩ := he.bd
            by_cases hl2 : b < l.length
            · have i2 : (b : Int) < (l.length : Int) := by omega
              obtain ⟨gf, pf, hgf, hfl, f0, f1⟩ := (HFR.out.below HE.out.bel).at b hl2
              subst hgf
              have HFB := Lib.hid (HFO.out _ (List.getElem_mem hl2))
              have HTK2 := Lib.hid (P.foldl_take_succ (P.foS d l eo) out l b hl2)
              generalize l[b] = fn at *
              obtain ⟨key, s⟩ := fn
              obtain ⟨key, rfl, hk1, hk2, hs8⟩ := P.fold_key HFB.out
              simp only at HTK2 f0 f1
              have C1 := Lib.hid ((he.bel.cell (p := ⟨g, p + j * 2, none⟩) HGL.out).trans C0.out)
              have HS0 := Lib.hid (show K10 w.heap.size (.slice (some ⟨g, p, none⟩) d.length cap) g (p + j * 2) (.slice xa eo.length xc) gf (pf + b * 2) (key : Int) s wr.drew from K10.below ⟨⟨k0, C1.out, f0, f1⟩, k2, Nat.lt_of_lt_of_le HGL.out he.bel.size, hfl⟩ (Below.refl _ _).drew)
              have hdd := (Below.refl wr.heap.size wr).drew
              have HEW := Lib.hid (HE.out.below hdd)
              have HXW := Lib.hid (HXX.out.below HEW.out.bel)
              clear he hdd f0 f1 k0 k1 k2 HE
              go_upto_region 10 with fail
              refine wp_region_held_drew (S := K10 w.heap.size (.slice (some ⟨g, p, none⟩) d.length cap) g (p + j * 2) (.slice xa eo.length xc) gf (pf + b * 2) (key : Int) s) (by kernel_rfl) HS0.out (fun hS0 => ?_)
              generalize wr.drew = v0 at *
              refine wpAnyH_take (i := 0) (v := .pointer (some ⟨w.heap.size, 0, none⟩)) rfl (by kernel_rfl) (by kernel_rfl) (by kernel_rfl) (fun _ _ _ h => h) (Or.inl ⟨by rfl, fun z hz => ?_⟩) hS0 ?_
              · obtain ⟨⟨z1, z2, z3, z4⟩, z5, z6, z7⟩ := hz
                go_simp
              try simp only [qA, qB, Act.put, qD, qE, qF]
              refine wpAnyH_take (i := 1) (v := .slice (some ⟨g, p, none⟩) d.length cap) rfl (by kernel_rfl) (by kernel_rfl) (by kernel_rfl) (fun _ _ _ h => h) (Or.inl ⟨by rfl, fun z hz => ?_⟩) hS0 ?_
              · obtain ⟨⟨z1, z2, z3, z4⟩, z5, z6, z7⟩ := hz
                go_simp
              try simp only [qA, qB, qC, Act.put, qD, qE, qF]
              refine wpAnyH_take (i := 2) (v := .int .i64 (j : Int)) rfl (by kernel_rfl) (by kernel_rfl) (by kernel_rfl) (fun _ _ _ h => h) (Or.inl ⟨by rfl, fun z hz => ?_⟩) hS0 ?_
              · obtain ⟨⟨z1, z2, z3, z4⟩, z5, z6, z7⟩ := hz
                go_simp
              try simp only [qA, qB, qC, Act.put, qD, qE, qF]
              refine wpAnyH_take (i := 3) (v := .pointer (some ⟨g, p + j * 2, none⟩)) rfl (by kernel_rfl) (by kernel_rfl) (by kernel_rfl) (fun _ _ _ h => h) (Or.inl ⟨by rfl, fun z hz => ?_⟩) hS0 ?_
              · obtain ⟨⟨z1, z2, z3, z4⟩, z5, z6, z7⟩ := hz
                go_simp
              try simp only [qA, qB, qC, Act.put, qD, qE, qF]
              refine wpAnyH_take (i := 4) (v := .pointer (some ⟨g, p + j * 2, none⟩)) rfl (by kernel_rfl) (by kernel_rfl) (by kernel_rfl) (fun _ _ _ h => h) (Or.inl ⟨by rfl, fun z hz => ?_⟩) hS0 ?_
              · obtain ⟨⟨z1, z2, z3, z4⟩, z5, z6, z7⟩ := hz
                go_simp
              try simp only [qA, qB, qC, Act.put, qD, qE, qF]
              refine wpAnyH_take (i := 5) (v := .slice xa eo.length xc) rfl (by kernel_rfl) (by kernel_rfl) (by kernel_rfl) (fun _ _ _ h => h) (Or.inl ⟨by rfl, fun z hz => ?_⟩) hS0 ?_
              · obtain ⟨⟨z1, z2, z3, z4⟩, z5, z6, z7⟩ := hz
                go_simp
              try simp only [qA, qB, qC, Act.put, qD, qE, qF]
              refine wpAnyH_take (i := 6) (v := .slice (some ⟨gf, pf, none⟩) l.length fc) rfl (by kernel_rfl) (by kernel_rfl) (by kernel_rfl) (fun _ _ _ h => h) (Or.inl ⟨by rfl, fun z hz => ?_⟩) hS0 ?_
              · obtain ⟨⟨z1, z2, z3, z4⟩, z5, z6, z7⟩ := hz
                go_simp
              try simp only [qA, qB, qC, Act.put, qD, qE, qF]
              refine wpAnyH_take (i := 7) (v := .int .i64 (b : Int)) rfl (by kernel_rfl) (by kernel_rfl) (by kernel_rfl) (fun _ _ _ h => h) (Or.inl ⟨by rfl, fun z hz => ?_⟩) hS0 ?_
              · obtain ⟨⟨z1, z2, z3, z4⟩, z5, z6, z7⟩ := hz
                go_simp
              try simp only [qA, qB, qC, Act.put, qD, qE, qF]
              refine wpAnyH_take (i := 8) (v := .pointer (some ⟨gf, pf + b * 2, none⟩)) rfl (by kernel_rfl) (by kernel_rfl) (by kernel_rfl) (fun _ _ _ h => h) (Or.inl ⟨by rfl, fun z hz => ?_⟩) hS0 ?_
              · obtain ⟨⟨z1, z2, z3, z4⟩, z5, z6, z7⟩ := hz
                go_simp
              try simp only [qA, qB, qC, Act.put, qD, qE, qF]
              refine wpAnyH_take (i := 9) (v := .agg #[.int .i64 (key : Int), .string (S s)]) rfl (by kernel_rfl) (by kernel_rfl) (by kernel_rfl) (fun _ _ _ h => h) (Or.inl ⟨by rfl, fun z hz => ?_⟩) hS0 ?_
              · obtain ⟨⟨z1, z2, z3, z4⟩, z5, z6, z7⟩ := hz
                go_simp
              try simp only [qA, qB, qC, Act.put, qD, qE, qF]
              refine wpAnyH_ready (rs := [10]) (by kernel_rfl) (by simp) ?_
              refine AllReadyH.cons rfl (fun K hK => ?_) AllReadyH.nil
              go_simp
              refine (spec_foldInto key s _ eo _ HXW.out HEV.out HFB.out).mono ?_
              rintro e v1 ⟨x, rfl, hI, hb1⟩
              have HE1 := Lib.hid (HEW.out.below hb1)
              have HI1 := Lib.hid (Ints.read hI)
              refine hK.out _ _ (hS0.below hb1) (fun hS1 => ?_)
              clear hK K hb1 hI HXW
              obtain ⟨r, hr⟩ : ∃ r, P.into (key : Int) eo = r := ⟨_, rfl⟩
              have HRR := Lib.hid hr
              rw [hr] at HI1 ⊢
              clear hr
              obtain ⟨ya, yc, rfl, _, _⟩ := HI1.out
              try simp only [qA, qB, qC, Act.put, qD, qE, qF]
              refine wpAnyH_take (i := 11) (v := .tuple #[.slice ya (r.getD []).length yc, .bool r.isSome]) rfl (by kernel_rfl) (by kernel_rfl) (by kernel_rfl) (fun _ _ _ h => h) (Or.inl ⟨by rfl, fun z hz => ?_⟩) hS1 ?_
              · obtain ⟨⟨z1, z2, z3, z4⟩, z5, z6, z7⟩ := hz
                go_simp
              try simp only [qA, qB, qC, Act.put, qD, qE, qF]
              refine wpAnyH_take (i := 12) (v := .slice ya (r.getD []).length yc) rfl (by kernel_rfl) (by kernel_rfl) (by kernel_rfl) (fun _ _ _ h => h) (Or.inl ⟨by rfl, fun z hz => ?_⟩) hS1 ?_
              · obtain ⟨⟨z1, z2, z3, z4⟩, z5, z6, z7⟩ := hz
                go_simp
              try simp only [qA, qB, qC, Act.put, qD, qE, qF]
              refine wpAnyH_take (i := 13) (v := .bool r.isSome) rfl (by kernel_rfl) (by kernel_rfl) (by kernel_rfl) (fun _ _ _ h => h) (Or.inl ⟨by rfl, fun z hz => ?_⟩) hS1 ?_
              · obtain ⟨⟨z1, z2, z3, z4⟩, z5, z6, z7⟩ := hz
                go_simp
              try simp only [qA, qB, qC, Act.put, qD, qE, qF]
              refine wpAnyH_take (i := 14) (v := .slice ya (r.getD []).length yc) rfl (by kernel_rfl) (by kernel_rfl) (by kernel_rfl) (fun _ _ _ h => h) (Or.inl ⟨by rfl, fun z hz => ?_⟩) hS1 ?_
              · obtain ⟨⟨z1, z2, z3, z4⟩, z5, z6, z7⟩ := hz
                go_simp
              try simp only [qA, qB, qC, Act.put, qD, qE, qF]
              refine wpAnyH_take (i := 15) (v := .bool r.isSome) rfl (by kernel_rfl) (by kernel_rfl) (by kernel_rfl) (fun _ _ _ h => h) (Or.inl ⟨by rfl, fun z hz => ?_⟩) hS1 ?_
              · obtain ⟨⟨z1, z2, z3, z4⟩, z5, z6, z7⟩ := hz
                go_simp
              try simp only [qA, qB, qC, Act.put, qD, qE, qF]
              refine wpAnyH_done (by kernel_rfl) ?_ _
              clear hS0 hS1 HS0 HEW
              cases r with
              | none =>
                have HN := Lib.hid (P.foS_none (out := o2) (P.cand_none (d := d) (l := l) (f := ((key : Int), s)) HRR.out))
                simp only [Option.isSome_none, Option.getD_none]
                go_wp2
                go_roundw
                case rel => exact ⟨b + 1, u, o2, by omega, by go_num, by rw [HTK2.out, ← HOT2.out, HN.out], by omega, HO62.out, HE1.out⟩
                case measure => simp [intOf]; omega
              | some q =>
                simp only [Option.isSome_some, Option.getD_some] at HI1 ⊢
                obtain ⟨hqo, hql⟩ := P.into_outline HEV.out hk2 HRR.out
                have HQO := Lib.hid hqo
                have hq6 : q.length ≤ 6 := by have h := hqo; unfold P.outline at h; simp only [Bool.and_eq_true, decide_eq_true_eq] at h; omega
                have HCS := Lib.hid (P.cand_some (d := d) (l := l) (f := ((key : Int), s)) HRR.out)
                clear hqo hql
                obtain ⟨k0, _⟩ := HE1.out.bd
                go_wp2_with fail
                refine (spec_lookupFolded _ _ _ d l q _ (HD.out.below HE1.out.bel) (HFR.out.below HE1.out.bel) HI1.out H29.out HQ.out HQO.out HQF.out HFT.out).mono ?_
                rintro e v2 ⟨rfl, hb2⟩
                have HE2 := Lib.hid (HE1.out.below hb2); have HI2 := Lib.hid (HI1.out.below hb2)
                clear hb2 k0 HE1 HI1
                obtain ⟨r3, hr3⟩ : ∃ r, P.lookF d l q = r := ⟨_, rfl⟩
                rw [hr3] at HCS
                rw [hr3]
                clear hr3
                obtain ⟨tx, at', fd⟩ := r3
                simp only at HCS ⊢
                by_cases hfd : fd = true ∧ 0 ≤ at'
                · obtain ⟨rfl, hat⟩ := hfd
                  have HC := Lib.hid (show P.cand d l eo ((key : Int), s) = some (q, tx) by rw [HCS.out, decide_eq_true hat]; rfl)
                  have HSO := Lib.hid (P.foS_some (out := o2) HC.out)
                  obtain ⟨b0, _⟩ := HE2.out.bo
                  obtain ⟨ua2, uc2, rfl, _, _⟩ := Ents.read HE2.out.en
                  go_wp2_with fail
                  refine (l6Put _ _ o2 q tx _ (Ents.read HE2.out.en) HI2.out (by have := HDL.out; have := HL6.out; omega) (fun e he => by have := HO62.out e he; omega) (by omega)).mono ?_
                  rintro e v3 ⟨u3, rfl, hO3, hb3⟩
                  have HE3 := Lib.hid (HE2.out.put hb3 hO3)
                  obtain ⟨b0', b1, b2⟩ := HE2.out.bo.below hb3
                  obtain ⟨ua3, uc3, rfl, _, _⟩ := id hO3
                  have HPL := Lib.hid (P.put_len (q, tx) o2)
                  have HP6 := Lib.hid (show ∀ e ∈ P.putF (q, tx) false o2, e.1.length ≤ 6 from fun e he => by
                    rcases (P.putF_mem _ _ _).1 he with rfl | he
                    · exact hq6
                    · exact HO62.out e (P.del_sub he))
                  clear hb3 hO3 b0 HE2 HI2
                  go_wp2
                  go_roundw
                  case rel => exact ⟨b + 1, _, P.putF (q, tx) false o2, by omega, by go_num, by rw [HTK2.out, ← HOT2.out, HSO.out], by have := HPL.out; omega, HP6.out, HE3.out⟩
                  case measure => simp [intOf]; omega
                · have HC := Lib.hid (show P.cand d l eo ((key : Int), s) = none by
                    rw [HCS.out]
                    cases fd with
                    | false => rfl
                    | true => rw [decide_eq_false (fun h => hfd ⟨rfl, h⟩)]; rfl)
                  have HN := Lib.hid (P.foS_none (out := o2) HC.out)
                  cases fd with
                  | false =>
                    clear hfd
                    go_wp2
                    go_roundw
                    case rel => exact ⟨b + 1, u, o2, by omega, by go_num, by rw [HTK2.out, ← HOT2.out, HN.out], by omega, HO62.out, HE2.out⟩
                    case measure => simp [intOf]; omega
                  | true =>
                    have hat : ¬ 0 ≤ at' := fun h => hfd ⟨rfl, h⟩
                    clear hfd
                    go_wp2
                    go_roundw
                    case rel => exact ⟨b + 1, u, o2, by omega, by go_num, by rw [HTK2.out, ← HOT2.out, HN.out], by omega, HO62.out, HE2.out⟩
                    case measure => simp [intOf]; omega
            · have i2 : ¬ (b : Int) < (l.length : Int) := by omega
              have HTA := Lib.hid (show l.take b = l from List.take_of_length_le (by omega))
              have hb6 : b ≤ 6 := by have := HL6.out; omega
              clear he
              go_wp2
              go_roundw
              case rel => exact ⟨j + 1, u, o2, by omega, by go_num, by rw [HTK.out, ← HOT.out, HOT2.out, HTA.out]; rfl, by omega, HO62.out, HE.out⟩
              case measure => simp [intOf]; omega
        · have i1 : ¬ (j : Int) < (d.length : Int) := by omega
          have HTA := Lib.hid (show d.take j = d from List.take_of_length_le (by omega))
          have HXP := Lib.hid (show out = P.expS d l by rw [HOT.out, HTA.out]; rfl)
          have HGD := Lib.hid (P.beside_all (l := l) (P.pair_of_dic HQ.out))
          have HTX := Lib.hid (show ∀ e ∈ out, e.2.length ≤ 2 ^ 30 from fun e he' => foldtext_len H29.out HFO.out (HGD.out.gd e (by rw [← HXP.out]; exact he')))
          obtain ⟨ua3, uc3, rfl, _, _⟩ := Ents.read he.en
          obtain ⟨b0, _⟩ := he.bo
          clear he
          go_wp2_with fail
          refine (l6Good _ out _ (Ents.read HE.out.en) HTX.out).mono ?_
          rintro e v9 ⟨rfl, hb9⟩
          have HE9 := Lib.hid (HE.out.below hb9)
          clear hb9 b0 k0
          obtain ⟨q, hq⟩ : ∃ q, P.dic out = q := ⟨_, rfl⟩
          have HQ9 := Lib.hid hq
          rw [hq]
          clear hq
          obtain ⟨r0, r1, r2⟩ := HE9.out.br
          obtain ⟨b0, b1, b2⟩ := HE9.out.bo
          cases q
          · have hno : P.expOk d l = false := by rw [HEX.out, HQ.out, HQF.out, ← HXP.out, HQ9.out]; rfl
            have HNO := Lib.hid hno
            clear hno
            go_wp2
            refine bodyPost_ret (v := .tuple #[.agg #[.slice none 0 0], .bool false]) (by simp [results, Tryz.results29, go_sem, r0]) rfl ⟨_, by rw [HNO.out], by rw [HNO.out]; exact RowO.nil _ _, HE9.out.bel.setCell (by simp) _⟩
          · have hno : P.expOk d l = true := by rw [HEX.out, HQ.out, HQF.out, ← HXP.out, HQ9.out]; rfl
            have HNO := Lib.hid hno
            clear hno
            go_wp2
            refine bodyPost_ret (v := .tuple #[.agg #[.slice ua3 out.length uc3], .bool true]) (by simp [results, Tryz.results29, go_sem, r0]) rfl ⟨.slice ua3 out.length uc3, by rw [HNO.out], ?_, HE9.out.bel.setCell (by simp) _⟩
            rw [HNO.out, dic_kept rfl, ← HXP.out]
            have hst : Chg (fun b => b = w.heap.size + 1) v9 (v9.setCell ⟨w.heap.size + 1, 0, none⟩ (.slice ua3 out.length uc3)) := (Chg.refl (fun b => b = w.heap.size + 1) v9).setCell (p := ⟨w.heap.size + 1, 0, none⟩) rfl _
            exact (HE9.out.en.stand entE_ok hst (fun b hb e => by have := hb.1.1; omega)).wide (fun b hb => ⟨by have := hb.1.1; omega, by have := hb.1.2; simpa [World.setCell] using this⟩) (fun b hb => hb.2)
end Go.Proofs.YtmlklnimoknojaaGreatDoor
