/- Walks: lists of atoms applied (program). -/
import Derived.Deep.DeepCutAuto
import Derived.Deep.RegionHeld
import Derived.Test.YtmlklnimoknojaaGreatDoorFmtI3
import Derived.Test.YtmlklnimoknojaaGreatDoorTransD
namespace Go.Proofs.YtmlklnimoknojaaGreatDoor
namespace P
def applyR (s : St) (k : Int) (t : Bs) : St × Bool := if atom k t then (if 2000 < (apply s k t).text.length then (⟨[], false, false, 0, 0⟩, false) else (apply s k t, true)) else (⟨[], false, false, 0, 0⟩, false)
theorem runA_step {s : St} {a : Int × Bs} {l : List (Int × Bs)} (hg : stGood s) (hl : s.text.length ≤ 2000) : runA s (a :: l) = if (applyR s a.1 a.2).2 then runA (applyR s a.1 a.2).1 l else none := by
  conv => lhs; unfold runA
  rw [stOk_iff.2 ⟨hg, hl⟩, Bool.true_and]
  unfold applyR
  split
  · split
    · rfl
    · rfl
  · rfl
theorem applyR_good {s : St} {k : Int} {t : Bs} (hg : stGood s) (h : (applyR s k t).2 = true) : stGood (applyR s k t).1 ∧ (applyR s k t).1.text.length ≤ 2000 := by
  unfold applyR at h ⊢
  split at h
  · rename_i ha
    rw [if_pos ha]
    split at h
    · cases h
    · rename_i hl
      rw [if_neg hl]
      exact ⟨apply_good hg ha, by simp only; omega⟩
  · cases h
theorem atom_kind {k : Int} {t : Bs} (h : atom k t = true) : 1 ≤ k ∧ k ≤ 10 := by
  have h2 := (trim_note h).2.2
  exact h2
end P
open Go Go.RowKit
set_option maxHeartbeats 4000000
set_option maxRecDepth 100000
theorem stApply (b : Nat) (s : P.St) (k : Int) (t : Str) (w : World) (hb : StBox b s w) (hg : P.stGood s) (hl : s.text.length ≤ 2 ^ 29) (ha : P.atom k t = true) :
    Calls Tryz.prog 241 #[.pointer (some ⟨b, 0, none⟩), .agg #[.int .i64 k, .string (S t)]] w (StPost b (P.apply s k t) w) := by
  obtain ⟨tx, jn, gl, cp, wd⟩ := s
  have hk := P.atom_kind ha
  have ht : t.length ≤ 2 ^ 29 := by have := (P.atom_text ha).2; omega
  have h1 := hg.2.1
  have h2 := hg.2.2
  simp only at hl h1 h2
  have hk10 : k = 1 ∨ k = 2 ∨ k = 3 ∨ k = 4 ∨ k = 5 ∨ k = 6 ∨ k = 7 ∨ k = 8 ∨ k = 9 ∨ k = 10 := by omega
  rcases hk10 with rfl | rfl | rfl | rfl | rfl | rfl | rfl | rfl | rfl | rfl
  · exact stApply1 b tx jn gl cp wd t w hb h1 h2 hl ht
  · exact stApply2 b tx jn gl cp wd t w hb h1 h2 hl ht
  · exact stApply3 b tx jn gl cp wd t w hb h1 h2 hl ht
  · exact stApply4 b tx jn gl cp wd t w hb h1 h2 hl ht
  · exact stApply5 b tx jn gl cp wd t w hb h1 h2 hl ht
  · exact stApply6 b tx jn gl cp wd t w hb h1 h2 hl ht
  · exact stApply7 b tx jn gl cp wd t w hb h1 h2 hl ht
  · exact stApply8 b tx jn gl cp wd t w hb h1 h2 hl ht
  · exact stApply9 b tx jn gl cp wd t w hb h1 h2 hl ht
  · exact stApply10 b tx jn gl cp wd t w hb h1 h2 hl ht
theorem isValidState (s : P.St) (w : World) (hs : s.text.length ≤ 2 ^ 40) :
    Calls Tryz.prog 213 #[stV s] w fun e w' => e = .returned (.bool (P.stOk s)) ∧ Below w.heap.size w w' := by
  obtain ⟨t, jn, gl, cp, wd⟩ := s
  simp only at hs
  have HB0 := Lib.hid ((Below.refl w.heap.size w).alloc (Nat.le_refl _) (.cells #[.string (S t), .bool jn, .bool gl, .int .i64 cp, .int .i64 (wd : Int)] 170))
  have hf : P.stOk ⟨t, jn, gl, cp, wd⟩ = (decide ((t.length : Int) ≤ 2000) && (t.all P.prn && (decide (0 ≤ cp ∧ cp ≤ 2) && decide (0 ≤ (wd : Int) ∧ (wd : Int) ≤ (t.length : Int))))) := rfl
  obtain ⟨q1, hq1⟩ : ∃ q, t.all P.prn = q := ⟨_, rfl⟩
  obtain ⟨q2, hq2⟩ : ∃ q, decide (0 ≤ cp ∧ cp ≤ 2) = q := ⟨_, rfl⟩
  have HQ1 := Lib.hid hq1; have HQ2 := Lib.hid hq2
  by_cases h0 : (t.length : Int) ≤ 2000
  · rw [decide_eq_true h0, hq1, hq2] at hf
    have HF := Lib.hid hf
    clear hf hq1 hq2
    cases q1
    · go_enter Tryz.func213, Tryz.ntmps213
      go_wp2_with (first | (go_at_call 124; refine (isPrintable _ _ hs).mono ?_; rintro e w' ⟨rfl, rfl⟩; rw [HQ1.out]) | (go_at_call 125; refine (impl_in _ _ _ _).mono ?_; rintro e w' ⟨rfl, rfl⟩))
      go_ret
      exact ⟨ret_bool (by rw [HF.out]; rfl), HB0.out⟩
    · cases q2
      · go_enter Tryz.func213, Tryz.ntmps213
        go_wp2_with (first | (go_at_call 124; refine (isPrintable _ _ hs).mono ?_; rintro e w' ⟨rfl, rfl⟩; rw [HQ1.out]) | (go_at_call 125; refine (impl_in _ _ _ _).mono ?_; rintro e w' ⟨rfl, rfl⟩; try rw [HQ2.out]))
        go_ret
        exact ⟨ret_bool (by rw [HF.out]; rfl), HB0.out⟩
      · go_enter Tryz.func213, Tryz.ntmps213
        go_wp2_with (first | (go_at_call 124; refine (isPrintable _ _ hs).mono ?_; rintro e w' ⟨rfl, rfl⟩; rw [HQ1.out]) | (go_at_call 125; refine (impl_in _ _ _ _).mono ?_; rintro e w' ⟨rfl, rfl⟩; try rw [HQ2.out]))
        go_ret
        exact ⟨ret_bool (by rw [HF.out]; simp), HB0.out⟩
  · rw [decide_eq_false h0] at hf
    have HF := Lib.hid hf
    clear hf hq1 hq2
    go_enter Tryz.func213, Tryz.ntmps213
    go_wp2
    go_ret
    exact ⟨ret_bool (by rw [HF.out]; rfl), HB0.out⟩
def ApPost (r : P.St × Bool) (w : World) (e : Ending) (w' : World) : Prop := e = .returned (.tuple #[stV r.1, .bool r.2]) ∧ Below w.heap.size w w'
theorem applyAtom (s : P.St) (k : Int) (t : Str) (w : World) (hg : P.stGood s) (hl : s.text.length ≤ 2000) (ht : t.length ≤ 2 ^ 29) :
    Calls Tryz.prog 214 #[stV s, .agg #[.int .i64 k, .string (S t)]] w (ApPost (P.applyR s k t) w) := by
  have HG := Lib.hid hg
  have HSO := Lib.hid (P.stOk_iff.2 ⟨hg, hl⟩)
  have HN := Lib.hid (SAp.new w s k t)
  obtain ⟨tx, jn, gl, cp, wd⟩ := s
  simp only at hl
  clear hg
  go_enter Tryz.func214, Tryz.ntmps214
  go_wp2_with fail
  refine (isValidState ⟨tx, jn, gl, cp, wd⟩ _ (by simp only; omega)).mono ?_
  rintro e w1 ⟨rfl, hb⟩
  rw [HSO.out]
  have H1 := Lib.hid (HN.out.below hb)
  clear hb HN
  obtain ⟨⟨⟨a0, a1, a2, a3, a4⟩, ⟨f0, f1, f2, f3, f4⟩, hlt⟩, ⟨k0, k1, hlk⟩, ⟨⟨b0, b1, b2, b3, b4⟩, ⟨g0, g1, g2, g3, g4⟩, hlr⟩, _⟩ := H1.out
  simp only at a0 a1 a2 a3 a4 b0 b1 b2 b3 b4
  go_wp2_with fail
  refine (isValidAtom k t _ (by unfold maxLen; omega)).mono ?_
  rintro e w2 ⟨rfl, hb⟩
  have H2 := Lib.hid (H1.out.below hb)
  clear hb H1
  clear a0 a1 a2 a3 a4 hlt f0 f1 f2 f3 f4 k0 k1 hlk b0 b1 b2 b3 b4 hlr g0 g1 g2 g3 g4
  obtain ⟨⟨⟨a0, a1, a2, a3, a4⟩, ⟨f0, f1, f2, f3, f4⟩, hlt⟩, ⟨k0, k1, hlk⟩, ⟨⟨b0, b1, b2, b3, b4⟩, ⟨g0, g1, g2, g3, g4⟩, hlr⟩, _⟩ := H2.out
  simp only at a0 a1 a2 a3 a4 b0 b1 b2 b3 b4
  obtain ⟨q, hq⟩ : ∃ q, P.atom k t = q := ⟨_, rfl⟩
  have HQ := Lib.hid hq
  rw [hq]
  clear hq
  cases q
  · have HA := Lib.hid (show P.applyR ⟨tx, jn, gl, cp, wd⟩ k t = (⟨[], false, false, 0, 0⟩, false) by unfold P.applyR; rw [HQ.out]; rfl)
    go_wp2
    refine bodyPost_ret (v := .tuple #[stV st0, .bool false]) (by simp [results, Tryz.results214, go_sem, b0, b1, b2, b3, b4]) rfl ⟨by rw [HA.out], ?_⟩
    repeat (refine Below.setCell ?_ (by first | (simp; done) | (simp; omega)) _)
    exact H2.out.2.2.2
  · have HA := Lib.hid (show P.applyR ⟨tx, jn, gl, cp, wd⟩ k t = if 2000 < (P.apply ⟨tx, jn, gl, cp, wd⟩ k t).text.length then (⟨[], false, false, 0, 0⟩, false) else (P.apply ⟨tx, jn, gl, cp, wd⟩ k t, true) by unfold P.applyR; rw [HQ.out]; rfl)
    go_wp2_with fail
    refine (stApply w.heap.size ⟨tx, jn, gl, cp, wd⟩ k t _ H2.out.1 HG.out (by simp only; omega) HQ.out).mono ?_
    rintro e w3 ⟨rfl, hb3, hc3⟩
    have H3 := Lib.hid (H2.out.turn hc3 hb3)
    clear hb3 hc3 H2
    clear a0 a1 a2 a3 a4 hlt f0 f1 f2 f3 f4 k0 k1 hlk b0 b1 b2 b3 b4 hlr g0 g1 g2 g3 g4
    generalize P.apply ⟨tx, jn, gl, cp, wd⟩ k t = r at *
    obtain ⟨rt, rj, rg, rc, rw⟩ := r
    obtain ⟨⟨⟨a0, a1, a2, a3, a4⟩, ⟨f0, f1, f2, f3, f4⟩, hlt⟩, ⟨k0, k1, hlk⟩, ⟨⟨b0, b1, b2, b3, b4⟩, ⟨g0, g1, g2, g3, g4⟩, hlr⟩, _⟩ := H3.out
    simp only at a0 a1 a2 a3 a4 b0 b1 b2 b3 b4
    by_cases h2 : 2000 < rt.length
    · have i1 : (2000 : Int) < (rt.length : Int) := by omega
      have HE := Lib.hid (HA.out.trans (if_pos h2))
      clear h2
      go_wp2
      refine bodyPost_ret (v := .tuple #[stV st0, .bool false]) (by simp [results, Tryz.results214, go_sem, b0, b1, b2, b3, b4]) rfl ⟨by rw [HE.out], ?_⟩
      repeat (refine Below.setCell ?_ (by first | (simp; done) | (simp; omega)) _)
      exact H3.out.2.2.2
    · have i1 : ¬ (2000 : Int) < (rt.length : Int) := by omega
      have HE := Lib.hid (HA.out.trans (if_neg h2))
      clear h2
      go_wp2
      refine bodyPost_ret (v := .tuple #[stV ⟨rt, rj, rg, rc, rw⟩, .bool true]) (by simp [results, Tryz.results214, go_sem, b0, b1, b2, b3, b4]) rfl ⟨by rw [HE.out], ?_⟩
      repeat (refine Below.setCell ?_ (by first | (simp; done) | (simp; omega)) _)
      exact H3.out.2.2.2
end Go.Proofs.YtmlklnimoknojaaGreatDoor
namespace Go.Proofs.YtmlklnimoknojaaGreatDoor
open Go Go.RowKit
set_option maxHeartbeats 4000000
set_option maxRecDepth 100000
theorem AtomAt.below {g : Nat} {l : List (Int × Str)} {v v' : World} (h : AtomAt g l v) (hg : g < v.heap.size) (hb : Below v.heap.size v v') : AtomAt g l v' :=
  fun j hj => ⟨(hb.cell (p := ⟨g, _, none⟩) hg).trans (h j hj).1, (hb.cell (p := ⟨g, _, none⟩) hg).trans (h j hj).2⟩
theorem AtomR.below {v v' : World} {u : Value} {l : List (Int × Str)} (h : AtomR v u l) (hb : Below v.heap.size v v') : AtomR v' u l := by
  obtain ⟨ad, cap, h1, h2⟩ := h
  refine ⟨ad, cap, h1, h2.imp id ?_⟩
  rintro ⟨g, h3, h4, h5⟩
  exact ⟨g, h3, Nat.lt_of_lt_of_le h4 hb.size, h5.below h4 hb⟩
def SRunA (w : World) (s : P.St) (v : World) : Prop := StBox w.heap.size s v ∧ StBox (w.heap.size + 1) st0 v ∧ Below w.heap.size w v
theorem SRunA.below {w v v' : World} {s : P.St} (h : SRunA w s v) (hb : Below v.heap.size v v') : SRunA w s v' := ⟨h.1.below hb, h.2.1.below hb, h.2.2.trans (hb.mono h.2.2.size)⟩
theorem SRunA.state {w v : World} {s : P.St} (h : SRunA w s v) (tx : Str) (jn gl : Bool) (cp : Int) (wd : Nat) :
    SRunA w ⟨tx, jn, gl, cp, wd⟩ (((((v.setCell ⟨w.heap.size, 0, none⟩ (.string (S tx))).setCell ⟨w.heap.size, 1, none⟩ (.bool jn)).setCell ⟨w.heap.size, 2, none⟩ (.bool gl)).setCell ⟨w.heap.size, 3, none⟩ (.int .i64 cp)).setCell ⟨w.heap.size, 4, none⟩ (.int .i64 (wd : Int))) := by
  have hc : Chg (fun b => b = w.heap.size) v (((((v.setCell ⟨w.heap.size, 0, none⟩ (.string (S tx))).setCell ⟨w.heap.size, 1, none⟩ (.bool jn)).setCell ⟨w.heap.size, 2, none⟩ (.bool gl)).setCell ⟨w.heap.size, 3, none⟩ (.int .i64 cp)).setCell ⟨w.heap.size, 4, none⟩ (.int .i64 (wd : Int))) := (((((Chg.put (Chg.refl _ _) _).put _).put _).put _).put _)
  exact ⟨(((((h.1.text tx).joined jn).glued gl).cap cp).word wd), h.2.1.stand hc (by omega), h.2.2.trans (hc.below (Nat.le_of_lt h.1.2.2) (fun b e => by omega))⟩
def ApsPost (o : Option P.St) (w : World) (e : Ending) (w' : World) : Prop := e = .returned (.tuple #[stV (o.getD st0), .bool o.isSome]) ∧ Below w.heap.size w w'
theorem applyAtoms (s : P.St) (u : Value) (l : List (Int × Str)) (w : World) (hg : P.stGood s) (hl : s.text.length ≤ 2000) (hu : AtomR w u l) (h6 : l.length ≤ 600) (ht : ∀ x ∈ l, x.2.length ≤ 2 ^ 29) :
    Calls Tryz.prog 180 #[stV s, u] w (ApsPost (P.runA s l) w) := by
  have hb0 : Below w.heap.size w ((w.alloc (stCells s)).alloc (stCells st0)) := ((Below.refl w.heap.size w).alloc (Nat.le_refl _) _).alloc (by simp) _
  have HN := Lib.hid (show SRunA w s ((w.alloc (stCells s)).alloc (stCells st0)) from ⟨(StBox.new s w).below ((Below.refl _ _).alloc (Nat.le_refl _) (stCells st0)), by have h := StBox.new st0 (w.alloc (stCells s)); simpa using h, hb0⟩)
  have HU := Lib.hid hu; have HT := Lib.hid ht
  have HG := Lib.hid hg; have HL := Lib.hid hl
  have HSO := Lib.hid (P.stOk_iff.2 ⟨hg, hl⟩)
  obtain ⟨ad, cap, rfl, hr⟩ := hu
  have HR := Lib.hid hr
  obtain ⟨tx, jn, gl, cp, wd⟩ := s
  simp only at hl
  have i6 : ¬ (600 : Int) < (l.length : Int) := by omega
  clear hb0 hg ht hr
  go_enter Tryz.func180, Tryz.ntmps180
  go_wp2_with fail
  refine (isValidState ⟨tx, jn, gl, cp, wd⟩ _ (by simp only; omega)).mono ?_
  rintro e w1 ⟨rfl, hb⟩
  rw [HSO.out]
  have H1 := Lib.hid (HN.out.below hb)
  clear hb HN HSO hl
  go_wp2_with fail
  go_loopw [21] (fun i wr => ∃ (j : Nat) (s' : P.St), j ≤ l.length ∧ i = .int .i64 j ∧ P.stGood s' ∧ s'.text.length ≤ 2000 ∧ P.runA ⟨tx, jn, gl, cp, wd⟩ l = P.runA s' (l.drop j) ∧ SRunA w s' wr) (fun i _ => l.length - (intOf i).toNat)
  case atStart => exact ⟨0, _, Nat.zero_le _, rfl, HG.out, HL.out, rfl, H1.out⟩
  case round =>
    clear H1 HG HL
    obtain ⟨j, s', hj, rfl, hg, hl, hrun, hs⟩ := hrel
    have HG := Lib.hid hg; have HL := Lib.hid hl; have HRUN := Lib.hid hrun; have HS := Lib.hid hs
    clear hg hl hrun
    by_cases hlt : j < l.length
    · obtain ⟨g, hga, hgl, hat⟩ := HR.out.resolve_left (by intro e; rw [e] at hlt; simp at hlt)
      subst hga
      obtain ⟨c0', c1'⟩ := hat j hlt
      have c0 := (hs.2.2.cell (p := ⟨g, j * 2, none⟩) hgl).trans c0'
      have c1 := (hs.2.2.cell (p := ⟨g, j * 2 + 1, none⟩) hgl).trans c1'
      have hxt := HT.out _ (List.getElem_mem hlt)
      have HD := Lib.hid (List.drop_eq_getElem_cons hlt)
      have hgr : g < wr.heap.size := Nat.lt_of_lt_of_le hgl hs.2.2.size
      obtain ⟨⟨⟨a0, a1, a2, a3, a4⟩, ⟨f0, f1, f2, f3, f4⟩, hlb⟩, ⟨⟨b0, b1, b2, b3, b4⟩, ⟨g0, g1, g2, g3, g4⟩, hlr⟩, hbw⟩ := hs
      generalize l[j] = x at *
      obtain ⟨k, t⟩ := x
      obtain ⟨stx, sjn, sgl, scp, swd⟩ := s'
      simp only at a0 a1 a2 a3 a4 c0 c1 hxt
      have i1 : (j : Int) < (l.length : Int) := by omega
      clear hbw hat c0' c1'
      go_wp2_with fail
      refine (applyAtom ⟨stx, sjn, sgl, scp, swd⟩ k t _ HG.out HL.out hxt).mono ?_
      rintro e w2 ⟨rfl, hb⟩
      have hb2 : Below wr.heap.size wr w2 := ((Below.refl _ _).alloc (Nat.le_refl _) _).trans (hb.mono (by simp))
      have H2 := Lib.hid (HS.out.below hb2)
      clear hb hb2 a0 a1 a2 a3 a4 f0 f1 f2 f3 f4 hlb b0 b1 b2 b3 b4 g0 g1 g2 g3 g4 hlr c0 c1
      have HST := Lib.hid (P.runA_step (s := ⟨stx, sjn, sgl, scp, swd⟩) (a := (k, t)) (l := l.drop (j + 1)) HG.out HL.out)
      have HGO := Lib.hid (P.applyR_good (s := ⟨stx, sjn, sgl, scp, swd⟩) (k := k) (t := t) HG.out)
      simp only at HST
      obtain ⟨r, hr⟩ : ∃ r, P.applyR ⟨stx, sjn, sgl, scp, swd⟩ k t = r := ⟨_, rfl⟩
      rw [hr] at HST HGO
      rw [hr]
      clear hr HS
      obtain ⟨⟨rt, rj, rg, rc, rw⟩, q⟩ := r
      go_upto_region 7 with fail
      have H3 := Lib.hid (show SRunA w ⟨stx, sjn, sgl, scp, swd⟩ (w2.alloc (.cells #[.string (S rt), .bool rj, .bool rg, .int .i64 rc, .int .i64 (rw : Int)] 170)) from H2.out.below ((Below.refl _ _).alloc (Nat.le_refl _) _))
      have HNX := Lib.hid (show StBox w2.heap.size ⟨rt, rj, rg, rc, rw⟩ (w2.alloc (.cells #[.string (S rt), .bool rj, .bool rg, .int .i64 rc, .int .i64 (rw : Int)] 170)) from StBox.new ⟨rt, rj, rg, rc, rw⟩ w2)
      generalize (World.alloc _ _) = w3 at *
      obtain ⟨⟨⟨a0, a1, a2, a3, a4⟩, ⟨f0, f1, f2, f3, f4⟩, hlb⟩, ⟨⟨b0, b1, b2, b3, b4⟩, ⟨g0, g1, g2, g3, g4⟩, hlr⟩, _⟩ := H3.out
      simp only at a0 a1 a2 a3 a4 b0 b1 b2 b3 b4
      clear H2
      cases q
      · have HE := Lib.hid (show P.runA ⟨tx, jn, gl, cp, wd⟩ l = none by rw [HRUN.out, HD.out, HST.out]; rfl)
        go_wp2
        refine bodyPost_ret (v := .tuple #[stV st0, .bool false]) (by simp [results, Tryz.results180, go_sem, b0, b1, b2, b3, b4]) rfl ⟨by rw [HE.out]; rfl, ?_⟩
        repeat (refine Below.setCell ?_ (by first | (simp; done) | (simp; omega)) _)
        exact H3.out.2.2
      · obtain ⟨hgn, hln⟩ := HGO.out rfl
        have HGN := Lib.hid hgn; have HLN := Lib.hid hln
        have HE := Lib.hid (show P.runA ⟨tx, jn, gl, cp, wd⟩ l = P.runA ⟨rt, rj, rg, rc, rw⟩ (l.drop (j + 1)) by rw [HRUN.out, HD.out, HST.out]; rfl)
        have H4 := Lib.hid (H3.out.state rt rj rg rc rw)
        obtain ⟨⟨d0, d1, d2, d3, d4⟩, _, _⟩ := HNX.out
        simp only at d0 d1 d2 d3 d4
        clear hgn hln
        go_wp2
        go_roundw
        case rel => exact ⟨j + 1, ⟨rt, rj, rg, rc, rw⟩, by omega, by go_num, HGN.out, HLN.out, HE.out, H4.out⟩
        case measure => simp [intOf]; omega
    · have HE := Lib.hid (show P.runA ⟨tx, jn, gl, cp, wd⟩ l = some s' by rw [HRUN.out, List.drop_of_length_le (by omega)]; rfl)
      obtain ⟨stx, sjn, sgl, scp, swd⟩ := s'
      obtain ⟨⟨⟨a0, a1, a2, a3, a4⟩, ⟨f0, f1, f2, f3, f4⟩, hlb⟩, ⟨⟨b0, b1, b2, b3, b4⟩, ⟨g0, g1, g2, g3, g4⟩, hlr⟩, _⟩ := hs
      simp only at a0 a1 a2 a3 a4 b0 b1 b2 b3 b4
      have i1 : ¬ (j : Int) < (l.length : Int) := by omega
      go_wp2
      refine bodyPost_ret (v := .tuple #[stV ⟨stx, sjn, sgl, scp, swd⟩, .bool true]) (by simp [results, Tryz.results180, go_sem, b0, b1, b2, b3, b4]) rfl ⟨by rw [HE.out]; rfl, ?_⟩
      repeat (refine Below.setCell ?_ (by first | (simp; done) | (simp; omega)) _)
      exact HS.out.2.2
def RenPost (r : Str × Bool) (w : World) (e : Ending) (w' : World) : Prop := e = .returned (.tuple #[.string (S r.1), .bool r.2]) ∧ Below w.heap.size w w'
theorem impl_render (u : Value) (l : List (Int × Str)) (w : World) (hu : AtomR w u l) (h6 : l.length ≤ 600) (ht : ∀ x ∈ l, x.2.length ≤ 2 ^ 29) :
    Calls Tryz.prog 129 #[u] w (RenPost (P.render l) w) := by
  have HR := Lib.hid (show P.render l = (P.outText (P.runA P.init l), (P.runA P.init l).isSome) by unfold P.render; rw [if_neg (by omega)])
  have HU := Lib.hid hu
  obtain ⟨ad, cap, rfl, _⟩ := hu
  go_enter Tryz.func129, Tryz.ntmps129
  go_wp2_with fail
  refine (applyAtoms P.init _ l _ P.init_good (by decide) HU.out h6 ht).mono ?_
  rintro e w1 ⟨rfl, hb⟩
  have HB := Lib.hid hb
  clear hb
  generalize P.runA P.init l = o at *
  cases o with
  | none =>
    go_wp2
    go_ret2
    exact ⟨by rw [HR.out]; rfl, HB.out.alloc HB.out.size _⟩
  | some s =>
    obtain ⟨tx, jn, gl, cp, wd⟩ := s
    go_wp2
    go_ret2
    exact ⟨by rw [HR.out]; rfl, HB.out.alloc HB.out.size _⟩
end Go.Proofs.YtmlklnimoknojaaGreatDoor
