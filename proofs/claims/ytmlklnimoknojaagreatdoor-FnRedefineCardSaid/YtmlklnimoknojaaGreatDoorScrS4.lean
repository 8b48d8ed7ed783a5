/- Walks: the screen of strokes (reference). -/
import Derived.BigRegion
import Derived.RegionTactic
import Derived.Test.YtmlklnimoknojaaGreatDoorScrS3
namespace Go.Proofs.YtmlklnimoknojaaGreatDoor
namespace P
theorem runS_none {s : St} {a : Int × Bs} {l : List (Int × Bs)} (h : (atom a.1 a.2 && decide (s.text.length ≤ 2000)) = false) : runS s (a :: l) = none := by
  conv => lhs; unfold runS
  rw [if_neg (by rw [h]; decide)]
theorem runS_next {s : St} {a : Int × Bs} {l : List (Int × Bs)} (h : (atom a.1 a.2 && decide (s.text.length ≤ 2000)) = true) : runS s (a :: l) = runS (apply s a.1 a.2) l := by
  conv => lhs; unfold runS
  rw [if_pos h]
end P
open Go Go.RowKit
set_option maxHeartbeats 4000000
set_option maxRecDepth 100000
theorem l12ApplyG (s : P.St) (k : Int) (t : Str) (w : World) (hg : P.stGood s) (hl : s.text.length ≤ 2 ^ 29) (ha : P.atom k t = true) :
    Calls Tryz.prog 159 #[stV s, .agg #[.int .i64 k, .string (S t)]] w fun e w' => e = .returned (stV (P.apply s k t)) ∧ Below w.heap.size w w' := by
  obtain ⟨tx, jn, gl, cp, wd⟩ := s
  have hk := P.atom_kind ha
  have ht : t.length ≤ 2 ^ 29 := by have := (P.atom_text ha).2; omega
  have h1 := hg.2.1
  have h2 := hg.2.2
  simp only at hl h1 h2
  have hk10 : k = 1 ∨ k = 2 ∨ k = 3 ∨ k = 4 ∨ k = 5 ∨ k = 6 ∨ k = 7 ∨ k = 8 ∨ k = 9 ∨ k = 10 := by omega
  rcases hk10 with rfl | rfl | rfl | rfl | rfl | rfl | rfl | rfl | rfl | rfl
  · exact l12Apply1 tx jn gl cp wd t w h1 h2 hl ht
  · exact l12Apply2 tx jn gl cp wd t w h1 h2 hl ht
  · exact l12Apply3 tx jn gl cp wd t w h1 h2 hl ht
  · exact l12Apply4 tx jn gl cp wd t w h1 h2 hl ht
  · exact l12Apply5 tx jn gl cp wd t w h1 h2 hl ht
  · exact l12Apply6 tx jn gl cp wd t w h1 h2 hl ht
  · exact l12Apply7 tx jn gl cp wd t w h1 h2 hl ht
  · exact l12Apply8 tx jn gl cp wd t w h1 h2 hl ht
  · exact l12Apply9 tx jn gl cp wd t w h1 h2 hl ht
  · exact l12Apply10 tx jn gl cp wd t w h1 h2 hl ht
def StX (b : Nat) (tx : Str) (jn gl : Bool) (cp : Int) (wd : Nat) (g j : Nat) (k : Int) (t : Str) (v : World) : Prop :=
  ((v.cell? ⟨b, 0, none⟩ = some (.string (S tx)) ∧ v.cell? ⟨b, 1, none⟩ = some (.bool jn) ∧ v.cell? ⟨b, 2, none⟩ = some (.bool gl) ∧ v.cell? ⟨b, 3, none⟩ = some (.int .i64 cp) ∧ v.cell? ⟨b, 4, none⟩ = some (.int .i64 (wd : Int))) ∧
  (v.frozen? ⟨b, 0, none⟩ = false ∧ v.frozen? ⟨b, 1, none⟩ = false ∧ v.frozen? ⟨b, 2, none⟩ = false ∧ v.frozen? ⟨b, 3, none⟩ = false ∧ v.frozen? ⟨b, 4, none⟩ = false) ∧ b < v.heap.size) ∧
  (g < v.heap.size ∧ v.cell? ⟨g, j * 2, none⟩ = some (.int .i64 k) ∧ v.cell? ⟨g, j * 2 + 1, none⟩ = some (.string (S t)))
theorem StX.below {b : Nat} {tx : Str} {jn gl : Bool} {cp : Int} {wd g j : Nat} {k : Int} {t : Str} {v v' : World} (h : StX b tx jn gl cp wd g j k t v) (hb : Below v.heap.size v v') : StX b tx jn gl cp wd g j k t v' :=
  ⟨StBox.below (s := ⟨tx, jn, gl, cp, wd⟩) h.1 hb, Nat.lt_of_lt_of_le h.2.1 hb.size, (hb.cell (p := ⟨g, j * 2, none⟩) h.2.1).trans h.2.2.1, (hb.cell (p := ⟨g, j * 2 + 1, none⟩) h.2.1).trans h.2.2.2⟩
theorem StBox.all {b : Nat} {s : P.St} {v : World} (h : StBox b s v) (tx : Str) (jn gl : Bool) (cp : Int) (wd : Nat) :
    StBox b ⟨tx, jn, gl, cp, wd⟩ (((((v.setCell ⟨b, 0, none⟩ (.string (S tx))).setCell ⟨b, 1, none⟩ (.bool jn)).setCell ⟨b, 2, none⟩ (.bool gl)).setCell ⟨b, 3, none⟩ (.int .i64 cp)).setCell ⟨b, 4, none⟩ (.int .i64 (wd : Int))) :=
  ((((h.text tx).joined jn).glued gl).cap cp).word wd
def StY (b : Nat) (tx : Str) (jn gl : Bool) (cp : Int) (wd : Nat) (v : World) : Prop :=
  ((v.cell? ⟨b, 0, none⟩ = some (.string (S tx)) ∧ v.cell? ⟨b, 1, none⟩ = some (.bool jn) ∧ v.cell? ⟨b, 2, none⟩ = some (.bool gl) ∧ v.cell? ⟨b, 3, none⟩ = some (.int .i64 cp) ∧ v.cell? ⟨b, 4, none⟩ = some (.int .i64 (wd : Int))) ∧
  (v.frozen? ⟨b, 0, none⟩ = false ∧ v.frozen? ⟨b, 1, none⟩ = false ∧ v.frozen? ⟨b, 2, none⟩ = false ∧ v.frozen? ⟨b, 3, none⟩ = false ∧ v.frozen? ⟨b, 4, none⟩ = false) ∧ b < v.heap.size)
theorem StY.below {b : Nat} {tx : Str} {jn gl : Bool} {cp : Int} {wd : Nat} {v v' : World} (h : StY b tx jn gl cp wd v) (hb : Below v.heap.size v v') : StY b tx jn gl cp wd v' := StBox.below (s := ⟨tx, jn, gl, cp, wd⟩) h hb
theorem l14Screen (dv sv : Value) (dl : P.Dic) (st : List Int) (w : World) (hu : EntR w dv dl) (hs : IntR w sv st) (hd : P.dic dl = true) (hsl : P.slist st = true) :
    Calls Tryz.prog 95 #[.agg #[dv], sv] w (RenPost (P.renderS (P.atomsOf st (P.segA dl st))) w) := by
  have hb0 : Below w.heap.size w (w.alloc (.cells #[dv] 26)) := (Below.refl w.heap.size w).alloc (Nat.le_refl _) _
  have HBX := Lib.hid (Box1.new dv 26 w)
  have HST := Lib.hid (hs.below hb0); have HU := Lib.hid (hu.below hb0); have HB0 := Lib.hid hb0
  have HT := Lib.hid (P.atomsOf_text (st := st) (l := P.segA dl st) fun p hp => P.seg_piece hd hp)
  have hl6 := P.atomsOf_len st (P.segA dl st)
  have hl60 := P.slist_len hsl
  have hl := Nat.le_trans (P.segA_len dl st) hl60
  obtain ⟨sd, sc, rfl, _, _⟩ := hs
  obtain ⟨dd, dc, rfl, _, _⟩ := hu
  clear hb0
  go_enter Tryz.func95, Tryz.ntmps95
  go_wp2_with fail
  refine (l12New0 _).mono ?_
  rintro e w1 ⟨rfl, hb⟩
  have HB1 := Lib.hid (HB0.out.trans (hb.mono HB0.out.size)); have HX1 := Lib.hid (HBX.out.below hb); have HST1 := Lib.hid (HST.out.below hb); have HU1 := Lib.hid (HU.out.below hb)
  clear hb
  unfold stV P.init
  go_upto_region 2 with fail
  have hba := (Below.refl w1.heap.size w1).alloc (Nat.le_refl _) (.cells #[.string (S []), .bool true, .bool false, .int .i64 0, .int .i64 0] 170)
  have HS0 := Lib.hid (show StBox w1.heap.size P.init (w1.alloc (.cells #[.string (S []), .bool true, .bool false, .int .i64 0, .int .i64 0] 170)) from StBox.new P.init w1)
  have HB2 := Lib.hid (HB1.out.trans (hba.mono HB1.out.size)); have HX2 := Lib.hid (HX1.out.below hba); have HST2 := Lib.hid (HST1.out.below hba); have HU2 := Lib.hid (HU1.out.below hba)
  have HW1 := Lib.hid HB1.out.size
  clear hba HBX HST HU HB0 HX1 HST1 HU1
  generalize (World.alloc _ _) = W at *
  obtain ⟨k0, k1⟩ := HX2.out
  go_wp2_with fail
  refine (l14Atoms _ _ dl st _ HU2.out HST2.out hd hsl).mono ?_
  rintro e w2 ⟨u, rfl, ho, hb⟩
  obtain ⟨ad, cap, rfl⟩ := own_lenA ho
  have HOW := Lib.hid ho; have HS2 := Lib.hid (HS0.out.below hb); have HB3 := Lib.hid (HB2.out.trans (hb.mono HB2.out.size))
  obtain ⟨l, hlE⟩ : ∃ l, P.atomsOf st (P.segA dl st) = l := ⟨_, rfl⟩
  rw [hlE] at HOW HT hl6 ⊢
  have HLE := Lib.hid hlE
  have HWB := Lib.hid HS0.out.2.2
  have hl600 : l.length ≤ 600 := by omega
  clear hlE ho hb k0 k1 hl6
  go_wp2
  go_loopw [8] (fun i wr => ∃ (j : Nat) (s' : P.St), j ≤ l.length ∧ i = .int .i64 j ∧ P.stGood s' ∧ s'.text.length ≤ 2050 ∧ P.runS P.init l = P.runS s' (l.drop j) ∧ StBox w1.heap.size s' wr ∧ OwnAtoms W.heap.size wr (.slice ad l.length cap) l ∧ Below w.heap.size w wr) (fun i _ => l.length - (intOf i).toNat)
  case atStart => exact ⟨0, P.init, Nat.zero_le _, rfl, P.init_good, by decide, rfl, HS2.out, HOW.out, HB3.out⟩
  case round =>
    obtain ⟨j, s', hj, rfl, hg, hln, hrun, hsb, how, hb⟩ := hrel
    have HG := Lib.hid hg; have HRUN := Lib.hid hrun; have HSB := Lib.hid hsb; have HO := Lib.hid how; have HB := Lib.hid hb
    clear hg hrun hb HOW HS2 HB3
    obtain ⟨tx, jn, gl, cp, wd⟩ := s'
    simp only at hln
    obtain ⟨⟨a0, a1, a2, a3, a4⟩, ⟨f0, f1, f2, f3, f4⟩, hlb⟩ := hsb
    simp only at a0 a1 a2 a3 a4
    by_cases hlt : j < l.length
    · obtain ⟨ad', cap', he, hr⟩ := own_atoms how
      injection he with he1 _ he3
      subst he1 he3
      obtain ⟨g, hga, hgl, hat⟩ := hr.resolve_left (by intro e; rw [e] at hlt; simp at hlt)
      subst hga
      obtain ⟨c0, c1⟩ := hat j hlt
      have HXT := Lib.hid (HT.out _ (List.getElem_mem hlt))
      have HD := Lib.hid (List.drop_eq_getElem_cons hlt)
      have HAT := Lib.hid (hat j hlt)
      generalize l[j] = x at *
      obtain ⟨k, t⟩ := x
      simp only at c0 c1
      have i1 : (j : Int) < (l.length : Int) := by omega
      clear how hat hr
      go_wp2_with fail
      refine (l5Good k t _ (by have h9 := HXT.out; have h8 : t.length ≤ 2 ^ 29 := h9; unfold maxLen; omega)).mono ?_
      rintro e w3 ⟨rfl, hb⟩
      have HSB3 := Lib.hid (HSB.out.below hb); have HO3 := Lib.hid (own_kept HO.out hb (Nat.le_refl _)); have HB3 := Lib.hid (HB.out.trans (hb.mono HB.out.size))
      have hc0 := (hb.cell (p := ⟨g, 0 + j * 2, none⟩) hgl)
      have HC3 := Lib.hid (show w3.cell? ⟨g, j * 2, none⟩ = some (.int .i64 k) ∧ w3.cell? ⟨g, j * 2 + 1, none⟩ = some (.string (S t)) from ⟨(hb.cell (p := ⟨g, j * 2, none⟩) hgl).trans c0, (hb.cell (p := ⟨g, j * 2 + 1, none⟩) hgl).trans c1⟩)
      have HGL := Lib.hid (Nat.lt_of_lt_of_le hgl hb.size)
      clear hb hc0 c0 c1 a0 a1 a2 a3 a4 f0 f1 f2 f3 f4 hlb HSB HO HB hgl HAT
      obtain ⟨⟨a0, a1, a2, a3, a4⟩, ⟨f0, f1, f2, f3, f4⟩, hlb⟩ := HSB3.out
      simp only at a0 a1 a2 a3 a4
      obtain ⟨q, hq⟩ : ∃ q, P.atom k t = q := ⟨_, rfl⟩
      have HQ := Lib.hid hq
      rw [hq]
      clear hq
      cases q
      · have HE := Lib.hid (show P.renderS l = ([], false) by unfold P.renderS; rw [HRUN.out, HD.out, P.runS_none (by rw [HQ.out]; rfl)])
        go_wp2
        go_ret2
        exact ⟨by rw [HLE.out, HE.out]; rfl, HB3.out⟩
      · by_cases h2 : tx.length ≤ 2000
        · have i2 : ¬ (2000 : Int) < (tx.length : Int) := by omega
          have HE := Lib.hid (show P.runS P.init l = P.runS (P.apply ⟨tx, jn, gl, cp, wd⟩ k t) (l.drop (j + 1)) by rw [HRUN.out, HD.out]; exact P.runS_next (by rw [HQ.out, decide_eq_true h2]; rfl))
          have HLN := Lib.hid (P.apply_len HG.out HQ.out)
          have HGN := Lib.hid (P.apply_good HG.out HQ.out)
          have hbd := (Below.refl w3.heap.size w3).drew
          have HS0 := Lib.hid (show StX w1.heap.size tx jn gl cp wd g j k t w3 from ⟨HSB3.out, HGL.out, HC3.out.1, HC3.out.2⟩)
          have HX0 := Lib.hid (HS0.out.below hbd); have HO4 := Lib.hid (own_kept HO3.out hbd (Nat.le_refl _)); have HB4 := Lib.hid (HB3.out.trans (hbd.mono HB3.out.size))
          clear hbd
          go_upto_region 8 with fail
          clear a0 a1 a2 a3 a4 f0 f1 f2 f3 f4 hlb
          refine Left.region [6] (S := StX w1.heap.size tx jn gl cp wd g j k t) (by kernel_rfl) HX0.out (fun hS0 => ?_)
          generalize w3.drew = v1 at *
          refine Left.take (i := 0) (v := .agg #[.string (S tx), .bool jn, .bool gl, .int .i64 cp, .int .i64 (wd : Int)]) rfl (by kernel_rfl) (by kernel_rfl) (by kernel_rfl) (by kernel_rfl) (fun _ _ _ h => h) (Or.inl ⟨by rfl, fun z hz => ?_⟩) hS0 ?_
          · obtain ⟨⟨⟨b0, b1, b2, b3, b4⟩, _, _⟩, _, d0, d1⟩ := hz
            go_simp
          try simp only [qA, qB, Act.put, qD, qE, qF]
          refine Left.take (i := 1) (v := .slice (some ⟨g, 0, none⟩) l.length cap) rfl (by kernel_rfl) (by kernel_rfl) (by kernel_rfl) (by kernel_rfl) (fun _ _ _ h => h) (Or.inl ⟨by rfl, fun z hz => ?_⟩) hS0 ?_
          · obtain ⟨⟨⟨b0, b1, b2, b3, b4⟩, _, _⟩, _, d0, d1⟩ := hz
            go_simp
          try simp only [qA, qB, qC, Act.put, qD, qE, qF]
          refine Left.take (i := 2) (v := .int .i64 j) rfl (by kernel_rfl) (by kernel_rfl) (by kernel_rfl) (by kernel_rfl) (fun _ _ _ h => h) (Or.inl ⟨by rfl, fun z hz => ?_⟩) hS0 ?_
          · obtain ⟨⟨⟨b0, b1, b2, b3, b4⟩, _, _⟩, _, d0, d1⟩ := hz
            go_simp
          try simp only [qA, qB, qC, Act.put, qD, qE, qF]
          refine Left.take (i := 3) (v := .pointer (some ⟨g, j * 2, none⟩)) rfl (by kernel_rfl) (by kernel_rfl) (by kernel_rfl) (by kernel_rfl) (fun _ _ _ h => h) (Or.inl ⟨by rfl, fun z hz => ?_⟩) hS0 ?_
          · obtain ⟨⟨⟨b0, b1, b2, b3, b4⟩, _, _⟩, _, d0, d1⟩ := hz
            go_simp
          try simp only [qA, qB, qC, Act.put, qD, qE, qF]
          refine Left.take (i := 4) (v := .agg #[.int .i64 k, .string (S t)]) rfl (by kernel_rfl) (by kernel_rfl) (by kernel_rfl) (by kernel_rfl) (fun _ _ _ h => h) (Or.inl ⟨by rfl, fun z hz => ?_⟩) hS0 ?_
          · obtain ⟨⟨⟨b0, b1, b2, b3, b4⟩, _, _⟩, _, d0, d1⟩ := hz
            go_simp
          try simp only [qA, qB, qC, Act.put, qD, qE, qF]
          refine Left.ready (rs := [5]) (by kernel_rfl) (by simp) ?_
          refine Nexts.cons rfl (fun K hK => ?_) Nexts.nil
          go_simp
          refine (l12ApplyG ⟨tx, jn, gl, cp, wd⟩ k t _ HG.out (by simp only; omega) HQ.out).mono ?_
          rintro e v2 ⟨rfl, hb1⟩
          have HX5 := Lib.hid (HX0.out.below hb1); have HO5 := Lib.hid (own_kept HO4.out hb1 (Nat.le_refl _)); have HB5 := Lib.hid (HB4.out.trans (hb1.mono HB4.out.size))
          refine on_held hK (by decide) (hS0.below hb1) (fun hS1 => ?_)
          clear hK K hb1 hS0
          generalize P.apply ⟨tx, jn, gl, cp, wd⟩ k t = r at *
          obtain ⟨rt, rj, rg, rc, rw⟩ := r
          unfold stV
          try simp only []
          refine Left.ready (rs := [6]) (by kernel_rfl) (by simp) ?_
          refine Nexts.cons rfl (fun K hK => ?_) Nexts.nil
          obtain ⟨⟨⟨b0, b1, b2, b3, b4⟩, ⟨g0, g1, g2, g3, g4⟩, hlb⟩, _, _, _⟩ := HX5.out
          go_simp
          refine on_last hK (by decide) ?_
          clear hK K hS1
          try simp only [qA, qB, qC, Act.put, qD, qE, qF]
          refine Left.done (by kernel_rfl) ?_ _
          have H6 := Lib.hid (StBox.all (s := ⟨tx, jn, gl, cp, wd⟩) HX5.out.1 rt rj rg rc rw)
          have hwb := HWB.out
          have H7 := Lib.hid (ownsRow_setCell_below (ownsRow_setCell_below (ownsRow_setCell_below (ownsRow_setCell_below (ownsRow_setCell_below HO5.out (a := ⟨w1.heap.size, 0, none⟩) hwb (.string (S rt))) (a := ⟨w1.heap.size, 1, none⟩) hwb (.bool rj)) (a := ⟨w1.heap.size, 2, none⟩) hwb (.bool rg)) (a := ⟨w1.heap.size, 3, none⟩) hwb (.int .i64 rc)) (a := ⟨w1.heap.size, 4, none⟩) hwb (.int .i64 (rw : Int)))
          have H8 := Lib.hid (((((HB5.out.setCell (p := ⟨w1.heap.size, 0, none⟩) HW1.out (.string (S rt))).setCell (p := ⟨w1.heap.size, 1, none⟩) HW1.out (.bool rj)).setCell (p := ⟨w1.heap.size, 2, none⟩) HW1.out (.bool rg)).setCell (p := ⟨w1.heap.size, 3, none⟩) HW1.out (.int .i64 rc)).setCell (p := ⟨w1.heap.size, 4, none⟩) HW1.out (.int .i64 (rw : Int)))
          generalize (World.setCell _ _ _) = v4 at *
          clear b0 b1 b2 b3 b4 g0 g1 g2 g3 g4 hlb
          go_wp2
          go_roundw
          case rel =>
            have h9 : rt.length ≤ tx.length + 50 := HLN.out
            have h10 : (⟨rt, rj, rg, rc, rw⟩ : P.St).text.length ≤ 2050 := by show rt.length ≤ 2050; omega
            first
            | exact ⟨j + 1, ⟨rt, rj, rg, rc, rw⟩, by omega, by go_num, HGN.out, h10, HE.out, H6.out, H7.out, H8.out⟩
            | exact ⟨j + 1, by omega, by go_num, ⟨rt, rj, rg, rc, rw⟩, HGN.out, h10, HE.out, H6.out, H7.out, H8.out⟩
            | exact ⟨u4, u5, .int .i64 ((j : Int) + 1), ⟨j + 1, by omega, by go_num, ⟨rt, rj, rg, rc, rw⟩, HGN.out, h10, HE.out, H6.out, H7.out, H8.out⟩, rfl, rfl, rfl⟩
            | exact ⟨j + 1, ⟨rt, rj, rg, rc, rw⟩, by omega, HGN.out, h10, HE.out, H6.out, H7.out, H8.out, by go_num⟩
          case measure => simp [intOf]; omega
        · have i2 : (2000 : Int) < (tx.length : Int) := by omega
          have HE := Lib.hid (show P.renderS l = ([], false) by unfold P.renderS; rw [HRUN.out, HD.out, P.runS_none (by rw [HQ.out, decide_eq_false h2]; rfl)])
          go_wp2
          go_ret2
          exact ⟨by rw [HLE.out, HE.out]; rfl, HB3.out⟩
    · have HR := Lib.hid (show P.renderS l = (tx, P.stOk ⟨tx, jn, gl, cp, wd⟩) by
        unfold P.renderS
        rw [HRUN.out, List.drop_of_length_le (by omega)]
        show (tx, P.stOk ⟨tx, jn, gl, cp, wd⟩ && decide (l.length ≤ 600)) = _
        rw [decide_eq_true hl600, Bool.and_true])
      have i1 : ¬ (j : Int) < (l.length : Int) := by omega
      have i6 : (l.length : Int) ≤ 600 := by omega
      have hbd := (Below.refl wr.heap.size wr).drew
      have HY := Lib.hid (show StY w1.heap.size tx jn gl cp wd wr from HSB.out)
      have HY0 := Lib.hid (HY.out.below hbd); have HB4 := Lib.hid (HB.out.trans (hbd.mono HB.out.size))
      clear how hbd
      go_upto_region 9 with fail
      clear a0 a1 a2 a3 a4 f0 f1 f2 f3 f4 hlb
      refine wp_region_held_drew (S := StY w1.heap.size tx jn gl cp wd) (by kernel_rfl) HY0.out (fun hS0 => ?_)
      generalize wr.drew = v1 at *
      refine wpAnyH_take (i := 0) (v := .pointer (some ⟨w1.heap.size, 0, none⟩)) rfl (by kernel_rfl) (by kernel_rfl) (by kernel_rfl) (fun _ _ _ h => h) (Or.inl ⟨by rfl, fun z hz => ?_⟩) hS0 ?_
      · obtain ⟨⟨b0, b1, b2, b3, b4⟩, _, _⟩ := hz
        go_simp
      try simp only [qA, qB, Act.put, qD, qE, qF]
      refine wpAnyH_take (i := 1) (v := .string (S tx)) rfl (by kernel_rfl) (by kernel_rfl) (by kernel_rfl) (fun _ _ _ h => h) (Or.inl ⟨by rfl, fun z hz => ?_⟩) hS0 ?_
      · obtain ⟨⟨b0, b1, b2, b3, b4⟩, _, _⟩ := hz
        go_simp
      try simp only [qA, qB, qC, Act.put, qD, qE, qF]
      refine wpAnyH_take (i := 2) (v := .agg #[.string (S tx), .bool jn, .bool gl, .int .i64 cp, .int .i64 (wd : Int)]) rfl (by kernel_rfl) (by kernel_rfl) (by kernel_rfl) (fun _ _ _ h => h) (Or.inl ⟨by rfl, fun z hz => ?_⟩) hS0 ?_
      · obtain ⟨⟨b0, b1, b2, b3, b4⟩, _, _⟩ := hz
        go_simp
      try simp only [qA, qB, qC, Act.put, qD, qE, qF]
      refine wpAnyH_ready (rs := [3]) (by kernel_rfl) (by simp) ?_
      refine AllReadyH.cons rfl (fun K hK => ?_) AllReadyH.nil
      go_simp
      refine (l12Good ⟨tx, jn, gl, cp, wd⟩ _ (by simp only; omega)).mono ?_
      rintro e v2 ⟨rfl, hb1⟩
      have HB5 := Lib.hid (HB4.out.trans (hb1.mono HB4.out.size))
      refine hK.out _ _ (hS0.below hb1) (fun hS1 => ?_)
      clear hK K hb1 hS0
      try simp only [qA, qB, qC, Act.put, qD, qE, qF]
      generalize P.stOk ⟨tx, jn, gl, cp, wd⟩ = q at *
      refine wpAnyH_take (i := 4) (v := .bool q) rfl (by kernel_rfl) (by kernel_rfl) (by kernel_rfl) (fun _ _ _ h => h) (Or.inl ⟨by rfl, fun z hz => ?_⟩) hS1 ?_
      · obtain ⟨⟨b0, b1, b2, b3, b4⟩, _, _⟩ := hz
        go_simp
      try simp only [qA, qB, qC, Act.put, qD, qE, qF]
      cases q
      · skip
        refine wpAnyH_take (i := 5) rfl (by kernel_rfl) (by kernel_rfl) (by kernel_rfl) (fun _ _ _ h => h) (Or.inr ⟨by rfl, rfl⟩) hS1 ?_
        try simp only [qA, qB, qC, Act.put, qD, qE, qF]
        refine wpAnyH_take (i := 6) rfl (by kernel_rfl) (by kernel_rfl) (by kernel_rfl) (fun _ _ _ h => h) (Or.inr ⟨by rfl, rfl⟩) hS1 ?_
        try simp only [qA, qB, qC, Act.put, qD, qE, qF]
        refine wpAnyH_take (i := 7) rfl (by kernel_rfl) (by kernel_rfl) (by kernel_rfl) (fun _ _ _ h => h) (Or.inr ⟨by rfl, rfl⟩) hS1 ?_
        try simp only [qA, qB, qC, Act.put, qD, qE, qF]
        refine wpAnyH_take (i := 8) (v := .bool false) rfl (by kernel_rfl) (by kernel_rfl) (by kernel_rfl) (fun _ _ _ h => h) (Or.inl ⟨by rfl, fun z hz => ?_⟩) hS1 ?_
        · obtain ⟨⟨b0, b1, b2, b3, b4⟩, _, _⟩ := hz
          go_simp
        try simp only [qA, qB, qC, Act.put, qD, qE, qF]
        refine wpAnyH_take (i := 9) (v := .string (S tx)) rfl (by kernel_rfl) (by kernel_rfl) (by kernel_rfl) (fun _ _ _ h => h) (Or.inl ⟨by rfl, fun z hz => ?_⟩) hS1 ?_
        · obtain ⟨⟨b0, b1, b2, b3, b4⟩, _, _⟩ := hz
          go_simp
        try simp only [qA, qB, qC, Act.put, qD, qE, qF]
        refine wpAnyH_take (i := 10) (v := .bool false) rfl (by kernel_rfl) (by kernel_rfl) (by kernel_rfl) (fun _ _ _ h => h) (Or.inl ⟨by rfl, fun z hz => ?_⟩) hS1 ?_
        · obtain ⟨⟨b0, b1, b2, b3, b4⟩, _, _⟩ := hz
          go_simp
        try simp only [qA, qB, qC, Act.put, qD, qE, qF]
        refine wpAnyH_done (by kernel_rfl) ?_ _
        clear hS1
        go_wp2
        go_ret2
        exact ⟨by rw [HLE.out, HR.out]; rfl, HB5.out⟩
      · skip
        refine wpAnyH_take (i := 5) (v := .slice ad l.length cap) rfl (by kernel_rfl) (by kernel_rfl) (by kernel_rfl) (fun _ _ _ h => h) (Or.inl ⟨by rfl, fun z hz => ?_⟩) hS1 ?_
        · obtain ⟨⟨b0, b1, b2, b3, b4⟩, _, _⟩ := hz
          go_simp
        try simp only [qA, qB, qC, Act.put, qD, qE, qF]
        refine wpAnyH_take (i := 6) (v := .int .i64 l.length) rfl (by kernel_rfl) (by kernel_rfl) (by kernel_rfl) (fun _ _ _ h => h) (Or.inl ⟨by rfl, fun z hz => ?_⟩) hS1 ?_
        · obtain ⟨⟨b0, b1, b2, b3, b4⟩, _, _⟩ := hz
          go_simp
        try simp only [qA, qB, qC, Act.put, qD, qE, qF]
        refine wpAnyH_take (i := 7) (v := .bool true) rfl (by kernel_rfl) (by kernel_rfl) (by kernel_rfl) (fun _ _ _ h => h) (Or.inl ⟨by rfl, fun z hz => ?_⟩) hS1 ?_
        · obtain ⟨⟨b0, b1, b2, b3, b4⟩, _, _⟩ := hz
          go_simp
        try simp only [qA, qB, qC, Act.put, qD, qE, qF]
        refine wpAnyH_take (i := 8) (v := .bool true) rfl (by kernel_rfl) (by kernel_rfl) (by kernel_rfl) (fun _ _ _ h => h) (Or.inl ⟨by rfl, fun z hz => ?_⟩) hS1 ?_
        · obtain ⟨⟨b0, b1, b2, b3, b4⟩, _, _⟩ := hz
          go_simp
        try simp only [qA, qB, qC, Act.put, qD, qE, qF]
        refine wpAnyH_take (i := 9) (v := .string (S tx)) rfl (by kernel_rfl) (by kernel_rfl) (by kernel_rfl) (fun _ _ _ h => h) (Or.inl ⟨by rfl, fun z hz => ?_⟩) hS1 ?_
        · obtain ⟨⟨b0, b1, b2, b3, b4⟩, _, _⟩ := hz
          go_simp
        try simp only [qA, qB, qC, Act.put, qD, qE, qF]
        refine wpAnyH_take (i := 10) (v := .bool true) rfl (by kernel_rfl) (by kernel_rfl) (by kernel_rfl) (fun _ _ _ h => h) (Or.inl ⟨by rfl, fun z hz => ?_⟩) hS1 ?_
        · obtain ⟨⟨b0, b1, b2, b3, b4⟩, _, _⟩ := hz
          go_simp
        try simp only [qA, qB, qC, Act.put, qD, qE, qF]
        refine wpAnyH_done (by kernel_rfl) ?_ _
        clear hS1
        go_wp2
        go_ret2
        exact ⟨by rw [HLE.out, HR.out]; rfl, HB5.out⟩
end Go.Proofs.YtmlklnimoknojaaGreatDoor
