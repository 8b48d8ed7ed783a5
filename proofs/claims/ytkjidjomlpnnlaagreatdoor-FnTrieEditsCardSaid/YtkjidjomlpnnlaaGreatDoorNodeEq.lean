/- Walks: two nodes, two tries held against each other (program, reference). -/
import Derived.Deep.DeepCutAuto
import Derived.BigRegion
import Derived.RegionTactic
import Derived.Test.YtkjidjomlpnnlaaGreatDoorTrieB
import Derived.Test.YtkjidjomlpnnlaaGreatDoorDelA
namespace Go.Proofs.YtkjidjomlpnnlaaGreatDoor
open Go Go.RowKit
set_option maxHeartbeats 4000000
set_option maxRecDepth 100000
theorem P.nd_eq (xs ys : List Int) (t : Bool) (s : Str) (xs' ys' : List Int) (t' : Bool) (s' : Str) : decide (((xs, ys, t, s) : P.Nd) = (xs', ys', t', s')) = (decide (xs = xs') && (decide (ys = ys') && ((t == t') && (s == s')))) := by
  rw [Bool.eq_iff_iff]
  simp
theorem sameNode (x y x' y' : Value) (a b : P.Nd) (w : World) (hx : IntR w x a.1) (hy : IntR w y a.2.1) (hx' : IntR w x' b.1) (hy' : IntR w y' b.2.1) :
    Calls Tryz.prog 177 #[.agg #[x, y, .bool a.2.2.1, .string (S a.2.2.2)], .agg #[x', y', .bool b.2.2.1, .string (S b.2.2.2)]] w fun e w' => e = .returned (.bool (decide (a = b))) ∧ Below w.heap.size w w' := by
  obtain ⟨xs, ys, t, s⟩ := a
  obtain ⟨xs', ys', t', s'⟩ := b
  simp only at hx hy hx' hy'
  have hb0 : Below w.heap.size w ((w.alloc (.cells #[x, y, .bool t, .string (S s)] 162)).alloc (.cells #[x', y', .bool t', .string (S s')] 162)) :=
    ((Below.refl w.heap.size w).alloc (Nat.le_refl _) _).alloc (by simp) _
  have HX := Lib.hid (hx.below hb0); have HX' := Lib.hid (hx'.below hb0)
  have HY := Lib.hid hy; have HY' := Lib.hid hy'
  have HB0 := Lib.hid hb0; clear hb0
  obtain ⟨ad, cap, rfl, _, _⟩ := hx
  obtain ⟨bd, dap, rfl, _, _⟩ := hx'
  obtain ⟨cd, eap, rfl, _, _⟩ := hy
  obtain ⟨dd, fap, rfl, _, _⟩ := hy'
  rw [P.nd_eq]
  cases h1 : decide (xs = xs')
  · have H1 := Lib.hid h1; clear h1
    go_enter Tryz.func177, Tryz.ntmps177
    go_wp2_with fail
    refine (equalInts _ _ xs xs' _ HX.out HX'.out).mono ?_
    rintro e w1 ⟨rfl, hb⟩
    rw [H1.out]
    have HB1 := Lib.hid (HB0.out.trans (hb.mono (by simp; omega)))
    clear hb
    go_wp2
    go_ret
    exact ⟨rfl, HB1.out⟩
  · have H1 := Lib.hid h1; clear h1
    go_enter Tryz.func177, Tryz.ntmps177
    go_wp2_with fail
    refine (equalInts _ _ xs xs' _ HX.out HX'.out).mono ?_
    rintro e w1 ⟨rfl, hb⟩
    rw [H1.out]
    have hz : w.heap.size + 1 < w1.heap.size := by have := hb.size; simp at this; omega
    obtain ⟨hcc, hff⟩ := bcell hb
    have r1 : w1.cell? ⟨w.heap.size, 1, none⟩ = some (.slice cd ys.length eap) := by rw [hcc _ _ (by simp <;> omega)]; go_simp
    have r2 : w1.cell? ⟨w.heap.size, 2, none⟩ = some (.bool t) := by rw [hcc _ _ (by simp <;> omega)]; go_simp
    have r3 : w1.cell? ⟨w.heap.size, 3, none⟩ = some (.string (S s)) := by rw [hcc _ _ (by simp <;> omega)]; go_simp
    have q1 : w1.cell? ⟨w.heap.size + 1, 1, none⟩ = some ((.slice dd ys'.length fap)) := by rw [hcc _ _ (by simp <;> omega)]; go_simp
    have q2 : w1.cell? ⟨w.heap.size + 1, 2, none⟩ = some ((.bool t')) := by rw [hcc _ _ (by simp <;> omega)]; go_simp
    have q3 : w1.cell? ⟨w.heap.size + 1, 3, none⟩ = some ((.string (S s'))) := by rw [hcc _ _ (by simp <;> omega)]; go_simp
    have HB1 := Lib.hid (HB0.out.trans (hb.mono (by simp; omega)))
    have HY1 := Lib.hid (HY.out.below HB1.out); have HY1' := Lib.hid (HY'.out.below HB1.out)
    clear hb hcc hff HX HX' HB0 HY HY'
    cases h2 : decide (ys = ys')
    · have H2 := Lib.hid h2; clear h2
      go_wp2_with fail
      refine (equalInts _ _ ys ys' _ HY1.out HY1'.out).mono ?_
      rintro e w2 ⟨rfl, hb⟩
      rw [H2.out]
      have HB2 := Lib.hid (HB1.out.trans (hb.mono (by omega)))
      clear hb
      go_wp2
      go_ret
      exact ⟨ret_bool (by rw [H2.out]; rfl), HB2.out⟩
    · have H2 := Lib.hid h2; clear h2
      go_wp2_with fail
      refine (equalInts _ _ ys ys' _ HY1.out HY1'.out).mono ?_
      rintro e w2 ⟨rfl, hb⟩
      rw [H2.out]
      obtain ⟨hcc, hff⟩ := bcell hb
      have rr2 : w2.cell? ⟨w.heap.size, 2, none⟩ = some (.bool t) := by rw [hcc _ _ (by omega)]; assumption
      have rr3 : w2.cell? ⟨w.heap.size, 3, none⟩ = some (.string (S s)) := by rw [hcc _ _ (by omega)]; assumption
      have qq2 : w2.cell? ⟨w.heap.size + 1, 2, none⟩ = some ((.bool t')) := by rw [hcc _ _ (by omega)]; assumption
      have qq3 : w2.cell? ⟨w.heap.size + 1, 3, none⟩ = some ((.string (S s'))) := by rw [hcc _ _ (by omega)]; assumption
      have HB2 := Lib.hid (HB1.out.trans (hb.mono (by omega)))
      clear hb hcc hff HB1 HY1 HY1' r1 r2 r3 q1 q2 q3
      cases h3 : (t == t') <;> cases h4 : (s == s')
      all_goals
        go_wp2
        go_ret
        exact ⟨ret_bool (by rw [H2.out, h3, h4]; rfl), HB2.out⟩
/-- what the look at two nodes of two rows keeps -/
theorem equalNodes (u v : Value) (a b : P.Tri) (w : World) (hu : NodR w u a) (hv : NodR w v b) :
    Calls Tryz.prog 176 #[u, v, .func (Fn.func 177) #[] #[]] w fun e w' => e = .returned (.bool (decide (a = b))) ∧ Below w.heap.size w w' := by
  have HU := Lib.hid hu; have HV := Lib.hid hv
  obtain ⟨ad, cap, rfl, hla, _⟩ := hu
  obtain ⟨bd, dap, rfl, hlb, _⟩ := hv
  by_cases hlen : a.length = b.length
  · have hl1 : a.length ≤ b.length := by omega
    have hl2 : b.length ≤ a.length := by omega
    have i0 : ((a.length : Int) == (b.length : Int)) = true := by simp; omega
    have i1 : ((a.length : Int) != (b.length : Int)) = false := by simp; omega
    have HLEN := Lib.hid hlen; clear hlen
    go_enter Tryz.func176, Tryz.ntmps176
    go_wp2_with fail
    go_loopw [17] (fun i wr => ∃ j : Nat, j ≤ a.length ∧ i = .int .i64 j ∧ a.take j = b.take j ∧ Below w.heap.size w wr) (fun i _ => a.length - (intOf i).toNat)
    case atStart => exact ⟨0, Nat.zero_le _, rfl, rfl, Below.refl _ _⟩
    case round =>
      obtain ⟨j, hj, rfl, htk, hb⟩ := hrel
      have HB := Lib.hid hb; have HTK := Lib.hid htk; clear htk
      by_cases hlt : j < a.length
      · have hlt2 : j < b.length := by omega
        obtain ⟨c, p, hga, hgl, x, y, c0, c1, c2, c3, hx, hy⟩ := (HU.out.below hb).at j hlt
        obtain ⟨g, q, hgb, hgl', x', y', d0, d1, d2, d3, hx', hy'⟩ := (HV.out.below hb).at j hlt2
        have HT1 := Lib.hid (take_snoc a j hlt); have HT2 := Lib.hid (take_snoc b j hlt2)
        have HNE := Lib.hid (fun (h : a = b) => (show a[j] = b[j] by subst h; rfl))
        obtain ⟨na, hna⟩ : ∃ n, a[j] = n := ⟨_, rfl⟩
        obtain ⟨nb, hnb⟩ : ∃ n, b[j] = n := ⟨_, rfl⟩
        rw [hna] at c2 c3 hx hy HT1 HNE
        rw [hnb] at d2 d3 hx' hy' HT2 HNE
        clear hna hnb
        subst hga hgb
        have HX := Lib.hid hx; have HY := Lib.hid hy; have HX' := Lib.hid hx'; have HY' := Lib.hid hy'
        obtain ⟨xd, xc, rfl, _, _⟩ := hx
        obtain ⟨yd, yc, rfl, _, _⟩ := hy
        obtain ⟨xd', xc', rfl, _, _⟩ := hx'
        obtain ⟨yd', yc', rfl, _, _⟩ := hy'
        have i2 : (j : Int) < (a.length : Int) := by omega
        have i3 : (j : Int) < (b.length : Int) := by omega
        have hba : Below wr.heap.size wr ((wr.alloc (.cells #[.slice xd na.1.length xc, .slice yd na.2.1.length yc, .bool na.2.2.1, .string (S na.2.2.2)] 162)).alloc (.cells #[.slice xd' nb.1.length xc', .slice yd' nb.2.1.length yc', .bool nb.2.2.1, .string (S nb.2.2.2)] 162)) := ((Below.refl wr.heap.size wr).alloc (Nat.le_refl _) _).alloc (by simp) _
        have HBA := Lib.hid hba
        clear hb hba
        cases hq : decide (na = nb)
        · have HQ := Lib.hid hq; clear hq
          go_wp2_with fail
          refine (sameNode _ _ _ _ na nb _ (HX.out.below HBA.out) (HY.out.below HBA.out) (HX'.out.below HBA.out) (HY'.out.below HBA.out)).mono ?_
          rintro e w1 ⟨rfl, hb⟩
          rw [HQ.out]
          have HB2 := Lib.hid (HB.out.trans ((HBA.out.trans (hb.mono HBA.out.size)).mono HB.out.size))
          clear hb
          go_wp2
          go_ret
          exact ⟨ret_bool (by rw [eq_comm, decide_eq_false_iff_not]; exact fun h => of_decide_eq_false HQ.out (HNE.out h)), HB2.out⟩
        · have HQ := Lib.hid hq; clear hq
          go_wp2_with fail
          refine (sameNode _ _ _ _ na nb _ (HX.out.below HBA.out) (HY.out.below HBA.out) (HX'.out.below HBA.out) (HY'.out.below HBA.out)).mono ?_
          rintro e w1 ⟨rfl, hb⟩
          rw [HQ.out]
          have HB2 := Lib.hid (HB.out.trans ((HBA.out.trans (hb.mono HBA.out.size)).mono HB.out.size))
          clear hb
          go_wp2
          go_roundw
          case rel => exact ⟨j + 1, by omega, by go_num, by rw [HT1.out, HT2.out, HTK.out, of_decide_eq_true HQ.out], HB2.out⟩
          case measure => simp [intOf]; omega
      · have HE := Lib.hid (show a = b by have h := HTK.out; rwa [List.take_of_length_le (by omega), List.take_of_length_le (by omega)] at h)
        have i2 : ¬ (j : Int) < (a.length : Int) := by omega
        clear hb
        go_wp2
        go_ret
        exact ⟨ret_bool (decide_eq_true HE.out).symm, HB.out⟩
  · have i0 : ((a.length : Int) == (b.length : Int)) = false := by simp; omega
    have i1 : ((a.length : Int) != (b.length : Int)) = true := by simp; omega
    have HLEN := Lib.hid hlen; clear hlen
    go_enter Tryz.func176, Tryz.ntmps176
    go_wp2_with fail
    go_ret
    exact ⟨ret_bool (by rw [eq_comm, decide_eq_false_iff_not]; intro h; exact HLEN.out (congrArg List.length h)), Below.refl _ _⟩
end Go.Proofs.YtkjidjomlpnnlaaGreatDoor
