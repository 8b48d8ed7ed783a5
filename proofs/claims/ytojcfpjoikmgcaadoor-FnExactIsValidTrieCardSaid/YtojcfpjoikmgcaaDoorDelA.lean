/- Walks: an outline looked for in a dictionary (reference, program). Walks: an entry taken out of a dictionary (reference). Walks: an entry taken out of a dictionary (reference). Walks: an entry taken out of a dictionary (program). -/
import Derived.Deep.DeepCutAuto
import Derived.Deep.RegionLaw
import Derived.Test.YtojcfpjoikmgcaaDoorMemE
import Derived.Test.YtojcfpjoikmgcaaDoorSortD
import Derived.Test.YtojcfpjoikmgcaaDoorSmallD
import Derived.Test.YtojcfpjoikmgcaaDoorOutD
import Derived.Test.YtojcfpjoikmgcaaDoorLawD
import Derived.Test.YtojcfpjoikmgcaaDoorValD
namespace Go.Proofs.YtojcfpjoikmgcaaDoor
section
namespace P
/-- where an outline stands, or -1 -/
def place (o : List Int) : Dic → Int
  | [] => -1
  | e :: l => if e.1 = o then 0 else if place o l < 0 then -1 else place o l + 1
end P
open Go Go.RowKit
set_option maxHeartbeats 1000000
set_option maxRecDepth 100000
theorem take_eq_step {a b : List Int} {j : Nat} (ha : j < a.length) (hb : j < b.length) (h : a.take j = b.take j) (he : a[j] = b[j]) : a.take (j + 1) = b.take (j + 1) := by
  rw [take_snoc a j ha, take_snoc b j hb, h, he]
theorem l1Same (u v : Value) (a b : List Int) (w : World) (hu : IntR w u a) (hv : IntR w v b) :
    Calls Tryd.prog 24 #[u, v] w fun e w' => e = .returned (.bool (decide (a = b))) ∧ Below w.heap.size w w' := by
  have HU := Lib.hid hu; have HV := Lib.hid hv
  obtain ⟨ad, cap, rfl, hla, _⟩ := hu
  obtain ⟨bd, dap, rfl, hlb, _⟩ := hv
  by_cases hlen : a.length = b.length
  · have hl1 : ((a.length : Int) != (b.length : Int)) = false := by simp; omega
    have hl2 : ((a.length : Int) == (b.length : Int)) = true := by simp; omega
    have HLE := Lib.hid hlen; clear hlen
    go_enter Tryd.func24, Tryd.ntmps24
    go_wp2
    go_loopw [5] (fun i wr => ∃ j : Nat, j ≤ a.length ∧ i = .int .i64 j ∧ a.take j = b.take j ∧ Below w.heap.size w wr) (fun i _ => a.length - (intOf i).toNat)
    case atStart => exact ⟨0, Nat.zero_le _, rfl, by simp, Below.refl _ _⟩
    case round =>
      obtain ⟨j, hj, rfl, ht, hb⟩ := hrel
      have HB := Lib.hid hb; have HT := Lib.hid ht
      clear ht
      by_cases hlt : j < a.length
      · have hlb2 : j < b.length := by have := HLE.out; omega
        obtain ⟨g, o, hga, hgl, c0⟩ := (HU.out.below hb).at j hlt
        obtain ⟨g', o', hgb, hgl', d0⟩ := (HV.out.below hb).at j hlb2
        have HST := Lib.hid (fun h => take_eq_step hlt hlb2 HT.out h)
        have HNE := Lib.hid (show a[j] ≠ b[j] → decide (a = b) = false from fun h => decide_eq_false fun e => h (by subst e; rfl))
        subst hga hgb
        generalize a[j] = x at *
        generalize b[j] = y at *
        clear hb
        have i1 : (j : Int) < (a.length : Int) := by omega
        by_cases hxy : x = y
        · subst hxy
          have HS2 := Lib.hid (HST.out rfl); clear HST HNE
          go_wp2_with fail
          go_quiet (fail)
          go_wp2
          go_roundw
          case rel => exact ⟨j + 1, by omega, by go_num, HS2.out, below_drewN HB.out _⟩
          case measure => simp [intOf]; omega
        · have HF := Lib.hid (HNE.out hxy)
          have e1 : (x == y) = false := beq_eq_false_iff_ne.2 hxy
          have e2 : (x != y) = true := by simp [bne, e1]
          clear hxy HST HNE
          go_wp2_with fail
          go_quiet (fail)
          go_wp2
          go_ret
          exact ⟨ret_bool HF.out.symm, below_drewN HB.out _⟩
      · have HF := Lib.hid (show decide (a = b) = true from decide_eq_true (by
          have h := HT.out
          have h2 := HLE.out
          rwa [List.take_of_length_le (by omega), List.take_of_length_le (by omega)] at h))
        clear hb
        go_wp2
        go_ret
        exact ⟨ret_bool HF.out.symm, HB.out⟩
  · have hl1 : ((a.length : Int) != (b.length : Int)) = true := by simp; omega
    have hl2 : ((a.length : Int) == (b.length : Int)) = false := by simp; omega
    have HF := Lib.hid (show decide (a = b) = false from decide_eq_false fun e => hlen (by rw [e]))
    clear hlen
    go_enter Tryd.func24, Tryd.ntmps24
    go_wp2
    go_ret
    exact ⟨ret_bool HF.out.symm, Below.refl _ _⟩
theorem getD_of {l : List Int} {j : Nat} (h : j < l.length) : l.getD j 0 = l[j] := by
  rw [List.getD_eq_getElem?_getD, List.getElem?_eq_getElem h]; rfl
theorem equalInts (u v : Value) (a b : List Int) (w : World) (hu : IntR w u a) (hv : IntR w v b) :
    Calls Tryd.prog 32 #[u, v] w fun e w' => e = .returned (.bool (decide (a = b))) ∧ Below w.heap.size w w' := by
  obtain ⟨ad, cap, rfl, hla, _, hra⟩ := hu
  obtain ⟨bd, dap, rfl, hlb, _, hrb⟩ := hv
  by_cases hlen : a.length = b.length
  · rcases hra with rfl | ⟨g, o, rfl, _, hca⟩
    · have hb : b = [] := List.eq_nil_of_length_eq_zero (by simpa using hlen.symm)
      subst hb
      refine (Tryd.slices_Equal_int_empty _ _ _ _ _ w (by simp)).mono ?_
      rintro e w' ⟨rfl, rfl⟩
      exact ⟨rfl, Below.refl _ _⟩
    · rcases hrb with rfl | ⟨g', o', rfl, _, hcb⟩
      · have ha : a = [] := List.eq_nil_of_length_eq_zero (by simpa using hlen)
        subst ha
        refine (Tryd.slices_Equal_int_empty _ _ _ _ _ w (by simp)).mono ?_
        rintro e w' ⟨rfl, rfl⟩
        exact ⟨rfl, Below.refl _ _⟩
      · refine (Tryd.slices_Equal_int g o a.length cap g' o' b.length dap a b w (Nat.le_refl _) (Nat.le_refl _) (by omega) (by omega) (fun j hj => by rw [getD_of hj]; exact hca j hj) (fun j hj => by rw [getD_of hj]; exact hcb j hj)).mono ?_
        rintro e w' ⟨rfl, q, rfl⟩
        refine ⟨ret_bool ?_, below_drewN (Below.refl _ _) q⟩
        rw [List.take_length, List.take_length]
        by_cases h : a = b
        · subst h; simp
        · rw [decide_eq_false h, beq_eq_false_iff_ne.2 h]
  · refine (Tryd.slices_Equal_int_lens _ _ _ _ _ _ w hlen).mono ?_
    rintro e w' ⟨rfl, rfl⟩
    exact ⟨ret_bool (decide_eq_false fun e => hlen (by rw [e])).symm, Below.refl _ _⟩
end
section
namespace P
end P
open Go Go.RowKit
set_option maxHeartbeats 2000000
set_option maxRecDepth 100000
section
variable {α : Type} {E : ElT α} {wd : Nat}
end
end
section
open Go Go.RowKit
set_option maxHeartbeats 2000000
set_option maxRecDepth 100000
/-- the boxes of Delete -/
def DBox (W : Nat) (dv : Value) (v : World) : Prop :=
  v.cell? ⟨W, 0, none⟩ = some dv ∧ v.cell? ⟨W + 1, 0, none⟩ = some (.slice none 0 0) ∧ v.frozen? ⟨W + 1, 0, none⟩ = false ∧ W + 1 < v.heap.size
theorem DBox.stand {W : Nat} {dv : Value} {v v' : World} {X : Blk} (h : DBox W dv v) (hc : Chg X v v') (h0 : ¬ X W) (h1 : ¬ X (W + 1)) : DBox W dv v' := by
  obtain ⟨a, b, c, d⟩ := h
  exact ⟨(hc.cell (p := ⟨W, 0, none⟩) (by show W < _; omega) h0).trans a, (hc.cell (p := ⟨W + 1, 0, none⟩) d h1).trans b, (hc.frozen (p := ⟨W + 1, 0, none⟩) d h1).trans c, Nat.lt_of_lt_of_le d hc.size⟩
theorem DBox.below {W : Nat} {dv : Value} {v v' : World} (h : DBox W dv v) (hb : Below v.heap.size v v') : DBox W dv v' := h.stand (Below.chg hb fun _ => False) (fun h => h) (fun h => h)
theorem DBox.new (dv : Value) (v : World) (t : TypeId) : DBox v.heap.size dv ((v.alloc (.cells #[dv] t)).alloc (.cells #[.slice none 0 0] 36)) := by
  refine ⟨?_, ?_, ?_, ?_⟩ <;> go_simp
end
section
open Go Go.RowKit
set_option maxHeartbeats 2000000
set_option maxRecDepth 100000
end
end Go.Proofs.YtojcfpjoikmgcaaDoor
