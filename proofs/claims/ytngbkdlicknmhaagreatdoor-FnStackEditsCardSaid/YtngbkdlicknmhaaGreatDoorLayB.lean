/- Walks: a stack of layers is in order (reference, program). Walks: a copy of a stack (reference). Walks: a stack made of layers in order (program). Walks: a layer switched on or off (reference, program). Walks: SetEnabled (reference, program). -/
import Derived.Deep.DeepCutAuto
import Derived.Deep.RegionLaw
import Derived.Deep.AppendLies
import Derived.IntWalk
import Derived.Test.YtngbkdlicknmhaaGreatDoorCurE6
import Derived.Test.YtngbkdlicknmhaaGreatDoorLawD
import Derived.Test.YtngbkdlicknmhaaGreatDoorMemF
namespace Go.Proofs.YtngbkdlicknmhaaGreatDoor
section
/-- all the layers' dictionaries are in order -/
def P.layers (l : P.Lays) : Bool := l.all fun e => P.dic e.1
/-- a stack is in order -/
def P.stack (l : P.Lays) : Bool := decide ((l.length : Int) ≤ 4) && P.layers l
theorem P.layers_no {l : P.Lays} (j : Nat) (hj : j < l.length) (h : P.dic l[j].1 = false) : P.layers l = false := by
  unfold P.layers
  rw [← List.take_append_drop (j + 1) l, take_snoc l j hj, List.all_append, List.all_append]
  simp [h]
theorem P.layers_snoc {l : P.Lays} (j : Nat) (hj : j < l.length) (h0 : P.layers (l.take j) = true) (h : P.dic l[j].1 = true) : P.layers (l.take (j + 1)) = true := by
  unfold P.layers at h0 ⊢
  rw [take_snoc l j hj, List.all_append, h0]
  simp [h]
open Go Go.RowKit
set_option maxHeartbeats 1000000
set_option maxRecDepth 100000
theorem spec_isValidStack (u : Value) (l : P.Lays) (w : World) (hu : LayR w u l) (hle : ∀ e ∈ l, Small e.1) :
    Calls Tryz.prog 132 #[.agg #[u]] w fun e w' => e = .returned (.bool (P.stack l)) ∧ Below w.heap.size w w' := by
  have HU := Lib.hid hu
  have HLE := Lib.hid hle; clear hle
  have hb0 := (Below.refl w.heap.size w).alloc (Nat.le_refl _) (.cells #[u] 70)
  have HB0 := Lib.hid hb0; clear hb0
  have HC0 := Lib.hid (show (w.alloc (.cells #[u] 70)).cell? ⟨w.heap.size, 0, none⟩ = some u by go_simp)
  obtain ⟨ad, cap, rfl, hl, _⟩ := hu
  by_cases hlen : (l.length : Int) ≤ 4
  · have hn : ¬ (4 : Int) < (l.length : Int) := by omega
    have HP := Lib.hid (show P.stack l = P.layers l by unfold P.stack; rw [decide_eq_true hlen]; rfl)
    clear hlen
    go_enter Tryz.func132, Tryz.ntmps132
    go_wp2
    go_loopw [3] (fun i wr => ∃ j : Nat, j ≤ l.length ∧ i = .int .i64 j ∧ P.layers (l.take j) = true ∧ wr.cell? ⟨w.heap.size, 0, none⟩ = some (.slice ad l.length cap) ∧ w.heap.size < wr.heap.size ∧ Below w.heap.size w wr) (fun i _ => l.length - (intOf i).toNat)
    case atStart => exact ⟨0, Nat.zero_le _, rfl, rfl, HC0.out, by simp, HB0.out⟩
    case round =>
      obtain ⟨j, hj, rfl, ha, b0, hz, hb⟩ := hrel
      have HA := Lib.hid ha; have HB := Lib.hid hb
      clear ha HC0 HB0 hn
      by_cases hlt : j < l.length
      · obtain ⟨g, p, hga, hgl, x, c0, _, hx⟩ := (HU.out.below hb).at j hlt
        have HX := Lib.hid hx
        have HL := Lib.hid (HLE.out _ (List.getElem_mem hlt))
        have HNO := Lib.hid (fun h => P.layers_no j hlt h)
        have HYE := Lib.hid (fun h => P.layers_snoc j hlt HA.out h)
        obtain ⟨xd, xc, rfl, _, _⟩ := hx
        subst hga
        generalize l[j].1 = d at *
        clear hb
        have i1 : (j : Int) < (l.length : Int) := by omega
        go_wp2_with fail
        refine (l6Good _ d _ HX.out HL.out.texts).mono ?_
        rintro e w1 ⟨rfl, hb⟩
        have b1 := (hb.cell (p := ⟨w.heap.size, 0, none⟩) hz).trans b0
        have hz1 := Nat.lt_of_lt_of_le hz hb.size
        have HB1 := Lib.hid (HB.out.trans (hb.mono (Nat.le_of_lt hz)))
        clear hb b0
        cases hok : P.dic d
        · have HN2 := Lib.hid (HNO.out hok)
          clear hok
          go_wp2
          go_ret
          exact ⟨ret_bool (by rw [HP.out, HN2.out]), HB1.out⟩
        · have HY2 := Lib.hid (HYE.out hok)
          clear hok
          go_wp2
          go_roundw
          case rel => exact ⟨j + 1, by omega, by go_num, HY2.out, b1, hz1, HB1.out⟩
          case measure => simp [intOf]; omega
      · have HT := Lib.hid (show P.layers l = true by have := HA.out; rwa [List.take_of_length_le (by omega)] at this)
        clear hb
        go_wp2
        go_ret
        exact ⟨ret_bool (by rw [HP.out, HT.out]), HB.out⟩
  · have hn : (4 : Int) < (l.length : Int) := by omega
    have HP := Lib.hid (show P.stack l = false by unfold P.stack; rw [decide_eq_false hlen]; rfl)
    clear hlen
    go_enter Tryz.func132, Tryz.ntmps132
    go_wp2
    go_ret
    exact ⟨ret_bool HP.out.symm, HB0.out⟩
/-- the checks as function values -/
abbrev layF : Value := .func (Fn.func 203) #[] #[]
abbrev notL (C : Nat) : Value := .func (Fn.func 241) #[] #[.pointer (some ⟨C, 0, none⟩)]
theorem layer_ok (x : Value) (d : P.Dic) (t : Bool) (w : World) (hx : EntR w x d) (hs : Small d) (hE : Env w) :
    Calls Tryz.prog 203 #[.agg #[x, .bool t]] w fun e w' => e = .returned (.bool (P.dic d)) ∧ Below w.heap.size w w' := by
  have hb0 := (Below.refl w.heap.size w).alloc (Nat.le_refl _) (.cells #[x, .bool t] 85)
  have HX := Lib.hid (hx.below hb0); have HB0 := Lib.hid hb0; have HE := Lib.hid (hE.below hb0 hE.size)
  have HS := Lib.hid hs
  clear hb0 hE
  obtain ⟨xd, xc, rfl, _, _⟩ := hx
  go_enter Tryz.func203, Tryz.ntmps203
  go_wp2_with fail
  refine (isValidDictionary _ d _ HX.out HS.out.texts HE.out).mono ?_
  rintro e w1 ⟨rfl, hb⟩
  have HB1 := Lib.hid (HB0.out.trans (hb.mono (by simp)))
  clear hb
  go_wp2
  go_ret
  exact ⟨rfl, HB1.out⟩
theorem layer_not (x : Value) (d : P.Dic) (t : Bool) (C : Nat) (w : World) (hx : EntR w x d) (hs : Small d) (hC : C < w.heap.size) (hf : w.cell? ⟨C, 0, none⟩ = some layF) (hE : Env w) :
    Calls Tryz.prog 241 #[.agg #[x, .bool t], .pointer (some ⟨C, 0, none⟩)] w fun e w' => e = .returned (.bool (!P.dic d)) ∧ Below w.heap.size w w' := by
  have hb0 := (Below.refl w.heap.size w).alloc (Nat.le_refl _) (.cells #[x, .bool t] 85)
  have HX := Lib.hid (hx.below hb0); have HB0 := Lib.hid hb0; have HE := Lib.hid (hE.below hb0 hE.size)
  have hf1 := (hb0.cell (p := ⟨C, 0, none⟩) hC).trans hf
  clear hb0 hE hf
  obtain ⟨xd, xc, rfl, _, _⟩ := hx
  go_enter Tryz.func241, Tryz.ntmps241
  go_wp2_with fail
  refine (layer_ok _ d t _ HX.out hs HE.out).mono ?_
  rintro e w1 ⟨rfl, hb⟩
  have HB1 := Lib.hid (HB0.out.trans (hb.mono (by simp)))
  clear hb
  go_wp2
  go_ret
  exact ⟨ret_bool (by simp), HB1.out⟩
theorem layIndex (u : Value) (l : P.Lays) (C : Nat) (w : World) (hu : LayR w u l) (hle : ∀ e ∈ l, Small e.1) (hC : C < w.heap.size) (hf : w.cell? ⟨C, 0, none⟩ = some layF) (hE : Env w) :
    Calls Tryz.prog 269 #[u, notL C] w fun e w' => (∃ n : Int, e = .returned (.int .i64 n) ∧ decide (0 ≤ n) = !(P.layers l)) ∧ Below w.heap.size w w' := by
  have HU := Lib.hid hu
  have HLE := Lib.hid hle; clear hle
  have HF := Lib.hid hf; clear hf
  have HE := Lib.hid hE; clear hE
  obtain ⟨ad, cap, rfl, hl, _⟩ := hu
  go_enter Tryz.func269, Tryz.ntmps269
  go_wp2
  go_loopw [5, 8] (fun _ i wr => ∃ j : Nat, j ≤ l.length ∧ i = .int .i64 j ∧ P.layers (l.take j) = true ∧ Below w.heap.size w wr) (fun _ i _ => l.length - (intOf i).toNat)
  case atStart => exact ⟨0, Nat.zero_le _, rfl, rfl, Below.refl _ _⟩
  case round =>
    obtain ⟨j, hj, rfl, ha, hb⟩ := hrel
    have HA := Lib.hid ha; have HB := Lib.hid hb; clear ha
    by_cases hlt : j < l.length
    · obtain ⟨g, o, hga, hgl, x, c0, c1, hx⟩ := (HU.out.below hb).at j hlt
      have HX := Lib.hid hx
      have HFW := Lib.hid ((hb.cell (p := ⟨C, 0, none⟩) hC).trans HF.out)
      have HEW := Lib.hid (HE.out.below hb HE.out.size)
      have hCw := Nat.lt_of_lt_of_le hC hb.size
      have HL := Lib.hid (HLE.out _ (List.getElem_mem hlt))
      have HNO := Lib.hid (fun h => P.layers_no j hlt h)
      have HYE := Lib.hid (fun h => P.layers_snoc j hlt HA.out h)
      obtain ⟨xd, xc, rfl, _, _⟩ := hx
      subst hga
      generalize l[j] = en at *
      obtain ⟨d, t⟩ := en
      simp only at c1 HX HL HNO HYE
      clear hb
      have i1 : (j : Int) < (l.length : Int) := by omega
      go_wp2_with fail
      refine (layer_not _ d t _ _ HX.out HL.out hCw HFW.out HEW.out).mono ?_
      rintro e w1 ⟨rfl, hb⟩
      have HB1 := Lib.hid (HB.out.trans (hb.mono HB.out.size))
      clear hb c0 c1
      cases hok : P.dic d
      · have HN2 := Lib.hid (HNO.out hok)
        clear hok
        go_wp2
        go_ret
        exact ⟨⟨(j : Int), rfl, by rw [HN2.out]; simp⟩, HB1.out⟩
      · have HY2 := Lib.hid (HYE.out hok)
        clear hok
        go_wp2
        go_roundw
        case rel => exact ⟨j + 1, by omega, by go_num, HY2.out, HB1.out⟩
        case measure => simp [intOf]; omega
    · have HT := Lib.hid (show P.layers l = true by have := HA.out; rwa [List.take_of_length_le (by omega)] at this)
      clear hb
      go_wp2
      go_ret
      exact ⟨⟨-1, rfl, by rw [HT.out]; rfl⟩, HB.out⟩
theorem layContains (u : Value) (l : P.Lays) (C : Nat) (w : World) (hu : LayR w u l) (hle : ∀ e ∈ l, Small e.1) (hC : C < w.heap.size) (hf : w.cell? ⟨C, 0, none⟩ = some layF) (hE : Env w) :
    Calls Tryz.prog 240 #[u, notL C] w fun e w' => e = .returned (.bool (!(P.layers l))) ∧ Below w.heap.size w w' := by
  have HU := Lib.hid hu; have HLE := Lib.hid hle; have HE := Lib.hid hE
  clear hle hE
  obtain ⟨ad, cap, rfl, hl, _⟩ := hu
  go_enter Tryz.func240, Tryz.ntmps240
  go_wp2_with fail
  refine (layIndex _ l _ _ HU.out HLE.out hC hf HE.out).mono ?_
  rintro e w' ⟨⟨n, rfl, hn⟩, hb⟩
  have HN := Lib.hid hn; have HB := Lib.hid hb; clear hn hb
  go_wp2
  go_ret
  exact ⟨ret_bool HN.out, HB.out⟩
theorem allLayers (u : Value) (l : P.Lays) (w : World) (hu : LayR w u l) (hle : ∀ e ∈ l, Small e.1) (hE : Env w) :
    Calls Tryz.prog 202 #[u, layF] w fun e w' => e = .returned (.bool (P.layers l)) ∧ Below w.heap.size w w' := by
  have hb0 := (Below.refl w.heap.size w).alloc (Nat.le_refl _) (.cells #[layF] 212)
  have HU := Lib.hid (hu.below hb0); have HB0 := Lib.hid hb0; have HE := Lib.hid (hE.below hb0 hE.size); have HLE := Lib.hid hle
  clear hle hE hb0
  obtain ⟨ad, cap, rfl, hl, _⟩ := hu
  go_enter Tryz.func202, Tryz.ntmps202
  go_wp2_with fail
  refine (layContains _ l _ _ HU.out HLE.out (by simp) (by go_simp) HE.out).mono ?_
  rintro e w1 ⟨rfl, hb⟩
  have HB1 := Lib.hid (HB0.out.trans (hb.mono (by simp)))
  clear hb
  go_wp2
  go_ret
  exact ⟨ret_bool (by simp), HB1.out⟩
theorem impl_isValidStack (u : Value) (l : P.Lays) (w : World) (hu : LayR w u l) (hle : ∀ e ∈ l, Small e.1) (hE : Env w) :
    Calls Tryz.prog 130 #[.agg #[u]] w fun e w' => e = .returned (.bool (P.stack l)) ∧ Below w.heap.size w w' := by
  have hb0 := (Below.refl w.heap.size w).alloc (Nat.le_refl _) (.cells #[u] 70)
  have HU := Lib.hid (hu.below hb0); have HB0 := Lib.hid hb0; have HE := Lib.hid (hE.below hb0 hE.size); have HLE := Lib.hid hle
  clear hle hE hb0
  obtain ⟨ad, cap, rfl, hl, _⟩ := hu
  by_cases hlen : (l.length : Int) ≤ 4
  · have HP := Lib.hid (show P.stack l = P.layers l by unfold P.stack; rw [decide_eq_true hlen]; rfl)
    go_enter Tryz.func130, Tryz.ntmps130
    go_wp2_with fail
    refine (allLayers _ l _ HU.out HLE.out HE.out).mono ?_
    rintro e w1 ⟨rfl, hb⟩
    have HB1 := Lib.hid (HB0.out.trans (hb.mono (by simp)))
    clear hb
    go_wp2
    go_ret
    exact ⟨ret_bool HP.out.symm, HB1.out⟩
  · have HP := Lib.hid (show P.stack l = false by unfold P.stack; rw [decide_eq_false hlen]; rfl)
    go_enter Tryz.func130, Tryz.ntmps130
    go_wp2
    go_ret
    exact ⟨ret_bool HP.out.symm, HB0.out⟩
end
namespace P
theorem layers_up {l : Lays} (h : layers l = true) : ∀ e ∈ l, Up e.1 := fun e he => up_of_dic (List.all_eq_true.1 h e he)
theorem stack_layers {l : Lays} (h : stack l = true) : layers l = true := by
  unfold stack at h; simp only [Bool.and_eq_true] at h; exact h.2
end P
end Go.Proofs.YtngbkdlicknmhaaGreatDoor
