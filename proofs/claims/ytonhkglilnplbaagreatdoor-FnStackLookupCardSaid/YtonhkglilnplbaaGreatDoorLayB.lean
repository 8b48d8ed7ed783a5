/- Walks: a stack of layers is in order (reference, program). Walks: a copy of a stack (reference). Walks: a stack made of layers in order (program). Walks: a layer switched on or off (reference, program). Walks: SetEnabled (reference, program). -/
import Derived.Deep.DeepCutAuto
import Derived.Deep.RegionLaw
import Derived.Deep.AppendLies
import Derived.IntWalk
import Derived.Test.YtonhkglilnplbaaGreatDoorLayA
import Derived.Test.YtonhkglilnplbaaGreatDoorSmallD
import Derived.Test.YtonhkglilnplbaaGreatDoorMemF
set_option linter.all false
namespace Go.Proofs.YtonhkglilnplbaaGreatDoor
section
/-- all the layers' dictionaries are in order -/
def P.layers (l : P.Lays) : Bool := l.all fun e => P.dic e.1
/-- a stack is in order -/
def P.stack (l : P.Lays) : Bool := decide ((l.length : Int) ≤ 4) && P.layers l
theorem P.layers_no {l : P.Lays} (j : Nat) (hj : j < l.length) (h : P.dic l[j].1 = false) : P.layers l = false := by
  unfold P.layers
  rw [← List.take_append_drop (j + 1) l, take_snoc l j hj, List.all_append, List.all_append]
  simp [h]
theorem P.layers_snoc {l : P.Lays} (j : Nat) (hj : j < l.length) (h0 : P.layers (l.take j) = true) (h : P.dic l[j].1 = true) : P.layers (l.take (j + 1)) = true := by
  unfold P.layers at h0 ⊢
  rw [take_snoc l j hj, List.all_append, h0]
  simp [h]
open Go Go.RowKit
set_option maxHeartbeats 1000000
set_option maxRecDepth 100000
theorem spec_isValidStack (u : Value) (l : P.Lays) (w : World) (hu : LayR w u l) (hle : ∀ e ∈ l, Small e.1) :
    Calls Tryz.prog 110 #[.agg #[u]] w fun e w' => e = .returned (.bool (P.stack l)) ∧ Below w.heap.size w w' := by
  have HU := Lib.hid hu
  have HLE := Lib.hid hle; clear hle
  have hb0 := (Below.refl w.heap.size w).alloc (Nat.le_refl _) (.cells #[u] 52)
  have HB0 := Lib.hid hb0; clear hb0
  have HC0 := Lib.hid (show (w.alloc (.cells #[u] 52)).cell? ⟨w.heap.size, 0, none⟩ = some u by go_simp)
  obtain ⟨ad, cap, rfl, hl, _⟩ := hu
  by_cases hlen : (l.length : Int) ≤ 4
  · have hn : ¬ (4 : Int) < (l.length : Int) := by omega
    have HP := Lib.hid (show P.stack l = P.layers l by unfold P.stack; rw [decide_eq_true hlen]; rfl)
    clear hlen
    go_enter Tryz.func110, Tryz.ntmps110
    go_wp2
    go_loopw [3] (fun i wr => ∃ j : Nat, j ≤ l.length ∧ i = .int .i64 j ∧ P.layers (l.take j) = true ∧ wr.cell? ⟨w.heap.size, 0, none⟩ = some (.slice ad l.length cap) ∧ w.heap.size < wr.heap.size ∧ Below w.heap.size w wr) (fun i _ => l.length - (intOf i).toNat)
    case atStart => exact ⟨0, Nat.zero_le _, rfl, rfl, HC0.out, by simp, HB0.out⟩
    case round =>
      obtain ⟨j, hj, rfl, ha, b0, hz, hb⟩ := hrel
      have HA := Lib.hid ha; have HB := Lib.hid hb
      clear ha HC0 HB0 hn
      by_cases hlt : j < l.length
      · obtain ⟨g, p, hga, hgl, x, c0, _, hx⟩ := (HU.out.below hb).at j hlt
        have HX := Lib.hid hx
        have HL := Lib.hid (HLE.out _ (List.getElem_mem hlt))
        have HNO := Lib.hid (fun h => P.layers_no j hlt h)
        have HYE := Lib.hid (fun h => P.layers_snoc j hlt HA.out h)
        obtain ⟨xd, xc, rfl, _, _⟩ := hx
        subst hga
        generalize l[j].1 = d at *
        clear hb
        have i1 : (j : Int) < (l.length : Int) := by omega
        go_wp2_with fail
        refine (l6Good _ d _ HX.out HL.out.texts).mono ?_
        rintro e w1 ⟨rfl, hb⟩
        have b1 := (hb.cell (p := ⟨w.heap.size, 0, none⟩) hz).trans b0
        have hz1 := Nat.lt_of_lt_of_le hz hb.size
        have HB1 := Lib.hid (HB.out.trans (hb.mono (Nat.le_of_lt hz)))
        clear hb b0
        cases hok : P.dic d
        · have HN2 := Lib.hid (HNO.out hok)
          clear hok
          go_wp2
          go_ret
          exact ⟨ret_bool (by rw [HP.out, HN2.out]), HB1.out⟩
        · have HY2 := Lib.hid (HYE.out hok)
          clear hok
          go_wp2
          go_roundw
          case rel => exact ⟨j + 1, by omega, by go_num, HY2.out, b1, hz1, HB1.out⟩
          case measure => simp [intOf]; omega
      · have HT := Lib.hid (show P.layers l = true by have := HA.out; rwa [List.take_of_length_le (by omega)] at this)
        clear hb
        go_wp2
        go_ret
        exact ⟨ret_bool (by rw [HP.out, HT.out]), HB.out⟩
  · have hn : (4 : Int) < (l.length : Int) := by omega
    have HP := Lib.hid (show P.stack l = false by unfold P.stack; rw [decide_eq_false hlen]; rfl)
    clear hlen
    go_enter Tryz.func110, Tryz.ntmps110
    go_wp2
    go_ret
    exact ⟨ret_bool HP.out.symm, HB0.out⟩
/-- the checks as function values -/
abbrev layF : Value := .func (Fn.func 140) #[] #[]
abbrev notL (C : Nat) : Value := .func (Fn.func 178) #[] #[.pointer (some ⟨C, 0, none⟩)]
theorem layer_ok (x : Value) (d : P.Dic) (t : Bool) (w : World) (hx : EntR w x d) (hs : Small d) (hE : Env w) :
    Calls Tryz.prog 140 #[.agg #[x, .bool t]] w fun e w' => e = .returned (.bool (P.dic d)) ∧ Below w.heap.size w w' := by
  have hb0 := (Below.refl w.heap.size w).alloc (Nat.le_refl _) (.cells #[x, .bool t] 74)
  have HX := Lib.hid (hx.below hb0); have HB0 := Lib.hid hb0; have HE := Lib.hid (hE.below hb0 hE.size)
  have HS := Lib.hid hs
  clear hb0 hE
  obtain ⟨xd, xc, rfl, _, _⟩ := hx
  go_enter Tryz.func140, Tryz.ntmps140
  go_wp2_with fail
  refine (isValidDictionary _ d _ HX.out HS.out.texts HE.out).mono ?_
  rintro e w1 ⟨rfl, hb⟩
  have HB1 := Lib.hid (HB0.out.trans (hb.mono (by simp)))
  clear hb
  go_wp2
  go_ret
  exact ⟨rfl, HB1.out⟩
theorem layer_not (x : Value) (d : P.Dic) (t : Bool) (C : Nat) (w : World) (hx : EntR w x d) (hs : Small d) (hC : C < w.heap.size) (hf : w.cell? ⟨C, 0, none⟩ = some layF) (hE : Env w) :
    Calls Tryz.prog 178 #[.agg #[x, .bool t], .pointer (some ⟨C, 0, none⟩)] w fun e w' => e = .returned (.bool (!P.dic d)) ∧ Below w.heap.size w w' := by
  have hb0 := (Below.refl w.heap.size w).alloc (Nat.le_refl _) (.cells #[x, .bool t] 74)
  have HX := Lib.hid (hx.below hb0); have HB0 := Lib.hid hb0; have HE := Lib.hid (hE.below hb0 hE.size)
  have hf1 := (hb0.cell (p := ⟨C, 0, none⟩) hC).trans hf
  clear hb0 hE hf
  obtain ⟨xd, xc, rfl, _, _⟩ := hx
  go_enter Tryz.func178, Tryz.ntmps178
  go_wp2_with fail
  refine (layer_ok _ d t _ HX.out hs HE.out).mono ?_
  rintro e w1 ⟨rfl, hb⟩
  have HB1 := Lib.hid (HB0.out.trans (hb.mono (by simp)))
  clear hb
  go_wp2
  go_ret
  exact ⟨ret_bool (by simp), HB1.out⟩
theorem layIndex (u : Value) (l : P.Lays) (C : Nat) (w : World) (hu : LayR w u l) (hle : ∀ e ∈ l, Small e.1) (hC : C < w.heap.size) (hf : w.cell? ⟨C, 0, none⟩ = some layF) (hE : Env w) :
    Calls Tryz.prog 198 #[u, notL C] w fun e w' => (∃ n : Int, e = .returned (.int .i64 n) ∧ decide (0 ≤ n) = !(P.layers l)) ∧ Below w.heap.size w w' := by
  have HU := Lib.hid hu
  have HLE := Lib.hid hle; clear hle
  have HF := Lib.hid hf; clear hf
  have HE := Lib.hid hE; clear hE
  obtain ⟨ad, cap, rfl, hl, _⟩ := hu
  go_enter Tryz.func198, Tryz.ntmps198
  go_wp2
  go_loopw [5, 8] (fun _ i wr => ∃ j : Nat, j ≤ l.length ∧ i = .int .i64 j ∧ P.layers (l.take j) = true ∧ Below w.heap.size w wr) (fun _ i _ => l.length - (intOf i).toNat)
  case atStart => exact ⟨0, Nat.zero_le _, rfl, rfl, Below.refl _ _⟩
  case round =>
    obtain ⟨j, hj, rfl, ha, hb⟩ := hrel
    have HA := Lib.hid ha; have HB := Lib.hid hb; clear ha
    by_cases hlt : j < l.length
    · obtain ⟨g, o, hga, hgl, x, c0, c1, hx⟩ := (HU.out.below hb).at j hlt
      have HX := Lib.hid hx
      have HFW := Lib.hid ((hb.cell (p := ⟨C, 0, none⟩) hC).trans HF.out)
      have HEW := Lib.hid (HE.out.below hb HE.out.size)
      have hCw := Nat.lt_of_lt_of_le hC hb.size
      have HL := Lib.hid (HLE.out _ (List.getElem_mem hlt))
      have HNO := Lib.hid (fun h => P.layers_no j hlt h)
      have HYE := Lib.hid (fun h => P.layers_snoc j hlt HA.out h)
      obtain ⟨xd, xc, rfl, _, _⟩ := hx
      subst hga
      generalize l[j] = en at *
      obtain ⟨d, t⟩ := en
      simp only at c1 HX HL HNO HYE
      clear hb
      have i1 : (j : Int) < (l.length : Int) := by omega
      go_wp2_with fail
      refine (layer_not _ d t _ _ HX.out HL.out hCw HFW.out HEW.out).mono ?_
      rintro e w1 ⟨rfl, hb⟩
      have HB1 := Lib.hid (HB.out.trans (hb.mono HB.out.size))
      clear hb c0 c1
      cases hok : P.dic d
      · have HN2 := Lib.hid (HNO.out hok)
        clear hok
        go_wp2
        go_ret
        exact ⟨⟨(j : Int), rfl, by rw [HN2.out]; simp⟩, HB1.out⟩
      · have HY2 := Lib.hid (HYE.out hok)
        clear hok
        go_wp2
        go_roundw
        case rel => exact ⟨j + 1, by omega, by go_num, HY2.out, HB1.out⟩
        case measure => simp [intOf]; omega
    · have HT := Lib.hid (show P.layers l = true by have := HA.out; rwa [List.take_of_length_le (by omega)] at this)
      clear hb
      go_wp2
      go_ret
      exact ⟨⟨-1, rfl, by rw [HT.out]; rfl⟩, HB.out⟩
theorem layContains (u : Value) (l : P.Lays) (C : Nat) (w : World) (hu : LayR w u l) (hle : ∀ e ∈ l, Small e.1) (hC : C < w.heap.size) (hf : w.cell? ⟨C, 0, none⟩ = some layF) (hE : Env w) :
    Calls Tryz.prog 177 #[u, notL C] w fun e w' => e = .returned (.bool (!(P.layers l))) ∧ Below w.heap.size w w' := by
  have HU := Lib.hid hu; have HLE := Lib.hid hle; have HE := Lib.hid hE
  clear hle hE
  obtain ⟨ad, cap, rfl, hl, _⟩ := hu
  go_enter Tryz.func177, Tryz.ntmps177
  go_wp2_with fail
  refine (layIndex _ l _ _ HU.out HLE.out hC hf HE.out).mono ?_
  rintro e w' ⟨⟨n, rfl, hn⟩, hb⟩
  have HN := Lib.hid hn; have HB := Lib.hid hb; clear hn hb
  go_wp2
  go_ret
  exact ⟨ret_bool HN.out, HB.out⟩
theorem allLayers (u : Value) (l : P.Lays) (w : World) (hu : LayR w u l) (hle : ∀ e ∈ l, Small e.1) (hE : Env w) :
    Calls Tryz.prog 139 #[u, layF] w fun e w' => e = .returned (.bool (P.layers l)) ∧ Below w.heap.size w w' := by
  have hb0 := (Below.refl w.heap.size w).alloc (Nat.le_refl _) (.cells #[layF] 156)
  have HU := Lib.hid (hu.below hb0); have HB0 := Lib.hid hb0; have HE := Lib.hid (hE.below hb0 hE.size); have HLE := Lib.hid hle
  clear hle hE hb0
  obtain ⟨ad, cap, rfl, hl, _⟩ := hu
  go_enter Tryz.func139, Tryz.ntmps139
  go_wp2_with fail
  refine (layContains _ l _ _ HU.out HLE.out (by simp) (by go_simp) HE.out).mono ?_
  rintro e w1 ⟨rfl, hb⟩
  have HB1 := Lib.hid (HB0.out.trans (hb.mono (by simp)))
  clear hb
  go_wp2
  go_ret
  exact ⟨ret_bool (by simp), HB1.out⟩
theorem impl_isValidStack (u : Value) (l : P.Lays) (w : World) (hu : LayR w u l) (hle : ∀ e ∈ l, Small e.1) (hE : Env w) :
    Calls Tryz.prog 67 #[.agg #[u]] w fun e w' => e = .returned (.bool (P.stack l)) ∧ Below w.heap.size w w' := by
  have hb0 := (Below.refl w.heap.size w).alloc (Nat.le_refl _) (.cells #[u] 52)
  have HU := Lib.hid (hu.below hb0); have HB0 := Lib.hid hb0; have HE := Lib.hid (hE.below hb0 hE.size); have HLE := Lib.hid hle
  clear hle hE hb0
  obtain ⟨ad, cap, rfl, hl, _⟩ := hu
  by_cases hlen : (l.length : Int) ≤ 4
  · have HP := Lib.hid (show P.stack l = P.layers l by unfold P.stack; rw [decide_eq_true hlen]; rfl)
    go_enter Tryz.func67, Tryz.ntmps67
    go_wp2_with fail
    refine (allLayers _ l _ HU.out HLE.out HE.out).mono ?_
    rintro e w1 ⟨rfl, hb⟩
    have HB1 := Lib.hid (HB0.out.trans (hb.mono (by simp)))
    clear hb
    go_wp2
    go_ret
    exact ⟨ret_bool HP.out.symm, HB1.out⟩
  · have HP := Lib.hid (show P.stack l = false by unfold P.stack; rw [decide_eq_false hlen]; rfl)
    go_enter Tryz.func67, Tryz.ntmps67
    go_wp2
    go_ret
    exact ⟨ret_bool HP.out.symm, HB0.out⟩
end
section
open Go Go.RowKit
set_option maxHeartbeats 4000000
set_option maxRecDepth 100000
/-- what region 5 of l8Own keeps -/
def KOL (W : Nat) (dv u : Value) (g p : Nat) (x : Value) (et : Bool) (v : World) : Prop :=
  v.cell? ⟨W, 0, none⟩ = some dv ∧ v.cell? ⟨W + 2, 0, none⟩ = some u ∧ v.cell? ⟨g, p, none⟩ = some x ∧ v.cell? ⟨g, p + 1, none⟩ = some (.bool et) ∧ v.frozen? ⟨W + 2, 0, none⟩ = false ∧ g < W
theorem KOL.step {W : Nat} {dv u : Value} {g p : Nat} {x : Value} {et : Bool} {v v' : World} (h : KOL W dv u g p x et v) (hb : Below (W + 3) v v') : KOL W dv u g p x et v' := by
  obtain ⟨h1, h2, h3, h4, h5, h6⟩ := h
  exact ⟨(hb.cell (p := ⟨W, 0, none⟩) (by show W < W + 3; omega)).trans h1, (hb.cell (p := ⟨W + 2, 0, none⟩) (by show W + 2 < W + 3; omega)).trans h2, (hb.cell (p := ⟨g, p, none⟩) (by show g < W + 3; omega)).trans h3,
    (hb.cell (p := ⟨g, p + 1, none⟩) (by show g < W + 3; omega)).trans h4, (hb.frozen (p := ⟨W + 2, 0, none⟩) (by show W + 2 < W + 3; omega)).trans h5, h6⟩
theorem layE_mk {v : World} {F : Blk} {x : Value} {o : P.Dic} {t : Bool} (h : Ents v F x o) : layE v F [x, .bool t] (o, t) := ⟨x, rfl, h⟩
theorem l8Own (dv : Value) (l : P.Lays) (w : World) (hu : LayR w dv l) (hl : l.length ≤ 2 ^ 20) (hle : ∀ e ∈ l, Small e.1) :
    Calls Tryz.prog 115 #[.agg #[dv]] w (StackPost l w) := by
  obtain ⟨i0, hi, hz0, hz1, hz2⟩ := info_parts info_lay
  have HU := Lib.hid hu
  have HLE := Lib.hid hle; clear hle
  have HBX := Lib.hid (show Boxes w.heap.size dv (.slice none 0 0) (((w.alloc (.cells #[dv] 52)).alloc (.cells #[.slice none 0 0] 52)).alloc (.cells #[.slice none 0 0] 52)) by
    refine ⟨?_, ?_, ?_, ?_, ?_⟩ <;> go_simp)
  have HB0 := Lib.hid ((((Below.refl w.heap.size w).alloc (Nat.le_refl _) (.cells #[dv] 52)).alloc (by simp) (.cells #[.slice none 0 0] 52)).alloc (by simp; omega) (.cells #[.slice none 0 0] 52))
  have HA0 := Lib.hid (show Acc 74 2 layE (w.heap.size + 3) (((w.alloc (.cells #[dv] 52)).alloc (.cells #[.slice none 0 0] 52)).alloc (.cells #[.slice none 0 0] 52)) (.slice none 0 0) [] [] from
    Acc.nil (World.ownsRow_nil _ _ _ _) (by simp))
  obtain ⟨dad, dcap, rfl, _, _⟩ := hu
  go_enter Tryz.func115, Tryz.ntmps115
  go_wp2_with fail
  go_loopw [4] (fun i wr => ∃ (j : Nat) (u : Value) (xs : List Value), j ≤ l.length ∧ i = .int .i64 j ∧ Boxes w.heap.size (.slice dad l.length dcap) u wr ∧ Acc 74 2 layE (w.heap.size + 3) wr u (l.take j) xs ∧ Below w.heap.size w wr) (fun i _ => l.length - (intOf i).toNat)
  case atStart => exact ⟨0, _, _, Nat.zero_le _, rfl, HBX.out, HA0.out, HB0.out⟩
  case round =>
    obtain ⟨j, u, xs, hj, rfl, hbx, hacc, hb⟩ := hrel
    clear HA0 HBX HB0
    have HBZ := Lib.hid (show w.heap.size + 3 ≤ wr.heap.size by obtain ⟨_, _, _, _, h, _⟩ := hacc; exact h)
    have hlt0 : (l.take j).length = j := by rw [List.length_take]; omega
    obtain ⟨uad, ucap, hu'⟩ := hacc.form
    rw [hlt0] at hu'
    subst hu'
    have HA := Lib.hid hacc; have HBX := Lib.hid hbx; have HB := Lib.hid hb
    have HL0 := Lib.hid hlt0; clear hlt0
    obtain ⟨b0, b1, b2, f1, f2⟩ := hbx
    by_cases hlt : j < l.length
    · obtain ⟨g, o, hga, hgs, x, c0, c1, hx⟩ := HU.out.at j hlt
      have hgw : g < w.heap.size := hgs
      have HEN := Lib.hid (take_snoc l j hlt)
      have hll := HLE.out _ (List.getElem_mem hlt)
      have HX := Lib.hid (hx.below hb)
      have HXO := Lib.hid hx
      have HS := Lib.hid (show KOL w.heap.size (.slice dad l.length dcap) (.slice uad j ucap) g (o + j * 2) x l[j].2 wr.drew from
        KOL.step ⟨b0, b2, (hb.cell (p := ⟨g, _, none⟩) hgs).trans c0, (hb.cell (p := ⟨g, _, none⟩) hgs).trans c1, f2, hgw⟩ (Below.refl _ _).drew)
      obtain ⟨xd, xc, rfl, _, _⟩ := hx
      subst hga
      generalize l[j] = en at *
      obtain ⟨eo, et⟩ := en
      simp only at hll HX HS HXO
      have i1 : (j : Int) < (l.length : Int) := by omega
      clear hb hacc c0 c1
      go_upto_region 5 with fail
      refine Left.region [19] (S := KOL w.heap.size (.slice (some ⟨g, o, none⟩) l.length dcap) (.slice uad j ucap) g (o + j * 2) (.slice xd eo.length xc) et) (by kernel_rfl) HS.out (fun hS0 => ?_)
      refine Left.take (i := 0) (v := .pointer (some ⟨w.heap.size + 2, 0, none⟩)) rfl (by kernel_rfl) (by kernel_rfl) (by kernel_rfl) (by kernel_rfl) (fun _ _ _ h => h) (Or.inl ⟨by rfl, fun z hz => ?_⟩) hS0 ?_
      · obtain ⟨z1, z2, z3, z4, z5, z6⟩ := hz
        go_simp
      try simp only [List.getElem_toArray, List.getElem_cons_zero, Act.put, List.setIfInBounds_toArray, List.set_cons_zero, List.set_cons_succ]
      refine Left.take (i := 1) (v := .slice uad j ucap) rfl (by kernel_rfl) (by kernel_rfl) (by kernel_rfl) (by kernel_rfl) (fun _ _ _ h => h) (Or.inl ⟨by rfl, fun z hz => ?_⟩) hS0 ?_
      · obtain ⟨z1, z2, z3, z4, z5, z6⟩ := hz
        go_simp
      try simp only [List.getElem_toArray, List.getElem_cons_zero, List.getElem_cons_succ, Act.put, List.setIfInBounds_toArray, List.set_cons_zero, List.set_cons_succ]
      refine Left.take (i := 2) (v := .pointer (some ⟨w.heap.size, 0, none⟩)) rfl (by kernel_rfl) (by kernel_rfl) (by kernel_rfl) (by kernel_rfl) (fun _ _ _ h => h) (Or.inl ⟨by rfl, fun z hz => ?_⟩) hS0 ?_
      · obtain ⟨z1, z2, z3, z4, z5, z6⟩ := hz
        go_simp
      try simp only [List.getElem_toArray, List.getElem_cons_zero, List.getElem_cons_succ, Act.put, List.setIfInBounds_toArray, List.set_cons_zero, List.set_cons_succ]
      refine Left.take (i := 3) (v := .slice (some ⟨g, o, none⟩) l.length dcap) rfl (by kernel_rfl) (by kernel_rfl) (by kernel_rfl) (by kernel_rfl) (fun _ _ _ h => h) (Or.inl ⟨by rfl, fun z hz => ?_⟩) hS0 ?_
      · obtain ⟨z1, z2, z3, z4, z5, z6⟩ := hz
        go_simp
      try simp only [List.getElem_toArray, List.getElem_cons_zero, List.getElem_cons_succ, Act.put, List.setIfInBounds_toArray, List.set_cons_zero, List.set_cons_succ]
      refine Left.take (i := 4) (v := .int .i64 j) rfl (by kernel_rfl) (by kernel_rfl) (by kernel_rfl) (by kernel_rfl) (fun _ _ _ h => h) (Or.inl ⟨by rfl, fun z hz => ?_⟩) hS0 ?_
      · obtain ⟨z1, z2, z3, z4, z5, z6⟩ := hz
        go_simp
      try simp only [List.getElem_toArray, List.getElem_cons_zero, List.getElem_cons_succ, Act.put, List.setIfInBounds_toArray, List.set_cons_zero, List.set_cons_succ]
      refine Left.take (i := 5) (v := .pointer (some ⟨g, o + j * 2, none⟩)) rfl (by kernel_rfl) (by kernel_rfl) (by kernel_rfl) (by kernel_rfl) (fun _ _ _ h => h) (Or.inl ⟨by rfl, fun z hz => ?_⟩) hS0 ?_
      · obtain ⟨z1, z2, z3, z4, z5, z6⟩ := hz
        go_simp
      try simp only [List.getElem_toArray, List.getElem_cons_zero, List.getElem_cons_succ, Act.put, List.setIfInBounds_toArray, List.set_cons_zero, List.set_cons_succ]
      refine Left.take (i := 6) (v := .pointer (some ⟨g, o + j * 2, none⟩)) rfl (by kernel_rfl) (by kernel_rfl) (by kernel_rfl) (by kernel_rfl) (fun _ _ _ h => h) (Or.inl ⟨by rfl, fun z hz => ?_⟩) hS0 ?_
      · obtain ⟨z1, z2, z3, z4, z5, z6⟩ := hz
        go_simp
      try simp only [List.getElem_toArray, List.getElem_cons_zero, List.getElem_cons_succ, Act.put, List.setIfInBounds_toArray, List.set_cons_zero, List.set_cons_succ]
      refine Left.take (i := 7) (v := .agg #[.slice xd eo.length xc]) rfl (by kernel_rfl) (by kernel_rfl) (by kernel_rfl) (by kernel_rfl) (fun _ _ _ h => h) (Or.inl ⟨by rfl, fun z hz => ?_⟩) hS0 ?_
      · obtain ⟨z1, z2, z3, z4, z5, z6⟩ := hz
        go_simp
      try simp only [List.getElem_toArray, List.getElem_cons_zero, List.getElem_cons_succ, Act.put, List.setIfInBounds_toArray, List.set_cons_zero, List.set_cons_succ]
      refine Left.take (i := 9) (v := .pointer (some ⟨w.heap.size, 0, none⟩)) rfl (by kernel_rfl) (by kernel_rfl) (by kernel_rfl) (by kernel_rfl) (fun _ _ _ h => h) (Or.inl ⟨by rfl, fun z hz => ?_⟩) hS0 ?_
      · obtain ⟨z1, z2, z3, z4, z5, z6⟩ := hz
        go_simp
      try simp only [List.getElem_toArray, List.getElem_cons_zero, List.getElem_cons_succ, Act.put, List.setIfInBounds_toArray, List.set_cons_zero, List.set_cons_succ]
      refine Left.take (i := 10) (v := .slice (some ⟨g, o, none⟩) l.length dcap) rfl (by kernel_rfl) (by kernel_rfl) (by kernel_rfl) (by kernel_rfl) (fun _ _ _ h => h) (Or.inl ⟨by rfl, fun z hz => ?_⟩) hS0 ?_
      · obtain ⟨z1, z2, z3, z4, z5, z6⟩ := hz
        go_simp
      try simp only [List.getElem_toArray, List.getElem_cons_zero, List.getElem_cons_succ, Act.put, List.setIfInBounds_toArray, List.set_cons_zero, List.set_cons_succ]
      refine Left.take (i := 11) (v := .int .i64 j) rfl (by kernel_rfl) (by kernel_rfl) (by kernel_rfl) (by kernel_rfl) (fun _ _ _ h => h) (Or.inl ⟨by rfl, fun z hz => ?_⟩) hS0 ?_
      · obtain ⟨z1, z2, z3, z4, z5, z6⟩ := hz
        go_simp
      try simp only [List.getElem_toArray, List.getElem_cons_zero, List.getElem_cons_succ, Act.put, List.setIfInBounds_toArray, List.set_cons_zero, List.set_cons_succ]
      refine Left.take (i := 12) (v := .pointer (some ⟨g, o + j * 2, none⟩)) rfl (by kernel_rfl) (by kernel_rfl) (by kernel_rfl) (by kernel_rfl) (fun _ _ _ h => h) (Or.inl ⟨by rfl, fun z hz => ?_⟩) hS0 ?_
      · obtain ⟨z1, z2, z3, z4, z5, z6⟩ := hz
        go_simp
      try simp only [List.getElem_toArray, List.getElem_cons_zero, List.getElem_cons_succ, Act.put, List.setIfInBounds_toArray, List.set_cons_zero, List.set_cons_succ]
      refine Left.take (i := 13) (v := .pointer (some ⟨g, o + j * 2 + 1, none⟩)) rfl (by kernel_rfl) (by kernel_rfl) (by kernel_rfl) (by kernel_rfl) (fun _ _ _ h => h) (Or.inl ⟨by rfl, fun z hz => ?_⟩) hS0 ?_
      · obtain ⟨z1, z2, z3, z4, z5, z6⟩ := hz
        go_simp
      try simp only [List.getElem_toArray, List.getElem_cons_zero, List.getElem_cons_succ, Act.put, List.setIfInBounds_toArray, List.set_cons_zero, List.set_cons_succ]
      refine Left.take (i := 14) (v := .bool et) rfl (by kernel_rfl) (by kernel_rfl) (by kernel_rfl) (by kernel_rfl) (fun _ _ _ h => h) (Or.inl ⟨by rfl, fun z hz => ?_⟩) hS0 ?_
      · obtain ⟨z1, z2, z3, z4, z5, z6⟩ := hz
        go_simp
      try simp only [List.getElem_toArray, List.getElem_cons_zero, List.getElem_cons_succ, Act.put, List.setIfInBounds_toArray, List.set_cons_zero, List.set_cons_succ]
      refine Left.ready (rs := [8]) (by kernel_rfl) (by simp) ?_
      refine Nexts.cons rfl (fun K hK => ?_) Nexts.nil
      have HXD := Lib.hid (HX.out.below (Below.refl _ _).drew)
      go_simp
      refine (l6Own _ eo _ HXD.out hll.len hll.outs).mono ?_
      rintro e v1 ⟨x1, rfl, hI, hb1⟩
      have HB1 := Lib.hid (show Below wr.heap.size wr v1 from (Below.refl wr.heap.size wr).drew.trans hb1)
      have HI := Lib.hid (show Ents v1 (Bet wr.heap.size v1.heap.size) x1 eo from hI)
      have HZ1 := Lib.hid (show wr.heap.size ≤ v1.heap.size from hb1.size)
      obtain ⟨x1d, x1c, rfl, _, _⟩ := hI
      refine on_held hK (by decide) (hS0.step (hb1.mono HBZ.out)) (fun hS1 => ?_)
      clear hK K hb1
      try simp only [List.getElem_toArray, List.getElem_cons_zero, List.getElem_cons_succ, Act.put, List.setIfInBounds_toArray, List.set_cons_zero, List.set_cons_succ]
      refine Left.take (i := 15) (v := .agg #[.slice x1d eo.length x1c, .bool et]) rfl (by kernel_rfl) (by kernel_rfl) (by kernel_rfl) (by kernel_rfl) (fun _ _ _ h => h) (Or.inl ⟨by rfl, fun z hz => ?_⟩) hS1 ?_
      · obtain ⟨z1, z2, z3, z4, z5, z6⟩ := hz
        go_simp
      try simp only [List.getElem_toArray, List.getElem_cons_zero, List.getElem_cons_succ, Act.put, List.setIfInBounds_toArray, List.set_cons_zero, List.set_cons_succ]
      refine Left.ready (rs := [16]) (by kernel_rfl) (by simp) ?_
      refine Nexts.cons rfl (fun K hK => ?_) Nexts.nil
      go_simp
      refine on_held hK (by decide) (hS1.step ((Below.refl _ _).alloc (Nat.le_trans HBZ.out HZ1.out) _)) (fun hS2 => ?_)
      clear hK K
      try simp only [List.getElem_toArray, List.getElem_cons_zero, List.getElem_cons_succ, Act.put, List.setIfInBounds_toArray, List.set_cons_zero, List.set_cons_succ]
      refine Left.ready (rs := [17]) (by kernel_rfl) (by simp) ?_
      refine Nexts.cons rfl (fun K hK => ?_) Nexts.nil
      have HA2 := Lib.hid ((HA.out.keep layE_ok HB1.out).keep layE_ok ((Below.refl v1.heap.size v1).alloc (Nat.le_refl _) (.cells #[.slice x1d eo.length x1c, .bool et] 74)))
      refine step_append_lies _ rfl _ _ 50 rfl (w.heap.size + 3) 74 i0 (.agg #[.slice none 0 0, .bool false]) 2 32 Tryz.underlying50 hi hz0 hz1 hz2 rfl (by decide) (.slice uad j ucap) j xs rfl (by have := HA2.out.owns; rwa [HL0.out] at this) ⟨v1.heap.size, 0, none⟩ 1 1 [.slice x1d eo.length x1c, .bool et] rfl rfl ?_ ?_ (by decide) (by unfold maxLen; omega) (by omega) ?_ _ rfl ?_
      · intro i y hy
        match i, hy with
        | 0, hy => injection hy with hy; subst hy; rw [add0]; go_simp
        | 1, hy => injection hy with hy; subst hy; rw [add0]; go_simp
      · intro y hy
        simp only [List.mem_cons, List.not_mem_nil, or_false] at hy
        rcases hy with rfl | rfl <;> rfl
      · have h1 := HZ1.out; have h2 := HBZ.out; simp; omega
      intro g1 cap1 v3 hown hgr hat hlt3
      have HB3 := Lib.hid (show Below (w.heap.size + 3) (v1.alloc (.cells #[.slice x1d eo.length x1c, .bool et] 74)) v3 from
        (Below.refl _ _).grown hgr (by have h1 := HZ1.out; have h2 := HBZ.out; simp; omega) (fun k hk => (World.ownsRow.lt HA2.out.owns k hk).1))
      have hS3 := hS2.step HB3.out
      have hsc := hS3.2.1
      have hsf := hS3.2.2.2.2.1
      have HBX3 := Lib.hid (((HBX.out.step (HB1.out.mono HBZ.out)).step ((Below.refl (w.heap.size + 3) v1).alloc (Nat.le_trans HBZ.out HZ1.out) (.cells #[.slice x1d eo.length x1c, .bool et] 74))).step HB3.out)
      have HAC := Lib.hid (HA.out.snoc (a := (eo, et)) (cs := [.slice x1d eo.length x1c, .bool et]) (v1 := v1) (v2 := v1.alloc (.cells #[.slice x1d eo.length x1c, .bool et] 74)) (v3 := v3) (g := g1) (cap := cap1) layE_ok HB1.out (fun b hb => hb) (layE_mk HI.out) rfl ((Below.refl _ _).alloc (Nat.le_refl _) _) (by rw [HL0.out]; exact hown) hgr hat)
      have HBW := Lib.hid (show Below w.heap.size w v3 from ((HB.out.trans (HB1.out.mono (by have := HBZ.out; omega))).trans ((Below.refl w.heap.size v1).alloc (by have h1 := HZ1.out; have h2 := HBZ.out; omega) _)).trans (HB3.out.mono (by omega)))
      refine on_held hK (by decide) hS3 (fun hS4 => ?_)
      clear hK K hown hgr hat hS2 hS1 HB1 HB3 HI HA2 HX HXD HXO HS HA HBX HB
      try simp only [List.getElem_toArray, List.getElem_cons_zero, List.getElem_cons_succ, Act.put, List.setIfInBounds_toArray, List.set_cons_zero, List.set_cons_succ]
      refine Left.take (i := 18) (v := .pointer (some ⟨w.heap.size + 2, 0, none⟩)) rfl (by kernel_rfl) (by kernel_rfl) (by kernel_rfl) (by kernel_rfl) (fun _ _ _ h => h) (Or.inl ⟨by rfl, fun z hz => ?_⟩) hS4 ?_
      · obtain ⟨z1, z2, z3, z4, z5, z6⟩ := hz
        go_simp
      try simp only [List.getElem_toArray, List.getElem_cons_zero, List.getElem_cons_succ, Act.put, List.setIfInBounds_toArray, List.set_cons_zero, List.set_cons_succ]
      refine Left.ready (rs := [19]) (by kernel_rfl) (by simp) ?_
      refine Nexts.cons rfl (fun K hK => ?_) Nexts.nil
      go_simp
      refine on_last hK (by decide) ?_
      clear hK K hS0
      try simp only [List.getElem_toArray, List.getElem_cons_zero, List.getElem_cons_succ, Act.put, List.setIfInBounds_toArray, List.set_cons_zero, List.set_cons_succ]
      refine Left.done (by kernel_rfl) ?_ _
      have HFIN := Lib.hid (show Boxes w.heap.size (.slice (some ⟨g, o, none⟩) l.length dcap) (.slice (some ⟨g1, 0, none⟩) (j + 1) cap1) (v3.setCell ⟨w.heap.size + 2, 0, none⟩ (.slice (some ⟨g1, 0, none⟩) (j + 1) cap1)) from HBX3.out.put)
      have HAF := Lib.hid (show Acc 74 2 layE (w.heap.size + 3) (v3.setCell ⟨w.heap.size + 2, 0, none⟩ (.slice (some ⟨g1, 0, none⟩) (j + 1) cap1)) (.slice (some ⟨g1, 0, none⟩) (j + 1) cap1) (l.take j ++ [(eo, et)]) (xs ++ [.slice x1d eo.length x1c, .bool et]) from by
        have h := HAC.out
        rw [HL0.out] at h
        exact h.stand layE_ok (X := fun b => b = w.heap.size + 2) ((Chg.refl (fun b => b = w.heap.size + 2) v3).setCell (p := ⟨w.heap.size + 2, 0, none⟩) rfl _) (by intro b hb; omega))
      have HBF := Lib.hid (show Below w.heap.size w (v3.setCell ⟨w.heap.size + 2, 0, none⟩ (.slice (some ⟨g1, 0, none⟩) (j + 1) cap1)) from HBW.out.setCell (by simp) _)
      clear hsc hsf hS3 hS4 HAC HBX3 HBW
      generalize v3.setCell ⟨w.heap.size + 2, 0, none⟩ (.slice (some ⟨g1, 0, none⟩) (j + 1) cap1) = v4 at *
      go_wp2
      go_roundw
      case rel => exact ⟨j + 1, _, _, by omega, by go_num, HFIN.out, by rw [HEN.out]; exact HAF.out, HBF.out⟩
      case measure => simp [intOf]; omega
    · have hjl : l.length = j := by omega
      have HT := Lib.hid (show l.take j = l from List.take_of_length_le (by omega))
      clear hb hacc
      go_wp2
      refine bodyPost_ret (v := .agg #[.slice uad j ucap]) (by simp [results, Tryz.results115, go_sem, b1]) rfl ⟨_, rfl, ?_, HB.out.setCell (by simp) _⟩
      have h := HA.out
      rw [HT.out] at h
      have hr := h.row (by omega)
      have hr2 : Lays wr (Bet (w.heap.size + 3) wr.heap.size) (.slice uad j ucap) l := hr
      exact (hr2.stand layE_ok (X := fun b => b = w.heap.size + 1) ((Chg.refl (fun b => b = w.heap.size + 1) wr).setCell (p := ⟨w.heap.size + 1, 0, none⟩) rfl (.slice uad j ucap)) (by intro b hb; have := hb.1; omega)).wide (fun b hb => ⟨by have := hb.1; omega, by simpa [World.setCell] using hb.2⟩) (fun b hb => hb.2)
end
section
open Go Go.RowKit
set_option maxHeartbeats 4000000
set_option maxRecDepth 100000
/-- what region 5 of stackOf keeps -/
def KOS (W q : Nat) (u x : Value) (et : Bool) (v : World) : Prop :=
  v.cell? ⟨W + 1, 0, none⟩ = some u ∧ v.cell? ⟨q, 0, none⟩ = some x ∧ v.cell? ⟨q, 1, none⟩ = some (.bool et) ∧ v.frozen? ⟨W + 1, 0, none⟩ = false ∧ W + 1 < v.heap.size ∧ q < v.heap.size
theorem KOS.chg {W q : Nat} {u x : Value} {et : Bool} {v v' : World} {X : Blk} (h : KOS W q u x et v) (hc : Chg X v v') (h1 : ¬ X (W + 1)) (h2 : ¬ X q) : KOS W q u x et v' := by
  obtain ⟨a1, a2, a3, a4, a5, a6⟩ := h
  exact ⟨(hc.cell (p := ⟨W + 1, 0, none⟩) a5 h1).trans a1, (hc.cell (p := ⟨q, 0, none⟩) a6 h2).trans a2, (hc.cell (p := ⟨q, 1, none⟩) a6 h2).trans a3, (hc.frozen (p := ⟨W + 1, 0, none⟩) a5 h1).trans a4, Nat.lt_of_lt_of_le a5 hc.size, Nat.lt_of_lt_of_le a6 hc.size⟩
theorem KOS.step {W q : Nat} {u x : Value} {et : Bool} {v v' : World} (h : KOS W q u x et v) (hb : Below v.heap.size v v') : KOS W q u x et v' :=
  h.chg (Below.chg hb fun _ => False) (fun h => h) fun h => h
/-- the two boxes of stackOf -/
def Boxes2 (W : Nat) (u : Value) (v : World) : Prop :=
  v.cell? ⟨W, 0, none⟩ = some (.slice none 0 0) ∧ v.cell? ⟨W + 1, 0, none⟩ = some u ∧ v.frozen? ⟨W, 0, none⟩ = false ∧ v.frozen? ⟨W + 1, 0, none⟩ = false
theorem Boxes2.step {W : Nat} {u : Value} {v v' : World} (h : Boxes2 W u v) (hb : Below (W + 2) v v') : Boxes2 W u v' := by
  obtain ⟨h1, h2, h3, h4⟩ := h
  exact ⟨(hb.cell (p := ⟨W, 0, none⟩) (by show W < W + 2; omega)).trans h1, (hb.cell (p := ⟨W + 1, 0, none⟩) (by show W + 1 < W + 2; omega)).trans h2,
    (hb.frozen (p := ⟨W, 0, none⟩) (by show W < W + 2; omega)).trans h3, (hb.frozen (p := ⟨W + 1, 0, none⟩) (by show W + 1 < W + 2; omega)).trans h4⟩
theorem Boxes2.put {W : Nat} {u u' : Value} {v : World} (h : Boxes2 W u v) : Boxes2 W u' (v.setCell ⟨W + 1, 0, none⟩ u') := by
  obtain ⟨h1, h2, h3, h4⟩ := h
  refine ⟨?_, World.cell?_setCell_same _ _ _ h2, by simpa using h3, by simpa using h4⟩
  rw [World.cell?_setCell_other _ _ _ _ (by intro e; injection e; omega)]; exact h1
theorem stackOf_up (dv : Value) (l : P.Lays) (w : World) (hu : LayR w dv l) (hl : l.length ≤ 2 ^ 20) (hle : ∀ e ∈ l, Small e.1 ∧ P.Up e.1) :
    Calls Tryz.prog 118 #[dv] w (StackPost l w) := by
  obtain ⟨i0, hi, hz0, hz1, hz2⟩ := info_parts info_lay
  have HU := Lib.hid hu
  have HLE := Lib.hid hle; clear hle
  have HBX := Lib.hid (show Boxes2 w.heap.size (.slice none 0 0) ((w.alloc (.cells #[.slice none 0 0] 52)).alloc (.cells #[.slice none 0 0] 52)) by
    refine ⟨?_, ?_, ?_, ?_⟩ <;> go_simp)
  have HB0 := Lib.hid (((Below.refl w.heap.size w).alloc (Nat.le_refl _) (.cells #[.slice none 0 0] 52)).alloc (by simp) (.cells #[.slice none 0 0] 52))
  have HA0 := Lib.hid (show Acc 74 2 layE (w.heap.size + 2) ((w.alloc (.cells #[.slice none 0 0] 52)).alloc (.cells #[.slice none 0 0] 52)) (.slice none 0 0) [] [] from
    Acc.nil (World.ownsRow_nil _ _ _ _) (by simp))
  obtain ⟨dad, dcap, rfl, _, _⟩ := hu
  go_enter Tryz.func118, Tryz.ntmps118
  go_wp2_with fail
  go_loopw [9] (fun i wr => ∃ (j : Nat) (u : Value) (xs : List Value), j ≤ l.length ∧ i = .int .i64 j ∧ Boxes2 w.heap.size u wr ∧ Acc 74 2 layE (w.heap.size + 2) wr u (l.take j) xs ∧ Below w.heap.size w wr) (fun i _ => l.length - (intOf i).toNat)
  case atStart => exact ⟨0, _, _, Nat.zero_le _, rfl, HBX.out, HA0.out, HB0.out⟩
  case round =>
    obtain ⟨j, u, xs, hj, rfl, hbx, hacc, hb⟩ := hrel
    clear HA0 HBX HB0
    have HBZ := Lib.hid (show w.heap.size + 2 ≤ wr.heap.size by obtain ⟨_, _, _, _, h, _⟩ := hacc; exact h)
    have hlt0 : (l.take j).length = j := by rw [List.length_take]; omega
    obtain ⟨uad, ucap, hu'⟩ := hacc.form
    rw [hlt0] at hu'
    subst hu'
    have HA := Lib.hid hacc; have HBX := Lib.hid hbx; have HB := Lib.hid hb
    have HL0 := Lib.hid hlt0; clear hlt0
    obtain ⟨b0, b1, f0, f1⟩ := hbx
    by_cases hlt : j < l.length
    · obtain ⟨g, o, hga, hgs, x, c0, c1, hx⟩ := (HU.out.below hb).at j hlt
      have HEN := Lib.hid (take_snoc l j hlt)
      have hll := (HLE.out _ (List.getElem_mem hlt)).1
      have HUP := Lib.hid (HLE.out _ (List.getElem_mem hlt)).2
      have hba := (Below.refl wr.heap.size wr).alloc (Nat.le_refl _) (.cells #[x, .bool l[j].2] 74)
      have HBA := Lib.hid hba
      have HX := Lib.hid (hx.below hba)
      have HS := Lib.hid (show KOS w.heap.size wr.heap.size (.slice uad j ucap) x l[j].2 (wr.alloc (.cells #[x, .bool l[j].2] 74)).drew from by
        have h0 := HBZ.out
        have k1 : (wr.alloc (.cells #[x, .bool l[j].2] 74)).cell? ⟨w.heap.size + 1, 0, none⟩ = some (.slice uad j ucap) := (hba.cell (p := ⟨w.heap.size + 1, 0, none⟩) (by show w.heap.size + 1 < wr.heap.size; omega)).trans b1
        have k2 : (wr.alloc (.cells #[x, .bool l[j].2] 74)).frozen? ⟨w.heap.size + 1, 0, none⟩ = false := (hba.frozen (p := ⟨w.heap.size + 1, 0, none⟩) (by show w.heap.size + 1 < wr.heap.size; omega)).trans f1
        refine KOS.step (v := wr.alloc (.cells #[x, .bool l[j].2] 74)) ⟨k1, ?_, ?_, k2, by simp; omega, by simp⟩ (Below.refl _ _).drew <;> go_simp)
      obtain ⟨xd, xc, rfl, _, _⟩ := hx
      subst hga
      generalize l[j] = en at *
      obtain ⟨eo, et⟩ := en
      simp only at hll HX HS HBA HUP c1
      have i1 : (j : Int) < (l.length : Int) := by omega
      clear hb hacc hba
      go_upto_region 5 with fail
      refine Left.region [12] (S := KOS w.heap.size wr.heap.size (.slice uad j ucap) (.slice xd eo.length xc) et) (by kernel_rfl) HS.out (fun hS0 => ?_)
      refine Left.take (i := 0) (v := .pointer (some ⟨w.heap.size + 1, 0, none⟩)) rfl (by kernel_rfl) (by kernel_rfl) (by kernel_rfl) (by kernel_rfl) (fun _ _ _ h => h) (Or.inl ⟨by rfl, fun z hz => ?_⟩) hS0 ?_
      · obtain ⟨z1, z2, z3, z4, z5, z6⟩ := hz
        go_simp
      try simp only [List.getElem_toArray, List.getElem_cons_zero, Act.put, List.setIfInBounds_toArray, List.set_cons_zero, List.set_cons_succ]
      refine Left.take (i := 1) (v := .slice uad j ucap) rfl (by kernel_rfl) (by kernel_rfl) (by kernel_rfl) (by kernel_rfl) (fun _ _ _ h => h) (Or.inl ⟨by rfl, fun z hz => ?_⟩) hS0 ?_
      · obtain ⟨z1, z2, z3, z4, z5, z6⟩ := hz
        go_simp
      try simp only [List.getElem_toArray, List.getElem_cons_zero, List.getElem_cons_succ, Act.put, List.setIfInBounds_toArray, List.set_cons_zero, List.set_cons_succ]
      refine Left.take (i := 2) (v := .pointer (some ⟨wr.heap.size, 0, none⟩)) rfl (by kernel_rfl) (by kernel_rfl) (by kernel_rfl) (by kernel_rfl) (fun _ _ _ h => h) (Or.inl ⟨by rfl, fun z hz => ?_⟩) hS0 ?_
      · obtain ⟨z1, z2, z3, z4, z5, z6⟩ := hz
        go_simp
      try simp only [List.getElem_toArray, List.getElem_cons_zero, List.getElem_cons_succ, Act.put, List.setIfInBounds_toArray, List.set_cons_zero, List.set_cons_succ]
      refine Left.take (i := 3) (v := .pointer (some ⟨wr.heap.size, 0, none⟩)) rfl (by kernel_rfl) (by kernel_rfl) (by kernel_rfl) (by kernel_rfl) (fun _ _ _ h => h) (Or.inl ⟨by rfl, fun z hz => ?_⟩) hS0 ?_
      · obtain ⟨z1, z2, z3, z4, z5, z6⟩ := hz
        go_simp
      try simp only [List.getElem_toArray, List.getElem_cons_zero, List.getElem_cons_succ, Act.put, List.setIfInBounds_toArray, List.set_cons_zero, List.set_cons_succ]
      refine Left.take (i := 4) (v := .slice xd eo.length xc) rfl (by kernel_rfl) (by kernel_rfl) (by kernel_rfl) (by kernel_rfl) (fun _ _ _ h => h) (Or.inl ⟨by rfl, fun z hz => ?_⟩) hS0 ?_
      · obtain ⟨z1, z2, z3, z4, z5, z6⟩ := hz
        go_simp
      try simp only [List.getElem_toArray, List.getElem_cons_zero, List.getElem_cons_succ, Act.put, List.setIfInBounds_toArray, List.set_cons_zero, List.set_cons_succ]
      refine Left.take (i := 6) (v := .pointer (some ⟨wr.heap.size, 1, none⟩)) rfl (by kernel_rfl) (by kernel_rfl) (by kernel_rfl) (by kernel_rfl) (fun _ _ _ h => h) (Or.inl ⟨by rfl, fun z hz => ?_⟩) hS0 ?_
      · obtain ⟨z1, z2, z3, z4, z5, z6⟩ := hz
        go_simp
      try simp only [List.getElem_toArray, List.getElem_cons_zero, List.getElem_cons_succ, Act.put, List.setIfInBounds_toArray, List.set_cons_zero, List.set_cons_succ]
      refine Left.take (i := 7) (v := .bool et) rfl (by kernel_rfl) (by kernel_rfl) (by kernel_rfl) (by kernel_rfl) (fun _ _ _ h => h) (Or.inl ⟨by rfl, fun z hz => ?_⟩) hS0 ?_
      · obtain ⟨z1, z2, z3, z4, z5, z6⟩ := hz
        go_simp
      try simp only [List.getElem_toArray, List.getElem_cons_zero, List.getElem_cons_succ, Act.put, List.setIfInBounds_toArray, List.set_cons_zero, List.set_cons_succ]
      refine Left.ready (rs := [5]) (by kernel_rfl) (by simp) ?_
      refine Nexts.cons rfl (fun K hK => ?_) Nexts.nil
      have HXD := Lib.hid (HX.out.below (Below.refl _ _).drew)
      go_simp
      refine (dictionaryOf_up _ eo _ HXD.out HUP.out hll.len hll.outs).mono ?_
      rintro e v1 ⟨x1, rfl, hI, hb1⟩
      have hzz : wr.heap.size + 1 ≤ v1.heap.size := by have := hb1.size; simp at this; omega
      have HZ1 := Lib.hid hzz
      have HB1 := Lib.hid (show Below wr.heap.size wr v1 from HBA.out.drew.trans (hb1.mono (by simp)))
      have HI := Lib.hid (show Ents v1 (Bet (wr.heap.size + 1) v1.heap.size) x1 eo from by simpa using hI)
      obtain ⟨x1d, x1c, rfl, _, _⟩ := hI
      refine on_held hK (by decide) (hS0.step hb1) (fun hS1 => ?_)
      clear hK K hb1 hzz
      try simp only [List.getElem_toArray, List.getElem_cons_zero, List.getElem_cons_succ, Act.put, List.setIfInBounds_toArray, List.set_cons_zero, List.set_cons_succ]
      refine Left.take (i := 8) (v := .agg #[.slice x1d eo.length x1c, .bool et]) rfl (by kernel_rfl) (by kernel_rfl) (by kernel_rfl) (by kernel_rfl) (fun _ _ _ h => h) (Or.inl ⟨by rfl, fun z hz => ?_⟩) hS1 ?_
      · obtain ⟨z1, z2, z3, z4, z5, z6⟩ := hz
        go_simp
      try simp only [List.getElem_toArray, List.getElem_cons_zero, List.getElem_cons_succ, Act.put, List.setIfInBounds_toArray, List.set_cons_zero, List.set_cons_succ]
      refine Left.ready (rs := [9]) (by kernel_rfl) (by simp) ?_
      refine Nexts.cons rfl (fun K hK => ?_) Nexts.nil
      go_simp
      refine on_held hK (by decide) (hS1.step ((Below.refl _ _).alloc (Nat.le_refl _) _)) (fun hS2 => ?_)
      clear hK K
      try simp only [List.getElem_toArray, List.getElem_cons_zero, List.getElem_cons_succ, Act.put, List.setIfInBounds_toArray, List.set_cons_zero, List.set_cons_succ]
      refine Left.ready (rs := [10]) (by kernel_rfl) (by simp) ?_
      refine Nexts.cons rfl (fun K hK => ?_) Nexts.nil
      have HA2 := Lib.hid ((HA.out.keep layE_ok HB1.out).keep layE_ok ((Below.refl v1.heap.size v1).alloc (Nat.le_refl _) (.cells #[.slice x1d eo.length x1c, .bool et] 74)))
      refine step_append_lies _ rfl _ _ 50 rfl (w.heap.size + 2) 74 i0 (.agg #[.slice none 0 0, .bool false]) 2 32 Tryz.underlying50 hi hz0 hz1 hz2 rfl (by decide) (.slice uad j ucap) j xs rfl (by have := HA2.out.owns; rwa [HL0.out] at this) ⟨v1.heap.size, 0, none⟩ 1 1 [.slice x1d eo.length x1c, .bool et] rfl rfl ?_ ?_ (by decide) (by unfold maxLen; omega) (by omega) ?_ _ rfl ?_
      · intro i y hy
        match i, hy with
        | 0, hy => injection hy with hy; subst hy; rw [add0]; go_simp
        | 1, hy => injection hy with hy; subst hy; rw [add0]; go_simp
      · intro y hy
        simp only [List.mem_cons, List.not_mem_nil, or_false] at hy
        rcases hy with rfl | rfl <;> rfl
      · have h1 := HZ1.out; have h2 := HBZ.out; simp; omega
      intro g1 cap1 v3 hown hgr hat hlt3
      have HB3 := Lib.hid (show Below (w.heap.size + 2) (v1.alloc (.cells #[.slice x1d eo.length x1c, .bool et] 74)) v3 from
        (Below.refl _ _).grown hgr (by have h1 := HZ1.out; have h2 := HBZ.out; simp; omega) (fun k hk => (World.ownsRow.lt HA2.out.owns k hk).1))
      have hS3 := hS2.chg (X := fun b => (Value.slice uad j ucap).ownBlock = some b) ⟨hgr.os, hgr.tape, hgr.output, hgr.size, fun b hb hf => hgr.block b hb fun e => hf e.symm⟩
        (fun hk => by have := (World.ownsRow.lt HA2.out.owns _ hk).1; omega) (fun hk => by have := (World.ownsRow.lt HA.out.owns _ hk).2; omega)
      have hsc := hS3.1
      have hsf := hS3.2.2.2.1
      have HBX3 := Lib.hid (((HBX.out.step (HB1.out.mono HBZ.out)).step ((Below.refl (w.heap.size + 2) v1).alloc (by have h1 := HZ1.out; have h2 := HBZ.out; omega) (.cells #[.slice x1d eo.length x1c, .bool et] 74))).step HB3.out)
      have HAC := Lib.hid (HA.out.snoc (a := (eo, et)) (cs := [.slice x1d eo.length x1c, .bool et]) (v1 := v1) (v2 := v1.alloc (.cells #[.slice x1d eo.length x1c, .bool et] 74)) (v3 := v3) (g := g1) (cap := cap1) (F := Bet (wr.heap.size + 1) v1.heap.size) layE_ok HB1.out (fun b hb => ⟨by have := hb.1; omega, hb.2⟩) (layE_mk HI.out) rfl ((Below.refl _ _).alloc (Nat.le_refl _) _) (by rw [HL0.out]; exact hown) hgr hat)
      have HBW := Lib.hid (show Below w.heap.size w v3 from ((HB.out.trans (HB1.out.mono (by have := HBZ.out; omega))).trans ((Below.refl w.heap.size v1).alloc (by have h1 := HZ1.out; have h2 := HBZ.out; omega) _)).trans (HB3.out.mono (by omega)))
      refine on_held hK (by decide) hS3 (fun hS4 => ?_)
      clear hK K hown hgr hat hS2 hS1 HB1 HB3 HI HA2 HX HXD HS HA HBX HB HBA HUP
      try simp only [List.getElem_toArray, List.getElem_cons_zero, List.getElem_cons_succ, Act.put, List.setIfInBounds_toArray, List.set_cons_zero, List.set_cons_succ]
      refine Left.take (i := 11) (v := .pointer (some ⟨w.heap.size + 1, 0, none⟩)) rfl (by kernel_rfl) (by kernel_rfl) (by kernel_rfl) (by kernel_rfl) (fun _ _ _ h => h) (Or.inl ⟨by rfl, fun z hz => ?_⟩) hS4 ?_
      · obtain ⟨z1, z2, z3, z4, z5, z6⟩ := hz
        go_simp
      try simp only [List.getElem_toArray, List.getElem_cons_zero, List.getElem_cons_succ, Act.put, List.setIfInBounds_toArray, List.set_cons_zero, List.set_cons_succ]
      refine Left.ready (rs := [12]) (by kernel_rfl) (by simp) ?_
      refine Nexts.cons rfl (fun K hK => ?_) Nexts.nil
      go_simp
      refine on_last hK (by decide) ?_
      clear hK K hS0
      try simp only [List.getElem_toArray, List.getElem_cons_zero, List.getElem_cons_succ, Act.put, List.setIfInBounds_toArray, List.set_cons_zero, List.set_cons_succ]
      refine Left.done (by kernel_rfl) ?_ _
      have HFIN := Lib.hid (show Boxes2 w.heap.size (.slice (some ⟨g1, 0, none⟩) (j + 1) cap1) (v3.setCell ⟨w.heap.size + 1, 0, none⟩ (.slice (some ⟨g1, 0, none⟩) (j + 1) cap1)) from HBX3.out.put)
      have HAF := Lib.hid (show Acc 74 2 layE (w.heap.size + 2) (v3.setCell ⟨w.heap.size + 1, 0, none⟩ (.slice (some ⟨g1, 0, none⟩) (j + 1) cap1)) (.slice (some ⟨g1, 0, none⟩) (j + 1) cap1) (l.take j ++ [(eo, et)]) (xs ++ [.slice x1d eo.length x1c, .bool et]) from by
        have h := HAC.out
        rw [HL0.out] at h
        exact h.stand layE_ok (X := fun b => b = w.heap.size + 1) ((Chg.refl (fun b => b = w.heap.size + 1) v3).setCell (p := ⟨w.heap.size + 1, 0, none⟩) rfl _) (by intro b hb; omega))
      have HBF := Lib.hid (show Below w.heap.size w (v3.setCell ⟨w.heap.size + 1, 0, none⟩ (.slice (some ⟨g1, 0, none⟩) (j + 1) cap1)) from HBW.out.setCell (by simp) _)
      clear hsc hsf hS3 hS4 HAC HBX3 HBW
      generalize v3.setCell ⟨w.heap.size + 1, 0, none⟩ (.slice (some ⟨g1, 0, none⟩) (j + 1) cap1) = v4 at *
      go_wp2
      go_roundw
      case rel => exact ⟨j + 1, _, _, by omega, by go_num, HFIN.out, by rw [HEN.out]; exact HAF.out, HBF.out⟩
      case measure => simp [intOf]; omega
    · have hjl : l.length = j := by omega
      have HT := Lib.hid (show l.take j = l from List.take_of_length_le (by omega))
      clear hb hacc
      go_wp2
      refine bodyPost_ret (v := .agg #[.slice uad j ucap]) (by simp [results, Tryz.results118, go_sem, b0]) rfl ⟨_, rfl, ?_, HB.out.setCell (Nat.le_refl _) _⟩
      have h := HA.out
      rw [HT.out] at h
      have hr := h.row (by omega)
      have hr2 : Lays wr (Bet (w.heap.size + 2) wr.heap.size) (.slice uad j ucap) l := hr
      exact (hr2.stand layE_ok (X := fun b => b = w.heap.size) ((Chg.refl (fun b => b = w.heap.size) wr).setCell (p := ⟨w.heap.size, 0, none⟩) rfl (.slice uad j ucap)) (by intro b hb; have := hb.1; omega)).wide (fun b hb => ⟨by have := hb.1; omega, by simpa [World.setCell] using hb.2⟩) (fun b hb => hb.2)
end
section
namespace P
/-- an index of a layer -/
def inL (l : Lays) (i : Int) : Bool := decide (0 ≤ i ∧ i ≤ (l.length : Int) - 1)
def setOk (i : Int) (l : Lays) : Bool := stack l && inL l i
def setOn (i : Nat) (t : Bool) : Lays → Lays
  | [] => []
  | e :: l => match i with
    | 0 => (e.1, t) :: l
    | i + 1 => e :: setOn i t l
def keptL (ok : Bool) (l : Lays) : Lays := if ok then l else []
theorem setOn_len (i : Nat) (t : Bool) (l : Lays) : (setOn i t l).length = l.length := by
  induction l generalizing i with
  | nil => cases i <;> rfl
  | cons e l ih => cases i with
    | zero => rfl
    | succ i => simp [setOn, ih i]
theorem setOn_eq (i : Nat) (t : Bool) (l : Lays) (h : i < l.length) : setOn i t l = l.set i (l[i].1, t) := by
  induction l generalizing i with
  | nil => cases i <;> rfl
  | cons e l ih => cases i with
    | zero => rfl
    | succ i => simp [setOn, ih i (by simpa using h)]
theorem setOn_size (i : Nat) (t : Bool) (l : Lays) : sizeL (setOn i t l) = sizeL l := by
  induction l generalizing i with
  | nil => cases i <;> rfl
  | cons e l ih => cases i with
    | zero => rfl
    | succ i => simp [setOn, sizeL, ih i]
theorem layers_up {l : Lays} (h : layers l = true) : ∀ e ∈ l, Up e.1 := fun e he => up_of_dic (List.all_eq_true.1 h e he)
theorem stack_layers {l : Lays} (h : stack l = true) : layers l = true := by
  unfold stack at h; simp only [Bool.and_eq_true] at h; exact h.2
end P
open Go Go.RowKit
set_option maxHeartbeats 2000000
set_option maxRecDepth 100000
/-- one layer of a row is switched -/
theorem Lays.switch {v : World} {F : Blk} {ad : Option Addr} {n cap : Nat} {l : P.Lays} (h : Lays v F (.slice ad n cap) l) (i : Nat) (hi : i < l.length) (t : Bool) :
    ∃ g o, ad = some ⟨g, o, none⟩ ∧ F g ∧ g < v.heap.size ∧ (∃ y, v.cell? ⟨g, o + i * 2 + 1, none⟩ = some y) ∧ v.frozen? ⟨g, o + i * 2 + 1, none⟩ = false ∧ Lays (v.setCell ⟨g, o + i * 2 + 1, none⟩ (.bool t)) F (.slice ad n cap) (P.setOn i t l) := by
  obtain ⟨ad', cap', he, hl, hn, h3⟩ := h
  injection he with h1 h2 h4
  subst h1 h2 h4
  obtain ⟨g, o, G, C, hg, hr⟩ := h3.resolve_left (by intro e; rw [e] at hi; exact absurd hi (Nat.not_lt_zero _))
  obtain ⟨x, hC, hx⟩ := hr.el i hi
  have c1 := hr.cel i hi 1 (by rw [hC]; simp)
  simp only [hC, List.getElem_cons_zero, List.getElem_cons_succ] at c1
  refine ⟨g, o, hg, hr.own, hr.lt _ hr.own, ⟨_, c1.1⟩, c1.2, ?_⟩
  have hr2 := hr.put_cell layE_ok i hi 1 (by decide) (.bool t) (l[i].1, t) ⟨x, by rw [hC]; rfl, hx.stand entE_ok (X := fun b => b = g) ((Chg.refl (fun b => b = g) v).setCell (p := ⟨g, o + i * 2 + 1, none⟩) rfl _) (by
    rintro b hb rfl
    exact (hr.sub i hi _ hb).2 rfl)⟩
  rw [← P.setOn_eq i t l hi] at hr2
  exact ⟨ad, cap, by rw [P.setOn_len], by rw [P.setOn_len]; exact hl, ⟨hn.1, by rw [P.setOn_len]; exact hn.2⟩, .inr ⟨g, o, _, _, hg, hr2⟩⟩
theorem l8At (u : Value) (l : P.Lays) (i : Int) (w : World) (hu : LayR w u l) (hl : l.length ≤ 2 ^ 20) (hle : ∀ e ∈ l, Small e.1) :
    Calls Tryz.prog 114 #[.agg #[u], .int .i64 i] w fun e w' => e = .returned (.bool (P.setOk i l)) ∧ Below w.heap.size w w' := by
  have hb0 := (Below.refl w.heap.size w).alloc (Nat.le_refl _) (.cells #[u] 52)
  have HU := Lib.hid (hu.below hb0); have HB0 := Lib.hid hb0; have HLE := Lib.hid hle
  have HC0 := Lib.hid (show (w.alloc (.cells #[u] 52)).cell? ⟨w.heap.size, 0, none⟩ = some u by go_simp)
  clear hle hb0
  obtain ⟨ad, cap, rfl, _, _⟩ := hu
  go_enter Tryz.func114, Tryz.ntmps114
  go_wp2_with fail
  refine (spec_isValidStack _ l _ HU.out HLE.out).mono ?_
  rintro e w1 ⟨rfl, hb⟩
  have c1 := (hb.cell (p := ⟨w.heap.size, 0, none⟩) (by simp)).trans HC0.out
  have HB1 := Lib.hid (HB0.out.trans (hb.mono (by simp)))
  clear hb
  cases hs : P.stack l
  · have HP := Lib.hid (show P.setOk i l = false by unfold P.setOk; rw [hs]; rfl)
    clear hs
    go_wp2
    go_ret
    exact ⟨ret_bool HP.out.symm, HB1.out⟩
  · have HP := Lib.hid (show P.setOk i l = P.inL l i by unfold P.setOk; rw [hs]; rfl)
    have hw1 : IntKind.i64.wrap ((l.length : Int) - 1) = (l.length : Int) - 1 := IntWalk.i64_in _ (by omega)
    clear hs
    go_wp2_with fail
    refine (l1In _ _ _ _).mono ?_
    rintro e w' ⟨rfl, rfl⟩
    go_wp2
    go_ret
    exact ⟨ret_bool (by rw [HP.out]; unfold P.inL; simp), HB1.out⟩
/-- the program's check of indexes -/
abbrev isF (W : Nat) : Value := .func (Fn.func 166) #[] #[.pointer (some ⟨W, 0, none⟩)]
theorem is_in (n : Int) (l : P.Lays) (W : Nat) (ad : Option Addr) (cap : Nat) (w : World) (hl : l.length ≤ 2 ^ 20) (hc : w.cell? ⟨W, 0, none⟩ = some (.slice ad l.length cap)) :
    Calls Tryz.prog 166 #[.int .i64 n, .pointer (some ⟨W, 0, none⟩)] w fun e w' => e = .returned (.bool (P.inL l n)) ∧ w = w' := by
  have hw1 : IntKind.i64.wrap ((l.length : Int) - 1) = (l.length : Int) - 1 := IntWalk.i64_in _ (by omega)
  go_enter Tryz.func166, Tryz.ntmps166
  go_wp2_with fail
  refine (impl_in _ _ _ _).mono ?_
  rintro e w' ⟨rfl, rfl⟩
  go_wp2
  go_ret
  exact ⟨ret_bool (by unfold P.inL; simp), rfl⟩
theorem is_not (n : Int) (l : P.Lays) (W C : Nat) (ad : Option Addr) (cap : Nat) (w : World) (hl : l.length ≤ 2 ^ 20) (hc : w.cell? ⟨W, 0, none⟩ = some (.slice ad l.length cap)) (hf : w.cell? ⟨C, 0, none⟩ = some (isF W)) :
    Calls Tryz.prog 192 #[.int .i64 n, .pointer (some ⟨C, 0, none⟩)] w fun e w' => e = .returned (.bool (!P.inL l n)) ∧ w = w' := by
  go_enter Tryz.func192, Tryz.ntmps192
  go_wp2_with fail
  refine (is_in _ l _ _ _ _ hl hc).mono ?_
  rintro e w' ⟨rfl, rfl⟩
  go_wp2
  go_ret
  exact ⟨ret_bool (by simp), rfl⟩
theorem isIndex (xv : Value) (xs : List Int) (l : P.Lays) (W C : Nat) (ad : Option Addr) (cap : Nat) (w : World) (hu : IntR w xv xs) (hl : l.length ≤ 2 ^ 20) (hc : w.cell? ⟨W, 0, none⟩ = some (.slice ad l.length cap)) (hf : w.cell? ⟨C, 0, none⟩ = some (isF W)) :
    Calls Tryz.prog 206 #[xv, notF C] w fun e w' => (∃ n : Int, e = .returned (.int .i64 n) ∧ decide (0 ≤ n) = !(xs.all (P.inL l))) ∧ w = w' := by
  have HU := Lib.hid hu; have HC := Lib.hid hc; have HF := Lib.hid hf
  clear hc hf
  obtain ⟨xd, xc, rfl, hxl, _⟩ := hu
  go_enter Tryz.func206, Tryz.ntmps206
  go_wp2
  go_loop [5, 8] (fun _ i => ∃ j : Nat, j ≤ xs.length ∧ i = .int .i64 j ∧ (xs.take j).all (P.inL l) = true) (fun _ i => xs.length - (intOf i).toNat)
  case atStart => exact ⟨0, Nat.zero_le _, rfl, by simp⟩
  case round =>
    obtain ⟨j, hj, rfl, ha⟩ := hrel
    have HA := Lib.hid ha; clear ha
    by_cases hlt : j < xs.length
    · obtain ⟨g, o, rfl, hg, c0⟩ := HU.out.at j hlt
      have HSN := Lib.hid (take_snoc xs j hlt)
      generalize xs[j] = x at *
      cases hx : P.inL l x
      · have HNO := Lib.hid (show xs.all (P.inL l) = false by
          rw [← List.take_append_drop (j + 1) xs, HSN.out, List.all_append, List.all_append]
          simp [hx])
        go_wp2_with fail
        refine (is_not _ l _ _ _ _ _ hl HC.out HF.out).mono ?_
        rintro e w' ⟨rfl, rfl⟩
        rw [hx]
        go_wp2
        go_ret
        exact ⟨⟨(j : Int), rfl, by rw [HNO.out]; simp⟩, rfl⟩
      · have HX := Lib.hid hx
        go_wp2_with fail
        refine (is_not _ l _ _ _ _ _ hl HC.out HF.out).mono ?_
        rintro e w' ⟨rfl, rfl⟩
        rw [hx]
        go_wp2
        go_round
        case rel => exact ⟨j + 1, by omega, by go_num, by rw [HSN.out, List.all_append, HA.out]; simp [HX.out]⟩
        case measure => simp [intOf]; omega
    · have HT := Lib.hid (show xs.all (P.inL l) = true by have := HA.out; rwa [List.take_of_length_le (by omega)] at this)
      go_wp2
      go_ret
      exact ⟨⟨-1, rfl, by rw [HT.out]; rfl⟩, rfl⟩
theorem isContains (xv : Value) (xs : List Int) (l : P.Lays) (W C : Nat) (ad : Option Addr) (cap : Nat) (w : World) (hu : IntR w xv xs) (hl : l.length ≤ 2 ^ 20) (hc : w.cell? ⟨W, 0, none⟩ = some (.slice ad l.length cap)) (hf : w.cell? ⟨C, 0, none⟩ = some (isF W)) :
    Calls Tryz.prog 191 #[xv, notF C] w fun e w' => e = .returned (.bool (!(xs.all (P.inL l)))) ∧ w = w' := by
  have HU := Lib.hid hu
  obtain ⟨xd, xc, rfl, hxl, _⟩ := hu
  go_enter Tryz.func191, Tryz.ntmps191
  go_wp2_with fail
  refine (isIndex _ xs l _ _ _ _ _ HU.out hl hc hf).mono ?_
  rintro e w' ⟨⟨n, rfl, hn⟩, rfl⟩
  have HN := Lib.hid hn; clear hn
  go_wp2
  go_ret
  exact ⟨ret_bool HN.out, rfl⟩
theorem isAll (xv : Value) (xs : List Int) (l : P.Lays) (W : Nat) (ad : Option Addr) (cap : Nat) (w : World) (hu : IntR w xv xs) (hl : l.length ≤ 2 ^ 20) (hW : W < w.heap.size) (hc : w.cell? ⟨W, 0, none⟩ = some (.slice ad l.length cap)) :
    Calls Tryz.prog 165 #[xv, isF W] w fun e w' => e = .returned (.bool (xs.all (P.inL l))) ∧ Below w.heap.size w w' := by
  have hb0 := (Below.refl w.heap.size w).alloc (Nat.le_refl _) (.cells #[isF W] 130)
  have HU := Lib.hid (hu.below hb0); have HC := Lib.hid ((hb0.cell (p := ⟨W, 0, none⟩) hW).trans hc)
  clear hb0 hc
  obtain ⟨xd, xc, rfl, hxl, _⟩ := hu
  go_enter Tryz.func165, Tryz.ntmps165
  go_wp2_with fail
  refine (isContains _ xs l _ _ _ _ _ HU.out hl HC.out (by go_simp)).mono ?_
  rintro e w' ⟨rfl, rfl⟩
  go_wp2
  go_ret
  exact ⟨ret_bool (by simp), (Below.refl _ _).alloc (Nat.le_refl _) _⟩
theorem isLayer (u xv : Value) (l : P.Lays) (xs : List Int) (w : World) (hu : LayR w u l) (hx : IntR w xv xs) (hl : l.length ≤ 2 ^ 20) (hle : ∀ e ∈ l, Small e.1) (hE : Env w) :
    Calls Tryz.prog 117 #[.agg #[u], xv] w fun e w' => e = .returned (.bool (P.stack l && xs.all (P.inL l))) ∧ Below w.heap.size w w' := by
  have hb0 := (Below.refl w.heap.size w).alloc (Nat.le_refl _) (.cells #[u] 52)
  have HU := Lib.hid (hu.below hb0); have HX := Lib.hid (hx.below hb0); have HB0 := Lib.hid hb0; have HLE := Lib.hid hle; have HE := Lib.hid (hE.below hb0 hE.size)
  have HC0 := Lib.hid (show (w.alloc (.cells #[u] 52)).cell? ⟨w.heap.size, 0, none⟩ = some u by go_simp)
  clear hle hE hb0
  obtain ⟨ad, cap, rfl, _, _⟩ := hu
  obtain ⟨xd, xc, rfl, _, _⟩ := hx
  go_enter Tryz.func117, Tryz.ntmps117
  go_wp2_with fail
  refine (impl_isValidStack _ l _ HU.out HLE.out HE.out).mono ?_
  rintro e w1 ⟨rfl, hb⟩
  have c1 := (hb.cell (p := ⟨w.heap.size, 0, none⟩) (by simp)).trans HC0.out
  have HB1 := Lib.hid (HB0.out.trans (hb.mono (by simp)))
  have HX1 := Lib.hid (HX.out.below hb)
  have hW : w.heap.size < w1.heap.size := by have := hb.size; simp at this; omega
  clear hb
  cases hs : P.stack l
  · have HS2 := Lib.hid hs; clear hs
    go_wp2
    go_ret
    exact ⟨ret_bool (by rw [HS2.out]; rfl), HB1.out⟩
  · have HS2 := Lib.hid hs; clear hs
    go_wp2_with fail
    refine (isAll _ xs l _ _ _ _ HX1.out hl hW c1).mono ?_
    rintro e w2 ⟨rfl, hb⟩
    have HB2 := Lib.hid (HB1.out.trans (hb.mono HB1.out.size))
    clear hb
    go_wp2
    go_ret
    exact ⟨ret_bool (by rw [HS2.out, Bool.true_and]), HB2.out⟩
end
section
open Go Go.RowKit
set_option maxHeartbeats 4000000
set_option maxRecDepth 100000
/-- the box of a stack and the box of the result -/
def SkBox (W : Nat) (dv : Value) (v : World) : Prop :=
  v.cell? ⟨W, 0, none⟩ = some dv ∧ v.cell? ⟨W + 1, 0, none⟩ = some (.slice none 0 0) ∧ v.frozen? ⟨W + 1, 0, none⟩ = false ∧ W + 1 < v.heap.size
theorem SkBox.stand {W : Nat} {dv : Value} {v v' : World} {X : Blk} (h : SkBox W dv v) (hc : Chg X v v') (h0 : ¬ X W) (h1 : ¬ X (W + 1)) : SkBox W dv v' := by
  obtain ⟨a, b, c, d⟩ := h
  exact ⟨(hc.cell (p := ⟨W, 0, none⟩) (by show W < _; omega) h0).trans a, (hc.cell (p := ⟨W + 1, 0, none⟩) d h1).trans b, (hc.frozen (p := ⟨W + 1, 0, none⟩) d h1).trans c, Nat.lt_of_lt_of_le d hc.size⟩
theorem SkBox.below {W : Nat} {dv : Value} {v v' : World} (h : SkBox W dv v) (hb : Below v.heap.size v v') : SkBox W dv v' := h.stand (Below.chg hb fun _ => False) (fun h => h) (fun h => h)
theorem SkBox.new (dv : Value) (v : World) : SkBox v.heap.size dv ((v.alloc (.cells #[dv] 52)).alloc (.cells #[.slice none 0 0] 52)) := by
  refine ⟨?_, ?_, ?_, ?_⟩ <;> go_simp
/-- a result of a stack's function: the row, the answer -/
def SkPost (ok : Bool) (l : P.Lays) (w : World) (e : Ending) (w' : World) : Prop :=
  ∃ u, e = .returned (.tuple #[.agg #[u], .bool ok]) ∧ Lays w' (Bet w.heap.size w'.heap.size) u (P.keptL ok l) ∧ Below w.heap.size w w'
abbrev SetPost (i : Int) (t : Bool) (l : P.Lays) := SkPost (P.setOk i l) (P.setOn i.toNat t l)
/-- the row with the switched layer, behind the result's store -/
theorem set_done {w v : World} {A B : Nat} {u x : Value} {l : P.Lays} (h : Lays v (Bet A B) u l) (hA : w.heap.size + 1 < A) (hB : B ≤ v.heap.size) : Lays (v.setCell ⟨w.heap.size + 1, 0, none⟩ x) (Bet w.heap.size (v.setCell ⟨w.heap.size + 1, 0, none⟩ x).heap.size) u l := by
  refine (h.stand (X := fun b => b = w.heap.size + 1) layE_ok ((Chg.refl (fun b => b = w.heap.size + 1) v).setCell (p := ⟨w.heap.size + 1, 0, none⟩) rfl _) ?_).wide ?_ ?_
  · intro b hb e; have := hb.1; omega
  · intro b hb; have h1 := hb.1; have h2 := hb.2; exact ⟨by omega, by simp [World.setCell]; omega⟩
  · intro b hb; exact hb.2
theorem spec_setEnabled (dv : Value) (l : P.Lays) (i : Int) (t : Bool) (w : World) (hu : LayR w dv l) (hs : SmallS l) :
    Calls Tryz.prog 87 #[.agg #[dv], .int .i64 i, .bool t] w (SetPost i t l w) := by
  have hb0 : Below w.heap.size w ((w.alloc (.cells #[dv] 52)).alloc (.cells #[.slice none 0 0] 52)) := ((Below.refl w.heap.size w).alloc (Nat.le_refl _) _).alloc (by simp) _
  have HU := Lib.hid (hu.below hb0)
  have HB0 := Lib.hid hb0; clear hb0
  have HN := Lib.hid (SkBox.new dv w)
  have HSM := Lib.hid hs; clear hs
  obtain ⟨ad, cap, rfl, _, _⟩ := hu
  go_enter Tryz.func87, Tryz.ntmps87
  go_wp2_with fail
  refine (l8At _ l i _ HU.out HSM.out.len HSM.out.each).mono ?_
  rintro e w1 ⟨rfl, hb⟩
  have HU1 := Lib.hid (HU.out.below hb)
  have HN1 := Lib.hid (HN.out.below hb)
  have HB1 := Lib.hid (HB0.out.trans (hb.mono (by simp; omega)))
  clear hb HU HB0 HN
  cases hd : P.setOk i l
  · have HD := Lib.hid hd; clear hd
    obtain ⟨_, b0, f0, _⟩ := HN1.out
    go_wp2
    refine bodyPost_ret (v := .tuple #[.agg #[.slice none 0 0], .bool false]) (by simp [results, Tryz.results87, go_sem, b0]) rfl ⟨_, by rw [HD.out], ?_, ?_⟩
    · rw [HD.out]; exact RowO.nil _ _
    · exact HB1.out.setCell (by simp) _
  · have HD := Lib.hid hd
    have hrng : 0 ≤ i ∧ i ≤ (l.length : Int) - 1 := by
      unfold P.setOk P.inL at hd; simp only [Bool.and_eq_true, decide_eq_true_eq] at hd; exact hd.2
    obtain ⟨n, rfl⟩ := Int.eq_ofNat_of_zero_le hrng.1
    have hnl : n < l.length := by omega
    clear hd hrng
    obtain ⟨a0, _⟩ := HN1.out
    go_wp2_with fail
    refine (l8Own _ l _ HU1.out HSM.out.len HSM.out.each).mono ?_
    rintro e w2 ⟨u, rfl, hI, hb⟩
    have hW1 : w.heap.size + 1 < w1.heap.size := HN1.out.2.2.2
    have hz2 : w1.heap.size ≤ w2.heap.size := hb.size
    have HN2 := Lib.hid (HN1.out.below hb)
    have HB2 := Lib.hid (HB1.out.trans (hb.mono HB1.out.size))
    clear hb HU1 HB1 HN1 a0
    obtain ⟨ud, uc, rfl, _, _⟩ := id hI
    obtain ⟨g, o, rfl, hFg, hgs, ⟨y, c1⟩, f1, hsw⟩ := Lays.switch hI n hnl t
    have hg1 : w1.heap.size ≤ g := hFg.1
    have hsz : (w2.setCell ⟨g, o + n * 2 + 1, none⟩ (.bool t)).heap.size = w2.heap.size := by simp [World.setCell]
    have hba := (Below.refl (w2.setCell ⟨g, o + n * 2 + 1, none⟩ (.bool t)).heap.size (w2.setCell ⟨g, o + n * 2 + 1, none⟩ (.bool t))).alloc (Nat.le_refl _) (.cells #[.slice (some ⟨g, o, none⟩) l.length uc] 52)
    have HSW := Lib.hid (hsw.below layE_ok hba); clear hsw
    have HN4 := Lib.hid ((HN2.out.stand (X := fun b => b = g) ((Chg.refl (fun b => b = g) _).setCell (p := ⟨g, o + n * 2 + 1, none⟩) rfl (.bool t)) (by omega) (by omega)).below hba)
    have HB4 := Lib.hid ((HB2.out.setCell (p := ⟨g, o + n * 2 + 1, none⟩) (by show w.heap.size ≤ g; omega) (.bool t)).trans (hba.mono (by rw [hsz]; omega)))
    have i1 : (n : Int) < (l.length : Int) := by omega
    clear HN2 HB2 hba hsz hI
    obtain ⟨_, b0, f0, _⟩ := HN4.out
    go_wp2
    refine bodyPost_ret (v := .tuple #[.agg #[.slice (some ⟨g, o, none⟩) l.length uc], .bool true]) (by simp [results, Tryz.results87, go_sem, b0]) rfl ⟨_, by rw [HD.out], ?_, ?_⟩
    · rw [HD.out]
      exact set_done HSW.out (by omega) (by simp [World.setCell])
    · exact HB4.out.setCell (by simp) _
theorem ints_one (n : Int) (v : World) (t : TypeId) : IntR (v.alloc (.cells #[.int .i64 n] t)) (.slice (some ⟨v.heap.size, 0, none⟩) 1 1) [n] := by
  refine ⟨_, _, rfl, by simp, (fun h => by cases h), .inr ⟨_, _, rfl, by simp, fun j hj => ?_⟩⟩
  obtain rfl : j = 0 := by simp at hj; omega
  go_simp
theorem impl_setEnabled (dv : Value) (l : P.Lays) (i : Int) (t : Bool) (w : World) (hu : LayR w dv l) (hs : SmallS l) (hE : Env w) :
    Calls Tryz.prog 86 #[.agg #[dv], .int .i64 i, .bool t] w (SetPost i t l w) := by
  have hb0 : Below w.heap.size w (((w.alloc (.cells #[dv] 52)).alloc (.cells #[.slice none 0 0] 52)).alloc (.cells #[.int .i64 i] 3)) := (((Below.refl w.heap.size w).alloc (Nat.le_refl _) _).alloc (by simp) _).alloc (by simp; omega) _
  have HU := Lib.hid (hu.below hb0)
  have HE := Lib.hid (hE.below hb0 hE.size)
  have HB0 := Lib.hid hb0; clear hb0 hE
  have HN := Lib.hid ((SkBox.new dv w).below ((Below.refl _ _).alloc (Nat.le_refl _) (.cells #[.int .i64 i] 3)))
  have HI1 := Lib.hid (ints_one i ((w.alloc (.cells #[dv] 52)).alloc (.cells #[.slice none 0 0] 52)) 3)
  have HSM := Lib.hid hs; clear hs
  have HOK := Lib.hid (show (P.stack l && [i].all (P.inL l)) = P.setOk i l by unfold P.setOk; simp)
  obtain ⟨ad, cap, rfl, _, _⟩ := hu
  go_enter Tryz.func86, Tryz.ntmps86
  go_wp2_with fail
  refine (isLayer _ _ l [i] _ HU.out (by have := HI1.out; simpa using this) HSM.out.len HSM.out.each HE.out).mono ?_
  rintro e w1 ⟨rfl, hb⟩
  rw [HOK.out]
  have HU1 := Lib.hid (HU.out.below hb)
  have HN1 := Lib.hid (HN.out.below hb)
  have HB1 := Lib.hid (HB0.out.trans (hb.mono (by simp; omega)))
  clear hb HU HB0 HN HE HI1
  cases hd : P.setOk i l
  · have HD := Lib.hid hd; clear hd
    obtain ⟨_, b0, f0, _⟩ := HN1.out
    go_wp2
    refine bodyPost_ret (v := .tuple #[.agg #[.slice none 0 0], .bool false]) (by simp [results, Tryz.results86, go_sem, b0]) rfl ⟨_, by rw [HD.out], ?_, ?_⟩
    · rw [HD.out]; exact RowO.nil _ _
    · exact HB1.out.setCell (by simp) _
  · have HD := Lib.hid hd
    have hrng : 0 ≤ i ∧ i ≤ (l.length : Int) - 1 := by
      unfold P.setOk P.inL at hd; simp only [Bool.and_eq_true, decide_eq_true_eq] at hd; exact hd.2
    have HUP := Lib.hid (show ∀ e ∈ l, Small e.1 ∧ P.Up e.1 from fun e he => ⟨HSM.out.each e he, P.layers_up (P.stack_layers (by unfold P.setOk at hd; simp only [Bool.and_eq_true] at hd; exact hd.1)) e he⟩)
    obtain ⟨n, rfl⟩ := Int.eq_ofNat_of_zero_le hrng.1
    have hnl : n < l.length := by omega
    clear hd hrng
    obtain ⟨a0, _⟩ := HN1.out
    go_wp2_with fail
    refine (stackOf_up _ l _ HU1.out HSM.out.len HUP.out).mono ?_
    rintro e w2 ⟨u, rfl, hI, hb⟩
    have hW1 : w.heap.size + 1 < w1.heap.size := HN1.out.2.2.2
    have hz2 : w1.heap.size ≤ w2.heap.size := hb.size
    have HN2 := Lib.hid (HN1.out.below hb)
    have HB2 := Lib.hid (HB1.out.trans (hb.mono HB1.out.size))
    clear hb HU1 HB1 HN1 a0 HUP
    obtain ⟨ud, uc, rfl, _, _⟩ := id hI
    obtain ⟨g, o, rfl, hFg, hgs, ⟨y, c1⟩, f1, hsw⟩ := Lays.switch hI n hnl t
    have hg1 : w1.heap.size ≤ g := hFg.1
    have hsz : (w2.setCell ⟨g, o + n * 2 + 1, none⟩ (.bool t)).heap.size = w2.heap.size := by simp [World.setCell]
    have hba := (Below.refl (w2.setCell ⟨g, o + n * 2 + 1, none⟩ (.bool t)).heap.size (w2.setCell ⟨g, o + n * 2 + 1, none⟩ (.bool t))).alloc (Nat.le_refl _) (.cells #[.slice (some ⟨g, o, none⟩) l.length uc] 52)
    have HSW := Lib.hid (hsw.below layE_ok hba); clear hsw
    have HN4 := Lib.hid ((HN2.out.stand (X := fun b => b = g) ((Chg.refl (fun b => b = g) _).setCell (p := ⟨g, o + n * 2 + 1, none⟩) rfl (.bool t)) (by omega) (by omega)).below hba)
    have HB4 := Lib.hid ((HB2.out.setCell (p := ⟨g, o + n * 2 + 1, none⟩) (by show w.heap.size ≤ g; omega) (.bool t)).trans (hba.mono (by rw [hsz]; omega)))
    have i1 : (n : Int) < (l.length : Int) := by omega
    clear HN2 HB2 hba hsz hI
    obtain ⟨_, b0, f0, _⟩ := HN4.out
    go_wp2
    refine bodyPost_ret (v := .tuple #[.agg #[.slice (some ⟨g, o, none⟩) l.length uc], .bool true]) (by simp [results, Tryz.results86, go_sem, b0]) rfl ⟨_, by rw [HD.out], ?_, ?_⟩
    · rw [HD.out]
      exact set_done HSW.out (by omega) (by simp [World.setCell])
    · exact HB4.out.setCell (by simp) _
end
end Go.Proofs.YtonhkglilnplbaaGreatDoor
