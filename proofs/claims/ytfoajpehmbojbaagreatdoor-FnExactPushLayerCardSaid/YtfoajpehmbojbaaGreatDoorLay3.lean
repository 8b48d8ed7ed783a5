/- Arguments of a law: rows of layers, however long; their size. -/
import Derived.Test.YtfoajpehmbojbaaGreatDoorLay2
namespace Go.Proofs.YtfoajpehmbojbaaGreatDoor
open Go Go.RowKit
set_option maxHeartbeats 1000000
set_option maxRecDepth 100000
/-- a slice of layers that came in -/
def LayA (v : World) (u : Value) (l : P.Lays) : Prop :=
  ∃ (ad : Option Addr) (cap : Nat), u = .slice ad l.length cap ∧ l.length ≤ 9223372036854775807 ∧ (ad = none → cap = 0) ∧ (l = [] ∨ ∃ g o, ad = some ⟨g, o, none⟩ ∧ g < v.heap.size ∧ ∀ (j : Nat) (h : j < l.length), ∃ x, v.cell? ⟨g, o + j * 2, none⟩ = some x ∧ v.cell? ⟨g, o + j * 2 + 1, none⟩ = some (.bool (l[j]'h).2) ∧ EntA v x (l[j]'h).1)
theorem LayA.below {v v' : World} {u : Value} {l : P.Lays} (h : LayA v u l) (hb : Below v.heap.size v v') : LayA v' u l := by
  obtain ⟨ad, cap, h1, h2, hn, h3⟩ := h
  refine ⟨ad, cap, h1, h2, hn, h3.imp id ?_⟩
  rintro ⟨g, o, h4, h5, h6⟩
  refine ⟨g, o, h4, Nat.lt_of_lt_of_le h5 hb.size, fun j hj => ?_⟩
  obtain ⟨x, a, b, c⟩ := h6 j hj
  exact ⟨x, (hb.cell (p := ⟨g, _, none⟩) h5).trans a, (hb.cell (p := ⟨g, _, none⟩) h5).trans b, c.below hb⟩
theorem LayA.at {v : World} {ad : Option Addr} {n cap : Nat} {l : P.Lays} (h : LayA v (.slice ad n cap) l) (j : Nat) (hj : j < l.length) : ∃ g o, ad = some ⟨g, o, none⟩ ∧ g < v.heap.size ∧ ∃ x, v.cell? ⟨g, o + j * 2, none⟩ = some x ∧ v.cell? ⟨g, o + j * 2 + 1, none⟩ = some (.bool (l[j]'hj).2) ∧ EntA v x (l[j]'hj).1 := by
  obtain ⟨ad', cap', he, _, _, h3⟩ := h
  injection he with h1 h2 h4
  rcases h3 with h3 | ⟨g, o, h5, h6, h7⟩
  · rw [h3] at hj; exact absurd hj (Nat.not_lt_zero _)
  · exact ⟨g, o, h1.trans h5, h6, h7 j hj⟩
/-- what is known of a stack that a law hands on -/
structure SmallS (l : P.Lays) : Prop where
  len : l.length ≤ 2 ^ 20
  each : ∀ e ∈ l, Small e.1
theorem smallS_of {l : P.Lays} (h : (l.length : Int) + P.sizeL l ≤ 1048576) : SmallS l := by
  have h0 := P.sizeL_nonneg l
  refine ⟨by omega, fun e he => small_of ?_⟩
  have := P.sizeL_mem he
  omega
theorem kAtL_small {l : P.Lays} (h : (l.length : Int) + P.sizeL l ≤ 1048576) : P.kAtL 1 l ≤ 2 ^ 40 := by
  have := P.kAtL_le 1 l; omega
theorem LayA.read {v : World} {u : Value} {l : P.Lays} (h : LayA v u l) (hs : SmallS l) : LayR v u l := by
  obtain ⟨ad, cap, h1, _, h2, h3⟩ := h
  refine ⟨ad, cap, h1, by have := hs.len; omega, h2, h3.imp id ?_⟩
  rintro ⟨g, o, h4, h5, h6⟩
  refine ⟨g, o, h4, h5, fun j hj => ?_⟩
  obtain ⟨x, a, b, c⟩ := h6 j hj
  have hj' := hs.each _ (List.getElem_mem hj)
  exact ⟨x, a, b, c.read hj'.len hj'.outs⟩
theorem szLayer (u : Value) (l : P.Dic) (t : Bool) (left : Int) (w : World) (hu : EntA w u l) (ht : ∀ x ∈ l, x.2.length ≤ 9223372036854775807) (h0 : 0 ≤ left) (h1 : left ≤ 2 ^ 20) :
    Calls Tryz.prog 76 #[.agg #[u, .bool t], .int .i64 left] w (SzPost left (l.length + P.sizeE l) w) := by
  have hb0 := (Below.refl w.heap.size w).alloc (Nat.le_refl _) (.cells #[u, .bool t] 104)
  have HU := Lib.hid (hu.below hb0); have HB0 := Lib.hid hb0; clear hb0
  have HT := Lib.hid ht; clear ht
  obtain ⟨ad, cap, rfl, hl, _⟩ := hu
  go_enter Tryz.func76, Tryz.ntmps76
  go_wp2_with fail
  refine (szDictionary _ l left _ HU.out HT.out h0 h1).mono ?_
  rintro e w1 ⟨⟨r, rfl, hr1, hr2⟩, hb⟩
  have HB1 := Lib.hid (HB0.out.trans (hb.mono (by simp)))
  have HR := Lib.hid hr2; clear hr2 hb
  by_cases hlt : r < 0
  · go_wp2
    go_ret
    exact ⟨⟨-1, rfl, by omega, by omega⟩, HB1.out⟩
  · go_wp2
    go_ret
    exact ⟨⟨r, rfl, by omega, HR.out⟩, HB1.out⟩
theorem szLayerS (u : Value) (l : P.Lays) (left : Int) (w : World) (hu : LayA w u l) (ht : ∀ e ∈ l, ∀ x ∈ e.1, x.2.length ≤ 9223372036854775807) (h0 : 0 ≤ left) (h1 : left ≤ 2 ^ 20) :
    Calls Tryz.prog 49 #[u, .int .i64 left] w (SzPost left (l.length + P.sizeL l) w) := by
  have HU := Lib.hid hu
  have HT := Lib.hid ht; clear ht
  obtain ⟨ad, cap, rfl, hl, _⟩ := hu
  by_cases hlt : left - (l.length : Int) < 0
  · go_enter Tryz.func49, Tryz.ntmps49
    go_wp2
    go_ret
    exact ⟨⟨-1, rfl, by omega, by omega⟩, Below.refl _ _⟩
  · go_enter Tryz.func49, Tryz.ntmps49
    go_wp2
    go_loopw [1, 5] (fun kk i wr => ∃ (j : Nat) (r : Int), j ≤ l.length ∧ i = .int .i64 j ∧ kk = .int .i64 r ∧ 0 ≤ r ∧ r = left - l.length - P.sizeL (l.take j) ∧ Below w.heap.size w wr) (fun _ i _ => l.length - (intOf i).toNat)
    case atStart => exact ⟨0, _, Nat.zero_le _, rfl, rfl, by omega, by simp [P.sizeL], Below.refl _ _⟩
    case round =>
      obtain ⟨j, r, hj, rfl, rfl, hr0, hr, hb⟩ := hrel
      have HR := Lib.hid hr; have HB := Lib.hid hb
      have hsn := P.sizeL_nonneg (l.take j)
      have hr1 : r ≤ 2 ^ 20 := by omega
      clear hr hsn
      by_cases hlj : j < l.length
      · obtain ⟨g, o, rfl, hgs, x, c0, c1, hx⟩ := (HU.out.below hb).at j hlj
        have htl := HT.out _ (List.getElem_mem hlj)
        have HSN := Lib.hid (show P.sizeL (l.take (j + 1)) = P.sizeL (l.take j) + l[j].1.length + P.sizeE l[j].1 by rw [take_snoc l j hlj, P.sizeL_snoc])
        have HX := Lib.hid hx
        obtain ⟨xd, xc, rfl, hxl, _⟩ := hx
        have hbz := hb.size
        generalize l[j] = en at *
        obtain ⟨eo, et⟩ := en
        simp only at hxl HX HSN c1 htl
        have i1 : (j : Int) < (l.length : Int) := by omega
        clear hb
        go_wp2_with fail
        refine (szLayer _ eo et r _ HX.out htl hr0 hr1).mono ?_
        rintro e w1 ⟨⟨r', rfl, hr2, hr3⟩, hb⟩
        have HR3 := Lib.hid hr3
        have HB2 := Lib.hid (HB.out.trans (hb.mono hbz))
        clear hr3 hb
        by_cases hneg : r' < 0
        · go_wp2
          go_ret
          exact ⟨⟨-1, rfl, by omega, by omega⟩, HB2.out⟩
        · go_wp2
          go_roundw
          case rel => exact ⟨j + 1, r', by omega, by go_num, rfl, by omega, by have := HR3.out (by omega); have := HR.out; have := HSN.out; omega, HB2.out⟩
          case measure => simp [intOf]; omega
      · have HE := Lib.hid (show r = left - (l.length + P.sizeL l) by have := HR.out; rw [List.take_of_length_le (by omega)] at this; omega)
        clear hb
        go_wp2
        go_ret
        exact ⟨⟨r, rfl, by omega, fun _ => HE.out⟩, HB.out⟩
theorem szStack (u : Value) (l : P.Lays) (left : Int) (w : World) (hu : LayA w u l) (ht : ∀ e ∈ l, ∀ x ∈ e.1, x.2.length ≤ 9223372036854775807) (h0 : 0 ≤ left) (h1 : left ≤ 2 ^ 20) :
    Calls Tryz.prog 22 #[.agg #[u], .int .i64 left] w (SzPost left (l.length + P.sizeL l) w) := by
  have hb0 := (Below.refl w.heap.size w).alloc (Nat.le_refl _) (.cells #[u] 52)
  have HU := Lib.hid (hu.below hb0); have HB0 := Lib.hid hb0; clear hb0
  have HT := Lib.hid ht; clear ht
  obtain ⟨ad, cap, rfl, hl, _⟩ := hu
  go_enter Tryz.func22, Tryz.ntmps22
  go_wp2_with fail
  refine (szLayerS _ l left _ HU.out HT.out h0 h1).mono ?_
  rintro e w1 ⟨⟨r, rfl, hr1, hr2⟩, hb⟩
  have HB1 := Lib.hid (HB0.out.trans (hb.mono (by simp)))
  have HR := Lib.hid hr2; clear hr2 hb
  by_cases hlt : r < 0
  · go_wp2
    go_ret
    exact ⟨⟨-1, rfl, by omega, by omega⟩, HB1.out⟩
  · go_wp2
    go_ret
    exact ⟨⟨r, rfl, by omega, HR.out⟩, HB1.out⟩
end Go.Proofs.YtfoajpehmbojbaaGreatDoor
