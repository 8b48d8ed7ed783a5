/- Walks: the law's own functions on tries: a mark, what is held, a size. Tries that came in. -/
import Derived.Deep.DeepCutAuto
import Derived.Deep.RegionHeld
import Derived.Test.YtojcfpjoikmgcaaDoorTrieM
namespace Go.Proofs.YtojcfpjoikmgcaaDoor
section
open Go Go.RowKit
set_option maxHeartbeats 1000000
set_option maxRecDepth 100000
/-- a slice of nodes that came in -/
def NodA (v : World) (u : Value) (l : P.Tri) : Prop :=
  ∃ (ad : Option Addr) (cap : Nat), u = .slice ad l.length cap ∧ (l.length ≤ 9223372036854775807 ∧ l.length ≤ cap) ∧ (ad = none → cap = 0) ∧ (l = [] ∨ ∃ g o, ad = some ⟨g, o, none⟩ ∧ g < v.heap.size ∧ ∀ (j : Nat) (h : j < l.length), ∃ x y, v.cell? ⟨g, o + j * 4, none⟩ = some x ∧ v.cell? ⟨g, o + j * 4 + 1, none⟩ = some y ∧ v.cell? ⟨g, o + j * 4 + 2, none⟩ = some (.bool (l[j]'h).2.2.1) ∧ v.cell? ⟨g, o + j * 4 + 3, none⟩ = some (.string (S (l[j]'h).2.2.2)) ∧ IntA v x (l[j]'h).1 ∧ IntA v y (l[j]'h).2.1)
theorem NodA.below {v v' : World} {u : Value} {l : P.Tri} (h : NodA v u l) (hb : Below v.heap.size v v') : NodA v' u l := by
  obtain ⟨ad, cap, h1, h2, hn, h3⟩ := h
  refine ⟨ad, cap, h1, h2, hn, h3.imp id ?_⟩
  rintro ⟨g, o, h4, h5, h6⟩
  refine ⟨g, o, h4, Nat.lt_of_lt_of_le h5 hb.size, fun j hj => ?_⟩
  obtain ⟨x, y, a, b, c, d, e, f⟩ := h6 j hj
  exact ⟨x, y, (hb.cell (p := ⟨g, _, none⟩) h5).trans a, (hb.cell (p := ⟨g, _, none⟩) h5).trans b, (hb.cell (p := ⟨g, _, none⟩) h5).trans c, (hb.cell (p := ⟨g, _, none⟩) h5).trans d, e.below hb, f.below hb⟩
theorem NodA.at {v : World} {ad : Option Addr} {n cap : Nat} {l : P.Tri} (h : NodA v (.slice ad n cap) l) (j : Nat) (hj : j < l.length) : ∃ g o, ad = some ⟨g, o, none⟩ ∧ g < v.heap.size ∧ ∃ x y, v.cell? ⟨g, o + j * 4, none⟩ = some x ∧ v.cell? ⟨g, o + j * 4 + 1, none⟩ = some y ∧ v.cell? ⟨g, o + j * 4 + 2, none⟩ = some (.bool (l[j]'hj).2.2.1) ∧ v.cell? ⟨g, o + j * 4 + 3, none⟩ = some (.string (S (l[j]'hj).2.2.2)) ∧ IntA v x (l[j]'hj).1 ∧ IntA v y (l[j]'hj).2.1 := by
  obtain ⟨ad', cap', he, _, _, h3⟩ := h
  injection he with h1 h2 h4
  rcases h3 with h3 | ⟨g, o, h5, h6, h7⟩
  · rw [h3] at hj; exact absurd hj (Nat.not_lt_zero _)
  · exact ⟨g, o, h1.trans h5, h6, h7 j hj⟩
/-- a trie that a law hands on: bounds, and texts -/
structure GoodT (l : P.Tri) : Prop where
  small : SmallT l
  text : ∀ n ∈ l, n.2.2.2.length ≤ 2 ^ 20
  kat : P.kAtT 1 l ≤ 2 ^ 40
theorem goodT_of {l : P.Tri} (h : (l.length : Int) + P.sizeT l ≤ 1048576) : GoodT l := by
  have h0 := P.sizeT_nonneg l
  refine ⟨⟨by omega, fun n hn => ⟨?_, ?_⟩⟩, fun n hn => ?_, ?_⟩
  · have := P.sizeT_mem hn; omega
  · have := P.sizeT_mem hn; omega
  · have := P.sizeT_mem hn; omega
  · have := P.kAtT_le 1 l; omega
theorem NodA.read {v : World} {u : Value} {l : P.Tri} (h : NodA v u l) (hs : SmallT l) : NodR v u l := by
  obtain ⟨ad, cap, h1, h0, h2, h3⟩ := h
  refine ⟨ad, cap, h1, by have := hs.len; omega, h2, h3.imp id ?_⟩
  rintro ⟨g, o, h4, h5, h6⟩
  refine ⟨g, o, h4, h5, fun j hj => ?_⟩
  obtain ⟨x, y, a, b, c, d, e, f⟩ := h6 j hj
  have hj' := hs.each _ (List.getElem_mem hj)
  exact ⟨x, y, a, b, c, d, e.read hj'.a, f.read hj'.b⟩
theorem szTrieNode (x y : Value) (n : P.Nd) (left : Int) (w : World) (hx : IntA w x n.1) (hy : IntA w y n.2.1) (ht : n.2.2.2.length ≤ 9223372036854775807) (h0 : 0 ≤ left) (h1 : left ≤ 2 ^ 20) :
    Calls Tryd.prog 18 #[.agg #[x, y, .bool n.2.2.1, .string (S n.2.2.2)], .int .i64 left] w (SzPost left (n.1.length + n.2.1.length + n.2.2.2.length) w) := by
  obtain ⟨xs, ys, t, s⟩ := n
  simp only at hx hy ht
  have hb0 := (Below.refl w.heap.size w).alloc (Nat.le_refl _) (.cells #[x, y, .bool t, .string (S s)] 47)
  have HX := Lib.hid (hx.below hb0); have HY := Lib.hid hy; have HB0 := Lib.hid hb0; clear hb0
  obtain ⟨ad, cap, rfl, _, _⟩ := hx
  obtain ⟨bd, dap, rfl, _, _⟩ := hy
  go_enter Tryd.func18, Tryd.ntmps18
  go_wp2_with fail
  refine (szIntS _ xs left _ HX.out h0 h1).mono ?_
  rintro e w1 ⟨⟨r, rfl, hr1, hr2⟩, hb⟩
  have hz := grew0 hb
  obtain ⟨hcc, _⟩ := bcell hb
  have c1 : w1.cell? ⟨w.heap.size, 1, none⟩ = some (.slice bd ys.length dap) := by rw [hcc _ _ (by simp)]; go_simp
  have c3 : w1.cell? ⟨w.heap.size, 3, none⟩ = some (.string (S s)) := by rw [hcc _ _ (by simp)]; go_simp
  have HB1 := Lib.hid (HB0.out.trans (hb.mono (by simp)))
  have HY1 := Lib.hid (HY.out.below HB1.out)
  clear hb hcc
  have HR := Lib.hid hr2; clear hr2
  by_cases hlt : r < 0
  · go_wp2
    go_ret
    exact ⟨⟨-1, rfl, by omega, by omega⟩, HB1.out⟩
  · have hr3 : r ≤ 2 ^ 20 := by have := HR.out (by omega); omega
    have hr0 : 0 ≤ r := by omega
    go_wp2_with fail
    refine (szIntS _ ys r _ HY1.out hr0 hr3).mono ?_
    rintro e w2 ⟨⟨q, rfl, hq1, hq2⟩, hb⟩
    have d3 := (hb.cell (p := ⟨w.heap.size, 3, none⟩) hz).trans c3
    have HB2 := Lib.hid (HB1.out.trans (hb.mono (by omega)))
    have HQ := Lib.hid hq2; clear hq2 hb c1 c3
    by_cases hlt1 : q < 0
    · go_wp2
      go_ret
      exact ⟨⟨-1, rfl, by omega, by omega⟩, HB2.out⟩
    · have hq3 : q ≤ 2 ^ 20 := by have := HQ.out (by omega); omega
      have hq0 : 0 ≤ q := by omega
      by_cases hlt2 : q - (s.length : Int) < 0
      · go_wp2
        go_ret
        exact ⟨⟨-1, rfl, by omega, by omega⟩, HB2.out⟩
      · go_wp2
        go_ret
        exact ⟨⟨_, rfl, by omega, fun _ => by have := HR.out hr0; have := HQ.out hq0; omega⟩, HB2.out⟩
theorem szTrieNodeS (u : Value) (l : P.Tri) (left : Int) (w : World) (hu : NodA w u l) (ht : ∀ n ∈ l, n.2.2.2.length ≤ 9223372036854775807) (h0 : 0 ≤ left) (h1 : left ≤ 2 ^ 20) :
    Calls Tryd.prog 9 #[u, .int .i64 left] w (SzPost left (l.length + P.sizeT l) w) := by
  have HU := Lib.hid hu
  have HT := Lib.hid ht; clear ht
  obtain ⟨ad, cap, rfl, hl, _⟩ := hu
  by_cases hlt : left - (l.length : Int) < 0
  · go_enter Tryd.func9, Tryd.ntmps9
    go_wp2
    go_ret
    exact ⟨⟨-1, rfl, by omega, by omega⟩, Below.refl _ _⟩
  · go_enter Tryd.func9, Tryd.ntmps9
    go_wp2
    go_loopw [1, 5] (fun kk i wr => ∃ (j : Nat) (r : Int), j ≤ l.length ∧ i = .int .i64 j ∧ kk = .int .i64 r ∧ 0 ≤ r ∧ r = left - l.length - P.sizeT (l.take j) ∧ Below w.heap.size w wr) (fun _ i _ => l.length - (intOf i).toNat)
    case atStart => exact ⟨0, _, Nat.zero_le _, rfl, rfl, by omega, by simp [P.sizeT], Below.refl _ _⟩
    case round =>
      obtain ⟨j, r, hj, rfl, rfl, hr0, hr, hb⟩ := hrel
      have HR := Lib.hid hr; have HB := Lib.hid hb
      have hsn := P.sizeT_nonneg (l.take j)
      have hr1 : r ≤ 2 ^ 20 := by omega
      clear hr hsn
      by_cases hlj : j < l.length
      · obtain ⟨g, o, rfl, hgs, x, y, c0, c1, c2, c3, hx, hy⟩ := (HU.out.below hb).at j hlj
        have htl := HT.out _ (List.getElem_mem hlj)
        have HSN := Lib.hid (show P.sizeT (l.take (j + 1)) = P.sizeT (l.take j) + (l[j].1.length + l[j].2.1.length + l[j].2.2.2.length) by rw [take_snoc l j hlj, P.sizeT_snoc])
        have HX := Lib.hid hx; have HY := Lib.hid hy
        obtain ⟨xd, xc, rfl, hxl, _⟩ := hx
        obtain ⟨yd, yc, rfl, hyl, _⟩ := hy
        have hbz := hb.size
        generalize l[j] = en at *
        have i1 : (j : Int) < (l.length : Int) := by omega
        clear hb
        go_wp2_with fail
        refine (szTrieNode _ _ en r _ HX.out HY.out htl hr0 hr1).mono ?_
        rintro e w1 ⟨⟨r', rfl, hr2, hr3⟩, hb⟩
        have HR3 := Lib.hid hr3
        have HB2 := Lib.hid (HB.out.trans (hb.mono hbz))
        clear hr3 hb
        by_cases hneg : r' < 0
        · go_wp2
          go_ret
          exact ⟨⟨-1, rfl, by omega, by omega⟩, HB2.out⟩
        · go_wp2
          go_roundw
          case rel => exact ⟨j + 1, r', by omega, by go_num, rfl, by omega, by have := HR3.out (by omega); have := HR.out; have := HSN.out; omega, HB2.out⟩
          case measure => simp [intOf]; omega
      · have HE := Lib.hid (show r = left - (l.length + P.sizeT l) by have := HR.out; rw [List.take_of_length_le (by omega)] at this; omega)
        clear hb
        go_wp2
        go_ret
        exact ⟨⟨r, rfl, by omega, fun _ => HE.out⟩, HB.out⟩
theorem szTrie (u : Value) (l : P.Tri) (left : Int) (w : World) (hu : NodA w u l) (ht : ∀ n ∈ l, n.2.2.2.length ≤ 9223372036854775807) (h0 : 0 ≤ left) (h1 : left ≤ 2 ^ 20) :
    Calls Tryd.prog 4 #[.agg #[u], .int .i64 left] w (SzPost left (l.length + P.sizeT l) w) := by
  have hb0 := (Below.refl w.heap.size w).alloc (Nat.le_refl _) (.cells #[u] 24)
  have HU := Lib.hid (hu.below hb0); have HB0 := Lib.hid hb0; clear hb0
  have HT := Lib.hid ht; clear ht
  obtain ⟨ad, cap, rfl, hl, _⟩ := hu
  go_enter Tryd.func4, Tryd.ntmps4
  go_wp2_with fail
  refine (szTrieNodeS _ l left _ HU.out HT.out h0 h1).mono ?_
  rintro e w1 ⟨⟨r, rfl, hr1, hr2⟩, hb⟩
  have HB1 := Lib.hid (HB0.out.trans (hb.mono (by simp)))
  have HR := Lib.hid hr2; clear hr2 hb
  by_cases hlt : r < 0
  · go_wp2
    go_ret
    exact ⟨⟨-1, rfl, by omega, by omega⟩, HB1.out⟩
  · go_wp2
    go_ret
    exact ⟨⟨r, rfl, by omega, HR.out⟩, HB1.out⟩
end
end Go.Proofs.YtojcfpjoikmgcaaDoor
