/- Rows of folds in the laws: as they come in, copied, held equal, marked. -/
import Derived.Deep.DeepCutAuto
import Derived.Deep.RegionHeld
import Derived.Test.YtngbkdlicknmhaaGreatDoorLawD
import Derived.Test.YtngbkdlicknmhaaGreatDoorFold3
namespace Go.Proofs.YtngbkdlicknmhaaGreatDoor
namespace P
def sizeF (l : Folds) : Int := (l.map fun f => (f.2.length : Int)).sum
theorem sizeF_snoc (f : Fold) (l : Folds) : sizeF (l ++ [f]) = sizeF l + f.2.length := by simp [sizeF]
theorem sizeF_nonneg : ∀ l : Folds, 0 ≤ sizeF l
  | [] => Int.le_refl 0
  | f :: l => by have := sizeF_nonneg l; simp only [sizeF, List.map_cons, List.sum_cons] at *; omega
theorem sizeF_mem {f : Fold} : ∀ {l : Folds}, f ∈ l → (f.2.length : Int) ≤ sizeF l
  | x :: l, h => by
    have h0 := sizeF_nonneg l
    rcases List.mem_cons.1 h with rfl | h
    · simp only [sizeF, List.map_cons, List.sum_cons] at *; omega
    · have := sizeF_mem h; simp only [sizeF, List.map_cons, List.sum_cons] at *; omega
/-- marked folds -/
def markF (k : Int) : Nat → Folds
  | 0 => []
  | n + 1 => markF k n ++ [(k + 2 * n, mtext (k + 2 * n + 1))]
theorem markF_len (k : Int) : ∀ n : Nat, (markF k n).length = n
  | 0 => rfl
  | n + 1 => by rw [markF, List.length_append, markF_len k n]; rfl
end P
open Go Go.RowKit
set_option maxHeartbeats 2000000
set_option maxRecDepth 100000
/-- a fold in a row -/
def foldE : ElT P.Fold := fun _ _ cs f => cs = [.int .i64 f.1, .string (S f.2)]
theorem foldE_ok : ElOk foldE := ⟨fun h _ => h, fun h _ _ => h⟩
abbrev Flds := RowO 2 foldE
theorem Flds.read {v : World} {F : Blk} {u : Value} {l : P.Folds} (h : Flds v F u l) : FldR v u l := by
  obtain ⟨ad, cap, h1, h2, hn, h3⟩ := h
  refine ⟨ad, cap, h1, ⟨by omega, hn.2⟩, hn.1, h3.imp id ?_⟩
  rintro ⟨g, o, G, C, h4, h5⟩
  refine ⟨g, o, h4, h5.lt _ h5.own, fun j hj => ?_⟩
  have he : C j = _ := h5.el j hj
  have hc := (h5.cel j hj 0 (by rw [he]; simp)).1
  have hd := (h5.cel j hj 1 (by rw [he]; simp)).1
  simp only [he, List.getElem_cons_zero, List.getElem_cons_succ, Nat.add_zero] at hc hd
  exact ⟨hc, hd⟩
/-- a slice of folds that came in -/
def FldA (v : World) (u : Value) (l : P.Folds) : Prop :=
  ∃ (ad : Option Addr) (cap : Nat), u = .slice ad l.length cap ∧ (l.length ≤ 9223372036854775807 ∧ l.length ≤ cap) ∧ (ad = none → cap = 0) ∧ (l = [] ∨ ∃ g o, ad = some ⟨g, o, none⟩ ∧ g < v.heap.size ∧ ∀ (j : Nat) (h : j < l.length), v.cell? ⟨g, o + j * 2, none⟩ = some (.int .i64 (l[j]'h).1) ∧ v.cell? ⟨g, o + j * 2 + 1, none⟩ = some (.string (S (l[j]'h).2)))
theorem FldA.read {v : World} {u : Value} {l : P.Folds} (h : FldA v u l) (hl : l.length ≤ 2 ^ 20) : FldR v u l := by
  obtain ⟨ad, cap, h1, h0, h2, h3⟩ := h
  exact ⟨ad, cap, h1, ⟨by omega, h0.2⟩, h2, h3⟩
theorem FldA.below {v v' : World} {u : Value} {l : P.Folds} (h : FldA v u l) (hb : Below v.heap.size v v') : FldA v' u l := by
  obtain ⟨ad, cap, h1, h2, hn, h3⟩ := h
  refine ⟨ad, cap, h1, h2, hn, h3.imp id ?_⟩
  rintro ⟨g, o, h4, h5, h6⟩
  refine ⟨g, o, h4, Nat.lt_of_lt_of_le h5 hb.size, fun j hj => ?_⟩
  obtain ⟨a, b⟩ := h6 j hj
  exact ⟨(hb.cell (p := ⟨g, _, none⟩) h5).trans a, (hb.cell (p := ⟨g, _, none⟩) h5).trans b⟩
theorem FldA.at {v : World} {ad : Option Addr} {n cap : Nat} {l : P.Folds} (h : FldA v (.slice ad n cap) l) (j : Nat) (hj : j < l.length) : ∃ g o, ad = some ⟨g, o, none⟩ ∧ g < v.heap.size ∧ v.cell? ⟨g, o + j * 2, none⟩ = some (.int .i64 (l[j]'hj).1) ∧ v.cell? ⟨g, o + j * 2 + 1, none⟩ = some (.string (S (l[j]'hj).2)) := by
  obtain ⟨ad', cap', he, _, _, h3⟩ := h
  injection he with h1 h2 h4
  rcases h3 with h3 | ⟨g, o, h5, h6, h7⟩
  · rw [h3] at hj; exact absurd hj (Nat.not_lt_zero _)
  · exact ⟨g, o, h1.trans h5, h6, h7 j hj⟩
theorem szFold (n : Int) (t : Str) (left : Int) (w : World) (ht : t.length ≤ 9223372036854775807) (h0 : 0 ≤ left) (h1 : left ≤ 2 ^ 20) :
    Calls Tryz.prog 141 #[.agg #[.int .i64 n, .string (S t)], .int .i64 left] w (SzPost left t.length w) := by
  have hb0 := (Below.refl w.heap.size w).alloc (Nat.le_refl _) (.cells #[.int .i64 n, .string (S t)] 172)
  have HB0 := Lib.hid hb0; clear hb0
  by_cases hlt : left - (t.length : Int) < 0
  · go_enter Tryz.func141, Tryz.ntmps141
    go_wp2
    go_ret
    exact ⟨⟨-1, rfl, by omega, by omega⟩, HB0.out⟩
  · go_enter Tryz.func141, Tryz.ntmps141
    go_wp2
    go_ret
    exact ⟨⟨_, rfl, by omega, by omega⟩, HB0.out⟩
theorem szFoldS (u : Value) (l : P.Folds) (left : Int) (w : World) (hu : FldA w u l) (ht : ∀ f ∈ l, f.2.length ≤ 9223372036854775807) (h0 : 0 ≤ left) (h1 : left ≤ 2 ^ 20) :
    Calls Tryz.prog 57 #[u, .int .i64 left] w (SzPost left (l.length + P.sizeF l) w) := by
  have HU := Lib.hid hu
  have HT := Lib.hid ht; clear ht
  obtain ⟨ad, cap, rfl, hl, _⟩ := hu
  by_cases hlt : left - (l.length : Int) < 0
  · have hs := P.sizeF_nonneg l
    go_enter Tryz.func57, Tryz.ntmps57
    go_wp2
    go_ret
    exact ⟨⟨-1, rfl, by omega, by omega⟩, Below.refl _ _⟩
  · go_enter Tryz.func57, Tryz.ntmps57
    go_wp2
    go_loopw [1, 5] (fun kk i wr => ∃ (j : Nat) (r : Int), j ≤ l.length ∧ i = .int .i64 j ∧ kk = .int .i64 r ∧ 0 ≤ r ∧ r = left - l.length - P.sizeF (l.take j) ∧ Below w.heap.size w wr) (fun _ i _ => l.length - (intOf i).toNat)
    case atStart => exact ⟨0, _, Nat.zero_le _, rfl, rfl, by omega, by simp [P.sizeF], Below.refl _ _⟩
    case round =>
      obtain ⟨j, r, hj, rfl, rfl, hr0, hr, hb⟩ := hrel
      have HR := Lib.hid hr; have HB := Lib.hid hb
      have hsn := P.sizeF_nonneg (l.take j)
      have hr1 : r ≤ 2 ^ 20 := by omega
      clear hr hsn
      by_cases hlj : j < l.length
      · obtain ⟨g, o, rfl, hgs, c0, c1⟩ := (HU.out.below hb).at j hlj
        have htl := HT.out _ (List.getElem_mem hlj)
        have HSN := Lib.hid (show P.sizeF (l.take (j + 1)) = P.sizeF (l.take j) + l[j].2.length by rw [take_snoc l j hlj, P.sizeF_snoc])
        have hbz := hb.size
        generalize l[j] = en at *
        obtain ⟨n, et⟩ := en
        simp only at HSN c0 c1 htl
        have i1 : (j : Int) < (l.length : Int) := by omega
        clear hb
        go_wp2_with fail
        refine (szFold n et r _ htl hr0 hr1).mono ?_
        rintro e w1 ⟨⟨r', rfl, hr2, hr3⟩, hb⟩
        have HR3 := Lib.hid hr3
        have HB2 := Lib.hid (HB.out.trans (hb.mono hbz))
        clear hr3 hb
        by_cases hneg : r' < 0
        · go_wp2
          go_ret
          exact ⟨⟨-1, rfl, by omega, by omega⟩, HB2.out⟩
        · go_wp2
          go_roundw
          case rel => exact ⟨j + 1, r', by omega, by go_num, rfl, by omega, by have := HR3.out (by omega); have := HR.out; have := HSN.out; omega, HB2.out⟩
          case measure => simp [intOf]; omega
      · have HE := Lib.hid (show r = left - (l.length + P.sizeF l) by have := HR.out; rw [List.take_of_length_le (by omega)] at this; omega)
        clear hb
        go_wp2
        go_ret
        exact ⟨⟨r, rfl, by omega, fun _ => HE.out⟩, HB.out⟩
theorem toFold (n : Int) (t : Str) (w : World) :
    Calls Tryz.prog 147 #[.agg #[.int .i64 n, .string (S t)]] w fun e w' => e = .returned (.agg #[.int .i64 n, .string (S t)]) ∧ Below w.heap.size w w' := by
  have hb0 : Below w.heap.size w (((w.alloc (.cells #[.int .i64 n, .string (S t)] 172)).alloc (.cells #[.int .i64 n, .string (S t)] 176)).alloc (.cells #[.int .i64 n, .string (S t)] 176)) :=
    (((Below.refl w.heap.size w).alloc (Nat.le_refl _) _).alloc (by simp) _).alloc (by simp; omega) _
  have HB0 := Lib.hid hb0; clear hb0
  go_enter Tryz.func147, Tryz.ntmps147
  go_wp2
  refine bodyPost_ret (v := .agg #[.int .i64 n, .string (S t)]) (by simp [results, Tryz.results147, go_sem]) rfl ⟨rfl, ?_⟩
  exact HB0.out
theorem info_fold : (Tryz.prog.info? 176).map (fun i => (i.zero, i.size, i.bytes)) = some (some (.agg #[.int .i64 0, .string ⟨#[]⟩]), 2, 24) := by kernel_rfl
theorem run_mkF (k : Nat) (w : World) (hk : k ≤ 2 ^ 20) : (Instr.makeSlice 94 (.int .i64 k) (.int .i64 k)).run Tryz.prog w = .ok (.slice (some ⟨w.heap.size, 0, none⟩) k k) (w.alloc (.cells (madeCells #[.int .i64 0, .string (S [])] (k * 2)) 176)) := by
  rw [show S [] = ⟨#[]⟩ from rfl]
  obtain ⟨i, hi, he⟩ := Option.map_eq_some_iff.mp info_fold
  simp only [Prod.mk.injEq] at he
  obtain ⟨hz, hs, hb⟩ := he
  have h := run_make (P := Tryz.prog) w 94 176 i (.agg #[.int .i64 0, .string ⟨#[]⟩]) Tryz.underlying94 hi hz .i64 .i64 k k (by omega) (by omega) (by rw [hb]; omega) (by omega)
  rw [hs, Int.toNat_natCast] at h
  simpa [Value.cells] using h
def noFold : P.Fold := (0, [])
/-- a fresh row of folds -/
theorem made_folds (k : Nat) (w : World) (t : TypeId) : RowC 2 foldE (w.alloc (.cells (madeCells #[.int .i64 0, .string (S [])] (k * 2)) t)) (Bet w.heap.size (w.heap.size + 1)) w.heap.size 0 (fun _ _ => False) (fun _ => [.int .i64 0, .string (S [])]) (List.replicate k noFold) := by
  refine ⟨⟨Nat.le_refl _, by omega⟩, fun b hb => by simpa using hb.2, fun j hj => ?_, fun _ _ => rfl, fun j hj => ?_, fun _ _ _ h => h.elim, fun _ _ _ _ _ h _ => h⟩
  · exact made_rec #[.int .i64 0, .string (S [])] k j w t (by simpa using hj)
  · rw [List.getElem_replicate]
    rfl
/-- both cells of a fold are written -/
theorem fold_put {F : Blk} {g o j : Nat} {l : P.Folds} {G : Nat → Blk} {C : Nat → List Value} {v v1 : World} (h : RowC 2 foldE v F g o G C l) (hj : j < l.length) (n : Int) (t : Str) (hb : Below (v.setCell ⟨g, o + j * 2, none⟩ (.int .i64 n)).heap.size (v.setCell ⟨g, o + j * 2, none⟩ (.int .i64 n)) v1) :
    ∃ G' C', RowC 2 foldE (v1.setCell ⟨g, o + j * 2 + 1, none⟩ (.string (S t))) F g o G' C' (l.set j (n, t)) := by
  have he : C j = [.int .i64 l[j].1, .string (S l[j].2)] := h.el j hj
  have h1 := h.put_cell foldE_ok j hj 0 (by omega) (.int .i64 n) (n, l[j].2) (by show List.set _ _ _ = _; rw [he]; rfl)
  rw [Nat.add_zero] at h1
  have h2 := h1.keep foldE_ok ⟨hb.size, fun b hb' => hb.block b (h1.lt b hb')⟩
  have h3 := h2.put_cell foldE_ok j (by rw [List.length_set]; exact hj) 1 (by omega) (.string (S t)) (n, t) (by show List.set _ _ _ = _; rw [if_pos rfl, he]; rfl)
  rw [List.set_set] at h3
  exact ⟨_, _, h3⟩
/-- how a copy of folds stands in a round -/
def CopyF (B j : Nat) (l : P.Folds) (v : World) : Prop := ∃ (m : P.Folds) (G : Nat → Blk) (C : Nat → List Value), m.length = l.length ∧ m.take j = l.take j ∧ RowC 2 foldE v (Bet B v.heap.size) B 0 G C m
theorem CopyF.below {B j : Nat} {l : P.Folds} {v v1 : World} (h : CopyF B j l v) (hb : Below v.heap.size v v1) : CopyF B j l v1 := by
  obtain ⟨m, G, C, hm, ht, h⟩ := h
  exact ⟨m, G, C, hm, ht, (h.keep foldE_ok ⟨hb.size, fun b hb' => hb.block b hb'.2⟩).wide (fun b hb' => ⟨hb'.1, Nat.lt_of_lt_of_le hb'.2 hb.size⟩) (fun b hb' => hb'.2)⟩
theorem CopyF.cells {B j : Nat} {l : P.Folds} {v : World} (h : CopyF B j l v) (hj : j < l.length) : ∃ x y, v.cell? ⟨B, j * 2, none⟩ = some x ∧ v.cell? ⟨B, j * 2 + 1, none⟩ = some y ∧ v.frozen? ⟨B, j * 2, none⟩ = false ∧ v.frozen? ⟨B, j * 2 + 1, none⟩ = false := by
  obtain ⟨m, G, C, hm, _, h⟩ := h
  have hw := h.wid j (by omega)
  have a := h.cel j (by omega) 0 (by omega)
  have b := h.cel j (by omega) 1 (by omega)
  rw [Nat.zero_add] at a b
  exact ⟨_, _, a.1, b.1, a.2, b.2⟩
theorem CopyF.put {B j : Nat} {l : P.Folds} {v : World} (h : CopyF B j l v) (hj : j < l.length) :
    CopyF B (j + 1) l ((v.setCell ⟨B, j * 2, none⟩ (.int .i64 l[j].1)).setCell ⟨B, j * 2 + 1, none⟩ (.string (S l[j].2))) := by
  obtain ⟨m, G, C, hm, ht, h⟩ := h
  obtain ⟨G', C', h2⟩ := fold_put (j := j) h (by omega) l[j].1 l[j].2 (Below.refl _ _)
  rw [Nat.zero_add] at h2
  refine ⟨m.set j l[j], G', C', by rw [List.length_set]; exact hm, ?_, ?_⟩
  · rw [take_snoc l j hj, take_snoc (m.set j l[j]) j (by rw [List.length_set]; omega), List.take_set_of_le (Nat.le_refl j), ht]
    simp
  · exact h2.wide (fun b hb => ⟨hb.1, by have := hb.2; simpa [World.setCell] using this⟩) (fun b hb => hb.2)
/-- a slice of folds of the call's own -/
def FldsPost (l : P.Folds) (w : World) (e : Ending) (w' : World) : Prop := ∃ u, e = .returned u ∧ Flds w' (Bet w.heap.size w'.heap.size) u l ∧ Below w.heap.size w w'
theorem toFoldS (u : Value) (l : P.Folds) (w : World) (hu : FldR w u l) (hl : l.length ≤ 2 ^ 20) :
    Calls Tryz.prog 60 #[u] w (FldsPost l w) := by
  have HU := Lib.hid hu
  obtain ⟨ad, cap, rfl, _, _⟩ := hu
  have hmk := run_mkF l.length w hl
  have HC0 := Lib.hid (show CopyF w.heap.size 0 l (w.alloc (.cells (madeCells #[.int .i64 0, .string (S [])] (l.length * 2)) 176)) from
    ⟨_, _, _, by simp, by simp, (made_folds l.length w 176).wide (fun b hb => ⟨hb.1, by simpa using hb.2⟩) (fun b hb => hb.2)⟩)
  have HB := Lib.hid ((Below.refl w.heap.size w).alloc (Nat.le_refl _) (.cells (madeCells #[.int .i64 0, .string (S [])] (l.length * 2)) 176))
  go_enter Tryz.func60, Tryz.ntmps60
  go_wp2
  go_loopw [4] (fun i wr => ∃ j : Nat, j ≤ l.length ∧ i = .int .i64 j ∧ CopyF w.heap.size j l wr ∧ w.heap.size < wr.heap.size ∧ Below w.heap.size w wr) (fun i _ => l.length - (intOf i).toNat)
  case atStart => exact ⟨0, Nat.zero_le _, rfl, HC0.out, by simp, HB.out⟩
  case round =>
    obtain ⟨j, hj, rfl, hc, hz, hb⟩ := hrel
    have HC := Lib.hid hc
    have HBB := Lib.hid hb
    clear hmk HC0 HB
    by_cases hlt : j < l.length
    · obtain ⟨g, o, hga, hgl, c0, c1⟩ := (HU.out.below hb).at j hlt
      obtain ⟨y0, y1, d0, d1, f0, f1⟩ := hc.cells hlt
      have HPUT := Lib.hid (fun (v1 : World) (h1 : Below wr.heap.size wr v1) => (CopyF.below HC.out h1).put hlt)
      subst hga
      generalize l[j] = en at *
      obtain ⟨n, et⟩ := en
      simp only at c0 c1 HPUT
      have i1 : (j : Int) < (l.length : Int) := by omega
      clear hb hc
      go_wp2_with fail
      refine (toFold n et _).mono ?_
      rintro e v1 ⟨rfl, hb1⟩
      obtain ⟨hcc, hff⟩ := bcell hb1
      have d0' := (hcc w.heap.size (j * 2) hz).trans d0
      have d1' := (hcc w.heap.size (j * 2 + 1) hz).trans d1
      have f0' := (hff w.heap.size (j * 2) hz).trans f0
      have f1' := (hff w.heap.size (j * 2 + 1) hz).trans f1
      have HPP := Lib.hid (HPUT.out v1 hb1)
      have hz1 := Nat.lt_of_lt_of_le hz hb1.size
      have HB1 := Lib.hid (HBB.out.trans (hb1.mono (Nat.le_of_lt hz)))
      clear hcc hff hb1 d0 d1 f0 f1
      go_wp2
      go_roundw
      case rel => exact ⟨j + 1, by omega, by go_num, HPP.out, by simpa [World.setCell] using hz1, (HB1.out.setCell (Nat.le_refl _) _).setCell (Nat.le_refl _) _⟩
      case measure => simp [intOf]; omega
    · have hjl : l.length = j := by omega
      clear hb hc
      go_wp2
      go_ret
      refine ⟨_, rfl, ?_, HBB.out⟩
      obtain ⟨m, G, C, hm, ht, hr⟩ := HC.out
      have e : m = l := by rwa [List.take_of_length_le (by omega), List.take_of_length_le (by omega)] at ht
      rw [e] at hr
      exact ⟨_, _, by first | rfl | rw [hjl], by omega, ⟨(fun h => by cases h), by first | exact Nat.le_refl _ | omega⟩, .inr ⟨_, _, _, _, rfl, hr⟩⟩
theorem eqFold (n : Int) (t : Str) (w : World) :
    Calls Tryz.prog 154 #[.agg #[.int .i64 n, .string (S t)], .agg #[.int .i64 n, .string (S t)]] w fun e w' => e = .returned (.bool true) ∧ Below w.heap.size w w' := by
  have hb0 : Below w.heap.size w ((w.alloc (.cells #[.int .i64 n, .string (S t)] 176)).alloc (.cells #[.int .i64 n, .string (S t)] 176)) :=
    ((Below.refl w.heap.size w).alloc (Nat.le_refl _) _).alloc (by simp) _
  have HB0 := Lib.hid hb0; clear hb0
  go_enter Tryz.func154, Tryz.ntmps154
  go_wp2
  go_ret
  exact ⟨rfl, by first | exact HB0.out | exact below_drewN HB0.out _⟩
/-- what region 6 of eqFoldS keeps -/
def KF (w : World) (c p g q : Nat) (n : Int) (et : Str) (v : World) : Prop :=
  v.cell? ⟨c, p, none⟩ = some (.int .i64 n) ∧ v.cell? ⟨c, p + 1, none⟩ = some (.string (S et)) ∧ v.cell? ⟨g, q, none⟩ = some (.int .i64 n) ∧ v.cell? ⟨g, q + 1, none⟩ = some (.string (S et)) ∧ c < v.heap.size ∧ g < v.heap.size ∧ w.heap.size ≤ v.heap.size ∧ Below w.heap.size w v
theorem KF.step {w v v' : World} {c p g q : Nat} {n : Int} {et : Str} (h : KF w c p g q n et v) (hb : Below v.heap.size v v') : KF w c p g q n et v' := by
  obtain ⟨h1, h2, h3, h4, h5, h6, h9, h10⟩ := h
  exact ⟨(hb.cell (p := ⟨c, p, none⟩) h5).trans h1, (hb.cell (p := ⟨c, p + 1, none⟩) h5).trans h2, (hb.cell (p := ⟨g, q, none⟩) h6).trans h3, (hb.cell (p := ⟨g, q + 1, none⟩) h6).trans h4,
    Nat.lt_of_lt_of_le h5 hb.size, Nat.lt_of_lt_of_le h6 hb.size, Nat.le_trans h9 hb.size, h10.trans (hb.mono h9)⟩
theorem eqFoldS (u v : Value) (l : P.Folds) (w : World) (hu : FldR w u l) (hv : FldR w v l) :
    Calls Tryz.prog 63 #[u, v] w fun e w' => e = .returned (.bool true) ∧ Below w.heap.size w w' := by
  have HU := Lib.hid hu; have HV := Lib.hid hv
  obtain ⟨ad, cap, rfl, hla, _⟩ := hu
  obtain ⟨bd, dap, rfl, _, _⟩ := hv
  go_enter Tryz.func63, Tryz.ntmps63
  go_wp2
  go_loopw [5] (fun i wr => ∃ j : Nat, j ≤ l.length ∧ i = .int .i64 j ∧ Below w.heap.size w wr) (fun i _ => l.length - (intOf i).toNat)
  case atStart => exact ⟨0, Nat.zero_le _, rfl, Below.refl _ _⟩
  case round =>
    obtain ⟨j, hj, rfl, hb⟩ := hrel
    have HB := Lib.hid hb
    by_cases hlt : j < l.length
    · obtain ⟨c, p, hga, hgl, c0, c1⟩ := (HU.out.below hb).at j hlt
      obtain ⟨g, q, hgb, hgl', d0, d1⟩ := (HV.out.below hb).at j hlt
      subst hga hgb
      have HS := Lib.hid (show KF w c (p + j * 2) g (q + j * 2) l[j].1 l[j].2 wr.drew from KF.step ⟨c0, c1, d0, d1, hgl, hgl', hb.size, hb⟩ (Below.refl _ _).drew)
      generalize l[j] = en at *
      obtain ⟨eo, et⟩ := en
      simp only at c0 c1 d0 d1 HS
      clear hb
      have i1 : (j : Int) < (l.length : Int) := by omega
      go_upto_region 6 with fail
      refine wp_region_held_drew (S := KF w c (p + j * 2) g (q + j * 2) eo et) (by kernel_rfl) HS.out (fun hS0 => ?_)
      refine wpAnyH_take (i := 0) (v := .slice (some ⟨c, p, none⟩) l.length cap) rfl (by kernel_rfl) (by kernel_rfl) (by kernel_rfl) (fun _ _ _ h => h) (Or.inl ⟨by rfl, fun z hz => ?_⟩) hS0 ?_
      · obtain ⟨z1, z2, z3, z4, z5, z6⟩ := hz
        go_simp
      try simp only [qA, qB, Act.put, qD, qE, qF]
      refine wpAnyH_take (i := 1) (v := .int .i64 j) rfl (by kernel_rfl) (by kernel_rfl) (by kernel_rfl) (fun _ _ _ h => h) (Or.inl ⟨by rfl, fun z hz => ?_⟩) hS0 ?_
      · obtain ⟨z1, z2, z3, z4, z5, z6⟩ := hz
        go_simp
      try simp only [qA, qB, qC, Act.put, qD, qE, qF]
      refine wpAnyH_take (i := 2) (v := .pointer (some ⟨c, p + j * 2, none⟩)) rfl (by kernel_rfl) (by kernel_rfl) (by kernel_rfl) (fun _ _ _ h => h) (Or.inl ⟨by rfl, fun z hz => ?_⟩) hS0 ?_
      · obtain ⟨z1, z2, z3, z4, z5, z6⟩ := hz
        go_simp
      try simp only [qA, qB, qC, Act.put, qD, qE, qF]
      refine wpAnyH_take (i := 3) (v := .agg #[.int .i64 eo, .string (S et)]) rfl (by kernel_rfl) (by kernel_rfl) (by kernel_rfl) (fun _ _ _ h => h) (Or.inl ⟨by rfl, fun z hz => ?_⟩) hS0 ?_
      · obtain ⟨z1, z2, z3, z4, z5, z6⟩ := hz
        go_simp
      try simp only [qA, qB, qC, Act.put, qD, qE, qF]
      refine wpAnyH_take (i := 4) (v := .slice (some ⟨g, q, none⟩) l.length dap) rfl (by kernel_rfl) (by kernel_rfl) (by kernel_rfl) (fun _ _ _ h => h) (Or.inl ⟨by rfl, fun z hz => ?_⟩) hS0 ?_
      · obtain ⟨z1, z2, z3, z4, z5, z6⟩ := hz
        go_simp
      try simp only [qA, qB, qC, Act.put, qD, qE, qF]
      refine wpAnyH_take (i := 5) (v := .int .i64 j) rfl (by kernel_rfl) (by kernel_rfl) (by kernel_rfl) (fun _ _ _ h => h) (Or.inl ⟨by rfl, fun z hz => ?_⟩) hS0 ?_
      · obtain ⟨z1, z2, z3, z4, z5, z6⟩ := hz
        go_simp
      try simp only [qA, qB, qC, Act.put, qD, qE, qF]
      refine wpAnyH_take (i := 6) (v := .pointer (some ⟨g, q + j * 2, none⟩)) rfl (by kernel_rfl) (by kernel_rfl) (by kernel_rfl) (fun _ _ _ h => h) (Or.inl ⟨by rfl, fun z hz => ?_⟩) hS0 ?_
      · obtain ⟨z1, z2, z3, z4, z5, z6⟩ := hz
        go_simp
      try simp only [qA, qB, qC, Act.put, qD, qE, qF]
      refine wpAnyH_take (i := 7) (v := .agg #[.int .i64 eo, .string (S et)]) rfl (by kernel_rfl) (by kernel_rfl) (by kernel_rfl) (fun _ _ _ h => h) (Or.inl ⟨by rfl, fun z hz => ?_⟩) hS0 ?_
      · obtain ⟨z1, z2, z3, z4, z5, z6⟩ := hz
        go_simp
      try simp only [qA, qB, qC, Act.put, qD, qE, qF]
      refine wpAnyH_ready (rs := [8]) (by kernel_rfl) (by simp) ?_
      refine AllReadyH.cons rfl (fun K hK => ?_) AllReadyH.nil
      have HS1 := Lib.hid hS0
      go_simp
      refine (eqFold eo et _).mono ?_
      rintro e v ⟨rfl, hb⟩
      refine hK.out _ _ (HS1.out.step hb) (fun hS1 => ?_)
      clear hK K hb
      try simp only [qA, qB, qC, Act.put, qD, qE, qF]
      refine wpAnyH_take (i := 9) (v := .bool false) rfl (by kernel_rfl) (by kernel_rfl) (by kernel_rfl) (fun _ _ _ h => h) (Or.inl ⟨by rfl, fun z hz => ?_⟩) hS1 ?_
      · obtain ⟨z1, z2, z3, z4, z5, z6⟩ := hz
        go_simp
      try simp only [qA, qB, qC, Act.put, qD, qE, qF]
      refine wpAnyH_done (by kernel_rfl) ?_ _
      have HB2 := Lib.hid (hS1.2.2.2.2.2.2.2)
      clear hS0 hS1 HS1
      go_wp2
      go_roundw
      case rel => exact ⟨j + 1, by omega, by go_num, HB2.out⟩
      case measure => simp [intOf]; omega
    · clear hb
      go_wp2
      go_ret
      exact ⟨rfl, HB.out⟩
/-- how a row of folds stands while it is marked -/
def MarkF (w : World) (F : Blk) (ad : Option Addr) (k : Int) (j : Nat) (l : P.Folds) (v : World) : Prop :=
  Chg F w v ∧ (l = [] ∨ ∃ g o G C m, ad = some ⟨g, o, none⟩ ∧ m.length = l.length ∧ m.take j = P.markF k j ∧ RowC 2 foldE v F g o G C m)
theorem MarkF.cells {w v : World} {F : Blk} {ad : Option Addr} {k : Int} {j : Nat} {l : P.Folds} (h : MarkF w F ad k j l v) (hj : j < l.length) :
    ∃ g o x y, ad = some ⟨g, o, none⟩ ∧ g < v.heap.size ∧ v.cell? ⟨g, o + j * 2, none⟩ = some x ∧ v.cell? ⟨g, o + j * 2 + 1, none⟩ = some y ∧ v.frozen? ⟨g, o + j * 2, none⟩ = false ∧ v.frozen? ⟨g, o + j * 2 + 1, none⟩ = false ∧
      ∀ v1, Below (v.setCell ⟨g, o + j * 2, none⟩ (.int .i64 (k + 2 * j))).heap.size (v.setCell ⟨g, o + j * 2, none⟩ (.int .i64 (k + 2 * j))) v1 → MarkF w F ad k (j + 1) l (v1.setCell ⟨g, o + j * 2 + 1, none⟩ (.string (S (P.mtext (k + 2 * j + 1))))) := by
  obtain ⟨hc, h⟩ := h
  obtain ⟨g, o, G, C, m, hg, hm, ht, hr⟩ := h.resolve_left (by intro e; rw [e] at hj; simp at hj)
  have hj' : j < m.length := by omega
  have hw := hr.wid j hj'
  have c0 := hr.cel j hj' 0 (by omega)
  have c1 := hr.cel j hj' 1 (by omega)
  refine ⟨g, o, _, _, hg, hr.lt _ hr.own, c0.1, c1.1, c0.2, c1.2, fun v1 hb => ?_⟩
  obtain ⟨G', C', h2⟩ := fold_put (j := j) hr hj' (k + 2 * j) (P.mtext (k + 2 * j + 1)) hb
  refine ⟨?_, .inr ⟨g, o, G', C', _, hg, by rw [List.length_set]; exact hm, ?_, h2⟩⟩
  · exact ((hc.setCell (p := ⟨g, o + j * 2, none⟩) hr.own _).trans (Below.chg hb F)).setCell (p := ⟨g, o + j * 2 + 1, none⟩) hr.own _
  · rw [take_snoc (m.set j _) j (by rw [List.length_set]; omega), List.take_set_of_le (Nat.le_refl j), ht, P.markF]
    simp
theorem markFoldS (u : Value) (l : P.Folds) (k : Int) (F : Blk) (w : World) (hu : Flds w F u l) (hk0 : 0 ≤ k) (hk : k ≤ 2 ^ 40) :
    Calls Tryz.prog 65 #[u, .int .i64 k] w fun e w' => e = .returned (.int .i64 (k + 2 * l.length)) ∧ Flds w' F u (P.markF k l.length) ∧ Chg F w w' := by
  obtain ⟨ad, cap, rfl, hl, hnil, hc0⟩ := hu
  have HNIL := Lib.hid hnil; clear hnil
  have HC := Lib.hid (show MarkF w F ad k 0 l w from ⟨Chg.refl _ _, hc0.imp id fun ⟨g, o, G, C, h1, h2⟩ => ⟨g, o, G, C, l, h1, rfl, rfl, h2⟩⟩)
  clear hc0
  go_enter Tryz.func65, Tryz.ntmps65
  go_wp2
  go_loopw [1, 5] (fun kk i wr => ∃ j : Nat, j ≤ l.length ∧ i = .int .i64 j ∧ kk = .int .i64 (k + 2 * j) ∧ MarkF w F ad k j l wr) (fun _ i _ => l.length - (intOf i).toNat)
  case atStart => exact ⟨0, Nat.zero_le _, rfl, by simp, HC.out⟩
  case round =>
    obtain ⟨j, hj, rfl, rfl, hm⟩ := hrel
    have HM := Lib.hid hm; clear hm
    by_cases hlt : j < l.length
    · obtain ⟨g, o, x, y, rfl, hgs, c0, c1, f0, f1, hput⟩ := HM.out.cells hlt
      have HPUT := Lib.hid hput; clear hput
      have i1 : (j : Int) < (l.length : Int) := by omega
      obtain ⟨kk, hkk⟩ : ∃ kk : Int, kk = k + 2 * j := ⟨_, rfl⟩
      have HKK := Lib.hid hkk
      have k0 : 0 ≤ kk := by omega
      have k1 : kk ≤ 2 ^ 40 + 2 ^ 31 := by omega
      rw [← hkk] at HPUT ⊢
      clear hkk
      go_wp2_with fail
      refine (markText _ _ (by omega) (by omega)).mono ?_
      rintro e v2 ⟨rfl, hb2⟩
      have hcell2 : v2.cell? ⟨g, o + j * 2 + 1, none⟩ = some y := (hb2.cell (p := ⟨g, o + j * 2 + 1, none⟩) (by simpa [World.setCell] using hgs)).trans (by go_simp)
      have hfrz2 : v2.frozen? ⟨g, o + j * 2 + 1, none⟩ = false := (hb2.frozen (p := ⟨g, o + j * 2 + 1, none⟩) (by simpa [World.setCell] using hgs)).trans (by go_simp)
      have HN := Lib.hid (HPUT.out v2 hb2)
      clear hb2
      generalize P.mtext (kk + 1) = tx at *
      go_wp2
      go_roundw
      case rel => exact ⟨j + 1, by omega, by go_num, by rw [HKK.out]; go_num, HN.out⟩
      case measure => simp [intOf]; omega
    · have hjl : j = l.length := by omega
      subst hjl
      go_wp2
      go_ret
      obtain ⟨hch, h⟩ := HM.out
      refine ⟨rfl, ⟨ad, cap, by rw [P.markF_len], by rw [P.markF_len]; exact hl, ⟨HNIL.out.1, by rw [P.markF_len]; exact HNIL.out.2⟩, ?_⟩, hch⟩
      rcases h with rfl | ⟨g, o, G, C, m, hg, hm, ht, hr⟩
      · exact .inl rfl
      · rw [List.take_of_length_le (by omega)] at ht
        subst ht
        exact .inr ⟨g, o, G, C, hg, hr⟩
end Go.Proofs.YtngbkdlicknmhaaGreatDoor
