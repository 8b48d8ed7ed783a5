/- Walks: the law's own functions on layers: a copy, they are equal. -/
import Derived.Deep.DeepCutAuto
import Derived.Test.YtfoajpehmbojbaaGreatDoorLawD
namespace Go.Proofs.YtfoajpehmbojbaaGreatDoor
abbrev P.Lay := P.Dic × Bool
abbrev P.Lays := List P.Lay
open Go Go.RowKit
set_option maxHeartbeats 1000000
set_option maxRecDepth 100000
/-- a slice of layers, as it is read -/
def LayR (v : World) (u : Value) (l : P.Lays) : Prop :=
  ∃ (ad : Option Addr) (cap : Nat), u = .slice ad l.length cap ∧ l.length ≤ 2 ^ 45 ∧ (ad = none → cap = 0) ∧ (l = [] ∨ ∃ g o, ad = some ⟨g, o, none⟩ ∧ g < v.heap.size ∧ ∀ (j : Nat) (h : j < l.length), ∃ x, v.cell? ⟨g, o + j * 2, none⟩ = some x ∧ v.cell? ⟨g, o + j * 2 + 1, none⟩ = some (.bool (l[j]'h).2) ∧ EntR v x (l[j]'h).1)
theorem LayR.below {v v' : World} {u : Value} {l : P.Lays} (h : LayR v u l) (hb : Below v.heap.size v v') : LayR v' u l := by
  obtain ⟨ad, cap, h1, h2, hn, h3⟩ := h
  refine ⟨ad, cap, h1, h2, hn, h3.imp id ?_⟩
  rintro ⟨g, o, h4, h5, h6⟩
  refine ⟨g, o, h4, Nat.lt_of_lt_of_le h5 hb.size, fun j hj => ?_⟩
  obtain ⟨x, a, b, c⟩ := h6 j hj
  exact ⟨x, (hb.cell (p := ⟨g, _, none⟩) h5).trans a, (hb.cell (p := ⟨g, _, none⟩) h5).trans b, c.below hb⟩
theorem LayR.at {v : World} {ad : Option Addr} {n cap : Nat} {l : P.Lays} (h : LayR v (.slice ad n cap) l) (j : Nat) (hj : j < l.length) : ∃ g o, ad = some ⟨g, o, none⟩ ∧ g < v.heap.size ∧ ∃ x, v.cell? ⟨g, o + j * 2, none⟩ = some x ∧ v.cell? ⟨g, o + j * 2 + 1, none⟩ = some (.bool (l[j]'hj).2) ∧ EntR v x (l[j]'hj).1 := by
  obtain ⟨ad', cap', he, _, _, h3⟩ := h
  injection he with h1 h2 h4
  rcases h3 with h3 | ⟨g, o, h5, h6, h7⟩
  · rw [h3] at hj; exact absurd hj (Nat.not_lt_zero _)
  · exact ⟨g, o, h1.trans h5, h6, h7 j hj⟩
/-- a layer -/
def layE : ElT P.Lay := fun v F cs e => ∃ x, cs = [x, .bool e.2] ∧ RowO 2 entE v F x e.1
theorem layE_ok : ElOk layE :=
  ⟨fun ⟨x, h, k⟩ hk => ⟨x, h, k.keep entE_ok hk⟩, fun ⟨x, h, k⟩ hF hl => ⟨x, h, k.wide hF hl⟩⟩
abbrev Lays := RowO 2 layE
theorem Lays.read {v : World} {F : Blk} {u : Value} {l : P.Lays} (h : Lays v F u l) : LayR v u l := by
  obtain ⟨ad, cap, h1, h2, hn, h3⟩ := h
  refine ⟨ad, cap, h1, by omega, hn.1, h3.imp id ?_⟩
  rintro ⟨g, o, G, C, h4, h5⟩
  refine ⟨g, o, h4, h5.lt _ h5.own, fun j hj => ?_⟩
  obtain ⟨x, he, hx⟩ := h5.el j hj
  have hc := (h5.cel j hj 0 (by rw [he]; simp)).1
  have hd := (h5.cel j hj 1 (by rw [he]; simp)).1
  simp only [he, List.getElem_cons_zero, List.getElem_cons_succ, Nat.add_zero] at hc hd
  exact ⟨x, hc, hd, Ents.read hx⟩
def LayPost (l : P.Dic) (t : Bool) (w : World) (e : Ending) (w' : World) : Prop := ∃ u, e = .returned (.agg #[u, .bool t]) ∧ Ents w' (Bet w.heap.size w'.heap.size) u l ∧ Below w.heap.size w w'
theorem toLayer (u : Value) (l : P.Dic) (t : Bool) (w : World) (hu : EntR w u l) (hs : Small l) :
    Calls Tryz.prog 77 #[.agg #[u, .bool t]] w (LayPost l t w) := by
  have hb0 : Below w.heap.size w (((w.alloc (.cells #[u, .bool t] 104)).alloc (.cells #[.slice none 0 0, .bool false] 84)).alloc (.cells #[.slice none 0 0, .bool false] 84)) :=
    (((Below.refl w.heap.size w).alloc (Nat.le_refl _) _).alloc (by simp) _).alloc (by simp; omega) _
  have HU := Lib.hid (hu.below hb0)
  have HB0 := Lib.hid hb0; clear hb0
  obtain ⟨ad, cap, rfl, _, _⟩ := hu
  go_enter Tryz.func77, Tryz.ntmps77
  go_wp2_with fail
  refine (toDictionary _ l _ HU.out hs.len hs.outs).mono ?_
  rintro e w1 ⟨u', rfl, hI, hb⟩
  have hz : w.heap.size + 2 < w1.heap.size := by have := hb.size; simp at this; omega
  obtain ⟨hcc, hff⟩ := bcell hb
  have c1 : w1.cell? ⟨w.heap.size, 1, none⟩ = some (.bool t) := by rw [hcc _ _ (by simp; omega)]; go_simp
  have r0 : w1.cell? ⟨w.heap.size + 1, 0, none⟩ = some (.slice none 0 0) := by rw [hcc _ _ (by simp)]; go_simp
  have r1 : w1.cell? ⟨w.heap.size + 1, 1, none⟩ = some (.bool false) := by rw [hcc _ _ (by simp)]; go_simp
  have q0 : w1.cell? ⟨w.heap.size + 2, 0, none⟩ = some (.slice none 0 0) := by rw [hcc _ _ (by simp)]; go_simp
  have q1 : w1.cell? ⟨w.heap.size + 2, 1, none⟩ = some (.bool false) := by rw [hcc _ _ (by simp)]; go_simp
  have s0 : w1.frozen? ⟨w.heap.size + 1, 0, none⟩ = false := by rw [hff _ _ (by simp)]; go_simp
  have s1 : w1.frozen? ⟨w.heap.size + 1, 1, none⟩ = false := by rw [hff _ _ (by simp)]; go_simp
  have p0 : w1.frozen? ⟨w.heap.size + 2, 0, none⟩ = false := by rw [hff _ _ (by simp)]; go_simp
  have p1 : w1.frozen? ⟨w.heap.size + 2, 1, none⟩ = false := by rw [hff _ _ (by simp)]; go_simp
  have HI := Lib.hid hI
  have HB1 := Lib.hid (HB0.out.trans (hb.mono (by simp; omega)))
  obtain ⟨ad', cap', rfl, _, _⟩ := hI
  clear hb hcc hff HU HB0
  go_wp2
  refine bodyPost_ret (v := .agg #[.slice ad' l.length cap', .bool t]) (by simp [results, Tryz.results77, go_sem, r0, r1]) rfl ⟨_, rfl, ?_, ?_⟩
  · refine (HI.out.stand (X := fun b => b < w.heap.size + 3) entE_ok (((((Chg.refl _ w1).setCell ?_ _).setCell ?_ _).setCell ?_ _).setCell ?_ _) ?_).wide ?_ ?_
    · simp
    · simp
    · simp
    · simp
    · intro b hb; simp [Bet] at hb ⊢; omega
    · intro b hb; simp [Bet, World.setCell] at hb ⊢; omega
    · intro b hb; exact hb.2
  · exact (((HB1.out.setCell (by simp; omega) _).setCell (by simp; omega) _).setCell (by simp) _).setCell (by simp) _
theorem info_lay : (Tryz.prog.info? 84).map (fun i => (i.zero, i.size, i.bytes)) = some (some (.agg #[.slice none 0 0, .bool false]), 2, 32) := by kernel_rfl
theorem run_mkL (k : Nat) (w : World) (hk : k ≤ 2 ^ 20) : (Instr.makeSlice 54 (.int .i64 k) (.int .i64 k)).run Tryz.prog w = .ok (.slice (some ⟨w.heap.size, 0, none⟩) k k) (w.alloc (.cells (madeCells #[.slice none 0 0, .bool false] (k * 2)) 84)) := by
  obtain ⟨i, hi, he⟩ := Option.map_eq_some_iff.mp info_lay
  simp only [Prod.mk.injEq] at he
  obtain ⟨hz, hs, hb⟩ := he
  have h := run_make (P := Tryz.prog) w 54 84 i (.agg #[.slice none 0 0, .bool false]) Tryz.underlying54 hi hz .i64 .i64 k k (by omega) (by omega) (by rw [hb]; omega) (by omega)
  rw [hs, Int.toNat_natCast] at h
  simpa [Value.cells] using h
def noLay : P.Lay := ([], false)
/-- a fresh row of entries -/
theorem made_lays (k : Nat) (w : World) (t : TypeId) : RowC 2 layE (w.alloc (.cells (madeCells #[.slice none 0 0, .bool false] (k * 2)) t)) (Bet w.heap.size (w.heap.size + 1)) w.heap.size 0 (fun _ _ => False) (fun _ => [.slice none 0 0, .bool false]) (List.replicate k noLay) := by
  refine ⟨⟨Nat.le_refl _, by omega⟩, fun b hb => by simpa using hb.2, fun j hj => ?_, fun _ _ => rfl, fun j hj => ?_, fun _ _ _ h => h.elim, fun _ _ _ _ _ h _ => h⟩
  · exact made_rec #[.slice none 0 0, .bool false] k j w t (by simpa using hj)
  · rw [List.getElem_replicate]
    exact ⟨_, rfl, RowO.nil _ _⟩
/-- how a copy of entries stands in a round -/
def CopyL (B j : Nat) (l : P.Lays) (v : World) : Prop := ∃ (m : P.Lays) (G : Nat → Blk) (C : Nat → List Value), m.length = l.length ∧ m.take j = l.take j ∧ RowC 2 layE v (Bet B v.heap.size) B 0 G C m
theorem CopyL.cells {B j : Nat} {l : P.Lays} {v : World} (h : CopyL B j l v) (hj : j < l.length) : ∃ x y, v.cell? ⟨B, j * 2, none⟩ = some x ∧ v.cell? ⟨B, j * 2 + 1, none⟩ = some y ∧ v.frozen? ⟨B, j * 2, none⟩ = false ∧ v.frozen? ⟨B, j * 2 + 1, none⟩ = false := by
  obtain ⟨m, G, C, hm, _, h⟩ := h
  have hw := h.wid j (by omega)
  have a := h.cel j (by omega) 0 (by omega)
  have b := h.cel j (by omega) 1 (by omega)
  rw [Nat.zero_add] at a b
  exact ⟨_, _, a.1, b.1, a.2, b.2⟩
theorem CopyL.put {B j : Nat} {l : P.Lays} {v v1 : World} (h : CopyL B j l v) (hj : j < l.length) (hB : B < v.heap.size) {u : Value} (hb : Below v.heap.size v v1) (hI : Ents v1 (Bet v.heap.size v1.heap.size) u l[j].1) :
    CopyL B (j + 1) l ((v1.setCell ⟨B, j * 2, none⟩ u).setCell ⟨B, j * 2 + 1, none⟩ (.bool l[j].2)) := by
  obtain ⟨m, G, C, hm, ht, h⟩ := h
  have hs : ((v1.setCell ⟨B, j * 2, none⟩ u).setCell ⟨B, j * 2 + 1, none⟩ (.bool l[j].2)).heap.size = v1.heap.size := by simp [World.setCell]
  have hblk : ∀ b, b ≠ B → ((v1.setCell ⟨B, j * 2, none⟩ u).setCell ⟨B, j * 2 + 1, none⟩ (.bool l[j].2)).heap[b]? = v1.heap[b]? := by
    intro b hb
    rw [Below.heap_setCell _ _ _ _ hb, Below.heap_setCell _ _ _ _ hb]
  have h1 : RowC 2 layE v1 (Bet B v.heap.size) B 0 G C m := h.keep layE_ok ⟨hb.size, fun b hb' => hb.block b hb'.2⟩
  refine ⟨m.set j l[j], _, _, by rw [List.length_set]; exact hm, ?_, h1.put layE_ok j (by omega) (Bet B ((v1.setCell ⟨B, j * 2, none⟩ u).setCell ⟨B, j * 2 + 1, none⟩ (.bool l[j].2)).heap.size) (Bet v.heap.size v1.heap.size) [u, .bool l[j].2] l[j] ?_ ?_ ?_ ?_ rfl ?_ ?_ ?_ ?_ ?_⟩
  · rw [take_snoc l j hj, take_snoc (m.set j l[j]) j (by rw [List.length_set]; omega), List.take_set_of_le (Nat.le_refl j), ht]
    simp
  · intro b hb'; rw [hs]; exact ⟨hb'.1, Nat.lt_of_lt_of_le hb'.2 hb.size⟩
  · intro b hb'; exact hb'.2
  · rw [hs]; exact Nat.le_refl _
  · have hc := h1.cel j (by omega)
    have hw := h1.wid j (by omega)
    have e := (hc.set_at 0 (by omega) u).set_at 1 (by rw [List.length_set]; omega) (.bool l[j].2)
    simp only [Nat.zero_add, Nat.add_zero] at e ⊢
    obtain ⟨x, y, hxy⟩ : ∃ x y, C j = [x, y] := by
      match hC : C j, hw with
      | [x, y], _ => exact ⟨x, y, rfl⟩
    rw [hxy] at e
    exact e
  · refine ⟨u, rfl, (hI.stand (X := fun b => b = B) entE_ok (((Chg.refl (fun b => b = B) v1).setCell (p := ⟨B, j * 2, none⟩) rfl _).setCell (p := ⟨B, j * 2 + 1, none⟩) rfl _) ?_)⟩
    rintro b hb' rfl
    exact absurd hb'.1 (by omega)
  · intro b hb'; rw [hs]; exact ⟨⟨by have := hb'.1; omega, hb'.2⟩, by have := hb'.1; omega⟩
  · intro i hi hij b h2 h3
    have := (h1.sub i hi b h2).1.2
    have := h3.1
    omega
  · intro i hi hij
    have hw := h1.wid i hi
    have hc := h1.cel i hi
    have o0 := cel_out (wd := 2) (o := 0) hij 0 (by omega)
    have o1 := cel_out (wd := 2) (o := 0) hij 1 (by omega)
    refine (hc.set_other ?_ _).set_other ?_ _ <;> rw [hw] <;> omega
  · intro i hi hij b hb'
    exact hblk b (h1.sub i hi b hb').2
/-- a slice of entries of the call's own -/
def LaysPost (l : P.Lays) (w : World) (e : Ending) (w' : World) : Prop := ∃ u, e = .returned u ∧ Lays w' (Bet w.heap.size w'.heap.size) u l ∧ Below w.heap.size w w'
theorem toLayerS (u : Value) (l : P.Lays) (w : World) (hu : LayR w u l) (hl : l.length ≤ 2 ^ 20) (hle : ∀ e ∈ l, Small e.1) :
    Calls Tryz.prog 52 #[u] w (LaysPost l w) := by
  have HU := Lib.hid hu
  have HLE := Lib.hid hle; clear hle
  obtain ⟨ad, cap, rfl, _, _⟩ := hu
  have hmk := run_mkL l.length w hl
  have HC0 := Lib.hid (show CopyL w.heap.size 0 l (w.alloc (.cells (madeCells #[.slice none 0 0, .bool false] (l.length * 2)) 84)) from
    ⟨_, _, _, by simp, by simp, (made_lays l.length w 84).wide (fun b hb => ⟨hb.1, by simpa using hb.2⟩) (fun b hb => hb.2)⟩)
  have HB := Lib.hid ((Below.refl w.heap.size w).alloc (Nat.le_refl _) (.cells (madeCells #[.slice none 0 0, .bool false] (l.length * 2)) 84))
  go_enter Tryz.func52, Tryz.ntmps52
  go_wp2
  go_loopw [4] (fun i wr => ∃ j : Nat, j ≤ l.length ∧ i = .int .i64 j ∧ CopyL w.heap.size j l wr ∧ w.heap.size < wr.heap.size ∧ Below w.heap.size w wr) (fun i _ => l.length - (intOf i).toNat)
  case atStart => exact ⟨0, Nat.zero_le _, rfl, HC0.out, by simp, HB.out⟩
  case round =>
    obtain ⟨j, hj, rfl, hc, hz, hb⟩ := hrel
    have HC := Lib.hid hc
    have HBB := Lib.hid hb
    clear hmk HC0 HB
    by_cases hlt : j < l.length
    · obtain ⟨g, o, hga, hgl, x, c0, c1, hx⟩ := (HU.out.below hb).at j hlt
      obtain ⟨y0, y1, d0, d1, f0, f1⟩ := hc.cells hlt
      have HX := Lib.hid hx
      have hll := HLE.out _ (List.getElem_mem hlt)
      have HPUT := Lib.hid (fun (v1 : World) (u : Value) (h1 : Below wr.heap.size wr v1) (h2 : Ents v1 (Bet wr.heap.size v1.heap.size) u l[j].1) => CopyL.put HC.out hlt hz h1 h2)
      obtain ⟨xd, xc, rfl, _, _⟩ := hx
      subst hga
      generalize l[j] = en at *
      obtain ⟨eo, et⟩ := en
      simp only at c1 hll HX HPUT
      have i1 : (j : Int) < (l.length : Int) := by omega
      clear hb hc
      go_wp2_with fail
      refine (toLayer _ eo et _ HX.out hll).mono ?_
      rintro e v1 ⟨u1, rfl, hI, hb1⟩
      obtain ⟨hcc, hff⟩ := bcell hb1
      have d0' := (hcc w.heap.size (j * 2) hz).trans d0
      have d1' := (hcc w.heap.size (j * 2 + 1) hz).trans d1
      have f0' := (hff w.heap.size (j * 2) hz).trans f0
      have f1' := (hff w.heap.size (j * 2 + 1) hz).trans f1
      have HPP := Lib.hid (HPUT.out v1 u1 hb1 hI)
      obtain ⟨ad1, cap1, rfl, _, _⟩ := hI
      have hz1 := Nat.lt_of_lt_of_le hz hb1.size
      have HB1 := Lib.hid (HBB.out.trans (hb1.mono (Nat.le_of_lt hz)))
      clear hcc hff hb1 d0 d1 f0 f1
      go_wp2
      go_roundw
      case rel => exact ⟨j + 1, by omega, by go_num, HPP.out, by simpa [World.setCell] using hz1, (HB1.out.setCell (Nat.le_refl _) _).setCell (Nat.le_refl _) _⟩
      case measure => simp [intOf]; omega
    · have hjl : l.length = j := by omega
      clear hb hc
      go_wp2
      go_ret
      refine ⟨_, rfl, ?_, HBB.out⟩
      obtain ⟨m, G, C, hm, ht, hr⟩ := HC.out
      have e : m = l := by rwa [List.take_of_length_le (by omega), List.take_of_length_le (by omega)] at ht
      rw [e] at hr
      exact ⟨_, _, by first | rfl | rw [hjl], by omega, ⟨(fun h => by cases h), by first | exact Nat.le_refl _ | omega⟩, .inr ⟨_, _, _, _, rfl, hr⟩⟩
/-- a dictionary of the call's own -/
def StackPost (l : P.Lays) (w : World) (e : Ending) (w' : World) : Prop := ∃ u, e = .returned (.agg #[u]) ∧ Lays w' (Bet w.heap.size w'.heap.size) u l ∧ Below w.heap.size w w'
theorem toStack (u : Value) (l : P.Lays) (w : World) (hu : LayR w u l) (hl : l.length ≤ 2 ^ 20) (hle : ∀ e ∈ l, Small e.1) :
    Calls Tryz.prog 24 #[.agg #[u]] w (StackPost l w) := by
  have hb0 : Below w.heap.size w (((w.alloc (.cells #[u] 52)).alloc (.cells #[.slice none 0 0] 56)).alloc (.cells #[.slice none 0 0] 56)) :=
    (((Below.refl w.heap.size w).alloc (Nat.le_refl _) _).alloc (by simp) _).alloc (by simp; omega) _
  have HU := Lib.hid (hu.below hb0)
  have HB0 := Lib.hid hb0; clear hb0
  have HLE := Lib.hid hle; clear hle
  obtain ⟨ad, cap, rfl, _, _⟩ := hu
  go_enter Tryz.func24, Tryz.ntmps24
  go_wp2_with fail
  refine (toLayerS _ l _ HU.out hl HLE.out).mono ?_
  rintro e w1 ⟨u', rfl, hI, hb⟩
  have hz : w.heap.size + 2 < w1.heap.size := by have := hb.size; simp at this; omega
  obtain ⟨hcc, hff⟩ := bcell hb
  have r0 : w1.cell? ⟨w.heap.size + 1, 0, none⟩ = some (.slice none 0 0) := by rw [hcc _ _ (by simp)]; go_simp
  have q0 : w1.cell? ⟨w.heap.size + 2, 0, none⟩ = some (.slice none 0 0) := by rw [hcc _ _ (by simp)]; go_simp
  have s0 : w1.frozen? ⟨w.heap.size + 1, 0, none⟩ = false := by rw [hff _ _ (by simp)]; go_simp
  have p0 : w1.frozen? ⟨w.heap.size + 2, 0, none⟩ = false := by rw [hff _ _ (by simp)]; go_simp
  have HI := Lib.hid hI
  have HB1 := Lib.hid (HB0.out.trans (hb.mono (by simp; omega)))
  obtain ⟨ad', cap', rfl, _, _⟩ := hI
  clear hb hcc hff HU HB0
  go_wp2
  refine bodyPost_ret (v := .agg #[.slice ad' l.length cap']) (by simp [results, Tryz.results24, go_sem, r0]) rfl ⟨_, rfl, ?_, ?_⟩
  · refine (HI.out.stand (X := fun b => b < w.heap.size + 3) layE_ok (((Chg.refl _ w1).setCell ?_ _).setCell ?_ _) ?_).wide ?_ ?_
    · simp
    · simp
    · intro b hb; simp [Bet] at hb ⊢; omega
    · intro b hb; simp [Bet, World.setCell] at hb ⊢; omega
    · intro b hb; exact hb.2
  · exact (HB1.out.setCell (by simp; omega) _).setCell (by simp) _
theorem eqLayer (u v : Value) (l : P.Dic) (t : Bool) (w : World) (hu : EntR w u l) (hv : EntR w v l) :
    Calls Tryz.prog 80 #[.agg #[u, .bool t], .agg #[v, .bool t]] w fun e w' => e = .returned (.bool true) ∧ Below w.heap.size w w' := by
  have hb0 : Below w.heap.size w ((w.alloc (.cells #[u, .bool t] 84)).alloc (.cells #[v, .bool t] 84)) :=
    ((Below.refl w.heap.size w).alloc (Nat.le_refl _) _).alloc (by simp) _
  have HU := Lib.hid (hu.below hb0); have HV := Lib.hid (hv.below hb0)
  have HB0 := Lib.hid hb0; clear hb0
  obtain ⟨ad, cap, rfl, hla, _⟩ := hu
  obtain ⟨bd, dap, rfl, _, _⟩ := hv
  go_enter Tryz.func80, Tryz.ntmps80
  go_wp2_with fail
  refine (eqDictionary _ _ l _ HU.out HV.out).mono ?_
  rintro e w1 ⟨rfl, hb⟩
  have hz : w.heap.size + 1 < w1.heap.size := by have := hb.size; simp at this; omega
  obtain ⟨hcc, hff⟩ := bcell hb
  have r1 : w1.cell? ⟨w.heap.size, 1, none⟩ = some (.bool t) := by rw [hcc _ _ (by simp; omega)]; go_simp
  have q1 : w1.cell? ⟨w.heap.size + 1, 1, none⟩ = some (.bool t) := by rw [hcc _ _ (by simp)]; go_simp
  have HB1 := Lib.hid (HB0.out.trans (hb.mono (by simp; omega)))
  clear hb hcc hff HU HV HB0
  go_wp2
  first | go_quiet (fail) | skip
  go_wp2
  go_ret
  exact ⟨rfl, by first | exact HB1.out | exact below_drewN HB1.out _⟩
/-- what region 6 of eqLayerS keeps -/
def KL (w : World) (c p : Nat) (x : Value) (g q : Nat) (y : Value) (eo : P.Dic) (et : Bool) (v : World) : Prop :=
  v.cell? ⟨c, p, none⟩ = some x ∧ v.cell? ⟨c, p + 1, none⟩ = some (.bool et) ∧ v.cell? ⟨g, q, none⟩ = some y ∧ v.cell? ⟨g, q + 1, none⟩ = some (.bool et) ∧ c < v.heap.size ∧ g < v.heap.size ∧ EntR v x eo ∧ EntR v y eo ∧ w.heap.size ≤ v.heap.size ∧ Below w.heap.size w v
theorem KL.step {w v v' : World} {c p g q : Nat} {x y : Value} {eo : P.Dic} {et : Bool} (h : KL w c p x g q y eo et v) (hb : Below v.heap.size v v') : KL w c p x g q y eo et v' := by
  obtain ⟨h1, h2, h3, h4, h5, h6, h7, h8, h9, h10⟩ := h
  exact ⟨(hb.cell (p := ⟨c, p, none⟩) h5).trans h1, (hb.cell (p := ⟨c, p + 1, none⟩) h5).trans h2, (hb.cell (p := ⟨g, q, none⟩) h6).trans h3, (hb.cell (p := ⟨g, q + 1, none⟩) h6).trans h4,
    Nat.lt_of_lt_of_le h5 hb.size, Nat.lt_of_lt_of_le h6 hb.size, h7.below hb, h8.below hb, Nat.le_trans h9 hb.size, h10.trans (hb.mono h9)⟩
theorem eqLayerS (u v : Value) (l : P.Lays) (w : World) (hu : LayR w u l) (hv : LayR w v l) :
    Calls Tryz.prog 55 #[u, v] w fun e w' => e = .returned (.bool true) ∧ Below w.heap.size w w' := by
  have HU := Lib.hid hu; have HV := Lib.hid hv
  obtain ⟨ad, cap, rfl, hla, _⟩ := hu
  obtain ⟨bd, dap, rfl, _, _⟩ := hv
  go_enter Tryz.func55, Tryz.ntmps55
  go_wp2
  go_loopw [5] (fun i wr => ∃ j : Nat, j ≤ l.length ∧ i = .int .i64 j ∧ Below w.heap.size w wr) (fun i _ => l.length - (intOf i).toNat)
  case atStart => exact ⟨0, Nat.zero_le _, rfl, Below.refl _ _⟩
  case round =>
    obtain ⟨j, hj, rfl, hb⟩ := hrel
    have HB := Lib.hid hb
    by_cases hlt : j < l.length
    · obtain ⟨c, p, hga, hgl, x, c0, c1, hx⟩ := (HU.out.below hb).at j hlt
      obtain ⟨g, q, hgb, hgl', y, d0, d1, hy⟩ := (HV.out.below hb).at j hlt
      subst hga hgb
      have HS := Lib.hid (show KL w c (p + j * 2) x g (q + j * 2) y l[j].1 l[j].2 wr.drew from KL.step ⟨c0, c1, d0, d1, hgl, hgl', hx, hy, hb.size, hb⟩ (Below.refl _ _).drew)
      obtain ⟨xd, xc, rfl, _, _⟩ := hx
      obtain ⟨yd, yc, rfl, _, _⟩ := hy
      generalize l[j] = en at *
      obtain ⟨eo, et⟩ := en
      simp only at c0 c1 d0 d1 HS
      clear hb
      have i1 : (j : Int) < (l.length : Int) := by omega
      go_upto_region 6 with fail
      refine wp_region_held_drew (S := KL w c (p + j * 2) (.slice xd eo.length xc) g (q + j * 2) (.slice yd eo.length yc) eo et) (by kernel_rfl) HS.out (fun hS0 => ?_)
      refine wpAnyH_take (i := 0) (v := .slice (some ⟨c, p, none⟩) l.length cap) rfl (by kernel_rfl) (by kernel_rfl) (by kernel_rfl) (fun _ _ _ h => h) (Or.inl ⟨by rfl, fun z hz => ?_⟩) hS0 ?_
      · obtain ⟨z1, z2, z3, z4, z5, z6⟩ := hz
        go_simp
      try simp only [List.getElem_toArray, List.getElem_cons_zero, Act.put, List.setIfInBounds_toArray, List.set_cons_zero, List.set_cons_succ]
      refine wpAnyH_take (i := 1) (v := .int .i64 j) rfl (by kernel_rfl) (by kernel_rfl) (by kernel_rfl) (fun _ _ _ h => h) (Or.inl ⟨by rfl, fun z hz => ?_⟩) hS0 ?_
      · obtain ⟨z1, z2, z3, z4, z5, z6⟩ := hz
        go_simp
      try simp only [List.getElem_toArray, List.getElem_cons_zero, List.getElem_cons_succ, Act.put, List.setIfInBounds_toArray, List.set_cons_zero, List.set_cons_succ]
      refine wpAnyH_take (i := 2) (v := .pointer (some ⟨c, p + j * 2, none⟩)) rfl (by kernel_rfl) (by kernel_rfl) (by kernel_rfl) (fun _ _ _ h => h) (Or.inl ⟨by rfl, fun z hz => ?_⟩) hS0 ?_
      · obtain ⟨z1, z2, z3, z4, z5, z6⟩ := hz
        go_simp
      try simp only [List.getElem_toArray, List.getElem_cons_zero, List.getElem_cons_succ, Act.put, List.setIfInBounds_toArray, List.set_cons_zero, List.set_cons_succ]
      refine wpAnyH_take (i := 3) (v := .agg #[.slice xd eo.length xc, .bool et]) rfl (by kernel_rfl) (by kernel_rfl) (by kernel_rfl) (fun _ _ _ h => h) (Or.inl ⟨by rfl, fun z hz => ?_⟩) hS0 ?_
      · obtain ⟨z1, z2, z3, z4, z5, z6⟩ := hz
        go_simp
      try simp only [List.getElem_toArray, List.getElem_cons_zero, List.getElem_cons_succ, Act.put, List.setIfInBounds_toArray, List.set_cons_zero, List.set_cons_succ]
      refine wpAnyH_take (i := 4) (v := .slice (some ⟨g, q, none⟩) l.length dap) rfl (by kernel_rfl) (by kernel_rfl) (by kernel_rfl) (fun _ _ _ h => h) (Or.inl ⟨by rfl, fun z hz => ?_⟩) hS0 ?_
      · obtain ⟨z1, z2, z3, z4, z5, z6⟩ := hz
        go_simp
      try simp only [List.getElem_toArray, List.getElem_cons_zero, List.getElem_cons_succ, Act.put, List.setIfInBounds_toArray, List.set_cons_zero, List.set_cons_succ]
      refine wpAnyH_take (i := 5) (v := .int .i64 j) rfl (by kernel_rfl) (by kernel_rfl) (by kernel_rfl) (fun _ _ _ h => h) (Or.inl ⟨by rfl, fun z hz => ?_⟩) hS0 ?_
      · obtain ⟨z1, z2, z3, z4, z5, z6⟩ := hz
        go_simp
      try simp only [List.getElem_toArray, List.getElem_cons_zero, List.getElem_cons_succ, Act.put, List.setIfInBounds_toArray, List.set_cons_zero, List.set_cons_succ]
      refine wpAnyH_take (i := 6) (v := .pointer (some ⟨g, q + j * 2, none⟩)) rfl (by kernel_rfl) (by kernel_rfl) (by kernel_rfl) (fun _ _ _ h => h) (Or.inl ⟨by rfl, fun z hz => ?_⟩) hS0 ?_
      · obtain ⟨z1, z2, z3, z4, z5, z6⟩ := hz
        go_simp
      try simp only [List.getElem_toArray, List.getElem_cons_zero, List.getElem_cons_succ, Act.put, List.setIfInBounds_toArray, List.set_cons_zero, List.set_cons_succ]
      refine wpAnyH_take (i := 7) (v := .agg #[.slice yd eo.length yc, .bool et]) rfl (by kernel_rfl) (by kernel_rfl) (by kernel_rfl) (fun _ _ _ h => h) (Or.inl ⟨by rfl, fun z hz => ?_⟩) hS0 ?_
      · obtain ⟨z1, z2, z3, z4, z5, z6⟩ := hz
        go_simp
      try simp only [List.getElem_toArray, List.getElem_cons_zero, List.getElem_cons_succ, Act.put, List.setIfInBounds_toArray, List.set_cons_zero, List.set_cons_succ]
      refine wpAnyH_ready (rs := [8]) (by kernel_rfl) (by simp) ?_
      refine AllReadyH.cons rfl (fun K hK => ?_) AllReadyH.nil
      have HS1 := Lib.hid hS0
      have HX := Lib.hid hS0.2.2.2.2.2.2.1
      have HY := Lib.hid hS0.2.2.2.2.2.2.2.1
      go_simp
      refine (eqLayer _ _ eo et _ HX.out HY.out).mono ?_
      rintro e v ⟨rfl, hb⟩
      refine hK.out _ _ (HS1.out.step hb) (fun hS1 => ?_)
      clear hK K hb
      try simp only [List.getElem_toArray, List.getElem_cons_zero, List.getElem_cons_succ, Act.put, List.setIfInBounds_toArray, List.set_cons_zero, List.set_cons_succ]
      refine wpAnyH_take (i := 9) (v := .bool false) rfl (by kernel_rfl) (by kernel_rfl) (by kernel_rfl) (fun _ _ _ h => h) (Or.inl ⟨by rfl, fun z hz => ?_⟩) hS1 ?_
      · obtain ⟨z1, z2, z3, z4, z5, z6⟩ := hz
        go_simp
      try simp only [List.getElem_toArray, List.getElem_cons_zero, List.getElem_cons_succ, Act.put, List.setIfInBounds_toArray, List.set_cons_zero, List.set_cons_succ]
      refine wpAnyH_done (by kernel_rfl) ?_ _
      have HB2 := Lib.hid (hS1.2.2.2.2.2.2.2.2.2)
      clear hS0 hS1 HS1
      go_wp2
      go_roundw
      case rel => exact ⟨j + 1, by omega, by go_num, HB2.out⟩
      case measure => simp [intOf]; omega
    · clear hb
      go_wp2
      go_ret
      exact ⟨rfl, HB.out⟩
theorem eqStack (u v : Value) (l : P.Lays) (w : World) (hu : LayR w u l) (hv : LayR w v l) :
    Calls Tryz.prog 26 #[.agg #[u], .agg #[v]] w fun e w' => e = .returned (.bool true) ∧ Below w.heap.size w w' := by
  have hb0 : Below w.heap.size w ((w.alloc (.cells #[u] 56)).alloc (.cells #[v] 56)) :=
    ((Below.refl w.heap.size w).alloc (Nat.le_refl _) _).alloc (by simp) _
  have HU := Lib.hid (hu.below hb0); have HV := Lib.hid (hv.below hb0)
  have HB0 := Lib.hid hb0; clear hb0
  obtain ⟨ad, cap, rfl, hla, _⟩ := hu
  obtain ⟨bd, dap, rfl, _, _⟩ := hv
  go_enter Tryz.func26, Tryz.ntmps26
  go_wp2_with fail
  refine (eqLayerS _ _ l _ HU.out HV.out).mono ?_
  rintro e w1 ⟨rfl, hb⟩
  have HB1 := Lib.hid (HB0.out.trans (hb.mono (by simp; omega)))
  clear hb HU HV HB0
  go_wp2
  go_ret
  exact ⟨rfl, HB1.out⟩
end Go.Proofs.YtfoajpehmbojbaaGreatDoor
