/- Walks: the law's own functions on layers: a copy, they are equal. Walks: the law's own functions on layers: a mark, what is held, their size. Arguments of a law: rows of layers, however long; their size. -/
import Derived.Deep.DeepCutAuto
import Derived.Test.YtonhkglilnplbaaGreatDoorLawD
namespace Go.Proofs.YtonhkglilnplbaaGreatDoor
section
abbrev P.Lay := P.Dic × Bool
abbrev P.Lays := List P.Lay
open Go Go.RowKit
set_option maxHeartbeats 1000000
set_option maxRecDepth 100000
/-- a slice of layers, as it is read -/
def LayR (v : World) (u : Value) (l : P.Lays) : Prop :=
  ∃ (ad : Option Addr) (cap : Nat), u = .slice ad l.length cap ∧ (l.length ≤ 2 ^ 45 ∧ l.length ≤ cap) ∧ (ad = none → cap = 0) ∧ (l = [] ∨ ∃ g o, ad = some ⟨g, o, none⟩ ∧ g < v.heap.size ∧ ∀ (j : Nat) (h : j < l.length), ∃ x, v.cell? ⟨g, o + j * 2, none⟩ = some x ∧ v.cell? ⟨g, o + j * 2 + 1, none⟩ = some (.bool (l[j]'h).2) ∧ EntR v x (l[j]'h).1)
theorem LayR.below {v v' : World} {u : Value} {l : P.Lays} (h : LayR v u l) (hb : Below v.heap.size v v') : LayR v' u l := by
  obtain ⟨ad, cap, h1, h2, hn, h3⟩ := h
  refine ⟨ad, cap, h1, h2, hn, h3.imp id ?_⟩
  rintro ⟨g, o, h4, h5, h6⟩
  refine ⟨g, o, h4, Nat.lt_of_lt_of_le h5 hb.size, fun j hj => ?_⟩
  obtain ⟨x, a, b, c⟩ := h6 j hj
  exact ⟨x, (hb.cell (p := ⟨g, _, none⟩) h5).trans a, (hb.cell (p := ⟨g, _, none⟩) h5).trans b, c.below hb⟩
theorem LayR.at {v : World} {ad : Option Addr} {n cap : Nat} {l : P.Lays} (h : LayR v (.slice ad n cap) l) (j : Nat) (hj : j < l.length) : ∃ g o, ad = some ⟨g, o, none⟩ ∧ g < v.heap.size ∧ ∃ x, v.cell? ⟨g, o + j * 2, none⟩ = some x ∧ v.cell? ⟨g, o + j * 2 + 1, none⟩ = some (.bool (l[j]'hj).2) ∧ EntR v x (l[j]'hj).1 := by
  obtain ⟨ad', cap', he, _, _, h3⟩ := h
  injection he with h1 h2 h4
  rcases h3 with h3 | ⟨g, o, h5, h6, h7⟩
  · rw [h3] at hj; exact absurd hj (Nat.not_lt_zero _)
  · exact ⟨g, o, h1.trans h5, h6, h7 j hj⟩
/-- a layer -/
def layE : ElT P.Lay := fun v F cs e => ∃ x, cs = [x, .bool e.2] ∧ RowO 2 entE v F x e.1
theorem layE_ok : ElOk layE :=
  ⟨fun ⟨x, h, k⟩ hk => ⟨x, h, k.keep entE_ok hk⟩, fun ⟨x, h, k⟩ hF hl => ⟨x, h, k.wide hF hl⟩⟩
abbrev Lays := RowO 2 layE
theorem Lays.read {v : World} {F : Blk} {u : Value} {l : P.Lays} (h : Lays v F u l) : LayR v u l := by
  obtain ⟨ad, cap, h1, h2, hn, h3⟩ := h
  refine ⟨ad, cap, h1, by omega, hn.1, h3.imp id ?_⟩
  rintro ⟨g, o, G, C, h4, h5⟩
  refine ⟨g, o, h4, h5.lt _ h5.own, fun j hj => ?_⟩
  obtain ⟨x, he, hx⟩ := h5.el j hj
  have hc := (h5.cel j hj 0 (by rw [he]; simp)).1
  have hd := (h5.cel j hj 1 (by rw [he]; simp)).1
  simp only [he, List.getElem_cons_zero, List.getElem_cons_succ, Nat.add_zero] at hc hd
  exact ⟨x, hc, hd, Ents.read hx⟩
def LayPost (l : P.Dic) (t : Bool) (w : World) (e : Ending) (w' : World) : Prop := ∃ u, e = .returned (.agg #[u, .bool t]) ∧ Ents w' (Bet w.heap.size w'.heap.size) u l ∧ Below w.heap.size w w'
theorem toLayer (u : Value) (l : P.Dic) (t : Bool) (w : World) (hu : EntR w u l) (hs : Small l) :
    Calls Tryz.prog 164 #[.agg #[u, .bool t]] w (LayPost l t w) := by
  have hb0 : Below w.heap.size w (((w.alloc (.cells #[u, .bool t] 180)).alloc (.cells #[.slice none 0 0, .bool false] 74)).alloc (.cells #[.slice none 0 0, .bool false] 74)) :=
    (((Below.refl w.heap.size w).alloc (Nat.le_refl _) _).alloc (by simp) _).alloc (by simp; omega) _
  have HU := Lib.hid (hu.below hb0)
  have HB0 := Lib.hid hb0; clear hb0
  obtain ⟨ad, cap, rfl, _, _⟩ := hu
  go_enter Tryz.func164, Tryz.ntmps164
  go_wp2_with fail
  refine (toDictionary _ l _ HU.out hs.len hs.outs).mono ?_
  rintro e w1 ⟨u', rfl, hI, hb⟩
  have hz : w.heap.size + 2 < w1.heap.size := by have := hb.size; simp at this; omega
  obtain ⟨hcc, hff⟩ := bcell hb
  have c1 : w1.cell? ⟨w.heap.size, 1, none⟩ = some (.bool t) := by rw [hcc _ _ (by simp; omega)]; go_simp
  have r0 : w1.cell? ⟨w.heap.size + 1, 0, none⟩ = some (.slice none 0 0) := by rw [hcc _ _ (by simp)]; go_simp
  have r1 : w1.cell? ⟨w.heap.size + 1, 1, none⟩ = some (.bool false) := by rw [hcc _ _ (by simp)]; go_simp
  have q0 : w1.cell? ⟨w.heap.size + 2, 0, none⟩ = some (.slice none 0 0) := by rw [hcc _ _ (by simp)]; go_simp
  have q1 : w1.cell? ⟨w.heap.size + 2, 1, none⟩ = some (.bool false) := by rw [hcc _ _ (by simp)]; go_simp
  have s0 : w1.frozen? ⟨w.heap.size + 1, 0, none⟩ = false := by rw [hff _ _ (by simp)]; go_simp
  have s1 : w1.frozen? ⟨w.heap.size + 1, 1, none⟩ = false := by rw [hff _ _ (by simp)]; go_simp
  have p0 : w1.frozen? ⟨w.heap.size + 2, 0, none⟩ = false := by rw [hff _ _ (by simp)]; go_simp
  have p1 : w1.frozen? ⟨w.heap.size + 2, 1, none⟩ = false := by rw [hff _ _ (by simp)]; go_simp
  have HI := Lib.hid hI
  have HB1 := Lib.hid (HB0.out.trans (hb.mono (by simp; omega)))
  obtain ⟨ad', cap', rfl, _, _⟩ := hI
  clear hb hcc hff HU HB0
  go_wp2
  refine bodyPost_ret (v := .agg #[.slice ad' l.length cap', .bool t]) (by simp [results, Tryz.results164, go_sem, r0, r1]) rfl ⟨_, rfl, ?_, ?_⟩
  · refine (HI.out.stand (X := fun b => b < w.heap.size + 3) entE_ok (((((Chg.refl _ w1).setCell ?_ _).setCell ?_ _).setCell ?_ _).setCell ?_ _) ?_).wide ?_ ?_
    · simp
    · simp
    · simp
    · simp
    · intro b hb; simp [Bet] at hb ⊢; omega
    · intro b hb; simp [Bet, World.setCell] at hb ⊢; omega
    · intro b hb; exact hb.2
  · exact (((HB1.out.setCell (by simp; omega) _).setCell (by simp; omega) _).setCell (by simp) _).setCell (by simp) _
theorem info_lay : (Tryz.prog.info? 74).map (fun i => (i.zero, i.size, i.bytes)) = some (some (.agg #[.slice none 0 0, .bool false]), 2, 32) := by kernel_rfl
theorem run_mkL (k : Nat) (w : World) (hk : k ≤ 2 ^ 20) : (Instr.makeSlice 50 (.int .i64 k) (.int .i64 k)).run Tryz.prog w = .ok (.slice (some ⟨w.heap.size, 0, none⟩) k k) (w.alloc (.cells (madeCells #[.slice none 0 0, .bool false] (k * 2)) 74)) := by
  obtain ⟨i, hi, he⟩ := Option.map_eq_some_iff.mp info_lay
  simp only [Prod.mk.injEq] at he
  obtain ⟨hz, hs, hb⟩ := he
  have h := run_make (P := Tryz.prog) w 50 74 i (.agg #[.slice none 0 0, .bool false]) Tryz.underlying50 hi hz .i64 .i64 k k (by omega) (by omega) (by rw [hb]; omega) (by omega)
  rw [hs, Int.toNat_natCast] at h
  simpa [Value.cells] using h
def noLay : P.Lay := ([], false)
/-- a fresh row of entries -/
theorem made_lays (k : Nat) (w : World) (t : TypeId) : RowC 2 layE (w.alloc (.cells (madeCells #[.slice none 0 0, .bool false] (k * 2)) t)) (Bet w.heap.size (w.heap.size + 1)) w.heap.size 0 (fun _ _ => False) (fun _ => [.slice none 0 0, .bool false]) (List.replicate k noLay) := by
  refine ⟨⟨Nat.le_refl _, by omega⟩, fun b hb => by simpa using hb.2, fun j hj => ?_, fun _ _ => rfl, fun j hj => ?_, fun _ _ _ h => h.elim, fun _ _ _ _ _ h _ => h⟩
  · exact made_rec #[.slice none 0 0, .bool false] k j w t (by simpa using hj)
  · rw [List.getElem_replicate]
    exact ⟨_, rfl, RowO.nil _ _⟩
/-- how a copy of entries stands in a round -/
def CopyL (B j : Nat) (l : P.Lays) (v : World) : Prop := ∃ (m : P.Lays) (G : Nat → Blk) (C : Nat → List Value), m.length = l.length ∧ m.take j = l.take j ∧ RowC 2 layE v (Bet B v.heap.size) B 0 G C m
theorem CopyL.cells {B j : Nat} {l : P.Lays} {v : World} (h : CopyL B j l v) (hj : j < l.length) : ∃ x y, v.cell? ⟨B, j * 2, none⟩ = some x ∧ v.cell? ⟨B, j * 2 + 1, none⟩ = some y ∧ v.frozen? ⟨B, j * 2, none⟩ = false ∧ v.frozen? ⟨B, j * 2 + 1, none⟩ = false := by
  obtain ⟨m, G, C, hm, _, h⟩ := h
  have hw := h.wid j (by omega)
  have a := h.cel j (by omega) 0 (by omega)
  have b := h.cel j (by omega) 1 (by omega)
  rw [Nat.zero_add] at a b
  exact ⟨_, _, a.1, b.1, a.2, b.2⟩
theorem CopyL.put {B j : Nat} {l : P.Lays} {v v1 : World} (h : CopyL B j l v) (hj : j < l.length) (hB : B < v.heap.size) {u : Value} (hb : Below v.heap.size v v1) (hI : Ents v1 (Bet v.heap.size v1.heap.size) u l[j].1) :
    CopyL B (j + 1) l ((v1.setCell ⟨B, j * 2, none⟩ u).setCell ⟨B, j * 2 + 1, none⟩ (.bool l[j].2)) := by
  obtain ⟨m, G, C, hm, ht, h⟩ := h
  have hs : ((v1.setCell ⟨B, j * 2, none⟩ u).setCell ⟨B, j * 2 + 1, none⟩ (.bool l[j].2)).heap.size = v1.heap.size := by simp [World.setCell]
  have hblk : ∀ b, b ≠ B → ((v1.setCell ⟨B, j * 2, none⟩ u).setCell ⟨B, j * 2 + 1, none⟩ (.bool l[j].2)).heap[b]? = v1.heap[b]? := by
    intro b hb
    rw [Below.heap_setCell _ _ _ _ hb, Below.heap_setCell _ _ _ _ hb]
  have h1 : RowC 2 layE v1 (Bet B v.heap.size) B 0 G C m := h.keep layE_ok ⟨hb.size, fun b hb' => hb.block b hb'.2⟩
  refine ⟨m.set j l[j], _, _, by rw [List.length_set]; exact hm, ?_, h1.put layE_ok j (by omega) (Bet B ((v1.setCell ⟨B, j * 2, none⟩ u).setCell ⟨B, j * 2 + 1, none⟩ (.bool l[j].2)).heap.size) (Bet v.heap.size v1.heap.size) [u, .bool l[j].2] l[j] ?_ ?_ ?_ ?_ rfl ?_ ?_ ?_ ?_ ?_⟩
  · rw [take_snoc l j hj, take_snoc (m.set j l[j]) j (by rw [List.length_set]; omega), List.take_set_of_le (Nat.le_refl j), ht]
    simp
  · intro b hb'; rw [hs]; exact ⟨hb'.1, Nat.lt_of_lt_of_le hb'.2 hb.size⟩
  · intro b hb'; exact hb'.2
  · rw [hs]; exact Nat.le_refl _
  · have hc := h1.cel j (by omega)
    have hw := h1.wid j (by omega)
    have e := (hc.set_at 0 (by omega) u).set_at 1 (by rw [List.length_set]; omega) (.bool l[j].2)
    simp only [Nat.zero_add, Nat.add_zero] at e ⊢
    obtain ⟨x, y, hxy⟩ : ∃ x y, C j = [x, y] := by
      match hC : C j, hw with
      | [x, y], _ => exact ⟨x, y, rfl⟩
    rw [hxy] at e
    exact e
  · refine ⟨u, rfl, (hI.stand (X := fun b => b = B) entE_ok (((Chg.refl (fun b => b = B) v1).setCell (p := ⟨B, j * 2, none⟩) rfl _).setCell (p := ⟨B, j * 2 + 1, none⟩) rfl _) ?_)⟩
    rintro b hb' rfl
    exact absurd hb'.1 (by omega)
  · intro b hb'; rw [hs]; exact ⟨⟨by have := hb'.1; omega, hb'.2⟩, by have := hb'.1; omega⟩
  · intro i hi hij b h2 h3
    have := (h1.sub i hi b h2).1.2
    have := h3.1
    omega
  · intro i hi hij
    have hw := h1.wid i hi
    have hc := h1.cel i hi
    have o0 := cel_out (wd := 2) (o := 0) hij 0 (by omega)
    have o1 := cel_out (wd := 2) (o := 0) hij 1 (by omega)
    refine (hc.set_other ?_ _).set_other ?_ _ <;> rw [hw] <;> omega
  · intro i hi hij b hb'
    exact hblk b (h1.sub i hi b hb').2
/-- a slice of entries of the call's own -/
def LaysPost (l : P.Lays) (w : World) (e : Ending) (w' : World) : Prop := ∃ u, e = .returned u ∧ Lays w' (Bet w.heap.size w'.heap.size) u l ∧ Below w.heap.size w w'
theorem toLayerS (u : Value) (l : P.Lays) (w : World) (hu : LayR w u l) (hl : l.length ≤ 2 ^ 20) (hle : ∀ e ∈ l, Small e.1) :
    Calls Tryz.prog 116 #[u] w (LaysPost l w) := by
  have HU := Lib.hid hu
  have HLE := Lib.hid hle; clear hle
  obtain ⟨ad, cap, rfl, _, _⟩ := hu
  have hmk := run_mkL l.length w hl
  have HC0 := Lib.hid (show CopyL w.heap.size 0 l (w.alloc (.cells (madeCells #[.slice none 0 0, .bool false] (l.length * 2)) 74)) from
    ⟨_, _, _, by simp, by simp, (made_lays l.length w 74).wide (fun b hb => ⟨hb.1, by simpa using hb.2⟩) (fun b hb => hb.2)⟩)
  have HB := Lib.hid ((Below.refl w.heap.size w).alloc (Nat.le_refl _) (.cells (madeCells #[.slice none 0 0, .bool false] (l.length * 2)) 74))
  go_enter Tryz.func116, Tryz.ntmps116
  go_wp2
  go_loopw [4] (fun i wr => ∃ j : Nat, j ≤ l.length ∧ i = .int .i64 j ∧ CopyL w.heap.size j l wr ∧ w.heap.size < wr.heap.size ∧ Below w.heap.size w wr) (fun i _ => l.length - (intOf i).toNat)
  case atStart => exact ⟨0, Nat.zero_le _, rfl, HC0.out, by simp, HB.out⟩
  case round =>
    obtain ⟨j, hj, rfl, hc, hz, hb⟩ := hrel
    have HC := Lib.hid hc
    have HBB := Lib.hid hb
    clear hmk HC0 HB
    by_cases hlt : j < l.length
    · obtain ⟨g, o, hga, hgl, x, c0, c1, hx⟩ := (HU.out.below hb).at j hlt
      obtain ⟨y0, y1, d0, d1, f0, f1⟩ := hc.cells hlt
      have HX := Lib.hid hx
      have hll := HLE.out _ (List.getElem_mem hlt)
      have HPUT := Lib.hid (fun (v1 : World) (u : Value) (h1 : Below wr.heap.size wr v1) (h2 : Ents v1 (Bet wr.heap.size v1.heap.size) u l[j].1) => CopyL.put HC.out hlt hz h1 h2)
      obtain ⟨xd, xc, rfl, _, _⟩ := hx
      subst hga
      generalize l[j] = en at *
      obtain ⟨eo, et⟩ := en
      simp only at c1 hll HX HPUT
      have i1 : (j : Int) < (l.length : Int) := by omega
      clear hb hc
      go_wp2_with fail
      refine (toLayer _ eo et _ HX.out hll).mono ?_
      rintro e v1 ⟨u1, rfl, hI, hb1⟩
      obtain ⟨hcc, hff⟩ := bcell hb1
      have d0' := (hcc w.heap.size (j * 2) hz).trans d0
      have d1' := (hcc w.heap.size (j * 2 + 1) hz).trans d1
      have f0' := (hff w.heap.size (j * 2) hz).trans f0
      have f1' := (hff w.heap.size (j * 2 + 1) hz).trans f1
      have HPP := Lib.hid (HPUT.out v1 u1 hb1 hI)
      obtain ⟨ad1, cap1, rfl, _, _⟩ := hI
      have hz1 := Nat.lt_of_lt_of_le hz hb1.size
      have HB1 := Lib.hid (HBB.out.trans (hb1.mono (Nat.le_of_lt hz)))
      clear hcc hff hb1 d0 d1 f0 f1
      go_wp2
      go_roundw
      case rel => exact ⟨j + 1, by omega, by go_num, HPP.out, by simpa [World.setCell] using hz1, (HB1.out.setCell (Nat.le_refl _) _).setCell (Nat.le_refl _) _⟩
      case measure => simp [intOf]; omega
    · have hjl : l.length = j := by omega
      clear hb hc
      go_wp2
      go_ret
      refine ⟨_, rfl, ?_, HBB.out⟩
      obtain ⟨m, G, C, hm, ht, hr⟩ := HC.out
      have e : m = l := by rwa [List.take_of_length_le (by omega), List.take_of_length_le (by omega)] at ht
      rw [e] at hr
      exact ⟨_, _, by first | rfl | rw [hjl], by omega, ⟨(fun h => by cases h), by first | exact Nat.le_refl _ | omega⟩, .inr ⟨_, _, _, _, rfl, hr⟩⟩
/-- a dictionary of the call's own -/
def StackPost (l : P.Lays) (w : World) (e : Ending) (w' : World) : Prop := ∃ u, e = .returned (.agg #[u]) ∧ Lays w' (Bet w.heap.size w'.heap.size) u l ∧ Below w.heap.size w w'
theorem toStack (u : Value) (l : P.Lays) (w : World) (hu : LayR w u l) (hl : l.length ≤ 2 ^ 20) (hle : ∀ e ∈ l, Small e.1) :
    Calls Tryz.prog 39 #[.agg #[u]] w (StackPost l w) := by
  have hb0 : Below w.heap.size w (((w.alloc (.cells #[u] 63)).alloc (.cells #[.slice none 0 0] 52)).alloc (.cells #[.slice none 0 0] 52)) :=
    (((Below.refl w.heap.size w).alloc (Nat.le_refl _) _).alloc (by simp) _).alloc (by simp; omega) _
  have HU := Lib.hid (hu.below hb0)
  have HB0 := Lib.hid hb0; clear hb0
  have HLE := Lib.hid hle; clear hle
  obtain ⟨ad, cap, rfl, _, _⟩ := hu
  go_enter Tryz.func39, Tryz.ntmps39
  go_wp2_with fail
  refine (toLayerS _ l _ HU.out hl HLE.out).mono ?_
  rintro e w1 ⟨u', rfl, hI, hb⟩
  have hz : w.heap.size + 2 < w1.heap.size := by have := hb.size; simp at this; omega
  obtain ⟨hcc, hff⟩ := bcell hb
  have r0 : w1.cell? ⟨w.heap.size + 1, 0, none⟩ = some (.slice none 0 0) := by rw [hcc _ _ (by simp)]; go_simp
  have q0 : w1.cell? ⟨w.heap.size + 2, 0, none⟩ = some (.slice none 0 0) := by rw [hcc _ _ (by simp)]; go_simp
  have s0 : w1.frozen? ⟨w.heap.size + 1, 0, none⟩ = false := by rw [hff _ _ (by simp)]; go_simp
  have p0 : w1.frozen? ⟨w.heap.size + 2, 0, none⟩ = false := by rw [hff _ _ (by simp)]; go_simp
  have HI := Lib.hid hI
  have HB1 := Lib.hid (HB0.out.trans (hb.mono (by simp; omega)))
  obtain ⟨ad', cap', rfl, _, _⟩ := hI
  clear hb hcc hff HU HB0
  go_wp2
  refine bodyPost_ret (v := .agg #[.slice ad' l.length cap']) (by simp [results, Tryz.results39, go_sem, r0]) rfl ⟨_, rfl, ?_, ?_⟩
  · refine (HI.out.stand (X := fun b => b < w.heap.size + 3) layE_ok (((Chg.refl _ w1).setCell ?_ _).setCell ?_ _) ?_).wide ?_ ?_
    · simp
    · simp
    · intro b hb; simp [Bet] at hb ⊢; omega
    · intro b hb; simp [Bet, World.setCell] at hb ⊢; omega
    · intro b hb; exact hb.2
  · exact (HB1.out.setCell (by simp; omega) _).setCell (by simp) _
theorem eqLayer (u v : Value) (l : P.Dic) (t : Bool) (w : World) (hu : EntR w u l) (hv : EntR w v l) :
    Calls Tryz.prog 168 #[.agg #[u, .bool t], .agg #[v, .bool t]] w fun e w' => e = .returned (.bool true) ∧ Below w.heap.size w w' := by
  have hb0 : Below w.heap.size w ((w.alloc (.cells #[u, .bool t] 74)).alloc (.cells #[v, .bool t] 74)) :=
    ((Below.refl w.heap.size w).alloc (Nat.le_refl _) _).alloc (by simp) _
  have HU := Lib.hid (hu.below hb0); have HV := Lib.hid (hv.below hb0)
  have HB0 := Lib.hid hb0; clear hb0
  obtain ⟨ad, cap, rfl, hla, _⟩ := hu
  obtain ⟨bd, dap, rfl, _, _⟩ := hv
  go_enter Tryz.func168, Tryz.ntmps168
  go_wp2_with fail
  refine (eqDictionary _ _ l _ HU.out HV.out).mono ?_
  rintro e w1 ⟨rfl, hb⟩
  have hz : w.heap.size + 1 < w1.heap.size := by have := hb.size; simp at this; omega
  obtain ⟨hcc, hff⟩ := bcell hb
  have r1 : w1.cell? ⟨w.heap.size, 1, none⟩ = some (.bool t) := by rw [hcc _ _ (by simp; omega)]; go_simp
  have q1 : w1.cell? ⟨w.heap.size + 1, 1, none⟩ = some (.bool t) := by rw [hcc _ _ (by simp)]; go_simp
  have HB1 := Lib.hid (HB0.out.trans (hb.mono (by simp; omega)))
  clear hb hcc hff HU HV HB0
  go_wp2
  first | go_quiet (fail) | skip
  go_wp2
  go_ret
  exact ⟨rfl, by first | exact HB1.out | exact below_drewN HB1.out _⟩
/-- what region 6 of eqLayerS keeps -/
def KL (w : World) (c p : Nat) (x : Value) (g q : Nat) (y : Value) (eo : P.Dic) (et : Bool) (v : World) : Prop :=
  v.cell? ⟨c, p, none⟩ = some x ∧ v.cell? ⟨c, p + 1, none⟩ = some (.bool et) ∧ v.cell? ⟨g, q, none⟩ = some y ∧ v.cell? ⟨g, q + 1, none⟩ = some (.bool et) ∧ c < v.heap.size ∧ g < v.heap.size ∧ EntR v x eo ∧ EntR v y eo ∧ w.heap.size ≤ v.heap.size ∧ Below w.heap.size w v
theorem KL.step {w v v' : World} {c p g q : Nat} {x y : Value} {eo : P.Dic} {et : Bool} (h : KL w c p x g q y eo et v) (hb : Below v.heap.size v v') : KL w c p x g q y eo et v' := by
  obtain ⟨h1, h2, h3, h4, h5, h6, h7, h8, h9, h10⟩ := h
  exact ⟨(hb.cell (p := ⟨c, p, none⟩) h5).trans h1, (hb.cell (p := ⟨c, p + 1, none⟩) h5).trans h2, (hb.cell (p := ⟨g, q, none⟩) h6).trans h3, (hb.cell (p := ⟨g, q + 1, none⟩) h6).trans h4,
    Nat.lt_of_lt_of_le h5 hb.size, Nat.lt_of_lt_of_le h6 hb.size, h7.below hb, h8.below hb, Nat.le_trans h9 hb.size, h10.trans (hb.mono h9)⟩
theorem eqLayerS (u v : Value) (l : P.Lays) (w : World) (hu : LayR w u l) (hv : LayR w v l) :
    Calls Tryz.prog 121 #[u, v] w fun e w' => e = .returned (.bool true) ∧ Below w.heap.size w w' := by
  have HU := Lib.hid hu; have HV := Lib.hid hv
  obtain ⟨ad, cap, rfl, hla, _⟩ := hu
  obtain ⟨bd, dap, rfl, _, _⟩ := hv
  go_enter Tryz.func121, Tryz.ntmps121
  go_wp2
  go_loopw [5] (fun i wr => ∃ j : Nat, j ≤ l.length ∧ i = .int .i64 j ∧ Below w.heap.size w wr) (fun i _ => l.length - (intOf i).toNat)
  case atStart => exact ⟨0, Nat.zero_le _, rfl, Below.refl _ _⟩
  case round =>
    obtain ⟨j, hj, rfl, hb⟩ := hrel
    have HB := Lib.hid hb
    by_cases hlt : j < l.length
    · obtain ⟨c, p, hga, hgl, x, c0, c1, hx⟩ := (HU.out.below hb).at j hlt
      obtain ⟨g, q, hgb, hgl', y, d0, d1, hy⟩ := (HV.out.below hb).at j hlt
      subst hga hgb
      have HS := Lib.hid (show KL w c (p + j * 2) x g (q + j * 2) y l[j].1 l[j].2 wr.drew from KL.step ⟨c0, c1, d0, d1, hgl, hgl', hx, hy, hb.size, hb⟩ (Below.refl _ _).drew)
      obtain ⟨xd, xc, rfl, _, _⟩ := hx
      obtain ⟨yd, yc, rfl, _, _⟩ := hy
      generalize l[j] = en at *
      obtain ⟨eo, et⟩ := en
      simp only at c0 c1 d0 d1 HS
      clear hb
      have i1 : (j : Int) < (l.length : Int) := by omega
      go_upto_region 6 with fail
      refine wp_region_held_drew (S := KL w c (p + j * 2) (.slice xd eo.length xc) g (q + j * 2) (.slice yd eo.length yc) eo et) (by kernel_rfl) HS.out (fun hS0 => ?_)
      refine wpAnyH_take (i := 0) (v := .slice (some ⟨c, p, none⟩) l.length cap) rfl (by kernel_rfl) (by kernel_rfl) (by kernel_rfl) (fun _ _ _ h => h) (Or.inl ⟨by rfl, fun z hz => ?_⟩) hS0 ?_
      · obtain ⟨z1, z2, z3, z4, z5, z6⟩ := hz
        go_simp
      try simp only [List.getElem_toArray, List.getElem_cons_zero, Act.put, List.setIfInBounds_toArray, List.set_cons_zero, List.set_cons_succ]
      refine wpAnyH_take (i := 1) (v := .int .i64 j) rfl (by kernel_rfl) (by kernel_rfl) (by kernel_rfl) (fun _ _ _ h => h) (Or.inl ⟨by rfl, fun z hz => ?_⟩) hS0 ?_
      · obtain ⟨z1, z2, z3, z4, z5, z6⟩ := hz
        go_simp
      try simp only [List.getElem_toArray, List.getElem_cons_zero, List.getElem_cons_succ, Act.put, List.setIfInBounds_toArray, List.set_cons_zero, List.set_cons_succ]
      refine wpAnyH_take (i := 2) (v := .pointer (some ⟨c, p + j * 2, none⟩)) rfl (by kernel_rfl) (by kernel_rfl) (by kernel_rfl) (fun _ _ _ h => h) (Or.inl ⟨by rfl, fun z hz => ?_⟩) hS0 ?_
      · obtain ⟨z1, z2, z3, z4, z5, z6⟩ := hz
        go_simp
      try simp only [List.getElem_toArray, List.getElem_cons_zero, List.getElem_cons_succ, Act.put, List.setIfInBounds_toArray, List.set_cons_zero, List.set_cons_succ]
      refine wpAnyH_take (i := 3) (v := .agg #[.slice xd eo.length xc, .bool et]) rfl (by kernel_rfl) (by kernel_rfl) (by kernel_rfl) (fun _ _ _ h => h) (Or.inl ⟨by rfl, fun z hz => ?_⟩) hS0 ?_
      · obtain ⟨z1, z2, z3, z4, z5, z6⟩ := hz
        go_simp
      try simp only [List.getElem_toArray, List.getElem_cons_zero, List.getElem_cons_succ, Act.put, List.setIfInBounds_toArray, List.set_cons_zero, List.set_cons_succ]
      refine wpAnyH_take (i := 4) (v := .slice (some ⟨g, q, none⟩) l.length dap) rfl (by kernel_rfl) (by kernel_rfl) (by kernel_rfl) (fun _ _ _ h => h) (Or.inl ⟨by rfl, fun z hz => ?_⟩) hS0 ?_
      · obtain ⟨z1, z2, z3, z4, z5, z6⟩ := hz
        go_simp
      try simp only [List.getElem_toArray, List.getElem_cons_zero, List.getElem_cons_succ, Act.put, List.setIfInBounds_toArray, List.set_cons_zero, List.set_cons_succ]
      refine wpAnyH_take (i := 5) (v := .int .i64 j) rfl (by kernel_rfl) (by kernel_rfl) (by kernel_rfl) (fun _ _ _ h => h) (Or.inl ⟨by rfl, fun z hz => ?_⟩) hS0 ?_
      · obtain ⟨z1, z2, z3, z4, z5, z6⟩ := hz
        go_simp
      try simp only [List.getElem_toArray, List.getElem_cons_zero, List.getElem_cons_succ, Act.put, List.setIfInBounds_toArray, List.set_cons_zero, List.set_cons_succ]
      refine wpAnyH_take (i := 6) (v := .pointer (some ⟨g, q + j * 2, none⟩)) rfl (by kernel_rfl) (by kernel_rfl) (by kernel_rfl) (fun _ _ _ h => h) (Or.inl ⟨by rfl, fun z hz => ?_⟩) hS0 ?_
      · obtain ⟨z1, z2, z3, z4, z5, z6⟩ := hz
        go_simp
      try simp only [List.getElem_toArray, List.getElem_cons_zero, List.getElem_cons_succ, Act.put, List.setIfInBounds_toArray, List.set_cons_zero, List.set_cons_succ]
      refine wpAnyH_take (i := 7) (v := .agg #[.slice yd eo.length yc, .bool et]) rfl (by kernel_rfl) (by kernel_rfl) (by kernel_rfl) (fun _ _ _ h => h) (Or.inl ⟨by rfl, fun z hz => ?_⟩) hS0 ?_
      · obtain ⟨z1, z2, z3, z4, z5, z6⟩ := hz
        go_simp
      try simp only [List.getElem_toArray, List.getElem_cons_zero, List.getElem_cons_succ, Act.put, List.setIfInBounds_toArray, List.set_cons_zero, List.set_cons_succ]
      refine wpAnyH_ready (rs := [8]) (by kernel_rfl) (by simp) ?_
      refine AllReadyH.cons rfl (fun K hK => ?_) AllReadyH.nil
      have HS1 := Lib.hid hS0
      have HX := Lib.hid hS0.2.2.2.2.2.2.1
      have HY := Lib.hid hS0.2.2.2.2.2.2.2.1
      go_simp
      refine (eqLayer _ _ eo et _ HX.out HY.out).mono ?_
      rintro e v ⟨rfl, hb⟩
      refine hK.out _ _ (HS1.out.step hb) (fun hS1 => ?_)
      clear hK K hb
      try simp only [List.getElem_toArray, List.getElem_cons_zero, List.getElem_cons_succ, Act.put, List.setIfInBounds_toArray, List.set_cons_zero, List.set_cons_succ]
      refine wpAnyH_take (i := 9) (v := .bool false) rfl (by kernel_rfl) (by kernel_rfl) (by kernel_rfl) (fun _ _ _ h => h) (Or.inl ⟨by rfl, fun z hz => ?_⟩) hS1 ?_
      · obtain ⟨z1, z2, z3, z4, z5, z6⟩ := hz
        go_simp
      try simp only [List.getElem_toArray, List.getElem_cons_zero, List.getElem_cons_succ, Act.put, List.setIfInBounds_toArray, List.set_cons_zero, List.set_cons_succ]
      refine wpAnyH_done (by kernel_rfl) ?_ _
      have HB2 := Lib.hid (hS1.2.2.2.2.2.2.2.2.2)
      clear hS0 hS1 HS1
      go_wp2
      go_roundw
      case rel => exact ⟨j + 1, by omega, by go_num, HB2.out⟩
      case measure => simp [intOf]; omega
    · clear hb
      go_wp2
      go_ret
      exact ⟨rfl, HB.out⟩
theorem eqStack (u v : Value) (l : P.Lays) (w : World) (hu : LayR w u l) (hv : LayR w v l) :
    Calls Tryz.prog 41 #[.agg #[u], .agg #[v]] w fun e w' => e = .returned (.bool true) ∧ Below w.heap.size w w' := by
  have hb0 : Below w.heap.size w ((w.alloc (.cells #[u] 52)).alloc (.cells #[v] 52)) :=
    ((Below.refl w.heap.size w).alloc (Nat.le_refl _) _).alloc (by simp) _
  have HU := Lib.hid (hu.below hb0); have HV := Lib.hid (hv.below hb0)
  have HB0 := Lib.hid hb0; clear hb0
  obtain ⟨ad, cap, rfl, hla, _⟩ := hu
  obtain ⟨bd, dap, rfl, _, _⟩ := hv
  go_enter Tryz.func41, Tryz.ntmps41
  go_wp2_with fail
  refine (eqLayerS _ _ l _ HU.out HV.out).mono ?_
  rintro e w1 ⟨rfl, hb⟩
  have HB1 := Lib.hid (HB0.out.trans (hb.mono (by simp; omega)))
  clear hb HU HV HB0
  go_wp2
  go_ret
  exact ⟨rfl, HB1.out⟩
end
section
namespace P
/-- the mark of a layer's switch -/
def flag (k : Int) : Bool := k % 3 == 0
/-- the mark behind a row of layers -/
def kAtL (k : Int) : Lays → Int
  | [] => k
  | e :: l => kAtL (kAt k e.1 + 1) l
def markLL (k : Int) : Lays → Lays
  | [] => []
  | e :: l => (markE k e.1, flag (kAt k e.1)) :: markLL (kAt k e.1 + 1) l
theorem markLL_len (k : Int) : ∀ l : Lays, (markLL k l).length = l.length
  | [] => rfl
  | e :: l => by simp [markLL, markLL_len _ l]
theorem kAtL_snoc (k : Int) (e : Lay) : ∀ l : Lays, kAtL k (l ++ [e]) = kAt (kAtL k l) e.1 + 1
  | [] => rfl
  | x :: l => by simp only [List.cons_append, kAtL]; exact kAtL_snoc _ e l
theorem markLL_snoc (k : Int) (e : Lay) : ∀ l : Lays, markLL k (l ++ [e]) = markLL k l ++ [(markE (kAtL k l) e.1, flag (kAt (kAtL k l) e.1))]
  | [] => rfl
  | x :: l => by simp only [List.cons_append, markLL, kAtL]; rw [markLL_snoc _ e l]
theorem kAtL_ge (k : Int) : ∀ l : Lays, k + l.length ≤ kAtL k l
  | [] => by simp [kAtL]
  | e :: l => by have := kAtL_ge (kAt k e.1 + 1) l; have := kAt_ge k e.1; simp only [kAtL, List.length_cons]; omega
theorem kAtL_app (k : Int) : ∀ a b : Lays, kAtL k (a ++ b) = kAtL (kAtL k a) b
  | [], _ => rfl
  | _ :: a, b => kAtL_app _ a b
theorem kAtL_take (k : Int) (l : Lays) (j : Nat) : kAtL k (l.take j) ≤ kAtL k l := by
  have h2 := kAtL_app k (l.take j) (l.drop j)
  rw [List.take_append_drop] at h2
  have h3 := kAtL_ge (kAtL k (l.take j)) (l.drop j)
  omega
theorem markLL_get (k : Int) (l : Lays) (j : Nat) (h : j < l.length) (h' : j < (markLL k l).length) : (markLL k l)[j] = (markE (kAtL k (l.take j)) l[j].1, flag (kAt (kAtL k (l.take j)) l[j].1)) := by
  induction l generalizing k j with
  | nil => simp at h
  | cons e l ih =>
    cases j with
    | zero => rfl
    | succ j =>
      simp only [markLL, List.getElem_cons_succ, List.take_succ_cons, kAtL]
      exact ih _ _ _ _
/-- how much a row of layers holds -/
def sizeL : Lays → Int
  | [] => 0
  | e :: l => e.1.length + sizeE e.1 + sizeL l
theorem sizeL_snoc (e : Lay) : ∀ l : Lays, sizeL (l ++ [e]) = sizeL l + e.1.length + sizeE e.1
  | [] => by simp [sizeL]
  | x :: l => by simp only [List.cons_append, sizeL]; rw [sizeL_snoc e l]; omega
theorem sizeL_nonneg : ∀ l : Lays, 0 ≤ sizeL l
  | [] => Int.le_refl 0
  | e :: l => by have := sizeL_nonneg l; have := sizeE_nonneg e.1; simp only [sizeL]; omega
theorem sizeL_mem {e : Lay} : ∀ {l : Lays}, e ∈ l → (e.1.length : Int) + sizeE e.1 ≤ sizeL l
  | [], h => by cases h
  | x :: l, h => by
    have := sizeL_nonneg l
    have := sizeE_nonneg x.1
    simp only [sizeL]
    rcases List.mem_cons.1 h with rfl | h
    · omega
    · have := sizeL_mem h; omega
theorem kAtL_le (k : Int) : ∀ l : Lays, kAtL k l ≤ k + l.length + sizeL l
  | [] => by simp [kAtL, sizeL]
  | e :: l => by have := kAtL_le (kAt k e.1 + 1) l; have := kAt_le k e.1; simp only [kAtL, sizeL, List.length_cons]; omega
end P
open Go Go.RowKit
set_option maxHeartbeats 1000000
set_option maxRecDepth 100000
/-- how a row of layers stands while it is marked -/
def MarkL (w : World) (F : Blk) (ad : Option Addr) (k : Int) (j : Nat) (l : P.Lays) (v : World) : Prop :=
  Chg F w v ∧ (l = [] ∨ ∃ g o G C, ad = some ⟨g, o, none⟩ ∧ RowC 2 layE v F g o G C (P.markLL k (l.take j) ++ l.drop j))
theorem MarkL.start {w : World} {F : Blk} {ad : Option Addr} {k : Int} {l : P.Lays} (h : l = [] ∨ ∃ g o G C, ad = some ⟨g, o, none⟩ ∧ RowC 2 layE w F g o G C l) : MarkL w F ad k 0 l w :=
  ⟨Chg.refl _ _, h.imp id fun ⟨g, o, G, C, h1, h2⟩ => ⟨g, o, G, C, h1, by simpa [P.markLL] using h2⟩⟩
theorem MarkL.cells {w v : World} {F : Blk} {ad : Option Addr} {k : Int} {j : Nat} {l : P.Lays} (h : MarkL w F ad k j l v) (hj : j < l.length) :
    ∃ g o x y Gj, ad = some ⟨g, o, none⟩ ∧ g < v.heap.size ∧ v.cell? ⟨g, o + j * 2, none⟩ = some x ∧ v.cell? ⟨g, o + j * 2 + 1, none⟩ = some y ∧ v.frozen? ⟨g, o + j * 2 + 1, none⟩ = false ∧ ¬ Gj g ∧ Ents v Gj x l[j].1 ∧
      ∀ v1 v2, Ents v1 Gj x (P.markE (P.kAtL k (l.take j)) l[j].1) → Chg Gj v v1 → Below v1.heap.size v1 v2 → MarkL w F ad k (j + 1) l (v2.setCell ⟨g, o + j * 2 + 1, none⟩ (.bool (P.flag (P.kAt (P.kAtL k (l.take j)) l[j].1)))) := by
  obtain ⟨hc, h⟩ := h
  obtain ⟨g, o, G, C, hg, hr⟩ := h.resolve_left (by intro e; rw [e] at hj; simp at hj)
  have hA : (P.markLL k (l.take j)).length = j := by rw [P.markLL_len, List.length_take]; omega
  have hlen : (P.markLL k (l.take j) ++ l.drop j).length = l.length := by rw [List.length_append, hA, List.length_drop]; omega
  have hj' : j < (P.markLL k (l.take j) ++ l.drop j).length := by omega
  have hel : (P.markLL k (l.take j) ++ l.drop j)[j] = l[j] := by
    rw [List.getElem_append_right (by omega)]
    simp [hA]
  obtain ⟨x, hC, hI⟩ := hr.el j hj'
  rw [hel] at hC hI
  have c0 := hr.cel j hj' 0 (by rw [hC]; simp)
  have c1 := hr.cel j hj' 1 (by rw [hC]; simp)
  simp only [hC, List.getElem_cons_zero, List.getElem_cons_succ, Nat.add_zero] at c0 c1
  refine ⟨g, o, x, _, G j, hg, hr.lt _ hr.own, c0.1, c1.1, c1.2, fun h => (hr.sub j hj' _ h).2 rfl, hI, fun v1 v2 hI1 hc1 hb2 => ?_⟩
  have hsz : (v2.setCell ⟨g, o + j * 2 + 1, none⟩ (.bool (P.flag (P.kAt (P.kAtL k (l.take j)) l[j].1)))).heap.size = v2.heap.size := by simp [World.setCell]
  have hz1 : v.heap.size ≤ v2.heap.size := Nat.le_trans hc1.size hb2.size
  have hset : (P.markLL k (l.take j) ++ l.drop j).set j (P.markE (P.kAtL k (l.take j)) l[j].1, P.flag (P.kAt (P.kAtL k (l.take j)) l[j].1)) = P.markLL k (l.take (j + 1)) ++ l.drop (j + 1) := by
    rw [set_mid _ _ j _ hA (by rw [List.length_drop]; omega), take_snoc l j hj, P.markLL_snoc, List.drop_drop]
  have hold : ∀ b, b < v.heap.size → ¬ G j b → b ≠ g → (v2.setCell ⟨g, o + j * 2 + 1, none⟩ (.bool (P.flag (P.kAt (P.kAtL k (l.take j)) l[j].1)))).heap[b]? = v.heap[b]? := by
    intro b hb hG hne
    rw [Below.heap_setCell _ _ _ _ hne, hb2.block b (Nat.lt_of_lt_of_le hb hc1.size), hc1.block b hb hG]
  have hrow : v2.heap[g]? = v.heap[g]? := by
    rw [hb2.block g (Nat.lt_of_lt_of_le (hr.lt _ hr.own) hc1.size), hc1.block g (hr.lt _ hr.own) fun h => (hr.sub j hj' _ h).2 rfl]
  have hch : Chg F v (v2.setCell ⟨g, o + j * 2 + 1, none⟩ (.bool (P.flag (P.kAt (P.kAtL k (l.take j)) l[j].1)))) :=
    ((hc1.mono fun b _ hb => (hr.sub j hj' b hb).1).trans (Below.chg hb2 F)).setCell (p := ⟨g, o + j * 2 + 1, none⟩) hr.own _
  refine ⟨hc.trans hch, .inr ⟨g, o, _, _, hg, hset ▸ hr.put layE_ok j hj' F (G j) [x, .bool (P.flag (P.kAt (P.kAtL k (l.take j)) l[j].1))] _ (fun _ h => h) (fun b hb => ?_) ?_ ?_ rfl ?_ (hr.sub j hj') ?_ ?_ ?_⟩⟩
  · rw [hsz]; exact Nat.lt_of_lt_of_le (hr.lt b hb) hz1
  · rw [hsz]; exact hz1
  · have e := ((hr.cel j hj').keep hrow).set_at 1 (by rw [hC]; simp) (.bool (P.flag (P.kAt (P.kAtL k (l.take j)) l[j].1)))
    rw [hC] at e
    exact e
  · refine ⟨x, rfl, (hI1.stand entE_ok (X := fun b => b = g) ((Below.chg hb2 (fun b => b = g)).setCell (p := ⟨g, o + j * 2 + 1, none⟩) rfl _) ?_)⟩
    rintro b hb rfl
    exact (hr.sub j hj' _ hb).2 rfl
  · intro i hi hij b h1 h2
    rcases Nat.lt_or_gt_of_ne hij with e | e
    · exact hr.apart i j e hj' b h1 h2
    · exact hr.apart j i e hi b h2 h1
  · intro i hi hij
    have hw := hr.wid i hi
    have o1 := cel_out (wd := 2) (o := o) hij 1 (by omega)
    refine ((hr.cel i hi).keep hrow).set_other ?_ _
    rw [hw]; exact o1
  · intro i hi hij b hb
    refine hold b (hr.lt _ (hr.sub i hi b hb).1) (fun h2 => ?_) (hr.sub i hi b hb).2
    rcases Nat.lt_or_gt_of_ne hij with e | e
    · exact hr.apart i j e hj' b hb h2
    · exact hr.apart j i e hi b h2 hb
theorem MarkL.last {w v : World} {F : Blk} {ad : Option Addr} {k : Int} {l : P.Lays} {cap : Nat} (h : MarkL w F ad k l.length l v) (hl : l.length ≤ 2 ^ 30) (hn : (ad = none → cap = 0) ∧ l.length ≤ cap) : Lays v F (.slice ad l.length cap) (P.markLL k l) := by
  obtain ⟨_, h⟩ := h
  refine ⟨ad, cap, by rw [P.markLL_len], by rw [P.markLL_len]; exact hl, ⟨hn.1, by rw [P.markLL_len]; exact hn.2⟩, ?_⟩
  rcases h with rfl | ⟨g, o, G, C, hg, hr⟩
  · exact .inl rfl
  · rw [List.take_length, List.drop_length, List.append_nil] at hr
    exact .inr ⟨g, o, G, C, hg, hr⟩
theorem markLayerS (u : Value) (l : P.Lays) (k : Int) (F : Blk) (w : World) (hu : Lays w F u l) (hk0 : 0 ≤ k) (hk : P.kAtL k l ≤ 2 ^ 40) :
    Calls Tryz.prog 122 #[u, .int .i64 k] w fun e w' => e = .returned (.int .i64 (P.kAtL k l)) ∧ Lays w' F u (P.markLL k l) ∧ Chg F w w' := by
  obtain ⟨ad, cap, rfl, hl, hnil, hc0⟩ := hu
  have HNIL := Lib.hid hnil; clear hnil
  have HC := Lib.hid hc0; clear hc0
  go_enter Tryz.func122, Tryz.ntmps122
  go_wp2
  go_loopw [1, 5] (fun kk i wr => ∃ j : Nat, j ≤ l.length ∧ i = .int .i64 j ∧ kk = .int .i64 (P.kAtL k (l.take j)) ∧ MarkL w F ad k j l wr) (fun _ i _ => l.length - (intOf i).toNat)
  case atStart => exact ⟨0, Nat.zero_le _, rfl, by simp [P.kAtL], MarkL.start HC.out⟩
  case round =>
    obtain ⟨j, hj, rfl, rfl, hm⟩ := hrel
    have HM := Lib.hid hm; clear hm
    have hb1 := P.kAtL_take k l j
    have hb0 := P.kAtL_ge k (l.take j)
    by_cases hlt : j < l.length
    · obtain ⟨g, o, x, y, Gj, rfl, hgs, c0, c1, f1, hng, hx, hput⟩ := HM.out.cells hlt
      have HPUT := Lib.hid hput; clear hput
      have HKS := Lib.hid (show P.kAtL k (l.take (j + 1)) = P.kAt (P.kAtL k (l.take j)) l[j].1 + 1 by rw [take_snoc l j hlt, P.kAtL_snoc])
      have hb2 : P.kAt (P.kAtL k (l.take j)) l[j].1 + 1 ≤ 2 ^ 40 := by have := P.kAtL_take k l (j + 1); rw [HKS.out] at this; omega
      have HX := Lib.hid hx
      obtain ⟨xd, xc, rfl, hxl, _⟩ := hx
      generalize P.kAtL k (l.take j) = kk at *
      generalize l[j] = en at *
      obtain ⟨eo, et⟩ := en
      simp only at hb2 hxl HX HPUT HKS
      have i1 : (j : Int) < (l.length : Int) := by omega
      have hkg := P.kAt_ge kk eo
      have k0 : 0 ≤ kk := by omega
      clear hb0 hb1
      go_wp2_with fail
      refine (markEntryS _ eo kk Gj _ HX.out k0 (by omega)).mono ?_
      rintro e v1 ⟨rfl, hI, hc1⟩
      have hcell := hc1.cell (p := ⟨g, o + j * 2 + 1, none⟩) hgs hng
      have hfrz := hc1.frozen (p := ⟨g, o + j * 2 + 1, none⟩) hgs hng
      rw [c1] at hcell
      rw [f1] at hfrz
      have HN := Lib.hid (HPUT.out v1 v1 hI hc1 (Below.refl _ _))
      generalize P.kAt kk eo = k1 at *
      have hk10 : 0 ≤ k1 := by omega
      clear hc1 hI c0 c1 f1
      go_wp2
      go_roundw
      case rel => exact ⟨j + 1, by omega, by go_num, by rw [HKS.out], HN.out⟩
      case measure => simp [intOf]; omega
    · have hjl : j = l.length := by omega
      subst hjl
      clear hb0 hb1
      go_wp2
      go_ret
      exact ⟨ret_int (by rw [List.take_length]), HM.out.last hl HNIL.out, HM.out.1⟩
theorem heldLayerS (u : Value) (l : P.Lays) (k : Int) (w : World) (hu : LayR w u (P.markLL k l)) (hk0 : 0 ≤ k) (hk : P.kAtL k l ≤ 2 ^ 40) :
    Calls Tryz.prog 123 #[u, .int .i64 k] w fun e w' => e = .returned (.int .i64 (P.kAtL k l)) ∧ Below w.heap.size w w' := by
  have HU := Lib.hid hu
  obtain ⟨ad, cap, rfl, hl, _⟩ := hu
  rw [P.markLL_len] at *
  go_enter Tryz.func123, Tryz.ntmps123
  go_wp2
  go_loopw [1, 5] (fun kk i wr => ∃ j : Nat, j ≤ l.length ∧ i = .int .i64 j ∧ kk = .int .i64 (P.kAtL k (l.take j)) ∧ Below w.heap.size w wr) (fun _ i _ => l.length - (intOf i).toNat)
  case atStart => exact ⟨0, Nat.zero_le _, rfl, by simp [P.kAtL], Below.refl _ _⟩
  case round =>
    obtain ⟨j, hj, rfl, rfl, hb⟩ := hrel
    have HB := Lib.hid hb
    have hb1 := P.kAtL_take k l j
    have hb0 := P.kAtL_ge k (l.take j)
    by_cases hlt : j < l.length
    · obtain ⟨g, o, rfl, hgs, x, c0, c1, hx⟩ := (HU.out.below hb).at j (by rw [P.markLL_len]; exact hlt)
      rw [P.markLL_get k l j hlt] at c1 hx
      have HKS := Lib.hid (show P.kAtL k (l.take (j + 1)) = P.kAt (P.kAtL k (l.take j)) l[j].1 + 1 by rw [take_snoc l j hlt, P.kAtL_snoc])
      have hb2 : P.kAt (P.kAtL k (l.take j)) l[j].1 + 1 ≤ 2 ^ 40 := by have := P.kAtL_take k l (j + 1); rw [HKS.out] at this; omega
      have HX := Lib.hid hx
      obtain ⟨xd, xc, rfl, hxl, _⟩ := hx
      rw [P.markE_len] at *
      generalize P.kAtL k (l.take j) = kk at *
      generalize l[j] = en at *
      obtain ⟨eo, et⟩ := en
      simp only at hb2 hxl HX HKS c1
      have i1 : (j : Int) < (l.length : Int) := by omega
      have hkg := P.kAt_ge kk eo
      have k0 : 0 ≤ kk := by omega
      have hbz := hb.size
      clear hb0 hb1 hb
      go_wp2_with fail
      refine (heldEntryS _ eo kk _ HX.out k0 (by omega)).mono ?_
      rintro e v1 ⟨rfl, hb⟩
      have c1' := (hb.cell (p := ⟨g, o + j * 2 + 1, none⟩) hgs).trans c1
      have HB2 := Lib.hid (HB.out.trans (hb.mono hbz))
      generalize P.kAt kk eo = k1 at *
      have hk10 : 0 ≤ k1 := by omega
      have hn1 : ¬ k1 < 0 := by omega
      clear hb c0 c1
      unfold P.flag at c1'
      go_wp2
      go_roundw
      case rel => exact ⟨j + 1, by omega, by go_num, by rw [HKS.out], HB2.out⟩
      case measure => simp [intOf]; omega
    · have hjl : j = l.length := by omega
      subst hjl
      clear hb0 hb1 hb
      go_wp2
      go_ret
      exact ⟨ret_int (by rw [List.take_length]), HB.out⟩
theorem markStack (u : Value) (l : P.Lays) (k : Int) (F : Blk) (w : World) (hu : Lays w F u l) (hk0 : 0 ≤ k) (hk : P.kAtL k l ≤ 2 ^ 40) :
    Calls Tryz.prog 42 #[.agg #[u], .int .i64 k] w fun e w' => e = .returned (.int .i64 (P.kAtL k l)) ∧ Lays w' F u (P.markLL k l) ∧ Chg F w w' := by
  have HU := Lib.hid (hu.below layE_ok ((Below.refl w.heap.size w).alloc (Nat.le_refl _) (.cells #[u] 52)))
  have HC := Lib.hid ((Chg.refl F w).alloc (.cells #[u] 52))
  obtain ⟨ad, cap, rfl, _, _⟩ := hu
  go_enter Tryz.func42, Tryz.ntmps42
  go_wp2_with fail
  refine (markLayerS _ l k F _ HU.out hk0 hk).mono ?_
  rintro e w1 ⟨rfl, hI, hc⟩
  have HI := Lib.hid hI; have HC1 := Lib.hid (HC.out.trans hc)
  clear hI hc
  go_wp2
  go_ret
  exact ⟨rfl, HI.out, HC1.out⟩
theorem heldStack (u : Value) (l : P.Lays) (k : Int) (w : World) (hu : LayR w u (P.markLL k l)) (hk0 : 0 ≤ k) (hk : P.kAtL k l ≤ 2 ^ 40) :
    Calls Tryz.prog 43 #[.agg #[u], .int .i64 k] w fun e w' => e = .returned (.int .i64 (P.kAtL k l)) ∧ Below w.heap.size w w' := by
  have hb0 := (Below.refl w.heap.size w).alloc (Nat.le_refl _) (.cells #[u] 52)
  have HU := Lib.hid (hu.below hb0); have HB0 := Lib.hid hb0; clear hb0
  obtain ⟨ad, cap, rfl, _, _⟩ := hu
  go_enter Tryz.func43, Tryz.ntmps43
  go_wp2_with fail
  refine (heldLayerS _ l k _ HU.out hk0 hk).mono ?_
  rintro e w1 ⟨rfl, hb⟩
  have HB1 := Lib.hid (HB0.out.trans (hb.mono (by simp)))
  have hg := P.kAtL_ge k l
  have hn : ¬ P.kAtL k l < 0 := by omega
  clear hb hg
  go_wp2
  go_ret
  exact ⟨rfl, HB1.out⟩
end
section
open Go Go.RowKit
set_option maxHeartbeats 1000000
set_option maxRecDepth 100000
/-- a slice of layers that came in -/
def LayA (v : World) (u : Value) (l : P.Lays) : Prop :=
  ∃ (ad : Option Addr) (cap : Nat), u = .slice ad l.length cap ∧ (l.length ≤ 9223372036854775807 ∧ l.length ≤ cap) ∧ (ad = none → cap = 0) ∧ (l = [] ∨ ∃ g o, ad = some ⟨g, o, none⟩ ∧ g < v.heap.size ∧ ∀ (j : Nat) (h : j < l.length), ∃ x, v.cell? ⟨g, o + j * 2, none⟩ = some x ∧ v.cell? ⟨g, o + j * 2 + 1, none⟩ = some (.bool (l[j]'h).2) ∧ EntA v x (l[j]'h).1)
theorem LayA.below {v v' : World} {u : Value} {l : P.Lays} (h : LayA v u l) (hb : Below v.heap.size v v') : LayA v' u l := by
  obtain ⟨ad, cap, h1, h2, hn, h3⟩ := h
  refine ⟨ad, cap, h1, h2, hn, h3.imp id ?_⟩
  rintro ⟨g, o, h4, h5, h6⟩
  refine ⟨g, o, h4, Nat.lt_of_lt_of_le h5 hb.size, fun j hj => ?_⟩
  obtain ⟨x, a, b, c⟩ := h6 j hj
  exact ⟨x, (hb.cell (p := ⟨g, _, none⟩) h5).trans a, (hb.cell (p := ⟨g, _, none⟩) h5).trans b, c.below hb⟩
theorem LayA.at {v : World} {ad : Option Addr} {n cap : Nat} {l : P.Lays} (h : LayA v (.slice ad n cap) l) (j : Nat) (hj : j < l.length) : ∃ g o, ad = some ⟨g, o, none⟩ ∧ g < v.heap.size ∧ ∃ x, v.cell? ⟨g, o + j * 2, none⟩ = some x ∧ v.cell? ⟨g, o + j * 2 + 1, none⟩ = some (.bool (l[j]'hj).2) ∧ EntA v x (l[j]'hj).1 := by
  obtain ⟨ad', cap', he, _, _, h3⟩ := h
  injection he with h1 h2 h4
  rcases h3 with h3 | ⟨g, o, h5, h6, h7⟩
  · rw [h3] at hj; exact absurd hj (Nat.not_lt_zero _)
  · exact ⟨g, o, h1.trans h5, h6, h7 j hj⟩
/-- what is known of a stack that a law hands on -/
structure SmallS (l : P.Lays) : Prop where
  len : l.length ≤ 2 ^ 20
  each : ∀ e ∈ l, Small e.1
theorem smallS_of {l : P.Lays} (h : (l.length : Int) + P.sizeL l ≤ 1048576) : SmallS l := by
  have h0 := P.sizeL_nonneg l
  refine ⟨by omega, fun e he => small_of ?_⟩
  have := P.sizeL_mem he
  omega
theorem kAtL_small {l : P.Lays} (h : (l.length : Int) + P.sizeL l ≤ 1048576) : P.kAtL 1 l ≤ 2 ^ 40 := by
  have := P.kAtL_le 1 l; omega
theorem LayA.read {v : World} {u : Value} {l : P.Lays} (h : LayA v u l) (hs : SmallS l) : LayR v u l := by
  obtain ⟨ad, cap, h1, h0, h2, h3⟩ := h
  refine ⟨ad, cap, h1, by have := hs.len; omega, h2, h3.imp id ?_⟩
  rintro ⟨g, o, h4, h5, h6⟩
  refine ⟨g, o, h4, h5, fun j hj => ?_⟩
  obtain ⟨x, a, b, c⟩ := h6 j hj
  have hj' := hs.each _ (List.getElem_mem hj)
  exact ⟨x, a, b, c.read hj'.len hj'.outs⟩
theorem szLayer (u : Value) (l : P.Dic) (t : Bool) (left : Int) (w : World) (hu : EntA w u l) (ht : ∀ x ∈ l, x.2.length ≤ 9223372036854775807) (h0 : 0 ≤ left) (h1 : left ≤ 2 ^ 20) :
    Calls Tryz.prog 162 #[.agg #[u, .bool t], .int .i64 left] w (SzPost left (l.length + P.sizeE l) w) := by
  have hb0 := (Below.refl w.heap.size w).alloc (Nat.le_refl _) (.cells #[u, .bool t] 180)
  have HU := Lib.hid (hu.below hb0); have HB0 := Lib.hid hb0; clear hb0
  have HT := Lib.hid ht; clear ht
  obtain ⟨ad, cap, rfl, hl, _⟩ := hu
  go_enter Tryz.func162, Tryz.ntmps162
  go_wp2_with fail
  refine (szDictionary _ l left _ HU.out HT.out h0 h1).mono ?_
  rintro e w1 ⟨⟨r, rfl, hr1, hr2⟩, hb⟩
  have HB1 := Lib.hid (HB0.out.trans (hb.mono (by simp)))
  have HR := Lib.hid hr2; clear hr2 hb
  by_cases hlt : r < 0
  · go_wp2
    go_ret
    exact ⟨⟨-1, rfl, by omega, by omega⟩, HB1.out⟩
  · go_wp2
    go_ret
    exact ⟨⟨r, rfl, by omega, HR.out⟩, HB1.out⟩
theorem szLayerS (u : Value) (l : P.Lays) (left : Int) (w : World) (hu : LayA w u l) (ht : ∀ e ∈ l, ∀ x ∈ e.1, x.2.length ≤ 9223372036854775807) (h0 : 0 ≤ left) (h1 : left ≤ 2 ^ 20) :
    Calls Tryz.prog 113 #[u, .int .i64 left] w (SzPost left (l.length + P.sizeL l) w) := by
  have HU := Lib.hid hu
  have HT := Lib.hid ht; clear ht
  obtain ⟨ad, cap, rfl, hl, _⟩ := hu
  by_cases hlt : left - (l.length : Int) < 0
  · go_enter Tryz.func113, Tryz.ntmps113
    go_wp2
    go_ret
    exact ⟨⟨-1, rfl, by omega, by omega⟩, Below.refl _ _⟩
  · go_enter Tryz.func113, Tryz.ntmps113
    go_wp2
    go_loopw [1, 5] (fun kk i wr => ∃ (j : Nat) (r : Int), j ≤ l.length ∧ i = .int .i64 j ∧ kk = .int .i64 r ∧ 0 ≤ r ∧ r = left - l.length - P.sizeL (l.take j) ∧ Below w.heap.size w wr) (fun _ i _ => l.length - (intOf i).toNat)
    case atStart => exact ⟨0, _, Nat.zero_le _, rfl, rfl, by omega, by simp [P.sizeL], Below.refl _ _⟩
    case round =>
      obtain ⟨j, r, hj, rfl, rfl, hr0, hr, hb⟩ := hrel
      have HR := Lib.hid hr; have HB := Lib.hid hb
      have hsn := P.sizeL_nonneg (l.take j)
      have hr1 : r ≤ 2 ^ 20 := by omega
      clear hr hsn
      by_cases hlj : j < l.length
      · obtain ⟨g, o, rfl, hgs, x, c0, c1, hx⟩ := (HU.out.below hb).at j hlj
        have htl := HT.out _ (List.getElem_mem hlj)
        have HSN := Lib.hid (show P.sizeL (l.take (j + 1)) = P.sizeL (l.take j) + l[j].1.length + P.sizeE l[j].1 by rw [take_snoc l j hlj, P.sizeL_snoc])
        have HX := Lib.hid hx
        obtain ⟨xd, xc, rfl, hxl, _⟩ := hx
        have hbz := hb.size
        generalize l[j] = en at *
        obtain ⟨eo, et⟩ := en
        simp only at hxl HX HSN c1 htl
        have i1 : (j : Int) < (l.length : Int) := by omega
        clear hb
        go_wp2_with fail
        refine (szLayer _ eo et r _ HX.out htl hr0 hr1).mono ?_
        rintro e w1 ⟨⟨r', rfl, hr2, hr3⟩, hb⟩
        have HR3 := Lib.hid hr3
        have HB2 := Lib.hid (HB.out.trans (hb.mono hbz))
        clear hr3 hb
        by_cases hneg : r' < 0
        · go_wp2
          go_ret
          exact ⟨⟨-1, rfl, by omega, by omega⟩, HB2.out⟩
        · go_wp2
          go_roundw
          case rel => exact ⟨j + 1, r', by omega, by go_num, rfl, by omega, by have := HR3.out (by omega); have := HR.out; have := HSN.out; omega, HB2.out⟩
          case measure => simp [intOf]; omega
      · have HE := Lib.hid (show r = left - (l.length + P.sizeL l) by have := HR.out; rw [List.take_of_length_le (by omega)] at this; omega)
        clear hb
        go_wp2
        go_ret
        exact ⟨⟨r, rfl, by omega, fun _ => HE.out⟩, HB.out⟩
theorem szStack (u : Value) (l : P.Lays) (left : Int) (w : World) (hu : LayA w u l) (ht : ∀ e ∈ l, ∀ x ∈ e.1, x.2.length ≤ 9223372036854775807) (h0 : 0 ≤ left) (h1 : left ≤ 2 ^ 20) :
    Calls Tryz.prog 37 #[.agg #[u], .int .i64 left] w (SzPost left (l.length + P.sizeL l) w) := by
  have hb0 := (Below.refl w.heap.size w).alloc (Nat.le_refl _) (.cells #[u] 63)
  have HU := Lib.hid (hu.below hb0); have HB0 := Lib.hid hb0; clear hb0
  have HT := Lib.hid ht; clear ht
  obtain ⟨ad, cap, rfl, hl, _⟩ := hu
  go_enter Tryz.func37, Tryz.ntmps37
  go_wp2_with fail
  refine (szLayerS _ l left _ HU.out HT.out h0 h1).mono ?_
  rintro e w1 ⟨⟨r, rfl, hr1, hr2⟩, hb⟩
  have HB1 := Lib.hid (HB0.out.trans (hb.mono (by simp)))
  have HR := Lib.hid hr2; clear hr2 hb
  by_cases hlt : r < 0
  · go_wp2
    go_ret
    exact ⟨⟨-1, rfl, by omega, by omega⟩, HB1.out⟩
  · go_wp2
    go_ret
    exact ⟨⟨r, rfl, by omega, HR.out⟩, HB1.out⟩
end
end Go.Proofs.YtonhkglilnplbaaGreatDoor
