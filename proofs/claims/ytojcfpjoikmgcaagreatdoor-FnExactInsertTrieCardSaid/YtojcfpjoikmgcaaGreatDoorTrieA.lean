/- Tries as they are read and owned: rows of nodes. The law's own functions on tries: a copy, a size, whether they are equal. -/
import Derived.Deep.DeepCutAuto
import Derived.Test.YtojcfpjoikmgcaaGreatDoorMemE
import Derived.Test.YtojcfpjoikmgcaaGreatDoorPlainTrie
namespace Go.Proofs.YtojcfpjoikmgcaaGreatDoor
section
open Go Go.RowKit
set_option maxHeartbeats 1000000
set_option maxRecDepth 100000
/-- a slice of nodes, as it is read -/
def NodR (v : World) (u : Value) (l : P.Tri) : Prop :=
  ∃ (ad : Option Addr) (cap : Nat), u = .slice ad l.length cap ∧ (l.length ≤ 2 ^ 45 ∧ l.length ≤ cap) ∧ (ad = none → cap = 0) ∧ (l = [] ∨ ∃ g o, ad = some ⟨g, o, none⟩ ∧ g < v.heap.size ∧ ∀ (j : Nat) (h : j < l.length), ∃ x y, v.cell? ⟨g, o + j * 4, none⟩ = some x ∧ v.cell? ⟨g, o + j * 4 + 1, none⟩ = some y ∧ v.cell? ⟨g, o + j * 4 + 2, none⟩ = some (.bool (l[j]'h).2.2.1) ∧ v.cell? ⟨g, o + j * 4 + 3, none⟩ = some (.string (S (l[j]'h).2.2.2)) ∧ IntR v x (l[j]'h).1 ∧ IntR v y (l[j]'h).2.1)
theorem NodR.below {v v' : World} {u : Value} {l : P.Tri} (h : NodR v u l) (hb : Below v.heap.size v v') : NodR v' u l := by
  obtain ⟨ad, cap, h1, h2, hn, h3⟩ := h
  refine ⟨ad, cap, h1, h2, hn, h3.imp id ?_⟩
  rintro ⟨g, o, h4, h5, h6⟩
  refine ⟨g, o, h4, Nat.lt_of_lt_of_le h5 hb.size, fun j hj => ?_⟩
  obtain ⟨x, y, a, b, c, d, e, f⟩ := h6 j hj
  exact ⟨x, y, (hb.cell (p := ⟨g, _, none⟩) h5).trans a, (hb.cell (p := ⟨g, _, none⟩) h5).trans b, (hb.cell (p := ⟨g, _, none⟩) h5).trans c, (hb.cell (p := ⟨g, _, none⟩) h5).trans d, e.below hb, f.below hb⟩
theorem NodR.at {v : World} {ad : Option Addr} {n cap : Nat} {l : P.Tri} (h : NodR v (.slice ad n cap) l) (j : Nat) (hj : j < l.length) : ∃ g o, ad = some ⟨g, o, none⟩ ∧ g < v.heap.size ∧ ∃ x y, v.cell? ⟨g, o + j * 4, none⟩ = some x ∧ v.cell? ⟨g, o + j * 4 + 1, none⟩ = some y ∧ v.cell? ⟨g, o + j * 4 + 2, none⟩ = some (.bool (l[j]'hj).2.2.1) ∧ v.cell? ⟨g, o + j * 4 + 3, none⟩ = some (.string (S (l[j]'hj).2.2.2)) ∧ IntR v x (l[j]'hj).1 ∧ IntR v y (l[j]'hj).2.1 := by
  obtain ⟨ad', cap', he, _, _, h3⟩ := h
  injection he with h1 h2 h4
  rcases h3 with h3 | ⟨g, o, h5, h6, h7⟩
  · rw [h3] at hj; exact absurd hj (Nat.not_lt_zero _)
  · exact ⟨g, o, h1.trans h5, h6, h7 j hj⟩
/-- a node out of its cells -/
def nodE : ElT P.Nd := fun v F cs n => ∃ x y F1 F2, cs = [x, y, .bool n.2.2.1, .string (S n.2.2.2)] ∧ Ints v F1 x n.1 ∧ Ints v F2 y n.2.1 ∧ (∀ b, F1 b → F b) ∧ (∀ b, F2 b → F b) ∧ (∀ b, F1 b → F2 b → False)
theorem nodE_ok : ElOk nodE :=
  ⟨fun ⟨x, y, F1, F2, h, k1, k2, s1, s2, d⟩ hk => ⟨x, y, F1, F2, h, k1.keep intE_ok (hk.mono s1), k2.keep intE_ok (hk.mono s2), s1, s2, d⟩,
   fun ⟨x, y, F1, F2, h, k1, k2, s1, s2, d⟩ hF _ => ⟨x, y, F1, F2, h, k1, k2, fun b hb => hF b (s1 b hb), fun b hb => hF b (s2 b hb), d⟩⟩
abbrev Nods := RowO 4 nodE
theorem Nods.read {v : World} {F : Blk} {u : Value} {l : P.Tri} (h : Nods v F u l) : NodR v u l := by
  obtain ⟨ad, cap, h1, h2, hn, h3⟩ := h
  refine ⟨ad, cap, h1, by omega, hn.1, h3.imp id ?_⟩
  rintro ⟨g, o, G, C, h4, h5⟩
  refine ⟨g, o, h4, h5.lt _ h5.own, fun j hj => ?_⟩
  obtain ⟨x, y, F1, F2, he, hx, hy, _⟩ := h5.el j hj
  have h0 := (h5.cel j hj 0 (by rw [he]; simp)).1
  have h1 := (h5.cel j hj 1 (by rw [he]; simp)).1
  have h2 := (h5.cel j hj 2 (by rw [he]; simp)).1
  have h3 := (h5.cel j hj 3 (by rw [he]; simp)).1
  simp only [he, List.getElem_cons_zero, List.getElem_cons_succ, Nat.add_zero] at h0 h1 h2 h3
  exact ⟨x, y, h0, h1, h2, h3, Ints.read hx, Ints.read hy⟩
end
section
open Go Go.RowKit
set_option maxHeartbeats 1000000
set_option maxRecDepth 100000
/-- what is known of a node that a law hands on -/
structure SmallN (n : P.Nd) : Prop where
  a : n.1.length ≤ 2 ^ 20
  b : n.2.1.length ≤ 2 ^ 20
structure SmallT (l : P.Tri) : Prop where
  len : l.length ≤ 2 ^ 20
  each : ∀ n ∈ l, SmallN n
def NodPost (n : P.Nd) (w : World) (e : Ending) (w' : World) : Prop := ∃ x y F1 F2, e = .returned (.agg #[x, y, .bool n.2.2.1, .string (S n.2.2.2)]) ∧ Ints w' F1 x n.1 ∧ Ints w' F2 y n.2.1 ∧ (∀ b, F1 b → w.heap.size ≤ b ∧ b < w'.heap.size) ∧ (∀ b, F2 b → w.heap.size ≤ b ∧ b < w'.heap.size) ∧ (∀ b, F1 b → F2 b → False) ∧ Below w.heap.size w w'
theorem toTrieNode (x y : Value) (n : P.Nd) (w : World) (hx : IntR w x n.1) (hy : IntR w y n.2.1) (hs : SmallN n) :
    Calls Tryz.prog 124 #[.agg #[x, y, .bool n.2.2.1, .string (S n.2.2.2)]] w (NodPost n w) := by
  obtain ⟨xs, ys, t, s⟩ := n
  simp only at hx hy
  have hb0 : Below w.heap.size w (((w.alloc (.cells #[x, y, .bool t, .string (S s)] 145)).alloc (.cells #[.slice none 0 0, .slice none 0 0, .bool false, .string (S [])] 63)).alloc (.cells #[.slice none 0 0, .slice none 0 0, .bool false, .string (S [])] 63)) :=
    (((Below.refl w.heap.size w).alloc (Nat.le_refl _) _).alloc (by simp) _).alloc (by simp; omega) _
  have HX := Lib.hid (hx.below hb0)
  have HY := Lib.hid hy
  have HB0 := Lib.hid hb0; clear hb0
  obtain ⟨ad, cap, rfl, _, _⟩ := hx
  obtain ⟨bd, dap, rfl, _, _⟩ := hy
  go_enter Tryz.func124, Tryz.ntmps124
  go_wp2_with fail
  refine (toIntS _ xs _ HX.out hs.a).mono ?_
  rintro e w1 ⟨u1, rfl, hI, hb⟩
  have hz : w.heap.size + 2 < w1.heap.size := by have := hb.size; simp at this; omega
  obtain ⟨hcc, hff⟩ := bcell hb
  have c1 : w1.cell? ⟨w.heap.size, 1, none⟩ = some (.slice bd ys.length dap) := by rw [hcc _ _ (by simp; omega)]; go_simp
  have c2 : w1.cell? ⟨w.heap.size, 2, none⟩ = some (.bool t) := by rw [hcc _ _ (by simp; omega)]; go_simp
  have c3 : w1.cell? ⟨w.heap.size, 3, none⟩ = some (.string (S s)) := by rw [hcc _ _ (by simp; omega)]; go_simp
  have r0 : w1.cell? ⟨w.heap.size + 1, 0, none⟩ = some (.slice none 0 0) := by rw [hcc _ _ (by simp)]; go_simp
  have s0 : w1.frozen? ⟨w.heap.size + 1, 0, none⟩ = false := by rw [hff _ _ (by simp)]; go_simp
  have r1 : w1.cell? ⟨w.heap.size + 1, 1, none⟩ = some (.slice none 0 0) := by rw [hcc _ _ (by simp)]; go_simp
  have s1 : w1.frozen? ⟨w.heap.size + 1, 1, none⟩ = false := by rw [hff _ _ (by simp)]; go_simp
  have r2 : w1.cell? ⟨w.heap.size + 1, 2, none⟩ = some (.bool false) := by rw [hcc _ _ (by simp)]; go_simp
  have s2 : w1.frozen? ⟨w.heap.size + 1, 2, none⟩ = false := by rw [hff _ _ (by simp)]; go_simp
  have r3 : w1.cell? ⟨w.heap.size + 1, 3, none⟩ = some (.string (S [])) := by rw [hcc _ _ (by simp)]; go_simp
  have s3 : w1.frozen? ⟨w.heap.size + 1, 3, none⟩ = false := by rw [hff _ _ (by simp)]; go_simp
  have q0 : w1.cell? ⟨w.heap.size + 2, 0, none⟩ = some (.slice none 0 0) := by rw [hcc _ _ (by simp)]; go_simp
  have p0 : w1.frozen? ⟨w.heap.size + 2, 0, none⟩ = false := by rw [hff _ _ (by simp)]; go_simp
  have q1 : w1.cell? ⟨w.heap.size + 2, 1, none⟩ = some (.slice none 0 0) := by rw [hcc _ _ (by simp)]; go_simp
  have p1 : w1.frozen? ⟨w.heap.size + 2, 1, none⟩ = false := by rw [hff _ _ (by simp)]; go_simp
  have q2 : w1.cell? ⟨w.heap.size + 2, 2, none⟩ = some (.bool false) := by rw [hcc _ _ (by simp)]; go_simp
  have p2 : w1.frozen? ⟨w.heap.size + 2, 2, none⟩ = false := by rw [hff _ _ (by simp)]; go_simp
  have q3 : w1.cell? ⟨w.heap.size + 2, 3, none⟩ = some (.string (S [])) := by rw [hcc _ _ (by simp)]; go_simp
  have p3 : w1.frozen? ⟨w.heap.size + 2, 3, none⟩ = false := by rw [hff _ _ (by simp)]; go_simp
  have HB1 := Lib.hid (HB0.out.trans (hb.mono (by simp; omega)))
  have HI := Lib.hid hI
  obtain ⟨a1, k1, rfl, _, _⟩ := hI
  have HYY := Lib.hid (HY.out.below (HB1.out.setCell (p := ⟨w.heap.size + 2, 0, none⟩) (by simp) (.slice a1 xs.length k1)))
  clear hb hcc hff HX HB0
  go_wp2_with fail
  refine (toIntS _ ys _ HYY.out hs.b).mono ?_
  rintro e w2 ⟨u2, rfl, hI2, hb⟩
  have HJ := Lib.hid hI2
  have hzz : w1.heap.size ≤ w2.heap.size := by have := hb.size; simpa [World.setCell] using this
  have hz2 : w.heap.size + 2 < w2.heap.size := by omega
  obtain ⟨hcc, hff⟩ := bcell hb
  have d2 : w2.cell? ⟨w.heap.size, 2, none⟩ = some (.bool t) := by rw [hcc _ _ (by simp [World.setCell] <;> omega)]; go_simp
  have d3 : w2.cell? ⟨w.heap.size, 3, none⟩ = some (.string (S s)) := by rw [hcc _ _ (by simp [World.setCell] <;> omega)]; go_simp
  have rr0 : w2.cell? ⟨w.heap.size + 1, 0, none⟩ = some (.slice none 0 0) := by rw [hcc _ _ (by simp [World.setCell] <;> omega)]; go_simp
  have ss0 : w2.frozen? ⟨w.heap.size + 1, 0, none⟩ = false := by rw [hff _ _ (by simp [World.setCell] <;> omega)]; go_simp
  have rr1 : w2.cell? ⟨w.heap.size + 1, 1, none⟩ = some (.slice none 0 0) := by rw [hcc _ _ (by simp [World.setCell] <;> omega)]; go_simp
  have ss1 : w2.frozen? ⟨w.heap.size + 1, 1, none⟩ = false := by rw [hff _ _ (by simp [World.setCell] <;> omega)]; go_simp
  have rr2 : w2.cell? ⟨w.heap.size + 1, 2, none⟩ = some (.bool false) := by rw [hcc _ _ (by simp [World.setCell] <;> omega)]; go_simp
  have ss2 : w2.frozen? ⟨w.heap.size + 1, 2, none⟩ = false := by rw [hff _ _ (by simp [World.setCell] <;> omega)]; go_simp
  have rr3 : w2.cell? ⟨w.heap.size + 1, 3, none⟩ = some (.string (S [])) := by rw [hcc _ _ (by simp [World.setCell] <;> omega)]; go_simp
  have ss3 : w2.frozen? ⟨w.heap.size + 1, 3, none⟩ = false := by rw [hff _ _ (by simp [World.setCell] <;> omega)]; go_simp
  have qq0 : w2.cell? ⟨w.heap.size + 2, 0, none⟩ = some (.slice a1 xs.length k1) := by rw [hcc _ _ (by simp [World.setCell] <;> omega)]; go_simp
  have pp0 : w2.frozen? ⟨w.heap.size + 2, 0, none⟩ = false := by rw [hff _ _ (by simp [World.setCell] <;> omega)]; go_simp
  have qq1 : w2.cell? ⟨w.heap.size + 2, 1, none⟩ = some (.slice none 0 0) := by rw [hcc _ _ (by simp [World.setCell] <;> omega)]; go_simp
  have pp1 : w2.frozen? ⟨w.heap.size + 2, 1, none⟩ = false := by rw [hff _ _ (by simp [World.setCell] <;> omega)]; go_simp
  have qq2 : w2.cell? ⟨w.heap.size + 2, 2, none⟩ = some (.bool false) := by rw [hcc _ _ (by simp [World.setCell] <;> omega)]; go_simp
  have pp2 : w2.frozen? ⟨w.heap.size + 2, 2, none⟩ = false := by rw [hff _ _ (by simp [World.setCell] <;> omega)]; go_simp
  have qq3 : w2.cell? ⟨w.heap.size + 2, 3, none⟩ = some (.string (S [])) := by rw [hcc _ _ (by simp [World.setCell] <;> omega)]; go_simp
  have pp3 : w2.frozen? ⟨w.heap.size + 2, 3, none⟩ = false := by rw [hff _ _ (by simp [World.setCell] <;> omega)]; go_simp
  have HB2 := Lib.hid ((HB1.out.setCell (p := ⟨w.heap.size + 2, 0, none⟩) (by simp) (.slice a1 xs.length k1)).trans (hb.mono (by simp [World.setCell] <;> omega)))
  have HI2 := Lib.hid ((HI.out.stand (X := fun b => b = w.heap.size + 2) intE_ok ((Chg.refl (fun b => b = w.heap.size + 2) w1).setCell (p := ⟨w.heap.size + 2, 0, none⟩) rfl (.slice a1 xs.length k1)) (by intro b h1 h2; have := h1.1; simp at this; omega)).below intE_ok hb)
  obtain ⟨a2, k2, rfl, _, _⟩ := hI2
  clear hb hcc hff HI HB1 HY HYY c1 c2 c3 r0 r1 r2 r3 q0 q1 q2 q3 s0 s1 s2 s3 p0 p1 p2 p3
  go_wp2
  have hst : ∀ (F : Blk) (u : Value) (m : List Int), Ints w2 F u m → (∀ b, F b → w.heap.size + 3 ≤ b) → Ints ((((((((w2.setCell ⟨w.heap.size + 2, 1, none⟩ (.slice a2 ys.length k2)).setCell ⟨w.heap.size + 2, 2, none⟩ (.bool t)).setCell ⟨w.heap.size + 2, 3, none⟩ (.string (S s))).setCell ⟨w.heap.size + 1, 0, none⟩ (.slice a1 xs.length k1)).setCell ⟨w.heap.size + 1, 1, none⟩ (.slice a2 ys.length k2)).setCell ⟨w.heap.size + 1, 2, none⟩ (.bool t)).setCell ⟨w.heap.size + 1, 3, none⟩ (.string (S s)))) F u m := by
    intro F u m h hF
    refine h.stand (X := fun b => b < w.heap.size + 3) intE_ok (((((((Chg.refl _ w2).setCell ?_ _).setCell ?_ _).setCell ?_ _).setCell ?_ _).setCell ?_ _).setCell ?_ _ |>.setCell ?_ _) ?_
    · simp
    · simp
    · simp
    · simp
    · simp
    · simp
    · simp
    · intro b hb; have := hF b hb; omega
  refine bodyPost_ret (v := .agg #[.slice a1 xs.length k1, .slice a2 ys.length k2, .bool t, .string (S s)]) (by simp [results, Tryz.results124, go_sem, rr0, rr1, rr2, rr3]) rfl ⟨_, _, _, _, rfl, hst _ _ _ HI2.out ?_, hst _ _ _ HJ.out ?_, ?_, ?_, ?_, ?_⟩
  · intro b hb; have := hb.1; simp at this; omega
  · intro b hb; have := hb.1; simp [World.setCell] at this; omega
  · intro b hb; have := hb.1; have := hb.2; simp [World.setCell] at *; omega
  · intro b hb; have := hb.1; have := hb.2; simp [World.setCell] at *; omega
  · intro b h1 h2; have h3 := h1.2; have h4 := h2.1; simp [World.setCell] at h4; omega
  · exact ((((((HB2.out.setCell (by simp <;> omega) _).setCell (by simp <;> omega) _).setCell (by simp <;> omega) _).setCell (by simp <;> omega) _).setCell (by simp) _).setCell (by simp) _).setCell (by simp) _
theorem info_nod : (Tryz.prog.info? 63).map (fun i => (i.zero, i.size, i.bytes)) = some (some (.agg #[.slice none 0 0, .slice none 0 0, .bool false, .string ⟨#[]⟩]), 4, 72) := by kernel_rfl
theorem run_mkN (k : Nat) (w : World) (hk : k ≤ 2 ^ 20) : (Instr.makeSlice 28 (.int .i64 k) (.int .i64 k)).run Tryz.prog w = .ok (.slice (some ⟨w.heap.size, 0, none⟩) k k) (w.alloc (.cells (madeCells #[.slice none 0 0, .slice none 0 0, .bool false, .string (S [])] (k * 4)) 63)) := by
  obtain ⟨i, hi, he⟩ := Option.map_eq_some_iff.mp info_nod
  simp only [Prod.mk.injEq] at he
  obtain ⟨hz, hs, hb⟩ := he
  have h := run_make (P := Tryz.prog) w 28 63 i (.agg #[.slice none 0 0, .slice none 0 0, .bool false, .string ⟨#[]⟩]) Tryz.underlying28 hi hz .i64 .i64 k k (by omega) (by omega) (by rw [hb]; omega) (by omega)
  rw [hs, Int.toNat_natCast] at h
  simpa [Value.cells, S] using h
/-- a fresh row of nodes -/
theorem made_nods (k : Nat) (w : World) (t : TypeId) : RowC 4 nodE (w.alloc (.cells (madeCells #[.slice none 0 0, .slice none 0 0, .bool false, .string (S [])] (k * 4)) t)) (Bet w.heap.size (w.heap.size + 1)) w.heap.size 0 (fun _ _ => False) (fun _ => [.slice none 0 0, .slice none 0 0, .bool false, .string (S [])]) (List.replicate k P.nd0) := by
  refine ⟨⟨Nat.le_refl _, by omega⟩, fun b hb => by simpa using hb.2, fun j hj => ?_, fun _ _ => rfl, fun j hj => ?_, fun _ _ _ h => h.elim, fun _ _ _ _ _ h _ => h⟩
  · exact made_rec #[.slice none 0 0, .slice none 0 0, .bool false, .string (S [])] k j w t (by simpa using hj)
  · rw [List.getElem_replicate]
    exact ⟨_, _, fun _ => False, fun _ => False, rfl, RowO.nil _ _, RowO.nil _ _, fun _ h => h, fun _ h => h, fun _ h _ => h⟩
/-- how a copy of nodes stands in a round -/
def CopyN (B j : Nat) (l : P.Tri) (v : World) : Prop := ∃ (m : P.Tri) (G : Nat → Blk) (C : Nat → List Value), m.length = l.length ∧ m.take j = l.take j ∧ RowC 4 nodE v (Bet B v.heap.size) B 0 G C m
theorem CopyN.cells {B j : Nat} {l : P.Tri} {v : World} (h : CopyN B j l v) (hj : j < l.length) : ∃ x y z t, (v.cell? ⟨B, j * 4, none⟩ = some x ∧ v.cell? ⟨B, j * 4 + 1, none⟩ = some y ∧ v.cell? ⟨B, j * 4 + 2, none⟩ = some z ∧ v.cell? ⟨B, j * 4 + 3, none⟩ = some t) ∧ v.frozen? ⟨B, j * 4, none⟩ = false ∧ v.frozen? ⟨B, j * 4 + 1, none⟩ = false ∧ v.frozen? ⟨B, j * 4 + 2, none⟩ = false ∧ v.frozen? ⟨B, j * 4 + 3, none⟩ = false := by
  obtain ⟨m, G, C, hm, _, h⟩ := h
  have hw := h.wid j (by omega)
  have a := h.cel j (by omega) 0 (by omega)
  have b := h.cel j (by omega) 1 (by omega)
  have c := h.cel j (by omega) 2 (by omega)
  have d := h.cel j (by omega) 3 (by omega)
  rw [Nat.zero_add] at a b c d
  exact ⟨_, _, _, _, ⟨a.1, b.1, c.1, d.1⟩, a.2, b.2, c.2, d.2⟩
theorem CopyN.put {B j : Nat} {l : P.Tri} {v v1 : World} (h : CopyN B j l v) (hj : j < l.length) (hB : B < v.heap.size) {x y : Value} {F1 F2 : Blk} (hb : Below v.heap.size v v1) (hx : Ints v1 F1 x l[j].1) (hy : Ints v1 F2 y l[j].2.1) (h1 : ∀ b, F1 b → v.heap.size ≤ b ∧ b < v1.heap.size) (h2 : ∀ b, F2 b → v.heap.size ≤ b ∧ b < v1.heap.size) (h12 : ∀ b, F1 b → F2 b → False) :
    CopyN B (j + 1) l ((((v1.setCell ⟨B, j * 4, none⟩ x).setCell ⟨B, j * 4 + 1, none⟩ y).setCell ⟨B, j * 4 + 2, none⟩ (.bool l[j].2.2.1)).setCell ⟨B, j * 4 + 3, none⟩ (.string (S l[j].2.2.2))) := by
  obtain ⟨m, G, C, hm, ht, h⟩ := h
  have hrow : RowC 4 nodE v1 (Bet B v.heap.size) B 0 G C m := h.keep nodE_ok ⟨hb.size, fun b hb' => hb.block b hb'.2⟩
  have hs : ((((v1.setCell ⟨B, j * 4, none⟩ x).setCell ⟨B, j * 4 + 1, none⟩ y).setCell ⟨B, j * 4 + 2, none⟩ (.bool l[j].2.2.1)).setCell ⟨B, j * 4 + 3, none⟩ (.string (S l[j].2.2.2))).heap.size = v1.heap.size := by simp [World.setCell]
  have hblk : ∀ b, b ≠ B → ((((v1.setCell ⟨B, j * 4, none⟩ x).setCell ⟨B, j * 4 + 1, none⟩ y).setCell ⟨B, j * 4 + 2, none⟩ (.bool l[j].2.2.1)).setCell ⟨B, j * 4 + 3, none⟩ (.string (S l[j].2.2.2))).heap[b]? = v1.heap[b]? := by
    intro b hb
    rw [Below.heap_setCell _ _ _ _ hb, Below.heap_setCell _ _ _ _ hb, Below.heap_setCell _ _ _ _ hb, Below.heap_setCell _ _ _ _ hb]
  have hcel : Cel ((((v1.setCell ⟨B, j * 4, none⟩ x).setCell ⟨B, j * 4 + 1, none⟩ y).setCell ⟨B, j * 4 + 2, none⟩ (.bool l[j].2.2.1)).setCell ⟨B, j * 4 + 3, none⟩ (.string (S l[j].2.2.2))) B (0 + j * 4) [x, y, .bool l[j].2.2.1, .string (S l[j].2.2.2)] := by
    have hc := hrow.cel j (by omega)
    have hw := hrow.wid j (by omega)
    have e := (((hc.set_at 0 (by omega) x).set_at 1 (by rw [List.length_set]; omega) y).set_at 2 (by rw [List.length_set, List.length_set]; omega) (.bool l[j].2.2.1)).set_at 3 (by rw [List.length_set, List.length_set, List.length_set]; omega) (.string (S l[j].2.2.2))
    simp only [Nat.zero_add, Nat.add_zero] at e ⊢
    obtain ⟨p, q, r, t, hC⟩ : ∃ p q r t, C j = [p, q, r, t] := by
      match hC : C j, hw with
      | [p, q, r, t], _ => exact ⟨p, q, r, t, rfl⟩
    rw [hC] at e
    exact e
  have hoth : ∀ i, i < m.length → i ≠ j → Cel ((((v1.setCell ⟨B, j * 4, none⟩ x).setCell ⟨B, j * 4 + 1, none⟩ y).setCell ⟨B, j * 4 + 2, none⟩ (.bool l[j].2.2.1)).setCell ⟨B, j * 4 + 3, none⟩ (.string (S l[j].2.2.2))) B (0 + i * 4) (C i) := by
    intro i hi hij
    have hw := hrow.wid i hi
    have hc := hrow.cel i hi
    have o0 := cel_out (wd := 4) (o := 0) hij 0 (by omega)
    have o1 := cel_out (wd := 4) (o := 0) hij 1 (by omega)
    have o2 := cel_out (wd := 4) (o := 0) hij 2 (by omega)
    have o3 := cel_out (wd := 4) (o := 0) hij 3 (by omega)
    refine (((hc.set_other ?_ _).set_other ?_ _).set_other ?_ _).set_other ?_ _ <;> rw [hw] <;> omega
  revert hs hblk hcel hoth
  generalize ((((v1.setCell ⟨B, j * 4, none⟩ x).setCell ⟨B, j * 4 + 1, none⟩ y).setCell ⟨B, j * 4 + 2, none⟩ (.bool l[j].2.2.1)).setCell ⟨B, j * 4 + 3, none⟩ (.string (S l[j].2.2.2))) = v3
  intro hs hblk hcel hoth
  refine ⟨m.set j l[j], _, _, by rw [List.length_set]; exact hm, ?_, hrow.put nodE_ok j (by omega) (Bet B v3.heap.size) (fun b => F1 b ∨ F2 b) [x, y, .bool l[j].2.2.1, .string (S l[j].2.2.2)] l[j] ?_ ?_ ?_ hcel rfl ?_ ?_ ?_ hoth ?_⟩
  · rw [take_snoc l j hj, take_snoc (m.set j l[j]) j (by rw [List.length_set]; omega), List.take_set_of_le (Nat.le_refl j), ht]
    simp
  · intro b hb'; rw [hs]; exact ⟨hb'.1, Nat.lt_of_lt_of_le hb'.2 hb.size⟩
  · intro b hb'; exact hb'.2
  · rw [hs]; exact Nat.le_refl _
  · exact ⟨x, y, F1, F2, rfl, hx.keep intE_ok ⟨by rw [hs]; exact Nat.le_refl _, fun b hb' => hblk b (by have := (h1 b hb').1; omega)⟩, hy.keep intE_ok ⟨by rw [hs]; exact Nat.le_refl _, fun b hb' => hblk b (by have := (h2 b hb').1; omega)⟩, fun b hb => .inl hb, fun b hb => .inr hb, h12⟩
  · intro b hb'
    rw [hs]
    rcases hb' with hb' | hb'
    · have := h1 b hb'; exact ⟨⟨by omega, this.2⟩, by omega⟩
    · have := h2 b hb'; exact ⟨⟨by omega, this.2⟩, by omega⟩
  · intro i hi hij b h3 h4
    have h5 := (hrow.sub i hi b h3).1.2
    rcases h4 with h4 | h4
    · have := (h1 b h4).1; omega
    · have := (h2 b h4).1; omega
  · intro i hi hij b hb'
    exact hblk b (hrow.sub i hi b hb').2
def NodsPost (l : P.Tri) (w : World) (e : Ending) (w' : World) : Prop := ∃ u, e = .returned u ∧ Nods w' (Bet w.heap.size w'.heap.size) u l ∧ Below w.heap.size w w'
theorem toTrieNodeS (u : Value) (l : P.Tri) (w : World) (hu : NodR w u l) (hs : SmallT l) :
    Calls Tryz.prog 72 #[u] w (NodsPost l w) := by
  have HU := Lib.hid hu
  have HLE := Lib.hid hs.each
  have hl := hs.len
  clear hs
  obtain ⟨ad, cap, rfl, _, _⟩ := hu
  have hmk := run_mkN l.length w hl
  have HC0 := Lib.hid (show CopyN w.heap.size 0 l (w.alloc (.cells (madeCells #[.slice none 0 0, .slice none 0 0, .bool false, .string (S [])] (l.length * 4)) 63)) from
    ⟨_, _, _, by simp, by simp, (made_nods l.length w 63).wide (fun b hb => ⟨hb.1, by simpa using hb.2⟩) (fun b hb => hb.2)⟩)
  have HB := Lib.hid ((Below.refl w.heap.size w).alloc (Nat.le_refl _) (.cells (madeCells #[.slice none 0 0, .slice none 0 0, .bool false, .string (S [])] (l.length * 4)) 63))
  go_enter Tryz.func72, Tryz.ntmps72
  go_wp2
  go_loopw [4] (fun i wr => ∃ j : Nat, j ≤ l.length ∧ i = .int .i64 j ∧ CopyN w.heap.size j l wr ∧ w.heap.size < wr.heap.size ∧ Below w.heap.size w wr) (fun i _ => l.length - (intOf i).toNat)
  case atStart => exact ⟨0, Nat.zero_le _, rfl, HC0.out, by simp, HB.out⟩
  case round =>
    obtain ⟨j, hj, rfl, hc, hz, hb⟩ := hrel
    have HC := Lib.hid hc
    have HBB := Lib.hid hb
    clear hmk HC0 HB
    by_cases hlt : j < l.length
    · obtain ⟨g, o, hga, hgl, x, y, c0, c1, c2, c3, hx, hy⟩ := (HU.out.below hb).at j hlt
      obtain ⟨y0, y1, y2, y3, ⟨d0, d1, d2, d3⟩, f0, f1, f2, f3⟩ := hc.cells hlt
      have HX := Lib.hid hx; have HY := Lib.hid hy
      have HLL := Lib.hid (HLE.out _ (List.getElem_mem hlt))
      have HPUT := Lib.hid (fun (v1 : World) (x y : Value) (F1 F2 : Blk) (h1 : Below wr.heap.size wr v1) (h2 : Ints v1 F1 x l[j].1) (h3 : Ints v1 F2 y l[j].2.1) (h4 : ∀ b, F1 b → wr.heap.size ≤ b ∧ b < v1.heap.size) (h5 : ∀ b, F2 b → wr.heap.size ≤ b ∧ b < v1.heap.size) (h6 : ∀ b, F1 b → F2 b → False) => CopyN.put HC.out hlt hz h1 h2 h3 h4 h5 h6)
      obtain ⟨xd, xc, rfl, _, _⟩ := hx
      obtain ⟨yd, yc, rfl, _, _⟩ := hy
      subst hga
      generalize l[j] = en at *
      have i1 : (j : Int) < (l.length : Int) := by omega
      clear hb hc
      go_wp2_with fail
      refine (toTrieNode _ _ en _ HX.out HY.out HLL.out).mono ?_
      rintro e v1 ⟨x1, y1', F1, F2, rfl, hI, hJ, hF1, hF2, h12, hb1⟩
      obtain ⟨hcc, hff⟩ := bcell hb1
      have d0' := (hcc w.heap.size (j * 4) hz).trans d0
      have d1' := (hcc w.heap.size (j * 4 + 1) hz).trans d1
      have d2' := (hcc w.heap.size (j * 4 + 2) hz).trans d2
      have d3' := (hcc w.heap.size (j * 4 + 3) hz).trans d3
      have f0' := (hff w.heap.size (j * 4) hz).trans f0
      have f1' := (hff w.heap.size (j * 4 + 1) hz).trans f1
      have f2' := (hff w.heap.size (j * 4 + 2) hz).trans f2
      have f3' := (hff w.heap.size (j * 4 + 3) hz).trans f3
      have HPP := Lib.hid (HPUT.out v1 x1 y1' F1 F2 hb1 hI hJ hF1 hF2 h12)
      obtain ⟨ad1, cap1, rfl, _, _⟩ := hI
      obtain ⟨ad2, cap2, rfl, _, _⟩ := hJ
      have hz1 := Nat.lt_of_lt_of_le hz hb1.size
      have HB1 := Lib.hid (HBB.out.trans (hb1.mono (Nat.le_of_lt hz)))
      clear hcc hff hb1 d0 d1 d2 d3 f0 f1 f2 f3 hF1 hF2 h12
      go_wp2
      go_roundw
      case rel => exact ⟨j + 1, by omega, by go_num, HPP.out, by simpa [World.setCell] using hz1, (((HB1.out.setCell (Nat.le_refl _) _).setCell (Nat.le_refl _) _).setCell (Nat.le_refl _) _).setCell (Nat.le_refl _) _⟩
      case measure => simp [intOf]; omega
    · have hjl : l.length = j := by omega
      clear hb hc
      go_wp2
      go_ret
      refine ⟨_, rfl, ?_, HBB.out⟩
      obtain ⟨m, G, C, hm, ht, hr⟩ := HC.out
      have e : m = l := by rwa [List.take_of_length_le (by omega), List.take_of_length_le (by omega)] at ht
      rw [e] at hr
      exact ⟨_, _, by first | rfl | rw [hjl], by omega, ⟨(fun h => by cases h), by first | exact Nat.le_refl _ | omega⟩, .inr ⟨_, _, _, _, rfl, hr⟩⟩
/-- a trie of the call's own -/
def TriPost (l : P.Tri) (w : World) (e : Ending) (w' : World) : Prop := ∃ u, e = .returned (.agg #[u]) ∧ Nods w' (Bet w.heap.size w'.heap.size) u l ∧ Below w.heap.size w w'
theorem toTrie (u : Value) (l : P.Tri) (w : World) (hu : NodR w u l) (hs : SmallT l) :
    Calls Tryz.prog 24 #[.agg #[u]] w (TriPost l w) := by
  have hb0 : Below w.heap.size w (((w.alloc (.cells #[u] 40)).alloc (.cells #[.slice none 0 0] 30)).alloc (.cells #[.slice none 0 0] 30)) :=
    (((Below.refl w.heap.size w).alloc (Nat.le_refl _) _).alloc (by simp) _).alloc (by simp; omega) _
  have HU := Lib.hid (hu.below hb0)
  have HB0 := Lib.hid hb0; clear hb0
  have HS := Lib.hid hs; clear hs
  obtain ⟨ad, cap, rfl, _, _⟩ := hu
  go_enter Tryz.func24, Tryz.ntmps24
  go_wp2_with fail
  refine (toTrieNodeS _ l _ HU.out HS.out).mono ?_
  rintro e w1 ⟨u', rfl, hI, hb⟩
  have hz : w.heap.size + 2 < w1.heap.size := by have := hb.size; simp at this; omega
  obtain ⟨hcc, hff⟩ := bcell hb
  have r0 : w1.cell? ⟨w.heap.size + 1, 0, none⟩ = some (.slice none 0 0) := by rw [hcc _ _ (by simp)]; go_simp
  have q0 : w1.cell? ⟨w.heap.size + 2, 0, none⟩ = some (.slice none 0 0) := by rw [hcc _ _ (by simp)]; go_simp
  have s0 : w1.frozen? ⟨w.heap.size + 1, 0, none⟩ = false := by rw [hff _ _ (by simp)]; go_simp
  have p0 : w1.frozen? ⟨w.heap.size + 2, 0, none⟩ = false := by rw [hff _ _ (by simp)]; go_simp
  have HI := Lib.hid hI
  have HB1 := Lib.hid (HB0.out.trans (hb.mono (by simp; omega)))
  obtain ⟨ad', cap', rfl, _, _⟩ := hI
  clear hb hcc hff HU HB0
  go_wp2
  refine bodyPost_ret (v := .agg #[.slice ad' l.length cap']) (by simp [results, Tryz.results24, go_sem, r0]) rfl ⟨_, rfl, ?_, ?_⟩
  · refine (HI.out.stand (X := fun b => b < w.heap.size + 3) nodE_ok (((Chg.refl _ w1).setCell ?_ _).setCell ?_ _) ?_).wide ?_ ?_
    · simp
    · simp
    · intro b hb; simp [Bet] at hb ⊢; omega
    · intro b hb; simp [Bet, World.setCell] at hb ⊢; omega
    · intro b hb; exact hb.2
  · exact (HB1.out.setCell (by simp; omega) _).setCell (by simp) _
theorem eqTrieNode (x y x' y' : Value) (n : P.Nd) (w : World) (hx : IntR w x n.1) (hy : IntR w y n.2.1) (hx' : IntR w x' n.1) (hy' : IntR w y' n.2.1) :
    Calls Tryz.prog 126 #[.agg #[x, y, .bool n.2.2.1, .string (S n.2.2.2)], .agg #[x', y', .bool n.2.2.1, .string (S n.2.2.2)]] w fun e w' => e = .returned (.bool true) ∧ Below w.heap.size w w' := by
  obtain ⟨xs, ys, t, s⟩ := n
  simp only at hx hy hx' hy'
  have hb0 : Below w.heap.size w ((w.alloc (.cells #[x, y, .bool t, .string (S s)] 63)).alloc (.cells #[x', y', .bool t, .string (S s)] 63)) :=
    ((Below.refl w.heap.size w).alloc (Nat.le_refl _) _).alloc (by simp) _
  have HX := Lib.hid (hx.below hb0); have HX' := Lib.hid (hx'.below hb0)
  have HY := Lib.hid hy; have HY' := Lib.hid hy'
  have HB0 := Lib.hid hb0; clear hb0
  obtain ⟨ad, cap, rfl, _, _⟩ := hx
  obtain ⟨bd, dap, rfl, _, _⟩ := hx'
  obtain ⟨cd, eap, rfl, _, _⟩ := hy
  obtain ⟨dd, fap, rfl, _, _⟩ := hy'
  go_enter Tryz.func126, Tryz.ntmps126
  go_wp2_with fail
  refine (eqIntS _ _ xs _ HX.out HX'.out).mono ?_
  rintro e w1 ⟨rfl, hb⟩
  have hz : w.heap.size + 1 < w1.heap.size := by have := hb.size; simp at this; omega
  obtain ⟨hcc, hff⟩ := bcell hb
  have r1 : w1.cell? ⟨w.heap.size, 1, none⟩ = some (.slice cd ys.length eap) := by rw [hcc _ _ (by simp <;> omega)]; go_simp
  have r2 : w1.cell? ⟨w.heap.size, 2, none⟩ = some (.bool t) := by rw [hcc _ _ (by simp <;> omega)]; go_simp
  have r3 : w1.cell? ⟨w.heap.size, 3, none⟩ = some (.string (S s)) := by rw [hcc _ _ (by simp <;> omega)]; go_simp
  have q1 : w1.cell? ⟨w.heap.size + 1, 1, none⟩ = some (.slice dd ys.length fap) := by rw [hcc _ _ (by simp <;> omega)]; go_simp
  have q2 : w1.cell? ⟨w.heap.size + 1, 2, none⟩ = some (.bool t) := by rw [hcc _ _ (by simp <;> omega)]; go_simp
  have q3 : w1.cell? ⟨w.heap.size + 1, 3, none⟩ = some (.string (S s)) := by rw [hcc _ _ (by simp <;> omega)]; go_simp
  have HB1 := Lib.hid (HB0.out.trans (hb.mono (by simp; omega)))
  have HY1 := Lib.hid (HY.out.below HB1.out); have HY1' := Lib.hid (HY'.out.below HB1.out)
  clear hb hcc hff HX HX' HB0 HY HY'
  go_wp2_with fail
  refine (eqIntS _ _ ys _ HY1.out HY1'.out).mono ?_
  rintro e w2 ⟨rfl, hb⟩
  obtain ⟨hcc, hff⟩ := bcell hb
  have rr2 : w2.cell? ⟨w.heap.size, 2, none⟩ = some (.bool t) := by rw [hcc _ _ (by omega)]; assumption
  have rr3 : w2.cell? ⟨w.heap.size, 3, none⟩ = some (.string (S s)) := by rw [hcc _ _ (by omega)]; assumption
  have qq2 : w2.cell? ⟨w.heap.size + 1, 2, none⟩ = some (.bool t) := by rw [hcc _ _ (by omega)]; assumption
  have qq3 : w2.cell? ⟨w.heap.size + 1, 3, none⟩ = some (.string (S s)) := by rw [hcc _ _ (by omega)]; assumption
  have HB2 := Lib.hid (HB1.out.trans (hb.mono (by omega)))
  clear hb hcc hff HB1 HY1 HY1' r1 r2 r3 q1 q2 q3
  go_wp2
  first | go_quiet (fail) | skip
  go_wp2
  go_ret
  exact ⟨rfl, by first | exact HB2.out | exact below_drewN HB2.out _⟩
/-- what region 6 of eqTrieNodeS keeps -/
def KN (w : World) (c p : Nat) (x y : Value) (g q : Nat) (x' y' : Value) (n : P.Nd) (v : World) : Prop :=
  (v.cell? ⟨c, p, none⟩ = some x ∧ v.cell? ⟨c, p + 1, none⟩ = some y ∧ v.cell? ⟨c, p + 2, none⟩ = some (.bool n.2.2.1) ∧ v.cell? ⟨c, p + 3, none⟩ = some (.string (S n.2.2.2))) ∧ (v.cell? ⟨g, q, none⟩ = some x' ∧ v.cell? ⟨g, q + 1, none⟩ = some y' ∧ v.cell? ⟨g, q + 2, none⟩ = some (.bool n.2.2.1) ∧ v.cell? ⟨g, q + 3, none⟩ = some (.string (S n.2.2.2))) ∧ c < v.heap.size ∧ g < v.heap.size ∧ (IntR v x n.1 ∧ IntR v y n.2.1 ∧ IntR v x' n.1 ∧ IntR v y' n.2.1) ∧ w.heap.size ≤ v.heap.size ∧ Below w.heap.size w v
theorem KN.step {w v v' : World} {c p g q : Nat} {x y x' y' : Value} {n : P.Nd} (h : KN w c p x y g q x' y' n v) (hb : Below v.heap.size v v') : KN w c p x y g q x' y' n v' := by
  obtain ⟨⟨a1, a2, a3, a4⟩, ⟨b1, b2, b3, b4⟩, h5, h6, ⟨c1, c2, c3, c4⟩, h9, h10⟩ := h
  exact ⟨⟨(hb.cell (p := ⟨c, p, none⟩) h5).trans a1, (hb.cell (p := ⟨c, p + 1, none⟩) h5).trans a2, (hb.cell (p := ⟨c, p + 2, none⟩) h5).trans a3, (hb.cell (p := ⟨c, p + 3, none⟩) h5).trans a4⟩,
    ⟨(hb.cell (p := ⟨g, q, none⟩) h6).trans b1, (hb.cell (p := ⟨g, q + 1, none⟩) h6).trans b2, (hb.cell (p := ⟨g, q + 2, none⟩) h6).trans b3, (hb.cell (p := ⟨g, q + 3, none⟩) h6).trans b4⟩,
    Nat.lt_of_lt_of_le h5 hb.size, Nat.lt_of_lt_of_le h6 hb.size, ⟨c1.below hb, c2.below hb, c3.below hb, c4.below hb⟩, Nat.le_trans h9 hb.size, h10.trans (hb.mono h9)⟩
theorem eqTrieNodeS (u v : Value) (l : P.Tri) (w : World) (hu : NodR w u l) (hv : NodR w v l) :
    Calls Tryz.prog 74 #[u, v] w fun e w' => e = .returned (.bool true) ∧ Below w.heap.size w w' := by
  have HU := Lib.hid hu; have HV := Lib.hid hv
  obtain ⟨ad, cap, rfl, hla, _⟩ := hu
  obtain ⟨bd, dap, rfl, _, _⟩ := hv
  go_enter Tryz.func74, Tryz.ntmps74
  go_wp2
  go_loopw [5] (fun i wr => ∃ j : Nat, j ≤ l.length ∧ i = .int .i64 j ∧ Below w.heap.size w wr) (fun i _ => l.length - (intOf i).toNat)
  case atStart => exact ⟨0, Nat.zero_le _, rfl, Below.refl _ _⟩
  case round =>
    obtain ⟨j, hj, rfl, hb⟩ := hrel
    have HB := Lib.hid hb
    by_cases hlt : j < l.length
    · obtain ⟨c, p, hga, hgl, x, y, c0, c1, c2, c3, hx, hy⟩ := (HU.out.below hb).at j hlt
      obtain ⟨g, q, hgb, hgl', x', y', d0, d1, d2, d3, hx', hy'⟩ := (HV.out.below hb).at j hlt
      subst hga hgb
      have HS := Lib.hid (show KN w c (p + j * 4) x y g (q + j * 4) x' y' l[j] wr.drew from KN.step ⟨⟨c0, c1, c2, c3⟩, ⟨d0, d1, d2, d3⟩, hgl, hgl', ⟨hx, hy, hx', hy'⟩, hb.size, hb⟩ (Below.refl _ _).drew)
      obtain ⟨xd, xc, rfl, _, _⟩ := hx
      obtain ⟨yd, yc, rfl, _, _⟩ := hy
      obtain ⟨xd', xc', rfl, _, _⟩ := hx'
      obtain ⟨yd', yc', rfl, _, _⟩ := hy'
      generalize l[j] = en at *
      clear hb c0 c1 c2 c3 d0 d1 d2 d3
      have i1 : (j : Int) < (l.length : Int) := by omega
      go_upto_region 6 with fail
      refine wp_region_held_drew (S := KN w c (p + j * 4) (.slice xd en.1.length xc) (.slice yd en.2.1.length yc) g (q + j * 4) (.slice xd' en.1.length xc') (.slice yd' en.2.1.length yc') en) (by kernel_rfl) HS.out (fun hS0 => ?_)
      refine wpAnyH_take (i := 0) (v := .slice (some ⟨c, p, none⟩) l.length cap) rfl (by kernel_rfl) (by kernel_rfl) (by kernel_rfl) (fun _ _ _ h => h) (Or.inl ⟨by rfl, fun z hz => ?_⟩) hS0 ?_
      · obtain ⟨⟨a1, a2, a3, a4⟩, ⟨b1, b2, b3, b4⟩, z5, z6, _⟩ := hz
        go_simp
      try simp only [List.getElem_toArray, List.getElem_cons_zero, Act.put, List.setIfInBounds_toArray, List.set_cons_zero, List.set_cons_succ]
      refine wpAnyH_take (i := 1) (v := .int .i64 j) rfl (by kernel_rfl) (by kernel_rfl) (by kernel_rfl) (fun _ _ _ h => h) (Or.inl ⟨by rfl, fun z hz => ?_⟩) hS0 ?_
      · obtain ⟨⟨a1, a2, a3, a4⟩, ⟨b1, b2, b3, b4⟩, z5, z6, _⟩ := hz
        go_simp
      try simp only [List.getElem_toArray, List.getElem_cons_zero, List.getElem_cons_succ, Act.put, List.setIfInBounds_toArray, List.set_cons_zero, List.set_cons_succ]
      refine wpAnyH_take (i := 2) (v := .pointer (some ⟨c, p + j * 4, none⟩)) rfl (by kernel_rfl) (by kernel_rfl) (by kernel_rfl) (fun _ _ _ h => h) (Or.inl ⟨by rfl, fun z hz => ?_⟩) hS0 ?_
      · obtain ⟨⟨a1, a2, a3, a4⟩, ⟨b1, b2, b3, b4⟩, z5, z6, _⟩ := hz
        go_simp
      try simp only [List.getElem_toArray, List.getElem_cons_zero, List.getElem_cons_succ, Act.put, List.setIfInBounds_toArray, List.set_cons_zero, List.set_cons_succ]
      refine wpAnyH_take (i := 3) (v := .agg #[.slice xd en.1.length xc, .slice yd en.2.1.length yc, .bool en.2.2.1, .string (S en.2.2.2)]) rfl (by kernel_rfl) (by kernel_rfl) (by kernel_rfl) (fun _ _ _ h => h) (Or.inl ⟨by rfl, fun z hz => ?_⟩) hS0 ?_
      · obtain ⟨⟨a1, a2, a3, a4⟩, ⟨b1, b2, b3, b4⟩, z5, z6, _⟩ := hz
        go_simp
      try simp only [List.getElem_toArray, List.getElem_cons_zero, List.getElem_cons_succ, Act.put, List.setIfInBounds_toArray, List.set_cons_zero, List.set_cons_succ]
      refine wpAnyH_take (i := 4) (v := .slice (some ⟨g, q, none⟩) l.length dap) rfl (by kernel_rfl) (by kernel_rfl) (by kernel_rfl) (fun _ _ _ h => h) (Or.inl ⟨by rfl, fun z hz => ?_⟩) hS0 ?_
      · obtain ⟨⟨a1, a2, a3, a4⟩, ⟨b1, b2, b3, b4⟩, z5, z6, _⟩ := hz
        go_simp
      try simp only [List.getElem_toArray, List.getElem_cons_zero, List.getElem_cons_succ, Act.put, List.setIfInBounds_toArray, List.set_cons_zero, List.set_cons_succ]
      refine wpAnyH_take (i := 5) (v := .int .i64 j) rfl (by kernel_rfl) (by kernel_rfl) (by kernel_rfl) (fun _ _ _ h => h) (Or.inl ⟨by rfl, fun z hz => ?_⟩) hS0 ?_
      · obtain ⟨⟨a1, a2, a3, a4⟩, ⟨b1, b2, b3, b4⟩, z5, z6, _⟩ := hz
        go_simp
      try simp only [List.getElem_toArray, List.getElem_cons_zero, List.getElem_cons_succ, Act.put, List.setIfInBounds_toArray, List.set_cons_zero, List.set_cons_succ]
      refine wpAnyH_take (i := 6) (v := .pointer (some ⟨g, q + j * 4, none⟩)) rfl (by kernel_rfl) (by kernel_rfl) (by kernel_rfl) (fun _ _ _ h => h) (Or.inl ⟨by rfl, fun z hz => ?_⟩) hS0 ?_
      · obtain ⟨⟨a1, a2, a3, a4⟩, ⟨b1, b2, b3, b4⟩, z5, z6, _⟩ := hz
        go_simp
      try simp only [List.getElem_toArray, List.getElem_cons_zero, List.getElem_cons_succ, Act.put, List.setIfInBounds_toArray, List.set_cons_zero, List.set_cons_succ]
      refine wpAnyH_take (i := 7) (v := .agg #[.slice xd' en.1.length xc', .slice yd' en.2.1.length yc', .bool en.2.2.1, .string (S en.2.2.2)]) rfl (by kernel_rfl) (by kernel_rfl) (by kernel_rfl) (fun _ _ _ h => h) (Or.inl ⟨by rfl, fun z hz => ?_⟩) hS0 ?_
      · obtain ⟨⟨a1, a2, a3, a4⟩, ⟨b1, b2, b3, b4⟩, z5, z6, _⟩ := hz
        go_simp
      try simp only [List.getElem_toArray, List.getElem_cons_zero, List.getElem_cons_succ, Act.put, List.setIfInBounds_toArray, List.set_cons_zero, List.set_cons_succ]
      refine wpAnyH_ready (rs := [8]) (by kernel_rfl) (by simp) ?_
      refine AllReadyH.cons rfl (fun K hK => ?_) AllReadyH.nil
      have HS1 := Lib.hid hS0
      have HX := Lib.hid hS0.2.2.2.2.1
      go_simp
      refine (eqTrieNode _ _ _ _ en _ HX.out.1 HX.out.2.1 HX.out.2.2.1 HX.out.2.2.2).mono ?_
      rintro e v ⟨rfl, hb⟩
      refine hK.out _ _ (HS1.out.step hb) (fun hS1 => ?_)
      clear hK K hb
      try simp only [List.getElem_toArray, List.getElem_cons_zero, List.getElem_cons_succ, Act.put, List.setIfInBounds_toArray, List.set_cons_zero, List.set_cons_succ]
      refine wpAnyH_take (i := 9) (v := .bool false) rfl (by kernel_rfl) (by kernel_rfl) (by kernel_rfl) (fun _ _ _ h => h) (Or.inl ⟨by rfl, fun z hz => ?_⟩) hS1 ?_
      · obtain ⟨⟨a1, a2, a3, a4⟩, ⟨b1, b2, b3, b4⟩, z5, z6, _⟩ := hz
        go_simp
      try simp only [List.getElem_toArray, List.getElem_cons_zero, List.getElem_cons_succ, Act.put, List.setIfInBounds_toArray, List.set_cons_zero, List.set_cons_succ]
      refine wpAnyH_done (by kernel_rfl) ?_ _
      have HB2 := Lib.hid (hS1.2.2.2.2.2.2)
      clear hS0 hS1 HS1
      go_wp2
      go_roundw
      case rel => exact ⟨j + 1, by omega, by go_num, HB2.out⟩
      case measure => simp [intOf]; omega
    · clear hb
      go_wp2
      go_ret
      exact ⟨rfl, HB.out⟩
theorem eqTrie (u v : Value) (l : P.Tri) (w : World) (hu : NodR w u l) (hv : NodR w v l) :
    Calls Tryz.prog 27 #[.agg #[u], .agg #[v]] w fun e w' => e = .returned (.bool true) ∧ Below w.heap.size w w' := by
  have hb0 : Below w.heap.size w ((w.alloc (.cells #[u] 30)).alloc (.cells #[v] 30)) :=
    ((Below.refl w.heap.size w).alloc (Nat.le_refl _) _).alloc (by simp) _
  have HU := Lib.hid (hu.below hb0); have HV := Lib.hid (hv.below hb0)
  have HB0 := Lib.hid hb0; clear hb0
  obtain ⟨ad, cap, rfl, hla, _⟩ := hu
  obtain ⟨bd, dap, rfl, _, _⟩ := hv
  go_enter Tryz.func27, Tryz.ntmps27
  go_wp2_with fail
  refine (eqTrieNodeS _ _ l _ HU.out HV.out).mono ?_
  rintro e w1 ⟨rfl, hb⟩
  have HB1 := Lib.hid (HB0.out.trans (hb.mono (by simp; omega)))
  clear hb
  go_wp2
  go_ret
  exact ⟨rfl, HB1.out⟩
end
end Go.Proofs.YtojcfpjoikmgcaaGreatDoor
