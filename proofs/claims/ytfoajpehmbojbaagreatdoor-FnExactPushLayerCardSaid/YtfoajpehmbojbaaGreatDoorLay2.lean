/- Walks: the law's own functions on layers: a mark, what is held, their size. -/
import Derived.Deep.DeepCutAuto
import Derived.Test.YtfoajpehmbojbaaGreatDoorLay1
namespace Go.Proofs.YtfoajpehmbojbaaGreatDoor
namespace P
/-- the mark of a layer's switch -/
def flag (k : Int) : Bool := k % 3 == 0
/-- the mark behind a row of layers -/
def kAtL (k : Int) : Lays → Int
  | [] => k
  | e :: l => kAtL (kAt k e.1 + 1) l
def markLL (k : Int) : Lays → Lays
  | [] => []
  | e :: l => (markE k e.1, flag (kAt k e.1)) :: markLL (kAt k e.1 + 1) l
theorem markLL_len (k : Int) : ∀ l : Lays, (markLL k l).length = l.length
  | [] => rfl
  | e :: l => by simp [markLL, markLL_len _ l]
theorem kAtL_snoc (k : Int) (e : Lay) : ∀ l : Lays, kAtL k (l ++ [e]) = kAt (kAtL k l) e.1 + 1
  | [] => rfl
  | x :: l => by simp only [List.cons_append, kAtL]; exact kAtL_snoc _ e l
theorem markLL_snoc (k : Int) (e : Lay) : ∀ l : Lays, markLL k (l ++ [e]) = markLL k l ++ [(markE (kAtL k l) e.1, flag (kAt (kAtL k l) e.1))]
  | [] => rfl
  | x :: l => by simp only [List.cons_append, markLL, kAtL]; rw [markLL_snoc _ e l]
theorem kAtL_ge (k : Int) : ∀ l : Lays, k + l.length ≤ kAtL k l
  | [] => by simp [kAtL]
  | e :: l => by have := kAtL_ge (kAt k e.1 + 1) l; have := kAt_ge k e.1; simp only [kAtL, List.length_cons]; omega
theorem kAtL_app (k : Int) : ∀ a b : Lays, kAtL k (a ++ b) = kAtL (kAtL k a) b
  | [], _ => rfl
  | _ :: a, b => kAtL_app _ a b
theorem kAtL_take (k : Int) (l : Lays) (j : Nat) : kAtL k (l.take j) ≤ kAtL k l := by
  have h2 := kAtL_app k (l.take j) (l.drop j)
  rw [List.take_append_drop] at h2
  have h3 := kAtL_ge (kAtL k (l.take j)) (l.drop j)
  omega
theorem markLL_get (k : Int) (l : Lays) (j : Nat) (h : j < l.length) (h' : j < (markLL k l).length) : (markLL k l)[j] = (markE (kAtL k (l.take j)) l[j].1, flag (kAt (kAtL k (l.take j)) l[j].1)) := by
  induction l generalizing k j with
  | nil => simp at h
  | cons e l ih =>
    cases j with
    | zero => rfl
    | succ j =>
      simp only [markLL, List.getElem_cons_succ, List.take_succ_cons, kAtL]
      exact ih _ _ _ _
/-- how much a row of layers holds -/
def sizeL : Lays → Int
  | [] => 0
  | e :: l => e.1.length + sizeE e.1 + sizeL l
theorem sizeL_snoc (e : Lay) : ∀ l : Lays, sizeL (l ++ [e]) = sizeL l + e.1.length + sizeE e.1
  | [] => by simp [sizeL]
  | x :: l => by simp only [List.cons_append, sizeL]; rw [sizeL_snoc e l]; omega
theorem sizeL_nonneg : ∀ l : Lays, 0 ≤ sizeL l
  | [] => Int.le_refl 0
  | e :: l => by have := sizeL_nonneg l; have := sizeE_nonneg e.1; simp only [sizeL]; omega
theorem sizeL_mem {e : Lay} : ∀ {l : Lays}, e ∈ l → (e.1.length : Int) + sizeE e.1 ≤ sizeL l
  | [], h => by cases h
  | x :: l, h => by
    have := sizeL_nonneg l
    have := sizeE_nonneg x.1
    simp only [sizeL]
    rcases List.mem_cons.1 h with rfl | h
    · omega
    · have := sizeL_mem h; omega
theorem kAtL_le (k : Int) : ∀ l : Lays, kAtL k l ≤ k + l.length + sizeL l
  | [] => by simp [kAtL, sizeL]
  | e :: l => by have := kAtL_le (kAt k e.1 + 1) l; have := kAt_le k e.1; simp only [kAtL, sizeL, List.length_cons]; omega
end P
open Go Go.RowKit
set_option maxHeartbeats 1000000
set_option maxRecDepth 100000
/-- how a row of layers stands while it is marked -/
def MarkL (w : World) (F : Blk) (ad : Option Addr) (k : Int) (j : Nat) (l : P.Lays) (v : World) : Prop :=
  Chg F w v ∧ (l = [] ∨ ∃ g o G C, ad = some ⟨g, o, none⟩ ∧ RowC 2 layE v F g o G C (P.markLL k (l.take j) ++ l.drop j))
theorem MarkL.start {w : World} {F : Blk} {ad : Option Addr} {k : Int} {l : P.Lays} (h : l = [] ∨ ∃ g o G C, ad = some ⟨g, o, none⟩ ∧ RowC 2 layE w F g o G C l) : MarkL w F ad k 0 l w :=
  ⟨Chg.refl _ _, h.imp id fun ⟨g, o, G, C, h1, h2⟩ => ⟨g, o, G, C, h1, by simpa [P.markLL] using h2⟩⟩
theorem MarkL.cells {w v : World} {F : Blk} {ad : Option Addr} {k : Int} {j : Nat} {l : P.Lays} (h : MarkL w F ad k j l v) (hj : j < l.length) :
    ∃ g o x y Gj, ad = some ⟨g, o, none⟩ ∧ g < v.heap.size ∧ v.cell? ⟨g, o + j * 2, none⟩ = some x ∧ v.cell? ⟨g, o + j * 2 + 1, none⟩ = some y ∧ v.frozen? ⟨g, o + j * 2 + 1, none⟩ = false ∧ ¬ Gj g ∧ Ents v Gj x l[j].1 ∧
      ∀ v1 v2, Ents v1 Gj x (P.markE (P.kAtL k (l.take j)) l[j].1) → Chg Gj v v1 → Below v1.heap.size v1 v2 → MarkL w F ad k (j + 1) l (v2.setCell ⟨g, o + j * 2 + 1, none⟩ (.bool (P.flag (P.kAt (P.kAtL k (l.take j)) l[j].1)))) := by
  obtain ⟨hc, h⟩ := h
  obtain ⟨g, o, G, C, hg, hr⟩ := h.resolve_left (by intro e; rw [e] at hj; simp at hj)
  have hA : (P.markLL k (l.take j)).length = j := by rw [P.markLL_len, List.length_take]; omega
  have hlen : (P.markLL k (l.take j) ++ l.drop j).length = l.length := by rw [List.length_append, hA, List.length_drop]; omega
  have hj' : j < (P.markLL k (l.take j) ++ l.drop j).length := by omega
  have hel : (P.markLL k (l.take j) ++ l.drop j)[j] = l[j] := by
    rw [List.getElem_append_right (by omega)]
    simp [hA]
  obtain ⟨x, hC, hI⟩ := hr.el j hj'
  rw [hel] at hC hI
  have c0 := hr.cel j hj' 0 (by rw [hC]; simp)
  have c1 := hr.cel j hj' 1 (by rw [hC]; simp)
  simp only [hC, List.getElem_cons_zero, List.getElem_cons_succ, Nat.add_zero] at c0 c1
  refine ⟨g, o, x, _, G j, hg, hr.lt _ hr.own, c0.1, c1.1, c1.2, fun h => (hr.sub j hj' _ h).2 rfl, hI, fun v1 v2 hI1 hc1 hb2 => ?_⟩
  have hsz : (v2.setCell ⟨g, o + j * 2 + 1, none⟩ (.bool (P.flag (P.kAt (P.kAtL k (l.take j)) l[j].1)))).heap.size = v2.heap.size := by simp [World.setCell]
  have hz1 : v.heap.size ≤ v2.heap.size := Nat.le_trans hc1.size hb2.size
  have hset : (P.markLL k (l.take j) ++ l.drop j).set j (P.markE (P.kAtL k (l.take j)) l[j].1, P.flag (P.kAt (P.kAtL k (l.take j)) l[j].1)) = P.markLL k (l.take (j + 1)) ++ l.drop (j + 1) := by
    rw [set_mid _ _ j _ hA (by rw [List.length_drop]; omega), take_snoc l j hj, P.markLL_snoc, List.drop_drop]
  have hold : ∀ b, b < v.heap.size → ¬ G j b → b ≠ g → (v2.setCell ⟨g, o + j * 2 + 1, none⟩ (.bool (P.flag (P.kAt (P.kAtL k (l.take j)) l[j].1)))).heap[b]? = v.heap[b]? := by
    intro b hb hG hne
    rw [Below.heap_setCell _ _ _ _ hne, hb2.block b (Nat.lt_of_lt_of_le hb hc1.size), hc1.block b hb hG]
  have hrow : v2.heap[g]? = v.heap[g]? := by
    rw [hb2.block g (Nat.lt_of_lt_of_le (hr.lt _ hr.own) hc1.size), hc1.block g (hr.lt _ hr.own) fun h => (hr.sub j hj' _ h).2 rfl]
  have hch : Chg F v (v2.setCell ⟨g, o + j * 2 + 1, none⟩ (.bool (P.flag (P.kAt (P.kAtL k (l.take j)) l[j].1)))) :=
    ((hc1.mono fun b _ hb => (hr.sub j hj' b hb).1).trans (Below.chg hb2 F)).setCell (p := ⟨g, o + j * 2 + 1, none⟩) hr.own _
  refine ⟨hc.trans hch, .inr ⟨g, o, _, _, hg, hset ▸ hr.put layE_ok j hj' F (G j) [x, .bool (P.flag (P.kAt (P.kAtL k (l.take j)) l[j].1))] _ (fun _ h => h) (fun b hb => ?_) ?_ ?_ rfl ?_ (hr.sub j hj') ?_ ?_ ?_⟩⟩
  · rw [hsz]; exact Nat.lt_of_lt_of_le (hr.lt b hb) hz1
  · rw [hsz]; exact hz1
  · have e := ((hr.cel j hj').keep hrow).set_at 1 (by rw [hC]; simp) (.bool (P.flag (P.kAt (P.kAtL k (l.take j)) l[j].1)))
    rw [hC] at e
    exact e
  · refine ⟨x, rfl, (hI1.stand entE_ok (X := fun b => b = g) ((Below.chg hb2 (fun b => b = g)).setCell (p := ⟨g, o + j * 2 + 1, none⟩) rfl _) ?_)⟩
    rintro b hb rfl
    exact (hr.sub j hj' _ hb).2 rfl
  · intro i hi hij b h1 h2
    rcases Nat.lt_or_gt_of_ne hij with e | e
    · exact hr.apart i j e hj' b h1 h2
    · exact hr.apart j i e hi b h2 h1
  · intro i hi hij
    have hw := hr.wid i hi
    have o1 := cel_out (wd := 2) (o := o) hij 1 (by omega)
    refine ((hr.cel i hi).keep hrow).set_other ?_ _
    rw [hw]; exact o1
  · intro i hi hij b hb
    refine hold b (hr.lt _ (hr.sub i hi b hb).1) (fun h2 => ?_) (hr.sub i hi b hb).2
    rcases Nat.lt_or_gt_of_ne hij with e | e
    · exact hr.apart i j e hj' b hb h2
    · exact hr.apart j i e hi b h2 hb
theorem MarkL.last {w v : World} {F : Blk} {ad : Option Addr} {k : Int} {l : P.Lays} {cap : Nat} (h : MarkL w F ad k l.length l v) (hl : l.length ≤ 2 ^ 30) (hn : (ad = none → cap = 0) ∧ l.length ≤ cap) : Lays v F (.slice ad l.length cap) (P.markLL k l) := by
  obtain ⟨_, h⟩ := h
  refine ⟨ad, cap, by rw [P.markLL_len], by rw [P.markLL_len]; exact hl, ⟨hn.1, by rw [P.markLL_len]; exact hn.2⟩, ?_⟩
  rcases h with rfl | ⟨g, o, G, C, hg, hr⟩
  · exact .inl rfl
  · rw [List.take_length, List.drop_length, List.append_nil] at hr
    exact .inr ⟨g, o, G, C, hg, hr⟩
theorem markLayerS (u : Value) (l : P.Lays) (k : Int) (F : Blk) (w : World) (hu : Lays w F u l) (hk0 : 0 ≤ k) (hk : P.kAtL k l ≤ 2 ^ 40) :
    Calls Tryz.prog 56 #[u, .int .i64 k] w fun e w' => e = .returned (.int .i64 (P.kAtL k l)) ∧ Lays w' F u (P.markLL k l) ∧ Chg F w w' := by
  obtain ⟨ad, cap, rfl, hl, hnil, hc0⟩ := hu
  have HNIL := Lib.hid hnil; clear hnil
  have HC := Lib.hid hc0; clear hc0
  go_enter Tryz.func56, Tryz.ntmps56
  go_wp2
  go_loopw [1, 5] (fun kk i wr => ∃ j : Nat, j ≤ l.length ∧ i = .int .i64 j ∧ kk = .int .i64 (P.kAtL k (l.take j)) ∧ MarkL w F ad k j l wr) (fun _ i _ => l.length - (intOf i).toNat)
  case atStart => exact ⟨0, Nat.zero_le _, rfl, by simp [P.kAtL], MarkL.start HC.out⟩
  case round =>
    obtain ⟨j, hj, rfl, rfl, hm⟩ := hrel
    have HM := Lib.hid hm; clear hm
    have hb1 := P.kAtL_take k l j
    have hb0 := P.kAtL_ge k (l.take j)
    by_cases hlt : j < l.length
    · obtain ⟨g, o, x, y, Gj, rfl, hgs, c0, c1, f1, hng, hx, hput⟩ := HM.out.cells hlt
      have HPUT := Lib.hid hput; clear hput
      have HKS := Lib.hid (show P.kAtL k (l.take (j + 1)) = P.kAt (P.kAtL k (l.take j)) l[j].1 + 1 by rw [take_snoc l j hlt, P.kAtL_snoc])
      have hb2 : P.kAt (P.kAtL k (l.take j)) l[j].1 + 1 ≤ 2 ^ 40 := by have := P.kAtL_take k l (j + 1); rw [HKS.out] at this; omega
      have HX := Lib.hid hx
      obtain ⟨xd, xc, rfl, hxl, _⟩ := hx
      generalize P.kAtL k (l.take j) = kk at *
      generalize l[j] = en at *
      obtain ⟨eo, et⟩ := en
      simp only at hb2 hxl HX HPUT HKS
      have i1 : (j : Int) < (l.length : Int) := by omega
      have hkg := P.kAt_ge kk eo
      have k0 : 0 ≤ kk := by omega
      clear hb0 hb1
      go_wp2_with fail
      refine (markEntryS _ eo kk Gj _ HX.out k0 (by omega)).mono ?_
      rintro e v1 ⟨rfl, hI, hc1⟩
      have hcell := hc1.cell (p := ⟨g, o + j * 2 + 1, none⟩) hgs hng
      have hfrz := hc1.frozen (p := ⟨g, o + j * 2 + 1, none⟩) hgs hng
      rw [c1] at hcell
      rw [f1] at hfrz
      have HN := Lib.hid (HPUT.out v1 v1 hI hc1 (Below.refl _ _))
      generalize P.kAt kk eo = k1 at *
      have hk10 : 0 ≤ k1 := by omega
      clear hc1 hI c0 c1 f1
      go_wp2
      go_roundw
      case rel => exact ⟨j + 1, by omega, by go_num, by rw [HKS.out], HN.out⟩
      case measure => simp [intOf]; omega
    · have hjl : j = l.length := by omega
      subst hjl
      clear hb0 hb1
      go_wp2
      go_ret
      exact ⟨ret_int (by rw [List.take_length]), HM.out.last hl HNIL.out, HM.out.1⟩
theorem heldLayerS (u : Value) (l : P.Lays) (k : Int) (w : World) (hu : LayR w u (P.markLL k l)) (hk0 : 0 ≤ k) (hk : P.kAtL k l ≤ 2 ^ 40) :
    Calls Tryz.prog 57 #[u, .int .i64 k] w fun e w' => e = .returned (.int .i64 (P.kAtL k l)) ∧ Below w.heap.size w w' := by
  have HU := Lib.hid hu
  obtain ⟨ad, cap, rfl, hl, _⟩ := hu
  rw [P.markLL_len] at *
  go_enter Tryz.func57, Tryz.ntmps57
  go_wp2
  go_loopw [1, 5] (fun kk i wr => ∃ j : Nat, j ≤ l.length ∧ i = .int .i64 j ∧ kk = .int .i64 (P.kAtL k (l.take j)) ∧ Below w.heap.size w wr) (fun _ i _ => l.length - (intOf i).toNat)
  case atStart => exact ⟨0, Nat.zero_le _, rfl, by simp [P.kAtL], Below.refl _ _⟩
  case round =>
    obtain ⟨j, hj, rfl, rfl, hb⟩ := hrel
    have HB := Lib.hid hb
    have hb1 := P.kAtL_take k l j
    have hb0 := P.kAtL_ge k (l.take j)
    by_cases hlt : j < l.length
    · obtain ⟨g, o, rfl, hgs, x, c0, c1, hx⟩ := (HU.out.below hb).at j (by rw [P.markLL_len]; exact hlt)
      rw [P.markLL_get k l j hlt] at c1 hx
      have HKS := Lib.hid (show P.kAtL k (l.take (j + 1)) = P.kAt (P.kAtL k (l.take j)) l[j].1 + 1 by rw [take_snoc l j hlt, P.kAtL_snoc])
      have hb2 : P.kAt (P.kAtL k (l.take j)) l[j].1 + 1 ≤ 2 ^ 40 := by have := P.kAtL_take k l (j + 1); rw [HKS.out] at this; omega
      have HX := Lib.hid hx
      obtain ⟨xd, xc, rfl, hxl, _⟩ := hx
      rw [P.markE_len] at *
      generalize P.kAtL k (l.take j) = kk at *
      generalize l[j] = en at *
      obtain ⟨eo, et⟩ := en
      simp only at hb2 hxl HX HKS c1
      have i1 : (j : Int) < (l.length : Int) := by omega
      have hkg := P.kAt_ge kk eo
      have k0 : 0 ≤ kk := by omega
      have hbz := hb.size
      clear hb0 hb1 hb
      go_wp2_with fail
      refine (heldEntryS _ eo kk _ HX.out k0 (by omega)).mono ?_
      rintro e v1 ⟨rfl, hb⟩
      have c1' := (hb.cell (p := ⟨g, o + j * 2 + 1, none⟩) hgs).trans c1
      have HB2 := Lib.hid (HB.out.trans (hb.mono hbz))
      generalize P.kAt kk eo = k1 at *
      have hk10 : 0 ≤ k1 := by omega
      have hn1 : ¬ k1 < 0 := by omega
      clear hb c0 c1
      unfold P.flag at c1'
      go_wp2
      go_roundw
      case rel => exact ⟨j + 1, by omega, by go_num, by rw [HKS.out], HB2.out⟩
      case measure => simp [intOf]; omega
    · have hjl : j = l.length := by omega
      subst hjl
      clear hb0 hb1 hb
      go_wp2
      go_ret
      exact ⟨ret_int (by rw [List.take_length]), HB.out⟩
theorem markStack (u : Value) (l : P.Lays) (k : Int) (F : Blk) (w : World) (hu : Lays w F u l) (hk0 : 0 ≤ k) (hk : P.kAtL k l ≤ 2 ^ 40) :
    Calls Tryz.prog 27 #[.agg #[u], .int .i64 k] w fun e w' => e = .returned (.int .i64 (P.kAtL k l)) ∧ Lays w' F u (P.markLL k l) ∧ Chg F w w' := by
  have HU := Lib.hid (hu.below layE_ok ((Below.refl w.heap.size w).alloc (Nat.le_refl _) (.cells #[u] 56)))
  have HC := Lib.hid ((Chg.refl F w).alloc (.cells #[u] 56))
  obtain ⟨ad, cap, rfl, _, _⟩ := hu
  go_enter Tryz.func27, Tryz.ntmps27
  go_wp2_with fail
  refine (markLayerS _ l k F _ HU.out hk0 hk).mono ?_
  rintro e w1 ⟨rfl, hI, hc⟩
  have HI := Lib.hid hI; have HC1 := Lib.hid (HC.out.trans hc)
  clear hI hc
  go_wp2
  go_ret
  exact ⟨rfl, HI.out, HC1.out⟩
theorem heldStack (u : Value) (l : P.Lays) (k : Int) (w : World) (hu : LayR w u (P.markLL k l)) (hk0 : 0 ≤ k) (hk : P.kAtL k l ≤ 2 ^ 40) :
    Calls Tryz.prog 28 #[.agg #[u], .int .i64 k] w fun e w' => e = .returned (.int .i64 (P.kAtL k l)) ∧ Below w.heap.size w w' := by
  have hb0 := (Below.refl w.heap.size w).alloc (Nat.le_refl _) (.cells #[u] 56)
  have HU := Lib.hid (hu.below hb0); have HB0 := Lib.hid hb0; clear hb0
  obtain ⟨ad, cap, rfl, _, _⟩ := hu
  go_enter Tryz.func28, Tryz.ntmps28
  go_wp2_with fail
  refine (heldLayerS _ l k _ HU.out hk0 hk).mono ?_
  rintro e w1 ⟨rfl, hb⟩
  have HB1 := Lib.hid (HB0.out.trans (hb.mono (by simp)))
  have hg := P.kAtL_ge k l
  have hn : ¬ P.kAtL k l < 0 := by omega
  clear hb hg
  go_wp2
  go_ret
  exact ⟨rfl, HB1.out⟩
end Go.Proofs.YtfoajpehmbojbaaGreatDoor
