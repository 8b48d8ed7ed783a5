/- A row of layers with a new head: its memory. -/
import Derived.Deep.DeepCutAuto
import Derived.Deep.RegionLaw
import Derived.Test.YtfoajpehmbojbaaGreatDoorLay9
namespace Go.Proofs.YtfoajpehmbojbaaGreatDoor
open Go Go.RowKit
set_option maxHeartbeats 1000000
set_option maxRecDepth 100000
section
variable {P : Program} (w : World)
/-- append onto a row that holds something, from a slice which may be nil: at a step of a region that draws -/
theorem step_append_any {ops : Array Oper} {o : Oper} {a : Act} {K : Act → World → Prop} {Q : Exit → Act → World → Prop} {E : Prop} (hgd : o.guard = none) (s x : Operand) (t : TypeId)
    (ho : o.op = .call { callee := .builtin .append, args := #[s, x], argTypes := #[t, t] })
    (base : Nat) (e : TypeId) (i : TypeInfo) (z : Value) (size bytes : Nat) (ht : P.underlying t = some (.slice e)) (hi : P.info? e = some i) (hz : i.zero = some z)
    (hsize : i.size = size) (hby : i.bytes = bytes) (hzs : z.cells.size = size) (hsz : 0 < size)
    (v : Value) (n : Nat) (xs : List Value) (hs : a.eval s = v) (hown : w.ownsRow base e size v n xs)
    (u : Value) (m : Nat) (news : List Value) (hx : a.eval x = u) (hsrc : SrcIs w size u m news) (hn : 0 < n)
    (h63 : n + m ≤ maxLen) (hbytes : (n + m) * bytes ≤ 140737488355328) (hbase : base ≤ w.heap.size)
    (h : ∀ g cap w', w'.ownsRow base e size (.slice (some ⟨g, 0, none⟩) (n + m) cap) (n + m) (xs ++ news) → w.grownBy w' v.ownBlock → (v.ownBlock = some g ∨ g = w.heap.size) → g < w'.heap.size → K (a.put o.dst (.slice (some ⟨g, 0, none⟩) (n + m) cap)) w') :
    if Region.wanted o (yielded ops a.tmps) = true then Oper.wp P o a w K Q else E := by
  have hw : Region.wanted o (yielded ops a.tmps) = true := by simp [Region.wanted, hgd]
  rw [if_pos hw]
  have key : ∃ g cap w', (Builtin.append_ #[t, t] o.type #[v, u]).run P w = .ok (.slice (some ⟨g, 0, none⟩) (n + m) cap) w' ∧
      w'.ownsRow base e size (.slice (some ⟨g, 0, none⟩) (n + m) cap) (n + m) (xs ++ news) ∧ w.grownBy w' v.ownBlock ∧ (v.ownBlock = some g ∨ g = w.heap.size) ∧ g < w'.heap.size := by
    obtain ⟨hl, h1, ⟨rfl, rfl⟩ | ⟨ad, c, rfl, hnews⟩⟩ := hsrc
    · have hn0 : news = [] := List.eq_nil_of_length_eq_zero (by simpa using hl)
      subst hn0
      subst hsize
      have hlt := hown.form hn
      obtain ⟨g, cap, rfl, _, hlt⟩ := hlt
      refine ⟨g, cap, w, ?_, by simpa using hown, ⟨rfl, rfl, rfl, Nat.le_refl _, fun _ _ _ => rfl⟩, .inl rfl, hlt⟩
      rcases hown.2 with ⟨hv, _⟩ | ⟨g', cap', cur, hv, hbg, hg, hnc, hcm, hcs, htake⟩
      · cases hv
      · simp only [Value.slice.injEq, Option.some.injEq, Addr.mk.injEq, and_true, true_and] at hv
        obtain ⟨rfl, rfl⟩ := hv
        simp [Builtin.append_, run_underlying ht, sizeOf, typeInfo, hi, Builtin.lenOf, Builtin.firstCells, loadCells, hnc, storeCells]
    · obtain ⟨v', w', hr, h2, h3, _, h5⟩ := run_append_own_at (P := P) w base t o.type e i z size bytes ht hi hz hsize hby hzs hsz v n xs hown ad m c news hl hnews h1 h63 hbytes hbase
      obtain ⟨g, cap, rfl, _, hlt⟩ := h2.form (by omega)
      refine ⟨g, cap, w', hr, h2, h3, ?_, hlt⟩
      rcases h5 with h5 | h5
      · exact .inl (by rw [← h5]; rfl)
      · right
        simpa [Value.ownBlock] using h5
  obtain ⟨g, cap, w', hr, h2, h3, h4, h5⟩ := key
  unfold Oper.wp execOp
  simp only [ho, resolve, invoke, builtin, Sem.run_bind, Sem.run_pure, Result.andThen_ok, List.map_toArray, List.map_cons, List.map_nil, hs, hx, hr]
  exact h g cap w' h2 h3 h4 h5
end
theorem flat_cons {C : Nat → List Value} : ∀ n, flat C (n + 1) = C 0 ++ flat (fun j => C (j + 1)) n
  | 0 => by simp [flat]
  | n + 1 => by rw [flat, flat_cons n, flat, List.append_assoc]
/-- what a row of layers is made of -/
theorem Lays.parts {v : World} {F : Blk} {u : Value} {l : P.Lays} (h : Lays v F u l) : ∃ (C : Nat → List Value) (G : Nat → Blk), SrcIs v 2 u l.length (flat C l.length) ∧ (∀ j (hj : j < l.length), layE v (G j) (C j) (l[j]'hj)) ∧ (∀ j, j < l.length → ∀ b, G j b → F b) ∧ (∀ i j, i < j → j < l.length → ∀ b, G i b → G j b → False) := by
  obtain ⟨ad, cap, rfl, h1, hn, h3⟩ := h
  rcases h3 with rfl | ⟨g, o, G, C, rfl, hr⟩
  · refine ⟨fun _ => [], fun _ _ => False, ⟨rfl, (fun x hx => by cases hx), ?_⟩, fun j hj => absurd hj (Nat.not_lt_zero _), fun j hj => absurd hj (Nat.not_lt_zero _), fun i j _ hj => absurd hj (Nat.not_lt_zero _)⟩
    cases ad with
    | none => exact .inl ⟨by rw [hn.1 rfl]; rfl, rfl⟩
    | some a => exact .inr ⟨a, cap, rfl, fun j x hx => by simp [flat] at hx⟩
  · refine ⟨C, G, ⟨flat_len hr.wid, ?_, .inr ⟨_, cap, rfl, fun j x hx => ?_⟩⟩, hr.el, fun j hj b hb => (hr.sub j hj b hb).1, hr.apart⟩
    · intro x hx
      obtain ⟨j, hj, hm⟩ := flat_in _ hx
      obtain ⟨y, hC, hy⟩ := hr.el j hj
      rw [hC] at hm
      simp only [List.mem_cons, List.not_mem_nil, or_false] at hm
      rcases hm with rfl | rfl
      · obtain ⟨_, _, rfl, _⟩ := hy; rfl
      · rfl
    · have hlt : j < (flat C l.length).length := by
        obtain ⟨h, _⟩ := List.getElem?_eq_some_iff.1 hx; exact h
      rw [flat_len hr.wid] at hlt
      have hq : j / 2 < l.length := by omega
      have hm : j % 2 < (C (j / 2)).length := by rw [hr.wid _ hq]; omega
      have e := flat_get hr.wid (j / 2) (j % 2) hq hm
      rw [show j / 2 * 2 + j % 2 = j by omega, hx] at e
      injection e with e
      rw [addr_add, e, show o + j = o + j / 2 * 2 + j % 2 by omega]
      exact (hr.cel _ hq _ hm).1
/-- the row with the new head -/
theorem lays_push {A q : Nat} {X : Blk} {v : World} {x1 u : Value} {d : P.Dic} {t : Bool} {l : P.Lays} {F1 F2 : Blk} (hd : Ents v F1 x1 d) (h1 : ∀ b, F1 b → A ≤ b ∧ b < v.heap.size ∧ b ≠ q) (hu : Lays v F2 u l) (h2 : ∀ b, F2 b → A ≤ b ∧ b < v.heap.size ∧ b ≠ q)
    (h12 : ∀ b, F1 b → F2 b → False) (hX1 : ∀ b, F1 b → ¬ X b) (hX2 : ∀ b, F2 b → ¬ X b) (hXq : ¬ X q) (hXs : ∀ b, X b → b < v.heap.size) (hl : l.length ≤ 2 ^ 20) :
    ∃ C, SrcIs v 2 u l.length (flat C l.length) ∧ ∀ v3 g cap, v3.ownsRow A 84 2 (.slice (some ⟨g, 0, none⟩) (1 + l.length) cap) (1 + l.length) ([x1, .bool t] ++ flat C l.length) → v.grownBy v3 (some q) → (some q = some g ∨ g = v.heap.size) → g < v3.heap.size →
      Lays v3 (fun b => Bet A v3.heap.size b ∧ ¬ X b) (.slice (some ⟨g, 0, none⟩) (1 + l.length) cap) ((d, t) :: l) := by
  obtain ⟨C, G, hs, hel, hG, hap⟩ := hu.parts
  refine ⟨C, hs, fun v3 g cap hown hgr hat hg3 => ?_⟩
  have hw : ∀ j, j < (l.length + 1) → ((fun j => match j with | 0 => [x1, Value.bool t] | j + 1 => C j) j : List Value).length = 2 := by
    intro j hj
    cases j with
    | zero => rfl
    | succ j => obtain ⟨y, hC, _⟩ := hel j (by omega); show (C j).length = 2; rw [hC]; rfl
  have hfl : [x1, Value.bool t] ++ flat C l.length = flat (fun j => match j with | 0 => [x1, Value.bool t] | j + 1 => C j) (l.length + 1) := by rw [flat_cons]
  rw [hfl] at hown
  have hgA := (World.ownsRow.lt hown g rfl).1
  have hne : ∀ b, b < v.heap.size → b ≠ q → b ≠ g := by
    intro b hb hbq e
    rcases hat with h | h
    · injection h with h; omega
    · omega
  have hXg : ¬ X g := by
    rcases hat with h | h
    · rw [← Option.some.inj h]; exact hXq
    · intro hx; have := hXs g hx; omega
  have hcap : 1 + l.length ≤ cap := by
    rcases hown.2 with ⟨h, _⟩ | ⟨g', cap', cur, hv, _, _, hnc, _⟩
    · cases h
    · injection hv with _ _ hv; omega
  refine ⟨_, cap, by rw [List.length_cons, Nat.add_comm], by simp; omega, ⟨(fun h => by cases h), by simp; omega⟩, .inr ⟨g, 0, (fun j => match j with | 0 => F1 | j + 1 => G j), (fun j => match j with | 0 => [x1, Value.bool t] | j + 1 => C j), rfl, ⟨⟨⟨hgA, hg3⟩, hXg⟩, fun b hb => hb.1.2, fun j hj i hi => ?_, fun j hj => hw j hj, fun j hj => ?_, fun j hj => ?_, fun i j hij hj => ?_⟩⟩⟩
  · have hj' : j < l.length + 1 := by simpa using hj
    have e := flat_get hw j i hj' hi
    have hi2 : i < 2 := by rw [hw j hj'] at hi; exact hi
    have c := World.ownsRow.cellAt hown (j * 2 + i) (by omega)
    rw [e] at c
    rw [Nat.zero_add]
    exact ⟨c, World.ownsRow.frozenAt hown _⟩
  · cases j with
    | zero => exact ⟨x1, rfl, hd.keep entE_ok ⟨hgr.size, fun b hb => hgr.block b (h1 b hb).2.1 (fun e => (h1 b hb).2.2 (Option.some.inj e))⟩⟩
    | succ j =>
      have hj' : j < l.length := by simpa using hj
      exact layE_ok.keep (hel j hj') ⟨hgr.size, fun b hb => hgr.block b (h2 b (hG j hj' b hb)).2.1 (fun e => (h2 b (hG j hj' b hb)).2.2 (Option.some.inj e))⟩
  · have hsz := hgr.size
    cases j with
    | zero => intro b hb; have := h1 b hb; exact ⟨⟨⟨this.1, by omega⟩, hX1 b hb⟩, hne b this.2.1 this.2.2⟩
    | succ j =>
      have hj' : j < l.length := by simpa using hj
      intro b hb
      have := h2 b (hG j hj' b hb)
      exact ⟨⟨⟨this.1, by omega⟩, hX2 b (hG j hj' b hb)⟩, hne b this.2.1 this.2.2⟩
  · cases j with
    | zero => exact absurd hij (Nat.not_lt_zero _)
    | succ j =>
      have hj' : j < l.length := by simpa using hj
      cases i with
      | zero => intro b hb1 hb2; exact h12 b hb1 (hG j hj' b hb2)
      | succ i => exact hap i j (by omega) hj'
end Go.Proofs.YtfoajpehmbojbaaGreatDoor
