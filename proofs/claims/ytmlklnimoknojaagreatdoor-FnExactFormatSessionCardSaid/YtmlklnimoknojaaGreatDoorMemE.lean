/- A region that draws its order, with a condition on the worlds between its operations: it need not hold behind the operations of a list Z, which come last. Appending from a slice that may be nil. Walks: a copy of a row of ints (reference, program). Rows that grow by append, element by element. Walks: the reference's copy of a dictionary. -/
import Derived.Deep.RegionHeld
import Derived.Deep.AppendLies
import Derived.Deep.DeepCutAuto
import Derived.Test.YtmlklnimoknojaaGreatDoorD0
import Derived.Test.YtmlklnimoknojaaGreatDoorMemD
import Derived.Test.YtmlklnimoknojaaGreatDoorTransD
namespace Go.Proofs.YtmlklnimoknojaaGreatDoor
section
open Go
section
variable {P : Program} {ops : Array Oper} {Q : Exit → Act → World → Prop} {md : Region.Mode} {S : World → Prop} {Z : List Nat}
/-- what has come up came behind what it waits for -/
def Shutd (md : Region.Mode) (ops : Array Oper) (b : Array Bool) : Prop := ∀ k p, ops[k]? = some p → b.getD k false = true → ∀ e ∈ p.after, Region.binds md e = true → b.getD e.on false = true
theorem Shutd.start (n : Nat) : Shutd md ops (Array.replicate n false) := by
  intro k p _ h
  rcases Nat.lt_or_ge k n with hk | hk
  · simp [hk] at h
  · simp [hk] at h
theorem Shutd.put {b : Array Bool} {i : Nat} (h : Shutd md ops b) (hi : i ∈ Region.ready md ops b) : Shutd md ops (b.setIfInBounds i true) := by
  intro k p hp hk e he hb
  by_cases hki : i = k
  · subst hki
    obtain ⟨_, o, ho, hall⟩ := mem_ready.1 hi
    rw [ho] at hp; injection hp with hp; subst hp
    exact getD_set_true (hall e he hb)
  · rw [getD_set_ne false hki] at hk
    exact getD_set_true (h k p hp hk e he hb)
/-- the operation z waits, at some remove, for the operation i -/
def waits (md : Region.Mode) (ops : Array Oper) (i : Nat) : Nat → Nat → Bool
  | 0, _ => false
  | n + 1, z => ((ops[z]?).map fun p => p.after.toList.any fun e => Region.binds md e && (e.on == i || waits md ops i n e.on)).getD false
theorem waits_listed {i : Nat} {b : Array Bool} (h : Shutd md ops b) : ∀ (n z : Nat), waits md ops i n z = true → b.getD z false = true → b.getD i false = true
  | 0, _, hw, _ => by cases hw
  | n + 1, z, hw, hz => by
    unfold waits at hw
    cases hp : ops[z]? with
    | none => rw [hp] at hw; cases hw
    | some p =>
      rw [hp] at hw
      simp only [Option.map_some, Option.getD_some, List.any_eq_true, Array.mem_toList_iff, Bool.and_eq_true, Bool.or_eq_true, beq_iff_eq] at hw
      obtain ⟨e, he, hb, h1⟩ := hw
      have hl := h z p hp hz e he hb
      rcases h1 with h1 | h1
      · rw [← h1]; exact hl
      · exact waits_listed h n e.on h1 hl
theorem waits_ready {i : Nat} {b : Array Bool} (h : Shutd md ops b) {n z : Nat} (hw : waits md ops i n z = true) (hz : z ∈ Region.ready md ops b) : b.getD i false = true := by
  cases n with
  | zero => cases hw
  | succ n =>
    obtain ⟨_, p, hp, hall⟩ := mem_ready.1 hz
    unfold waits at hw
    rw [hp] at hw
    simp only [Option.map_some, Option.getD_some, List.any_eq_true, Array.mem_toList_iff, Bool.and_eq_true, Bool.or_eq_true, beq_iff_eq] at hw
    obtain ⟨e, he, hb, h1⟩ := hw
    have hl := hall e he hb
    rcases h1 with h1 | h1
    · rw [← h1]; exact hl
    · exact waits_listed h n e.on h1 hl
/-- whatever comes up next; S holds behind it, but for the operations of Z -/
def Left (P : Program) (md : Region.Mode) (ops : Array Oper) (Q : Exit → Act → World → Prop) (S : World → Prop) (Z : List Nat) : Nat → Array Bool → Act → World → Prop
  | 0, b, a, w => Region.ready md ops b = [] ∧ Q .normal a w
  | n + 1, b, a, w => Shutd md ops b → (Region.ready md ops b = [] → Q .normal a w) ∧ ∀ i, i ∈ Region.ready md ops b → wpOp P ops Q i (fun a' w' => (i ∈ Z ∨ S w') ∧ Left P md ops Q S Z n (b.setIfInBounds i true) a' w') a w
theorem Left.any : ∀ (n : Nat) (b : Array Bool) (a : Act) (w : World), Shutd md ops b → Left P md ops Q S Z n b a w → wpAny P md ops Q n b a w
  | 0, _, _, _, _, h => h
  | n + 1, _, _, _, hs, h => ⟨(h hs).1, fun i hi => wpOp_mono (fun a w k => Left.any n _ a w (hs.put hi) k.2) ((h hs).2 i hi)⟩
theorem Left.first {i : Nat} {o : Oper} {v : Value} (hi : ops[i]? = some o) (hn : Region.noSelect ops = true) (hQ : ∀ c a w, Q (.panic c) (a.put o.dst v) w → Q (.panic c) a w) (hZ : Z.all (waits md ops i ops.size) = true) (n : Nat) :
    ∀ (b : Array Bool) (a : Act) (w : World), (∀ j p, ops[j]? = some p → j ≠ i → b.getD j true = false → (∀ e ∈ p.after, Region.binds md e = true → e.on ≠ i) → o.apart ops p = true) →
      i ∈ Region.ready md ops b → YieldsIf P ops S o v a → S w → Left P md ops Q S Z n (b.setIfInBounds i true) (a.put o.dst v) w → Left P md ops Q S Z (n + 1) b a w := by
  have hsel := Region.noSelect_spec hn
  induction n with
  | zero =>
    intro b a w _ hr hy hS H hs
    refine ⟨fun h => (by rw [h] at hr; cases hr), fun j hj => ?_⟩
    rcases Nat.decEq j i with hne | rfl
    · have h2 := ready_mono hj hne
      rw [H.1] at h2
      cases h2
    · exact hy.wpOp hi hS ⟨.inr hS, H⟩
  | succ n ih =>
    intro b a w hf hr hy hS H hs
    refine ⟨fun h => (by rw [h] at hr; cases hr), fun j hj => ?_⟩
    rcases Nat.decEq j i with hne | rfl
    · obtain ⟨hju, p, hp, hall⟩ := mem_ready.1 hj
      have hil : b.getD i false = false := by
        have h0 := (mem_ready.1 hr).1
        rcases Nat.lt_or_ge i b.size with hl | hl
        · simp only [Array.getD_eq_getD_getElem?, Array.getElem?_eq_getElem hl, Option.getD_some] at h0 ⊢
          exact h0
        · simp only [Array.getD_eq_getD_getElem?, Array.getElem?_eq_none hl, Option.getD_none]
      have hno : ∀ e ∈ p.after, Region.binds md e = true → e.on ≠ i := by
        intro e he hb hei
        have h1 := hall e he hb
        rw [hei, hil] at h1
        cases h1
      have hjZ : j ∉ Z := by
        intro hjZ
        have := waits_ready hs (List.all_eq_true.1 hZ j hjZ) hj
        rw [hil] at this
        cases this
      refine wpOp_mono (fun a' w' k => ⟨k.2.1, ?_⟩) (wpOp_putIf hp (hf j p hp hne hju hno) (fun cs d => hsel i o cs d hi) (fun cs d => hsel j p cs d hp) hQ hy ((H (hs.put hr)).2 j (ready_mono hj hne)))
      have hri : i ∈ Region.ready md ops (b.setIfInBounds j true) := ready_mono hr (Ne.symm hne)
      have hnext := k.2.2
      rw [Array.setIfInBounds_comm _ _ (Ne.symm hne)] at hnext
      refine ih (b.setIfInBounds j true) a' w' ?_ hri k.1 (k.2.1.resolve_left hjZ) hnext
      intro q pq hq hqi hun hno'
      refine hf q pq hq hqi ?_ hno'
      by_cases hjq : j = q
      · subst hjq; exact hju
      · rw [getD_set_ne true hjq] at hun; exact hun
    · exact hy.wpOp hi hS ⟨.inr hS, H⟩
/-- take the operation i -/
theorem Left.take {i : Nat} {o : Oper} {v : Value} {n : Nat} {b : Array Bool} {a : Act} {w : World} (hi : ops[i]? = some o) (hn : Region.noSelect ops = true) (hf : Region.free md ops b i = true)
    (hr : (Region.ready md ops b).contains i = true) (hZ : Z.all (waits md ops i ops.size) = true) (hQ : ∀ c a w, Q (.panic c) (a.put o.dst v) w → Q (.panic c) a w) (hy : YieldsIf P ops S o v a) (hS : S w)
    (h : Left P md ops Q S Z n (b.setIfInBounds i true) (a.put o.dst v) w) : Left P md ops Q S Z (n + 1) b a w :=
  Left.first hi hn hQ hZ n b a w (Region.free_spec hi hf) (by simpa using hr) hy hS h
/-- the operations that may come up next -/
def Nexts (P : Program) (md : Region.Mode) (ops : Array Oper) (Q : Exit → Act → World → Prop) (S : World → Prop) (Z : List Nat) (n : Nat) (b : Array Bool) (a : Act) (w : World) (rs : List Nat) : Prop :=
  ∀ i ∈ rs, wpOp P ops Q i (fun a' w' => (i ∈ Z ∨ S w') ∧ Left P md ops Q S Z n (b.setIfInBounds i true) a' w') a w
theorem Nexts.nil {n : Nat} {b : Array Bool} {a : Act} {w : World} : Nexts P md ops Q S Z n b a w [] := fun _ h => by cases h
theorem Nexts.cons {n : Nat} {b : Array Bool} {a : Act} {w : World} {i : Nat} {o : Oper} {rs : List Nat} (ho : ops[i]? = some o)
    (h : ∀ K : Act → World → Prop, Shut (∀ a w, (i ∈ Z ∨ S w) → (S w → Left P md ops Q S Z n (b.setIfInBounds i true) a w) → (i ∈ Z → Left P md ops Q S Z n (b.setIfInBounds i true) a w) → K a w) → if Region.wanted o (yielded ops a.tmps) = true then Oper.wp P o a w K Q else K (a.put o.dst undef) w)
    (hs : Nexts P md ops Q S Z n b a w rs) : Nexts P md ops Q S Z n b a w (i :: rs) := fun j hj => by
  rcases List.mem_cons.1 hj with rfl | hj
  · exact wpOp_step ho (fun K hK => h K (fun a w h1 h2 h3 => hK a w ⟨h1, h1.elim h3 h2⟩))
  · exact hs j hj
theorem Left.ready {rs : List Nat} {n : Nat} {b : Array Bool} {a : Act} {w : World} (hr : Region.ready md ops b = rs) (hne : rs ≠ []) (h : Nexts P md ops Q S Z n b a w rs) : Left P md ops Q S Z (n + 1) b a w :=
  fun _ => ⟨fun h0 => absurd (hr ▸ h0) hne, hr ▸ h⟩
theorem Left.done {b : Array Bool} {a : Act} {w : World} (hr : Region.ready md ops b = []) (h : Q .normal a w) : ∀ n, Left P md ops Q S Z n b a w
  | 0 => ⟨hr, h⟩
  | _ + 1 => fun _ => ⟨fun _ => h, by rw [hr]; simp⟩
/-- the region begins -/
theorem Left.region (Z : List Nat) {id : Nat} {a : Act} {w : World} (hm : P.follows .mixedOrders = true) (hS : S w.drew) (h : S w.drew → Left P .any ops Q S Z ops.size (Array.replicate ops.size false) a w.drew) : (Code.region id ops true).wp P Q a w :=
  wp_region_any hm (Left.any _ _ _ _ (Shutd.start _) (h hS))
/-- on, where S holds behind the operation -/
theorem on_held {K : Act → World → Prop} {i n : Nat} {b : Array Bool} {a : Act} {w : World} (hK : Shut (∀ a w, (i ∈ Z ∨ S w) → (S w → Left P md ops Q S Z n b a w) → (i ∈ Z → Left P md ops Q S Z n b a w) → K a w)) (hZ : i ∉ Z) (hS : S w) (h : S w → Left P md ops Q S Z n b a w) : K a w :=
  hK.out a w (.inr hS) h fun hi => absurd hi hZ
/-- on, behind an operation of Z -/
theorem on_last {K : Act → World → Prop} {i n : Nat} {b : Array Bool} {a : Act} {w : World} (hK : Shut (∀ a w, (i ∈ Z ∨ S w) → (S w → Left P md ops Q S Z n b a w) → (i ∈ Z → Left P md ops Q S Z n b a w) → K a w)) (hZ : i ∈ Z) (h : Left P md ops Q S Z n b a w) : K a w :=
  hK.out a w (.inl hZ) (fun _ => h) fun _ => h
end
end
section
open Go Go.RowKit
section
variable {P : Program} (w : World)
/-- what is appended: the cells of a slice, which may be nil -/
def SrcIs (w : World) (size : Nat) (u : Value) (m : Nat) (news : List Value) : Prop :=
  news.length = m * size ∧ (∀ x ∈ news, x.oneCell' = true) ∧ ((u = .slice none 0 0 ∧ m = 0) ∨ ∃ ad c, u = .slice (some ad) m c ∧ ∀ j x, news[j]? = some x → w.cell? (ad.add j) = some x)
theorem run_append_src (base : Nat) (t ty e : TypeId) (i : TypeInfo) (z : Value) (size bytes : Nat) (ht : P.underlying t = some (.slice e)) (hi : P.info? e = some i) (hz : i.zero = some z)
    (hsize : i.size = size) (hby : i.bytes = bytes) (hzs : z.cells.size = size) (hsz : 0 < size)
    (v : Value) (n : Nat) (xs : List Value) (hown : w.ownsRow base e size v n xs)
    (u : Value) (m : Nat) (news : List Value) (hsrc : SrcIs w size u m news)
    (h63 : n + m ≤ maxLen) (hbytes : (n + m) * bytes ≤ 140737488355328) (hbase : base ≤ w.heap.size) :
    ∃ v' w', (Builtin.append_ #[t, t] ty #[v, u]).run P w = .ok v' w' ∧ w'.ownsRow base e size v' (n + m) (xs ++ news) ∧ w.grownBy w' v.ownBlock ∧
      (v' = .slice none 0 0 ↔ v = .slice none 0 0 ∧ m = 0) := by
  obtain ⟨hl, h1, ⟨rfl, rfl⟩ | ⟨ad, c, rfl, hnews⟩⟩ := hsrc
  · have hn : news = [] := List.eq_nil_of_length_eq_zero (by simpa using hl)
    subst hn
    subst hsize
    refine ⟨v, w, ?_, by simpa using hown, ⟨rfl, rfl, rfl, Nat.le_refl _, fun _ _ _ => rfl⟩, by simp⟩
    rcases hown.2 with ⟨rfl, rfl⟩ | ⟨g, cap, cur, rfl, hbg, hg, hnc, hcm, hcs, htake⟩
    · simp [Builtin.append_, run_underlying ht, sizeOf, typeInfo, hi, Builtin.lenOf, Builtin.firstCells]
    · simp [Builtin.append_, run_underlying ht, sizeOf, typeInfo, hi, Builtin.lenOf, Builtin.firstCells, loadCells, hnc, storeCells]
  · exact run_append_own (P := P) w base t ty e i z size bytes ht hi hz hsize hby hzs hsz v n xs hown ad m c news hl hnews h1 h63 hbytes hbase
theorem wpList_append_src {w : World} {ops : Array Oper} {rest : List Oper} {o : Oper} {a : Act} {Q : Exit → Act → World → Prop} (hgd : o.guard = none) (s x : Operand) (t : TypeId)
    (ho : o.op = .call { callee := .builtin .append, args := #[s, x], argTypes := #[t, t] })
    (base : Nat) (e : TypeId) (i : TypeInfo) (z : Value) (size bytes : Nat) (ht : P.underlying t = some (.slice e)) (hi : P.info? e = some i) (hz : i.zero = some z)
    (hsize : i.size = size) (hby : i.bytes = bytes) (hzs : z.cells.size = size) (hsz : 0 < size)
    (v : Value) (n : Nat) (xs : List Value) (hs : a.eval s = v) (hown : w.ownsRow base e size v n xs)
    (u : Value) (m : Nat) (news : List Value) (hx : a.eval x = u) (hsrc : SrcIs w size u m news)
    (h63 : n + m ≤ maxLen) (hbytes : (n + m) * bytes ≤ 140737488355328) (hbase : base ≤ w.heap.size)
    (h : ∀ v' w', w'.ownsRow base e size v' (n + m) (xs ++ news) → w.grownBy w' v.ownBlock → (v' = .slice none 0 0 ↔ v = .slice none 0 0 ∧ m = 0) → wpList P ops Q rest (a.put o.dst v') w') : wpList P ops Q (o :: rest) a w :=
  wpList_plain hgd fun _ hK => by
    obtain ⟨v', w', hr, h2, h3, h4⟩ := run_append_src (P := P) w base t o.type e i z size bytes ht hi hz hsize hby hzs hsz v n xs hown u m news hsrc h63 hbytes hbase
    unfold Oper.wp execOp
    simp only [ho, resolve, invoke, builtin, Sem.run_bind, Sem.run_pure, Result.andThen_ok, List.map_toArray, List.map_cons, List.map_nil, hs, hx, hr]
    exact hK _ _ (h v' w' h2 h3 h4)
end
end
section
open Go Go.RowKit
set_option maxHeartbeats 1000000
set_option maxRecDepth 100000
end
section
open Go Go.RowKit
set_option maxHeartbeats 1000000
set_option maxRecDepth 100000
variable {α : Type} {E : ElT α} {wd : Nat}
end
section
open Go Go.RowKit
set_option maxHeartbeats 1000000
set_option maxRecDepth 100000
end
end Go.Proofs.YtmlklnimoknojaaGreatDoor
