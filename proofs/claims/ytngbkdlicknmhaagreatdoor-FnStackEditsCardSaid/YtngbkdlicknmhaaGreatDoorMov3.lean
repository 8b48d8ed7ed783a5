/- Walks: a layer moved in a stack (reference). -/
import Derived.Test.YtngbkdlicknmhaaGreatDoorMov2
namespace Go.Proofs.YtngbkdlicknmhaaGreatDoor
section
variable {P : Program} (w : World)
/-- append onto a slice that lies somewhere, from a slice which may be nil: at a step of a region that draws; where the new slice lies -/
theorem step_append_at {ops : Array Oper} {o : Oper} {a : Act} {K : Act → World → Prop} {Q : Exit → Act → World → Prop} {E : Prop} (hgd : o.guard = none) (s x : Operand) (t : TypeId)
    (ho : o.op = .call { callee := .builtin .append, args := #[s, x], argTypes := #[t, t] })
    (base : Nat) (e : TypeId) (i : TypeInfo) (z : Value) (size bytes : Nat) (ht : P.underlying t = some (.slice e)) (hi : P.info? e = some i) (hz : i.zero = some z)
    (hsize : i.size = size) (hby : i.bytes = bytes) (hzs : z.cells.size = size) (hsz : 0 < size)
    (k n cap : Nat) (xs : List Value) (hs : a.eval s = .slice (some ⟨k, 0, none⟩) n cap) (hown : w.ownsRow base e size (.slice (some ⟨k, 0, none⟩) n cap) n xs)
    (u : Value) (m : Nat) (news : List Value) (hx : a.eval x = u) (hsrc : SrcIs w size u m news)
    (h63 : n + m ≤ maxLen) (hbytes : (n + m) * bytes ≤ 140737488355328) (hbase : base ≤ w.heap.size)
    (h : ∀ g cap' w', w'.ownsRow base e size (.slice (some ⟨g, 0, none⟩) (n + m) cap') (n + m) (xs ++ news) → w.grownBy w' (some k) → (g = k ∨ g = w.heap.size) → g < w'.heap.size → K (a.put o.dst (.slice (some ⟨g, 0, none⟩) (n + m) cap')) w') :
    if Region.wanted o (yielded ops a.tmps) = true then Oper.wp P o a w K Q else E := by
  have hw : Region.wanted o (yielded ops a.tmps) = true := by simp [Region.wanted, hgd]
  rw [if_pos hw]
  have key : ∃ g cap' w', (Builtin.append_ #[t, t] o.type #[.slice (some ⟨k, 0, none⟩) n cap, u]).run P w = .ok (.slice (some ⟨g, 0, none⟩) (n + m) cap') w' ∧
      w'.ownsRow base e size (.slice (some ⟨g, 0, none⟩) (n + m) cap') (n + m) (xs ++ news) ∧ w.grownBy w' (some k) ∧ (g = k ∨ g = w.heap.size) ∧ g < w'.heap.size := by
    obtain ⟨hl, h1, ⟨rfl, rfl⟩ | ⟨ad, c, rfl, hnews⟩⟩ := hsrc
    · have hn0 : news = [] := List.eq_nil_of_length_eq_zero (by simpa using hl)
      subst hn0
      subst hsize
      refine ⟨k, cap, w, ?_, by simpa using hown, ⟨rfl, rfl, rfl, Nat.le_refl _, fun _ _ _ => rfl⟩, .inl rfl, (World.ownsRow.lt hown k rfl).2⟩
      rcases hown.2 with ⟨hv, _⟩ | ⟨g', cap', cur, hv, hbg, hg, hnc, hcm, hcs, htake⟩
      · cases hv
      · simp only [Value.slice.injEq, Option.some.injEq, Addr.mk.injEq, and_true, true_and] at hv
        obtain ⟨rfl, rfl⟩ := hv
        simp [Builtin.append_, run_underlying ht, sizeOf, typeInfo, hi, Builtin.lenOf, Builtin.firstCells, loadCells, hnc, storeCells]
    · obtain ⟨v', w', hr, h2, h3, h4, h5⟩ := run_append_own_at (P := P) w base t o.type e i z size bytes ht hi hz hsize hby hzs hsz _ n xs hown ad m c news hl hnews h1 h63 hbytes hbase
      rcases id h2.2 with ⟨hv, _⟩ | ⟨g, cap', cur, hv, _, _, _⟩
      · have := (h4.1 hv).1
        cases this
      · subst hv
        refine ⟨g, cap', w', hr, h2, h3, ?_, (World.ownsRow.lt h2 g rfl).2⟩
        rcases h5 with h5 | h5
        · left; simpa [Value.ownBlock] using h5
        · right; simpa [Value.ownBlock] using h5
  obtain ⟨g, cap', w', hr, h2, h3, h4, h5⟩ := key
  unfold Oper.wp execOp
  simp only [ho, resolve, invoke, builtin, Sem.run_bind, Sem.run_pure, Result.andThen_ok, List.map_toArray, List.map_cons, List.map_nil, hs, hx, hr]
  exact h g cap' w' h2 h3 h4 h5
end
namespace P
theorem moveOk_eq (f t : Int) (l : Lays) : moveOk f t l = (setOk f l && setOk t l) := by
  unfold moveOk setOk
  cases stack l <;> simp
end P
open Go Go.RowKit
set_option maxHeartbeats 8000000
set_option maxRecDepth 100000
/-- what is read of a row of the call's own -/
theorem src_of_owns {v : World} {B : Nat} {e : TypeId} {g n c : Nat} {xs : List Value} (h : v.ownsRow B e 2 (.slice (some ⟨g, 0, none⟩) n c) n xs) (h1 : ∀ u ∈ xs, u.oneCell' = true) : SrcIs v 2 (.slice (some ⟨g, 0, none⟩) n c) n xs ∧ n ≤ c :=
  ⟨⟨h.1, h1, .inr ⟨_, c, rfl, World.ownsRow.cells h rfl⟩⟩, by
    rcases h.2 with ⟨hv, _⟩ | ⟨g', cap, cur, hv, _, _, hnc, _⟩
    · cases hv
    · injection hv with _ _ e
      rw [e]; exact hnc⟩
/-- the row of items, all of whose blocks are named -/
theorem lays_of_items_at {B : Nat} {v : World} {F : Blk} {g n c : Nat} {its : List OIt} (hn : its.length = n) (hown : v.ownsRow B 85 2 (.slice (some ⟨g, 0, none⟩) n c) n (ocells its)) (ho : OOk v F its) (hF : ∀ b, F b → b < B) (hBv : B ≤ v.heap.size) (hl : its.length ≤ 2 ^ 30) : Lays v (fun b => F b ∨ b = g) (.slice (some ⟨g, 0, none⟩) n c) (olays its) := by
  subst hn
  have hlt := World.ownsRow.lt hown g rfl
  rcases id hown.2 with ⟨hv, _⟩ | ⟨g', cap, cur, hv, hg, hh, hnc, _⟩
  · cases hv
  · injection hv with e1 e2 e3
    subst e3
    injection e1 with e1
    injection e1 with e1
    subst e1
    refine ⟨_, c, by unfold olays; rw [List.length_map], by unfold olays; rw [List.length_map]; exact hl, ⟨(fun h => by cases h), by unfold olays; rw [List.length_map]; exact hnc⟩, .inr ⟨g, 0, fun j => match its[j]? with | some t => t.2 | none => fun _ => False, fun j => match its[j]? with | some t => [t.1.1, .bool t.1.2.2] | none => [], rfl, RowC.mk_at _ _ (.inr rfl) (fun b hb => by rcases hb with hb | rfl; exact Nat.lt_of_lt_of_le (hF b hb) hBv; exact hlt.2) (fun j hj => ?_) (fun i j hij hj b h1 h2 => ?_)⟩⟩
    · have hj' : j < its.length := by simpa using hj
      have e : its[j]? = some (its[j]'hj') := List.getElem?_eq_getElem hj'
      have hm := List.getElem_mem hj'
      simp only [e]
      refine ⟨?_, rfl, ?_, fun b hb => ?_⟩
      · obtain ⟨a, b⟩ := lcells_get (its.map (·.1)) j (by simpa using hj')
        intro i hi
        have hi2 : i < 2 := by simpa using hi
        have c := World.ownsRow.cellAt hown (j * 2 + i) (by omega)
        refine ⟨?_, World.ownsRow.frozenAt hown _⟩
        rw [show 0 + j * 2 + i = 0 + (j * 2 + i) by omega, Nat.zero_add] at *
        rw [c]
        rcases (show i = 0 ∨ i = 1 by omega) with rfl | rfl
        · rw [show j * 2 + 0 = 2 * j by omega]; simpa using a
        · rw [show j * 2 + 1 = 2 * j + 1 by omega]; simpa using b
      · refine ⟨(its[j]'hj').1.1, by simp [olays], ?_⟩
        have := ho.ent _ hm
        simpa [olays] using this
      · have h1 := hF b (ho.sub _ hm b hb)
        exact ⟨.inl (ho.sub _ hm b hb), by have := hlt.1; omega⟩
    · have hj' : j < its.length := by simpa using hj
      have ei : its[i]? = some (its[i]'(by omega)) := List.getElem?_eq_getElem (by omega)
      have ej : its[j]? = some (its[j]'hj') := List.getElem?_eq_getElem hj'
      simp only [ei] at h1
      simp only [ej] at h2
      exact (List.pairwise_iff_getElem.1 ho.apart) i j (by omega) hj' hij b h1 h2
/-- how the last statement of MoveLayer stands: the row so far, the new literal, the new box -/
structure MI (w0 : World) (x y1 : Value) (v : World) (y : Value) (n : Nat) (xs : List Value) (bx vb : Option Nat) : Prop where
  below : Below w0.heap.size w0 v
  row : v.ownsRow w0.heap.size 85 2 y n xs
  box : ∀ b, bx = some b → NBx b v ∧ w0.heap.size ≤ b ∧ y.ownBlock ≠ some b
  lit : ∀ b, vb = some b → Cel v b 0 [x, y1] ∧ w0.heap.size ≤ b ∧ b < v.heap.size ∧ y.ownBlock ≠ some b
theorem MI.start (w0 : World) (x y1 : Value) : MI w0 x y1 w0 (.slice none 0 0) 0 [] none none :=
  ⟨Below.refl _ _, World.ownsRow_nil _ _ _ _, (fun b h => by cases h), (fun b h => by cases h)⟩
theorem MI.mkrow {w0 v : World} {x y1 : Value} {bx vb : Option Nat} (h : MI w0 x y1 v (.slice none 0 0) 0 [] bx vb) : MI w0 x y1 (v.alloc (.cells #[] 85)) (.slice (some ⟨v.heap.size, 0, none⟩) 0 0) 0 [] bx vb := by
  have hb := (Below.refl v.heap.size v).alloc (Nat.le_refl _) (.cells #[] 85)
  refine ⟨h.below.trans (hb.mono h.below.size), World.ownsRow_lit (base := w0.heap.size) (e := 85) (size := 2) v #[] 0 h.below.size (Nat.zero_le _) (by simp), fun b e => ?_, fun b e => ?_⟩
  · obtain ⟨a1, a2, a3⟩ := h.box b e
    exact ⟨a1.below hb, a2, fun e => by have := a1.2.2; simp [Value.ownBlock] at e; omega⟩
  · obtain ⟨a1, a2, a3, _⟩ := h.lit b e
    exact ⟨a1.keep (hb.block b a3), a2, Nat.lt_of_lt_of_le a3 hb.size, fun e => by simp [Value.ownBlock] at e; omega⟩
theorem MI.mklit {w0 v : World} {x y1 y : Value} {n : Nat} {xs : List Value} {bx : Option Nat} (h : MI w0 x y1 v y n xs bx none) : MI w0 x y1 (v.alloc (.cells #[x, y1] 85)) y n xs bx (some v.heap.size) := by
  have hb := (Below.refl v.heap.size v).alloc (Nat.le_refl _) (.cells #[x, y1] 85)
  refine ⟨h.below.trans (hb.mono h.below.size), h.row.alloc _, fun b e => ?_, fun b e => ?_⟩
  · obtain ⟨a1, a2, a3⟩ := h.box b e
    exact ⟨a1.below hb, a2, a3⟩
  · cases e
    exact ⟨made_cells2 _ _ _ _, h.below.size, by simp, fun e => by have := (World.ownsRow.lt h.row _ e).2; omega⟩
theorem MI.mkbox {w0 v : World} {x y1 y : Value} {n : Nat} {xs : List Value} {vb : Option Nat} (h : MI w0 x y1 v y n xs none vb) : MI w0 x y1 (v.alloc (.cells #[.slice none 0 0] 70)) y n xs (some v.heap.size) vb := by
  have hb := (Below.refl v.heap.size v).alloc (Nat.le_refl _) (.cells #[.slice none 0 0] 70)
  refine ⟨h.below.trans (hb.mono h.below.size), h.row.alloc _, fun b e => ?_, fun b e => ?_⟩
  · cases e
    exact ⟨NBx.new _ _, h.below.size, fun e => by have := (World.ownsRow.lt h.row _ e).2; omega⟩
  · obtain ⟨a1, a2, a3, a4⟩ := h.lit b e
    exact ⟨a1.keep (hb.block b a3), a2, Nat.lt_of_lt_of_le a3 hb.size, a4⟩
theorem MI.app {w0 v v' : World} {x y1 : Value} {k n cap m g cap' : Nat} {xs news : List Value} {bx vb : Option Nat} (h : MI w0 x y1 v (.slice (some ⟨k, 0, none⟩) n cap) n xs bx vb)
    (hown : v'.ownsRow w0.heap.size 85 2 (.slice (some ⟨g, 0, none⟩) m cap') m (xs ++ news)) (hgr : v.grownBy v' (some k)) (hat : g = k ∨ g = v.heap.size) :
    MI w0 x y1 v' (.slice (some ⟨g, 0, none⟩) m cap') m (xs ++ news) bx vb := by
  have hk := World.ownsRow.lt h.row k rfl
  have hb := (Below.refl w0.heap.size v).grown hgr h.below.size (fun q hq => by cases hq; exact hk.1)
  refine ⟨h.below.trans hb, hown, fun b e => ?_, fun b e => ?_⟩
  · obtain ⟨⟨a1, a2, a3⟩, a4, a5⟩ := h.box b e
    have hbk : b ≠ k := fun e => a5 (by simp [Value.ownBlock, e])
    have hblk := hgr.block b a3 (by simp; exact fun e => hbk e)
    exact ⟨⟨(World.cell?_of_block (w := v) (a := ⟨b, 0, none⟩) hblk).trans a1, (World.frozen?_of_block (w := v) (a := ⟨b, 0, none⟩) hblk).trans a2, Nat.lt_of_lt_of_le a3 hgr.size⟩, a4, fun e => by simp [Value.ownBlock] at e; omega⟩
  · obtain ⟨a1, a2, a3, a5⟩ := h.lit b e
    have hbk : b ≠ k := fun e => a5 (by simp [Value.ownBlock, e])
    have hblk := hgr.block b a3 (by simp; exact fun e => hbk e)
    exact ⟨a1.keep hblk, a2, Nat.lt_of_lt_of_le a3 hgr.size, fun e => by simp [Value.ownBlock] at e; omega⟩
theorem MI.litSrc {w0 v : World} {x y1 y : Value} {n b : Nat} {xs : List Value} {bx : Option Nat} (h : MI w0 x y1 v y n xs bx (some b)) (hx : x.oneCell' = true) (hy : y1.oneCell' = true) : SrcIs v 2 (.slice (some ⟨b, 0, none⟩) 1 1) 1 [x, y1] :=
  ⟨rfl, (fun u hu => by simp only [List.mem_cons, List.not_mem_nil, or_false] at hu; rcases hu with rfl | rfl <;> assumption), .inr ⟨_, 1, rfl, fun j u hu => by rw [addr_add]; exact (h.lit b rfl).1.get hu⟩⟩
/-- the items, one moved -/
theorem mov_items (n t : Nat) (its : List OIt) (hn : n < its.length) : ((its.take n ++ its.drop (n + 1)).take t ++ ([its[n]] ++ (its.take n ++ its.drop (n + 1)).drop t)).Perm its := by
  have h1 : ((its.take n ++ its.drop (n + 1)).take t ++ ([its[n]] ++ (its.take n ++ its.drop (n + 1)).drop t)).Perm ([its[n]] ++ (its.take n ++ its.drop (n + 1))) := by
    have h := List.perm_append_comm_assoc ((its.take n ++ its.drop (n + 1)).take t) [its[n]] ((its.take n ++ its.drop (n + 1)).drop t)
    rwa [List.take_append_drop] at h
  refine h1.trans ?_
  have h2 := List.perm_append_comm_assoc [its[n]] (its.take n) (its.drop (n + 1))
  refine h2.trans ?_
  rw [List.singleton_append, ← List.drop_eq_getElem_cons hn, List.take_append_drop]
/-- the row at the end -/
theorem mov_fin {n t m g c : Nat} {v0 v : World} {F : Blk} {its : List OIt} {hn : n < its.length} {xd : Option Addr} {xn xc : Nat} {bb : Bool} {N : Nat} {bx vb : Option Nat}
    (h : MI v0 (.slice xd xn xc) (.bool bb) v (.slice (some ⟨g, 0, none⟩) N c) N ([] ++ lcells (((its.take n ++ its.drop (n + 1)).map (·.1)).take t) ++ [.slice xd xn xc, .bool bb] ++ lcells (((its.take n ++ its.drop (n + 1)).map (·.1)).drop t)) bx vb)
    (ho : OOk v0 F its) (hp : ((its.take n ++ its.drop (n + 1)).take t ++ ([its[n]] ++ (its.take n ++ its.drop (n + 1)).drop t)).Perm its)
    (hx : (its[n]'hn).1.1 = .slice xd xn xc) (hb : (its[n]'hn).1.2.2 = bb) (hr : (its.take n ++ its.drop (n + 1)).length = n + m) (ht : t ≤ n + m) (h20 : n + m ≤ 2 ^ 20)
    (hF : ∀ b, F b → b < v0.heap.size) :
    Lays v (fun b => F b ∨ b = g) (.slice (some ⟨g, 0, none⟩) N c) (olays ((its.take n ++ its.drop (n + 1)).take t ++ ([its[n]] ++ (its.take n ++ its.drop (n + 1)).drop t))) := by
  have hlen : ((its.take n ++ its.drop (n + 1)).take t ++ ([its[n]] ++ (its.take n ++ its.drop (n + 1)).drop t)).length = n + m + 1 := by
    rw [List.length_append, List.length_append, List.length_take, List.length_drop, hr]; simp; omega
  have hcells : ocells ((its.take n ++ its.drop (n + 1)).take t ++ ([its[n]] ++ (its.take n ++ its.drop (n + 1)).drop t)) = [] ++ lcells (((its.take n ++ its.drop (n + 1)).map (·.1)).take t) ++ [.slice xd xn xc, .bool bb] ++ lcells (((its.take n ++ its.drop (n + 1)).map (·.1)).drop t) := by
    unfold ocells
    rw [List.map_append, List.map_append, lcells_append, lcells_append, List.map_take, List.map_drop, List.nil_append, List.append_assoc]
    congr 1
    congr 1
    rw [← hx, ← hb]; rfl
  have hN : N = n + m + 1 := by
    have h1 := h.row.1
    rw [← hcells] at h1
    unfold ocells at h1
    rw [lcells_length, List.length_map, hlen] at h1
    omega
  have hown := h.row
  rw [← hcells] at hown
  exact lays_of_items_at (by rw [hlen, hN]) hown ((ho.below h.below).perm hp) hF h.below.size (by rw [hlen]; omega)
theorem mov_lays (n t : Nat) (its : List OIt) (hn : n < its.length) : ((its.take n ++ its.drop (n + 1)).take t ++ ([its[n]] ++ (its.take n ++ its.drop (n + 1)).drop t)).map (·.1.2) = P.movL n t (its.map (·.1.2)) := by
  unfold P.movL P.remL
  rw [List.map_append, List.map_append, List.map_take, List.map_drop, List.map_append, List.map_take, List.map_drop]
  congr 2
  rw [List.drop_eq_getElem_cons (by simpa using hn)]
  simp
theorem mov_store {A g N c b : Nat} {v v0 : World} {F : Blk} {l : P.Lays} (h : Lays v (fun x => F x ∨ x = g) (.slice (some ⟨g, 0, none⟩) N c) l) (hF : ∀ x, F x → A ≤ x ∧ x < v0.heap.size) (hb0 : v0.heap.size ≤ b) (hbk : Value.ownBlock (.slice (some ⟨g, 0, none⟩) N c) ≠ some b) (hg : v0.heap.size ≤ g) (hA : A ≤ v0.heap.size) (hz : b < v.heap.size) (hgz : g < v.heap.size) (y : Value) :
    Lays (v.setCell ⟨b, 0, none⟩ y) (Bet A (v.setCell ⟨b, 0, none⟩ y).heap.size) (.slice (some ⟨g, 0, none⟩) N c) l := by
  have hsz : (v.setCell ⟨b, 0, none⟩ y).heap.size = v.heap.size := by simp [World.setCell]
  refine (h.stand (X := fun x => x = b) layE_ok ((Chg.refl (fun x => x = b) v).setCell (p := ⟨b, 0, none⟩) rfl y) ?_).wide ?_ ?_
  · rintro x (hx | rfl) e
    · have := hF x hx; omega
    · exact hbk (by simp [Value.ownBlock, e])
  · rintro x (hx | rfl)
    · have := hF x hx; exact ⟨this.1, by rw [hsz]; omega⟩
    · exact ⟨by omega, by rw [hsz]; exact hgz⟩
  · exact fun x hx => hx.2
/-- what stands while the last statement runs -/
def KMV (C g p : Nat) (own x y1 : Value) (v : World) : Prop := v.cell? ⟨C, 0, none⟩ = some own ∧ v.cell? ⟨g, p, none⟩ = some x ∧ v.cell? ⟨g, p + 1, none⟩ = some y1
theorem KMV.step {C g p B : Nat} {own x y1 : Value} {v v' : World} (h : KMV C g p own x y1 v) (hb : Below B v v') (hC : C < B) (hg : g < B) : KMV C g p own x y1 v' :=
  ⟨(hb.cell (p := ⟨C, 0, none⟩) hC).trans h.1, (hb.cell (p := ⟨g, p, none⟩) hg).trans h.2.1, (hb.cell (p := ⟨g, p + 1, none⟩) hg).trans h.2.2⟩
theorem spec_moveLayer (dv : Value) (l : P.Lays) (i j : Int) (w : World) (hu : LayR w dv l) (hs : SmallS l) :
    Calls Tryz.prog 52 #[.agg #[dv], .int .i64 i, .int .i64 j] w (MovPost i j l w) := by
  obtain ⟨i0, hi0, hz0, hz1, hz2⟩ := info_parts info_lay
  have hb0 : Below w.heap.size w ((w.alloc (.cells #[dv] 70)).alloc (.cells #[.slice none 0 0] 70)) := ((Below.refl w.heap.size w).alloc (Nat.le_refl _) _).alloc (by simp) _
  have HU := Lib.hid (hu.below hb0)
  have HB0 := Lib.hid hb0; clear hb0
  have HN := Lib.hid (SkBox.new dv w)
  have HSM := Lib.hid hs; clear hs
  obtain ⟨ad, cap, rfl, _, _⟩ := hu
  go_enter Tryz.func52, Tryz.ntmps52
  go_wp2_with fail
  refine (l8At _ l i _ HU.out HSM.out.len HSM.out.each).mono ?_
  rintro e w1 ⟨rfl, hb⟩
  have HU1 := Lib.hid (HU.out.below hb)
  have HN1 := Lib.hid (HN.out.below hb)
  have HB1 := Lib.hid (HB0.out.trans (hb.mono (by simp; omega)))
  clear hb HU HB0 HN
  obtain ⟨a0, _⟩ := HN1.out
  cases hd1 : P.setOk i l
  · have HD := Lib.hid (show P.moveOk i j l = false by rw [P.moveOk_eq, hd1, Bool.false_and]); clear hd1
    obtain ⟨_, b0, f0, _⟩ := HN1.out
    go_wp2
    refine bodyPost_ret (v := .tuple #[.agg #[.slice none 0 0], .bool false]) (by simp [results, Tryz.results52, go_sem, b0]) rfl ⟨_, by rw [HD.out], ?_, ?_⟩
    · rw [HD.out]; exact RowO.nil _ _
    · exact HB1.out.setCell (by simp) _
  have HD1 := Lib.hid hd1; clear hd1
  go_wp2_with fail
  refine (l8At _ l j _ HU1.out HSM.out.len HSM.out.each).mono ?_
  rintro e w9 ⟨rfl, hb⟩
  have HU9 := Lib.hid (HU1.out.below hb)
  have HN9 := Lib.hid (HN1.out.below hb)
  have HB9 := Lib.hid (HB1.out.trans (hb.mono HB1.out.size))
  clear hb HU1 HB1 HN1 a0
  have HU1 := HU9; have HN1 := HN9; have HB1 := HB9; clear HU9 HN9 HB9
  cases hd2 : P.setOk j l
  · have HD := Lib.hid (show P.moveOk i j l = false by rw [P.moveOk_eq, hd2, Bool.and_false]); clear hd2
    obtain ⟨_, b0, f0, _⟩ := HN1.out
    go_wp2
    refine bodyPost_ret (v := .tuple #[.agg #[.slice none 0 0], .bool false]) (by simp [results, Tryz.results52, go_sem, b0]) rfl ⟨_, by rw [HD.out], ?_, ?_⟩
    · rw [HD.out]; exact RowO.nil _ _
    · exact HB1.out.setCell (by simp) _
  · have hd : P.moveOk i j l = true := by rw [P.moveOk_eq, HD1.out, hd2]; rfl
    have HD := Lib.hid hd
    obtain ⟨hst, n, m, t, rfl, rfl, hm, htm⟩ := ranges_of hd
    have HM := Lib.hid hm
    have hl20 := HSM.out.len
    clear hd hm hd2 hst
    obtain ⟨a0, _⟩ := HN1.out
    go_wp2_with fail
    refine (l8Own _ l _ HU1.out HSM.out.len HSM.out.each).mono ?_
    rintro e w2 ⟨u, rfl, hI, hb⟩
    have hW1 : w.heap.size + 1 < w9.heap.size := HN1.out.2.2.2
    have hzz2 : w9.heap.size ≤ w2.heap.size := hb.size
    have HN2 := Lib.hid (HN1.out.below hb)
    have HB2 := Lib.hid (HB1.out.trans (hb.mono HB1.out.size))
    have HI := Lib.hid hI
    obtain ⟨its, hits, hoo, hsrc⟩ := hI.items
    obtain ⟨ud, uc, rfl, hul, hucap, hudat⟩ := hI
    obtain ⟨g, o, G, C, rfl, hrowc⟩ := hudat.resolve_left (by intro e; have := HM.out; rw [e, List.length_nil] at this; omega)
    have HIL := Lib.hid (show its.length = l.length by rw [← hits]; simp [olays])
    rw [HIL.out] at hsrc
    have HITS := Lib.hid hits
    have hba : Below w2.heap.size w2 (w2.alloc (.cells #[.slice (some ⟨g, o, none⟩) l.length uc] 70)).drew := ((Below.refl w2.heap.size w2).alloc (Nat.le_refl _) (.cells #[.slice (some ⟨g, o, none⟩) l.length uc] 70)).drew
    have HOO := Lib.hid (hoo.below hba); have HSR := Lib.hid (hsrc.below hba)
    have hgl2 : g < w2.heap.size := hrowc.lt _ hrowc.own
    have HSR0 := HSR
    clear hrowc
    have HN3 := Lib.hid (HN2.out.below hba); have HB3 := Lib.hid (HB2.out.trans (hba.mono HB2.out.size))
    have HZ0 := Lib.hid (show (w2.alloc (.cells #[.slice (some ⟨g, o, none⟩) l.length uc] 70)).drew.heap.size = w2.heap.size + 1 by show (w2.alloc _).heap.size = _; simp)
    have HS := Lib.hid (show Box1 w2.heap.size (.slice (some ⟨g, o, none⟩) l.length uc) (w2.alloc (.cells #[.slice (some ⟨g, o, none⟩) l.length uc] 70)).drew from (Box1.new _ 70 w2).below (Below.refl _ _).drew)
    have hn20 : (n : Int) ≤ 1048576 := by have := HM.out; omega
    have ht20 : (t : Int) ≤ 1048576 := by have := HM.out; omega
    have hw1 : IntKind.i64.wrap ((n : Int) + 1) = (n : Int) + 1 := IntWalk.i64_in _ (by omega)
    have hm1 := HM.out
    have hc1 : ¬ (l.length : Int) < (n : Int) + 1 := by omega
    have hc2 : ¬ (uc : Int) < (l.length : Int) := by omega
    have hc3 : ¬ (uc : Int) < (n : Int) := by omega
    have hc4 : ¬ l.length < n + 1 := by omega
    have hc5 : ¬ uc < n := by omega
    have hc6 : ¬ (n : Int) + 1 < 0 := by omega
    obtain ⟨AA, hA⟩ : ∃ AA : Addr, (if uc = n + 1 then some (⟨g, o, none⟩ : Addr) else some ⟨g, o + (n + 1) * 2, none⟩) = some AA := by split <;> exact ⟨_, rfl⟩
    have HAA := Lib.hid (show n + 1 < l.length → AA = ⟨g, o + (n + 1) * 2, none⟩ from fun h => by rw [if_neg (by omega)] at hA; injection hA with hA; exact hA.symm)
    have HLO := Lib.hid (SrcIs.lo (i := n) HSR.out (by rw [List.length_map, HIL.out]; omega))
    have HHI := Lib.hid (SrcIs.hi (i := n + 1) (c' := uc - (n + 1)) (a := AA) HSR.out (by rw [List.length_map, HIL.out]) (by omega) (fun h => HAA.out h))
    have HBASE := Lib.hid hW1
    clear hba hoo hsrc HN2 hudat hits hm1 HSR
    go_upto_region 4 with fail
    generalize (w2.alloc (.cells #[.slice (some ⟨g, o, none⟩) l.length uc] 70)) = va at *
    refine wp_region_held_drew (S := Box1 w2.heap.size (.slice (some ⟨g, o, none⟩) l.length uc)) (by kernel_rfl) HS.out (fun hS0 => ?_)
    refine wpAnyH_take (i := 1) (v := .pointer (some ⟨w2.heap.size, 0, none⟩)) rfl (by kernel_rfl) (by kernel_rfl) (by kernel_rfl) (fun _ _ _ h => h) (Or.inl ⟨by rfl, fun z hz => ?_⟩) hS0 ?_
    · obtain ⟨z1, z2⟩ := hz
      go_simp
    try simp only [qA, qB, qC, Act.put, qD, qE, qF]
    refine wpAnyH_take (i := 2) (v := .slice (some ⟨g, o, none⟩) l.length uc) rfl (by kernel_rfl) (by kernel_rfl) (by kernel_rfl) (fun _ _ _ h => h) (Or.inl ⟨by rfl, fun z hz => ?_⟩) hS0 ?_
    · obtain ⟨z1, z2⟩ := hz
      go_simp
    try simp only [qA, qB, qC, Act.put, qD, qE, qF]
    refine wpAnyH_take (i := 3) (v := .int .i64 n) rfl (by kernel_rfl) (by kernel_rfl) (by kernel_rfl) (fun _ _ _ h => h) (Or.inl ⟨by rfl, fun z hz => ?_⟩) hS0 ?_
    · obtain ⟨z1, z2⟩ := hz
      go_simp
    try simp only [qA, qB, qC, Act.put, qD, qE, qF]
    refine wpAnyH_take (i := 4) (v := .slice (some ⟨g, o, none⟩) n uc) rfl (by kernel_rfl) (by kernel_rfl) (by kernel_rfl) (fun _ _ _ h => h) (Or.inl ⟨by rfl, fun z hz => ?_⟩) hS0 ?_
    · obtain ⟨z1, z2⟩ := hz
      go_simp
    try simp only [qA, qB, qC, Act.put, qD, qE, qF]
    refine wpAnyH_take (i := 6) (v := .pointer (some ⟨w2.heap.size, 0, none⟩)) rfl (by kernel_rfl) (by kernel_rfl) (by kernel_rfl) (fun _ _ _ h => h) (Or.inl ⟨by rfl, fun z hz => ?_⟩) hS0 ?_
    · obtain ⟨z1, z2⟩ := hz
      go_simp
    try simp only [qA, qB, qC, Act.put, qD, qE, qF]
    refine wpAnyH_take (i := 7) (v := .slice (some ⟨g, o, none⟩) l.length uc) rfl (by kernel_rfl) (by kernel_rfl) (by kernel_rfl) (fun _ _ _ h => h) (Or.inl ⟨by rfl, fun z hz => ?_⟩) hS0 ?_
    · obtain ⟨z1, z2⟩ := hz
      go_simp
    try simp only [qA, qB, qC, Act.put, qD, qE, qF]
    refine wpAnyH_take (i := 8) (v := .int .i64 n) rfl (by kernel_rfl) (by kernel_rfl) (by kernel_rfl) (fun _ _ _ h => h) (Or.inl ⟨by rfl, fun z hz => ?_⟩) hS0 ?_
    · obtain ⟨z1, z2⟩ := hz
      go_simp
    try simp only [qA, qB, qC, Act.put, qD, qE, qF]
    refine wpAnyH_take (i := 9) (v := .int .i64 ((n : Int) + 1)) rfl (by kernel_rfl) (by kernel_rfl) (by kernel_rfl) (fun _ _ _ h => h) (Or.inl ⟨by rfl, fun z hz => ?_⟩) hS0 ?_
    · obtain ⟨z1, z2⟩ := hz
      go_simp
    try simp only [qA, qB, qC, Act.put, qD, qE, qF]
    refine wpAnyH_take (i := 10) (v := .slice (some AA) (l.length - (n + 1)) (uc - (n + 1))) rfl (by kernel_rfl) (by kernel_rfl) (by kernel_rfl) (fun _ _ _ h => h) (Or.inl ⟨by rfl, fun z hz => ?_⟩) hS0 ?_
    · obtain ⟨z1, z2⟩ := hz
      go_simp
    try simp only [qA, qB, qC, Act.put, qD, qE, qF]
    refine wpAnyH_ready (rs := [0]) (by kernel_rfl) (by simp) ?_
    refine AllReadyH.cons rfl (fun K hK => ?_) AllReadyH.nil
    go_simp
    have hbb : Below va.drew.heap.size va.drew (va.alloc (.cells #[] 85)).drew := (Below.refl va.drew.heap.size va.drew).alloc (Nat.le_refl _) (.cells #[] 85)
    have HBB := Lib.hid hbb
    have HOWN := Lib.hid (show (va.alloc (.cells #[] 85)).drew.ownsRow va.drew.heap.size 85 2 (.slice (some ⟨va.drew.heap.size, 0, none⟩) 0 0) 0 [] from World.ownsRow_lit (base := va.drew.heap.size) (e := 85) (size := 2) va.drew #[] 0 (Nat.le_refl _) (Nat.zero_le _) (by simp))
    have HLOb := Lib.hid (HLO.out.below hbb); have HHIb := Lib.hid (HHI.out.below hbb)
    refine hK.out _ _ (hS0.below hbb) (fun hS1 => ?_)
    clear hK K hbb HLO
    have HHI0 := HHI; clear HHI
    generalize hvb : (va.alloc (.cells #[] 85)).drew = vb at *
    clear hvb
    try simp only [qA, qB, qC, Act.put, qD, qE, qF]
    refine wpAnyH_ready (rs := [5]) (by kernel_rfl) (by simp) ?_
    refine AllReadyH.cons rfl (fun K hK => ?_) AllReadyH.nil
    refine step_append_at _ rfl _ _ 68 rfl va.drew.heap.size 85 i0 (.agg #[.slice none 0 0, .bool false]) 2 32 Tryz.underlying68 hi0 hz0 hz1 hz2 rfl (by decide) va.drew.heap.size 0 0 [] rfl HOWN.out (.slice (some ⟨g, o, none⟩) n uc) n _ rfl HLOb.out (by unfold maxLen; omega) (by omega) HBB.out.size ?_
    intro g2 c2 vc hown hgr _ _
    have hbc : Below va.drew.heap.size vb vc := (Below.refl _ _).grown hgr HBB.out.size (fun k hk => (World.ownsRow.lt HOWN.out k hk).1)
    have HOW2 := Lib.hid hown; have HBC := Lib.hid hbc
    have hbvc : Below va.drew.heap.size va.drew vc := HBB.out.trans hbc
    have HHIc := Lib.hid (HHI0.out.below hbvc)
    refine hK.out _ _ (hS0.below hbvc) (fun hS2 => ?_)
    clear hK K hown hgr hbc hbvc
    try simp only [qA, qB, qC, Act.put, qD, qE, qF]
    refine wpAnyH_ready (rs := [11]) (by kernel_rfl) (by simp) ?_
    refine AllReadyH.cons rfl (fun K hK => ?_) AllReadyH.nil
    refine step_append_at _ rfl _ _ 68 rfl va.drew.heap.size 85 i0 (.agg #[.slice none 0 0, .bool false]) 2 32 Tryz.underlying68 hi0 hz0 hz1 hz2 rfl (by decide) g2 (0 + n) c2 _ rfl HOW2.out (.slice (some AA) (l.length - (n + 1)) (uc - (n + 1))) (l.length - (n + 1)) _ rfl HHIc.out (by unfold maxLen; omega) (by omega) (by have h1 := HBB.out.size; have h2 := HBC.out.size; omega) ?_
    intro g3 c3 vd hown hgr _ _
    have hbd : Below va.drew.heap.size vc vd := (Below.refl _ _).grown hgr (by have h1 := HBB.out.size; have h2 := HBC.out.size; omega) (fun k hk => (World.ownsRow.lt HOW2.out k hk).1)
    have hbvd : Below va.drew.heap.size va.drew vd := (HBB.out.trans HBC.out).trans hbd
    refine hK.out _ _ (hS0.below hbvd) (fun hS3 => ?_)
    clear hK K
    have HBVD := Lib.hid hbvd
    have e1 : (its.take n ++ its.drop (n + 1)).length = 0 + n + (l.length - (n + 1)) := by rw [List.length_append, List.length_take, List.length_drop, HIL.out]; have := HM.out; omega
    have e2 : ocells (its.take n ++ its.drop (n + 1)) = [] ++ lcells ((its.map (·.1)).take n) ++ lcells ((its.map (·.1)).drop (n + 1)) := by unfold ocells; rw [List.map_append, lcells_append, List.map_take, List.map_drop, List.nil_append]
    have e4 : 0 + n + (l.length - (n + 1)) = n + m := by have := HM.out; omega
    rw [← e2, e4] at hown
    have hone : ∀ u ∈ ocells (its.take n ++ its.drop (n + 1)), u.oneCell' = true := lcells_one fun y hy => by
      obtain ⟨q, hq, rfl⟩ := List.mem_map.1 hy
      have hq' : q ∈ its := by rcases List.mem_append.1 hq with h | h; exact List.mem_of_mem_take h; exact List.mem_of_mem_drop h
      obtain ⟨a, k, c, e⟩ := (HOO.out.ent q hq').slice
      exact ⟨a, k, c, e⟩
    obtain ⟨hsr, hc3⟩ := src_of_owns hown hone
    have HSR3 := Lib.hid hsr; have HRL := Lib.hid (e1.trans e4)
    have HN4 := Lib.hid (HN3.out.below (v' := vd) (by exact hbvd)); have HB4 := Lib.hid (HB3.out.trans (hbvd.mono HB3.out.size))
    have HOO4 := Lib.hid (HOO.out.below (v' := vd) (by exact hbvd))
    have HSZD := Lib.hid (show w2.heap.size + 1 ≤ vd.heap.size by have h1 := hbvd.size; have h2 : va.drew.heap.size = w2.heap.size + 1 := HZ0.out; omega)
    rw [e4]
    have HSR9 := Lib.hid (HSR0.out.below (w' := vd) (by exact hbvd))
    have HCB := Lib.hid (HS.out.below (v' := vd) (by exact hbvd))
    have HGL := Lib.hid (World.ownsRow.lt hown g3 rfl).2
    clear hown hgr hbd hbvd e1 e2 e4 hsr hone
    try simp only [qA, qB, qC, Act.put, qD, qE, qF]
    refine wpAnyH_take (i := 12) (v := .slice (some ⟨g3, 0, none⟩) (n + m) c3) rfl (by kernel_rfl) (by kernel_rfl) (by kernel_rfl) (fun _ _ _ h => h) (Or.inl ⟨by rfl, fun z hz => ?_⟩) hS3 ?_
    · obtain ⟨z1, z2⟩ := hz
      go_simp
    try simp only [qA, qB, qC, Act.put, qD, qE, qF]
    refine wpAnyH_done (by kernel_rfl) ?_ _
    clear hS0 hS1 hS2 hS3
    have HC3 := Lib.hid hc3; clear hc3
    -- the last statement
    go_wp2_with fail
    have hnl : n < its.length := by have h1 := HIL.out; have h2 := HM.out; omega
    obtain ⟨xd, xn, xc, hxs⟩ := (HOO4.out.ent _ (List.getElem_mem hnl)).slice
    obtain ⟨q0, q1⟩ := lcells_get (its.map (·.1)) n (by rw [List.length_map]; exact hnl)
    rw [List.getElem_map] at q0 q1
    have hcell : ∀ k u, (lcells (its.map (·.1)))[k]? = some u → vd.cell? ⟨g, o + k, none⟩ = some u := by
      intro k u hu
      rcases HSR9.out.2.2 with ⟨h, _⟩ | ⟨ad, c, h, h4⟩
      · cases h
      · injection h with h5 _ _
        injection h5 with h5
        subst h5
        rw [← addr_add]; exact h4 k u hu
    have k0 := hcell _ _ q0; have k1 := hcell _ _ q1
    rw [hxs, show o + 2 * n = o + n * 2 by omega] at k0
    rw [show o + (2 * n + 1) = o + n * 2 + 1 by omega] at k1
    have HXS := Lib.hid hxs; clear hxs q0 q1 hcell HSR9
    have hd0 : Below vd.heap.size vd vd.drew := (Below.refl _ _).drew
    have HN5 := Lib.hid (HN4.out.below hd0); have HB5 := Lib.hid (HB4.out.trans (hd0.mono HB4.out.size)); have HOO5 := Lib.hid (HOO4.out.below hd0)
    have HSRD := Lib.hid (HSR3.out.below hd0)
    have HZD := Lib.hid (show vd.heap.size = vd.drew.heap.size from rfl)
    have HKS := Lib.hid (show KMV w2.heap.size g (o + n * 2) (.slice (some ⟨g, o, none⟩) l.length uc) (.slice xd xn xc) (.bool (its[n]'hnl).1.2.2) vd.drew from KMV.step (B := vd.heap.size) ⟨HCB.out.1, k0, k1⟩ (Below.refl _ _).drew HCB.out.2 (by have := HSZD.out; omega))
    have hCB : w2.heap.size < vd.drew.heap.size := HCB.out.2
    have hGB : g < vd.drew.heap.size := by have := HSZD.out; show g < vd.heap.size; omega
    have HPRM := Lib.hid (mov_items n t its hnl)
    generalize hb1 : (its[n]'hnl).1.2.2 = bb at *
    have HB1B := Lib.hid hb1; clear hb1 k0 k1 hd0 HN4 HB4 HOO4 HSR3
    have hcc := HC3.out; have hmm := HM.out
    have hr1 : ¬ (c3 : Int) < (t : Int) := by omega
    have hr2 : ¬ c3 < t := by omega
    have hr3 : ¬ ((n : Int) + (m : Int)) < (t : Int) := by omega
    have hr4 : ¬ n + m < t := by omega
    have hr5 : (t : Int) ≤ (n : Int) + (m : Int) := by omega
    have i1 : (n : Int) < (l.length : Int) := by omega
    have i2 : ¬ l.length ≤ n := by omega
    obtain ⟨BB, hBB⟩ : ∃ BB : Addr, (if c3 = t then some (⟨g3, 0, none⟩ : Addr) else some ⟨g3, t * 2, none⟩) = some BB := by split <;> exact ⟨_, rfl⟩
    have HLO := Lib.hid (SrcIs.lo (i := t) HSRD.out (by rw [List.length_map, HRL.out]; exact htm))
    have HHI := Lib.hid (SrcIs.hi (i := t) (c' := c3 - t) (a := BB) HSRD.out (by rw [List.length_map, HRL.out]) htm (fun h => by rw [if_neg (by omega)] at hBB; injection hBB with hBB; rw [← hBB, Nat.zero_add]))
    obtain ⟨r, hrr⟩ : ∃ r, n + m - t = r := ⟨_, rfl⟩
    have HRR := Lib.hid (show t + 1 + r = n + m + 1 by omega)
    have hrb : t + 1 + r ≤ 1048577 := by have h1 := HRR.out; have h2 := HM.out; omega
    have HHIR := Lib.hid (show SrcIs vd.drew 2 (.slice (some BB) r (c3 - t)) r _ by have h := HHI.out; rw [hrr] at h; exact h); clear HHI
    have hX1 : (Value.slice xd xn xc).oneCell' = true := rfl
    have HLN := Lib.hid (show (P.movL n t l).length = t + 1 + r by rw [(P.movL_perm n t l).length_eq, HM.out, HRR.out]; omega)
    have HOL := Lib.hid (show olays ((its.take n ++ its.drop (n + 1)).take t ++ ([its[n]'hnl] ++ (its.take n ++ its.drop (n + 1)).drop t)) = P.movL n t l by have h := HITS.out; unfold olays at h ⊢; rw [← h]; exact mov_lays n t its hnl)
    clear hmm hcc HSRD HCB HSR0
    go_upto_region 5 with fail
    go_cut [10] (fun p wx => ∃ bx gy cy, p = .pointer (some ⟨bx, 0, none⟩) ∧ wx.cell? ⟨bx, 0, none⟩ = some (.slice (some ⟨gy, 0, none⟩) (P.movL n t l).length cy) ∧ Lays wx (Bet w9.heap.size wx.heap.size) (.slice (some ⟨gy, 0, none⟩) (P.movL n t l).length cy) (P.movL n t l) ∧ vd.heap.size ≤ wx.heap.size ∧ Below vd.heap.size vd.drew wx)
    case first =>
      refine wp_region_held_drew (S := KMV w2.heap.size g (o + n * 2) (.slice (some ⟨g, o, none⟩) l.length uc) (.slice xd xn xc) (.bool bb)) (by kernel_rfl) HKS.out (fun hS0 => ?_)
      refine wpAnyH_take (i := 1) (v := .slice (some ⟨g3, 0, none⟩) (n + m) c3) rfl (by kernel_rfl) (by kernel_rfl) (by kernel_rfl) (fun _ _ _ h => h) (Or.inl ⟨by rfl, fun z hz => ?_⟩) hS0 ?_
      · obtain ⟨z1, z2, z3⟩ := hz
        go_simp
      try simp only [qA, qB, qC, Act.put, qD, qE, qF]
      refine wpAnyH_take (i := 2) (v := .int .i64 t) rfl (by kernel_rfl) (by kernel_rfl) (by kernel_rfl) (fun _ _ _ h => h) (Or.inl ⟨by rfl, fun z hz => ?_⟩) hS0 ?_
      · obtain ⟨z1, z2, z3⟩ := hz
        go_simp
      try simp only [qA, qB, qC, Act.put, qD, qE, qF]
      refine wpAnyH_take (i := 3) (v := .slice (some ⟨g3, 0, none⟩) t c3) rfl (by kernel_rfl) (by kernel_rfl) (by kernel_rfl) (fun _ _ _ h => h) (Or.inl ⟨by rfl, fun z hz => ?_⟩) hS0 ?_
      · obtain ⟨z1, z2, z3⟩ := hz
        go_simp
      try simp only [qA, qB, qC, Act.put, qD, qE, qF]
      refine wpAnyH_take (i := 5) (v := .pointer (some ⟨w2.heap.size, 0, none⟩)) rfl (by kernel_rfl) (by kernel_rfl) (by kernel_rfl) (fun _ _ _ h => h) (Or.inl ⟨by rfl, fun z hz => ?_⟩) hS0 ?_
      · obtain ⟨z1, z2, z3⟩ := hz
        go_simp
      try simp only [qA, qB, qC, Act.put, qD, qE, qF]
      refine wpAnyH_take (i := 6) (v := .slice (some ⟨g, o, none⟩) l.length uc) rfl (by kernel_rfl) (by kernel_rfl) (by kernel_rfl) (fun _ _ _ h => h) (Or.inl ⟨by rfl, fun z hz => ?_⟩) hS0 ?_
      · obtain ⟨z1, z2, z3⟩ := hz
        go_simp
      try simp only [qA, qB, qC, Act.put, qD, qE, qF]
      refine wpAnyH_take (i := 7) (v := .int .i64 n) rfl (by kernel_rfl) (by kernel_rfl) (by kernel_rfl) (fun _ _ _ h => h) (Or.inl ⟨by rfl, fun z hz => ?_⟩) hS0 ?_
      · obtain ⟨z1, z2, z3⟩ := hz
        go_simp
      try simp only [qA, qB, qC, Act.put, qD, qE, qF]
      refine wpAnyH_take (i := 8) (v := .pointer (some ⟨g, o + n * 2, none⟩)) rfl (by kernel_rfl) (by kernel_rfl) (by kernel_rfl) (fun _ _ _ h => h) (Or.inl ⟨by rfl, fun z hz => ?_⟩) hS0 ?_
      · obtain ⟨z1, z2, z3⟩ := hz
        go_simp
      try simp only [qA, qB, qC, Act.put, qD, qE, qF]
      refine wpAnyH_take (i := 9) (v := .agg #[.slice xd xn xc, .bool bb]) rfl (by kernel_rfl) (by kernel_rfl) (by kernel_rfl) (fun _ _ _ h => h) (Or.inl ⟨by rfl, fun z hz => ?_⟩) hS0 ?_
      · obtain ⟨z1, z2, z3⟩ := hz
        go_simp
      try simp only [qA, qB, qC, Act.put, qD, qE, qF]
      refine wpAnyH_take (i := 12) (v := .slice (some ⟨g3, 0, none⟩) (n + m) c3) rfl (by kernel_rfl) (by kernel_rfl) (by kernel_rfl) (fun _ _ _ h => h) (Or.inl ⟨by rfl, fun z hz => ?_⟩) hS0 ?_
      · obtain ⟨z1, z2, z3⟩ := hz
        go_simp
      try simp only [qA, qB, qC, Act.put, qD, qE, qF]
      refine wpAnyH_take (i := 13) (v := .int .i64 t) rfl (by kernel_rfl) (by kernel_rfl) (by kernel_rfl) (fun _ _ _ h => h) (Or.inl ⟨by rfl, fun z hz => ?_⟩) hS0 ?_
      · obtain ⟨z1, z2, z3⟩ := hz
        go_simp
      try simp only [qA, qB, qC, Act.put, qD, qE, qF]
      refine wpAnyH_take (i := 14) (v := .slice (some BB) r (c3 - t)) rfl (by kernel_rfl) (by kernel_rfl) (by kernel_rfl) (fun _ _ _ h => h) (Or.inl ⟨by rfl, fun z hz => ?_⟩) hS0 ?_
      · obtain ⟨z1, z2, z3⟩ := hz
        go_simp
      try simp only [qA, qB, qC, Act.put, qD, qE, qF]
      clear hrr
      generalize vd.drew = v0 at *
      have HMI := Lib.hid (MI.start v0 (.slice xd xn xc) (.bool bb))
      refine wpAnyH_ready (rs := [0, 10, 17]) (by kernel_rfl) (by simp) ?_
      refine AllReadyH.cons rfl (fun K hK => ?_) (AllReadyH.cons rfl (fun K hK => ?_) (AllReadyH.cons rfl (fun K hK => ?_) AllReadyH.nil))
      · skip
        have HM1 := Lib.hid (HMI.out.mkrow)
        go_simp
        refine hK.out _ _ (hS0.step HM1.out.below hCB hGB) (fun hS2 => ?_)
        clear hK K
        generalize v0.alloc (.cells #[] 85) = v3 at *
        try simp only [qA, qB, qC, Act.put, qD, qE, qF]
        refine wpAnyH_ready (rs := [4, 10, 17]) (by kernel_rfl) (by simp) ?_
        refine AllReadyH.cons rfl (fun K hK => ?_) (AllReadyH.cons rfl (fun K hK => ?_) (AllReadyH.cons rfl (fun K hK => ?_) AllReadyH.nil))
        · skip
          refine step_append_at _ rfl _ _ 68 rfl v0.heap.size 85 i0 (.agg #[.slice none 0 0, .bool false]) 2 32 Tryz.underlying68 hi0 hz0 hz1 hz2 rfl (by decide) v0.heap.size (0) 0 _ rfl HM1.out.row (.slice (some ⟨g3, 0, none⟩) t c3) t _ rfl (HLO.out.below HM1.out.below) (by unfold maxLen; omega) (by omega) HM1.out.below.size ?_
          intro g6 c7 v8 hown hgr hat _
          rw [Nat.zero_add] at hown ⊢
          have HM4 := Lib.hid (HM1.out.app hown hgr hat)
          refine hK.out _ _ (hS0.step HM4.out.below hCB hGB) (fun hS5 => ?_)
          clear hK K hown hgr hat
          try simp only [qA, qB, qC, Act.put, qD, qE, qF]
          refine wpAnyH_ready (rs := [10, 17]) (by kernel_rfl) (by simp) ?_
          refine AllReadyH.cons rfl (fun K hK => ?_) (AllReadyH.cons rfl (fun K hK => ?_) AllReadyH.nil)
          · skip
            have HM9 := Lib.hid (HM4.out.mklit)
            go_simp
            refine hK.out _ _ (hS0.step HM9.out.below hCB hGB) (fun hS10 => ?_)
            clear hK K
            generalize v8.alloc (.cells #[.slice xd xn xc, .bool bb] 85) = v11 at *
            try simp only [qA, qB, qC, Act.put, qD, qE, qF]
            refine wpAnyH_ready (rs := [11, 17]) (by kernel_rfl) (by simp) ?_
            refine AllReadyH.cons rfl (fun K hK => ?_) (AllReadyH.cons rfl (fun K hK => ?_) AllReadyH.nil)
            · skip
              refine step_append_at _ rfl _ _ 68 rfl v0.heap.size 85 i0 (.agg #[.slice none 0 0, .bool false]) 2 32 Tryz.underlying68 hi0 hz0 hz1 hz2 rfl (by decide) g6 (t) c7 _ rfl HM9.out.row (.slice (some ⟨v8.heap.size, 0, none⟩) 1 1) 1 _ rfl (HM9.out.litSrc hX1 rfl) (by unfold maxLen; omega) (by omega) HM9.out.below.size ?_
              intro g14 c15 v16 hown hgr hat _
              have HM12 := Lib.hid (HM9.out.app hown hgr hat)
              refine hK.out _ _ (hS0.step HM12.out.below hCB hGB) (fun hS13 => ?_)
              clear hK K hown hgr hat
              try simp only [qA, qB, qC, Act.put, qD, qE, qF]
              refine wpAnyH_ready (rs := [15, 17]) (by kernel_rfl) (by simp) ?_
              refine AllReadyH.cons rfl (fun K hK => ?_) (AllReadyH.cons rfl (fun K hK => ?_) AllReadyH.nil)
              · skip
                refine step_append_at _ rfl _ _ 68 rfl v0.heap.size 85 i0 (.agg #[.slice none 0 0, .bool false]) 2 32 Tryz.underlying68 hi0 hz0 hz1 hz2 rfl (by decide) g14 (t + 1) c15 _ rfl HM12.out.row (.slice (some BB) r (c3 - t)) r _ rfl (HHIR.out.below HM12.out.below) (by unfold maxLen; omega) (by omega) HM12.out.below.size ?_
                intro g19 c20 v21 hown hgr hat _
                have HM17 := Lib.hid (HM12.out.app hown hgr hat)
                refine hK.out _ _ (hS0.step HM17.out.below hCB hGB) (fun hS18 => ?_)
                clear hK K hown hgr hat
                try simp only [qA, qB, qC, Act.put, qD, qE, qF]
                refine wpAnyH_take (i := 16) (v := .agg #[.slice (some ⟨g19, 0, none⟩) (t + 1 + r) c20]) rfl (by kernel_rfl) (by kernel_rfl) (by kernel_rfl) (fun _ _ _ h => h) (Or.inl ⟨by rfl, fun z hz => ?_⟩) hS18 ?_
                · obtain ⟨z1, z2, z3⟩ := hz
                  go_simp
                try simp only [qA, qB, qC, Act.put, qD, qE, qF]
                refine wpAnyH_ready (rs := [17]) (by kernel_rfl) (by simp) ?_
                refine AllReadyH.cons rfl (fun K hK => ?_) AllReadyH.nil
                have HM22 := Lib.hid (HM17.out.mkbox)
                go_simp
                refine hK.out _ _ (hS0.step HM22.out.below hCB hGB) (fun hS23 => ?_)
                clear hK K
                generalize v21.alloc (.cells #[.slice none 0 0] 70) = v24 at *
                try simp only [qA, qB, qC, Act.put, qD, qE, qF]
                refine wpAnyH_ready (rs := [18]) (by kernel_rfl) (by simp) ?_
                refine AllReadyH.cons rfl (fun K hK => ?_) AllReadyH.nil
                obtain ⟨⟨cb, fb, zb⟩, hb0, hbk⟩ := HM22.out.box _ rfl
                have HFIN := Lib.hid (mov_fin HM22.out HOO5.out HPRM.out HXS.out HB1B.out HRL.out htm (by have := HM.out; omega) (fun b hb => by have h1 := hb.2; have h2 := HSZD.out; have h3 := HZD.out; omega))
                go_simp
                refine hK.out _ _ (hS0.step ((HM22.out.below).setCell (p := ⟨v21.heap.size, 0, none⟩) hb0 _) hCB hGB) (fun hS26 => ?_)
                clear hK K
                try simp only [qA, qB, qC, Act.put, qD, qE, qF]
                refine wpAnyH_done (by kernel_rfl) ?_ _
                go_wp2_with fail
                go_meet
                refine ⟨v21.heap.size, g19, c20, rfl, by rw [HLN.out]; exact World.cell?_setCell_same _ _ _ cb, ?_, by have h1 := HM22.out.below.size; have h3 := HZD.out; simp [World.setCell]; omega, by rw [HZD.out]; exact (HM22.out.below).setCell (p := ⟨v21.heap.size, 0, none⟩) hb0 _⟩
                rw [HLN.out, ← HOL.out]
                exact mov_store (v0 := v0) HFIN.out (fun b hb => ⟨hb.1, by have h1 := hb.2; have h2 := HSZD.out; have h3 := HZD.out; omega⟩) hb0 hbk (HM22.out.row.lt _ rfl).1 (by have h2 := HSZD.out; have h3 := HZD.out; omega) zb (HM22.out.row.lt _ rfl).2 _
              · skip
                have HM27 := Lib.hid (HM12.out.mkbox)
                go_simp
                refine hK.out _ _ (hS0.step HM27.out.below hCB hGB) (fun hS28 => ?_)
                clear hK K
                generalize v16.alloc (.cells #[.slice none 0 0] 70) = v29 at *
                try simp only [qA, qB, qC, Act.put, qD, qE, qF]
                refine wpAnyH_ready (rs := [15]) (by kernel_rfl) (by simp) ?_
                refine AllReadyH.cons rfl (fun K hK => ?_) AllReadyH.nil
                refine step_append_at _ rfl _ _ 68 rfl v0.heap.size 85 i0 (.agg #[.slice none 0 0, .bool false]) 2 32 Tryz.underlying68 hi0 hz0 hz1 hz2 rfl (by decide) g14 (t + 1) c15 _ rfl HM27.out.row (.slice (some BB) r (c3 - t)) r _ rfl (HHIR.out.below HM27.out.below) (by unfold maxLen; omega) (by omega) HM27.out.below.size ?_
                intro g32 c33 v34 hown hgr hat _
                have HM30 := Lib.hid (HM27.out.app hown hgr hat)
                refine hK.out _ _ (hS0.step HM30.out.below hCB hGB) (fun hS31 => ?_)
                clear hK K hown hgr hat
                try simp only [qA, qB, qC, Act.put, qD, qE, qF]
                refine wpAnyH_take (i := 16) (v := .agg #[.slice (some ⟨g32, 0, none⟩) (t + 1 + r) c33]) rfl (by kernel_rfl) (by kernel_rfl) (by kernel_rfl) (fun _ _ _ h => h) (Or.inl ⟨by rfl, fun z hz => ?_⟩) hS31 ?_
                · obtain ⟨z1, z2, z3⟩ := hz
                  go_simp
                try simp only [qA, qB, qC, Act.put, qD, qE, qF]
                refine wpAnyH_ready (rs := [18]) (by kernel_rfl) (by simp) ?_
                refine AllReadyH.cons rfl (fun K hK => ?_) AllReadyH.nil
                obtain ⟨⟨cb, fb, zb⟩, hb0, hbk⟩ := HM30.out.box _ rfl
                have HFIN := Lib.hid (mov_fin HM30.out HOO5.out HPRM.out HXS.out HB1B.out HRL.out htm (by have := HM.out; omega) (fun b hb => by have h1 := hb.2; have h2 := HSZD.out; have h3 := HZD.out; omega))
                go_simp
                refine hK.out _ _ (hS0.step ((HM30.out.below).setCell (p := ⟨v16.heap.size, 0, none⟩) hb0 _) hCB hGB) (fun hS36 => ?_)
                clear hK K
                try simp only [qA, qB, qC, Act.put, qD, qE, qF]
                refine wpAnyH_done (by kernel_rfl) ?_ _
                go_wp2_with fail
                go_meet
                refine ⟨v16.heap.size, g32, c33, rfl, by rw [HLN.out]; exact World.cell?_setCell_same _ _ _ cb, ?_, by have h1 := HM30.out.below.size; have h3 := HZD.out; simp [World.setCell]; omega, by rw [HZD.out]; exact (HM30.out.below).setCell (p := ⟨v16.heap.size, 0, none⟩) hb0 _⟩
                rw [HLN.out, ← HOL.out]
                exact mov_store (v0 := v0) HFIN.out (fun b hb => ⟨hb.1, by have h1 := hb.2; have h2 := HSZD.out; have h3 := HZD.out; omega⟩) hb0 hbk (HM30.out.row.lt _ rfl).1 (by have h2 := HSZD.out; have h3 := HZD.out; omega) zb (HM30.out.row.lt _ rfl).2 _
            · skip
              have HM37 := Lib.hid (HM9.out.mkbox)
              go_simp
              refine hK.out _ _ (hS0.step HM37.out.below hCB hGB) (fun hS38 => ?_)
              clear hK K
              generalize v11.alloc (.cells #[.slice none 0 0] 70) = v39 at *
              try simp only [qA, qB, qC, Act.put, qD, qE, qF]
              refine wpAnyH_ready (rs := [11]) (by kernel_rfl) (by simp) ?_
              refine AllReadyH.cons rfl (fun K hK => ?_) AllReadyH.nil
              refine step_append_at _ rfl _ _ 68 rfl v0.heap.size 85 i0 (.agg #[.slice none 0 0, .bool false]) 2 32 Tryz.underlying68 hi0 hz0 hz1 hz2 rfl (by decide) g6 (t) c7 _ rfl HM37.out.row (.slice (some ⟨v8.heap.size, 0, none⟩) 1 1) 1 _ rfl (HM37.out.litSrc hX1 rfl) (by unfold maxLen; omega) (by omega) HM37.out.below.size ?_
              intro g42 c43 v44 hown hgr hat _
              have HM40 := Lib.hid (HM37.out.app hown hgr hat)
              refine hK.out _ _ (hS0.step HM40.out.below hCB hGB) (fun hS41 => ?_)
              clear hK K hown hgr hat
              try simp only [qA, qB, qC, Act.put, qD, qE, qF]
              refine wpAnyH_ready (rs := [15]) (by kernel_rfl) (by simp) ?_
              refine AllReadyH.cons rfl (fun K hK => ?_) AllReadyH.nil
              refine step_append_at _ rfl _ _ 68 rfl v0.heap.size 85 i0 (.agg #[.slice none 0 0, .bool false]) 2 32 Tryz.underlying68 hi0 hz0 hz1 hz2 rfl (by decide) g42 (t + 1) c43 _ rfl HM40.out.row (.slice (some BB) r (c3 - t)) r _ rfl (HHIR.out.below HM40.out.below) (by unfold maxLen; omega) (by omega) HM40.out.below.size ?_
              intro g47 c48 v49 hown hgr hat _
              have HM45 := Lib.hid (HM40.out.app hown hgr hat)
              refine hK.out _ _ (hS0.step HM45.out.below hCB hGB) (fun hS46 => ?_)
              clear hK K hown hgr hat
              try simp only [qA, qB, qC, Act.put, qD, qE, qF]
              refine wpAnyH_take (i := 16) (v := .agg #[.slice (some ⟨g47, 0, none⟩) (t + 1 + r) c48]) rfl (by kernel_rfl) (by kernel_rfl) (by kernel_rfl) (fun _ _ _ h => h) (Or.inl ⟨by rfl, fun z hz => ?_⟩) hS46 ?_
              · obtain ⟨z1, z2, z3⟩ := hz
                go_simp
              try simp only [qA, qB, qC, Act.put, qD, qE, qF]
              refine wpAnyH_ready (rs := [18]) (by kernel_rfl) (by simp) ?_
              refine AllReadyH.cons rfl (fun K hK => ?_) AllReadyH.nil
              obtain ⟨⟨cb, fb, zb⟩, hb0, hbk⟩ := HM45.out.box _ rfl
              have HFIN := Lib.hid (mov_fin HM45.out HOO5.out HPRM.out HXS.out HB1B.out HRL.out htm (by have := HM.out; omega) (fun b hb => by have h1 := hb.2; have h2 := HSZD.out; have h3 := HZD.out; omega))
              go_simp
              refine hK.out _ _ (hS0.step ((HM45.out.below).setCell (p := ⟨v11.heap.size, 0, none⟩) hb0 _) hCB hGB) (fun hS51 => ?_)
              clear hK K
              try simp only [qA, qB, qC, Act.put, qD, qE, qF]
              refine wpAnyH_done (by kernel_rfl) ?_ _
              go_wp2_with fail
              go_meet
              refine ⟨v11.heap.size, g47, c48, rfl, by rw [HLN.out]; exact World.cell?_setCell_same _ _ _ cb, ?_, by have h1 := HM45.out.below.size; have h3 := HZD.out; simp [World.setCell]; omega, by rw [HZD.out]; exact (HM45.out.below).setCell (p := ⟨v11.heap.size, 0, none⟩) hb0 _⟩
              rw [HLN.out, ← HOL.out]
              exact mov_store (v0 := v0) HFIN.out (fun b hb => ⟨hb.1, by have h1 := hb.2; have h2 := HSZD.out; have h3 := HZD.out; omega⟩) hb0 hbk (HM45.out.row.lt _ rfl).1 (by have h2 := HSZD.out; have h3 := HZD.out; omega) zb (HM45.out.row.lt _ rfl).2 _
          · skip
            have HM52 := Lib.hid (HM4.out.mkbox)
            go_simp
            refine hK.out _ _ (hS0.step HM52.out.below hCB hGB) (fun hS53 => ?_)
            clear hK K
            generalize v8.alloc (.cells #[.slice none 0 0] 70) = v54 at *
            try simp only [qA, qB, qC, Act.put, qD, qE, qF]
            refine wpAnyH_ready (rs := [10]) (by kernel_rfl) (by simp) ?_
            refine AllReadyH.cons rfl (fun K hK => ?_) AllReadyH.nil
            have HM55 := Lib.hid (HM52.out.mklit)
            go_simp
            refine hK.out _ _ (hS0.step HM55.out.below hCB hGB) (fun hS56 => ?_)
            clear hK K
            generalize v54.alloc (.cells #[.slice xd xn xc, .bool bb] 85) = v57 at *
            try simp only [qA, qB, qC, Act.put, qD, qE, qF]
            refine wpAnyH_ready (rs := [11]) (by kernel_rfl) (by simp) ?_
            refine AllReadyH.cons rfl (fun K hK => ?_) AllReadyH.nil
            refine step_append_at _ rfl _ _ 68 rfl v0.heap.size 85 i0 (.agg #[.slice none 0 0, .bool false]) 2 32 Tryz.underlying68 hi0 hz0 hz1 hz2 rfl (by decide) g6 (t) c7 _ rfl HM55.out.row (.slice (some ⟨v54.heap.size, 0, none⟩) 1 1) 1 _ rfl (HM55.out.litSrc hX1 rfl) (by unfold maxLen; omega) (by omega) HM55.out.below.size ?_
            intro g60 c61 v62 hown hgr hat _
            have HM58 := Lib.hid (HM55.out.app hown hgr hat)
            refine hK.out _ _ (hS0.step HM58.out.below hCB hGB) (fun hS59 => ?_)
            clear hK K hown hgr hat
            try simp only [qA, qB, qC, Act.put, qD, qE, qF]
            refine wpAnyH_ready (rs := [15]) (by kernel_rfl) (by simp) ?_
            refine AllReadyH.cons rfl (fun K hK => ?_) AllReadyH.nil
            refine step_append_at _ rfl _ _ 68 rfl v0.heap.size 85 i0 (.agg #[.slice none 0 0, .bool false]) 2 32 Tryz.underlying68 hi0 hz0 hz1 hz2 rfl (by decide) g60 (t + 1) c61 _ rfl HM58.out.row (.slice (some BB) r (c3 - t)) r _ rfl (HHIR.out.below HM58.out.below) (by unfold maxLen; omega) (by omega) HM58.out.below.size ?_
            intro g65 c66 v67 hown hgr hat _
            have HM63 := Lib.hid (HM58.out.app hown hgr hat)
            refine hK.out _ _ (hS0.step HM63.out.below hCB hGB) (fun hS64 => ?_)
            clear hK K hown hgr hat
            try simp only [qA, qB, qC, Act.put, qD, qE, qF]
            refine wpAnyH_take (i := 16) (v := .agg #[.slice (some ⟨g65, 0, none⟩) (t + 1 + r) c66]) rfl (by kernel_rfl) (by kernel_rfl) (by kernel_rfl) (fun _ _ _ h => h) (Or.inl ⟨by rfl, fun z hz => ?_⟩) hS64 ?_
            · obtain ⟨z1, z2, z3⟩ := hz
              go_simp
            try simp only [qA, qB, qC, Act.put, qD, qE, qF]
            refine wpAnyH_ready (rs := [18]) (by kernel_rfl) (by simp) ?_
            refine AllReadyH.cons rfl (fun K hK => ?_) AllReadyH.nil
            obtain ⟨⟨cb, fb, zb⟩, hb0, hbk⟩ := HM63.out.box _ rfl
            have HFIN := Lib.hid (mov_fin HM63.out HOO5.out HPRM.out HXS.out HB1B.out HRL.out htm (by have := HM.out; omega) (fun b hb => by have h1 := hb.2; have h2 := HSZD.out; have h3 := HZD.out; omega))
            go_simp
            refine hK.out _ _ (hS0.step ((HM63.out.below).setCell (p := ⟨v8.heap.size, 0, none⟩) hb0 _) hCB hGB) (fun hS69 => ?_)
            clear hK K
            try simp only [qA, qB, qC, Act.put, qD, qE, qF]
            refine wpAnyH_done (by kernel_rfl) ?_ _
            go_wp2_with fail
            go_meet
            refine ⟨v8.heap.size, g65, c66, rfl, by rw [HLN.out]; exact World.cell?_setCell_same _ _ _ cb, ?_, by have h1 := HM63.out.below.size; have h3 := HZD.out; simp [World.setCell]; omega, by rw [HZD.out]; exact (HM63.out.below).setCell (p := ⟨v8.heap.size, 0, none⟩) hb0 _⟩
            rw [HLN.out, ← HOL.out]
            exact mov_store (v0 := v0) HFIN.out (fun b hb => ⟨hb.1, by have h1 := hb.2; have h2 := HSZD.out; have h3 := HZD.out; omega⟩) hb0 hbk (HM63.out.row.lt _ rfl).1 (by have h2 := HSZD.out; have h3 := HZD.out; omega) zb (HM63.out.row.lt _ rfl).2 _
        · skip
          have HM70 := Lib.hid (HM1.out.mklit)
          go_simp
          refine hK.out _ _ (hS0.step HM70.out.below hCB hGB) (fun hS71 => ?_)
          clear hK K
          generalize v3.alloc (.cells #[.slice xd xn xc, .bool bb] 85) = v72 at *
          try simp only [qA, qB, qC, Act.put, qD, qE, qF]
          refine wpAnyH_ready (rs := [4, 17]) (by kernel_rfl) (by simp) ?_
          refine AllReadyH.cons rfl (fun K hK => ?_) (AllReadyH.cons rfl (fun K hK => ?_) AllReadyH.nil)
          · skip
            refine step_append_at _ rfl _ _ 68 rfl v0.heap.size 85 i0 (.agg #[.slice none 0 0, .bool false]) 2 32 Tryz.underlying68 hi0 hz0 hz1 hz2 rfl (by decide) v0.heap.size (0) 0 _ rfl HM70.out.row (.slice (some ⟨g3, 0, none⟩) t c3) t _ rfl (HLO.out.below HM70.out.below) (by unfold maxLen; omega) (by omega) HM70.out.below.size ?_
            intro g75 c76 v77 hown hgr hat _
            rw [Nat.zero_add] at hown ⊢
            have HM73 := Lib.hid (HM70.out.app hown hgr hat)
            refine hK.out _ _ (hS0.step HM73.out.below hCB hGB) (fun hS74 => ?_)
            clear hK K hown hgr hat
            try simp only [qA, qB, qC, Act.put, qD, qE, qF]
            refine wpAnyH_ready (rs := [11, 17]) (by kernel_rfl) (by simp) ?_
            refine AllReadyH.cons rfl (fun K hK => ?_) (AllReadyH.cons rfl (fun K hK => ?_) AllReadyH.nil)
            · skip
              refine step_append_at _ rfl _ _ 68 rfl v0.heap.size 85 i0 (.agg #[.slice none 0 0, .bool false]) 2 32 Tryz.underlying68 hi0 hz0 hz1 hz2 rfl (by decide) g75 (t) c76 _ rfl HM73.out.row (.slice (some ⟨v3.heap.size, 0, none⟩) 1 1) 1 _ rfl (HM73.out.litSrc hX1 rfl) (by unfold maxLen; omega) (by omega) HM73.out.below.size ?_
              intro g80 c81 v82 hown hgr hat _
              have HM78 := Lib.hid (HM73.out.app hown hgr hat)
              refine hK.out _ _ (hS0.step HM78.out.below hCB hGB) (fun hS79 => ?_)
              clear hK K hown hgr hat
              try simp only [qA, qB, qC, Act.put, qD, qE, qF]
              refine wpAnyH_ready (rs := [15, 17]) (by kernel_rfl) (by simp) ?_
              refine AllReadyH.cons rfl (fun K hK => ?_) (AllReadyH.cons rfl (fun K hK => ?_) AllReadyH.nil)
              · skip
                refine step_append_at _ rfl _ _ 68 rfl v0.heap.size 85 i0 (.agg #[.slice none 0 0, .bool false]) 2 32 Tryz.underlying68 hi0 hz0 hz1 hz2 rfl (by decide) g80 (t + 1) c81 _ rfl HM78.out.row (.slice (some BB) r (c3 - t)) r _ rfl (HHIR.out.below HM78.out.below) (by unfold maxLen; omega) (by omega) HM78.out.below.size ?_
                intro g85 c86 v87 hown hgr hat _
                have HM83 := Lib.hid (HM78.out.app hown hgr hat)
                refine hK.out _ _ (hS0.step HM83.out.below hCB hGB) (fun hS84 => ?_)
                clear hK K hown hgr hat
                try simp only [qA, qB, qC, Act.put, qD, qE, qF]
                refine wpAnyH_take (i := 16) (v := .agg #[.slice (some ⟨g85, 0, none⟩) (t + 1 + r) c86]) rfl (by kernel_rfl) (by kernel_rfl) (by kernel_rfl) (fun _ _ _ h => h) (Or.inl ⟨by rfl, fun z hz => ?_⟩) hS84 ?_
                · obtain ⟨z1, z2, z3⟩ := hz
                  go_simp
                try simp only [qA, qB, qC, Act.put, qD, qE, qF]
                refine wpAnyH_ready (rs := [17]) (by kernel_rfl) (by simp) ?_
                refine AllReadyH.cons rfl (fun K hK => ?_) AllReadyH.nil
                have HM88 := Lib.hid (HM83.out.mkbox)
                go_simp
                refine hK.out _ _ (hS0.step HM88.out.below hCB hGB) (fun hS89 => ?_)
                clear hK K
                generalize v87.alloc (.cells #[.slice none 0 0] 70) = v90 at *
                try simp only [qA, qB, qC, Act.put, qD, qE, qF]
                refine wpAnyH_ready (rs := [18]) (by kernel_rfl) (by simp) ?_
                refine AllReadyH.cons rfl (fun K hK => ?_) AllReadyH.nil
                obtain ⟨⟨cb, fb, zb⟩, hb0, hbk⟩ := HM88.out.box _ rfl
                have HFIN := Lib.hid (mov_fin HM88.out HOO5.out HPRM.out HXS.out HB1B.out HRL.out htm (by have := HM.out; omega) (fun b hb => by have h1 := hb.2; have h2 := HSZD.out; have h3 := HZD.out; omega))
                go_simp
                refine hK.out _ _ (hS0.step ((HM88.out.below).setCell (p := ⟨v87.heap.size, 0, none⟩) hb0 _) hCB hGB) (fun hS92 => ?_)
                clear hK K
                try simp only [qA, qB, qC, Act.put, qD, qE, qF]
                refine wpAnyH_done (by kernel_rfl) ?_ _
                go_wp2_with fail
                go_meet
                refine ⟨v87.heap.size, g85, c86, rfl, by rw [HLN.out]; exact World.cell?_setCell_same _ _ _ cb, ?_, by have h1 := HM88.out.below.size; have h3 := HZD.out; simp [World.setCell]; omega, by rw [HZD.out]; exact (HM88.out.below).setCell (p := ⟨v87.heap.size, 0, none⟩) hb0 _⟩
                rw [HLN.out, ← HOL.out]
                exact mov_store (v0 := v0) HFIN.out (fun b hb => ⟨hb.1, by have h1 := hb.2; have h2 := HSZD.out; have h3 := HZD.out; omega⟩) hb0 hbk (HM88.out.row.lt _ rfl).1 (by have h2 := HSZD.out; have h3 := HZD.out; omega) zb (HM88.out.row.lt _ rfl).2 _
              · skip
                have HM93 := Lib.hid (HM78.out.mkbox)
                go_simp
                refine hK.out _ _ (hS0.step HM93.out.below hCB hGB) (fun hS94 => ?_)
                clear hK K
                generalize v82.alloc (.cells #[.slice none 0 0] 70) = v95 at *
                try simp only [qA, qB, qC, Act.put, qD, qE, qF]
                refine wpAnyH_ready (rs := [15]) (by kernel_rfl) (by simp) ?_
                refine AllReadyH.cons rfl (fun K hK => ?_) AllReadyH.nil
                refine step_append_at _ rfl _ _ 68 rfl v0.heap.size 85 i0 (.agg #[.slice none 0 0, .bool false]) 2 32 Tryz.underlying68 hi0 hz0 hz1 hz2 rfl (by decide) g80 (t + 1) c81 _ rfl HM93.out.row (.slice (some BB) r (c3 - t)) r _ rfl (HHIR.out.below HM93.out.below) (by unfold maxLen; omega) (by omega) HM93.out.below.size ?_
                intro g98 c99 v100 hown hgr hat _
                have HM96 := Lib.hid (HM93.out.app hown hgr hat)
                refine hK.out _ _ (hS0.step HM96.out.below hCB hGB) (fun hS97 => ?_)
                clear hK K hown hgr hat
                try simp only [qA, qB, qC, Act.put, qD, qE, qF]
                refine wpAnyH_take (i := 16) (v := .agg #[.slice (some ⟨g98, 0, none⟩) (t + 1 + r) c99]) rfl (by kernel_rfl) (by kernel_rfl) (by kernel_rfl) (fun _ _ _ h => h) (Or.inl ⟨by rfl, fun z hz => ?_⟩) hS97 ?_
                · obtain ⟨z1, z2, z3⟩ := hz
                  go_simp
                try simp only [qA, qB, qC, Act.put, qD, qE, qF]
                refine wpAnyH_ready (rs := [18]) (by kernel_rfl) (by simp) ?_
                refine AllReadyH.cons rfl (fun K hK => ?_) AllReadyH.nil
                obtain ⟨⟨cb, fb, zb⟩, hb0, hbk⟩ := HM96.out.box _ rfl
                have HFIN := Lib.hid (mov_fin HM96.out HOO5.out HPRM.out HXS.out HB1B.out HRL.out htm (by have := HM.out; omega) (fun b hb => by have h1 := hb.2; have h2 := HSZD.out; have h3 := HZD.out; omega))
                go_simp
                refine hK.out _ _ (hS0.step ((HM96.out.below).setCell (p := ⟨v82.heap.size, 0, none⟩) hb0 _) hCB hGB) (fun hS102 => ?_)
                clear hK K
                try simp only [qA, qB, qC, Act.put, qD, qE, qF]
                refine wpAnyH_done (by kernel_rfl) ?_ _
                go_wp2_with fail
                go_meet
                refine ⟨v82.heap.size, g98, c99, rfl, by rw [HLN.out]; exact World.cell?_setCell_same _ _ _ cb, ?_, by have h1 := HM96.out.below.size; have h3 := HZD.out; simp [World.setCell]; omega, by rw [HZD.out]; exact (HM96.out.below).setCell (p := ⟨v82.heap.size, 0, none⟩) hb0 _⟩
                rw [HLN.out, ← HOL.out]
                exact mov_store (v0 := v0) HFIN.out (fun b hb => ⟨hb.1, by have h1 := hb.2; have h2 := HSZD.out; have h3 := HZD.out; omega⟩) hb0 hbk (HM96.out.row.lt _ rfl).1 (by have h2 := HSZD.out; have h3 := HZD.out; omega) zb (HM96.out.row.lt _ rfl).2 _
            · skip
              have HM103 := Lib.hid (HM73.out.mkbox)
              go_simp
              refine hK.out _ _ (hS0.step HM103.out.below hCB hGB) (fun hS104 => ?_)
              clear hK K
              generalize v77.alloc (.cells #[.slice none 0 0] 70) = v105 at *
              try simp only [qA, qB, qC, Act.put, qD, qE, qF]
              refine wpAnyH_ready (rs := [11]) (by kernel_rfl) (by simp) ?_
              refine AllReadyH.cons rfl (fun K hK => ?_) AllReadyH.nil
              refine step_append_at _ rfl _ _ 68 rfl v0.heap.size 85 i0 (.agg #[.slice none 0 0, .bool false]) 2 32 Tryz.underlying68 hi0 hz0 hz1 hz2 rfl (by decide) g75 (t) c76 _ rfl HM103.out.row (.slice (some ⟨v3.heap.size, 0, none⟩) 1 1) 1 _ rfl (HM103.out.litSrc hX1 rfl) (by unfold maxLen; omega) (by omega) HM103.out.below.size ?_
              intro g108 c109 v110 hown hgr hat _
              have HM106 := Lib.hid (HM103.out.app hown hgr hat)
              refine hK.out _ _ (hS0.step HM106.out.below hCB hGB) (fun hS107 => ?_)
              clear hK K hown hgr hat
              try simp only [qA, qB, qC, Act.put, qD, qE, qF]
              refine wpAnyH_ready (rs := [15]) (by kernel_rfl) (by simp) ?_
              refine AllReadyH.cons rfl (fun K hK => ?_) AllReadyH.nil
              refine step_append_at _ rfl _ _ 68 rfl v0.heap.size 85 i0 (.agg #[.slice none 0 0, .bool false]) 2 32 Tryz.underlying68 hi0 hz0 hz1 hz2 rfl (by decide) g108 (t + 1) c109 _ rfl HM106.out.row (.slice (some BB) r (c3 - t)) r _ rfl (HHIR.out.below HM106.out.below) (by unfold maxLen; omega) (by omega) HM106.out.below.size ?_
              intro g113 c114 v115 hown hgr hat _
              have HM111 := Lib.hid (HM106.out.app hown hgr hat)
              refine hK.out _ _ (hS0.step HM111.out.below hCB hGB) (fun hS112 => ?_)
              clear hK K hown hgr hat
              try simp only [qA, qB, qC, Act.put, qD, qE, qF]
              refine wpAnyH_take (i := 16) (v := .agg #[.slice (some ⟨g113, 0, none⟩) (t + 1 + r) c114]) rfl (by kernel_rfl) (by kernel_rfl) (by kernel_rfl) (fun _ _ _ h => h) (Or.inl ⟨by rfl, fun z hz => ?_⟩) hS112 ?_
              · obtain ⟨z1, z2, z3⟩ := hz
                go_simp
              try simp only [qA, qB, qC, Act.put, qD, qE, qF]
              refine wpAnyH_ready (rs := [18]) (by kernel_rfl) (by simp) ?_
              refine AllReadyH.cons rfl (fun K hK => ?_) AllReadyH.nil
              obtain ⟨⟨cb, fb, zb⟩, hb0, hbk⟩ := HM111.out.box _ rfl
              have HFIN := Lib.hid (mov_fin HM111.out HOO5.out HPRM.out HXS.out HB1B.out HRL.out htm (by have := HM.out; omega) (fun b hb => by have h1 := hb.2; have h2 := HSZD.out; have h3 := HZD.out; omega))
              go_simp
              refine hK.out _ _ (hS0.step ((HM111.out.below).setCell (p := ⟨v77.heap.size, 0, none⟩) hb0 _) hCB hGB) (fun hS117 => ?_)
              clear hK K
              try simp only [qA, qB, qC, Act.put, qD, qE, qF]
              refine wpAnyH_done (by kernel_rfl) ?_ _
              go_wp2_with fail
              go_meet
              refine ⟨v77.heap.size, g113, c114, rfl, by rw [HLN.out]; exact World.cell?_setCell_same _ _ _ cb, ?_, by have h1 := HM111.out.below.size; have h3 := HZD.out; simp [World.setCell]; omega, by rw [HZD.out]; exact (HM111.out.below).setCell (p := ⟨v77.heap.size, 0, none⟩) hb0 _⟩
              rw [HLN.out, ← HOL.out]
              exact mov_store (v0 := v0) HFIN.out (fun b hb => ⟨hb.1, by have h1 := hb.2; have h2 := HSZD.out; have h3 := HZD.out; omega⟩) hb0 hbk (HM111.out.row.lt _ rfl).1 (by have h2 := HSZD.out; have h3 := HZD.out; omega) zb (HM111.out.row.lt _ rfl).2 _
          · skip
            have HM118 := Lib.hid (HM70.out.mkbox)
            go_simp
            refine hK.out _ _ (hS0.step HM118.out.below hCB hGB) (fun hS119 => ?_)
            clear hK K
            generalize v72.alloc (.cells #[.slice none 0 0] 70) = v120 at *
            try simp only [qA, qB, qC, Act.put, qD, qE, qF]
            refine wpAnyH_ready (rs := [4]) (by kernel_rfl) (by simp) ?_
            refine AllReadyH.cons rfl (fun K hK => ?_) AllReadyH.nil
            refine step_append_at _ rfl _ _ 68 rfl v0.heap.size 85 i0 (.agg #[.slice none 0 0, .bool false]) 2 32 Tryz.underlying68 hi0 hz0 hz1 hz2 rfl (by decide) v0.heap.size (0) 0 _ rfl HM118.out.row (.slice (some ⟨g3, 0, none⟩) t c3) t _ rfl (HLO.out.below HM118.out.below) (by unfold maxLen; omega) (by omega) HM118.out.below.size ?_
            intro g123 c124 v125 hown hgr hat _
            rw [Nat.zero_add] at hown ⊢
            have HM121 := Lib.hid (HM118.out.app hown hgr hat)
            refine hK.out _ _ (hS0.step HM121.out.below hCB hGB) (fun hS122 => ?_)
            clear hK K hown hgr hat
            try simp only [qA, qB, qC, Act.put, qD, qE, qF]
            refine wpAnyH_ready (rs := [11]) (by kernel_rfl) (by simp) ?_
            refine AllReadyH.cons rfl (fun K hK => ?_) AllReadyH.nil
            refine step_append_at _ rfl _ _ 68 rfl v0.heap.size 85 i0 (.agg #[.slice none 0 0, .bool false]) 2 32 Tryz.underlying68 hi0 hz0 hz1 hz2 rfl (by decide) g123 (t) c124 _ rfl HM121.out.row (.slice (some ⟨v3.heap.size, 0, none⟩) 1 1) 1 _ rfl (HM121.out.litSrc hX1 rfl) (by unfold maxLen; omega) (by omega) HM121.out.below.size ?_
            intro g128 c129 v130 hown hgr hat _
            have HM126 := Lib.hid (HM121.out.app hown hgr hat)
            refine hK.out _ _ (hS0.step HM126.out.below hCB hGB) (fun hS127 => ?_)
            clear hK K hown hgr hat
            try simp only [qA, qB, qC, Act.put, qD, qE, qF]
            refine wpAnyH_ready (rs := [15]) (by kernel_rfl) (by simp) ?_
            refine AllReadyH.cons rfl (fun K hK => ?_) AllReadyH.nil
            refine step_append_at _ rfl _ _ 68 rfl v0.heap.size 85 i0 (.agg #[.slice none 0 0, .bool false]) 2 32 Tryz.underlying68 hi0 hz0 hz1 hz2 rfl (by decide) g128 (t + 1) c129 _ rfl HM126.out.row (.slice (some BB) r (c3 - t)) r _ rfl (HHIR.out.below HM126.out.below) (by unfold maxLen; omega) (by omega) HM126.out.below.size ?_
            intro g133 c134 v135 hown hgr hat _
            have HM131 := Lib.hid (HM126.out.app hown hgr hat)
            refine hK.out _ _ (hS0.step HM131.out.below hCB hGB) (fun hS132 => ?_)
            clear hK K hown hgr hat
            try simp only [qA, qB, qC, Act.put, qD, qE, qF]
            refine wpAnyH_take (i := 16) (v := .agg #[.slice (some ⟨g133, 0, none⟩) (t + 1 + r) c134]) rfl (by kernel_rfl) (by kernel_rfl) (by kernel_rfl) (fun _ _ _ h => h) (Or.inl ⟨by rfl, fun z hz => ?_⟩) hS132 ?_
            · obtain ⟨z1, z2, z3⟩ := hz
              go_simp
            try simp only [qA, qB, qC, Act.put, qD, qE, qF]
            refine wpAnyH_ready (rs := [18]) (by kernel_rfl) (by simp) ?_
            refine AllReadyH.cons rfl (fun K hK => ?_) AllReadyH.nil
            obtain ⟨⟨cb, fb, zb⟩, hb0, hbk⟩ := HM131.out.box _ rfl
            have HFIN := Lib.hid (mov_fin HM131.out HOO5.out HPRM.out HXS.out HB1B.out HRL.out htm (by have := HM.out; omega) (fun b hb => by have h1 := hb.2; have h2 := HSZD.out; have h3 := HZD.out; omega))
            go_simp
            refine hK.out _ _ (hS0.step ((HM131.out.below).setCell (p := ⟨v72.heap.size, 0, none⟩) hb0 _) hCB hGB) (fun hS137 => ?_)
            clear hK K
            try simp only [qA, qB, qC, Act.put, qD, qE, qF]
            refine wpAnyH_done (by kernel_rfl) ?_ _
            go_wp2_with fail
            go_meet
            refine ⟨v72.heap.size, g133, c134, rfl, by rw [HLN.out]; exact World.cell?_setCell_same _ _ _ cb, ?_, by have h1 := HM131.out.below.size; have h3 := HZD.out; simp [World.setCell]; omega, by rw [HZD.out]; exact (HM131.out.below).setCell (p := ⟨v72.heap.size, 0, none⟩) hb0 _⟩
            rw [HLN.out, ← HOL.out]
            exact mov_store (v0 := v0) HFIN.out (fun b hb => ⟨hb.1, by have h1 := hb.2; have h2 := HSZD.out; have h3 := HZD.out; omega⟩) hb0 hbk (HM131.out.row.lt _ rfl).1 (by have h2 := HSZD.out; have h3 := HZD.out; omega) zb (HM131.out.row.lt _ rfl).2 _
        · skip
          have HM138 := Lib.hid (HM1.out.mkbox)
          go_simp
          refine hK.out _ _ (hS0.step HM138.out.below hCB hGB) (fun hS139 => ?_)
          clear hK K
          generalize v3.alloc (.cells #[.slice none 0 0] 70) = v140 at *
          try simp only [qA, qB, qC, Act.put, qD, qE, qF]
          refine wpAnyH_ready (rs := [4, 10]) (by kernel_rfl) (by simp) ?_
          refine AllReadyH.cons rfl (fun K hK => ?_) (AllReadyH.cons rfl (fun K hK => ?_) AllReadyH.nil)
          · skip
            refine step_append_at _ rfl _ _ 68 rfl v0.heap.size 85 i0 (.agg #[.slice none 0 0, .bool false]) 2 32 Tryz.underlying68 hi0 hz0 hz1 hz2 rfl (by decide) v0.heap.size (0) 0 _ rfl HM138.out.row (.slice (some ⟨g3, 0, none⟩) t c3) t _ rfl (HLO.out.below HM138.out.below) (by unfold maxLen; omega) (by omega) HM138.out.below.size ?_
            intro g143 c144 v145 hown hgr hat _
            rw [Nat.zero_add] at hown ⊢
            have HM141 := Lib.hid (HM138.out.app hown hgr hat)
            refine hK.out _ _ (hS0.step HM141.out.below hCB hGB) (fun hS142 => ?_)
            clear hK K hown hgr hat
            try simp only [qA, qB, qC, Act.put, qD, qE, qF]
            refine wpAnyH_ready (rs := [10]) (by kernel_rfl) (by simp) ?_
            refine AllReadyH.cons rfl (fun K hK => ?_) AllReadyH.nil
            have HM146 := Lib.hid (HM141.out.mklit)
            go_simp
            refine hK.out _ _ (hS0.step HM146.out.below hCB hGB) (fun hS147 => ?_)
            clear hK K
            generalize v145.alloc (.cells #[.slice xd xn xc, .bool bb] 85) = v148 at *
            try simp only [qA, qB, qC, Act.put, qD, qE, qF]
            refine wpAnyH_ready (rs := [11]) (by kernel_rfl) (by simp) ?_
            refine AllReadyH.cons rfl (fun K hK => ?_) AllReadyH.nil
            refine step_append_at _ rfl _ _ 68 rfl v0.heap.size 85 i0 (.agg #[.slice none 0 0, .bool false]) 2 32 Tryz.underlying68 hi0 hz0 hz1 hz2 rfl (by decide) g143 (t) c144 _ rfl HM146.out.row (.slice (some ⟨v145.heap.size, 0, none⟩) 1 1) 1 _ rfl (HM146.out.litSrc hX1 rfl) (by unfold maxLen; omega) (by omega) HM146.out.below.size ?_
            intro g151 c152 v153 hown hgr hat _
            have HM149 := Lib.hid (HM146.out.app hown hgr hat)
            refine hK.out _ _ (hS0.step HM149.out.below hCB hGB) (fun hS150 => ?_)
            clear hK K hown hgr hat
            try simp only [qA, qB, qC, Act.put, qD, qE, qF]
            refine wpAnyH_ready (rs := [15]) (by kernel_rfl) (by simp) ?_
            refine AllReadyH.cons rfl (fun K hK => ?_) AllReadyH.nil
            refine step_append_at _ rfl _ _ 68 rfl v0.heap.size 85 i0 (.agg #[.slice none 0 0, .bool false]) 2 32 Tryz.underlying68 hi0 hz0 hz1 hz2 rfl (by decide) g151 (t + 1) c152 _ rfl HM149.out.row (.slice (some BB) r (c3 - t)) r _ rfl (HHIR.out.below HM149.out.below) (by unfold maxLen; omega) (by omega) HM149.out.below.size ?_
            intro g156 c157 v158 hown hgr hat _
            have HM154 := Lib.hid (HM149.out.app hown hgr hat)
            refine hK.out _ _ (hS0.step HM154.out.below hCB hGB) (fun hS155 => ?_)
            clear hK K hown hgr hat
            try simp only [qA, qB, qC, Act.put, qD, qE, qF]
            refine wpAnyH_take (i := 16) (v := .agg #[.slice (some ⟨g156, 0, none⟩) (t + 1 + r) c157]) rfl (by kernel_rfl) (by kernel_rfl) (by kernel_rfl) (fun _ _ _ h => h) (Or.inl ⟨by rfl, fun z hz => ?_⟩) hS155 ?_
            · obtain ⟨z1, z2, z3⟩ := hz
              go_simp
            try simp only [qA, qB, qC, Act.put, qD, qE, qF]
            refine wpAnyH_ready (rs := [18]) (by kernel_rfl) (by simp) ?_
            refine AllReadyH.cons rfl (fun K hK => ?_) AllReadyH.nil
            obtain ⟨⟨cb, fb, zb⟩, hb0, hbk⟩ := HM154.out.box _ rfl
            have HFIN := Lib.hid (mov_fin HM154.out HOO5.out HPRM.out HXS.out HB1B.out HRL.out htm (by have := HM.out; omega) (fun b hb => by have h1 := hb.2; have h2 := HSZD.out; have h3 := HZD.out; omega))
            go_simp
            refine hK.out _ _ (hS0.step ((HM154.out.below).setCell (p := ⟨v3.heap.size, 0, none⟩) hb0 _) hCB hGB) (fun hS160 => ?_)
            clear hK K
            try simp only [qA, qB, qC, Act.put, qD, qE, qF]
            refine wpAnyH_done (by kernel_rfl) ?_ _
            go_wp2_with fail
            go_meet
            refine ⟨v3.heap.size, g156, c157, rfl, by rw [HLN.out]; exact World.cell?_setCell_same _ _ _ cb, ?_, by have h1 := HM154.out.below.size; have h3 := HZD.out; simp [World.setCell]; omega, by rw [HZD.out]; exact (HM154.out.below).setCell (p := ⟨v3.heap.size, 0, none⟩) hb0 _⟩
            rw [HLN.out, ← HOL.out]
            exact mov_store (v0 := v0) HFIN.out (fun b hb => ⟨hb.1, by have h1 := hb.2; have h2 := HSZD.out; have h3 := HZD.out; omega⟩) hb0 hbk (HM154.out.row.lt _ rfl).1 (by have h2 := HSZD.out; have h3 := HZD.out; omega) zb (HM154.out.row.lt _ rfl).2 _
          · skip
            have HM161 := Lib.hid (HM138.out.mklit)
            go_simp
            refine hK.out _ _ (hS0.step HM161.out.below hCB hGB) (fun hS162 => ?_)
            clear hK K
            generalize v140.alloc (.cells #[.slice xd xn xc, .bool bb] 85) = v163 at *
            try simp only [qA, qB, qC, Act.put, qD, qE, qF]
            refine wpAnyH_ready (rs := [4]) (by kernel_rfl) (by simp) ?_
            refine AllReadyH.cons rfl (fun K hK => ?_) AllReadyH.nil
            refine step_append_at _ rfl _ _ 68 rfl v0.heap.size 85 i0 (.agg #[.slice none 0 0, .bool false]) 2 32 Tryz.underlying68 hi0 hz0 hz1 hz2 rfl (by decide) v0.heap.size (0) 0 _ rfl HM161.out.row (.slice (some ⟨g3, 0, none⟩) t c3) t _ rfl (HLO.out.below HM161.out.below) (by unfold maxLen; omega) (by omega) HM161.out.below.size ?_
            intro g166 c167 v168 hown hgr hat _
            rw [Nat.zero_add] at hown ⊢
            have HM164 := Lib.hid (HM161.out.app hown hgr hat)
            refine hK.out _ _ (hS0.step HM164.out.below hCB hGB) (fun hS165 => ?_)
            clear hK K hown hgr hat
            try simp only [qA, qB, qC, Act.put, qD, qE, qF]
            refine wpAnyH_ready (rs := [11]) (by kernel_rfl) (by simp) ?_
            refine AllReadyH.cons rfl (fun K hK => ?_) AllReadyH.nil
            refine step_append_at _ rfl _ _ 68 rfl v0.heap.size 85 i0 (.agg #[.slice none 0 0, .bool false]) 2 32 Tryz.underlying68 hi0 hz0 hz1 hz2 rfl (by decide) g166 (t) c167 _ rfl HM164.out.row (.slice (some ⟨v140.heap.size, 0, none⟩) 1 1) 1 _ rfl (HM164.out.litSrc hX1 rfl) (by unfold maxLen; omega) (by omega) HM164.out.below.size ?_
            intro g171 c172 v173 hown hgr hat _
            have HM169 := Lib.hid (HM164.out.app hown hgr hat)
            refine hK.out _ _ (hS0.step HM169.out.below hCB hGB) (fun hS170 => ?_)
            clear hK K hown hgr hat
            try simp only [qA, qB, qC, Act.put, qD, qE, qF]
            refine wpAnyH_ready (rs := [15]) (by kernel_rfl) (by simp) ?_
            refine AllReadyH.cons rfl (fun K hK => ?_) AllReadyH.nil
            refine step_append_at _ rfl _ _ 68 rfl v0.heap.size 85 i0 (.agg #[.slice none 0 0, .bool false]) 2 32 Tryz.underlying68 hi0 hz0 hz1 hz2 rfl (by decide) g171 (t + 1) c172 _ rfl HM169.out.row (.slice (some BB) r (c3 - t)) r _ rfl (HHIR.out.below HM169.out.below) (by unfold maxLen; omega) (by omega) HM169.out.below.size ?_
            intro g176 c177 v178 hown hgr hat _
            have HM174 := Lib.hid (HM169.out.app hown hgr hat)
            refine hK.out _ _ (hS0.step HM174.out.below hCB hGB) (fun hS175 => ?_)
            clear hK K hown hgr hat
            try simp only [qA, qB, qC, Act.put, qD, qE, qF]
            refine wpAnyH_take (i := 16) (v := .agg #[.slice (some ⟨g176, 0, none⟩) (t + 1 + r) c177]) rfl (by kernel_rfl) (by kernel_rfl) (by kernel_rfl) (fun _ _ _ h => h) (Or.inl ⟨by rfl, fun z hz => ?_⟩) hS175 ?_
            · obtain ⟨z1, z2, z3⟩ := hz
              go_simp
            try simp only [qA, qB, qC, Act.put, qD, qE, qF]
            refine wpAnyH_ready (rs := [18]) (by kernel_rfl) (by simp) ?_
            refine AllReadyH.cons rfl (fun K hK => ?_) AllReadyH.nil
            obtain ⟨⟨cb, fb, zb⟩, hb0, hbk⟩ := HM174.out.box _ rfl
            have HFIN := Lib.hid (mov_fin HM174.out HOO5.out HPRM.out HXS.out HB1B.out HRL.out htm (by have := HM.out; omega) (fun b hb => by have h1 := hb.2; have h2 := HSZD.out; have h3 := HZD.out; omega))
            go_simp
            refine hK.out _ _ (hS0.step ((HM174.out.below).setCell (p := ⟨v3.heap.size, 0, none⟩) hb0 _) hCB hGB) (fun hS180 => ?_)
            clear hK K
            try simp only [qA, qB, qC, Act.put, qD, qE, qF]
            refine wpAnyH_done (by kernel_rfl) ?_ _
            go_wp2_with fail
            go_meet
            refine ⟨v3.heap.size, g176, c177, rfl, by rw [HLN.out]; exact World.cell?_setCell_same _ _ _ cb, ?_, by have h1 := HM174.out.below.size; have h3 := HZD.out; simp [World.setCell]; omega, by rw [HZD.out]; exact (HM174.out.below).setCell (p := ⟨v3.heap.size, 0, none⟩) hb0 _⟩
            rw [HLN.out, ← HOL.out]
            exact mov_store (v0 := v0) HFIN.out (fun b hb => ⟨hb.1, by have h1 := hb.2; have h2 := HSZD.out; have h3 := HZD.out; omega⟩) hb0 hbk (HM174.out.row.lt _ rfl).1 (by have h2 := HSZD.out; have h3 := HZD.out; omega) zb (HM174.out.row.lt _ rfl).2 _
      · skip
        have HM181 := Lib.hid (HMI.out.mklit)
        go_simp
        refine hK.out _ _ (hS0.step HM181.out.below hCB hGB) (fun hS182 => ?_)
        clear hK K
        generalize v0.alloc (.cells #[.slice xd xn xc, .bool bb] 85) = v183 at *
        try simp only [qA, qB, qC, Act.put, qD, qE, qF]
        refine wpAnyH_ready (rs := [0, 17]) (by kernel_rfl) (by simp) ?_
        refine AllReadyH.cons rfl (fun K hK => ?_) (AllReadyH.cons rfl (fun K hK => ?_) AllReadyH.nil)
        · skip
          have HM184 := Lib.hid (HM181.out.mkrow)
          go_simp
          refine hK.out _ _ (hS0.step HM184.out.below hCB hGB) (fun hS185 => ?_)
          clear hK K
          generalize v183.alloc (.cells #[] 85) = v186 at *
          try simp only [qA, qB, qC, Act.put, qD, qE, qF]
          refine wpAnyH_ready (rs := [4, 17]) (by kernel_rfl) (by simp) ?_
          refine AllReadyH.cons rfl (fun K hK => ?_) (AllReadyH.cons rfl (fun K hK => ?_) AllReadyH.nil)
          · skip
            refine step_append_at _ rfl _ _ 68 rfl v0.heap.size 85 i0 (.agg #[.slice none 0 0, .bool false]) 2 32 Tryz.underlying68 hi0 hz0 hz1 hz2 rfl (by decide) v183.heap.size (0) 0 _ rfl HM184.out.row (.slice (some ⟨g3, 0, none⟩) t c3) t _ rfl (HLO.out.below HM184.out.below) (by unfold maxLen; omega) (by omega) HM184.out.below.size ?_
            intro g189 c190 v191 hown hgr hat _
            rw [Nat.zero_add] at hown ⊢
            have HM187 := Lib.hid (HM184.out.app hown hgr hat)
            refine hK.out _ _ (hS0.step HM187.out.below hCB hGB) (fun hS188 => ?_)
            clear hK K hown hgr hat
            try simp only [qA, qB, qC, Act.put, qD, qE, qF]
            refine wpAnyH_ready (rs := [11, 17]) (by kernel_rfl) (by simp) ?_
            refine AllReadyH.cons rfl (fun K hK => ?_) (AllReadyH.cons rfl (fun K hK => ?_) AllReadyH.nil)
            · skip
              refine step_append_at _ rfl _ _ 68 rfl v0.heap.size 85 i0 (.agg #[.slice none 0 0, .bool false]) 2 32 Tryz.underlying68 hi0 hz0 hz1 hz2 rfl (by decide) g189 (t) c190 _ rfl HM187.out.row (.slice (some ⟨v0.heap.size, 0, none⟩) 1 1) 1 _ rfl (HM187.out.litSrc hX1 rfl) (by unfold maxLen; omega) (by omega) HM187.out.below.size ?_
              intro g194 c195 v196 hown hgr hat _
              have HM192 := Lib.hid (HM187.out.app hown hgr hat)
              refine hK.out _ _ (hS0.step HM192.out.below hCB hGB) (fun hS193 => ?_)
              clear hK K hown hgr hat
              try simp only [qA, qB, qC, Act.put, qD, qE, qF]
              refine wpAnyH_ready (rs := [15, 17]) (by kernel_rfl) (by simp) ?_
              refine AllReadyH.cons rfl (fun K hK => ?_) (AllReadyH.cons rfl (fun K hK => ?_) AllReadyH.nil)
              · skip
                refine step_append_at _ rfl _ _ 68 rfl v0.heap.size 85 i0 (.agg #[.slice none 0 0, .bool false]) 2 32 Tryz.underlying68 hi0 hz0 hz1 hz2 rfl (by decide) g194 (t + 1) c195 _ rfl HM192.out.row (.slice (some BB) r (c3 - t)) r _ rfl (HHIR.out.below HM192.out.below) (by unfold maxLen; omega) (by omega) HM192.out.below.size ?_
                intro g199 c200 v201 hown hgr hat _
                have HM197 := Lib.hid (HM192.out.app hown hgr hat)
                refine hK.out _ _ (hS0.step HM197.out.below hCB hGB) (fun hS198 => ?_)
                clear hK K hown hgr hat
                try simp only [qA, qB, qC, Act.put, qD, qE, qF]
                refine wpAnyH_take (i := 16) (v := .agg #[.slice (some ⟨g199, 0, none⟩) (t + 1 + r) c200]) rfl (by kernel_rfl) (by kernel_rfl) (by kernel_rfl) (fun _ _ _ h => h) (Or.inl ⟨by rfl, fun z hz => ?_⟩) hS198 ?_
                · obtain ⟨z1, z2, z3⟩ := hz
                  go_simp
                try simp only [qA, qB, qC, Act.put, qD, qE, qF]
                refine wpAnyH_ready (rs := [17]) (by kernel_rfl) (by simp) ?_
                refine AllReadyH.cons rfl (fun K hK => ?_) AllReadyH.nil
                have HM202 := Lib.hid (HM197.out.mkbox)
                go_simp
                refine hK.out _ _ (hS0.step HM202.out.below hCB hGB) (fun hS203 => ?_)
                clear hK K
                generalize v201.alloc (.cells #[.slice none 0 0] 70) = v204 at *
                try simp only [qA, qB, qC, Act.put, qD, qE, qF]
                refine wpAnyH_ready (rs := [18]) (by kernel_rfl) (by simp) ?_
                refine AllReadyH.cons rfl (fun K hK => ?_) AllReadyH.nil
                obtain ⟨⟨cb, fb, zb⟩, hb0, hbk⟩ := HM202.out.box _ rfl
                have HFIN := Lib.hid (mov_fin HM202.out HOO5.out HPRM.out HXS.out HB1B.out HRL.out htm (by have := HM.out; omega) (fun b hb => by have h1 := hb.2; have h2 := HSZD.out; have h3 := HZD.out; omega))
                go_simp
                refine hK.out _ _ (hS0.step ((HM202.out.below).setCell (p := ⟨v201.heap.size, 0, none⟩) hb0 _) hCB hGB) (fun hS206 => ?_)
                clear hK K
                try simp only [qA, qB, qC, Act.put, qD, qE, qF]
                refine wpAnyH_done (by kernel_rfl) ?_ _
                go_wp2_with fail
                go_meet
                refine ⟨v201.heap.size, g199, c200, rfl, by rw [HLN.out]; exact World.cell?_setCell_same _ _ _ cb, ?_, by have h1 := HM202.out.below.size; have h3 := HZD.out; simp [World.setCell]; omega, by rw [HZD.out]; exact (HM202.out.below).setCell (p := ⟨v201.heap.size, 0, none⟩) hb0 _⟩
                rw [HLN.out, ← HOL.out]
                exact mov_store (v0 := v0) HFIN.out (fun b hb => ⟨hb.1, by have h1 := hb.2; have h2 := HSZD.out; have h3 := HZD.out; omega⟩) hb0 hbk (HM202.out.row.lt _ rfl).1 (by have h2 := HSZD.out; have h3 := HZD.out; omega) zb (HM202.out.row.lt _ rfl).2 _
              · skip
                have HM207 := Lib.hid (HM192.out.mkbox)
                go_simp
                refine hK.out _ _ (hS0.step HM207.out.below hCB hGB) (fun hS208 => ?_)
                clear hK K
                generalize v196.alloc (.cells #[.slice none 0 0] 70) = v209 at *
                try simp only [qA, qB, qC, Act.put, qD, qE, qF]
                refine wpAnyH_ready (rs := [15]) (by kernel_rfl) (by simp) ?_
                refine AllReadyH.cons rfl (fun K hK => ?_) AllReadyH.nil
                refine step_append_at _ rfl _ _ 68 rfl v0.heap.size 85 i0 (.agg #[.slice none 0 0, .bool false]) 2 32 Tryz.underlying68 hi0 hz0 hz1 hz2 rfl (by decide) g194 (t + 1) c195 _ rfl HM207.out.row (.slice (some BB) r (c3 - t)) r _ rfl (HHIR.out.below HM207.out.below) (by unfold maxLen; omega) (by omega) HM207.out.below.size ?_
                intro g212 c213 v214 hown hgr hat _
                have HM210 := Lib.hid (HM207.out.app hown hgr hat)
                refine hK.out _ _ (hS0.step HM210.out.below hCB hGB) (fun hS211 => ?_)
                clear hK K hown hgr hat
                try simp only [qA, qB, qC, Act.put, qD, qE, qF]
                refine wpAnyH_take (i := 16) (v := .agg #[.slice (some ⟨g212, 0, none⟩) (t + 1 + r) c213]) rfl (by kernel_rfl) (by kernel_rfl) (by kernel_rfl) (fun _ _ _ h => h) (Or.inl ⟨by rfl, fun z hz => ?_⟩) hS211 ?_
                · obtain ⟨z1, z2, z3⟩ := hz
                  go_simp
                try simp only [qA, qB, qC, Act.put, qD, qE, qF]
                refine wpAnyH_ready (rs := [18]) (by kernel_rfl) (by simp) ?_
                refine AllReadyH.cons rfl (fun K hK => ?_) AllReadyH.nil
                obtain ⟨⟨cb, fb, zb⟩, hb0, hbk⟩ := HM210.out.box _ rfl
                have HFIN := Lib.hid (mov_fin HM210.out HOO5.out HPRM.out HXS.out HB1B.out HRL.out htm (by have := HM.out; omega) (fun b hb => by have h1 := hb.2; have h2 := HSZD.out; have h3 := HZD.out; omega))
                go_simp
                refine hK.out _ _ (hS0.step ((HM210.out.below).setCell (p := ⟨v196.heap.size, 0, none⟩) hb0 _) hCB hGB) (fun hS216 => ?_)
                clear hK K
                try simp only [qA, qB, qC, Act.put, qD, qE, qF]
                refine wpAnyH_done (by kernel_rfl) ?_ _
                go_wp2_with fail
                go_meet
                refine ⟨v196.heap.size, g212, c213, rfl, by rw [HLN.out]; exact World.cell?_setCell_same _ _ _ cb, ?_, by have h1 := HM210.out.below.size; have h3 := HZD.out; simp [World.setCell]; omega, by rw [HZD.out]; exact (HM210.out.below).setCell (p := ⟨v196.heap.size, 0, none⟩) hb0 _⟩
                rw [HLN.out, ← HOL.out]
                exact mov_store (v0 := v0) HFIN.out (fun b hb => ⟨hb.1, by have h1 := hb.2; have h2 := HSZD.out; have h3 := HZD.out; omega⟩) hb0 hbk (HM210.out.row.lt _ rfl).1 (by have h2 := HSZD.out; have h3 := HZD.out; omega) zb (HM210.out.row.lt _ rfl).2 _
            · skip
              have HM217 := Lib.hid (HM187.out.mkbox)
              go_simp
              refine hK.out _ _ (hS0.step HM217.out.below hCB hGB) (fun hS218 => ?_)
              clear hK K
              generalize v191.alloc (.cells #[.slice none 0 0] 70) = v219 at *
              try simp only [qA, qB, qC, Act.put, qD, qE, qF]
              refine wpAnyH_ready (rs := [11]) (by kernel_rfl) (by simp) ?_
              refine AllReadyH.cons rfl (fun K hK => ?_) AllReadyH.nil
              refine step_append_at _ rfl _ _ 68 rfl v0.heap.size 85 i0 (.agg #[.slice none 0 0, .bool false]) 2 32 Tryz.underlying68 hi0 hz0 hz1 hz2 rfl (by decide) g189 (t) c190 _ rfl HM217.out.row (.slice (some ⟨v0.heap.size, 0, none⟩) 1 1) 1 _ rfl (HM217.out.litSrc hX1 rfl) (by unfold maxLen; omega) (by omega) HM217.out.below.size ?_
              intro g222 c223 v224 hown hgr hat _
              have HM220 := Lib.hid (HM217.out.app hown hgr hat)
              refine hK.out _ _ (hS0.step HM220.out.below hCB hGB) (fun hS221 => ?_)
              clear hK K hown hgr hat
              try simp only [qA, qB, qC, Act.put, qD, qE, qF]
              refine wpAnyH_ready (rs := [15]) (by kernel_rfl) (by simp) ?_
              refine AllReadyH.cons rfl (fun K hK => ?_) AllReadyH.nil
              refine step_append_at _ rfl _ _ 68 rfl v0.heap.size 85 i0 (.agg #[.slice none 0 0, .bool false]) 2 32 Tryz.underlying68 hi0 hz0 hz1 hz2 rfl (by decide) g222 (t + 1) c223 _ rfl HM220.out.row (.slice (some BB) r (c3 - t)) r _ rfl (HHIR.out.below HM220.out.below) (by unfold maxLen; omega) (by omega) HM220.out.below.size ?_
              intro g227 c228 v229 hown hgr hat _
              have HM225 := Lib.hid (HM220.out.app hown hgr hat)
              refine hK.out _ _ (hS0.step HM225.out.below hCB hGB) (fun hS226 => ?_)
              clear hK K hown hgr hat
              try simp only [qA, qB, qC, Act.put, qD, qE, qF]
              refine wpAnyH_take (i := 16) (v := .agg #[.slice (some ⟨g227, 0, none⟩) (t + 1 + r) c228]) rfl (by kernel_rfl) (by kernel_rfl) (by kernel_rfl) (fun _ _ _ h => h) (Or.inl ⟨by rfl, fun z hz => ?_⟩) hS226 ?_
              · obtain ⟨z1, z2, z3⟩ := hz
                go_simp
              try simp only [qA, qB, qC, Act.put, qD, qE, qF]
              refine wpAnyH_ready (rs := [18]) (by kernel_rfl) (by simp) ?_
              refine AllReadyH.cons rfl (fun K hK => ?_) AllReadyH.nil
              obtain ⟨⟨cb, fb, zb⟩, hb0, hbk⟩ := HM225.out.box _ rfl
              have HFIN := Lib.hid (mov_fin HM225.out HOO5.out HPRM.out HXS.out HB1B.out HRL.out htm (by have := HM.out; omega) (fun b hb => by have h1 := hb.2; have h2 := HSZD.out; have h3 := HZD.out; omega))
              go_simp
              refine hK.out _ _ (hS0.step ((HM225.out.below).setCell (p := ⟨v191.heap.size, 0, none⟩) hb0 _) hCB hGB) (fun hS231 => ?_)
              clear hK K
              try simp only [qA, qB, qC, Act.put, qD, qE, qF]
              refine wpAnyH_done (by kernel_rfl) ?_ _
              go_wp2_with fail
              go_meet
              refine ⟨v191.heap.size, g227, c228, rfl, by rw [HLN.out]; exact World.cell?_setCell_same _ _ _ cb, ?_, by have h1 := HM225.out.below.size; have h3 := HZD.out; simp [World.setCell]; omega, by rw [HZD.out]; exact (HM225.out.below).setCell (p := ⟨v191.heap.size, 0, none⟩) hb0 _⟩
              rw [HLN.out, ← HOL.out]
              exact mov_store (v0 := v0) HFIN.out (fun b hb => ⟨hb.1, by have h1 := hb.2; have h2 := HSZD.out; have h3 := HZD.out; omega⟩) hb0 hbk (HM225.out.row.lt _ rfl).1 (by have h2 := HSZD.out; have h3 := HZD.out; omega) zb (HM225.out.row.lt _ rfl).2 _
          · skip
            have HM232 := Lib.hid (HM184.out.mkbox)
            go_simp
            refine hK.out _ _ (hS0.step HM232.out.below hCB hGB) (fun hS233 => ?_)
            clear hK K
            generalize v186.alloc (.cells #[.slice none 0 0] 70) = v234 at *
            try simp only [qA, qB, qC, Act.put, qD, qE, qF]
            refine wpAnyH_ready (rs := [4]) (by kernel_rfl) (by simp) ?_
            refine AllReadyH.cons rfl (fun K hK => ?_) AllReadyH.nil
            refine step_append_at _ rfl _ _ 68 rfl v0.heap.size 85 i0 (.agg #[.slice none 0 0, .bool false]) 2 32 Tryz.underlying68 hi0 hz0 hz1 hz2 rfl (by decide) v183.heap.size (0) 0 _ rfl HM232.out.row (.slice (some ⟨g3, 0, none⟩) t c3) t _ rfl (HLO.out.below HM232.out.below) (by unfold maxLen; omega) (by omega) HM232.out.below.size ?_
            intro g237 c238 v239 hown hgr hat _
            rw [Nat.zero_add] at hown ⊢
            have HM235 := Lib.hid (HM232.out.app hown hgr hat)
            refine hK.out _ _ (hS0.step HM235.out.below hCB hGB) (fun hS236 => ?_)
            clear hK K hown hgr hat
            try simp only [qA, qB, qC, Act.put, qD, qE, qF]
            refine wpAnyH_ready (rs := [11]) (by kernel_rfl) (by simp) ?_
            refine AllReadyH.cons rfl (fun K hK => ?_) AllReadyH.nil
            refine step_append_at _ rfl _ _ 68 rfl v0.heap.size 85 i0 (.agg #[.slice none 0 0, .bool false]) 2 32 Tryz.underlying68 hi0 hz0 hz1 hz2 rfl (by decide) g237 (t) c238 _ rfl HM235.out.row (.slice (some ⟨v0.heap.size, 0, none⟩) 1 1) 1 _ rfl (HM235.out.litSrc hX1 rfl) (by unfold maxLen; omega) (by omega) HM235.out.below.size ?_
            intro g242 c243 v244 hown hgr hat _
            have HM240 := Lib.hid (HM235.out.app hown hgr hat)
            refine hK.out _ _ (hS0.step HM240.out.below hCB hGB) (fun hS241 => ?_)
            clear hK K hown hgr hat
            try simp only [qA, qB, qC, Act.put, qD, qE, qF]
            refine wpAnyH_ready (rs := [15]) (by kernel_rfl) (by simp) ?_
            refine AllReadyH.cons rfl (fun K hK => ?_) AllReadyH.nil
            refine step_append_at _ rfl _ _ 68 rfl v0.heap.size 85 i0 (.agg #[.slice none 0 0, .bool false]) 2 32 Tryz.underlying68 hi0 hz0 hz1 hz2 rfl (by decide) g242 (t + 1) c243 _ rfl HM240.out.row (.slice (some BB) r (c3 - t)) r _ rfl (HHIR.out.below HM240.out.below) (by unfold maxLen; omega) (by omega) HM240.out.below.size ?_
            intro g247 c248 v249 hown hgr hat _
            have HM245 := Lib.hid (HM240.out.app hown hgr hat)
            refine hK.out _ _ (hS0.step HM245.out.below hCB hGB) (fun hS246 => ?_)
            clear hK K hown hgr hat
            try simp only [qA, qB, qC, Act.put, qD, qE, qF]
            refine wpAnyH_take (i := 16) (v := .agg #[.slice (some ⟨g247, 0, none⟩) (t + 1 + r) c248]) rfl (by kernel_rfl) (by kernel_rfl) (by kernel_rfl) (fun _ _ _ h => h) (Or.inl ⟨by rfl, fun z hz => ?_⟩) hS246 ?_
            · obtain ⟨z1, z2, z3⟩ := hz
              go_simp
            try simp only [qA, qB, qC, Act.put, qD, qE, qF]
            refine wpAnyH_ready (rs := [18]) (by kernel_rfl) (by simp) ?_
            refine AllReadyH.cons rfl (fun K hK => ?_) AllReadyH.nil
            obtain ⟨⟨cb, fb, zb⟩, hb0, hbk⟩ := HM245.out.box _ rfl
            have HFIN := Lib.hid (mov_fin HM245.out HOO5.out HPRM.out HXS.out HB1B.out HRL.out htm (by have := HM.out; omega) (fun b hb => by have h1 := hb.2; have h2 := HSZD.out; have h3 := HZD.out; omega))
            go_simp
            refine hK.out _ _ (hS0.step ((HM245.out.below).setCell (p := ⟨v186.heap.size, 0, none⟩) hb0 _) hCB hGB) (fun hS251 => ?_)
            clear hK K
            try simp only [qA, qB, qC, Act.put, qD, qE, qF]
            refine wpAnyH_done (by kernel_rfl) ?_ _
            go_wp2_with fail
            go_meet
            refine ⟨v186.heap.size, g247, c248, rfl, by rw [HLN.out]; exact World.cell?_setCell_same _ _ _ cb, ?_, by have h1 := HM245.out.below.size; have h3 := HZD.out; simp [World.setCell]; omega, by rw [HZD.out]; exact (HM245.out.below).setCell (p := ⟨v186.heap.size, 0, none⟩) hb0 _⟩
            rw [HLN.out, ← HOL.out]
            exact mov_store (v0 := v0) HFIN.out (fun b hb => ⟨hb.1, by have h1 := hb.2; have h2 := HSZD.out; have h3 := HZD.out; omega⟩) hb0 hbk (HM245.out.row.lt _ rfl).1 (by have h2 := HSZD.out; have h3 := HZD.out; omega) zb (HM245.out.row.lt _ rfl).2 _
        · skip
          have HM252 := Lib.hid (HM181.out.mkbox)
          go_simp
          refine hK.out _ _ (hS0.step HM252.out.below hCB hGB) (fun hS253 => ?_)
          clear hK K
          generalize v183.alloc (.cells #[.slice none 0 0] 70) = v254 at *
          try simp only [qA, qB, qC, Act.put, qD, qE, qF]
          refine wpAnyH_ready (rs := [0]) (by kernel_rfl) (by simp) ?_
          refine AllReadyH.cons rfl (fun K hK => ?_) AllReadyH.nil
          have HM255 := Lib.hid (HM252.out.mkrow)
          go_simp
          refine hK.out _ _ (hS0.step HM255.out.below hCB hGB) (fun hS256 => ?_)
          clear hK K
          generalize v254.alloc (.cells #[] 85) = v257 at *
          try simp only [qA, qB, qC, Act.put, qD, qE, qF]
          refine wpAnyH_ready (rs := [4]) (by kernel_rfl) (by simp) ?_
          refine AllReadyH.cons rfl (fun K hK => ?_) AllReadyH.nil
          refine step_append_at _ rfl _ _ 68 rfl v0.heap.size 85 i0 (.agg #[.slice none 0 0, .bool false]) 2 32 Tryz.underlying68 hi0 hz0 hz1 hz2 rfl (by decide) v254.heap.size (0) 0 _ rfl HM255.out.row (.slice (some ⟨g3, 0, none⟩) t c3) t _ rfl (HLO.out.below HM255.out.below) (by unfold maxLen; omega) (by omega) HM255.out.below.size ?_
          intro g260 c261 v262 hown hgr hat _
          rw [Nat.zero_add] at hown ⊢
          have HM258 := Lib.hid (HM255.out.app hown hgr hat)
          refine hK.out _ _ (hS0.step HM258.out.below hCB hGB) (fun hS259 => ?_)
          clear hK K hown hgr hat
          try simp only [qA, qB, qC, Act.put, qD, qE, qF]
          refine wpAnyH_ready (rs := [11]) (by kernel_rfl) (by simp) ?_
          refine AllReadyH.cons rfl (fun K hK => ?_) AllReadyH.nil
          refine step_append_at _ rfl _ _ 68 rfl v0.heap.size 85 i0 (.agg #[.slice none 0 0, .bool false]) 2 32 Tryz.underlying68 hi0 hz0 hz1 hz2 rfl (by decide) g260 (t) c261 _ rfl HM258.out.row (.slice (some ⟨v0.heap.size, 0, none⟩) 1 1) 1 _ rfl (HM258.out.litSrc hX1 rfl) (by unfold maxLen; omega) (by omega) HM258.out.below.size ?_
          intro g265 c266 v267 hown hgr hat _
          have HM263 := Lib.hid (HM258.out.app hown hgr hat)
          refine hK.out _ _ (hS0.step HM263.out.below hCB hGB) (fun hS264 => ?_)
          clear hK K hown hgr hat
          try simp only [qA, qB, qC, Act.put, qD, qE, qF]
          refine wpAnyH_ready (rs := [15]) (by kernel_rfl) (by simp) ?_
          refine AllReadyH.cons rfl (fun K hK => ?_) AllReadyH.nil
          refine step_append_at _ rfl _ _ 68 rfl v0.heap.size 85 i0 (.agg #[.slice none 0 0, .bool false]) 2 32 Tryz.underlying68 hi0 hz0 hz1 hz2 rfl (by decide) g265 (t + 1) c266 _ rfl HM263.out.row (.slice (some BB) r (c3 - t)) r _ rfl (HHIR.out.below HM263.out.below) (by unfold maxLen; omega) (by omega) HM263.out.below.size ?_
          intro g270 c271 v272 hown hgr hat _
          have HM268 := Lib.hid (HM263.out.app hown hgr hat)
          refine hK.out _ _ (hS0.step HM268.out.below hCB hGB) (fun hS269 => ?_)
          clear hK K hown hgr hat
          try simp only [qA, qB, qC, Act.put, qD, qE, qF]
          refine wpAnyH_take (i := 16) (v := .agg #[.slice (some ⟨g270, 0, none⟩) (t + 1 + r) c271]) rfl (by kernel_rfl) (by kernel_rfl) (by kernel_rfl) (fun _ _ _ h => h) (Or.inl ⟨by rfl, fun z hz => ?_⟩) hS269 ?_
          · obtain ⟨z1, z2, z3⟩ := hz
            go_simp
          try simp only [qA, qB, qC, Act.put, qD, qE, qF]
          refine wpAnyH_ready (rs := [18]) (by kernel_rfl) (by simp) ?_
          refine AllReadyH.cons rfl (fun K hK => ?_) AllReadyH.nil
          obtain ⟨⟨cb, fb, zb⟩, hb0, hbk⟩ := HM268.out.box _ rfl
          have HFIN := Lib.hid (mov_fin HM268.out HOO5.out HPRM.out HXS.out HB1B.out HRL.out htm (by have := HM.out; omega) (fun b hb => by have h1 := hb.2; have h2 := HSZD.out; have h3 := HZD.out; omega))
          go_simp
          refine hK.out _ _ (hS0.step ((HM268.out.below).setCell (p := ⟨v183.heap.size, 0, none⟩) hb0 _) hCB hGB) (fun hS274 => ?_)
          clear hK K
          try simp only [qA, qB, qC, Act.put, qD, qE, qF]
          refine wpAnyH_done (by kernel_rfl) ?_ _
          go_wp2_with fail
          go_meet
          refine ⟨v183.heap.size, g270, c271, rfl, by rw [HLN.out]; exact World.cell?_setCell_same _ _ _ cb, ?_, by have h1 := HM268.out.below.size; have h3 := HZD.out; simp [World.setCell]; omega, by rw [HZD.out]; exact (HM268.out.below).setCell (p := ⟨v183.heap.size, 0, none⟩) hb0 _⟩
          rw [HLN.out, ← HOL.out]
          exact mov_store (v0 := v0) HFIN.out (fun b hb => ⟨hb.1, by have h1 := hb.2; have h2 := HSZD.out; have h3 := HZD.out; omega⟩) hb0 hbk (HM268.out.row.lt _ rfl).1 (by have h2 := HSZD.out; have h3 := HZD.out; omega) zb (HM268.out.row.lt _ rfl).2 _
      · skip
        have HM275 := Lib.hid (HMI.out.mkbox)
        go_simp
        refine hK.out _ _ (hS0.step HM275.out.below hCB hGB) (fun hS276 => ?_)
        clear hK K
        generalize v0.alloc (.cells #[.slice none 0 0] 70) = v277 at *
        try simp only [qA, qB, qC, Act.put, qD, qE, qF]
        refine wpAnyH_ready (rs := [0, 10]) (by kernel_rfl) (by simp) ?_
        refine AllReadyH.cons rfl (fun K hK => ?_) (AllReadyH.cons rfl (fun K hK => ?_) AllReadyH.nil)
        · skip
          have HM278 := Lib.hid (HM275.out.mkrow)
          go_simp
          refine hK.out _ _ (hS0.step HM278.out.below hCB hGB) (fun hS279 => ?_)
          clear hK K
          generalize v277.alloc (.cells #[] 85) = v280 at *
          try simp only [qA, qB, qC, Act.put, qD, qE, qF]
          refine wpAnyH_ready (rs := [4, 10]) (by kernel_rfl) (by simp) ?_
          refine AllReadyH.cons rfl (fun K hK => ?_) (AllReadyH.cons rfl (fun K hK => ?_) AllReadyH.nil)
          · skip
            refine step_append_at _ rfl _ _ 68 rfl v0.heap.size 85 i0 (.agg #[.slice none 0 0, .bool false]) 2 32 Tryz.underlying68 hi0 hz0 hz1 hz2 rfl (by decide) v277.heap.size (0) 0 _ rfl HM278.out.row (.slice (some ⟨g3, 0, none⟩) t c3) t _ rfl (HLO.out.below HM278.out.below) (by unfold maxLen; omega) (by omega) HM278.out.below.size ?_
            intro g283 c284 v285 hown hgr hat _
            rw [Nat.zero_add] at hown ⊢
            have HM281 := Lib.hid (HM278.out.app hown hgr hat)
            refine hK.out _ _ (hS0.step HM281.out.below hCB hGB) (fun hS282 => ?_)
            clear hK K hown hgr hat
            try simp only [qA, qB, qC, Act.put, qD, qE, qF]
            refine wpAnyH_ready (rs := [10]) (by kernel_rfl) (by simp) ?_
            refine AllReadyH.cons rfl (fun K hK => ?_) AllReadyH.nil
            have HM286 := Lib.hid (HM281.out.mklit)
            go_simp
            refine hK.out _ _ (hS0.step HM286.out.below hCB hGB) (fun hS287 => ?_)
            clear hK K
            generalize v285.alloc (.cells #[.slice xd xn xc, .bool bb] 85) = v288 at *
            try simp only [qA, qB, qC, Act.put, qD, qE, qF]
            refine wpAnyH_ready (rs := [11]) (by kernel_rfl) (by simp) ?_
            refine AllReadyH.cons rfl (fun K hK => ?_) AllReadyH.nil
            refine step_append_at _ rfl _ _ 68 rfl v0.heap.size 85 i0 (.agg #[.slice none 0 0, .bool false]) 2 32 Tryz.underlying68 hi0 hz0 hz1 hz2 rfl (by decide) g283 (t) c284 _ rfl HM286.out.row (.slice (some ⟨v285.heap.size, 0, none⟩) 1 1) 1 _ rfl (HM286.out.litSrc hX1 rfl) (by unfold maxLen; omega) (by omega) HM286.out.below.size ?_
            intro g291 c292 v293 hown hgr hat _
            have HM289 := Lib.hid (HM286.out.app hown hgr hat)
            refine hK.out _ _ (hS0.step HM289.out.below hCB hGB) (fun hS290 => ?_)
            clear hK K hown hgr hat
            try simp only [qA, qB, qC, Act.put, qD, qE, qF]
            refine wpAnyH_ready (rs := [15]) (by kernel_rfl) (by simp) ?_
            refine AllReadyH.cons rfl (fun K hK => ?_) AllReadyH.nil
            refine step_append_at _ rfl _ _ 68 rfl v0.heap.size 85 i0 (.agg #[.slice none 0 0, .bool false]) 2 32 Tryz.underlying68 hi0 hz0 hz1 hz2 rfl (by decide) g291 (t + 1) c292 _ rfl HM289.out.row (.slice (some BB) r (c3 - t)) r _ rfl (HHIR.out.below HM289.out.below) (by unfold maxLen; omega) (by omega) HM289.out.below.size ?_
            intro g296 c297 v298 hown hgr hat _
            have HM294 := Lib.hid (HM289.out.app hown hgr hat)
            refine hK.out _ _ (hS0.step HM294.out.below hCB hGB) (fun hS295 => ?_)
            clear hK K hown hgr hat
            try simp only [qA, qB, qC, Act.put, qD, qE, qF]
            refine wpAnyH_take (i := 16) (v := .agg #[.slice (some ⟨g296, 0, none⟩) (t + 1 + r) c297]) rfl (by kernel_rfl) (by kernel_rfl) (by kernel_rfl) (fun _ _ _ h => h) (Or.inl ⟨by rfl, fun z hz => ?_⟩) hS295 ?_
            · obtain ⟨z1, z2, z3⟩ := hz
              go_simp
            try simp only [qA, qB, qC, Act.put, qD, qE, qF]
            refine wpAnyH_ready (rs := [18]) (by kernel_rfl) (by simp) ?_
            refine AllReadyH.cons rfl (fun K hK => ?_) AllReadyH.nil
            obtain ⟨⟨cb, fb, zb⟩, hb0, hbk⟩ := HM294.out.box _ rfl
            have HFIN := Lib.hid (mov_fin HM294.out HOO5.out HPRM.out HXS.out HB1B.out HRL.out htm (by have := HM.out; omega) (fun b hb => by have h1 := hb.2; have h2 := HSZD.out; have h3 := HZD.out; omega))
            go_simp
            refine hK.out _ _ (hS0.step ((HM294.out.below).setCell (p := ⟨v0.heap.size, 0, none⟩) hb0 _) hCB hGB) (fun hS300 => ?_)
            clear hK K
            try simp only [qA, qB, qC, Act.put, qD, qE, qF]
            refine wpAnyH_done (by kernel_rfl) ?_ _
            go_wp2_with fail
            go_meet
            refine ⟨v0.heap.size, g296, c297, rfl, by rw [HLN.out]; exact World.cell?_setCell_same _ _ _ cb, ?_, by have h1 := HM294.out.below.size; have h3 := HZD.out; simp [World.setCell]; omega, by rw [HZD.out]; exact (HM294.out.below).setCell (p := ⟨v0.heap.size, 0, none⟩) hb0 _⟩
            rw [HLN.out, ← HOL.out]
            exact mov_store (v0 := v0) HFIN.out (fun b hb => ⟨hb.1, by have h1 := hb.2; have h2 := HSZD.out; have h3 := HZD.out; omega⟩) hb0 hbk (HM294.out.row.lt _ rfl).1 (by have h2 := HSZD.out; have h3 := HZD.out; omega) zb (HM294.out.row.lt _ rfl).2 _
          · skip
            have HM301 := Lib.hid (HM278.out.mklit)
            go_simp
            refine hK.out _ _ (hS0.step HM301.out.below hCB hGB) (fun hS302 => ?_)
            clear hK K
            generalize v280.alloc (.cells #[.slice xd xn xc, .bool bb] 85) = v303 at *
            try simp only [qA, qB, qC, Act.put, qD, qE, qF]
            refine wpAnyH_ready (rs := [4]) (by kernel_rfl) (by simp) ?_
            refine AllReadyH.cons rfl (fun K hK => ?_) AllReadyH.nil
            refine step_append_at _ rfl _ _ 68 rfl v0.heap.size 85 i0 (.agg #[.slice none 0 0, .bool false]) 2 32 Tryz.underlying68 hi0 hz0 hz1 hz2 rfl (by decide) v277.heap.size (0) 0 _ rfl HM301.out.row (.slice (some ⟨g3, 0, none⟩) t c3) t _ rfl (HLO.out.below HM301.out.below) (by unfold maxLen; omega) (by omega) HM301.out.below.size ?_
            intro g306 c307 v308 hown hgr hat _
            rw [Nat.zero_add] at hown ⊢
            have HM304 := Lib.hid (HM301.out.app hown hgr hat)
            refine hK.out _ _ (hS0.step HM304.out.below hCB hGB) (fun hS305 => ?_)
            clear hK K hown hgr hat
            try simp only [qA, qB, qC, Act.put, qD, qE, qF]
            refine wpAnyH_ready (rs := [11]) (by kernel_rfl) (by simp) ?_
            refine AllReadyH.cons rfl (fun K hK => ?_) AllReadyH.nil
            refine step_append_at _ rfl _ _ 68 rfl v0.heap.size 85 i0 (.agg #[.slice none 0 0, .bool false]) 2 32 Tryz.underlying68 hi0 hz0 hz1 hz2 rfl (by decide) g306 (t) c307 _ rfl HM304.out.row (.slice (some ⟨v280.heap.size, 0, none⟩) 1 1) 1 _ rfl (HM304.out.litSrc hX1 rfl) (by unfold maxLen; omega) (by omega) HM304.out.below.size ?_
            intro g311 c312 v313 hown hgr hat _
            have HM309 := Lib.hid (HM304.out.app hown hgr hat)
            refine hK.out _ _ (hS0.step HM309.out.below hCB hGB) (fun hS310 => ?_)
            clear hK K hown hgr hat
            try simp only [qA, qB, qC, Act.put, qD, qE, qF]
            refine wpAnyH_ready (rs := [15]) (by kernel_rfl) (by simp) ?_
            refine AllReadyH.cons rfl (fun K hK => ?_) AllReadyH.nil
            refine step_append_at _ rfl _ _ 68 rfl v0.heap.size 85 i0 (.agg #[.slice none 0 0, .bool false]) 2 32 Tryz.underlying68 hi0 hz0 hz1 hz2 rfl (by decide) g311 (t + 1) c312 _ rfl HM309.out.row (.slice (some BB) r (c3 - t)) r _ rfl (HHIR.out.below HM309.out.below) (by unfold maxLen; omega) (by omega) HM309.out.below.size ?_
            intro g316 c317 v318 hown hgr hat _
            have HM314 := Lib.hid (HM309.out.app hown hgr hat)
            refine hK.out _ _ (hS0.step HM314.out.below hCB hGB) (fun hS315 => ?_)
            clear hK K hown hgr hat
            try simp only [qA, qB, qC, Act.put, qD, qE, qF]
            refine wpAnyH_take (i := 16) (v := .agg #[.slice (some ⟨g316, 0, none⟩) (t + 1 + r) c317]) rfl (by kernel_rfl) (by kernel_rfl) (by kernel_rfl) (fun _ _ _ h => h) (Or.inl ⟨by rfl, fun z hz => ?_⟩) hS315 ?_
            · obtain ⟨z1, z2, z3⟩ := hz
              go_simp
            try simp only [qA, qB, qC, Act.put, qD, qE, qF]
            refine wpAnyH_ready (rs := [18]) (by kernel_rfl) (by simp) ?_
            refine AllReadyH.cons rfl (fun K hK => ?_) AllReadyH.nil
            obtain ⟨⟨cb, fb, zb⟩, hb0, hbk⟩ := HM314.out.box _ rfl
            have HFIN := Lib.hid (mov_fin HM314.out HOO5.out HPRM.out HXS.out HB1B.out HRL.out htm (by have := HM.out; omega) (fun b hb => by have h1 := hb.2; have h2 := HSZD.out; have h3 := HZD.out; omega))
            go_simp
            refine hK.out _ _ (hS0.step ((HM314.out.below).setCell (p := ⟨v0.heap.size, 0, none⟩) hb0 _) hCB hGB) (fun hS320 => ?_)
            clear hK K
            try simp only [qA, qB, qC, Act.put, qD, qE, qF]
            refine wpAnyH_done (by kernel_rfl) ?_ _
            go_wp2_with fail
            go_meet
            refine ⟨v0.heap.size, g316, c317, rfl, by rw [HLN.out]; exact World.cell?_setCell_same _ _ _ cb, ?_, by have h1 := HM314.out.below.size; have h3 := HZD.out; simp [World.setCell]; omega, by rw [HZD.out]; exact (HM314.out.below).setCell (p := ⟨v0.heap.size, 0, none⟩) hb0 _⟩
            rw [HLN.out, ← HOL.out]
            exact mov_store (v0 := v0) HFIN.out (fun b hb => ⟨hb.1, by have h1 := hb.2; have h2 := HSZD.out; have h3 := HZD.out; omega⟩) hb0 hbk (HM314.out.row.lt _ rfl).1 (by have h2 := HSZD.out; have h3 := HZD.out; omega) zb (HM314.out.row.lt _ rfl).2 _
        · skip
          have HM321 := Lib.hid (HM275.out.mklit)
          go_simp
          refine hK.out _ _ (hS0.step HM321.out.below hCB hGB) (fun hS322 => ?_)
          clear hK K
          generalize v277.alloc (.cells #[.slice xd xn xc, .bool bb] 85) = v323 at *
          try simp only [qA, qB, qC, Act.put, qD, qE, qF]
          refine wpAnyH_ready (rs := [0]) (by kernel_rfl) (by simp) ?_
          refine AllReadyH.cons rfl (fun K hK => ?_) AllReadyH.nil
          have HM324 := Lib.hid (HM321.out.mkrow)
          go_simp
          refine hK.out _ _ (hS0.step HM324.out.below hCB hGB) (fun hS325 => ?_)
          clear hK K
          generalize v323.alloc (.cells #[] 85) = v326 at *
          try simp only [qA, qB, qC, Act.put, qD, qE, qF]
          refine wpAnyH_ready (rs := [4]) (by kernel_rfl) (by simp) ?_
          refine AllReadyH.cons rfl (fun K hK => ?_) AllReadyH.nil
          refine step_append_at _ rfl _ _ 68 rfl v0.heap.size 85 i0 (.agg #[.slice none 0 0, .bool false]) 2 32 Tryz.underlying68 hi0 hz0 hz1 hz2 rfl (by decide) v323.heap.size (0) 0 _ rfl HM324.out.row (.slice (some ⟨g3, 0, none⟩) t c3) t _ rfl (HLO.out.below HM324.out.below) (by unfold maxLen; omega) (by omega) HM324.out.below.size ?_
          intro g329 c330 v331 hown hgr hat _
          rw [Nat.zero_add] at hown ⊢
          have HM327 := Lib.hid (HM324.out.app hown hgr hat)
          refine hK.out _ _ (hS0.step HM327.out.below hCB hGB) (fun hS328 => ?_)
          clear hK K hown hgr hat
          try simp only [qA, qB, qC, Act.put, qD, qE, qF]
          refine wpAnyH_ready (rs := [11]) (by kernel_rfl) (by simp) ?_
          refine AllReadyH.cons rfl (fun K hK => ?_) AllReadyH.nil
          refine step_append_at _ rfl _ _ 68 rfl v0.heap.size 85 i0 (.agg #[.slice none 0 0, .bool false]) 2 32 Tryz.underlying68 hi0 hz0 hz1 hz2 rfl (by decide) g329 (t) c330 _ rfl HM327.out.row (.slice (some ⟨v277.heap.size, 0, none⟩) 1 1) 1 _ rfl (HM327.out.litSrc hX1 rfl) (by unfold maxLen; omega) (by omega) HM327.out.below.size ?_
          intro g334 c335 v336 hown hgr hat _
          have HM332 := Lib.hid (HM327.out.app hown hgr hat)
          refine hK.out _ _ (hS0.step HM332.out.below hCB hGB) (fun hS333 => ?_)
          clear hK K hown hgr hat
          try simp only [qA, qB, qC, Act.put, qD, qE, qF]
          refine wpAnyH_ready (rs := [15]) (by kernel_rfl) (by simp) ?_
          refine AllReadyH.cons rfl (fun K hK => ?_) AllReadyH.nil
          refine step_append_at _ rfl _ _ 68 rfl v0.heap.size 85 i0 (.agg #[.slice none 0 0, .bool false]) 2 32 Tryz.underlying68 hi0 hz0 hz1 hz2 rfl (by decide) g334 (t + 1) c335 _ rfl HM332.out.row (.slice (some BB) r (c3 - t)) r _ rfl (HHIR.out.below HM332.out.below) (by unfold maxLen; omega) (by omega) HM332.out.below.size ?_
          intro g339 c340 v341 hown hgr hat _
          have HM337 := Lib.hid (HM332.out.app hown hgr hat)
          refine hK.out _ _ (hS0.step HM337.out.below hCB hGB) (fun hS338 => ?_)
          clear hK K hown hgr hat
          try simp only [qA, qB, qC, Act.put, qD, qE, qF]
          refine wpAnyH_take (i := 16) (v := .agg #[.slice (some ⟨g339, 0, none⟩) (t + 1 + r) c340]) rfl (by kernel_rfl) (by kernel_rfl) (by kernel_rfl) (fun _ _ _ h => h) (Or.inl ⟨by rfl, fun z hz => ?_⟩) hS338 ?_
          · obtain ⟨z1, z2, z3⟩ := hz
            go_simp
          try simp only [qA, qB, qC, Act.put, qD, qE, qF]
          refine wpAnyH_ready (rs := [18]) (by kernel_rfl) (by simp) ?_
          refine AllReadyH.cons rfl (fun K hK => ?_) AllReadyH.nil
          obtain ⟨⟨cb, fb, zb⟩, hb0, hbk⟩ := HM337.out.box _ rfl
          have HFIN := Lib.hid (mov_fin HM337.out HOO5.out HPRM.out HXS.out HB1B.out HRL.out htm (by have := HM.out; omega) (fun b hb => by have h1 := hb.2; have h2 := HSZD.out; have h3 := HZD.out; omega))
          go_simp
          refine hK.out _ _ (hS0.step ((HM337.out.below).setCell (p := ⟨v0.heap.size, 0, none⟩) hb0 _) hCB hGB) (fun hS343 => ?_)
          clear hK K
          try simp only [qA, qB, qC, Act.put, qD, qE, qF]
          refine wpAnyH_done (by kernel_rfl) ?_ _
          go_wp2_with fail
          go_meet
          refine ⟨v0.heap.size, g339, c340, rfl, by rw [HLN.out]; exact World.cell?_setCell_same _ _ _ cb, ?_, by have h1 := HM337.out.below.size; have h3 := HZD.out; simp [World.setCell]; omega, by rw [HZD.out]; exact (HM337.out.below).setCell (p := ⟨v0.heap.size, 0, none⟩) hb0 _⟩
          rw [HLN.out, ← HOL.out]
          exact mov_store (v0 := v0) HFIN.out (fun b hb => ⟨hb.1, by have h1 := hb.2; have h2 := HSZD.out; have h3 := HZD.out; omega⟩) hb0 hbk (HM337.out.row.lt _ rfl).1 (by have h2 := HSZD.out; have h3 := HZD.out; omega) zb (HM337.out.row.lt _ rfl).2 _
    case rest =>
      obtain ⟨bx, gy, cy, rfl, k0, hl, hz9, hb⟩ := hcut
      have HN6 := Lib.hid (HN5.out.below (by exact hb)); have HB6 := Lib.hid (HB5.out.trans (hb.mono HB5.out.size)); have HL := Lib.hid hl
      clear hl hb
      obtain ⟨_, b0, f0, bsz⟩ := HN6.out
      go_wp2
      refine bodyPost_ret (v := .tuple #[.agg #[.slice (some ⟨gy, 0, none⟩) (P.movL n t l).length cy], .bool true]) (by simp [results, Tryz.results52, go_sem, b0]) rfl ⟨_, by rw [HD.out], ?_, ?_⟩
      · rw [HD.out]
        exact set_done HL.out (by omega) (Nat.le_refl _)
      · exact HB6.out.setCell (by simp) _
end Go.Proofs.YtngbkdlicknmhaaGreatDoor
