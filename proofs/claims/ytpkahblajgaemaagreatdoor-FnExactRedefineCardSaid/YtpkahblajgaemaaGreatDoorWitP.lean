/- From a law's contract to its row: what is the same for every law. The library's variables at a row's first world (a dictionary seat); a world for the witnesses. Rows of ints and of entries, out of a row's own reading of its arguments. -/
import Derived.ProofKit
import Derived.OpenShut
import Derived.Deep.DeepHandedRow
import Derived.Lib.LaidTab
import Derived.Lib.SmallJoins
import Derived.ChangeSlices
import Derived.Deep.Slices
import Derived.Deep.Fields
import Derived.Test.YtpkahblajgaemaaGreatDoorCards
import Derived.Test.YtpkahblajgaemaaGreatDoorTie
import Derived.Test.YtpkahblajgaemaaGreatDoorD0
import Derived.Test.YtpkahblajgaemaaGreatDoorLawD
namespace Go.Proofs.YtpkahblajgaemaaGreatDoor
section
open Go Go.RowKit Go.ChangeShapes Go.WideShapes Go.ChangeAt
section
variable {H : Type} {enc : TypeId × Value → H} {P : Program}
theorem trodAll_below (hl : laidOutB P = true) {W W' : World} (hb : Below W.heap.size W W') : ∀ (ts : List TypeId) (vs : List Value) (ds : List (DataW H)) (ps : List MemPlace),
    (∀ t ∈ ts, P.readableRec t = true ∧ t < P.types.size) → DataW.TrodAll enc P W 0 (fun _ => true) true ts vs ds ps → (∀ x ∈ ps, x.block < W.heap.size) →
    DataW.TrodAll enc P W' 0 (fun b => decide (b < W.heap.size)) true ts vs ds ps
  | [], [], [], _, _, h, _ => h
  | t :: ts, v :: vs, d :: ds, ps, hr, h, hlt => by
    obtain ⟨p, q, h1, h2, rfl⟩ := h
    exact ⟨p, q, Below.trod hl (hr t (by simp)).1 (hr t (by simp)).2 h1 hb (fun x hx => hlt x (by simp [hx])),
      trodAll_below hl hb ts vs ds q (fun t ht => hr t (by simp [ht])) h2 (fun x hx => hlt x (by simp [hx])), rfl⟩
  | [], _ :: _, _, _, _, h, _ => h.elim
  | [], [], _ :: _, _, _, h, _ => h.elim
  | _ :: _, [], _, _, _, h, _ => h.elim
  | _ :: _, _ :: _, [], _, _, h, _ => h.elim
theorem law_post {f : Func} {s : ChangeSpec} {W W' : World} {args : Array Value} {ds gs : List (DataW H)} {before : List MemPlace} {tb : TypeId}
    (hl : laidOutB P = true) (hr : ∀ t ∈ f.params.toList, P.readableRec t = true ∧ t < P.types.size) (hres : f.resultTypes = #[tb]) (htb : P.underlying tb = some .bool)
    (hvars : s.vars = []) (hfn : s.fn H (ds ++ []) = { results := [.lit (.bool true)], args := ds })
    (hW : DataW.Whole enc P f.params.toList s.vars false W args.toList ds gs before) (hb : Below W.heap.size W W') :
    s.post enc P f false true false false W args (.bool true) W' := by
  have hW' := hW
  obtain ⟨p, q, hA, hV, rfl, hfz, hnd⟩ := hW
  have hlt : ∀ x ∈ p, x.block < W.heap.size := fun x hx => hW'.lt x (by simp [hx])
  have hA2 := trodAll_below hl hb _ _ _ _ hr hA hlt
  rw [hvars] at hV
  have hg : gs = [] ∧ q = [] := by
    cases gs with
    | nil => exact ⟨rfl, hV⟩
    | cons _ _ => exact hV.elim
  obtain ⟨rfl, rfl⟩ := hg
  refine ⟨ds, [], _, [], p, [], hW', ?_, ?_, ?_, hb.frame _, fun h => by cases h⟩
  · rw [hfn, hres]
    exact trodAll_cons_mk (shut_bool htb true) trodAll_mk0
  · rw [hfn]; exact hA2
  · rw [hfn, hvars]; rfl
end
theorem boolT : Tryz.prog.underlying 4 = some .bool := Tryz.underlying4
theorem laidOut : laidOutB Tryz.prog = true := by kernel_rfl
end
section
open Go Go.RowKit
theorem env_of {α : Prop} {W : World} (hsh : W.ShapedOpen Tryz.prog) (_ : α) : Env W := by
  obtain ⟨m, hc⟩ : ∃ m, W.cell? ⟨0, 0, none⟩ = some (.int .i64 m) :=
    Go.Proofs.cell_of_shapedOpen_int (zero := #[.int .i64 0]) (t := 3) hsh (of_decide_eq_true (by kernel_rfl)) (by kernel_rfl) rfl (by kernel_rfl) (by kernel_rfl) Tryz.underlying3
  have h1 : 0 < W.heap.size := World.block_lt_of_cell? W _ hc
  exact ⟨by unfold EB; omega, m, hc⟩
def ranges : List Int := [128, 191, 160, 191, 128, 159, 144, 191, 128, 143, 0, 0, 0, 0, 0, 0, 0, 0, 0, 0, 0, 0, 0, 0, 0, 0, 0, 0, 0, 0, 0, 0]
def setTab (g : Nat) (k : IntKind) (l : List Int) (h : Array Obj) : Array Obj := h.modify g fun
  | .cells _ t frozen => .cells (l.map fun z => Value.int k z).toArray t frozen
  | o => o
noncomputable def laidWorld (os : Os) : World :=
  { World.holding Tryz.prog os ⟨#[], #[], []⟩ with heap := setTab 1 .u8 (Go.Pinned.utf8FirstZ.map Int.ofNat) (setTab 2 .u8 ranges (World.holding Tryz.prog os ⟨#[], #[], []⟩).heap) }
theorem own : ownKnob Tryz.prog.godebug = none := by kernel_rfl
end
section
open Go Go.RowKit Go.ChangeShapes Go.WideShapes Go.ChangeAt Go.Deep
set_option maxRecDepth 100000
section
variable {H : Type} {enc : TypeId × Value → H} {W : World} {held : Bool}
theorem spot_none {a : Addr} {c : Value} (h : W.cell? a = some c) : ∃ g o, a = ⟨g, o, none⟩ ∧ g < W.heap.size := by
  have hlt := World.block_lt_of_cell? W a h
  have hsp : a.spot = none := by
    cases hs : a.spot with
    | none => rfl
    | some x =>
      exfalso
      unfold World.cell? at h
      rw [hs] at h
      split at h
      · simp at h
      · cases h
  obtain ⟨g, o, sp⟩ := a
  simp only at hsp hlt
  subst hsp
  exact ⟨g, o, rfl, hlt⟩
theorem add_none (g o j : Nat) : (⟨g, o, none⟩ : Addr).add j = ⟨g, o + j, none⟩ := by unfold Addr.add; split <;> simp_all
theorem intA_of {fuel : Nat} {c : Value} {x : DataW H × List MemPlace} (h : DataW.trod enc Tryz.prog W 0 (fun _ => true) held fuel 27 [c] = some x) : ∃ l, IntA W c l := by
  rcases open_ints Tryz.underlying27 Tryz.underlying3 (by kernel_rfl) h with ⟨hc, _⟩ | ⟨a, len, cap, zs, hc, _, hl, hm, hz, _, hcell, _⟩
  · have hc' : c = .slice none 0 0 := by simpa using hc
    subst hc'
    exact ⟨[], none, 0, rfl, by simp, fun _ => rfl, .inl rfl⟩
  · have hc' : c = .slice (some a) len cap := by simpa using hc
    subst hc'
    have hzl : zs.length = cap := by simpa using hz
    have htl : (zs.take len).length = len := by rw [List.length_take]; omega
    unfold maxLen at hm
    refine ⟨zs.take len, some a, cap, by rw [htl], by omega, (fun h => by cases h), ?_⟩
    rcases Nat.eq_zero_or_pos len with h0 | h0
    · left; rw [h0]; rfl
    · right
      have c0 := hcell 0 (by omega)
      rw [show a.add 0 = a from rfl] at c0
      obtain ⟨g, o, rfl, hlt⟩ := spot_none c0
      refine ⟨g, o, rfl, hlt, fun j hj => ?_⟩
      rw [htl] at hj
      have cj := hcell j (by omega)
      rw [add_none] at cj
      rw [cj, List.getElem_take, List.getD_eq_getElem?_getD, List.getElem?_eq_getElem (by omega)]
      rfl
theorem entA_of {fuel : Nat} {c : Value} {x : DataW H × List MemPlace} (h : DataW.trod enc Tryz.prog W 0 (fun _ => true) held fuel 55 [c] = some x) : ∃ l, EntA W c l ∧ ∀ e ∈ l, e.2.length ≤ 9223372036854775807 := by
  rcases open_slice Tryz.underlying55 h with ⟨hc, _⟩ | ⟨a, len, cap, m, n, D, Pl, hc, _, hl, hm, hmm, _, hi⟩
  · have hc' : c = .slice none 0 0 := by simpa using hc
    subst hc'
    exact ⟨[], ⟨none, 0, rfl, by simp, fun _ => rfl, .inl rfl⟩, fun _ h => by cases h⟩
  · have hc' : c = .slice (some a) len cap := by simpa using hc
    subst hc'
    have hmc : m = cap := by simpa using hmm
    subst hmc
    unfold maxLen at hm
    have each : ∀ i, i < len → ∃ e : P.Ent, ∃ x, W.cell? (a.add (i * 2)) = some x ∧ W.cell? (a.add (i * 2 + 1)) = some (.string (S e.2)) ∧ IntA W x e.1 ∧ e.2.length ≤ 9223372036854775807 := by
      intro i hil
      obtain ⟨cs, hcs, ht⟩ := hi i (by omega)
      rw [show Tryz.prog.cellsOf 79 = 2 by kernel_rfl] at hcs
      obtain ⟨_, hcl, hat⟩ := World.cells?_some hcs
      obtain ⟨xs, n', _, _, _, hxl, hf⟩ := DataW.trod_struct Tryz.underlying79 ht
      match cs, hcl with
      | [c0, c1], _ =>
        have a0 := hat 0 (by omega)
        have a1 := hat 1 (by omega)
        rw [add_add] at a0 a1
        have f0 := hf 0 _ rfl
        have f1 := hf 1 _ rfl
        simp only [List.getElem_toArray, List.getElem_cons_zero, List.getElem_cons_succ] at f0 f1
        rw [show Tryz.prog.cellsOf 27 = 1 by kernel_rfl] at f0
        rw [show Tryz.prog.cellsOf 9 = 1 by kernel_rfl] at f1
        have hx2 : xs.length = 2 := hxl
        rw [List.getElem?_eq_getElem (by omega)] at f0 f1
        obtain ⟨l, hl'⟩ := intA_of (show DataW.trod enc Tryz.prog W 0 (fun _ => true) held n' 27 [c0] = some _ from f0)
        obtain ⟨s, hs, _, hw⟩ := DataW.trod_string Tryz.underlying9 (show DataW.trod enc Tryz.prog W 0 (fun _ => true) held n' 9 [c1] = some _ from f1)
        obtain ⟨t, rfl⟩ := exists_S s
        have hs' : c1 = .string (S t) := by simpa using hs
        subst hs'
        rw [S_size] at hw
        unfold maxLen at hw
        exact ⟨(l, t), c0, by simpa using a0, by simpa using a1, hl', hw⟩
    obtain ⟨f, hf⟩ := choose_lt each
    have htl : ((List.range len).map f).length = len := by simp
    refine ⟨(List.range len).map f, ⟨some a, m, by rw [htl], by omega, (fun h => by cases h), ?_⟩, fun e he => ?_⟩
    · rcases Nat.eq_zero_or_pos len with h0 | h0
      · left; rw [h0]; rfl
      · right
        obtain ⟨x, c0, _⟩ := hf 0 h0
        rw [Nat.zero_mul, show a.add 0 = a from rfl] at c0
        obtain ⟨g, o, rfl, hlt⟩ := spot_none c0
        refine ⟨g, o, rfl, hlt, fun j hj => ?_⟩
        rw [htl] at hj
        obtain ⟨x, d0, d1, d2, _⟩ := hf j hj
        rw [add_none] at d0 d1
        simp only [List.getElem_map, List.getElem_range]
        exact ⟨x, d0, d1, d2⟩
    · obtain ⟨i, hi', rfl⟩ := List.mem_map.1 he
      obtain ⟨_, _, _, _, hw⟩ := hf i (List.mem_range.1 hi')
      exact hw
theorem dict_of {base : Nat} {v : Value} {d : DataW H} {ps : List MemPlace} (hval : Value.okWide Tryz.prog W .any base 57 v) (hd : DataW.Trod enc Tryz.prog W 0 (fun _ => true) held 57 v d ps) :
    ∃ dv l, v = .agg #[dv] ∧ EntA W dv l ∧ ∀ e ∈ l, e.2.length ≤ 9223372036854775807 := by
  obtain ⟨cs, rfl, hsz⟩ := okWide_struct Tryz.underlying57 hval
  rw [show Tryz.prog.cellsOf 57 = 1 by kernel_rfl] at hsz
  obtain ⟨cl⟩ := cs
  match cl, hsz with
  | [c0], _ =>
    obtain ⟨fuel, hf⟩ := hd
    obtain ⟨xs, n', _, _, _, hxl, hg⟩ := DataW.trod_struct Tryz.underlying57 hf
    have f0 := hg 0 _ rfl
    simp only [List.getElem_toArray, List.getElem_cons_zero] at f0
    rw [show Tryz.prog.cellsOf 55 = 1 by kernel_rfl] at f0
    have hx1 : xs.length = 1 := hxl
    rw [List.getElem?_eq_getElem (by omega)] at f0
    obtain ⟨l, hl, hw⟩ := entA_of (show DataW.trod enc Tryz.prog W 0 (fun _ => true) held n' 55 [c0] = some _ from f0)
    exact ⟨c0, l, rfl, hl, hw⟩
end
end
end Go.Proofs.YtpkahblajgaemaaGreatDoor
namespace Go.Proofs.YtpkahblajgaemaaGreatDoor
open Go Go.RowKit Go.ChangeShapes Go.WideShapes Go.ChangeAt Go.Deep
set_option maxRecDepth 100000
section
variable {H : Type} {enc : TypeId × Value → H} {W : World} {held : Bool}
theorem entry_of {base : Nat} {v : Value} {d : DataW H} {ps : List MemPlace} (hval : Value.okWide Tryz.prog W .any base 79 v) (hd : DataW.Trod enc Tryz.prog W 0 (fun _ => true) held 79 v d ps) :
    ∃ x o t, v = .agg #[x, .string (S t)] ∧ IntA W x o ∧ t.length ≤ 9223372036854775807 := by
  obtain ⟨cs, rfl, hsz⟩ := okWide_struct Tryz.underlying79 hval
  rw [show Tryz.prog.cellsOf 79 = 2 by kernel_rfl] at hsz
  obtain ⟨cl⟩ := cs
  match cl, hsz with
  | [c0, c1], _ =>
    obtain ⟨fuel, hf⟩ := hd
    obtain ⟨xs, n', _, _, _, hxl, hg⟩ := DataW.trod_struct Tryz.underlying79 hf
    have f0 := hg 0 _ rfl
    have f1 := hg 1 _ rfl
    simp only [List.getElem_toArray, List.getElem_cons_zero, List.getElem_cons_succ] at f0 f1
    rw [show Tryz.prog.cellsOf 27 = 1 by kernel_rfl] at f0
    rw [show Tryz.prog.cellsOf 9 = 1 by kernel_rfl] at f1
    have hx2 : xs.length = 2 := hxl
    rw [List.getElem?_eq_getElem (by omega)] at f0 f1
    obtain ⟨l, hl'⟩ := intA_of (show DataW.trod enc Tryz.prog W 0 (fun _ => true) held n' 27 [c0] = some _ from f0)
    obtain ⟨s, hs, _, hw⟩ := DataW.trod_string Tryz.underlying9 (show DataW.trod enc Tryz.prog W 0 (fun _ => true) held n' 9 [c1] = some _ from f1)
    obtain ⟨t, rfl⟩ := exists_S s
    have hs' : c1 = .string (S t) := by simpa using hs
    subst hs'
    rw [S_size] at hw
    unfold maxLen at hw
    exact ⟨c0, l, t, rfl, hl', hw⟩
theorem translator_of {base : Nat} {v : Value} {d : DataW H} {ps : List MemPlace} (hval : Value.okWide Tryz.prog W .any base 58 v) (hd : DataW.Trod enc Tryz.prog W 0 (fun _ => true) held 58 v d ps) :
    ∃ x o t, v = .agg #[x, .string (S t)] ∧ IntA W x o ∧ t.length ≤ 9223372036854775807 := by
  obtain ⟨cs, rfl, hsz⟩ := okWide_struct Tryz.underlying58 hval
  rw [show Tryz.prog.cellsOf 58 = 2 by kernel_rfl] at hsz
  obtain ⟨cl⟩ := cs
  match cl, hsz with
  | [c0, c1], _ =>
    obtain ⟨fuel, hf⟩ := hd
    obtain ⟨xs, n', _, _, _, hxl, hg⟩ := DataW.trod_struct Tryz.underlying58 hf
    have f0 := hg 0 _ rfl
    have f1 := hg 1 _ rfl
    simp only [List.getElem_toArray, List.getElem_cons_zero, List.getElem_cons_succ] at f0 f1
    rw [show Tryz.prog.cellsOf 27 = 1 by kernel_rfl] at f0
    rw [show Tryz.prog.cellsOf 9 = 1 by kernel_rfl] at f1
    have hx2 : xs.length = 2 := hxl
    rw [List.getElem?_eq_getElem (by omega)] at f0 f1
    obtain ⟨l, hl'⟩ := intA_of (show DataW.trod enc Tryz.prog W 0 (fun _ => true) held n' 27 [c0] = some _ from f0)
    obtain ⟨s, hs, _, hw⟩ := DataW.trod_string Tryz.underlying9 (show DataW.trod enc Tryz.prog W 0 (fun _ => true) held n' 9 [c1] = some _ from f1)
    obtain ⟨t, rfl⟩ := exists_S s
    have hs' : c1 = .string (S t) := by simpa using hs
    subst hs'
    rw [S_size] at hw
    unfold maxLen at hw
    exact ⟨c0, l, t, rfl, hl', hw⟩
end
end Go.Proofs.YtpkahblajgaemaaGreatDoor
