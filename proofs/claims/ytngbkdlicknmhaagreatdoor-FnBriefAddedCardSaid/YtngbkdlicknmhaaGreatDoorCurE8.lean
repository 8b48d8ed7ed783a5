/- From a law's contract to its row: what is the same for every law. The library's variables at a row's first world (a dictionary seat); a world for the witnesses. Rows of ints and of entries, out of a row's own reading of its arguments. -/
import Derived.ProofKit
import Derived.OpenShut
import Derived.Deep.DeepHandedRow
import Derived.Lib.LaidTab
import Derived.Lib.SmallJoins
import Derived.ChangeSlices
import Derived.Deep.Slices
import Derived.Deep.Fields
import Derived.Test.YtngbkdlicknmhaaGreatDoorCards
import Derived.Test.YtngbkdlicknmhaaGreatDoorTie
import Derived.Test.YtngbkdlicknmhaaGreatDoorD0
import Derived.Test.YtngbkdlicknmhaaGreatDoorLawD
import Derived.Test.YtngbkdlicknmhaaGreatDoorCurD
import Derived.Test.YtngbkdlicknmhaaGreatDoorCurE7
namespace Go.Proofs.YtngbkdlicknmhaaGreatDoor
section
open Go Go.RowKit Go.ChangeShapes Go.WideShapes Go.ChangeAt
section
variable {H : Type} {enc : TypeId × Value → H} {P : Program}
theorem trodAll_below (hl : laidOutB P = true) {W W' : World} (hb : Below W.heap.size W W') : ∀ (ts : List TypeId) (vs : List Value) (ds : List (DataW H)) (ps : List MemPlace),
    (∀ t ∈ ts, P.readableRec t = true ∧ t < P.types.size) → DataW.TrodAll enc P W 0 (fun _ => true) true ts vs ds ps → (∀ x ∈ ps, x.block < W.heap.size) →
    DataW.TrodAll enc P W' 0 (fun b => decide (b < W.heap.size)) true ts vs ds ps
  | [], [], [], _, _, h, _ => h
  | t :: ts, v :: vs, d :: ds, ps, hr, h, hlt => by
    obtain ⟨p, q, h1, h2, rfl⟩ := h
    exact ⟨p, q, Below.trod hl (hr t (by simp)).1 (hr t (by simp)).2 h1 hb (fun x hx => hlt x (by simp [hx])),
      trodAll_below hl hb ts vs ds q (fun t ht => hr t (by simp [ht])) h2 (fun x hx => hlt x (by simp [hx])), rfl⟩
  | [], _ :: _, _, _, _, h, _ => h.elim
  | [], [], _ :: _, _, _, h, _ => h.elim
  | _ :: _, [], _, _, _, h, _ => h.elim
  | _ :: _, _ :: _, [], _, _, h, _ => h.elim
/-- A law that answers true and leaves what was there as it was. -/
theorem law_post {f : Func} {s : ChangeSpec} {W W' : World} {args : Array Value} {ds gs : List (DataW H)} {before : List MemPlace} {tb : TypeId}
    (hl : laidOutB P = true) (hr : ∀ t ∈ f.params.toList, P.readableRec t = true ∧ t < P.types.size) (hres : f.resultTypes = #[tb]) (htb : P.underlying tb = some .bool)
    (hvars : s.vars = []) (hfn : s.fn H (ds ++ []) = { results := [.lit (.bool true)], args := ds })
    (hW : DataW.Whole enc P f.params.toList s.vars false W args.toList ds gs before) (hb : Below W.heap.size W W') :
    s.post enc P f false true false false W args (.bool true) W' := by
  have hW' := hW
  obtain ⟨p, q, hA, hV, rfl, hfz, hnd⟩ := hW
  have hlt : ∀ x ∈ p, x.block < W.heap.size := fun x hx => hW'.lt x (by simp [hx])
  have hA2 := trodAll_below hl hb _ _ _ _ hr hA hlt
  rw [hvars] at hV
  have hg : gs = [] ∧ q = [] := by
    cases gs with
    | nil => exact ⟨rfl, hV⟩
    | cons _ _ => exact hV.elim
  obtain ⟨rfl, rfl⟩ := hg
  refine ⟨ds, [], _, [], p, [], hW', ?_, ?_, ?_, hb.frame _, fun h => by cases h⟩
  · rw [hfn, hres]
    exact trodAll_cons_mk (shut_bool htb true) trodAll_mk0
  · rw [hfn]; exact hA2
  · rw [hfn, hvars]; rfl
end
theorem boolT : Tryz.prog.underlying 4 = some .bool := Tryz.underlying4
theorem laidOut : laidOutB Tryz.prog = true := by kernel_rfl
end
section
open Go Go.RowKit
theorem env_of {α : Prop} {W : World} (hsh : W.ShapedOpen Tryz.prog) (_ : α) : Env W := by
  obtain ⟨m, hc⟩ : ∃ m, W.cell? ⟨0, 0, none⟩ = some (.int .i64 m) :=
    Go.Proofs.cell_of_shapedOpen_int (zero := #[.int .i64 0]) (t := 3) hsh (of_decide_eq_true (by kernel_rfl)) (by kernel_rfl) rfl (by kernel_rfl) (by kernel_rfl) Tryz.underlying3
  have h1 : 0 < W.heap.size := World.block_lt_of_cell? W _ hc
  exact ⟨by unfold EB; omega, m, hc⟩
def ranges : List Int := [128, 191, 160, 191, 128, 159, 144, 191, 128, 143, 0, 0, 0, 0, 0, 0, 0, 0, 0, 0, 0, 0, 0, 0, 0, 0, 0, 0, 0, 0, 0, 0]
def setTab (g : Nat) (k : IntKind) (l : List Int) (h : Array Obj) : Array Obj := h.modify g fun
  | .cells _ t frozen => .cells (l.map fun z => Value.int k z).toArray t frozen
  | o => o
noncomputable def laidWorld (os : Os) : World :=
  { World.holding Tryz.prog os ⟨#[], #[], []⟩ with heap := setTab 1 .u8 (Go.Pinned.utf8FirstZ.map Int.ofNat) (setTab 2 .u8 ranges (World.holding Tryz.prog os ⟨#[], #[], []⟩).heap) }
theorem own : ownKnob Tryz.prog.godebug = none := by kernel_rfl
end
section
open Go Go.RowKit Go.ChangeShapes Go.WideShapes Go.ChangeAt Go.Deep
set_option maxRecDepth 100000
section
variable {H : Type} {enc : TypeId × Value → H} {W : World} {held : Bool}
end
end
end Go.Proofs.YtngbkdlicknmhaaGreatDoor

namespace Go.Proofs.YtngbkdlicknmhaaGreatDoor
open Go Go.RowKit Go.ChangeShapes Go.WideShapes Go.ChangeAt
set_option maxRecDepth 100000
/-- a slice of bytes, however long -/
def CodeAny (w : World) (v : Value) : Prop :=
  ∃ (ad : Option Addr) (n cap : Nat), v = .slice ad n cap ∧ n ≤ maxLen ∧ (n = 0 ∨ ∃ g o, ad = some ⟨g, o, none⟩ ∧ g < w.heap.size ∧ ∀ j, j < n → ∃ b : Nat, b < 256 ∧ w.cell? ⟨g, o + j, none⟩ = some (.int .u8 b))
theorem code_of {H : Type} {enc : TypeId × Value → H} {W : World} {base : Nat} {held : Bool} {v : Value} {d : DataW H} {ps : List MemPlace}
    (hval : Value.okWide Tryz.prog W .any base 22 v) (hd : DataW.Trod enc Tryz.prog W 0 (fun _ => true) held 22 v d ps) : CodeAny W v := by
  obtain ⟨a0, len, cap, rfl⟩ := okWide_slice Tryz.underlying22 hval
  obtain ⟨fuel, hf⟩ := hd
  rcases open_ints Tryz.underlying22 Tryz.underlying5 (by kernel_rfl) hf with ⟨hcs, hx⟩ | ⟨a, len', cap', zs, hcs, _, hl, hm, hz, hx, hcell, hwz⟩
  · have hcs' : Value.slice a0 len cap = .slice none 0 0 := by simpa [Value.cells] using hcs
    injection hcs' with h1 h2 h3
    exact ⟨a0, len, cap, rfl, by omega, .inl h2⟩
  · have hcs' : Value.slice a0 len cap = .slice (some a) len' cap' := by simpa [Value.cells] using hcs
    injection hcs' with h1 h2 h3
    subst h1 h2 h3
    refine ⟨_, _, _, rfl, Nat.le_trans hl hm, ?_⟩
    rcases Nat.eq_zero_or_pos len with h0 | h0
    · exact .inl h0
    · right
      have hzl : zs.length = cap := by simpa using hz
      have c0 := hcell 0 (by omega)
      rw [show a.add 0 = a from rfl] at c0
      have hlt := World.block_lt_of_cell? W a c0
      have hsp : a.spot = none := by
        cases hs : a.spot with
        | none => rfl
        | some x =>
          exfalso
          unfold World.cell? at c0
          rw [hs] at c0
          split at c0
          · simp at c0
          · cases c0
      obtain ⟨g, o, sp⟩ := a
      simp only at hsp hlt
      subst hsp
      refine ⟨g, o, rfl, hlt, fun j hj => ?_⟩
      have cj := hcell j (by omega)
      have hwf := hwz (zs.getD j 0) (by rw [List.getD_eq_getElem?_getD, List.getElem?_eq_getElem (by omega)]; exact List.getElem_mem _)
      simp only [Lit.wf, Bool.and_eq_true, decide_eq_true_eq] at hwf
      simp [IntKind.min, IntKind.max, IntKind.signed, IntKind.bits] at hwf
      obtain ⟨b, hb⟩ := Int.eq_ofNat_of_zero_le hwf.1
      refine ⟨b, by omega, ?_⟩
      rw [← hb, ← List.getD_eq_getElem?_getD, ← cj]
      unfold Addr.add
      split
      · rename_i h; rw [h]; rfl
      · rfl
theorem rBig (v : Value) (n : Nat) (ad : Option Addr) (cap : Nat) (hv : v = .slice ad n cap) (hn : n ≤ maxLen) (w : World) :
    Calls Tryz.prog 32 #[v] w fun e w' => e = .returned (.bool (decide (65536 < n))) ∧ w = w' := by
  subst hv
  unfold maxLen at hn
  go_enter Tryz.func32, Tryz.ntmps32
  by_cases h : 65536 < n
  · have h1 : (65536 : Int) < (n : Int) := by omega
    go_wp2
    go_ret
    exact ⟨by simp [h], rfl⟩
  · have h1 : ¬ (65536 : Int) < (n : Int) := by omega
    go_wp2
    go_ret
    exact ⟨by simp, rfl⟩
/-- a slice of bytes that a draw may read -/
def CodeIs (w : World) (v : Value) : Prop :=
  ∃ (ad : Option Addr) (n cap : Nat), v = .slice ad n cap ∧ n ≤ 65536 ∧ (n = 0 ∨ ∃ g o, ad = some ⟨g, o, none⟩ ∧ g < w.heap.size ∧ ∀ j, j < n → ∃ b : Nat, b < 256 ∧ w.cell? ⟨g, o + j, none⟩ = some (.int .u8 b))
theorem CodeIs.fresh {w u : World} {v : Value} {t : TypeId} (h : CodeIs w v) (hb : Below w.heap.size w u) : IsCur w.heap.size u.heap.size 0 (u.alloc (.cells #[v, .int .i64 0, .int .u64 0] t)) := by
  obtain ⟨ad, n, cap, rfl, hn, hc⟩ := h
  refine ⟨ad, n, cap, 0, 0, by go_simp, by go_simp, by go_simp, by go_simp, by go_simp, Nat.le_refl _, hn, by decide, by decide, hb.size, by simp, hc.imp id ?_⟩
  rintro ⟨g, o, h1, h2, h3⟩
  refine ⟨g, o, h1, h2, fun j hj => ?_⟩
  obtain ⟨b, hb1, hb2⟩ := h3 j hj
  have hbb := hb.trans ((Below.refl w.heap.size u).alloc hb.size (.cells #[.slice ad n cap, .int .i64 0, .int .u64 0] t))
  exact ⟨b, hb1, (hbb.cell (p := ⟨g, o + j, none⟩) h2).trans hb2⟩
end Go.Proofs.YtngbkdlicknmhaaGreatDoor

namespace Go.Proofs.YtngbkdlicknmhaaGreatDoor
open Go Go.RowKit
set_option maxHeartbeats 4000000
set_option maxRecDepth 100000
theorem Drawn.each {l : P.Dic} (h : Drawn l) : Small l := h.small
theorem DrawnL.small {l : P.Lays} (h : DrawnL l) : SmallS l := ⟨by have := h.len; omega, fun e he => (h.dics e he).small⟩
/-- how a draw from bytes stands: the stack in block S, a dictionary in the next one -/
structure LSt (K S : Nat) (w : World) (u : Value) (l : P.Lays) (vd : Value) (d : P.Dic) (v : World) : Prop where
  low : w.heap.size + 2 ≤ S
  ls : ReadL (w.heap.size + 2) S v u l
  dr : Drawn d
  ds : ReadE (w.heap.size + 2) S v vd d
  r0 : DBx w.heap.size (.slice none 0 0) v
  bs : DBx S u v
  bd : DBx (S + 1) vd v
  cur : IsCur w.heap.size (w.heap.size + 1) K v
  bel : Below w.heap.size w v
theorem LSt.below {K S : Nat} {w v v' : World} {u vd : Value} {l : P.Lays} {d : P.Dic} (h : LSt K S w u l vd d v) (hb : Below v.heap.size v v') : LSt K S w u l vd d v' := by
  obtain ⟨h0, h1, h2, h3, h4, h5, h6, h7, h8⟩ := h
  have hc : Chg (fun _ => False) v v' := Below.chg hb _
  exact ⟨h0, h1.chg hc (fun _ _ _ h => h), h2, h3.chg hc (fun _ _ _ h => h), h4.below hb, h5.below hb, h6.below hb, h7.below hb, h8.trans (hb.mono h8.size)⟩
theorem LSt.stand {K K' S : Nat} {w v v' : World} {u vd : Value} {l : P.Lays} {d : P.Dic} (h : LSt K S w u l vd d v) (hc : CurPost w.heap.size (w.heap.size + 1) K' v v') : LSt K' S w u l vd d v' := by
  obtain ⟨h0, h1, h2, h3, h4, h5, h6, h7, h8⟩ := h
  exact ⟨h0, h1.chg hc.2 (fun b h1 h2 e => by omega), h2, h3.chg hc.2 (fun b h1 h2 e => by omega), h4.stand hc.2 (by omega), h5.stand hc.2 (by omega), h6.stand hc.2 (by omega), hc.1, h8.trans (hc.2.below h8.size (by rintro b rfl; omega))⟩
theorem LSt.mono {K K' S : Nat} {w v : World} {u vd : Value} {l : P.Lays} {d : P.Dic} (h : LSt K S w u l vd d v) (hK : K ≤ K') : LSt K' S w u l vd d v := ⟨h.1, h.2, h.3, h.4, h.5, h.6, h.7, h.8.mono hK, h.9⟩
theorem LSt.take {K S : Nat} {w v : World} {u vd vd' : Value} {l : P.Lays} {d d' : P.Dic} (h : LSt K S w u l vd d v) (hd : Drawn d') (hr : ReadE (w.heap.size + 2) S v vd' d') : LSt K S w u l vd' d' (v.setCell ⟨S + 1, 0, none⟩ vd') := by
  obtain ⟨h0, h1, h2, h3, h4, h5, h6, h7, h8⟩ := h
  have hc : Chg (fun b => b = S + 1) v (v.setCell ⟨S + 1, 0, none⟩ vd') := (Chg.refl (fun b => b = S + 1) v).setCell (p := ⟨S + 1, 0, none⟩) rfl _
  exact ⟨h0, h1.chg hc (fun b h1 h2 e => by omega), hd, hr.chg hc (fun b h1 h2 e => by omega), h4.stand hc (by omega), h5.stand hc (by omega), h6.put, h7.stand hc (fun b e => by subst e; omega), h8.trans (hc.below h8.size (by rintro b rfl; omega))⟩
/-- behind the draw of stack and dictionary, their boxes made -/
theorem LSt.start {K : Nat} {w w1 : World} {l : P.Lays} {d : P.Dic} {u ud : Value} {t : TypeId} (t1 t2 : TypeId) {c : Value} (hd : Drawn d) (hl : ReadL (((w.alloc (.cells #[.slice none 0 0] t)).alloc (.cells #[c, .int .i64 0, .int .u64 0] 132)).heap.size) w1.heap.size w1 u l)
    (hdr : ReadE (((w.alloc (.cells #[.slice none 0 0] t)).alloc (.cells #[c, .int .i64 0, .int .u64 0] 132)).heap.size) w1.heap.size w1 ud d)
    (hc : CurPost w.heap.size (w.heap.size + 1) K ((w.alloc (.cells #[.slice none 0 0] t)).alloc (.cells #[c, .int .i64 0, .int .u64 0] 132)) w1) :
    LSt K w1.heap.size w u l ud d ((w1.alloc (.cells #[u] t1)).alloc (.cells #[ud] t2)) := by
  have hz := hc.2.size
  have hz2 : w.heap.size + 2 ≤ w1.heap.size := by simp at hz; omega
  have hb0 : Below w.heap.size w ((w.alloc (.cells #[.slice none 0 0] t)).alloc (.cells #[c, .int .i64 0, .int .u64 0] 132)) := ((Below.refl _ _).alloc (Nat.le_refl _) _).alloc (by simp) _
  have hb1 : Below w1.heap.size w1 (w1.alloc (.cells #[u] t1)) := (Below.refl _ _).alloc (Nat.le_refl _) _
  have hb2 : Below w1.heap.size w1 ((w1.alloc (.cells #[u] t1)).alloc (.cells #[ud] t2)) := hb1.alloc (by simp) _
  have hb3 : Below (w1.alloc (.cells #[u] t1)).heap.size (w1.alloc (.cells #[u] t1)) ((w1.alloc (.cells #[u] t1)).alloc (.cells #[ud] t2)) := (Below.refl _ _).alloc (Nat.le_refl _) _
  have hcf : Chg (fun _ => False) w1 ((w1.alloc (.cells #[u] t1)).alloc (.cells #[ud] t2)) := Below.chg hb2 _
  refine ⟨hz2, ?_, hd, ?_, ?_, (DBx.new _ _ _).below hb3, ?_, (hc.1.below hb2), (hb0.trans (hc.2.below (by simp; omega) (by rintro b rfl; omega))).trans (hb2.mono (by omega))⟩
  · refine ReadL.chg ?_ hcf (fun _ _ _ h => h)
    have h := hl; simp at h; exact h
  · refine ReadE.chg ?_ hcf (fun _ _ _ h => h)
    have h := hdr; simp at h; exact h
  · exact (((DBx.new (.slice none 0 0) t w).below ((Below.refl _ _).alloc (Nat.le_refl _) _)).stand hc.2 (by omega)).below hb2
  · have h := DBx.new ud t2 (w1.alloc (.cells #[u] t1)); simpa using h
end Go.Proofs.YtngbkdlicknmhaaGreatDoor
