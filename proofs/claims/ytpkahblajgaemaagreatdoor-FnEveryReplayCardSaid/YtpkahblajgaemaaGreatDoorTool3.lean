/- Walks: folds (program): a list of folds is valid; an outline folded. -/
import Derived.Deep.DeepCutAuto
import Derived.Deep.RegionHeld
import Derived.Test.YtpkahblajgaemaaGreatDoorFold1
import Derived.Test.YtpkahblajgaemaaGreatDoorValD
import Derived.Test.YtpkahblajgaemaaGreatDoorLawD
import Derived.Test.YtpkahblajgaemaaGreatDoorScrI5
import Derived.Deep.RegionLaw
import Derived.Test.YtpkahblajgaemaaGreatDoorMemE
import Derived.Test.YtpkahblajgaemaaGreatDoorOutD
import Derived.Test.YtpkahblajgaemaaGreatDoorDelA
import Derived.Test.YtpkahblajgaemaaGreatDoorCurE1
import Derived.Test.YtpkahblajgaemaaGreatDoorScrS5
namespace Go.Proofs.YtpkahblajgaemaaGreatDoor
namespace P
end P
open Go Go.RowKit
set_option maxHeartbeats 2000000
set_option maxRecDepth 100000
/-- a slice of folds, as it is read -/
def FldR (v : World) (u : Value) (l : P.Folds) : Prop :=
  ∃ (ad : Option Addr) (cap : Nat), u = .slice ad l.length cap ∧ (l.length ≤ 2 ^ 45 ∧ l.length ≤ cap) ∧ (ad = none → cap = 0) ∧ (l = [] ∨ ∃ g o, ad = some ⟨g, o, none⟩ ∧ g < v.heap.size ∧ ∀ (j : Nat) (h : j < l.length), v.cell? ⟨g, o + j * 2, none⟩ = some (.int .i64 (l[j]'h).1) ∧ v.cell? ⟨g, o + j * 2 + 1, none⟩ = some (.string (S (l[j]'h).2)))
theorem FldR.below {v v' : World} {u : Value} {l : P.Folds} (h : FldR v u l) (hb : Below v.heap.size v v') : FldR v' u l := by
  obtain ⟨ad, cap, h1, h2, hn, h3⟩ := h
  refine ⟨ad, cap, h1, h2, hn, h3.imp id ?_⟩
  rintro ⟨g, o, h4, h5, h6⟩
  refine ⟨g, o, h4, Nat.lt_of_lt_of_le h5 hb.size, fun j hj => ?_⟩
  obtain ⟨a, b⟩ := h6 j hj
  exact ⟨(hb.cell (p := ⟨g, _, none⟩) h5).trans a, (hb.cell (p := ⟨g, _, none⟩) h5).trans b⟩
theorem FldR.at {v : World} {ad : Option Addr} {n cap : Nat} {l : P.Folds} (h : FldR v (.slice ad n cap) l) (j : Nat) (hj : j < l.length) : ∃ g o, ad = some ⟨g, o, none⟩ ∧ g < v.heap.size ∧ v.cell? ⟨g, o + j * 2, none⟩ = some (.int .i64 (l[j]'hj).1) ∧ v.cell? ⟨g, o + j * 2 + 1, none⟩ = some (.string (S (l[j]'hj).2)) := by
  obtain ⟨ad', cap', he, _, _, h3⟩ := h
  injection he with h1 h2 h4
  rcases h3 with h3 | ⟨g, o, h5, h6, h7⟩
  · rw [h3] at hj; exact absurd hj (Nat.not_lt_zero _)
  · exact ⟨g, o, h1.trans h5, h6, h7 j hj⟩
end Go.Proofs.YtpkahblajgaemaaGreatDoor

namespace Go.Proofs.YtpkahblajgaemaaGreatDoor
namespace P
end P
open Go Go.RowKit
set_option maxHeartbeats 2000000
set_option maxRecDepth 100000
/-- a fold in a row -/
def foldE : ElT P.Fold := fun _ _ cs f => cs = [.int .i64 f.1, .string (S f.2)]
abbrev Flds := RowO 2 foldE
theorem Flds.read {v : World} {F : Blk} {u : Value} {l : P.Folds} (h : Flds v F u l) : FldR v u l := by
  obtain ⟨ad, cap, h1, h2, hn, h3⟩ := h
  refine ⟨ad, cap, h1, ⟨by omega, hn.2⟩, hn.1, h3.imp id ?_⟩
  rintro ⟨g, o, G, C, h4, h5⟩
  refine ⟨g, o, h4, h5.lt _ h5.own, fun j hj => ?_⟩
  have he : C j = _ := h5.el j hj
  have hc := (h5.cel j hj 0 (by rw [he]; simp)).1
  have hd := (h5.cel j hj 1 (by rw [he]; simp)).1
  simp only [he, List.getElem_cons_zero, List.getElem_cons_succ, Nat.add_zero] at hc hd
  exact ⟨hc, hd⟩
/-- what region 6 of eqFoldS keeps -/
def KF (w : World) (c p g q : Nat) (n : Int) (et : Str) (v : World) : Prop :=
  v.cell? ⟨c, p, none⟩ = some (.int .i64 n) ∧ v.cell? ⟨c, p + 1, none⟩ = some (.string (S et)) ∧ v.cell? ⟨g, q, none⟩ = some (.int .i64 n) ∧ v.cell? ⟨g, q + 1, none⟩ = some (.string (S et)) ∧ c < v.heap.size ∧ g < v.heap.size ∧ w.heap.size ≤ v.heap.size ∧ Below w.heap.size w v
theorem KF.step {w v v' : World} {c p g q : Nat} {n : Int} {et : Str} (h : KF w c p g q n et v) (hb : Below v.heap.size v v') : KF w c p g q n et v' := by
  obtain ⟨h1, h2, h3, h4, h5, h6, h9, h10⟩ := h
  exact ⟨(hb.cell (p := ⟨c, p, none⟩) h5).trans h1, (hb.cell (p := ⟨c, p + 1, none⟩) h5).trans h2, (hb.cell (p := ⟨g, q, none⟩) h6).trans h3, (hb.cell (p := ⟨g, q + 1, none⟩) h6).trans h4,
    Nat.lt_of_lt_of_le h5 hb.size, Nat.lt_of_lt_of_le h6 hb.size, Nat.le_trans h9 hb.size, h10.trans (hb.mono h9)⟩
end Go.Proofs.YtpkahblajgaemaaGreatDoor

namespace Go.Proofs.YtpkahblajgaemaaGreatDoor
open Go Go.RowKit
set_option maxHeartbeats 2000000
set_option maxRecDepth 100000
/-- a row of edits of the call's own -/
abbrev OwnE (B : Nat) (v : World) (u : Value) (l : List P.Edit) : Prop := v.ownsRow B 38 2 u l.length (atomVals l)
theorem info_edit : (Tryz.prog.info? 38).map (fun i => (i.zero, i.size, i.bytes)) = some (some (.agg #[.int .i64 0, .string ⟨#[]⟩]), 2, 24) := by kernel_rfl
theorem ownE_nil (w : World) : OwnE w.heap.size (w.alloc (.cells #[] 38)) (.slice (some ⟨w.heap.size, 0, none⟩) 0 0) [] := by
  have h := World.ownsRow_lit (base := w.heap.size) (e := 38) (size := 2) w #[] 0 (Nat.le_refl _) (Nat.zero_le _) (by simp)
  have h2 : (w.alloc (.cells #[] 38)).ownsRow w.heap.size 38 2 (.slice (some ⟨w.heap.size, 0, none⟩) 0 0) 0 [] := by simpa using h
  exact h2
theorem ownE_form {B : Nat} {v : World} {u : Value} {l : List P.Edit} (h : OwnE B v u l) : ∃ a c, u = .slice a l.length c := by
  rcases h.2 with ⟨rfl, h0⟩ | ⟨g, cap, cur, rfl, _⟩
  · exact ⟨none, 0, by rw [h0]⟩
  · exact ⟨_, _, rfl⟩
/-- a row of edits and a row of numbers lie in different blocks -/
theorem ed_sep {B C : Nat} {v : World} {u x : Value} {l : List P.Edit} {m : List Int} (h : OwnE B v u l) (k : OwnK C v x m) : u.ownBlock = none ∨ u.ownBlock ≠ x.ownBlock := by
  rcases h.2 with ⟨rfl, _⟩ | ⟨g, _, cur, rfl, _, h1, _⟩
  · exact .inl rfl
  · refine .inr fun hg => ?_
    rcases k.2 with ⟨rfl, _⟩ | ⟨g', _, cur', rfl, _, h2, _⟩
    · cases hg
    · injection hg with hg
      have hg : g = g' := hg
      subst hg
      rw [h1] at h2
      injection h2 with h2
      injection h2 with _ h3 _
      exact absurd h3 (by decide)
theorem ed_sep2 {B C : Nat} {v : World} {u x : Value} {l : List P.Edit} {m : List Int} (h : OwnE B v u l) (k : OwnK C v x m) : x.ownBlock = none ∨ x.ownBlock ≠ u.ownBlock := by
  rcases ed_sep h k with h1 | h1
  · by_cases h2 : x.ownBlock = none
    · exact .inl h2
    · exact .inr fun e => h2 (e.trans h1)
  · exact .inr fun e => h1 e.symm
/-- the block of a row, between two bounds -/
def BetO (lo hi : Nat) (u : Value) : Blk := fun b => (lo ≤ b ∧ b < hi) ∧ u.ownBlock = some b
theorem ownE_flds {B : Nat} {v : World} {u : Value} {l : List P.Edit} (h : OwnE B v u l) (hl : l.length ≤ 2 ^ 30) : Flds v (BetO B v.heap.size u) u l := by
  rcases id h.2 with ⟨rfl, hn⟩ | ⟨g, cap, cur, hv, hg, _, hnc, _⟩
  · rw [List.eq_nil_of_length_eq_zero hn]; exact RowO.nil _ _
  · have hob : u.ownBlock = some g := by rw [hv]; rfl
    have hlt := (World.ownsRow.lt h g hob).2
    refine ⟨some ⟨g, 0, none⟩, cap, hv, hl, ⟨(fun h => by cases h), hnc⟩, .inr ⟨g, 0, fun _ _ => False, fun j => [.int .i64 (l.getD j (0, [])).1, .string (S (l.getD j (0, [])).2)], rfl, ⟨⟨⟨hg, hlt⟩, hob⟩, fun b hb => hb.1.2, fun j hj => ?_, fun _ _ => rfl, fun j hj => ?_, fun _ _ _ h => h.elim, fun _ _ _ _ _ h _ => h⟩⟩⟩
    · subst hv
      rw [Nat.zero_add]
      obtain ⟨e1, e2⟩ := getElem_atomVals l j hj
      have ed : l.getD j (0, []) = l[j] := by rw [List.getD_eq_getElem?_getD, List.getElem?_eq_getElem hj]; rfl
      intro i hi
      match i, hi with
      | 0, _ =>
        refine ⟨(World.ownsRow.cellAt h (j * 2) (by omega)).trans ?_, World.ownsRow.frozenAt h _⟩
        rw [e1, ed]; rfl
      | 1, _ =>
        refine ⟨(World.ownsRow.cellAt h (j * 2 + 1) (by omega)).trans ?_, World.ownsRow.frozenAt h _⟩
        rw [e2, ed]; rfl
      | i + 2, hi => exact absurd hi (by simp)
    · show _ = _
      have ed : l.getD j (0, []) = l[j] := by rw [List.getD_eq_getElem?_getD, List.getElem?_eq_getElem hj]; rfl
      rw [ed]
theorem ownE_read {B : Nat} {v : World} {u : Value} {l : List P.Edit} (h : OwnE B v u l) (hl : l.length ≤ 2 ^ 30) : FldR v u l := (ownE_flds h hl).read
end Go.Proofs.YtpkahblajgaemaaGreatDoor

namespace Go.Proofs.YtpkahblajgaemaaGreatDoor
open Go Go.RowKit
set_option maxHeartbeats 4000000
set_option maxRecDepth 100000
/-- a box of an entry -/
def Box2E (b : Nat) (x : Value) (t : Str) (v : World) : Prop := v.cell? ⟨b, 0, none⟩ = some x ∧ v.cell? ⟨b, 1, none⟩ = some (.string (S t)) ∧ b < v.heap.size
theorem Box2E.stand {b : Nat} {x : Value} {t : Str} {v v' : World} {X : Blk} (h : Box2E b x t v) (hc : Chg X v v') (hX : ¬ X b) : Box2E b x t v' :=
  ⟨(hc.cell (p := ⟨b, 0, none⟩) h.2.2 hX).trans h.1, (hc.cell (p := ⟨b, 1, none⟩) h.2.2 hX).trans h.2.1, Nat.lt_of_lt_of_le h.2.2 hc.size⟩
theorem Box2E.below {b : Nat} {x : Value} {t : Str} {v v' : World} (h : Box2E b x t v) (hb : Below v.heap.size v v') : Box2E b x t v' := h.stand (Below.chg hb fun _ => False) fun h => h
theorem Box2E.new (x : Value) (t : Str) (T : TypeId) (v : World) : Box2E v.heap.size x t (v.alloc (.cells #[x, .string (S t)] T)) := ⟨by go_simp, by go_simp, by simp⟩
end Go.Proofs.YtpkahblajgaemaaGreatDoor

namespace Go.Proofs.YtpkahblajgaemaaGreatDoor
namespace P
theorem press_len (d : Dic) (t : Tr) (k : Int) : (press d t k).1.1.1.length ≤ t.1.length + 1 := by
  have h := next_len t.1 k
  unfold press pressP
  split
  · split
    · exact h
    · exact Nat.zero_le _
  · exact Nat.zero_le _
end P
open Go Go.RowKit
set_option maxHeartbeats 2000000
set_option maxRecDepth 100000
theorem RowO.to {α : Type} {E : ElT α} {wd : Nat} (hE : ElOk E) {v v' : World} {lo hi lo' hi' : Nat} {x u : Value} {l : List α} (h : RowO wd E v (BetO lo hi x) u l) (hb : Below v.heap.size v v') (h1 : lo' ≤ lo) (h2 : hi ≤ hi') (h3 : hi' ≤ v'.heap.size) : RowO wd E v' (BetO lo' hi' x) u l :=
  (h.below hE hb).wide (fun _ hb => ⟨⟨Nat.le_trans h1 hb.1.1, Nat.lt_of_lt_of_le hb.1.2 h2⟩, hb.2⟩) (fun _ hb => Nat.lt_of_lt_of_le hb.1.2 h3)
theorem Box2E.set2 {b : Nat} {x y : Value} {t r : Str} {v : World} (h0 : v.cell? ⟨b, 0, none⟩ = some x) (h1 : v.cell? ⟨b, 1, none⟩ = some (.string (S t))) (hz : b < v.heap.size) : Box2E b y r ((v.setCell ⟨b, 0, none⟩ y).setCell ⟨b, 1, none⟩ (.string (S r))) := by
  refine ⟨?_, ?_, by simpa [World.setCell] using hz⟩
  · go_simp
  · go_simp
theorem EBx.new (v : World) : EBx v.heap.size (v.alloc (.cells #[.int .i64 0, .string (S [])] 38)) := ⟨by simp, by go_simp, by go_simp, by go_simp, by go_simp⟩
theorem TBx.stand {b : Nat} {u : Value} {t : Str} {v v' : World} {X : Blk} (h : TBx b u t v) (hc : Chg X v v') (hX : ¬ X b) : TBx b u t v' := by
  obtain ⟨h1, h2, h3, h4, h5⟩ := h
  exact ⟨Nat.lt_of_lt_of_le h1 hc.size, (hc.cell (p := ⟨b, 0, none⟩) h1 hX).trans h2, (hc.cell (p := ⟨b, 1, none⟩) h1 hX).trans h3, (hc.frozen (p := ⟨b, 0, none⟩) h1 hX).trans h4, (hc.frozen (p := ⟨b, 1, none⟩) h1 hX).trans h5⟩
theorem EBx.stand {b : Nat} {v v' : World} {X : Blk} (h : EBx b v) (hc : Chg X v v') (hX : ¬ X b) : EBx b v' := by
  obtain ⟨h1, h2, h3, h4, h5⟩ := h
  exact ⟨Nat.lt_of_lt_of_le h1 hc.size, (hc.cell (p := ⟨b, 0, none⟩) h1 hX).trans h2, (hc.cell (p := ⟨b, 1, none⟩) h1 hX).trans h3, (hc.frozen (p := ⟨b, 0, none⟩) h1 hX).trans h4, (hc.frozen (p := ⟨b, 1, none⟩) h1 hX).trans h5⟩
end Go.Proofs.YtpkahblajgaemaaGreatDoor
