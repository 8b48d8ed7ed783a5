/- Rows of edits of the call's own. -/
import Derived.Test.YtpkahblajgaemaaGreatDoorFldD
import Derived.Test.YtpkahblajgaemaaGreatDoorLawD
import Derived.Test.YtpkahblajgaemaaGreatDoorScrI3
import Derived.Deep.DeepCutAuto
import Derived.Deep.RegionLaw
import Derived.Deep.RegionHeld
import Derived.Test.YtpkahblajgaemaaGreatDoorMemE
import Derived.Test.YtpkahblajgaemaaGreatDoorOutD
import Derived.Test.YtpkahblajgaemaaGreatDoorLayB
import Derived.Test.YtpkahblajgaemaaGreatDoorFold1
import Derived.Test.YtpkahblajgaemaaGreatDoorCurE1
import Derived.Test.YtpkahblajgaemaaGreatDoorEditD
namespace Go.Proofs.YtpkahblajgaemaaGreatDoor
open Go Go.RowKit
set_option maxHeartbeats 2000000
set_option maxRecDepth 100000
/-- a row of edits of the call's own -/
abbrev OwnE (B : Nat) (v : World) (u : Value) (l : List P.Edit) : Prop := v.ownsRow B 38 2 u l.length (atomVals l)
theorem info_edit : (Tryz.prog.info? 38).map (fun i => (i.zero, i.size, i.bytes)) = some (some (.agg #[.int .i64 0, .string ⟨#[]⟩]), 2, 24) := by kernel_rfl
theorem ownE_nil (w : World) : OwnE w.heap.size (w.alloc (.cells #[] 38)) (.slice (some ⟨w.heap.size, 0, none⟩) 0 0) [] := by
  have h := World.ownsRow_lit (base := w.heap.size) (e := 38) (size := 2) w #[] 0 (Nat.le_refl _) (Nat.zero_le _) (by simp)
  have h2 : (w.alloc (.cells #[] 38)).ownsRow w.heap.size 38 2 (.slice (some ⟨w.heap.size, 0, none⟩) 0 0) 0 [] := by simpa using h
  exact h2
theorem ownE_form {B : Nat} {v : World} {u : Value} {l : List P.Edit} (h : OwnE B v u l) : ∃ a c, u = .slice a l.length c := by
  rcases h.2 with ⟨rfl, h0⟩ | ⟨g, cap, cur, rfl, _⟩
  · exact ⟨none, 0, by rw [h0]⟩
  · exact ⟨_, _, rfl⟩
/-- a row of edits and a row of numbers lie in different blocks -/
theorem ed_sep {B C : Nat} {v : World} {u x : Value} {l : List P.Edit} {m : List Int} (h : OwnE B v u l) (k : OwnK C v x m) : u.ownBlock = none ∨ u.ownBlock ≠ x.ownBlock := by
  rcases h.2 with ⟨rfl, _⟩ | ⟨g, _, cur, rfl, _, h1, _⟩
  · exact .inl rfl
  · refine .inr fun hg => ?_
    rcases k.2 with ⟨rfl, _⟩ | ⟨g', _, cur', rfl, _, h2, _⟩
    · cases hg
    · injection hg with hg
      have hg : g = g' := hg
      subst hg
      rw [h1] at h2
      injection h2 with h2
      injection h2 with _ h3 _
      exact absurd h3 (by decide)
theorem ed_sep2 {B C : Nat} {v : World} {u x : Value} {l : List P.Edit} {m : List Int} (h : OwnE B v u l) (k : OwnK C v x m) : x.ownBlock = none ∨ x.ownBlock ≠ u.ownBlock := by
  rcases ed_sep h k with h1 | h1
  · by_cases h2 : x.ownBlock = none
    · exact .inl h2
    · exact .inr fun e => h2 (e.trans h1)
  · exact .inr fun e => h1 e.symm
/-- the block of a row, between two bounds -/
def BetO (lo hi : Nat) (u : Value) : Blk := fun b => (lo ≤ b ∧ b < hi) ∧ u.ownBlock = some b
theorem ownE_flds {B : Nat} {v : World} {u : Value} {l : List P.Edit} (h : OwnE B v u l) (hl : l.length ≤ 2 ^ 30) : Flds v (BetO B v.heap.size u) u l := by
  rcases id h.2 with ⟨rfl, hn⟩ | ⟨g, cap, cur, hv, hg, _, hnc, _⟩
  · rw [List.eq_nil_of_length_eq_zero hn]; exact RowO.nil _ _
  · have hob : u.ownBlock = some g := by rw [hv]; rfl
    have hlt := (World.ownsRow.lt h g hob).2
    refine ⟨some ⟨g, 0, none⟩, cap, hv, hl, ⟨(fun h => by cases h), hnc⟩, .inr ⟨g, 0, fun _ _ => False, fun j => [.int .i64 (l.getD j (0, [])).1, .string (S (l.getD j (0, [])).2)], rfl, ⟨⟨⟨hg, hlt⟩, hob⟩, fun b hb => hb.1.2, fun j hj => ?_, fun _ _ => rfl, fun j hj => ?_, fun _ _ _ h => h.elim, fun _ _ _ _ _ h _ => h⟩⟩⟩
    · subst hv
      rw [Nat.zero_add]
      obtain ⟨e1, e2⟩ := getElem_atomVals l j hj
      have ed : l.getD j (0, []) = l[j] := by rw [List.getD_eq_getElem?_getD, List.getElem?_eq_getElem hj]; rfl
      intro i hi
      match i, hi with
      | 0, _ =>
        refine ⟨(World.ownsRow.cellAt h (j * 2) (by omega)).trans ?_, World.ownsRow.frozenAt h _⟩
        rw [e1, ed]; rfl
      | 1, _ =>
        refine ⟨(World.ownsRow.cellAt h (j * 2 + 1) (by omega)).trans ?_, World.ownsRow.frozenAt h _⟩
        rw [e2, ed]; rfl
      | i + 2, hi => exact absurd hi (by simp)
    · show _ = _
      have ed : l.getD j (0, []) = l[j] := by rw [List.getD_eq_getElem?_getD, List.getElem?_eq_getElem hj]; rfl
      rw [ed]
theorem ownK_ints {B : Nat} {v : World} {u : Value} {l : List Int} (h : OwnK B v u l) (hl : l.length ≤ 2 ^ 30) : Ints v (BetO B v.heap.size u) u l := by
  rcases id h.2 with ⟨rfl, h0⟩ | ⟨g, cap, cur, hv, hg, hh, hnc, _⟩
  · rw [List.eq_nil_of_length_eq_zero h0]
    exact RowO.nil _ _
  · have hob : u.ownBlock = some g := by rw [hv]; rfl
    have hlt := (World.ownsRow.lt h g hob).2
    have hBl : BetO B v.heap.size u g := ⟨⟨hg, hlt⟩, hob⟩
    subst hv
    refine ints_of_cel (fun j hj => ?_) hBl (fun b hb => hb.1.2) hl hnc
    have hj' : j < l.length := by simpa using hj
    have e := World.ownsRow.cellAt h j (by omega)
    rw [List.getElem?_eq_getElem hj] at e
    rw [Nat.zero_add]
    exact ⟨e, World.ownsRow.frozenAt h j⟩
end Go.Proofs.YtpkahblajgaemaaGreatDoor

namespace Go.Proofs.YtpkahblajgaemaaGreatDoor
open Go Go.RowKit
set_option maxHeartbeats 2000000
set_option maxRecDepth 100000
theorem szTranslator (u : Value) (l : List Int) (t : Str) (left : Int) (w : World) (hu : IntA w u l) (ht : t.length ≤ 9223372036854775807) (h0 : 0 ≤ left) (h1 : left ≤ 2 ^ 20) :
    Calls Tryz.prog 29 #[.agg #[u, .string (S t)], .int .i64 left] w (SzPost left (l.length + t.length) w) := by
  have hb0 := (Below.refl w.heap.size w).alloc (Nat.le_refl _) (.cells #[u, .string (S t)] 58)
  have HU := Lib.hid (hu.below hb0); have HB0 := Lib.hid hb0; clear hb0
  obtain ⟨ad, cap, rfl, hl, _⟩ := hu
  go_enter Tryz.func29, Tryz.ntmps29
  go_wp2_with fail
  refine (szIntS _ l left _ HU.out h0 h1).mono ?_
  rintro e w1 ⟨⟨r, rfl, hr1, hr2⟩, hb⟩
  have hz := grew0 hb
  obtain ⟨hcc, _⟩ := bcell hb
  have c1 : w1.cell? ⟨w.heap.size, 1, none⟩ = some (.string (S t)) := by rw [hcc _ _ (by simp)]; go_simp
  have HB1 := Lib.hid (HB0.out.trans (hb.mono (by simp)))
  clear hb hcc
  have HR := Lib.hid hr2; clear hr2
  by_cases hlt : r < 0
  · go_wp2
    go_ret
    exact ⟨⟨-1, rfl, by omega, by omega⟩, HB1.out⟩
  · have hr3 : r ≤ 2 ^ 20 := by have := HR.out (by omega); omega
    have hr0 : 0 ≤ r := by omega
    by_cases hlt2 : r - (t.length : Int) < 0
    · go_wp2
      go_ret
      exact ⟨⟨-1, rfl, by omega, by omega⟩, HB1.out⟩
    · go_wp2
      go_ret
      exact ⟨⟨_, rfl, by omega, fun _ => by have := HR.out hr0; omega⟩, HB1.out⟩
theorem toTranslator (u : Value) (l : List Int) (t : Str) (w : World) (hu : IntR w u l) (hl : l.length ≤ 2 ^ 20) :
    Calls Tryz.prog 32 #[.agg #[u, .string (S t)]] w (EntPost l t w) := by
  have hb0 : Below w.heap.size w (((w.alloc (.cells #[u, .string (S t)] 58)).alloc (.cells #[.slice none 0 0, .string (S [])] 32)).alloc (.cells #[.slice none 0 0, .string (S [])] 32)) :=
    (((Below.refl w.heap.size w).alloc (Nat.le_refl _) _).alloc (by simp) _).alloc (by simp; omega) _
  have HU := Lib.hid (hu.below hb0)
  have HB0 := Lib.hid hb0; clear hb0
  obtain ⟨ad, cap, rfl, _, _⟩ := hu
  go_enter Tryz.func32, Tryz.ntmps32
  go_wp2_with fail
  refine (toIntS _ l _ HU.out hl).mono ?_
  rintro e w1 ⟨u', rfl, hI, hb⟩
  have hz : w.heap.size + 2 < w1.heap.size := by have := hb.size; simp at this; omega
  obtain ⟨hcc, hff⟩ := bcell hb
  have c1 : w1.cell? ⟨w.heap.size, 1, none⟩ = some (.string (S t)) := by rw [hcc _ _ (by simp; omega)]; go_simp
  have r0 : w1.cell? ⟨w.heap.size + 1, 0, none⟩ = some (.slice none 0 0) := by rw [hcc _ _ (by simp)]; go_simp
  have r1 : w1.cell? ⟨w.heap.size + 1, 1, none⟩ = some (.string (S [])) := by rw [hcc _ _ (by simp)]; go_simp
  have q0 : w1.cell? ⟨w.heap.size + 2, 0, none⟩ = some (.slice none 0 0) := by rw [hcc _ _ (by simp)]; go_simp
  have q1 : w1.cell? ⟨w.heap.size + 2, 1, none⟩ = some (.string (S [])) := by rw [hcc _ _ (by simp)]; go_simp
  have s0 : w1.frozen? ⟨w.heap.size + 1, 0, none⟩ = false := by rw [hff _ _ (by simp)]; go_simp
  have s1 : w1.frozen? ⟨w.heap.size + 1, 1, none⟩ = false := by rw [hff _ _ (by simp)]; go_simp
  have p0 : w1.frozen? ⟨w.heap.size + 2, 0, none⟩ = false := by rw [hff _ _ (by simp)]; go_simp
  have p1 : w1.frozen? ⟨w.heap.size + 2, 1, none⟩ = false := by rw [hff _ _ (by simp)]; go_simp
  have HI := Lib.hid hI
  have HB1 := Lib.hid (HB0.out.trans (hb.mono (by simp; omega)))
  obtain ⟨ad', cap', rfl, _, _⟩ := hI
  clear hb hcc hff HU HB0
  go_wp2
  refine bodyPost_ret (v := .agg #[.slice ad' l.length cap', .string (S t)]) (by simp [results, Tryz.results32, go_sem, r0, r1]) rfl ⟨_, rfl, ?_, ?_⟩
  · refine (HI.out.stand (X := fun b => b < w.heap.size + 3) intE_ok (((((Chg.refl _ w1).setCell ?_ _).setCell ?_ _).setCell ?_ _).setCell ?_ _) ?_).wide ?_ ?_
    · simp
    · simp
    · simp
    · simp
    · intro b hb; simp [Bet] at hb ⊢; omega
    · intro b hb; simp [Bet, World.setCell] at hb ⊢; omega
    · intro b hb; exact hb.2
  · exact (((HB1.out.setCell (by simp; omega) _).setCell (by simp; omega) _).setCell (by simp) _).setCell (by simp) _
end Go.Proofs.YtpkahblajgaemaaGreatDoor

namespace Go.Proofs.YtpkahblajgaemaaGreatDoor
open Go Go.RowKit
set_option maxHeartbeats 4000000
set_option maxRecDepth 100000
/-- a box of an entry -/
def Box2E (b : Nat) (x : Value) (t : Str) (v : World) : Prop := v.cell? ⟨b, 0, none⟩ = some x ∧ v.cell? ⟨b, 1, none⟩ = some (.string (S t)) ∧ b < v.heap.size
theorem Box2E.stand {b : Nat} {x : Value} {t : Str} {v v' : World} {X : Blk} (h : Box2E b x t v) (hc : Chg X v v') (hX : ¬ X b) : Box2E b x t v' :=
  ⟨(hc.cell (p := ⟨b, 0, none⟩) h.2.2 hX).trans h.1, (hc.cell (p := ⟨b, 1, none⟩) h.2.2 hX).trans h.2.1, Nat.lt_of_lt_of_le h.2.2 hc.size⟩
theorem Box2E.below {b : Nat} {x : Value} {t : Str} {v v' : World} (h : Box2E b x t v) (hb : Below v.heap.size v v') : Box2E b x t v' := h.stand (Below.chg hb fun _ => False) fun h => h
theorem Box2E.new (x : Value) (t : Str) (T : TypeId) (v : World) : Box2E v.heap.size x t (v.alloc (.cells #[x, .string (S t)] T)) := ⟨by go_simp, by go_simp, by simp⟩
end Go.Proofs.YtpkahblajgaemaaGreatDoor

namespace Go.Proofs.YtpkahblajgaemaaGreatDoor
namespace P
theorem press_len (d : Dic) (t : Tr) (k : Int) : (press d t k).1.1.1.length ≤ t.1.length + 1 := by
  have h := next_len t.1 k
  unfold press pressP
  split
  · split
    · exact h
    · exact Nat.zero_le _
  · exact Nat.zero_le _
end P
open Go Go.RowKit
set_option maxHeartbeats 2000000
set_option maxRecDepth 100000
/-- a lemma whose statement its first use tells -/
theorem lem_cut {P Q : Prop} (h : P → Q) (p : P) : Q := h p
theorem RowO.to {α : Type} {E : ElT α} {wd : Nat} (hE : ElOk E) {v v' : World} {lo hi lo' hi' : Nat} {x u : Value} {l : List α} (h : RowO wd E v (BetO lo hi x) u l) (hb : Below v.heap.size v v') (h1 : lo' ≤ lo) (h2 : hi ≤ hi') (h3 : hi' ≤ v'.heap.size) : RowO wd E v' (BetO lo' hi' x) u l :=
  (h.below hE hb).wide (fun _ hb => ⟨⟨Nat.le_trans h1 hb.1.1, Nat.lt_of_lt_of_le hb.1.2 h2⟩, hb.2⟩) (fun _ hb => Nat.lt_of_lt_of_le hb.1.2 h3)
theorem Box2E.set2 {b : Nat} {x y : Value} {t r : Str} {v : World} (h0 : v.cell? ⟨b, 0, none⟩ = some x) (h1 : v.cell? ⟨b, 1, none⟩ = some (.string (S t))) (hz : b < v.heap.size) : Box2E b y r ((v.setCell ⟨b, 0, none⟩ y).setCell ⟨b, 1, none⟩ (.string (S r))) := by
  refine ⟨?_, ?_, by simpa [World.setCell] using hz⟩
  · go_simp
  · go_simp
theorem EBx.new (v : World) : EBx v.heap.size (v.alloc (.cells #[.int .i64 0, .string (S [])] 38)) := ⟨by simp, by go_simp, by go_simp, by go_simp, by go_simp⟩
theorem TBx.stand {b : Nat} {u : Value} {t : Str} {v v' : World} {X : Blk} (h : TBx b u t v) (hc : Chg X v v') (hX : ¬ X b) : TBx b u t v' := by
  obtain ⟨h1, h2, h3, h4, h5⟩ := h
  exact ⟨Nat.lt_of_lt_of_le h1 hc.size, (hc.cell (p := ⟨b, 0, none⟩) h1 hX).trans h2, (hc.cell (p := ⟨b, 1, none⟩) h1 hX).trans h3, (hc.frozen (p := ⟨b, 0, none⟩) h1 hX).trans h4, (hc.frozen (p := ⟨b, 1, none⟩) h1 hX).trans h5⟩
theorem EBx.stand {b : Nat} {v v' : World} {X : Blk} (h : EBx b v) (hc : Chg X v v') (hX : ¬ X b) : EBx b v' := by
  obtain ⟨h1, h2, h3, h4, h5⟩ := h
  exact ⟨Nat.lt_of_lt_of_le h1 hc.size, (hc.cell (p := ⟨b, 0, none⟩) h1 hX).trans h2, (hc.cell (p := ⟨b, 1, none⟩) h1 hX).trans h3, (hc.frozen (p := ⟨b, 0, none⟩) h1 hX).trans h4, (hc.frozen (p := ⟨b, 1, none⟩) h1 hX).trans h5⟩
end Go.Proofs.YtpkahblajgaemaaGreatDoor
