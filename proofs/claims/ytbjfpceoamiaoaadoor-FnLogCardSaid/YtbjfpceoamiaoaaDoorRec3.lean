/- Walks: rows of records marked. -/
import Derived.Test.YtbjfpceoamiaoaaDoorRec2
namespace Go.Proofs.YtbjfpceoamiaoaaDoor
namespace P
def markAt (k : Int) (j : Nat) : Bs × Bs := (mark (k + 2 * j), mark (k + 2 * j + 1))
/-- what a row of n records holds when it is marked from k on -/
def marks (k : Int) (n : Nat) : List (Bs × Bs) := (List.range n).map (markAt k)
theorem marks_len (k : Int) (n : Nat) : (marks k n).length = n := by simp [marks]
theorem marks_snoc (k : Int) (n : Nat) : marks k (n + 1) = marks k n ++ [markAt k n] := by simp [marks, List.range_succ]
/-- a row that is marked up to i -/
def part (k : Int) (l : List (Bs × Bs)) (i : Nat) : List (Bs × Bs) := marks k i ++ l.drop i
theorem part_len (k : Int) (l : List (Bs × Bs)) (i : Nat) (h : i ≤ l.length) : (part k l i).length = l.length := by simp [part, marks_len]; omega
theorem part_zero (k : Int) (l : List (Bs × Bs)) : part k l 0 = l := by simp [part, marks]
theorem part_all (k : Int) (l : List (Bs × Bs)) : part k l l.length = marks k l.length := by simp [part]
theorem part_set (k : Int) (l : List (Bs × Bs)) (i : Nat) (h : i < l.length) : (part k l i).set i (markAt k i) = part k l (i + 1) := by
  unfold part
  rw [List.set_append_right _ _ (by rw [marks_len]; exact Nat.le_refl _), marks_len, Nat.sub_self, List.drop_eq_getElem_cons h, List.set_cons_zero, marks_snoc, List.append_assoc]
  rfl
end P
open Go Go.RowKit
set_option maxHeartbeats 400000
set_option maxRecDepth 100000
/-- all blocks but one are as they were -/
def Apart (g : Nat) (w w' : World) : Prop :=
  (∀ b o, b < w.heap.size → b ≠ g → w'.cell? ⟨b, o, none⟩ = w.cell? ⟨b, o, none⟩) ∧ (∀ b o, b < w.heap.size → b ≠ g → w'.frozen? ⟨b, o, none⟩ = w.frozen? ⟨b, o, none⟩)
theorem Apart.refl (g : Nat) (w : World) : Apart g w w := ⟨fun _ _ _ _ => rfl, fun _ _ _ _ => rfl⟩
theorem Apart.below {g : Nat} {w v v' : World} (h : Apart g w v) (hsz : w.heap.size ≤ v.heap.size) (hb : Below v.heap.size v v') : Apart g w v' :=
  ⟨fun b o h1 h2 => (hb.cell (p := ⟨b, o, none⟩) (Nat.lt_of_lt_of_le h1 hsz)).trans (h.1 b o h1 h2), fun b o h1 h2 => (hb.frozen (p := ⟨b, o, none⟩) (Nat.lt_of_lt_of_le h1 hsz)).trans (h.2 b o h1 h2)⟩
theorem Apart.set {g o : Nat} {w v : World} (h : Apart g w v) (u : Value) : Apart g w (v.setCell ⟨g, o, none⟩ u) :=
  ⟨fun b o' h1 h2 => (World.cell?_setCell_other _ _ _ _ (by intro e; injection e; omega)).trans (h.1 b o' h1 h2), fun b o' h1 h2 => by rw [← h.2 b o' h1 h2]; simp⟩
theorem RecAt.set1 {g i : Nat} {m : List (Str × Str)} {v : World} (h : RecAt g m v) (hi : i < m.length) (a : Str) : RecAt g (m.set i (a, m[i].2)) (v.setCell ⟨g, i * 2, none⟩ (.string (S a))) := by
  intro j hj
  have hj' : j < m.length := by simpa using hj
  obtain ⟨p1, p2, p3, p4⟩ := h j hj'
  rw [List.getElem_set]
  refine ⟨?_, ?_, by simpa using p3, by simpa using p4⟩
  · by_cases e : i = j
    · subst e; rw [if_pos rfl]; exact World.cell?_setCell_same _ _ _ p1
    · rw [if_neg e, World.cell?_setCell_other _ _ _ _ (by intro e'; injection e'; omega)]; exact p1
  · rw [World.cell?_setCell_other _ _ _ _ (by intro e'; injection e'; omega)]
    by_cases e : i = j
    · subst e; rw [if_pos rfl]; exact p2
    · rw [if_neg e]; exact p2
theorem RecAt.set2 {g i : Nat} {m : List (Str × Str)} {v : World} (h : RecAt g m v) (hi : i < m.length) (a : Str) : RecAt g (m.set i (m[i].1, a)) (v.setCell ⟨g, i * 2 + 1, none⟩ (.string (S a))) := by
  intro j hj
  have hj' : j < m.length := by simpa using hj
  obtain ⟨p1, p2, p3, p4⟩ := h j hj'
  rw [List.getElem_set]
  refine ⟨?_, ?_, by simpa using p3, by simpa using p4⟩
  · rw [World.cell?_setCell_other _ _ _ _ (by intro e'; injection e'; omega)]
    by_cases e : i = j
    · subst e; rw [if_pos rfl]; exact p1
    · rw [if_neg e]; exact p1
  · by_cases e : i = j
    · subst e; rw [if_pos rfl]; exact World.cell?_setCell_same _ _ _ p2
    · rw [if_neg e, World.cell?_setCell_other _ _ _ _ (by intro e'; injection e'; omega)]; exact p2
def MarkPost (B g n : Nat) (l : List (Str × Str)) (k : Int) (w : World) (e : Ending) (w' : World) : Prop :=
  e = .returned (.int .i64 (k + 2 * (n : Int))) ∧ (l = [] ∨ RecAt g (P.marks k n) w') ∧ Apart g w w' ∧ Below B w w'
theorem markRecs (B : Nat) (u : Value) (g : Nat) (l : List (Str × Str)) (k : Int) (w : World) (hk0 : 0 ≤ k) (hk : k ≤ 1000) (h : RowR u g l w) (hl9 : l.length ≤ 1000) (hB : l = [] ∨ B ≤ g) (hBw : B ≤ w.heap.size) :
    Calls Tryd.prog 24 #[u, .int .i64 k] w (MarkPost B g l.length l k w) := by
  obtain ⟨ad, cap, rfl, hl, hr⟩ := h
  have HR := Lib.hid hr; clear hr
  have HBG := Lib.hid hB; clear hB
  obtain ⟨n, hn⟩ : ∃ n, n = l.length := ⟨_, rfl⟩
  have HN := Lib.hid hn
  rw [← hn] at hl9 ⊢
  clear hn hl
  go_enter Tryd.func24, Tryd.ntmps24
  go_wp2
  go_loopw [1, 5] (fun c i wr => ∃ j : Nat, j ≤ n ∧ i = .int .i64 j ∧ c = .int .i64 (k + 2 * (j : Int)) ∧ (l = [] ∨ RecAt g (P.part k l j) wr) ∧ Apart g w wr ∧ Below B w wr ∧ w.heap.size ≤ wr.heap.size) (fun _ i _ => n - (intOf i).toNat)
  case atStart => exact ⟨0, Nat.zero_le _, rfl, by go_num, by rw [P.part_zero]; exact HR.out.imp id (fun h => h.2.2), Apart.refl _ _, Below.refl _ _, Nat.le_refl _⟩
  case round =>
    obtain ⟨j, hj, rfl, rfl, hrec, hap, hb, hsz⟩ := hrel
    have HAP := Lib.hid hap; clear hap
    have HB := Lib.hid hb; clear hb
    by_cases hlt : j < n
    · have hjl : j < l.length := by rw [← HN.out]; exact hlt
      have hg : ad = some ⟨g, 0, none⟩ ∧ g < w.heap.size ∧ RecAt g l w := by
        rcases HR.out with h | h
        · rw [h] at hjl; simp at hjl
        · exact h
      have hra : RecAt g (P.part k l j) wr := by
        rcases hrec with h | h
        · rw [h] at hjl; simp at hjl
        · exact h
      have hBg : B ≤ g := by
        rcases HBG.out with h | h
        · rw [h] at hjl; simp at hjl
        · exact h
      clear hrec
      obtain ⟨rfl, hgl, _⟩ := hg
      have hgr : g < wr.heap.size := by omega
      have hpl : j < (P.part k l j).length := by rw [P.part_len _ _ _ (by omega)]; exact hjl
      have HRA := Lib.hid hra; clear hra
      go_wp2_with fail
      refine (markText _ _ (by omega)).mono ?_
      rintro e w1 ⟨rfl, hb⟩
      have hra1 := HRA.out.carry hb hgr
      have hz1 : g < w1.heap.size := Nat.lt_of_lt_of_le hgr hb.size
      have HAP1 := Lib.hid (HAP.out.below hsz hb)
      have hsz1 : w.heap.size ≤ w1.heap.size := Nat.le_trans hsz hb.size
      have HB1 := Lib.hid (HB.out.trans (hb.mono (by omega)))
      obtain ⟨p1, p2, p3, p4⟩ := hra1 j hpl
      have HRA1 := Lib.hid (hra1.set1 hpl (P.mark (k + 2 * (j : Int))))
      clear hra1 hb
      go_wp2_with fail
      refine (markText _ _ (by omega)).mono ?_
      rintro e w2 ⟨rfl, hb⟩
      have hzz : ∀ (x : Value), (w1.setCell ⟨g, j * 2, none⟩ x).heap.size = w1.heap.size := fun x => by simp
      have hra2 := HRA1.out.carry hb (by rw [hzz]; exact hz1)
      have hsz2 : w1.heap.size ≤ w2.heap.size := by have := hb.size; rw [hzz] at this; exact this
      have HAP2 := Lib.hid ((HAP1.out.set (o := j * 2) (.string (S (P.mark (k + 2 * (j : Int)))))).below (by rw [hzz]; exact hsz1) hb)
      have HB2 := Lib.hid ((HB1.out.setCell (p := ⟨g, j * 2, none⟩) hBg _).trans (hb.mono (by rw [hzz]; omega)))
      have hpl2 : j < ((P.part k l j).set j (P.mark (k + 2 * (j : Int)), (P.part k l j)[j].2)).length := by simpa using hpl
      obtain ⟨q1, q2, q3, q4⟩ := hra2 j hpl2
      have hra3 := hra2.set2 hpl2 (P.mark (k + 2 * (j : Int) + 1))
      have HRA3 := Lib.hid (show RecAt g (P.part k l (j + 1)) (w2.setCell ⟨g, j * 2 + 1, none⟩ (.string (S (P.mark (k + 2 * (j : Int) + 1))))) by
        rw [← P.part_set k l j hjl]
        simpa [P.markAt] using hra3)
      clear hra2 hra3 hb p1 p2 p3 p4 hzz HRA1 HRA
      go_wp2
      go_roundw
      case rel => exact ⟨j + 1, by omega, by go_num, by go_num, .inr HRA3.out, HAP2.out.set _, HB2.out.setCell (p := ⟨g, _, none⟩) hBg _, by simp; omega⟩
      case measure => simp [intOf]; omega
    · obtain rfl : n = j := by omega
      have HREC := Lib.hid (show l = [] ∨ RecAt g (P.marks k n) wr by rw [← show P.part k l n = P.marks k n by rw [HN.out]; exact P.part_all k l]; exact hrec)
      clear hrec
      go_wp2
      go_ret
      exact ⟨rfl, HREC.out, HAP.out, HB.out⟩
end Go.Proofs.YtbjfpceoamiaoaaDoor
