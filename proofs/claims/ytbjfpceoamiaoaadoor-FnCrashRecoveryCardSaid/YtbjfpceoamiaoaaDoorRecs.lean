/- Walks: the records of a log, both ways. -/
import Derived.Test.YtbjfpceoamiaoaaDoorRec4
import Derived.Test.YtbjfpceoamiaoaaDoorSync
namespace Go.Proofs.YtbjfpceoamiaoaaDoor
namespace P
/-- the records of a log, as the reference hands them out -/
def recsS (d p : Bs) (n : Int) : List (Bs × Bs) := if validLog d p n then (openLog (d ++ p)).1 else []
def recsI (d p : Bs) (n : Int) : List (Bs × Bs) := if recordsOk d p n then (readAll (d ++ p)).1 else []
theorem recs_eq (d p : Bs) (n : Int) : recsI d p n = recsS d p n := by unfold recsI recsS; rw [records_valid, openLog_eq]
theorem recs_len (d p : Bs) (n : Int) : (recsS d p n).length ≤ 60 := by
  unfold recsS
  split
  · rw [openLog_eq]; exact (readAll_len _).1
  · simp
end P
open Go Go.RowKit
set_option maxHeartbeats 400000
set_option maxRecDepth 100000
def RecS (d p : Str) (n : Int) (w : World) (e : Ending) (w' : World) : Prop := ∃ v, e = .returned (.tuple #[v, .bool (P.validLog d p n)]) ∧ OwnRecs w.heap.size w' v (P.recsS d p n) ∧ Below w.heap.size w w'
theorem spec_records (d p : Str) (n : Int) (w : World) (hd : d.length ≤ 2 ^ 20) (hp : p.length ≤ 2 ^ 20) :
    Calls Tryd.prog 21 #[logV d p n] w (RecS d p n w) := by
  cases h1 : P.validLog d p n
  · have HF := Lib.hid (show P.recsS d p n = [] by unfold P.recsS; rw [h1]; rfl)
    have HV := Lib.hid h1
    go_enter Tryd.func21, Tryd.ntmps21
    go_wp2_with fail
    refine (l24Log _ _ _ _ hd hp).mono ?_
    rintro e w1 ⟨rfl, hb⟩
    rw [h1]
    have HB := Lib.hid (((Below.refl _ _).alloc (Nat.le_refl _) _).trans (hb.mono (by simp)) : Below w.heap.size w w1)
    have hsz : w.heap.size ≤ w1.heap.size := HB.out.size
    clear hb
    go_wp2
    go_ret2
    exact ⟨.slice (some ⟨w1.heap.size, 0, none⟩) 0 0, by rw [HV.out]; rfl, by rw [HF.out]; exact World.ownsRow_made _ _ _ hsz (by decide) (by rfl), HB.out.alloc hsz _⟩
  · have HF := Lib.hid (show P.recsS d p n = (P.openLog (d ++ p)).1 by unfold P.recsS; rw [h1]; rfl)
    have HV := Lib.hid h1
    go_enter Tryd.func21, Tryd.ntmps21
    go_wp2_with fail
    refine (l24Log _ _ _ _ hd hp).mono ?_
    rintro e w1 ⟨rfl, hb⟩
    rw [h1]
    obtain ⟨hcc, hff⟩ := bcell hb
    have hz := grew0 hb
    have HB := Lib.hid (((Below.refl _ _).alloc (Nat.le_refl _) _).trans (hb.mono (by simp)) : Below w.heap.size w w1)
    have hsz : w.heap.size ≤ w1.heap.size := HB.out.size
    have f1 : ¬ 9223372036854775807 < d.length + p.length := by omega
    clear hb
    go_wp2_with fail
    refine (l24Open _ _ (by simp; omega)).mono ?_
    rintro e w2 ⟨v, rfl, hown, hb⟩
    have HO := Lib.hid hown; clear hown
    have HB2 := Lib.hid (HB.out.trans (hb.mono hsz)); clear hb
    go_wp2
    go_ret2
    exact ⟨v, by rw [HV.out]; rfl, by rw [HF.out]; exact own_base HO.out hsz, HB2.out⟩
def RecI (d p : Str) (n : Int) (w : World) (e : Ending) (w' : World) : Prop := ∃ v, e = .returned (.tuple #[v, .bool (P.recordsOk d p n)]) ∧ OwnRecs w.heap.size w' v (P.recsI d p n) ∧ Below w.heap.size w w'
theorem impl_records (d p : Str) (n : Int) (w : World) (hd : d.length ≤ 2 ^ 20) (hp : p.length ≤ 2 ^ 20) (hE : Env w) :
    Calls Tryd.prog 22 #[logV d p n] w (RecI d p n w) := by
  have HE := Lib.hid hE; clear hE
  cases h1 : P.recordsOk d p n
  · have HF := Lib.hid (show P.recsI d p n = [] by unfold P.recsI; rw [h1]; rfl)
    have HV := Lib.hid h1
    go_enter Tryd.func22, Tryd.ntmps22
    go_wp2_with fail
    refine (records _ _ _ _ hd hp (HE.out.alloc _)).mono ?_
    rintro e w1 ⟨v, rfl, _, hb⟩
    rw [h1]
    have HB := Lib.hid (((Below.refl _ _).alloc (Nat.le_refl _) _).trans (hb.mono (by simp)) : Below w.heap.size w w1)
    clear hb
    go_wp2
    go_ret2
    exact ⟨.slice none 0 0, by rw [HV.out]; rfl, by rw [HF.out]; exact World.ownsRow_nil _ _ _ _, HB.out⟩
  · have HF := Lib.hid (show P.recsI d p n = (P.readAll (d ++ p)).1 by unfold P.recsI; rw [h1]; rfl)
    have HV := Lib.hid h1
    go_enter Tryd.func22, Tryd.ntmps22
    go_wp2_with fail
    refine (records _ _ _ _ hd hp (HE.out.alloc _)).mono ?_
    rintro e w1 ⟨v, rfl, hown, hb⟩
    rw [h1]
    have HO := Lib.hid hown; clear hown
    have HB := Lib.hid (((Below.refl _ _).alloc (Nat.le_refl _) _).trans (hb.mono (by simp)) : Below w.heap.size w w1)
    clear hb
    go_wp2
    go_ret2
    exact ⟨v, by rw [HV.out]; rfl, by rw [HF.out]; exact own_base HO.out (by simp), HB.out⟩
theorem getElem_recVals (l : List (Str × Str)) (j : Nat) (h : j < l.length) : (recVals l)[j * 2]? = some (.string (S l[j].1)) ∧ (recVals l)[j * 2 + 1]? = some (.string (S l[j].2)) := by
  induction l generalizing j with
  | nil => simp at h
  | cons x l ih =>
    cases j with
    | zero => exact ⟨rfl, rfl⟩
    | succ j =>
      have := ih j (by simpa using h)
      simp only [recVals, List.flatMap_cons] at this ⊢
      rw [show (j + 1) * 2 = j * 2 + 1 + 1 by omega]
      simpa using this
theorem own_row {B : Nat} {w : World} {v : Value} {l : List (Str × Str)} (h : OwnRecs B w v l) (hl : l.length ≤ 1000) : ∃ g, RowR v g l w ∧ (l = [] ∨ B ≤ g ∧ g < w.heap.size) := by
  rcases h.2 with ⟨hv, h0⟩ | ⟨g, cap, cur, hv, hg, hh, _⟩
  · have hn := List.eq_nil_of_length_eq_zero h0
    exact ⟨0, ⟨none, 0, by rw [hv, hn]; rfl, by omega, .inl hn⟩, .inl hn⟩
  · have hob : v.ownBlock = some g := by rw [hv]; rfl
    have hlt := (World.ownsRow.lt h g hob).2
    refine ⟨g, ⟨some ⟨g, 0, none⟩, cap, hv, by omega, .inr ⟨rfl, hlt, ?_⟩⟩, .inr ⟨hg, hlt⟩⟩
    intro j hj
    obtain ⟨e1, e2⟩ := getElem_recVals l j hj
    have c1 := World.ownsRow.cells h hob _ _ e1
    have c2 := World.ownsRow.cells h hob _ _ e2
    rw [add0] at c1 c2
    exact ⟨c1, c2, by simp [World.frozen?, hh], by simp [World.frozen?, hh]⟩
theorem RowR.carry {u : Value} {g : Nat} {l : List (Str × Str)} {v v' : World} (h : RowR u g l v) (hb : Below v.heap.size v v') : RowR u g l v' := by
  obtain ⟨ad, cap, h1, h2, h3⟩ := h
  exact ⟨ad, cap, h1, h2, h3.imp id (fun h => ⟨h.1, Nat.lt_of_lt_of_le h.2.1 hb.size, h.2.2.carry hb h.2.1⟩)⟩
theorem RowR.apart {u : Value} {g g' : Nat} {l : List (Str × Str)} {v v' : World} (h : RowR u g l v) (hb : Apart g' v v') (hne : l = [] ∨ g ≠ g') (hz : v.heap.size ≤ v'.heap.size) : RowR u g l v' := by
  obtain ⟨ad, cap, h1, h2, h3⟩ := h
  refine ⟨ad, cap, h1, h2, ?_⟩
  rcases hne with hne | hne
  · exact .inl hne
  · refine h3.imp id (fun h => ⟨h.1, Nat.lt_of_lt_of_le h.2.1 hz, ?_⟩)
    intro j hj
    obtain ⟨a, b, c, d⟩ := h.2.2 j hj
    exact ⟨(hb.1 _ _ h.2.1 hne).trans a, (hb.1 _ _ h.2.1 hne).trans b, (hb.2 _ _ h.2.1 hne).trans c, (hb.2 _ _ h.2.1 hne).trans d⟩
theorem RowR.marked {u : Value} {g : Nat} {l m : List (Str × Str)} {v v' : World} (h : RowR u g l v) (hm : l = [] ∨ RecAt g m v') (hlen : m.length = l.length) (hz : v.heap.size ≤ v'.heap.size) : RowR u g m v' := by
  obtain ⟨ad, cap, h1, h2, h3⟩ := h
  refine ⟨ad, cap, by rw [hlen]; exact h1, by rw [hlen]; exact h2, ?_⟩
  rcases hm with hm | hm
  · left; apply List.eq_nil_of_length_eq_zero; rw [hlen, hm]; rfl
  · rcases h3 with h3 | h3
    · left; apply List.eq_nil_of_length_eq_zero; rw [hlen, h3]; rfl
    · exact .inr ⟨h3.1, Nat.lt_of_lt_of_le h3.2.1 hz, hm⟩
end Go.Proofs.YtbjfpceoamiaoaaDoor
