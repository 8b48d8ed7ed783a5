/- Walks: rows of records compared. -/
import Derived.Test.YtbjfpceoamiaoaaDoorRec1
namespace Go.Proofs.YtbjfpceoamiaoaaDoor
open Go Go.RowKit
set_option maxHeartbeats 400000
set_option maxRecDepth 100000
/-- the records of a block -/
def RecAt (g : Nat) (l : List (Str × Str)) (v : World) : Prop :=
  ∀ (j : Nat) (h : j < l.length), v.cell? ⟨g, j * 2, none⟩ = some (.string (S (l[j]'h).1)) ∧ v.cell? ⟨g, j * 2 + 1, none⟩ = some (.string (S (l[j]'h).2)) ∧ v.frozen? ⟨g, j * 2, none⟩ = false ∧ v.frozen? ⟨g, j * 2 + 1, none⟩ = false
/-- a slice of records, as it is read -/
def RowR (u : Value) (g : Nat) (l : List (Str × Str)) (v : World) : Prop :=
  ∃ ad cap, u = .slice ad l.length cap ∧ l.length < 2 ^ 40 ∧ (l = [] ∨ ad = some ⟨g, 0, none⟩ ∧ g < v.heap.size ∧ RecAt g l v)
theorem RecAt.carry {g : Nat} {l : List (Str × Str)} {v v' : World} (h : RecAt g l v) (hb : Below v.heap.size v v') (hg : g < v.heap.size) : RecAt g l v' := by
  intro j hj
  obtain ⟨a, b, c, d⟩ := h j hj
  exact ⟨(hb.cell (p := ⟨g, _, none⟩) hg).trans a, (hb.cell (p := ⟨g, _, none⟩) hg).trans b, (hb.frozen (p := ⟨g, _, none⟩) hg).trans c, (hb.frozen (p := ⟨g, _, none⟩) hg).trans d⟩
theorem eqRecs (u u' : Value) (g g' : Nat) (l l' : List (Str × Str)) (w : World) (h : RowR u g l w) (h' : RowR u' g' l' w) :
    Calls Tryd.prog 23 #[u, u'] w fun e w' => e = .returned (.bool (decide (l = l'))) ∧ Below w.heap.size w w' := by
  obtain ⟨ad, cap, rfl, hl, hr⟩ := h
  obtain ⟨ad', cap', rfl, hl', hr'⟩ := h'
  have HR := Lib.hid hr; clear hr
  have HR' := Lib.hid hr'; clear hr'
  by_cases hlen : l.length = l'.length
  · have HLEN := Lib.hid hlen
    have hle : (l.length : Int) ≤ l'.length ∧ (l'.length : Int) ≤ l.length := by omega
    obtain ⟨n, hn⟩ : ∃ n, n = l.length := ⟨_, rfl⟩
    rw [← hlen, ← hn]
    have HN := Lib.hid hn
    have hln : n < 2 ^ 40 := by omega
    clear hlen hle hl hl' hn
    go_enter Tryd.func23, Tryd.ntmps23
    go_wp2
    go_loopw [5] (fun i wr => ∃ k : Nat, k ≤ n ∧ i = .int .i64 k ∧ l.take k = l'.take k ∧ Below w.heap.size w wr) (fun i _ => n - (intOf i).toNat)
    case atStart => exact ⟨0, Nat.zero_le _, rfl, by simp, Below.refl _ _⟩
    case round =>
      obtain ⟨k, hk, rfl, heq, hb⟩ := hrel
      have HEQ := Lib.hid heq; clear heq
      have hsz := hb.size
      by_cases hlt : k < n
      · have hkl : k < l.length := by rw [← HN.out]; exact hlt
        have hkl' : k < l'.length := by rw [← HLEN.out, ← HN.out]; exact hlt
        have hg : ad = some ⟨g, 0, none⟩ ∧ g < w.heap.size ∧ RecAt g l w := by
          rcases HR.out with h | h
          · rw [h] at hkl; simp at hkl
          · exact h
        have hg' : ad' = some ⟨g', 0, none⟩ ∧ g' < w.heap.size ∧ RecAt g' l' w := by
          rcases HR'.out with h | h
          · rw [h] at hkl'; simp at hkl'
          · exact h
        obtain ⟨rfl, hgl, hra⟩ := hg
        obtain ⟨rfl, hgl', hra'⟩ := hg'
        obtain ⟨x, hx⟩ : ∃ x, x = l[k] := ⟨_, rfl⟩
        obtain ⟨y, hy⟩ : ∃ y, y = l'[k] := ⟨_, rfl⟩
        obtain ⟨p1, p2, _⟩ := hra k hkl
        obtain ⟨q1, q2, _⟩ := hra' k hkl'
        rw [← hx] at p1 p2
        rw [← hy] at q1 q2
        obtain ⟨x1, x2⟩ := x
        obtain ⟨y1, y2⟩ := y
        have a1 : wr.cell? ⟨g, k * 2, none⟩ = some (.string (S x1)) := (hb.cell (p := ⟨g, _, none⟩) hgl).trans p1
        have a2 : wr.cell? ⟨g, k * 2 + 1, none⟩ = some (.string (S x2)) := (hb.cell (p := ⟨g, _, none⟩) hgl).trans p2
        have b1 : wr.cell? ⟨g', k * 2, none⟩ = some (.string (S y1)) := (hb.cell (p := ⟨g', _, none⟩) hgl').trans q1
        have b2 : wr.cell? ⟨g', k * 2 + 1, none⟩ = some (.string (S y2)) := (hb.cell (p := ⟨g', _, none⟩) hgl').trans q2
        have HX := Lib.hid hx; clear hx
        have HY := Lib.hid hy; clear hy
        have HB := Lib.hid hb; clear hb
        clear hra hra' p1 p2 q1 q2
        go_upto_region 6 with fail
        cases hE : ((x1 == y1) && (x2 == y2))
        · have hne : decide (l = l') = false := by
            rw [decide_eq_false_iff_not]
            intro e
            subst e
            have := HX.out.trans HY.out.symm
            injection this with e1 e2
            subst e1 e2
            simp at hE
          have HF := Lib.hid hne; clear hne
          go_region_law ((go_simp; go_at_call 46; refine (eqLogRecord _ _ _ _ _).mono ?_; rintro e v ⟨rfl, hb⟩; rw [hE]))
          all_goals
            have HV := Lib.hid hb; clear hb
            go_wp2
            go_ret
            exact ⟨by rw [HF.out]; rfl, (HB.out.drew).trans (HV.out.mono hsz)⟩
        · have hst : l.take (k + 1) = l'.take (k + 1) := by
            rw [take_snoc l k hkl, take_snoc l' k hkl', HEQ.out, ← HX.out, ← HY.out]
            simp at hE
            rw [hE.1, hE.2]
          have HST := Lib.hid hst; clear hst
          go_region_law ((go_simp; go_at_call 46; refine (eqLogRecord _ _ _ _ _).mono ?_; rintro e v ⟨rfl, hb⟩; rw [hE]))
          all_goals
            have HV := Lib.hid hb; clear hb
            go_wp2
            go_roundw
            case rel => exact ⟨k + 1, by omega, by go_num, HST.out, (HB.out.drew).trans (HV.out.mono hsz)⟩
            case measure => simp [intOf]; omega
      · have hF : decide (l = l') = true := by
          have e : k = n := by omega
          have := HEQ.out
          rw [e, HN.out, List.take_length, HLEN.out, List.take_length] at this
          exact decide_eq_true this
        have HF := Lib.hid hF; clear hF
        go_wp2
        go_ret
        exact ⟨by rw [HF.out]; rfl, hb⟩
  · have HF := Lib.hid (show decide (l = l') = false from decide_eq_false (fun e => hlen (by rw [e])))
    have hne : ¬ (l.length : Int) = l'.length := by omega
    clear hlen
    go_enter Tryd.func23, Tryd.ntmps23
    go_wp2
    go_ret
    exact ⟨by rw [HF.out]; rfl, Below.refl _ _⟩
end Go.Proofs.YtbjfpceoamiaoaaDoor
