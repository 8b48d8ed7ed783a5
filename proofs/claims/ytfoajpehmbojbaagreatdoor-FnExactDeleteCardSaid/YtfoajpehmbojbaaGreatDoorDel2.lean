/- Walks: an entry taken out of a dictionary (reference). -/
import Derived.Deep.DeepCutAuto
import Derived.Deep.RegionLaw
import Derived.Test.YtfoajpehmbojbaaGreatDoorDel1
import Derived.Test.YtfoajpehmbojbaaGreatDoorSessD
namespace Go.Proofs.YtfoajpehmbojbaaGreatDoor
namespace P
theorem del_erase {o : List Int} : ∀ {l : Dic}, l.Pairwise lt → ∀ i : Nat, place o l = i → l.eraseIdx i = del o l
  | [], _, i, h => by simp [place] at h
  | e :: l, hp, i, h => by
    rw [List.pairwise_cons] at hp
    unfold place at h
    by_cases he : e.1 = o
    · rw [if_pos he] at h
      have hi : i = 0 := by omega
      subst hi
      unfold del
      rw [List.filter_cons_of_neg (by simp [he]), List.filter_eq_self.2]
      · rfl
      · intro x hx
        have := hp.1 x hx
        have hne : x.1 ≠ o := fun hxo => by
          unfold lt at this
          rw [he, hxo, cmp_refl] at this
          exact absurd this (by decide)
        simp [hne]
    · rw [if_neg he] at h
      split at h
      · omega
      · obtain ⟨k, rfl⟩ : ∃ k : Nat, i = k + 1 := ⟨i - 1, by omega⟩
        unfold del
        rw [List.filter_cons_of_pos (by simp [he]), List.eraseIdx_cons_succ, del_erase (o := o) hp.2 k (by omega)]
        rfl
theorem del_up {o : List Int} {l : Dic} (h : dic l = true) : Up (del o l) := by
  unfold dic at h
  simp only [Bool.and_eq_true] at h
  exact up_of_rising (del_rising h.2.2)
theorem pair_of_dic {l : Dic} (h : dic l = true) : l.Pairwise lt := by
  unfold dic at h
  simp only [Bool.and_eq_true] at h
  exact (rising_pair l).1 h.2.2
/-- whether an entry is taken out -/
def delOk (o : List Int) (l : Dic) : Bool := dic l && decide (0 ≤ place o l)
theorem del_len (o : List Int) (l : Dic) : (del o l).length ≤ l.length := List.length_filter_le _ _
theorem del_sub {o : List Int} {l : Dic} {e : Ent} (h : e ∈ del o l) : e ∈ l := (del_mem.1 h).1
end P
open Go Go.RowKit
set_option maxHeartbeats 2000000
set_option maxRecDepth 100000
theorem setCells_size (b : Nat) : ∀ (vs : List Value) (o : Nat) (w : World), (w.setCells b o vs).heap.size = w.heap.size
  | [], _, _ => rfl
  | v :: vs, o, w => by
    show ((w.setCell ⟨b, o, none⟩ v).setCells b (o + 1) vs).heap.size = _
    rw [setCells_size b vs (o + 1) _]; simp [World.setCell]
theorem setCells_other (b : Nat) {k : Nat} (hk : k ≠ b) : ∀ (vs : List Value) (o : Nat) (w : World), (w.setCells b o vs).heap[k]? = w.heap[k]?
  | [], _, _ => rfl
  | v :: vs, o, w => by
    show ((w.setCell ⟨b, o, none⟩ v).setCells b (o + 1) vs).heap[k]? = _
    rw [setCells_other b hk vs (o + 1) _, Below.heap_setCell _ _ _ _ hk]
theorem setCells_chg (b : Nat) : ∀ (vs : List Value) (o : Nat) (w : World), Chg (fun k => k = b) w (w.setCells b o vs)
  | [], _, _ => Chg.refl _ _
  | v :: vs, o, w => ((Chg.refl (fun k => k = b) w).setCell (p := ⟨b, o, none⟩) rfl v).trans (setCells_chg b vs (o + 1) _)
theorem small_del {l : P.Dic} (h : Small l) (o : List Int) : Small (P.del o l) :=
  ⟨Nat.le_trans (P.del_len o l) h.len, fun e he => h.outs e (P.del_sub he), fun e he => h.texts e (P.del_sub he)⟩
section
variable {α : Type} {E : ElT α} {wd : Nat}
theorem getElem_erase (l : List α) (i j : Nat) (hj : j < (l.eraseIdx i).length) (hi : i < l.length) : (l.eraseIdx i)[j] = if h : j < i then l[j]'(by omega) else l[j + 1]'(by rw [List.length_eraseIdx, if_pos hi] at hj; omega) := by
  rw [List.getElem_eraseIdx]
/-- the elements behind one move down onto it -/
theorem RowC.del (hE : ElOk E) {v : World} {F : Blk} {g o : Nat} {G : Nat → Blk} {C : Nat → List Value} {l : List α} (h : RowC wd E v F g o G C l) (i : Nat) (hi : i < l.length) :
    RowC wd E (v.setCells g (o + i * wd) (flat (fun k => C (i + 1 + k)) (l.length - (i + 1)))) F g o (fun j => if j < i then G j else G (j + 1)) (fun j => if j < i then C j else C (j + 1)) (l.eraseIdx i) := by
  have hlen : (l.eraseIdx i).length = l.length - 1 := by rw [List.length_eraseIdx, if_pos hi]
  have hw : ∀ k, k < l.length - (i + 1) → (C (i + 1 + k)).length = wd := fun k hk => h.wid _ (by omega)
  have hfl : (flat (fun k => C (i + 1 + k)) (l.length - (i + 1))).length = (l.length - (i + 1)) * wd := flat_len hw
  have hsz : (v.setCells g (o + i * wd) (flat (fun k => C (i + 1 + k)) (l.length - (i + 1)))).heap.size = v.heap.size := setCells_size g _ _ _
  have hin : ∀ q, q < (flat (fun k => C (i + 1 + k)) (l.length - (i + 1))).length → (v.cell? ⟨g, o + i * wd + q, none⟩).isSome = true := by
    intro q hq
    rw [hfl] at hq
    have hwd : 0 < wd := by rcases Nat.eq_zero_or_pos wd with h0 | h0; · rw [h0] at hq; omega
                            · exact h0
    have h1 : q / wd < l.length - (i + 1) := (Nat.div_lt_iff_lt_mul hwd).2 hq
    have hc := h.cel (i + q / wd) (by omega) (q % wd) (by rw [h.wid _ (by omega)]; exact Nat.mod_lt _ hwd)
    have e : o + (i + q / wd) * wd + q % wd = o + i * wd + q := by
      have := Nat.div_add_mod q wd
      rw [Nat.add_mul, Nat.mul_comm (q / wd) wd]; omega
    rw [e] at hc
    rw [hc.1]; rfl
  have hblk : ∀ b, b < v.heap.size → b ≠ g → (v.setCells g (o + i * wd) (flat (fun k => C (i + 1 + k)) (l.length - (i + 1)))).heap[b]? = v.heap[b]? := fun b _ hne => setCells_other g hne _ _ _
  refine ⟨h.own, fun b hb => by rw [hsz]; exact h.lt b hb, fun j hj => ?_, fun j hj => ?_, fun j hj => ?_, fun j hj => ?_, fun j k hjk hk => ?_⟩
  · rw [hlen] at hj
    by_cases hji : j < i
    · simp only [hji, if_true]
      intro k hk
      have hwj := h.wid j (by omega)
      have hlt := Nat.mul_le_mul_right wd (show j + 1 ≤ i by omega)
      rw [Nat.add_mul] at hlt
      refine ⟨?_, by rw [World.frozen?_setCells]; exact (h.cel j (by omega) k hk).2⟩
      rw [World.cell?_setCells_out g _ _ _ _ (fun _ _ => .inl (by show o + j * wd + k < o + i * wd; omega))]
      exact (h.cel j (by omega) k hk).1
    · simp only [hji, if_false]
      intro k hk
      have hwj := h.wid (j + 1) (by omega)
      have e : o + j * wd + k = o + i * wd + ((j - i) * wd + k) := by
        have : j * wd = i * wd + (j - i) * wd := by rw [← Nat.add_mul]; congr 1; omega
        omega
      have hget := flat_get (wd := wd) (C := fun k => C (i + 1 + k)) (n := l.length - (i + 1)) hw (j - i) k (by omega) (by show k < (C (i + 1 + (j - i))).length; rw [show i + 1 + (j - i) = j + 1 by omega]; exact hk)
      obtain ⟨hq, hv⟩ := List.getElem?_eq_some_iff.1 hget
      rw [e]
      refine ⟨?_, ?_⟩
      · rw [World.cell?_setCells_in g _ _ _ hin _ hq, hv]
        simp only [show i + 1 + (j - i) = j + 1 by omega]
      · rw [World.frozen?_setCells, ← e]
        have := h.cel j (by omega) k (by rw [h.wid j (by omega), ← hwj]; exact hk)
        exact this.2
  · rw [hlen] at hj
    show (if j < i then C j else C (j + 1)).length = wd
    split
    · exact h.wid j (by omega)
    · exact h.wid (j + 1) (by omega)
  · have hj' := hj
    rw [hlen] at hj
    rw [getElem_erase l i j hj' hi]
    show E _ (if j < i then G j else G (j + 1)) (if j < i then C j else C (j + 1)) _
    by_cases hji : j < i
    · simp only [hji, if_true, dif_pos]
      exact hE.keep (h.el j (by omega)) ⟨by rw [hsz]; exact Nat.le_refl _, fun b hb => hblk b (h.lt _ (h.sub j (by omega) b hb).1) (h.sub j (by omega) b hb).2⟩
    · simp only [hji, if_false, dif_neg, not_false_eq_true]
      exact hE.keep (h.el (j + 1) (by omega)) ⟨by rw [hsz]; exact Nat.le_refl _, fun b hb => hblk b (h.lt _ (h.sub (j + 1) (by omega) b hb).1) (h.sub (j + 1) (by omega) b hb).2⟩
  · rw [hlen] at hj
    show ∀ b, (if j < i then G j else G (j + 1)) b → _
    split
    · exact h.sub j (by omega)
    · exact h.sub (j + 1) (by omega)
  · rw [hlen] at hk
    show ∀ b, (if j < i then G j else G (j + 1)) b → (if k < i then G k else G (k + 1)) b → False
    by_cases h1 : j < i
    · rw [if_pos h1]
      by_cases h2 : k < i
      · rw [if_pos h2]; exact h.apart j k hjk (by omega)
      · rw [if_neg h2]; exact h.apart j (k + 1) (by omega) (by omega)
    · rw [if_neg h1, if_neg (by omega)]
      exact h.apart (j + 1) (k + 1) (by omega) (by omega)
end
end Go.Proofs.YtfoajpehmbojbaaGreatDoor
