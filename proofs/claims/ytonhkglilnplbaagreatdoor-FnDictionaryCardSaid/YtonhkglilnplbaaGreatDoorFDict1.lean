/- Plain facts of the law of dictionaries; the law's own comparisons; validity (reference); a dictionary, an entry, an outline drawn from bytes. -/
import Derived.BigQuiet
import Derived.IntWalk
import Derived.Deep.DeepCutAuto
import Derived.Deep.RegionHeld
import Derived.Test.YtonhkglilnplbaaGreatDoorCurE5
import Derived.Test.YtonhkglilnplbaaGreatDoorCodeD
import Derived.Test.YtonhkglilnplbaaGreatDoorLook1
import Derived.Test.YtonhkglilnplbaaGreatDoorIns2
set_option linter.all false
namespace Go.Proofs.YtonhkglilnplbaaGreatDoor
namespace P
theorem delOk_look (o : List Int) (l : Dic) : delOk o l = (lookD o l).2 := by
  unfold delOk lookD
  cases dic l <;> rfl
/-- what was taken out is put in again -/
theorem put_del {o : List Int} {l : Dic} (h : delOk o l = true) : insOk (o, (lookD o l).1) (del o l) = true ∧ putF (o, (lookD o l).1) false (del o l) = l := by
  unfold delOk at h
  simp only [Bool.and_eq_true] at h
  have hl := h.1
  have hh : hasE o l = true := h.2
  have hp := pair_of_dic hl
  have hm := mem_textAt hh
  have ht : (lookD o l).1 = textAt o l := by unfold lookD; rw [hl]; rfl
  have hr : rising (del o l) = true := by unfold dic at hl; simp only [Bool.and_eq_true] at hl; exact del_rising hl.2.2
  have he : putF (o, textAt o l) false (del o l) = l := by
    refine (put_eq hr hp fun x => ?_).symm
    rw [del_mem, del_mem]
    constructor
    · intro hx
      by_cases e : x.1 = o
      · refine .inr ?_
        have := textAt_mem hp hx
        rw [e] at this
        exact Prod.ext e this.symm
      · exact .inl ⟨⟨hx, e⟩, e⟩
    · rintro (hx | rfl)
      · exact hx.1.1
      · exact hm
  rw [ht]
  refine ⟨?_, he⟩
  have hll := dic_len hl
  have hd : dic (del o l) = true := by
    have h2 := del_len o l
    unfold dic at hl ⊢
    simp only [Bool.and_eq_true, decide_eq_true_eq, List.all_eq_true] at hl ⊢
    exact ⟨by omega, fun e he => hl.2.1 e (del_sub he), hr⟩
  have hen : entry (o, textAt o l) = true := by
    unfold dic at hl
    simp only [Bool.and_eq_true, List.all_eq_true] at hl
    exact hl.2.1 _ hm
  unfold insOk
  rw [hd, hen, he]
  simpa using hll
theorem ins_dic {e : Ent} {l : Dic} (h : insOk e l = true) : dic (putF e false l) = true ∧ dic l = true := by
  unfold insOk at h
  simp only [Bool.and_eq_true] at h
  exact ⟨by rw [put_dic h.1 h.2.1]; exact h.2.2, h.1⟩
theorem ins_look {e : Ent} {l : Dic} (h : insOk e l = true) : lookD e.1 (putF e false l) = (e.2, true) := by
  obtain ⟨h1, h2⟩ := ins_dic h
  have hm : e ∈ putF e false l := (putF_mem e l e).2 (.inl rfl)
  unfold lookD
  rw [h1, if_pos rfl, textAt_mem (pair_of_dic h1) hm, hasE_iff.2 ⟨e, hm, rfl⟩]
theorem ins_other {e x : Ent} {l : Dic} (h : insOk e l = true) (hx : x ∈ l) : (lookD x.1 (putF e false l)).2 = true ∧ (x.1 ≠ e.1 → (lookD x.1 (putF e false l)).1 = x.2) := by
  obtain ⟨h1, h2⟩ := ins_dic h
  unfold lookD
  rw [h1, if_pos rfl]
  by_cases he : x.1 = e.1
  · exact ⟨hasE_iff.2 ⟨e, (putF_mem e l e).2 (.inl rfl), he.symm⟩, fun hne => absurd he hne⟩
  · have hm : x ∈ putF e false l := (putF_mem e l x).2 (.inr (del_mem.2 ⟨hx, he⟩))
    exact ⟨hasE_iff.2 ⟨x, hm, rfl⟩, fun _ => textAt_mem (pair_of_dic h1) hm⟩
end P
open Go Go.RowKit
set_option maxHeartbeats 4000000
set_option maxRecDepth 100000
theorem vBig (v : Value) (n : Nat) (ad : Option Addr) (cap : Nat) (hv : v = .slice ad n cap) (hn : n ≤ maxLen) (w : World) :
    Calls Tryz.prog 48 #[v] w fun e w' => e = .returned (.bool (decide (65536 < n))) ∧ w = w' := by
  subst hv
  unfold maxLen at hn
  go_enter Tryz.func48, Tryz.ntmps48
  by_cases h : 65536 < n
  · have h1 : (65536 : Int) < (n : Int) := by omega
    go_wp2
    go_ret
    exact ⟨by simp [h], rfl⟩
  · have h1 : ¬ (65536 : Int) < (n : Int) := by omega
    go_wp2
    go_ret
    exact ⟨by simp [h], rfl⟩
theorem vInts (u v : Value) (l m : List Int) (w : World) (hu : IntR w u l) (hv : IntR w v m) :
    Calls Tryz.prog 59 #[u, v] w fun e w' => e = .returned (.bool (decide (l = m))) ∧ Below w.heap.size w w' := by
  have HU := Lib.hid hu; have HV := Lib.hid hv
  obtain ⟨ad, cap, rfl, hla, _⟩ := hu
  obtain ⟨bd, dap, rfl, hlb, _⟩ := hv
  go_enter Tryz.func59, Tryz.ntmps59
  by_cases hlen : l.length = m.length
  · have hli : (l.length : Int) = (m.length : Int) := by omega
    go_wp2
    go_loopw [5] (fun i wr => ∃ j : Nat, j ≤ l.length ∧ i = .int .i64 j ∧ (∀ k (h : k < j) (h1 : k < l.length) (h2 : k < m.length), l[k] = m[k]) ∧ Below w.heap.size w wr) (fun i _ => l.length - (intOf i).toNat)
    case atStart => exact ⟨0, Nat.zero_le _, rfl, fun k h => absurd h (Nat.not_lt_zero _), Below.refl _ _⟩
    case round =>
      obtain ⟨j, hj, rfl, hsame, hb⟩ := hrel
      have HB := Lib.hid hb; have HS := Lib.hid hsame
      clear hsame
      by_cases hlt : j < l.length
      · obtain ⟨g, o, hga, hgl, c0⟩ := (HU.out.below hb).at j hlt
        obtain ⟨g', o', hgb, hgl', d0⟩ := (HV.out.below hb).at j (by omega)
        subst hga hgb
        clear hb
        have i1 : (j : Int) < (l.length : Int) := by omega
        have i2 : (j : Int) < (m.length : Int) := by omega
        have hjm : j < m.length := by omega
        by_cases hx : l[j] = m[j]
        · have HX := Lib.hid hx
          rw [hx] at c0
          go_wp2_with fail
          go_quiet (fail)
          go_wp2
          go_roundw
          case rel =>
            refine ⟨j + 1, by omega, by go_num, fun k hk h1 h2 => ?_, below_drewN HB.out _⟩
            by_cases e : k = j
            · subst e; exact HX.out
            · exact HS.out k (by omega) h1 h2
          case measure => simp [intOf]; omega
        · have hne : ¬ l = m := fun e => hx (by subst e; rfl)
          go_wp2_with fail
          go_quiet (fail)
          go_wp2
          go_ret
          exact ⟨by rw [decide_eq_false hne]; rfl, below_drewN HB.out _⟩
      · clear hb
        have he : l = m := List.ext_getElem hlen fun k h1 h2 => HS.out k (by omega) h1 h2
        go_wp2
        go_ret
        exact ⟨by rw [decide_eq_true he]; rfl, HB.out⟩
  · have hli : ¬ (l.length : Int) = (m.length : Int) := by omega
    have hne : ¬ l = m := fun e => hlen (by rw [e])
    go_wp2
    go_ret
    exact ⟨by rw [decide_eq_false hne]; rfl, Below.refl _ _⟩
theorem spec_isValidEntry (u : Value) (l : List Int) (t : Str) (w : World) (hu : IntR w u l) (ht : t.length ≤ 2 ^ 30) :
    Calls Tryz.prog 52 #[.agg #[u, .string (S t)]] w fun e w' => e = .returned (.bool (P.entry (l, t))) ∧ Below w.heap.size w w' := by
  have hb0 := (Below.refl w.heap.size w).alloc (Nat.le_refl _) (.cells #[u, .string (S t)] 36)
  have HU := Lib.hid (hu.below hb0); have HB := Lib.hid hb0
  have HU0 := Lib.hid hu
  obtain ⟨ad, cap, rfl, _, _⟩ := hu
  clear hb0
  go_enter Tryz.func52, Tryz.ntmps52
  go_wp2_with fail
  refine (l6Entry _ l t _ (by first | exact HU.out | exact HU0.out) (by omega)).mono ?_
  rintro e w1 ⟨rfl, hb⟩
  go_wp2
  go_ret
  exact ⟨rfl, by first | exact HB.out.trans (hb.mono HB.out.size) | exact hb⟩
theorem spec_isValidDictionary (u : Value) (l : P.Dic) (w : World) (hu : EntR w u l) (ht : ∀ e ∈ l, e.2.length ≤ 2 ^ 30) :
    Calls Tryz.prog 56 #[.agg #[u]] w fun e w' => e = .returned (.bool (P.dic l)) ∧ Below w.heap.size w w' := by
  have hb0 := (Below.refl w.heap.size w).alloc (Nat.le_refl _) (.cells #[u] 32)
  have HU := Lib.hid (hu.below hb0); have HB := Lib.hid hb0
  have HU0 := Lib.hid hu
  obtain ⟨ad, cap, rfl, _, _⟩ := hu
  clear hb0
  go_enter Tryz.func56, Tryz.ntmps56
  go_wp2_with fail
  refine (l6Good _ l _ (by first | exact HU.out | exact HU0.out) ht).mono ?_
  rintro e w1 ⟨rfl, hb⟩
  go_wp2
  go_ret
  exact ⟨rfl, by first | exact HB.out.trans (hb.mono HB.out.size) | exact hb⟩
end Go.Proofs.YtonhkglilnplbaaGreatDoor
