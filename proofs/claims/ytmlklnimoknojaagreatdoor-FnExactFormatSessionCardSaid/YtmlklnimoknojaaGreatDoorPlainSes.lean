/- Plain: strokes written one behind another. -/
import Derived.Lib.Join
import Derived.Lib.Replace
import Derived.Test.YtmlklnimoknojaaGreatDoorPlainScr2
import Derived.Test.YtmlklnimoknojaaGreatDoorPlainLog
namespace Go.Proofs.YtmlklnimoknojaaGreatDoor.P
theorem lab_slash (k : Nat) : lab k ≠ 47 := by
  unfold lab
  by_cases h : k < 23
  · exact (by decide : ∀ k, k < 23 → labels.getD k 0 ≠ 47) k h
  · rw [List.getD_eq_getElem?_getD, List.getElem?_eq_none (by simp [labels]; omega)]
    decide
theorem fmtL_slash : ∀ (l : List Nat) (m : Bool), ∀ b ∈ fmtL m l, b ≠ 47
  | [], _ => by simp [fmtL]
  | k :: l, m => by
    have ih := fun m => fmtL_slash l m
    intro b hb
    unfold fmtL at hb
    split at hb
    · rcases List.mem_cons.1 hb with rfl | hb
      · decide
      rcases List.mem_cons.1 hb with rfl | hb
      · exact lab_slash k
      · exact ih _ b hb
    · rcases List.mem_cons.1 hb with rfl | hb
      · exact lab_slash k
      · exact ih _ b hb
theorem fmt_slash (s : Int) : ∀ b ∈ fmt s, b ≠ 47 := fmtL_slash _ _
/-- one byte for another -/
def sub1 (a b : UInt8) (x : UInt8) : UInt8 := if x = a then b else x
theorem replK_one (a b : UInt8) : ∀ (n : Nat) (s : Bs), s.length ≤ n → Go.Lib.replaceK [a] [b] (s.count a) s = s.map (sub1 a b)
  | n, s, hn => by
    by_cases ha : a ∈ s
    · obtain ⟨x, y, hs, hx⟩ := first_of_mem a s ha
      have hxm : a ∉ x := fun h => hx a h rfl
      subst hs
      have hc : (x ++ a :: y).count a = y.count a + 1 := by
        rw [List.count_append, List.count_cons_self, List.count_eq_zero.2 hxm]; omega
      have hxmap : x.map (sub1 a b) = x := by
        rw [List.map_congr_left (g := id) (fun z hz => by unfold sub1; rw [if_neg (hx z hz)]; rfl), List.map_id]
      match n, hn with
      | 0, hn => simp at hn
      | n + 1, hn =>
        rw [hc, Go.Lib.replaceK_hit _ _ _ _ x.length (idx_app a y x hx)]
        rw [List.take_left, show (x ++ a :: y).drop (x.length + [a].length) = y by rw [show x ++ a :: y = (x ++ [a]) ++ y by simp, show x.length + [a].length = (x ++ [a]).length by simp, List.drop_left]]
        rw [replK_one a b n y (by simp at hn; omega), List.map_append, hxmap, List.map_cons]
        have : sub1 a b a = b := if_pos rfl
        rw [this]
        simp
    · rw [List.count_eq_zero.2 ha]
      rw [List.map_congr_left (g := id) (fun z hz => by unfold sub1; rw [if_neg (fun e : z = a => ha (by rw [← e]; exact hz))]; rfl), List.map_id]
      rfl
theorem replaceAll_one {a b : UInt8} (hab : a ≠ b) (s : Bs) : Go.Lib.replaceAll s [a] [b] = s.map (sub1 a b) := by
  unfold Go.Lib.replaceAll Go.Lib.replace Go.Lib.replaceNum
  rw [if_neg (by simpa using hab), if_pos (.inl (by decide)), Go.Lib.count_one]
  exact replK_one a b s.length s (Nat.le_refl _)
theorem map_same {a b : UInt8} {x : Bs} (h : ∀ z ∈ x, z ≠ a) : x.map (sub1 a b) = x := by
  rw [List.map_congr_left (g := id) (fun z hz => by unfold sub1; rw [if_neg (h z hz)]; rfl), List.map_id]
theorem joinTail_map {a b : UInt8} : ∀ (r : List Bs), (∀ x ∈ r, ∀ z ∈ x, z ≠ a) → (Go.Lib.joinTail [a] r).map (sub1 a b) = Go.Lib.joinTail [b] r
  | [], _ => rfl
  | x :: r, h => by
    have ih := joinTail_map (b := b) r (fun y hy => h y (by simp [hy]))
    unfold Go.Lib.joinTail at ih ⊢
    simp only [List.map_cons, List.flatten_cons, List.map_append]
    rw [ih, map_same (h x (by simp))]
    have : sub1 a b a = b := if_pos rfl
    simp [this]
theorem join_map {a b : UInt8} (l : List Bs) (h : ∀ x ∈ l, ∀ z ∈ x, z ≠ a) : (Go.Lib.join l [a]).map (sub1 a b) = Go.Lib.join l [b] := by
  cases l with
  | nil => rfl
  | cons x r =>
    rw [Go.Lib.join_cons, Go.Lib.join_cons, List.map_append, map_same (h x (by simp)), joinTail_map r (fun y hy => h y (by simp [hy]))]
theorem join_snoc (l : List Bs) (y sep : Bs) (hl : l ≠ []) : Go.Lib.join (l ++ [y]) sep = Go.Lib.join l sep ++ sep ++ y := by
  cases l with
  | nil => exact absurd rfl hl
  | cons x r =>
    rw [List.cons_append, Go.Lib.join_cons, Go.Lib.join_cons]
    unfold Go.Lib.joinTail
    simp [List.append_assoc]
theorem join_len (l : List Bs) (c : UInt8) (m : Nat) (h : ∀ x ∈ l, x.length ≤ m) : (Go.Lib.join l [c]).length ≤ l.length * (m + 1) := by
  cases l with
  | nil => simp [Go.Lib.join_nil]
  | cons x r =>
    have hx := h x (by simp)
    rw [Go.Lib.join_cons, List.length_append]
    have key : ∀ r : List Bs, (∀ x ∈ r, x.length ≤ m) → (Go.Lib.joinTail [c] r).length ≤ r.length * (m + 1) := by
      intro r
      induction r with
      | nil => intro _; simp [Go.Lib.joinTail]
      | cons y r ih =>
        intro h
        have h1 := ih (fun z hz => h z (by simp [hz]))
        have h2 := h y (by simp)
        unfold Go.Lib.joinTail at h1 ⊢
        simp only [List.map_cons, List.flatten_cons, List.length_append, List.length_cons, List.length_nil] at h1 ⊢
        have e : (r.length + 1) * (m + 1) = r.length * (m + 1) + (m + 1) := Nat.succ_mul _ _
        omega
    have h3 := key r (fun z hz => h z (by simp [hz]))
    have e : (x :: r).length * (m + 1) = r.length * (m + 1) + (m + 1) := by rw [List.length_cons]; exact Nat.succ_mul _ _
    omega
/-- strokes, each written, with a byte between -/
def fmtS (c : UInt8) (st : List Int) : Bs := Go.Lib.join (st.map fmt) [c]
theorem fmtS_one (c : UInt8) (k : Int) : fmtS c [k] = fmt k := Go.Lib.join_one _ _
theorem fmtS_snoc (c : UInt8) (st : List Int) (k : Int) (h : st ≠ []) : fmtS c (st ++ [k]) = fmtS c st ++ [c] ++ fmt k := by
  unfold fmtS
  rw [List.map_append]
  exact join_snoc _ _ _ (by simpa using h)
theorem fmtS_len (c : UInt8) (st : List Int) : (fmtS c st).length ≤ st.length * 47 := by
  have h := join_len (st.map fmt) c 46 (fun x hx => by obtain ⟨k, _, rfl⟩ := List.mem_map.1 hx; exact fmt_len k)
  rwa [List.length_map] at h
theorem fmtS_repl (st : List Int) : Go.Lib.replaceAll (fmtS 47 st) [47] [32] = fmtS 32 st := by
  rw [replaceAll_one (by decide)]
  exact join_map _ (fun x hx => by obtain ⟨k, _, rfl⟩ := List.mem_map.1 hx; exact fmt_slash k)
/-- a session written -/
def sessText (st : List Int) (sc : Bs) : Bs := fmtS 32 st ++ [10] ++ sc
end Go.Proofs.YtmlklnimoknojaaGreatDoor.P
