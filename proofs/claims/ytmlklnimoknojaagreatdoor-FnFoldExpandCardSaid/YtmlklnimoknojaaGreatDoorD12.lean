/- Walks of the dictionary seats: small functions. Rows of ints and of entries, as they are read. -/
import Derived.Test.YtmlklnimoknojaaGreatDoorD0
import Derived.Test.YtmlklnimoknojaaGreatDoorPlainStr
import Derived.Test.YtmlklnimoknojaaGreatDoorPlainD
namespace Go.Proofs.YtmlklnimoknojaaGreatDoor
section
open Go Go.RowKit
set_option maxHeartbeats 400000
set_option maxRecDepth 100000
theorem impl_in (n lo hi : Int) (w : World) :
    Calls Tryz.prog 125 #[.int .i64 n, .int .i64 lo, .int .i64 hi] w fun e w' => e = .returned (.bool (decide (lo ≤ n ∧ n ≤ hi))) ∧ w = w' := by
  by_cases h1 : lo ≤ n <;> by_cases h2 : n ≤ hi
  all_goals
    go_enter Tryz.func125, Tryz.ntmps125
    go_wp2
    go_ret
    exact ⟨ret_bool (by simp [h1, h2]), rfl⟩
theorem l1In (n lo hi : Int) (w : World) :
    Calls Tryz.prog 161 #[.int .i64 n, .int .i64 lo, .int .i64 hi] w fun e w' => e = .returned (.bool (decide (lo ≤ n ∧ n ≤ hi))) ∧ w = w' := by
  by_cases h1 : lo ≤ n <;> by_cases h2 : n ≤ hi
  all_goals
    go_enter Tryz.func161, Tryz.ntmps161
    go_wp2
    go_ret
    exact ⟨ret_bool (by simp [h1, h2]), rfl⟩
theorem all_ge {l : Str} {p : UInt8 → Bool} (k : Nat) (h : k < l.length) (hp : p l[k] = false) : l.all p = false := by
  rw [List.all_eq_false]; exact ⟨l[k], List.getElem_mem h, by simp [hp]⟩
theorem all_snoc {l : Str} {p : UInt8 → Bool} (k : Nat) (h : k < l.length) (ha : (l.take k).all p = true) (hp : p l[k] = true) : (l.take (k + 1)).all p = true := by
  rw [take_snoc l k h, List.all_append, ha]; simp [hp]
@[go_sem] theorem u8_eq (a b : UInt8) : ((a.toNat : Int) == (b.toNat : Int)) = (a == b) := by
  by_cases h : a = b
  · subst h; simp
  · rw [beq_eq_false_iff_ne.2 h, beq_eq_false_iff_ne]
    intro e; exact h (UInt8.toNat_inj.1 (by omega))
end
section
open Go Go.RowKit
set_option maxHeartbeats 400000
set_option maxRecDepth 100000
/-- a slice of ints, as it is read -/
def IntR (v : World) (u : Value) (l : List Int) : Prop :=
  ∃ (ad : Option Addr) (cap : Nat), u = .slice ad l.length cap ∧ (l.length ≤ 2 ^ 45 ∧ l.length ≤ cap) ∧ (ad = none → cap = 0) ∧ (l = [] ∨ ∃ g o, ad = some ⟨g, o, none⟩ ∧ g < v.heap.size ∧ ∀ (j : Nat) (h : j < l.length), v.cell? ⟨g, o + j, none⟩ = some (.int .i64 (l[j]'h)))
/-- a slice of entries, as it is read -/
def EntR (v : World) (u : Value) (l : P.Dic) : Prop :=
  ∃ (ad : Option Addr) (cap : Nat), u = .slice ad l.length cap ∧ (l.length ≤ 2 ^ 45 ∧ l.length ≤ cap) ∧ (ad = none → cap = 0) ∧ (l = [] ∨ ∃ g o, ad = some ⟨g, o, none⟩ ∧ g < v.heap.size ∧ ∀ (j : Nat) (h : j < l.length), ∃ x, v.cell? ⟨g, o + j * 2, none⟩ = some x ∧ v.cell? ⟨g, o + j * 2 + 1, none⟩ = some (.string (S (l[j]'h).2)) ∧ IntR v x (l[j]'h).1)
theorem IntR.below {v v' : World} {u : Value} {l : List Int} (h : IntR v u l) (hb : Below v.heap.size v v') : IntR v' u l := by
  obtain ⟨ad, cap, h1, h2, hn, h3⟩ := h
  refine ⟨ad, cap, h1, h2, hn, h3.imp id ?_⟩
  rintro ⟨g, o, h4, h5, h6⟩
  exact ⟨g, o, h4, Nat.lt_of_lt_of_le h5 hb.size, fun j hj => (hb.cell (p := ⟨g, _, none⟩) h5).trans (h6 j hj)⟩
theorem EntR.below {v v' : World} {u : Value} {l : P.Dic} (h : EntR v u l) (hb : Below v.heap.size v v') : EntR v' u l := by
  obtain ⟨ad, cap, h1, h2, hn, h3⟩ := h
  refine ⟨ad, cap, h1, h2, hn, h3.imp id ?_⟩
  rintro ⟨g, o, h4, h5, h6⟩
  refine ⟨g, o, h4, Nat.lt_of_lt_of_le h5 hb.size, fun j hj => ?_⟩
  obtain ⟨x, a, b, c⟩ := h6 j hj
  exact ⟨x, (hb.cell (p := ⟨g, _, none⟩) h5).trans a, (hb.cell (p := ⟨g, _, none⟩) h5).trans b, c.below hb⟩
/-- a slice that is nil, or lies somewhere -/
def Whole (u : Value) : Prop := u = .slice none 0 0 ∨ ∃ ad n c, u = .slice (some ad) n c
theorem IntR.whole {v : World} {u : Value} {l : List Int} (h : IntR v u l) : Whole u := by
  obtain ⟨ad, cap, h1, _, hn, h3⟩ := h
  cases ad with
  | none =>
    left
    rcases h3 with rfl | ⟨_, _, h, _⟩
    · rw [h1, hn rfl]; rfl
    · cases h
  | some a => exact .inr ⟨a, _, _, h1⟩
theorem EntR.whole {v : World} {u : Value} {l : P.Dic} (h : EntR v u l) : Whole u := by
  obtain ⟨ad, cap, h1, _, hn, h3⟩ := h
  cases ad with
  | none =>
    left
    rcases h3 with rfl | ⟨_, _, h, _⟩
    · rw [h1, hn rfl]; rfl
    · cases h
  | some a => exact .inr ⟨a, _, _, h1⟩
/-- one int of a row -/
theorem IntR.at {v : World} {ad : Option Addr} {n cap : Nat} {l : List Int} (h : IntR v (.slice ad n cap) l) (j : Nat) (hj : j < l.length) : ∃ g o, ad = some ⟨g, o, none⟩ ∧ g < v.heap.size ∧ v.cell? ⟨g, o + j, none⟩ = some (.int .i64 (l[j]'hj)) := by
  obtain ⟨ad', cap', he, _, _, h3⟩ := h
  injection he with h1 h2 h4
  rcases h3 with h3 | ⟨g, o, h5, h6, h7⟩
  · rw [h3] at hj; exact absurd hj (Nat.not_lt_zero _)
  · exact ⟨g, o, h1.trans h5, h6, h7 j hj⟩
/-- one entry of a row -/
theorem EntR.at {v : World} {ad : Option Addr} {n cap : Nat} {l : P.Dic} (h : EntR v (.slice ad n cap) l) (j : Nat) (hj : j < l.length) : ∃ g o, ad = some ⟨g, o, none⟩ ∧ g < v.heap.size ∧ ∃ x, v.cell? ⟨g, o + j * 2, none⟩ = some x ∧ v.cell? ⟨g, o + j * 2 + 1, none⟩ = some (.string (S (l[j]'hj).2)) ∧ IntR v x (l[j]'hj).1 := by
  obtain ⟨ad', cap', he, _, _, h3⟩ := h
  injection he with h1 h2 h4
  rcases h3 with h3 | ⟨g, o, h5, h6, h7⟩
  · rw [h3] at hj; exact absurd hj (Nat.not_lt_zero _)
  · exact ⟨g, o, h1.trans h5, h6, h7 j hj⟩
end
end Go.Proofs.YtmlklnimoknojaaGreatDoor
