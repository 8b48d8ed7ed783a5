/- A row of entries as a list of items, which move within the row; orders and permutations of a part of it. Plain: orders and permutations of a part of a row of items; the step of an insertion. Walks: the library's insertion sort, on any row of entries. Plain: items moved by a map of places; two blocks exchanged, two blocks turned. Walks: swapRange. Walks: two blocks of a row turned (rotate). Plain: what symMerge does: an item carried up or down; the two halves. Walks: symMerge with one item before, with one item behind a row in order. Walks: symMerge with one item behind a row in order. Plain: the search of symMerge for the place where the halves are turned. -/
import Derived.Deep.DeepCutAuto
import Derived.IntWalk
import Derived.BigRegion
import Derived.Test.YtpkahblajgaemaaGreatDoorLawD
import Derived.Test.YtpkahblajgaemaaGreatDoorMemE
import Derived.Test.YtpkahblajgaemaaGreatDoorLook1
import Derived.Test.YtpkahblajgaemaaGreatDoorDelA
import Derived.Deep.RegionHeld
import Derived.BigQuiet
import Derived.Test.YtpkahblajgaemaaGreatDoorPlainSpell
import Derived.Laws.BitsLemmas
namespace Go.Proofs.YtpkahblajgaemaaGreatDoor
section
open Go Go.RowKit
set_option maxHeartbeats 1000000
set_option maxRecDepth 100000
/-- an entry in its row: the value of its outline, the blocks that hold it, what it is -/
structure It where
  x : Value
  G : Blk
  e : P.Ent
def It.cs (t : It) : List Value := [t.x, .string (S t.e.2)]
theorem Cel.two {v : World} {g o i : Nat} {s t : It} (h : Cel v g (o + i * 2) s.cs) : Cel ((v.setCell ⟨g, o + i * 2, none⟩ t.x).setCell ⟨g, o + i * 2 + 1, none⟩ (.string (S t.e.2))) g (o + i * 2) t.cs := by
  have e := (h.set_at 0 (by simp [It.cs]) t.x).set_at 1 (by simp [It.cs]) (.string (S t.e.2))
  simpa [It.cs] using e
end
section
/-- not behind -/
def It.le (s t : It) : Prop := P.cmp s.e.1 t.e.1 ≤ 0
theorem It.le_refl (s : It) : s.le s := by unfold It.le; rw [P.cmp_refl]; decide
theorem It.le_of_lt {s t : It} (h : P.cmp s.e.1 t.e.1 < 0) : s.le t := by unfold It.le; omega
theorem It.le_trans {s t u : It} (h : s.le t) (k : t.le u) : s.le u := by
  unfold It.le at *
  by_cases h1 : P.cmp s.e.1 t.e.1 = 0
  · rw [P.cmp_eq _ _ h1]; exact k
  · by_cases h2 : P.cmp t.e.1 u.e.1 = 0
    · rw [← P.cmp_eq _ _ h2]; exact h
    · have := P.cmp_trans s.e.1 t.e.1 u.e.1 (by omega) (by omega); omega
/-- the part [a, b) of a row has been put in another order -/
structure PermOn (a b : Nat) (l l' : List It) : Prop where
  perm : l'.Perm l
  same : ∀ j, j < a ∨ b ≤ j → l'[j]? = l[j]?
  from_ : ∀ j x, a ≤ j → j < b → l'[j]? = some x → ∃ i, a ≤ i ∧ i < b ∧ l[i]? = some x
theorem PermOn.refl (a b : Nat) (l : List It) : PermOn a b l l := ⟨List.Perm.refl _, fun _ _ => rfl, fun j _ h1 h2 h3 => ⟨j, h1, h2, h3⟩⟩
theorem PermOn.trans {a b : Nat} {l m n : List It} (h : PermOn a b l m) (k : PermOn a b m n) : PermOn a b l n :=
  ⟨k.perm.trans h.perm, fun j hj => (k.same j hj).trans (h.same j hj), fun j x h1 h2 h3 => by
    obtain ⟨i, i1, i2, i3⟩ := k.from_ j x h1 h2 h3
    exact h.from_ i x i1 i2 i3⟩
theorem PermOn.mono {a b a' b' : Nat} {l m : List It} (h : PermOn a b l m) (ha : a' ≤ a) (hb : b ≤ b') : PermOn a' b' l m :=
  ⟨h.perm, fun j hj => h.same j (by omega), fun j x h1 h2 h3 => by
    by_cases hj : a ≤ j ∧ j < b
    · obtain ⟨i, i1, i2, i3⟩ := h.from_ j x hj.1 hj.2 h3
      exact ⟨i, by omega, by omega, i3⟩
    · exact ⟨j, h1, h2, by rw [← h.same j (by omega)]; exact h3⟩⟩
theorem PermOn.len {a b : Nat} {l m : List It} (h : PermOn a b l m) : m.length = l.length := h.perm.length_eq
end
section
open Go Go.RowKit
set_option maxHeartbeats 4000000
set_option maxRecDepth 100000
end
section
open Go Go.RowKit
set_option maxHeartbeats 4000000
set_option maxRecDepth 100000
end
section
open Go Go.RowKit
set_option maxHeartbeats 4000000
set_option maxRecDepth 100000
end
section
def It.lt (s t : It) : Prop := P.cmp s.e.1 t.e.1 < 0
/-- no item of the left part is behind an item of the right part -/
def Split (a c b : Nat) (l : List It) : Prop := ∀ p q x y, a ≤ p → p < c → c ≤ q → q < b → l[p]? = some x → l[q]? = some y → x.le y
theorem Split.left {a c b : Nat} {l m : List It} (h : Split a c b l) (k : PermOn a c l m) : Split a c b m := by
  intro p q x y h1 h2 h3 h4 h5 h6
  obtain ⟨i, i1, i2, i3⟩ := k.from_ p x h1 h2 h5
  rw [k.same q (by omega)] at h6
  exact h i q x y i1 i2 h3 h4 i3 h6
theorem Split.right {a c b : Nat} {l m : List It} (h : Split a c b l) (k : PermOn c b l m) : Split a c b m := by
  intro p q x y h1 h2 h3 h4 h5 h6
  obtain ⟨i, i1, i2, i3⟩ := k.from_ q y h3 h4 h6
  rw [k.same p (by omega)] at h5
  exact h p i x y h1 h2 i1 i2 h5 i3
end
section
open Go Go.RowKit
set_option maxHeartbeats 4000000
set_option maxRecDepth 100000
end
section
theorem It.lt_of_lt_of_le {s t u : It} (k : P.cmp s.e.1 t.e.1 < 0) (h : t.le u) : P.cmp s.e.1 u.e.1 < 0 := by
  unfold It.le at h
  by_cases e : P.cmp t.e.1 u.e.1 = 0
  · rw [← P.cmp_eq _ _ e]; exact k
  · exact P.cmp_trans _ _ _ k (by omega)
open Go Go.RowKit
set_option maxHeartbeats 4000000
set_option maxRecDepth 100000
end
section
end
end Go.Proofs.YtpkahblajgaemaaGreatDoor

namespace Go.Proofs.YtpkahblajgaemaaGreatDoor
section
open Go Go.RowKit
set_option maxHeartbeats 8000000
set_option maxRecDepth 100000
end
section
end
section
open Go Go.RowKit
set_option maxHeartbeats 4000000
set_option maxRecDepth 100000
/-- in order, with room for entries of one outline -/
def P.le (a b : P.Ent) : Prop := P.cmp a.1 b.1 ≤ 0
end
section
open Go Go.RowKit
set_option maxHeartbeats 2000000
set_option maxRecDepth 100000
end
end Go.Proofs.YtpkahblajgaemaaGreatDoor

namespace Go.Proofs.YtpkahblajgaemaaGreatDoor
namespace P
def begins (o p : List Int) : Bool := decide (p.length ≤ o.length) && decide (o.take p.length = p)
end P
open Go Go.RowKit
set_option maxHeartbeats 2000000
set_option maxRecDepth 100000
theorem IntR.take {v : World} {ad : Option Addr} {cap k : Nat} {l : List Int} (h : IntR v (.slice ad l.length cap) l) (hk : k ≤ l.length) : IntR v (.slice ad k cap) (l.take k) := by
  obtain ⟨ad', cap', he, h1, hn, h3⟩ := h
  injection he with e1 e2 e3
  subst e1 e3
  have hlk : (l.take k).length = k := by rw [List.length_take]; omega
  refine ⟨ad, cap, by rw [hlk], by omega, hn, ?_⟩
  rcases h3 with h3 | ⟨g, o, h4, h5, h6⟩
  · left; rw [h3]; simp
  · refine .inr ⟨g, o, h4, h5, fun j hj => ?_⟩
    have hj' : j < l.length := by omega
    rw [List.getElem_take]
    exact h6 j hj'
end Go.Proofs.YtpkahblajgaemaaGreatDoor

namespace Go.Proofs.YtpkahblajgaemaaGreatDoor
namespace P
theorem testBit_mod (n k : Nat) : n / 2 ^ k % 2 = if n.testBit k then 1 else 0 := by
  rw [Nat.testBit_eq_decide_div_mod_eq]
  by_cases h : n / 2 ^ k % 2 = 1
  · rw [h]; simp
  · have : n / 2 ^ k % 2 = 0 := by omega
    rw [this]; simp
end P
open Go Go.RowKit
set_option maxHeartbeats 2000000
set_option maxRecDepth 100000
theorem areLetters (s : Str) (w : World) (hs : s.length ≤ maxLen) :
    Calls Tryz.prog 240 #[.string (S s)] w fun e w' => e = .returned (.bool (s.all P.lower)) ∧ w = w' := by
  unfold maxLen at hs
  go_enter Tryz.func240, Tryz.ntmps240
  go_wp2
  go_loop [3, 6] (fun _ i => ∃ k : Nat, k ≤ s.length ∧ i = .int .i64 k ∧ (s.take k).all P.lower = true) (fun _ i => s.length - (intOf i).toNat)
  case atStart => exact ⟨0, by omega, rfl, by simp⟩
  case round =>
    obtain ⟨k, hk, rfl, ha⟩ := hrel
    have HA := Lib.hid ha; clear ha
    by_cases hlt : k < s.length
    · rcases Int.lt_or_le (s[k].toNat : Int) 97 with h1 | h1
      · have H := Lib.hid h1
        go_wp2
        go_ret
        exact ⟨ret_bool (P.all_false hlt (P.lower_no (.inl H.out))).symm, rfl⟩
      · rcases Int.lt_or_le 122 (s[k].toNat : Int) with h2 | h2
        · have H := Lib.hid h2
          go_wp2
          go_ret
          exact ⟨ret_bool (P.all_false hlt (P.lower_no (.inr H.out))).symm, rfl⟩
        · have HL := Lib.hid (P.lower_yes h1 h2)
          go_wp2
          go_round
          case rel => exact ⟨k + 1, by omega, by go_num, all_snoc k hlt HA.out HL.out⟩
          case measure => simp [intOf]; omega
    · have HT := Lib.hid (show s.all P.lower = true by rw [← List.take_of_length_le (l := s) (i := k) (by omega)]; exact HA.out)
      go_wp2
      go_ret
      exact ⟨ret_bool HT.out.symm, rfl⟩
theorem wraps_i64 (n : Int) (h0 : 0 ≤ n) (h1 : n < 2 ^ 40) : IntKind.i64.wrap n = n := by rw [IntKind.wrap_i64]; omega
theorem and_one {m k : Nat} (hm : m < 2 ^ 23) : bits .and .i64 ((m : Int) / 2 ^ k) 1 = if m.testBit k then 1 else 0 := by
  have e : ((m : Int) / 2 ^ k) = ((m / 2 ^ k : Nat) : Int) := by simp
  have hd : m / 2 ^ k < 2 ^ 40 := by have := Nat.div_le_self m (2 ^ k); omega
  have h := (bits_nat .i64 40 (by decide) wraps_i64 (m / 2 ^ k) 1 hd (by decide)).1
  rw [e]
  have h' : bits .and .i64 ((m / 2 ^ k : Nat) : Int) 1 = ((m / 2 ^ k &&& 1 : Nat) : Int) := h
  rw [h', Nat.and_one_is_mod, P.testBit_mod]
  split <;> rfl
end Go.Proofs.YtpkahblajgaemaaGreatDoor
