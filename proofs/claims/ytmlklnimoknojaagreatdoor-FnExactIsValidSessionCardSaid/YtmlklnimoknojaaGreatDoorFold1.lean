/- A row of nodes that grows and is written: its elements' blocks are told. How the building of a trie stands: the builder's row of nodes, the node that is being built, its strokes and its children. Parts of a row of entries, as they are read. How a child of a node is built, plain. -/
import Derived.Deep.DeepCutAuto
import Derived.Laws.OwnMore
import Derived.Test.YtmlklnimoknojaaGreatDoorMemE
import Derived.Test.YtmlklnimoknojaaGreatDoorPlainScr2
import Derived.BigRegion
import Derived.RegionTactic
import Derived.Test.YtmlklnimoknojaaGreatDoorPlainSpell
import Derived.Test.YtmlklnimoknojaaGreatDoorLawD
import Derived.Test.YtmlklnimoknojaaGreatDoorLayB
import Derived.IntWalk
import Derived.Deep.RegionHeld
import Derived.BigQuiet
import Derived.Laws.BitsLemmas
namespace Go.Proofs.YtmlklnimoknojaaGreatDoor
section
section
open Go Go.RowKit
set_option maxHeartbeats 1000000
set_option maxRecDepth 100000
variable {α : Type} {E : ElT α} {wd : Nat}
variable {e : TypeId} {B : Nat} {v v' : World} {u : Value} {G : Nat → Blk} {C : Nat → List Value} {l : List α}
end
end
section
section
open Go Go.RowKit
set_option maxHeartbeats 1000000
set_option maxRecDepth 100000
variable {w : World} {R N : Nat} {u : Value} {G : Nat → Blk} {l0 : P.Tri} {t : Bool} {x : Str} {v v' : World} {ur : Value} {Gr : Nat → Blk} {Cr : Nat → List Value} {lr : P.Tri} {su cu : Value} {s c : List Int}
end
end
section
section
open Go Go.RowKit
set_option maxHeartbeats 1000000
set_option maxRecDepth 100000
end
section
namespace P
def behind (d : Nat) : Dic → Dic
  | [] => []
  | e :: l => l.dropWhile fun x => strokeAt d x == strokeAt d e
end P
end
end
end Go.Proofs.YtmlklnimoknojaaGreatDoor

namespace Go.Proofs.YtmlklnimoknojaaGreatDoor
section
section
open Go Go.RowKit
set_option maxHeartbeats 1000000
set_option maxRecDepth 100000
theorem IntR.chg {v v' : World} {u : Value} {l : List Int} {X : Blk} (h : IntR v u l) (hc : Chg X v v') (hX : ∀ b, u.ownBlock = some b → ¬ X b) : IntR v' u l := by
  obtain ⟨ad, cap, h1, h2, hn, h3⟩ := h
  refine ⟨ad, cap, h1, h2, hn, h3.imp id ?_⟩
  rintro ⟨g, o, h4, h5, h6⟩
  exact ⟨g, o, h4, Nat.lt_of_lt_of_le h5 hc.size, fun j hj => (hc.cell (p := ⟨g, _, none⟩) h5 (hX g (by rw [h1, h4]; rfl))).trans (h6 j hj)⟩
variable {w : World} {R N : Nat} {tv u x y : Value} {tt : Bool} {ss : Str} {n1 : Nat} {u1 : Value} {es1 : P.Dic} {xs1 : List Value} {v v' : World}
end
section
namespace P
end P
end
end
section
open Go Go.RowKit
set_option maxHeartbeats 8000000
set_option maxRecDepth 100000
theorem own_base {v : World} {B B' : Nat} {e : TypeId} {z : Nat} {u : Value} {n : Nat} {xs : List Value} (h : v.ownsRow B e z u n xs) (hB : B' ≤ B) : v.ownsRow B' e z u n xs :=
  ⟨h.1, h.2.imp id fun ⟨g, cap, cur, hv, hg, r⟩ => ⟨g, cap, cur, hv, Nat.le_trans hB hg, r⟩⟩
end
end Go.Proofs.YtmlklnimoknojaaGreatDoor

namespace Go.Proofs.YtmlklnimoknojaaGreatDoor
namespace P
end P
open Go Go.RowKit
set_option maxHeartbeats 2000000
set_option maxRecDepth 100000
def FindPost (o : List Int) (l : P.Dic) (w : World) (e : Ending) (w' : World) : Prop := e = .returned (.tuple #[.string (S (P.textAt o l)), .bool (P.hasE o l)]) ∧ Below w.heap.size w w'
theorem l6Find (dv ov : Value) (l : P.Dic) (o : List Int) (w : World) (hu : EntR w dv l) (ho : IntR w ov o) :
    Calls Tryz.prog 151 #[.agg #[dv], ov] w (FindPost o l w) := by
  have hb0 := (Below.refl w.heap.size w).alloc (Nat.le_refl _) (.cells #[dv] 26)
  have HU := Lib.hid (hu.below hb0); have HO := Lib.hid (ho.below hb0); have HB0 := Lib.hid hb0
  have HBX := Lib.hid (Box1.new dv 26 w)
  have hl0 := P.place_lo o l; have hl1 := P.place_lt (o := o) (l := l)
  obtain ⟨ad, cap, rfl, hll, _⟩ := hu
  obtain ⟨od, oc, rfl, _, _⟩ := ho
  clear hb0
  go_enter Tryz.func151, Tryz.ntmps151
  go_wp2_with fail
  refine (l6At _ _ l o _ HU.out HO.out).mono ?_
  rintro e w1 ⟨rfl, hb⟩
  have HU1 := Lib.hid (HU.out.below hb)
  obtain ⟨b0, _⟩ := HBX.out.below hb
  have HB1 := Lib.hid (HB0.out.trans (hb.mono (by simp)))
  clear hb HU HO HB0 HBX
  by_cases hneg : P.place o l < 0
  · have HN := Lib.hid (show P.hasE o l = false by unfold P.hasE; exact decide_eq_false (by omega))
    go_wp2
    refine bodyPost_ret (v := .tuple #[.string (S []), .bool false]) (by simp [results, Tryz.results151, go_sem]) rfl ⟨by rw [P.textAt_not HN.out, HN.out], HB1.out⟩
  · have HN := Lib.hid (show P.hasE o l = true by unfold P.hasE; exact decide_eq_true (by omega))
    obtain ⟨i, hi⟩ := Int.eq_ofNat_of_zero_le (show 0 ≤ P.place o l by omega)
    have hil : i < l.length := by omega
    obtain ⟨g, p, rfl, hgl, x, c0, c1, hx⟩ := HU1.out.at i hil
    rw [P.textAt_place hi hil] at c1
    rw [hi] at hneg ⊢
    have i1 : (i : Int) < (l.length : Int) := by omega
    clear hl0 hl1 hi c0 hx
    go_wp2
    refine bodyPost_ret (v := .tuple #[.string (S (P.textAt o l)), .bool true]) (by simp [results, Tryz.results151, go_sem]) rfl ⟨by rw [HN.out], HB1.out⟩
theorem dicLookup (dv ov : Value) (l : P.Dic) (o : List Int) (w : World) (hu : EntR w dv l) (ho : IntR w ov o) :
    Calls Tryz.prog 74 #[.agg #[dv], ov] w (FindPost o l w) := by
  have hb0 := (Below.refl w.heap.size w).alloc (Nat.le_refl _) (.cells #[dv] 26)
  have HU := Lib.hid (hu.below hb0); have HO := Lib.hid (ho.below hb0); have HB0 := Lib.hid hb0
  have HBX := Lib.hid (Box1.new dv 26 w)
  have hl0 := P.place_lo o l; have hl1 := P.place_lt (o := o) (l := l)
  obtain ⟨ad, cap, rfl, hll, _⟩ := hu
  obtain ⟨od, oc, rfl, _, _⟩ := ho
  clear hb0
  go_enter Tryz.func74, Tryz.ntmps74
  go_wp2_with fail
  refine (dicFind _ _ l o _ HU.out HO.out).mono ?_
  rintro e w1 ⟨rfl, hb⟩
  have HU1 := Lib.hid (HU.out.below hb)
  obtain ⟨b0, _⟩ := HBX.out.below hb
  have HB1 := Lib.hid (HB0.out.trans (hb.mono (by simp)))
  clear hb HU HO HB0 HBX
  by_cases hneg : P.place o l < 0
  · have HN := Lib.hid (show P.hasE o l = false by unfold P.hasE; exact decide_eq_false (by omega))
    go_wp2
    refine bodyPost_ret (v := .tuple #[.string (S []), .bool false]) (by simp [results, Tryz.results74, go_sem]) rfl ⟨by rw [P.textAt_not HN.out, HN.out], HB1.out⟩
  · have HN := Lib.hid (show P.hasE o l = true by unfold P.hasE; exact decide_eq_true (by omega))
    obtain ⟨i, hi⟩ := Int.eq_ofNat_of_zero_le (show 0 ≤ P.place o l by omega)
    have hil : i < l.length := by omega
    obtain ⟨g, p, rfl, hgl, x, c0, c1, hx⟩ := HU1.out.at i hil
    rw [P.textAt_place hi hil] at c1
    rw [hi] at hneg ⊢
    have i1 : (i : Int) < (l.length : Int) := by omega
    clear hl0 hl1 hi c0 hx
    go_wp2
    refine bodyPost_ret (v := .tuple #[.string (S (P.textAt o l)), .bool true]) (by simp [results, Tryz.results74, go_sem]) rfl ⟨by rw [HN.out], HB1.out⟩
end Go.Proofs.YtmlklnimoknojaaGreatDoor

namespace Go.Proofs.YtmlklnimoknojaaGreatDoor
section
open Go Go.RowKit
set_option maxHeartbeats 1000000
set_option maxRecDepth 100000
/-- an entry in its row: the value of its outline, the blocks that hold it, what it is -/
structure It where
  x : Value
  G : Blk
  e : P.Ent
def It.cs (t : It) : List Value := [t.x, .string (S t.e.2)]
theorem Cel.two {v : World} {g o i : Nat} {s t : It} (h : Cel v g (o + i * 2) s.cs) : Cel ((v.setCell ⟨g, o + i * 2, none⟩ t.x).setCell ⟨g, o + i * 2 + 1, none⟩ (.string (S t.e.2))) g (o + i * 2) t.cs := by
  have e := (h.set_at 0 (by simp [It.cs]) t.x).set_at 1 (by simp [It.cs]) (.string (S t.e.2))
  simpa [It.cs] using e
end
section
/-- not behind -/
def It.le (s t : It) : Prop := P.cmp s.e.1 t.e.1 ≤ 0
theorem It.le_refl (s : It) : s.le s := by unfold It.le; rw [P.cmp_refl]; decide
theorem It.le_of_lt {s t : It} (h : P.cmp s.e.1 t.e.1 < 0) : s.le t := by unfold It.le; omega
theorem It.le_trans {s t u : It} (h : s.le t) (k : t.le u) : s.le u := by
  unfold It.le at *
  by_cases h1 : P.cmp s.e.1 t.e.1 = 0
  · rw [P.cmp_eq _ _ h1]; exact k
  · by_cases h2 : P.cmp t.e.1 u.e.1 = 0
    · rw [← P.cmp_eq _ _ h2]; exact h
    · have := P.cmp_trans s.e.1 t.e.1 u.e.1 (by omega) (by omega); omega
/-- the part [a, b) of a row has been put in another order -/
structure PermOn (a b : Nat) (l l' : List It) : Prop where
  perm : l'.Perm l
  same : ∀ j, j < a ∨ b ≤ j → l'[j]? = l[j]?
  from_ : ∀ j x, a ≤ j → j < b → l'[j]? = some x → ∃ i, a ≤ i ∧ i < b ∧ l[i]? = some x
def SortedOn (a b : Nat) (l : List It) : Prop := ∀ i j x y, a ≤ i → i < j → j < b → l[i]? = some x → l[j]? = some y → x.le y
theorem PermOn.refl (a b : Nat) (l : List It) : PermOn a b l l := ⟨List.Perm.refl _, fun _ _ => rfl, fun j _ h1 h2 h3 => ⟨j, h1, h2, h3⟩⟩
theorem PermOn.trans {a b : Nat} {l m n : List It} (h : PermOn a b l m) (k : PermOn a b m n) : PermOn a b l n :=
  ⟨k.perm.trans h.perm, fun j hj => (k.same j hj).trans (h.same j hj), fun j x h1 h2 h3 => by
    obtain ⟨i, i1, i2, i3⟩ := k.from_ j x h1 h2 h3
    exact h.from_ i x i1 i2 i3⟩
theorem PermOn.mono {a b a' b' : Nat} {l m : List It} (h : PermOn a b l m) (ha : a' ≤ a) (hb : b ≤ b') : PermOn a' b' l m :=
  ⟨h.perm, fun j hj => h.same j (by omega), fun j x h1 h2 h3 => by
    by_cases hj : a ≤ j ∧ j < b
    · obtain ⟨i, i1, i2, i3⟩ := h.from_ j x hj.1 hj.2 h3
      exact ⟨i, by omega, by omega, i3⟩
    · exact ⟨j, h1, h2, by rw [← h.same j (by omega)]; exact h3⟩⟩
theorem PermOn.len {a b : Nat} {l m : List It} (h : PermOn a b l m) : m.length = l.length := h.perm.length_eq
theorem SortedOn.same {a b c d : Nat} {l m : List It} (h : SortedOn a b l) (k : PermOn c d l m) (ho : b ≤ c ∨ d ≤ a) : SortedOn a b m := by
  intro i j x y h1 h2 h3 h4 h5
  rw [k.same i (by omega)] at h4
  rw [k.same j (by omega)] at h5
  exact h i j x y h1 h2 h3 h4 h5
end
section
open Go Go.RowKit
set_option maxHeartbeats 4000000
set_option maxRecDepth 100000
end
section
open Go Go.RowKit
set_option maxHeartbeats 4000000
set_option maxRecDepth 100000
end
section
open Go Go.RowKit
set_option maxHeartbeats 4000000
set_option maxRecDepth 100000
end
section
def It.lt (s t : It) : Prop := P.cmp s.e.1 t.e.1 < 0
/-- no item of the left part is behind an item of the right part -/
def Split (a c b : Nat) (l : List It) : Prop := ∀ p q x y, a ≤ p → p < c → c ≤ q → q < b → l[p]? = some x → l[q]? = some y → x.le y
theorem Split.left {a c b : Nat} {l m : List It} (h : Split a c b l) (k : PermOn a c l m) : Split a c b m := by
  intro p q x y h1 h2 h3 h4 h5 h6
  obtain ⟨i, i1, i2, i3⟩ := k.from_ p x h1 h2 h5
  rw [k.same q (by omega)] at h6
  exact h i q x y i1 i2 h3 h4 i3 h6
theorem Split.right {a c b : Nat} {l m : List It} (h : Split a c b l) (k : PermOn c b l m) : Split a c b m := by
  intro p q x y h1 h2 h3 h4 h5 h6
  obtain ⟨i, i1, i2, i3⟩ := k.from_ q y h3 h4 h6
  rw [k.same p (by omega)] at h5
  exact h p i x y h1 h2 i1 i2 h5 i3
end
section
theorem It.lt_of_le {s t u : It} (h : s.le t) (k : P.cmp t.e.1 u.e.1 < 0) : P.cmp s.e.1 u.e.1 < 0 := by
  unfold It.le at h
  by_cases e : P.cmp s.e.1 t.e.1 = 0
  · rw [P.cmp_eq _ _ e]; exact k
  · exact P.cmp_trans _ _ _ (by omega) k
theorem SortedOn.le {a b : Nat} {l : List It} (h : SortedOn a b l) {i j : Nat} {x y : It} (h1 : a ≤ i) (h2 : i ≤ j) (h3 : j < b) (h4 : l[i]? = some x) (h5 : l[j]? = some y) : x.le y := by
  by_cases e : i = j
  · subst e; rw [h4] at h5; injection h5 with h5; subst h5; exact It.le_refl _
  · exact h i j x y h1 (by omega) h3 h4 h5
open Go Go.RowKit
set_option maxHeartbeats 4000000
set_option maxRecDepth 100000
/-- all of [m, i) go before t, none of [j, b) does -/
def Cut (l : List It) (m i j b : Nat) (t : It) : Prop :=
  (∀ q s, m ≤ q → q < i → l[q]? = some s → P.cmp s.e.1 t.e.1 < 0) ∧ (∀ q s, j ≤ q → q < b → l[q]? = some s → ¬ P.cmp s.e.1 t.e.1 < 0)
theorem Cut.high {l : List It} {m i j b h : Nat} {t : It} (c : Cut l m i j b t) (hs : SortedOn m b l) (h1 : m ≤ h) (hl : h < l.length) (hc : ¬ P.cmp l[h].e.1 t.e.1 < 0) : Cut l m i h b t :=
  ⟨c.1, fun _ _ q1 q2 q3 k => hc (It.lt_of_le (hs.le h1 q1 q2 (List.getElem?_eq_getElem hl) q3) k)⟩
end
section
theorem It.lt_of_lt_of_le {s t u : It} (k : P.cmp s.e.1 t.e.1 < 0) (h : t.le u) : P.cmp s.e.1 u.e.1 < 0 := by
  unfold It.le at h
  by_cases e : P.cmp t.e.1 u.e.1 = 0
  · rw [← P.cmp_eq _ _ e]; exact k
  · exact P.cmp_trans _ _ _ k (by omega)
open Go Go.RowKit
set_option maxHeartbeats 4000000
set_option maxRecDepth 100000
end
section
end
end Go.Proofs.YtmlklnimoknojaaGreatDoor

namespace Go.Proofs.YtmlklnimoknojaaGreatDoor
section
open Go Go.RowKit
set_option maxHeartbeats 8000000
set_option maxRecDepth 100000
end
section
end
section
theorem SortedOn.mono {a b a' b' : Nat} {l : List It} (h : SortedOn a b l) (ha : a ≤ a') (hb : b' ≤ b) : SortedOn a' b' l :=
  fun i j x y h1 h2 h3 => h i j x y (by omega) h2 (by omega)
open Go Go.RowKit
set_option maxHeartbeats 4000000
set_option maxRecDepth 100000
/-- in order, with room for entries of one outline -/
def P.le (a b : P.Ent) : Prop := P.cmp a.1 b.1 ≤ 0
end
section
open Go Go.RowKit
set_option maxHeartbeats 2000000
set_option maxRecDepth 100000
end
end Go.Proofs.YtmlklnimoknojaaGreatDoor

namespace Go.Proofs.YtmlklnimoknojaaGreatDoor
namespace P
def begins (o p : List Int) : Bool := decide (p.length ≤ o.length) && decide (o.take p.length = p)
end P
open Go Go.RowKit
set_option maxHeartbeats 2000000
set_option maxRecDepth 100000
theorem IntR.take {v : World} {ad : Option Addr} {cap k : Nat} {l : List Int} (h : IntR v (.slice ad l.length cap) l) (hk : k ≤ l.length) : IntR v (.slice ad k cap) (l.take k) := by
  obtain ⟨ad', cap', he, h1, hn, h3⟩ := h
  injection he with e1 e2 e3
  subst e1 e3
  have hlk : (l.take k).length = k := by rw [List.length_take]; omega
  refine ⟨ad, cap, by rw [hlk], by omega, hn, ?_⟩
  rcases h3 with h3 | ⟨g, o, h4, h5, h6⟩
  · left; rw [h3]; simp
  · refine .inr ⟨g, o, h4, h5, fun j hj => ?_⟩
    have hj' : j < l.length := by omega
    rw [List.getElem_take]
    exact h6 j hj'
end Go.Proofs.YtmlklnimoknojaaGreatDoor

namespace Go.Proofs.YtmlklnimoknojaaGreatDoor
namespace P
theorem testBit_mod (n k : Nat) : n / 2 ^ k % 2 = if n.testBit k then 1 else 0 := by
  rw [Nat.testBit_eq_decide_div_mod_eq]
  by_cases h : n / 2 ^ k % 2 = 1
  · rw [h]; simp
  · have : n / 2 ^ k % 2 = 0 := by omega
    rw [this]; simp
end P
open Go Go.RowKit
set_option maxHeartbeats 2000000
set_option maxRecDepth 100000
theorem areLetters (s : Str) (w : World) (hs : s.length ≤ maxLen) :
    Calls Tryz.prog 185 #[.string (S s)] w fun e w' => e = .returned (.bool (s.all P.lower)) ∧ w = w' := by
  unfold maxLen at hs
  go_enter Tryz.func185, Tryz.ntmps185
  go_wp2
  go_loop [3, 6] (fun _ i => ∃ k : Nat, k ≤ s.length ∧ i = .int .i64 k ∧ (s.take k).all P.lower = true) (fun _ i => s.length - (intOf i).toNat)
  case atStart => exact ⟨0, by omega, rfl, by simp⟩
  case round =>
    obtain ⟨k, hk, rfl, ha⟩ := hrel
    have HA := Lib.hid ha; clear ha
    by_cases hlt : k < s.length
    · rcases Int.lt_or_le (s[k].toNat : Int) 97 with h1 | h1
      · have H := Lib.hid h1
        go_wp2
        go_ret
        exact ⟨ret_bool (P.all_false hlt (P.lower_no (.inl H.out))).symm, rfl⟩
      · rcases Int.lt_or_le 122 (s[k].toNat : Int) with h2 | h2
        · have H := Lib.hid h2
          go_wp2
          go_ret
          exact ⟨ret_bool (P.all_false hlt (P.lower_no (.inr H.out))).symm, rfl⟩
        · have HL := Lib.hid (P.lower_yes h1 h2)
          go_wp2
          go_round
          case rel => exact ⟨k + 1, by omega, by go_num, all_snoc k hlt HA.out HL.out⟩
          case measure => simp [intOf]; omega
    · have HT := Lib.hid (show s.all P.lower = true by rw [← List.take_of_length_le (l := s) (i := k) (by omega)]; exact HA.out)
      go_wp2
      go_ret
      exact ⟨ret_bool HT.out.symm, rfl⟩
theorem wraps_i64 (n : Int) (h0 : 0 ≤ n) (h1 : n < 2 ^ 40) : IntKind.i64.wrap n = n := by rw [IntKind.wrap_i64]; omega
theorem and_one {m k : Nat} (hm : m < 2 ^ 23) : bits .and .i64 ((m : Int) / 2 ^ k) 1 = if m.testBit k then 1 else 0 := by
  have e : ((m : Int) / 2 ^ k) = ((m / 2 ^ k : Nat) : Int) := by simp
  have hd : m / 2 ^ k < 2 ^ 40 := by have := Nat.div_le_self m (2 ^ k); omega
  have h := (bits_nat .i64 40 (by decide) wraps_i64 (m / 2 ^ k) 1 hd (by decide)).1
  rw [e]
  have h' : bits .and .i64 ((m / 2 ^ k : Nat) : Int) 1 = ((m / 2 ^ k &&& 1 : Nat) : Int) := h
  rw [h', Nat.and_one_is_mod, P.testBit_mod]
  split <;> rfl
end Go.Proofs.YtmlklnimoknojaaGreatDoor
