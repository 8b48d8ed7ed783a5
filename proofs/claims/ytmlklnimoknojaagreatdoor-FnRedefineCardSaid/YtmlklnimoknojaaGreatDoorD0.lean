/- Base of the dictionary seats: byte lists as strings, small helpers for the walks. -/
import Derived.WalkKit
import Derived.LoopTactic
import Derived.Lib.Hide
import Derived.WalkSpells
import Derived.WalkLawsBesides
import Derived.Deep.QuietTactic
import Derived.BigQuiet
import Derived.Deep.RegionHeld3
import Derived.Test.YtmlklnimoknojaaGreatDoorShelf
import Derived.Test.YtmlklnimoknojaaGreatDoorProg
namespace Go.Proofs.YtmlklnimoknojaaGreatDoor
theorem qA {α : Type} {xs : List α} {i : Nat} (h : i < xs.toArray.size) : xs.toArray[i] = xs[i]'(by simpa using h) := List.getElem_toArray h
theorem qB {α : Type} (a : α) (l : List α) (h : 0 < (a :: l).length) : getElem (a :: l) 0 h = a := rfl
theorem qC {α : Type} (a : α) (l : List α) (i : Nat) (h : i + 1 < (a :: l).length) : getElem (a :: l) (i + 1) h = getElem l i (Nat.lt_of_succ_lt_succ h) := rfl
theorem qD {α : Type} (l : List α) (i : Nat) (a : α) : l.toArray.setIfInBounds i a = (l.set i a).toArray := List.setIfInBounds_toArray ..
theorem qE {α : Type} (x : α) (xs : List α) (a : α) : (x :: xs).set 0 a = a :: xs := rfl
theorem qF {α : Type} (x : α) (xs : List α) (i : Nat) (a : α) : (x :: xs).set (i + 1) a = x :: xs.set i a := rfl
open Go Go.RowKit
abbrev Str := List UInt8
def S (l : Str) : ByteArray := ⟨l.toArray⟩
@[go_sem] theorem S_size (l : Str) : (S l).size = l.length := by simp [S, ByteArray.size]
@[go_sem] theorem S_toList (l : Str) : (S l).toList = l := by simp [S]
@[go_sem] theorem S_dataList (l : Str) : (S l).data.toList = l := by simp [S]
@[go_sem] theorem S_append (a b : Str) : S a ++ S b = S (a ++ b) := by simp [S, ByteArray.mk_append_mk]
@[go_sem] theorem S_extract (l : Str) (a b : Nat) : (S l).extract a b = S ((l.drop a).take (b - a)) := by simp [S, ByteArray.extract_mk]
@[go_sem high] theorem S_extract_end (l : Str) (a : Nat) : (S l).extract a l.length = S (l.drop a) := by
  rw [S_extract, List.take_of_length_le (by simp)]
@[go_sem] theorem S_mk (l : List UInt8) : ByteArray.mk l.toArray = S l := rfl
@[go_sem] theorem S_get (l : Str) (k : Nat) (h : k < (S l).size) : (S l)[k] = l[k]'(by simpa [S_size] using h) := by
  simp [S]; rfl
theorem S_inj {a b : Str} (h : S a = S b) : a = b := by
  have := congrArg (fun x : ByteArray => x.data.toList) h; simpa [S] using this
@[go_sem] theorem wrap64_u8 (b : UInt8) : wrap64 (b.toNat : Int) = b.toNat := by
  have := b.toNat_lt; simp only [wrap64]; omega
theorem ret_bool {a b : Bool} (h : a = b) : Ending.returned (.bool a) = .returned (.bool b) := by rw [h]
theorem ret_int {k : IntKind} {a b : Int} (h : a = b) : Ending.returned (.int k a) = .returned (.int k b) := by rw [h]
theorem ret_str {a b : Str} (h : a = b) : Ending.returned (.string (S a)) = .returned (.string (S b)) := by rw [h]
theorem take_snoc {α : Type} (l : List α) (k : Nat) (h : k < l.length) : l.take (k + 1) = l.take k ++ [l[k]] := by
  rw [List.take_succ_eq_append_getElem h]
theorem bcell {W w1 : World} (hb : Below W.heap.size W w1) : (∀ b o, b < W.heap.size → w1.cell? ⟨b, o, none⟩ = W.cell? ⟨b, o, none⟩) ∧ (∀ b o, b < W.heap.size → w1.frozen? ⟨b, o, none⟩ = W.frozen? ⟨b, o, none⟩) :=
  ⟨fun b o h => hb.cell (p := ⟨b, o, none⟩) h, fun b o h => hb.frozen (p := ⟨b, o, none⟩) h⟩
theorem index_one (s : List UInt8) (c : UInt8) : Lib.index s [c] = Lib.indexByte s c := by
  induction s with
  | nil => rfl
  | cons b l ih =>
    rw [Lib.index, Lib.indexByte, ih]
    by_cases h : b = c
    · subst h; simp
    · have h' : ¬ c = b := fun e => h e.symm
      simp [h, h']
def EB : Nat := 0 + 1
def Env (w : World) : Prop := EB ≤ w.heap.size ∧ (∃ m, w.cell? ⟨0, 0, none⟩ = some (.int .i64 m))
theorem Env.size {w : World} (h : Env w) : EB ≤ w.heap.size := h.1
theorem Env.below {B : Nat} {w w' : World} (h : Env w) (hb : Below B w w') (hB : EB ≤ B) : Env w' := by
  obtain ⟨h1, m, h2⟩ := h
  exact ⟨Nat.le_trans h1 hb.size, m, (hb.cell (p := ⟨0, 0, none⟩) (by show 0 < B; unfold EB at hB; omega)).trans h2⟩
theorem Env.alloc {w : World} (h : Env w) (o : Obj) : Env (w.alloc o) :=
  h.below ((Below.refl w.heap.size _).alloc (Nat.le_refl _) o) h.1
theorem Env.drewN {w : World} (h : Env w) (k : Nat) : Env (w.drewN k) :=
  h.below (below_drewN (Below.refl w.heap.size _) k) h.1
theorem contains_one (s : Str) (c : UInt8) (w : World) :
    Calls Tryz.prog 259 #[.string (S s), .string ⟨#[c]⟩] w fun e w' => e = .returned (.bool (Lib.contains s [c])) ∧ w = w' := by
  have h := Tryz.strings_Contains_one (S s) c w
  rw [S_dataList] at h
  refine h.mono ?_
  rintro e w' ⟨rfl, rfl⟩
  exact ⟨ret_bool (by rw [Lib.contains, index_one]), rfl⟩
theorem grew {w w1 : World} {o : Obj} {n B : Nat} (hb : Below B ((w.alloc o).drewN n) w1) : w.heap.size < w1.heap.size := by
  have h := hb.size
  have e : ((w.alloc o).drewN n).heap.size = w.heap.size + 1 := by show (w.heap.push o).size = _; simp
  omega
theorem grew0 {w w1 : World} {o : Obj} {B : Nat} (hb : Below B (w.alloc o) w1) : w.heap.size < w1.heap.size := grew (n := 0) hb
theorem add0 (b j : Nat) : (⟨b, 0, none⟩ : Addr).add j = ⟨b, j, none⟩ := by unfold Addr.add; split <;> simp_all
def strVals (l : List Str) : List Value := l.map fun x => .string (S x)
def OwnStrs (B : Nat) (w : World) (v : Value) (l : List Str) : Prop := w.ownsRow B 9 1 v l.length (strVals l)
def SplitPost (c : UInt8) (s : Str) (w : World) (e : Ending) (w' : World) : Prop := ∃ v, e = .returned v ∧ OwnStrs w.heap.size w' v (P.split c s) ∧ Below w.heap.size w w'
end Go.Proofs.YtmlklnimoknojaaGreatDoor
