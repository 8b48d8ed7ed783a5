/- Walks: folds (program): an outline unfolded. -/
import Derived.Deep.DeepCutAuto
import Derived.Deep.RegionHeld
import Derived.Test.YtngbkdlicknmhaaGreatDoorFold1
namespace Go.Proofs.YtngbkdlicknmhaaGreatDoor
open Go Go.RowKit
set_option maxHeartbeats 1000000
set_option maxRecDepth 100000
def UnfPost (r : Option (List Int)) (w : World) (e : Ending) (w' : World) : Prop := ∃ x, e = .returned (.tuple #[x, .bool r.isSome]) ∧ Ints w' (Bet w.heap.size w'.heap.size) x (r.getD []) ∧ Below w.heap.size w w'
theorem ints_nil (v : World) (F : Blk) : Ints v F (.slice none 0 0) [] := RowO.nil v _
theorem P.unf_nat {o : List Int} {m n k : Nat} (hm : P.lastI o = (m : Int)) (hn : o.length = n + 1) : P.unf (k : Int) o = if m.testBit k && !decide ((m : Int) = ((2 ^ k : Nat) : Int)) then some (o.take n ++ [(m : Int) - ((2 ^ k : Nat) : Int)]) else none := by
  unfold P.unf
  rw [hm, hn, Nat.add_sub_cancel, P.hasK_nat, P.bitI_nat]
theorem P.into_nat {o : List Int} {m n k : Nat} (hm : P.lastI o = (m : Int)) (hn : o.length = n + 1) : P.into (k : Int) o = if m.testBit k then none else some (o.take n ++ [(m : Int) + ((2 ^ k : Nat) : Int)]) := by
  unfold P.into
  rw [hm, hn, Nat.add_sub_cancel, P.hasK_nat, P.bitI_nat]
theorem unfoldF (k : Nat) (s : Str) (u : Value) (o : List Int) (w : World) (hu : IntR w u o) (ho : P.outline o = true) (hk : k ≤ 22) :
    Calls Tryz.prog 161 #[.agg #[.int .i64 (k : Int), .string (S s)], u] w (UnfPost (P.unf k o) w) := by
  have hb0 : Below w.heap.size w (w.alloc (.cells #[.int .i64 (k : Int), .string (S s)] 176)) := (Below.refl _ _).alloc (Nat.le_refl _) _
  have HU := Lib.hid (hu.below hb0); have HB0 := Lib.hid hb0; clear hb0
  obtain ⟨h0, h6, m, hm, hm1, hm2, hgd⟩ := P.outline_last ho
  obtain ⟨ad, cap, rfl, ⟨hl45, hcap⟩, _, _⟩ := hu
  obtain ⟨n, hn⟩ : ∃ n, o.length = n + 1 := ⟨o.length - 1, by omega⟩
  obtain ⟨g, p, hga, hgl, c0⟩ := HU.out.at n (by omega)
  have hon : o[n]'(by omega) = (m : Int) := by
    rw [hn] at hgd
    rw [List.getD_eq_getElem?_getD, Nat.add_sub_cancel, List.getElem?_eq_getElem (by omega)] at hgd
    exact hgd
  rw [hon] at c0
  subst hga
  have hp := pow_k hk
  have E1 := and_one (m := m) (k := k) hm2
  have E2 := shl_k hk
  have HUN := Lib.hid (P.unf_nat (k := k) hm hn)
  have HIN := Lib.hid (show IntR (w.alloc (.cells #[.int .i64 (k : Int), .string (S s)] 176)) (.slice (some ⟨g, p, none⟩) (n + 1) cap) o by rw [← hn]; exact HU.out)
  have HN := Lib.hid hn
  have HGD := Lib.hid hgd
  clear hgd hm hon
  have i1 : (o.length : Int) - 1 = (n : Int) := by omega
  have i2 : (n : Int) < (o.length : Int) := by omega
  generalize 2 ^ k = q at *
  cases hbk : m.testBit k
  · rw [hbk] at E1 HUN
    have E1' : bits .and .i64 ((m : Int) / 2 ^ k) 1 = 0 := E1
    clear E1 hbk
    go_enter Tryz.func161, Tryz.ntmps161
    go_wp2
    go_ret2
    have hun : P.unf (k : Int) o = none := HUN.out
    rw [hun]
    exact ⟨_, rfl, ints_nil _ _, HB0.out⟩
  · rw [hbk] at E1 HUN
    have E1' : bits .and .i64 ((m : Int) / 2 ^ k) 1 = 1 := E1
    clear E1 hbk
    by_cases hq : (m : Int) = (q : Int)
    · have HQ := Lib.hid hq
      have hq' : m = q := by omega
      subst hq'
      go_enter Tryz.func161, Tryz.ntmps161
      go_wp2
      go_ret2
      have hun : P.unf (k : Int) o = none := by rw [HUN.out]; simp
      rw [hun]
      exact ⟨_, rfl, ints_nil _ _, HB0.out⟩
    · have HQ := Lib.hid hq
      go_enter Tryz.func161, Tryz.ntmps161
      go_wp2_with fail
      refine (withLast _ o ((m : Int) - (q : Int)) _ HIN.out (by omega) (by omega)).mono ?_
      rintro e w1 ⟨x, rfl, hown, hb⟩
      rw [show o.length - 1 = n by have := HN.out; omega] at hown
      have HI := Lib.hid (ints_of_owns hown (by rw [List.length_append]; simp; omega))
      have HB1 := Lib.hid (HB0.out.trans (hb.mono HB0.out.size))
      obtain ⟨xa, xc, rfl, _, _⟩ := id HI.out
      clear hown hb
      go_wp2
      go_ret2
      have hun : P.unf k o = some (o.take n ++ [(m : Int) - (q : Int)]) := by rw [HUN.out, decide_eq_false HQ.out]; rfl
      have hln : (o.take n ++ [(m : Int) - (q : Int)]).length = n + 1 := by rw [List.length_append, List.length_take]; simp; have := HN.out; omega
      have hw : Ints w1 (Bet w.heap.size w1.heap.size) (.slice xa (n + 1) xc) (o.take n ++ [(m : Int) - (q : Int)]) := by
        have h := RowO.wide (F' := Bet w.heap.size w1.heap.size) HI.out (fun b hb => ⟨by have := hb.1; simp at this; omega, hb.2⟩) (fun b hb => hb.2)
        rwa [hln] at h
      rw [hun]
      exact ⟨_, rfl, hw, HB1.out⟩
end Go.Proofs.YtngbkdlicknmhaaGreatDoor
