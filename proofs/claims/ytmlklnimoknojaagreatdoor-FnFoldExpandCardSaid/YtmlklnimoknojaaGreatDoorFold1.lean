/- Walks: an entry put into a dictionary (program). Plain: when it may be. -/
import Derived.Test.YtmlklnimoknojaaGreatDoorDelA
import Derived.Test.YtmlklnimoknojaaGreatDoorSortH
import Derived.Test.YtmlklnimoknojaaGreatDoorPut1
import Derived.Deep.DeepCutAuto
import Derived.Test.YtmlklnimoknojaaGreatDoorOuts
import Derived.Deep.RegionHeld
import Derived.BigQuiet
import Derived.IntWalk
import Derived.Test.YtmlklnimoknojaaGreatDoorPlainFold
import Derived.Test.YtmlklnimoknojaaGreatDoorReadA
import Derived.Laws.BitsLemmas
namespace Go.Proofs.YtmlklnimoknojaaGreatDoor
namespace P
theorem dic_len {l : Dic} (h : dic l = true) : l.length ≤ 40 := by
  unfold dic at h
  simp only [Bool.and_eq_true, decide_eq_true_eq] at h
  exact h.1
theorem put_len (e : Ent) (l : Dic) : (putF e false l).length ≤ l.length + 1 := by
  have h1 := putFold_eq e l
  have h2 := putFold_len e l
  rw [← h1]
  cases h : (putFold e l).2 with
  | true => rw [h] at h2; simpa using h2
  | false => rw [h] at h2; simpa using h2
end P
open Go Go.RowKit
set_option maxHeartbeats 2000000
set_option maxRecDepth 100000
/-- a result of a dictionary's function: the row, the answer -/
def DkPost (ok : Bool) (l : P.Dic) (w : World) (e : Ending) (w' : World) : Prop :=
  ∃ u, e = .returned (.tuple #[.agg #[u], .bool ok]) ∧ Ents w' (Bet w.heap.size w'.heap.size) u (P.kept ok l) ∧ Below w.heap.size w w'
/-- the row behind the result's store -/
theorem ents_done {W : Nat} {v : World} {F : Blk} {u x : Value} {l : P.Dic} (k : Nat) (h : Ents v F u l) (hF : ∀ b, F b → W ≤ b ∧ b < v.heap.size ∧ b ≠ k) : Ents (v.setCell ⟨k, 0, none⟩ x) (Bet W (v.setCell ⟨k, 0, none⟩ x).heap.size) u l := by
  refine (h.stand (X := fun b => b = k) entE_ok ((Chg.refl (fun b => b = k) v).setCell (p := ⟨k, 0, none⟩) rfl _) ?_).wide ?_ ?_
  · intro b hb e; exact (hF b hb).2.2 e
  · intro b hb; have := hF b hb; exact ⟨this.1, by simp [World.setCell]; omega⟩
  · intro b hb; exact hb.2
end Go.Proofs.YtmlklnimoknojaaGreatDoor

namespace Go.Proofs.YtmlklnimoknojaaGreatDoor
namespace P
def begins (o p : List Int) : Bool := decide (p.length ≤ o.length) && decide (o.take p.length = p)
end P
open Go Go.RowKit
set_option maxHeartbeats 2000000
set_option maxRecDepth 100000
theorem IntR.take {v : World} {ad : Option Addr} {cap k : Nat} {l : List Int} (h : IntR v (.slice ad l.length cap) l) (hk : k ≤ l.length) : IntR v (.slice ad k cap) (l.take k) := by
  obtain ⟨ad', cap', he, h1, hn, h3⟩ := h
  injection he with e1 e2 e3
  subst e1 e3
  have hlk : (l.take k).length = k := by rw [List.length_take]; omega
  refine ⟨ad, cap, by rw [hlk], by omega, hn, ?_⟩
  rcases h3 with h3 | ⟨g, o, h4, h5, h6⟩
  · left; rw [h3]; simp
  · refine .inr ⟨g, o, h4, h5, fun j hj => ?_⟩
    have hj' : j < l.length := by omega
    rw [List.getElem_take]
    exact h6 j hj'
theorem Box1.mk2 (x : Value) (t : Str) (T : TypeId) (v : World) : Box1 v.heap.size x (v.alloc (.cells #[x, .string (S t)] T)) := ⟨by go_simp, by simp⟩
end Go.Proofs.YtmlklnimoknojaaGreatDoor

namespace Go.Proofs.YtmlklnimoknojaaGreatDoor
namespace P
/-- a valid outline's last stroke -/
theorem outline_last {o : List Int} (h : outline o = true) : 0 < o.length ∧ o.length ≤ 6 ∧ ∃ n : Nat, lastI o = (n : Int) ∧ 1 ≤ n ∧ n < 2 ^ 23 ∧ o.getD (o.length - 1) 0 = (n : Int) := by
  unfold outline at h
  simp only [Bool.and_eq_true, decide_eq_true_eq, List.all_eq_true] at h
  have h0 : 0 < o.length := by omega
  have hm : lastI o ∈ o := by
    unfold lastI
    rw [List.getD_eq_getElem?_getD, List.getElem?_eq_getElem (by omega)]
    exact List.getElem_mem _
  have hs := h.2 _ hm
  unfold stroke at hs
  simp only [decide_eq_true_eq] at hs
  obtain ⟨n, hn⟩ := Int.eq_ofNat_of_zero_le (show 0 ≤ lastI o by omega)
  exact ⟨h0, by omega, n, hn, by omega, by omega, hn⟩
theorem hasK_nat (n k : Nat) : hasK (n : Int) (k : Int) = n.testBit k := rfl
theorem bitI_nat (k : Nat) : bitI (k : Int) = ((2 ^ k : Nat) : Int) := rfl
theorem testBit_mod (n k : Nat) : n / 2 ^ k % 2 = if n.testBit k then 1 else 0 := by
  rw [Nat.testBit_eq_decide_div_mod_eq]
  by_cases h : n / 2 ^ k % 2 = 1
  · rw [h]; simp
  · have : n / 2 ^ k % 2 = 0 := by omega
    rw [this]; simp
/-- a bit that is not there, put there -/
theorem or_bit_new {n k : Nat} (h : n.testBit k = false) : n ||| 2 ^ k = n + 2 ^ k := by
  have hm : n / 2 ^ k % 2 = 0 := by rw [testBit_mod, h]; rfl
  have e : n = 2 ^ k * (2 * (n / 2 ^ k / 2)) + n % 2 ^ k := by
    have h1 := Nat.div_add_mod n (2 ^ k)
    have h2 : 2 * (n / 2 ^ k / 2) = n / 2 ^ k := by omega
    rw [h2]; exact h1.symm
  have hb : n % 2 ^ k < 2 ^ k := Nat.mod_lt _ (Nat.two_pow_pos k)
  have h3 : n = 2 ^ k * (2 * (n / 2 ^ k / 2)) ||| n % 2 ^ k := by rw [← Nat.two_pow_add_eq_or_of_lt hb]; exact e
  have h4 : 2 ^ k * (2 * (n / 2 ^ k / 2)) ||| 2 ^ k = 2 ^ k * (2 * (n / 2 ^ k / 2) + 1) := by
    have : 2 ^ k * (2 * (n / 2 ^ k / 2)) ||| 2 ^ k = 2 ^ k * (2 * (n / 2 ^ k / 2) ||| 1) := by
      apply Nat.eq_of_testBit_eq
      intro i
      rw [Nat.testBit_or, Nat.testBit_two_pow_mul, Nat.testBit_two_pow_mul, Nat.testBit_or, Nat.testBit_two_pow]
      by_cases hi : k ≤ i
      · rw [decide_eq_true hi, Bool.true_and, Bool.true_and]
        congr 1
        have : Nat.testBit 1 (i - k) = decide (i - k = 0) := by
          rw [show (1 : Nat) = 2 ^ 0 from rfl, Nat.testBit_two_pow]
          exact decide_eq_decide.2 ⟨fun h => h.symm, fun h => h.symm⟩
        rw [this]
        exact decide_eq_decide.2 (by omega)
      · rw [decide_eq_false hi, Bool.false_and, Bool.false_and, Bool.false_or]
        exact decide_eq_false (by omega)
    rw [this]
    congr 1
    have h5 := Nat.two_pow_add_eq_or_of_lt (i := 1) (b := 1) (by decide) (n / 2 ^ k / 2)
    simpa using h5.symm
  calc n ||| 2 ^ k = (2 ^ k * (2 * (n / 2 ^ k / 2)) ||| n % 2 ^ k) ||| 2 ^ k := by rw [← h3]
    _ = (2 ^ k * (2 * (n / 2 ^ k / 2)) ||| 2 ^ k) ||| n % 2 ^ k := by rw [Nat.or_assoc, Nat.or_comm (n % 2 ^ k), ← Nat.or_assoc]
    _ = 2 ^ k * (2 * (n / 2 ^ k / 2) + 1) ||| n % 2 ^ k := by rw [h4]
    _ = 2 ^ k * (2 * (n / 2 ^ k / 2) + 1) + n % 2 ^ k := (Nat.two_pow_add_eq_or_of_lt hb _).symm
    _ = n + 2 ^ k := by rw [Nat.mul_add, Nat.mul_one]; omega
end P
open Go Go.RowKit
set_option maxHeartbeats 2000000
set_option maxRecDepth 100000
theorem areLetters (s : Str) (w : World) (hs : s.length ≤ maxLen) :
    Calls Tryz.prog 185 #[.string (S s)] w fun e w' => e = .returned (.bool (s.all P.lower)) ∧ w = w' := by
  unfold maxLen at hs
  go_enter Tryz.func185, Tryz.ntmps185
  go_wp2
  go_loop [3, 6] (fun _ i => ∃ k : Nat, k ≤ s.length ∧ i = .int .i64 k ∧ (s.take k).all P.lower = true) (fun _ i => s.length - (intOf i).toNat)
  case atStart => exact ⟨0, by omega, rfl, by simp⟩
  case round =>
    obtain ⟨k, hk, rfl, ha⟩ := hrel
    have HA := Lib.hid ha; clear ha
    by_cases hlt : k < s.length
    · rcases Int.lt_or_le (s[k].toNat : Int) 97 with h1 | h1
      · have H := Lib.hid h1
        go_wp2
        go_ret
        exact ⟨ret_bool (P.all_false hlt (P.lower_no (.inl H.out))).symm, rfl⟩
      · rcases Int.lt_or_le 122 (s[k].toNat : Int) with h2 | h2
        · have H := Lib.hid h2
          go_wp2
          go_ret
          exact ⟨ret_bool (P.all_false hlt (P.lower_no (.inr H.out))).symm, rfl⟩
        · have HL := Lib.hid (P.lower_yes h1 h2)
          go_wp2
          go_round
          case rel => exact ⟨k + 1, by omega, by go_num, all_snoc k hlt HA.out HL.out⟩
          case measure => simp [intOf]; omega
    · have HT := Lib.hid (show s.all P.lower = true by rw [← List.take_of_length_le (l := s) (i := k) (by omega)]; exact HA.out)
      go_wp2
      go_ret
      exact ⟨ret_bool HT.out.symm, rfl⟩
theorem isFold (k : Int) (s : Str) (w : World) (hs : s.length ≤ 2 ^ 30) :
    Calls Tryz.prog 141 #[.agg #[.int .i64 k, .string (S s)]] w fun e w' => e = .returned (.bool (P.fold (k, s))) ∧ Below w.heap.size w w' := by
  have hb0 : Below w.heap.size w (w.alloc (.cells #[.int .i64 k, .string (S s)] 115)) := (Below.refl _ _).alloc (Nat.le_refl _) _
  have HB0 := Lib.hid hb0; clear hb0
  have HF := Lib.hid (show P.fold (k, s) = (decide (13 ≤ k ∧ k ≤ 22) && (s.all P.lower && decide (1 ≤ (s.length : Int) ∧ (s.length : Int) ≤ 8))) from rfl)
  have hsl : s.length ≤ maxLen := by unfold maxLen; omega
  have HSL := Lib.hid hsl; clear hsl
  go_enter Tryz.func141, Tryz.ntmps141
  go_wp2_with fail
  refine (impl_in _ _ _ _).mono ?_
  rintro e w1 ⟨rfl, rfl⟩
  generalize decide (13 ≤ k ∧ k ≤ 22) = q at *
  cases q
  · go_wp2
    go_ret
    exact ⟨ret_bool (by rw [HF.out]; rfl), HB0.out⟩
  · go_wp2_with fail
    refine (impl_in _ _ _ _).mono ?_
    rintro e w1 ⟨rfl, rfl⟩
    generalize decide (1 ≤ (s.length : Int) ∧ (s.length : Int) ≤ 8) = q at *
    cases q
    · go_wp2
      go_ret
      exact ⟨ret_bool (by rw [HF.out]; simp), HB0.out⟩
    · go_wp2_with fail
      refine (areLetters _ _ HSL.out).mono ?_
      rintro e w1 ⟨rfl, rfl⟩
      generalize s.all P.lower = q at *
      go_wp2
      go_ret
      exact ⟨ret_bool (by rw [HF.out]; simp), HB0.out⟩
/-- the outline without its last stroke, a stroke put behind it -/
theorem withLast (u : Value) (o : List Int) (x : Int) (w : World) (hu : IntR w u o) (h0 : 0 < o.length) (h1 : o.length ≤ 2 ^ 20) :
    Calls Tryz.prog 145 #[u, .int .i64 x] w (OwnPost (o.take (o.length - 1) ++ [x]) w) := by
  obtain ⟨i0, hi, hz0, hz1, hz2⟩ := info_parts info_int
  have HU := Lib.hid hu
  obtain ⟨ad, cap, rfl, ⟨hl45, hcap⟩, _, _⟩ := hu
  obtain ⟨n, hn⟩ : ∃ n, o.length = n + 1 := ⟨o.length - 1, by omega⟩
  have i1 : (o.length : Int) - 1 = (n : Int) := by omega
  have i2 : (n : Int) ≤ (cap : Int) := by omega
  have HN := Lib.hid hn
  go_enter Tryz.func145, Tryz.ntmps145
  go_wp2_with fail
  refine (copyOf_own _ (o.take n) _ (by have h := IntR.take HU.out (k := n) (by omega); exact h) (by rw [List.length_take]; omega)).mono ?_
  rintro e w1 ⟨u, rfl, hown, hb⟩
  have hln : (o.take n).length = n := by rw [List.length_take]; omega
  rw [hln] at hown
  have HB1 := Lib.hid hb
  have HOW := Lib.hid (hown.alloc (.cells #[.int .i64 x] 3))
  obtain ⟨ua, uc, rfl⟩ : ∃ a c, u = .slice a n c := by
    rcases hown.2 with ⟨rfl, h0⟩ | ⟨g, cap, cur, hv, _⟩
    · exact ⟨none, 0, by rw [h0]⟩
    · exact ⟨_, cap, hv⟩
  have HZ := Lib.hid hb.size
  clear hb hown
  go_wp2_with (at_builtin; refine wpList_append_own _ rfl _ _ 27 rfl w.heap.size 3 i0 (.int .i64 0) 1 8 Tryz.underlying27 hi hz0 hz1 hz2 rfl (by decide) (.slice ua n uc) n (ints (o.take n)) rfl HOW.out ⟨w1.heap.size, 0, none⟩ 1 1 [.int .i64 x] rfl rfl ?_ ?_ ?_ ?_ ?_ ?_)
  all_goals first | exact ⟨rfl, rfl⟩ | (intro z hz; simp only [List.mem_cons, List.not_mem_nil, or_false] at hz; subst hz; rfl) | (unfold maxLen; omega) | omega | (have h1 := HZ.out; simp; omega) | (intro i z hz; rcases i with _ | i; (injection hz with hz; subst hz; rw [add0]; go_simp); cases hz) | skip
  intro u4 w4 hown hgr _
  have HR := Lib.hid (show w4.ownsRow w.heap.size 3 1 u4 (o.take n ++ [x]).length (ints (o.take n ++ [x])) by rw [List.length_append, hln]; simpa [ints] using hown)
  have HBB := Lib.hid (show Below w.heap.size w w4 from (HB1.out.trans ((Below.refl w1.heap.size w1).alloc (Nat.le_refl _) _ |>.mono HZ.out)).grown hgr (by have h1 := HZ.out; simp; omega) (fun k hk => (World.ownsRow.lt HOW.out k hk).1))
  clear hown hgr
  go_wp2
  go_ret
  exact ⟨_, rfl, by rw [show o.length - 1 = n by have := HN.out; omega]; exact HR.out, HBB.out⟩
theorem wraps_i64 (n : Int) (h0 : 0 ≤ n) (h1 : n < 2 ^ 40) : IntKind.i64.wrap n = n := by rw [IntKind.wrap_i64]; omega
theorem pow_k {k : Nat} (hk : k ≤ 22) : 1 ≤ 2 ^ k ∧ 2 ^ k ≤ 4194304 := ⟨Nat.two_pow_pos k, Nat.pow_le_pow_right (by decide) hk⟩
theorem shl_k {k : Nat} (hk : k ≤ 22) : wrap64 (2 ^ k) = ((2 ^ k : Nat) : Int) := by
  have h := pow_k hk
  have e : ((2 : Int) ^ k) = ((2 ^ k : Nat) : Int) := by simp
  rw [e]; unfold wrap64; omega
theorem and_one {m k : Nat} (hm : m < 2 ^ 23) : bits .and .i64 ((m : Int) / 2 ^ k) 1 = if m.testBit k then 1 else 0 := by
  have e : ((m : Int) / 2 ^ k) = ((m / 2 ^ k : Nat) : Int) := by simp
  have hd : m / 2 ^ k < 2 ^ 40 := by have := Nat.div_le_self m (2 ^ k); omega
  have h := (bits_nat .i64 40 (by decide) wraps_i64 (m / 2 ^ k) 1 hd (by decide)).1
  rw [e]
  have h' : bits .and .i64 ((m / 2 ^ k : Nat) : Int) 1 = ((m / 2 ^ k &&& 1 : Nat) : Int) := h
  rw [h', Nat.and_one_is_mod, P.testBit_mod]
  split <;> rfl
theorem and_bit {m k : Nat} (hm : m < 2 ^ 23) (hk : k ≤ 22) : bits .and .i64 (m : Int) ((2 ^ k : Nat) : Int) = if m.testBit k then ((2 ^ k : Nat) : Int) else 0 := by
  have hp := pow_k hk
  rw [(bits_nat .i64 40 (by decide) wraps_i64 m (2 ^ k) (by omega) (by omega)).1]
  have h : m &&& 2 ^ k = if m.testBit k then 2 ^ k else 0 := by
    apply Nat.eq_of_testBit_eq
    intro i
    rw [Nat.testBit_and, Nat.testBit_two_pow]
    by_cases hi : k = i
    · subst hi
      cases hb : m.testBit k
      · simp
      · simp
    · rw [decide_eq_false hi, Bool.and_false]
      split
      · rw [Nat.testBit_two_pow, decide_eq_false hi]
      · simp
  rw [h]
  split <;> rfl
theorem or_bit_k {m k : Nat} (hm : m < 2 ^ 23) (hk : k ≤ 22) (h : m.testBit k = false) : bits .or .i64 (m : Int) ((2 ^ k : Nat) : Int) = (m : Int) + ((2 ^ k : Nat) : Int) := by
  have hp := pow_k hk
  rw [(bits_nat .i64 40 (by decide) wraps_i64 m (2 ^ k) (by omega) (by omega)).2, P.or_bit_new h]
  simp
end Go.Proofs.YtmlklnimoknojaaGreatDoor
