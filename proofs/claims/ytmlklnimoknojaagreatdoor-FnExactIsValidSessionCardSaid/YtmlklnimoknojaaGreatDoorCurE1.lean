/- Walks: spelling (program). -/
import Derived.Deep.DeepCutAuto
import Derived.Test.YtmlklnimoknojaaGreatDoorSpellS
import Derived.Test.YtmlklnimoknojaaGreatDoorFold1
import Derived.BigQuiet
import Derived.Laws.Bits64b
import Derived.Test.YtmlklnimoknojaaGreatDoorMemE
import Derived.Test.YtmlklnimoknojaaGreatDoorLawD
namespace Go.Proofs.YtmlklnimoknojaaGreatDoor
namespace P
theorem vow_idx (b : UInt8) : decide (0 ≤ Go.Lib.indexByte [97, 101, 105, 111, 117] b) = vow b := by
  by_cases hm : b ∈ ([97, 101, 105, 111, 117] : List UInt8)
  · rw [decide_eq_true (idx_pos hm)]
    simp only [List.mem_cons, List.not_mem_nil, or_false] at hm
    rcases hm with rfl | rfl | rfl | rfl | rfl <;> decide
  · rw [idx_neg (fun x hx e => hm (by rw [← e]; exact hx))]
    simp only [List.mem_cons, List.not_mem_nil, or_false, not_or] at hm
    obtain ⟨a1, a2, a3, a4, a5⟩ := hm
    simp [vow, a1, a2, a3, a4, a5]
end P
open Go Go.RowKit
set_option maxHeartbeats 2000000
set_option maxRecDepth 100000
theorem isWordI (s : Str) (w : World) (hs : s.length ≤ 2 ^ 40) :
    Calls Tryz.prog 289 #[.string (S s)] w fun e w' => e = .returned (.bool (P.isWord s)) ∧ w = w' := by
  have HW := Lib.hid (show P.isWord s = (s.all P.lower && decide (1 ≤ (s.length : Int) ∧ (s.length : Int) ≤ 24)) from rfl)
  have HM := Lib.hid (show s.length ≤ maxLen by unfold maxLen; omega)
  obtain ⟨q, hq⟩ : ∃ q, decide (1 ≤ (s.length : Int) ∧ (s.length : Int) ≤ 24) = q := ⟨_, rfl⟩
  rw [hq] at HW
  cases q
  · go_enter Tryz.func289, Tryz.ntmps289
    go_wp2_with (go_at_call 125; refine (impl_in _ _ _ _).mono ?_; rintro e w' ⟨rfl, rfl⟩)
    go_ret
    exact ⟨ret_bool (by rw [HW.out]; simp), rfl⟩
  · go_enter Tryz.func289, Tryz.ntmps289
    go_wp2_with fail
    refine (impl_in _ _ _ _).mono ?_
    rintro e w1 ⟨rfl, rfl⟩
    rw [hq]
    clear hq
    go_wp2_with fail
    refine (areLetters s _ HM.out).mono ?_
    rintro e w1 ⟨rfl, rfl⟩
    go_wp2
    go_ret
    exact ⟨ret_bool (by rw [HW.out]; simp), rfl⟩
theorem idxVow (b : UInt8) (w : World) :
    Calls Tryz.prog 280 #[.string (S [97, 101, 105, 111, 117]), .int .u8 b.toNat] w fun e w' => e = .returned (.int .i64 (Lib.indexByte [97, 101, 105, 111, 117] b)) ∧ w = w' := by
  refine (Tryz.strings_IndexByte (S [97, 101, 105, 111, 117]) b.toNat w).mono ?_
  rintro e w' ⟨rfl, rfl⟩
  refine ⟨?_, rfl⟩
  rw [S_dataList]
  simp
theorem isVowel (b : UInt8) (w : World) :
    Calls Tryz.prog 293 #[.int .u8 b.toNat] w fun e w' => e = .returned (.bool (P.vow b)) ∧ w = w' := by
  go_enter Tryz.func293, Tryz.ntmps293
  go_wp2_with (go_at_call 280; refine (idxVow _ _).mono ?_; rintro e w' ⟨rfl, rfl⟩)
  go_ret
  exact ⟨ret_bool (P.vow_idx b), rfl⟩
theorem vowelGroups (s : Str) (w : World) (hs : s.length ≤ 2 ^ 30) :
    Calls Tryz.prog 295 #[.string (S s)] w fun e w' => e = .returned (.int .i64 (P.vgroups s)) ∧ w = w' := by
  go_enter Tryz.func295, Tryz.ntmps295
  go_wp2
  go_loop [3, 4, 7] (fun n _ i => ∃ k : Nat, k ≤ s.length ∧ i = .int .i64 k ∧ n = .int .i64 (P.vgroupsN s k)) (fun _ _ i => s.length - (intOf i).toNat)
  case atStart => exact ⟨0, Nat.zero_le _, rfl, rfl⟩
  case round =>
    obtain ⟨k, hk, rfl, rfl⟩ := hrel
    have hg := P.vgroupsN_le s k
    by_cases hlt : k < s.length
    · have i1 : (k : Int) < (s.length : Int) := by omega
      have HY := Lib.hid (P.vgroupsN_yes (s := s) (k := k)); have HN := Lib.hid (P.vgroupsN_no (s := s) (k := k))
      generalize P.vgroupsN s k = gn at *
      rcases k with _ | m
      · rw [P.vbegins_0 hlt] at HY HN
        obtain ⟨q, hq⟩ : ∃ q, P.vow (s[0]'hlt) = q := ⟨_, rfl⟩
        rw [hq] at HY HN
        cases q
        · have HZ := Lib.hid (HN.out rfl)
          clear HY HN
          go_wp2_with (go_at_call 293; refine (isVowel _ _).mono ?_; rintro e w' ⟨rfl, rfl⟩)
          go_round
          case rel => exact ⟨1, by omega, by go_num, by rw [show (1 : Nat) = 0 + 1 from rfl, HZ.out]⟩
          case measure => simp [intOf]; omega
        · have HZ := Lib.hid (HY.out rfl)
          clear HY HN
          go_wp2_with (go_at_call 293; refine (isVowel _ _).mono ?_; rintro e w' ⟨rfl, rfl⟩)
          go_round
          case rel => exact ⟨1, by omega, by go_num, by rw [show (1 : Nat) = 0 + 1 from rfl, HZ.out]; go_num⟩
          case measure => simp [intOf]; omega
      · rw [P.vbegins_s hlt] at HY HN
        have hm : m < s.length := by omega
        have i2 : (((m + 1 : Nat) : Int) == 0) = false := by rw [beq_eq_false_iff_ne]; omega
        have i3 : ((m + 1 : Nat) : Int) - 1 = (m : Int) := by omega
        obtain ⟨q, hq⟩ : ∃ q, P.vow (s[m + 1]'hlt) = q := ⟨_, rfl⟩
        obtain ⟨r, hr⟩ : ∃ r, P.vow (s[m]'hm) = r := ⟨_, rfl⟩
        rw [hq, hr] at HY HN
        cases q
        · have HZ := Lib.hid (HN.out rfl)
          clear HY HN
          go_wp2_with (go_at_call 293; refine (isVowel _ _).mono ?_; rintro e w' ⟨rfl, rfl⟩)
          go_round
          case rel => exact ⟨m + 1 + 1, by omega, by go_num, by rw [HZ.out]⟩
          case measure => simp [intOf]; omega
        · cases r
          · have HZ := Lib.hid (HY.out rfl)
            clear HY HN
            go_wp2_with (go_at_call 293; refine (isVowel _ _).mono ?_; rintro e w' ⟨rfl, rfl⟩)
            go_round
            case rel => exact ⟨m + 1 + 1, by omega, by go_num, by rw [HZ.out]; go_num⟩
            case measure => simp [intOf]; omega
          · have HZ := Lib.hid (HN.out rfl)
            clear HY HN
            go_wp2_with (go_at_call 293; refine (isVowel _ _).mono ?_; rintro e w' ⟨rfl, rfl⟩)
            go_round
            case rel => exact ⟨m + 1 + 1, by omega, by go_num, by rw [HZ.out]⟩
            case measure => simp [intOf]; omega
    · have i1 : ¬ (k : Int) < (s.length : Int) := by omega
      have HE := Lib.hid (show P.vgroups s = P.vgroupsN s k by unfold P.vgroups; rw [show s.length = k by omega])
      go_wp2
      go_ret
      exact ⟨ret_int (by rw [HE.out]), rfl⟩
theorem suffix_any (s e : Str) (w : World) (hs : s.length ≤ 2 ^ 40) :
    Calls Tryz.prog 303 #[.string (S s), .string (S e)] w fun e' w' => e' = .returned (.bool (P.ends s e)) ∧ w = w' := by
  refine (Tryz.strings_HasSuffix (S s) (S e) w (by rw [S_size]; omega)).mono ?_
  rintro e' w' ⟨rfl, rfl⟩
  rw [S_dataList, S_dataList]
  exact ⟨rfl, rfl⟩
theorem endsStep (C : Nat) (s e : Str) (w : World) (hC : w.cell? ⟨C, 0, none⟩ = some (.string (S s))) (hs : s.length ≤ 2 ^ 40) :
    Calls Tryz.prog 302 #[.string (S e), .pointer (some ⟨C, 0, none⟩)] w fun e' w' => e' = .returned (.bool (P.ends s e)) ∧ w = w' := by
  go_enter Tryz.func302, Tryz.ntmps302
  go_wp2_with (go_at_call 303; refine (suffix_any _ _ _ hs).mono ?_; rintro e' w' ⟨rfl, rfl⟩)
  go_ret
  exact ⟨rfl, rfl⟩
theorem indexEnds (g cap C : Nat) (s : Str) (l : List Str) (w : World) (hg : ∀ (j : Nat) (h : j < l.length), w.cell? ⟨g, j, none⟩ = some (.string (S (l[j]'h)))) (hC : w.cell? ⟨C, 0, none⟩ = some (.string (S s))) (hs : s.length ≤ 2 ^ 40) (hl : l.length ≤ 100) :
    Calls Tryz.prog 309 #[.slice (some ⟨g, 0, none⟩) l.length cap, .func (Fn.func 302) #[] #[.pointer (some ⟨C, 0, none⟩)]] w fun e w' => (∃ i : Int, e = .returned (.int .i64 i) ∧ decide (0 ≤ i) = l.any (P.ends s)) ∧ w = w' := by
  have HG := Lib.hid hg; have HC := Lib.hid hC; have HS := Lib.hid hs
  clear hg hC hs
  go_enter Tryz.func309, Tryz.ntmps309
  go_wp2
  go_loop [5, 8] (fun _ i => ∃ j : Nat, j ≤ l.length ∧ i = .int .i64 j ∧ (∀ f ∈ l.take j, P.ends s f = false)) (fun _ i => l.length - (intOf i).toNat)
  case atStart => exact ⟨0, Nat.zero_le _, rfl, (fun f h => by simp at h)⟩
  case round =>
    obtain ⟨j, hj, rfl, hn⟩ := hrel
    have HN := Lib.hid hn
    clear hn
    by_cases hlt : j < l.length
    · have c0 := HG.out j hlt
      have HHIT := Lib.hid (show P.ends s l[j] = true → decide (0 ≤ (j : Int)) = l.any (P.ends s) from fun h => by
        rw [decide_eq_true (by omega)]
        exact (List.any_eq_true.2 ⟨_, List.getElem_mem hlt, h⟩).symm)
      have HMISS := Lib.hid (show P.ends s l[j] = false → ∀ f ∈ l.take (j + 1), P.ends s f = false from fun h f hf => by
        rw [take_snoc l j hlt, List.mem_append, List.mem_singleton] at hf
        rcases hf with hf | rfl
        · exact HN.out f hf
        · exact h)
      generalize l[j] = x at *
      have i1 : (j : Int) < (l.length : Int) := by omega
      obtain ⟨b, hbv⟩ : ∃ b, P.ends s x = b := ⟨_, rfl⟩
      have HBV := Lib.hid hbv
      rw [hbv] at HHIT HMISS
      clear hbv
      cases b
      · have HQQ := Lib.hid (HMISS.out rfl)
        clear HHIT HMISS
        go_wp2_with fail
        refine (endsStep C s x _ HC.out HS.out).mono ?_
        rintro e w1 ⟨rfl, rfl⟩
        rw [HBV.out]
        go_wp2
        go_round
        case rel => exact ⟨j + 1, by omega, by go_num, HQQ.out⟩
        case measure => simp [intOf]; omega
      · have HPP := Lib.hid (HHIT.out rfl)
        clear HHIT HMISS
        go_wp2_with fail
        refine (endsStep C s x _ HC.out HS.out).mono ?_
        rintro e w1 ⟨rfl, rfl⟩
        rw [HBV.out]
        go_wp2
        go_ret
        exact ⟨⟨_, rfl, HPP.out⟩, rfl⟩
    · have HP := Lib.hid (show decide (0 ≤ (-1 : Int)) = l.any (P.ends s) by
        have h := HN.out
        rw [List.take_of_length_le (by omega)] at h
        have h2 : l.any (P.ends s) = false := List.any_eq_false.2 fun f hf => by rw [h f hf]; decide
        rw [h2]; rfl)
      go_wp2
      go_ret
      exact ⟨⟨_, rfl, HP.out⟩, rfl⟩
theorem containsEnds (g cap C : Nat) (s : Str) (l : List Str) (w : World) (hg : ∀ (j : Nat) (h : j < l.length), w.cell? ⟨g, j, none⟩ = some (.string (S (l[j]'h)))) (hC : w.cell? ⟨C, 0, none⟩ = some (.string (S s))) (hs : s.length ≤ 2 ^ 40) (hl : l.length ≤ 100) :
    Calls Tryz.prog 301 #[.slice (some ⟨g, 0, none⟩) l.length cap, .func (Fn.func 302) #[] #[.pointer (some ⟨C, 0, none⟩)]] w fun e w' => e = .returned (.bool (l.any (P.ends s))) ∧ w = w' := by
  have HG := Lib.hid hg; have HC := Lib.hid hC
  clear hg hC
  go_enter Tryz.func301, Tryz.ntmps301
  go_wp2_with fail
  refine (indexEnds g cap C s l _ HG.out HC.out hs hl).mono ?_
  rintro e w1 ⟨⟨i, rfl, hi⟩, rfl⟩
  have HI := Lib.hid hi
  clear hi
  go_wp2
  go_ret
  exact ⟨ret_bool (by rw [← HI.out]), rfl⟩
theorem endsWith (g cap : Nat) (s : Str) (l : List Str) (w : World) (hgl : g < w.heap.size) (hg : ∀ (j : Nat) (h : j < l.length), w.cell? ⟨g, j, none⟩ = some (.string (S (l[j]'h)))) (hs : s.length ≤ 2 ^ 40) (hl : l.length ≤ 100) :
    Calls Tryz.prog 294 #[.string (S s), .slice (some ⟨g, 0, none⟩) l.length cap] w fun e w' => e = .returned (.bool (l.any (P.ends s))) ∧ Below w.heap.size w w' := by
  have hb0 := (Below.refl w.heap.size w).alloc (Nat.le_refl _) (.cells #[.string (S s)] 9)
  have HB0 := Lib.hid hb0
  have HC := Lib.hid (show (w.alloc (.cells #[.string (S s)] 9)).cell? ⟨w.heap.size, 0, none⟩ = some (.string (S s)) by go_simp)
  have HG := Lib.hid (show ∀ (j : Nat) (h : j < l.length), (w.alloc (.cells #[.string (S s)] 9)).cell? ⟨g, j, none⟩ = some (.string (S (l[j]'h))) from fun j h => (hb0.cell (p := ⟨g, j, none⟩) hgl).trans (hg j h))
  clear hg hb0
  go_enter Tryz.func294, Tryz.ntmps294
  go_wp2_with fail
  refine (containsEnds g cap w.heap.size s l _ HG.out HC.out hs hl).mono ?_
  rintro e w1 ⟨rfl, rfl⟩
  go_wp2
  go_ret
  exact ⟨rfl, HB0.out⟩
end Go.Proofs.YtmlklnimoknojaaGreatDoor

namespace Go.Proofs.YtmlklnimoknojaaGreatDoor
section
open Go Go.RowKit
set_option maxHeartbeats 400000
set_option maxRecDepth 100000
theorem Chg.drewN {F : Blk} {a w : World} (h : Chg F a w) (k : Nat) : Chg F a (w.drewN k) := h.trans (Below.chg (below_drewN (Below.refl w.heap.size w) k) F)
end
end Go.Proofs.YtmlklnimoknojaaGreatDoor

namespace Go.Proofs.YtmlklnimoknojaaGreatDoor
open Go Go.RowKit
set_option maxHeartbeats 2000000
set_option maxRecDepth 100000
theorem Chg.grown {v v' : World} {row : Option Nat} (h : v.grownBy v' row) : Chg (fun b => row = some b) v v' :=
  ⟨h.os, h.tape, h.output, h.size, fun b hb hf => h.block b hb fun e => hf e.symm⟩
theorem owns_stand {B : Nat} {e : TypeId} {z : Nat} {v v' : World} {u : Value} {n : Nat} {xs : List Value} {X : Blk} (h : v.ownsRow B e z u n xs) (hc : Chg X v v') (hX : ∀ k, u.ownBlock = some k → ¬ X k) : v'.ownsRow B e z u n xs := by
  refine ⟨h.1, h.2.imp id ?_⟩
  rintro ⟨g, cap, cur, e, hg, hh, r⟩
  have hk : u.ownBlock = some g := by rw [e]; rfl
  exact ⟨g, cap, cur, e, hg, (hc.block g (World.ownsRow.lt h g hk).2 (hX g hk)).trans hh, r⟩
theorem lit_strs (l : List Str) (v : World) (t : TypeId) (j : Nat) (h : j < l.length) : (v.alloc (.cells (l.map fun s => Value.string (S s)).toArray t)).cell? ⟨v.heap.size, j, none⟩ = some (.string (S (l[j]'h))) := by
  rw [World.cell?_alloc_new]
  simp [h]
end Go.Proofs.YtmlklnimoknojaaGreatDoor
