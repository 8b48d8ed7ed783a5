/- Tools of the law FnRedefine: what a redefining reads, plain facts of it. -/
import Derived.Test.YtmlklnimoknojaaGreatDoorScrI9
import Derived.Test.YtmlklnimoknojaaGreatDoorScrS9
import Derived.Test.YtmlklnimoknojaaGreatDoorFDict3
import Derived.Test.YtmlklnimoknojaaGreatDoorSpellI
import Derived.Test.YtmlklnimoknojaaGreatDoorPlainScr2
import Derived.Test.YtmlklnimoknojaaGreatDoorTool3
import Derived.Test.YtmlklnimoknojaaGreatDoorValD
import Derived.Deep.DeepCutAuto
import Derived.Deep.RegionHeld
import Derived.Test.YtmlklnimoknojaaGreatDoorLawD
import Derived.Test.YtmlklnimoknojaaGreatDoorFDict1
import Derived.Test.YtmlklnimoknojaaGreatDoorScrI3
namespace Go.Proofs.YtmlklnimoknojaaGreatDoor
namespace P
theorem put_twice {e : Ent} {l : Dic} (hl : l.Pairwise lt) : putF e false (putF e false l) = putF e false l := by
  refine rising_one _ _ (putF_rising e _ (putF_rising e l hl)) (putF_rising e l hl) fun x => ?_
  rw [putF_mem, del_mem, putF_mem, del_mem]
  constructor
  · rintro (h | ⟨h | h, h2⟩)
    · exact .inl h
    · exact .inl h
    · exact .inr h
  · rintro (h | h)
    · exact .inl h
    · exact .inr ⟨.inr h, h.2⟩
theorem apply_text3 {s : Bs} {e : Edit} (h : (applyE s e).2 = true) : e.2.length ≤ 2000 := by
  unfold applyE at h
  split at h
  · rename_i hc
    simp only [Bool.and_eq_true] at hc
    have h1 := hc.2.1
    unfold editOk at h1
    simp only [Bool.and_eq_true] at h1
    exact screen_len h1.2
  · cases h
theorem redef_facts {l b : Dic} {st nx : List Int} {s0 s1 et tx : Bs} {o : List Int} {en : Int} (hr : redef l (st, s0) (o, tx) = (((b, (nx, s1)), (en, et)), true)) :
    nx = st ∧ applyE s0 (en, et) = (s1, true) ∧ lookD o b = (tx, true) ∧ trans b (st, s1) = true ∧ dic b = true ∧ redef b (st, s1) (o, tx) = (((b, (st, s1)), (0, [])), true) := by
  cases hq : (trans l (st, s0) && (insOk (o, tx) l && (scr (putF (o, tx) false l) st).2))
  · rw [redef_no hq] at hr
    injection hr with _ h2
    cases h2
  · have hq' := hq
    simp only [Bool.and_eq_true] at hq'
    obtain ⟨h1, h2, h3⟩ := hq'
    have h4 := redef_ok (t := (st, s0)) h1 h2 h3
    rw [hr] at h4
    injection h4 with h5 _
    injection h5 with h6 h7
    injection h6 with h8 h9
    injection h9 with h10 h11
    have hdl : dic l = true := trans_dic h1
    have hrise := (dic_parts hdl).2.2
    have hd : dic b = true := by rw [h8]; exact ins_dicR h2
    have hpb : putF (o, tx) false b = b := by rw [h8]; exact put_twice hrise
    obtain ⟨_, t2, t3⟩ := trans_parts h1
    have hs3 : (scr b st).2 = true := by rw [h8]; exact h3
    have hs1 : (scr b st).1 = s1 := by rw [h8]; exact h11.symm
    have htr : trans b (st, s1) = true := by rw [← hs1]; exact trans_of hs3 t3
    have hin : insOk (o, tx) b = true := by
      unfold insOk at h2 ⊢
      simp only [Bool.and_eq_true, decide_eq_true_eq] at h2 ⊢
      exact ⟨hd, h2.2.1, by rw [hpb]; exact (dic_parts hd).1⟩
    refine ⟨h10, ?_, ?_, htr, hd, ?_⟩
    · rw [h7, ← h11]; exact apply_least (trans_screen h1) (trans_screen htr)
    · rw [h8]; exact ins_look h2
    · rw [redef_ok (t := (st, s1)) htr hin (by rw [hpb]; exact hs3), hpb, hs1, least_self]
theorem redef_noF {l b : Dic} {st nx : List Int} {s0 s1 et tx : Bs} {o : List Int} {en : Int} (hr : redef l (st, s0) (o, tx) = (((b, (nx, s1)), (en, et)), false)) : b = [] := by
  cases hq : (trans l (st, s0) && (insOk (o, tx) l && (scr (putF (o, tx) false l) st).2))
  · rw [redef_no hq] at hr
    injection hr with h1 _
    injection h1 with h2 _
    injection h2 with h3 _
    exact h3.symm
  · simp only [Bool.and_eq_true] at hq
    rw [redef_ok (t := (st, s0)) hq.1 hq.2.1 hq.2.2] at hr
    injection hr with _ h2
    cases h2
theorem redef_len (l : Dic) (t : Tr) (e : Ent) : (redef l t e).1.1.2.1.length ≤ t.1.length := by
  unfold redef
  split
  · exact Nat.le_refl _
  · exact Nat.zero_le _
end P
open Go Go.RowKit
set_option maxHeartbeats 2000000
def RdRd (b : P.Dic) (nx : List Int) (sc : Str) (en : Int) (et : Str) (ok : Bool) (w : World) (e : Ending) (w' : World) : Prop :=
  ∃ bd bc d c, e = .returned (.tuple #[.agg #[.slice bd b.length bc], .agg #[.slice d nx.length c, .string (S sc)], .agg #[.int .i64 en, .string (S et)], .bool ok]) ∧ EntR w' (.slice bd b.length bc) b ∧ IntR w' (.slice d nx.length c) nx ∧ Below w.heap.size w w'
theorem rd_rd {r : ((P.Dic × P.Tr) × P.Edit) × Bool} {b : P.Dic} {nx : List Int} {sc et : Str} {en : Int} {ok : Bool} (hr : r = (((b, (nx, sc)), (en, et)), ok)) (hl : nx.length ≤ 2 ^ 30) {w : World} (e : Ending) (w' : World) (h : RedefPost r w e w') : RdRd b nx sc en et ok w e w' := by
  subst hr
  obtain ⟨u, us, m, he, hb, ho, _, _, hbl⟩ := h
  simp only at hb ho
  obtain ⟨a, c, rfl⟩ := ownK_form ho
  obtain ⟨ba, bc, rfl, _, _⟩ := id (Ents.read hb)
  exact ⟨ba, bc, a, c, he, Ents.read hb, ownK_read ho (by omega), hbl⟩
end Go.Proofs.YtmlklnimoknojaaGreatDoor
namespace Go.Proofs.YtmlklnimoknojaaGreatDoor
open Go Go.RowKit
set_option maxHeartbeats 2000000
set_option maxRecDepth 100000
theorem isScreen (s : Str) (w : World) (hs : s.length ≤ 2 ^ 40) :
    Calls Tryz.prog 57 #[.string (S s)] w fun e w' => e = .returned (.bool (P.screen s)) ∧ w = w' := by
  have HP := Lib.hid (show P.screen s = (decide ((s.length : Int) ≤ 2000) && s.all P.prn) from rfl)
  go_enter Tryz.func57, Tryz.ntmps57
  by_cases h : (s.length : Int) ≤ 2000
  · rw [decide_eq_true h, Bool.true_and] at HP
    go_wp2_with fail
    refine (isPrintable s _ hs).mono ?_
    rintro e w' ⟨rfl, rfl⟩
    generalize s.all P.prn = q at *
    go_wp2
    go_ret
    exact ⟨by rw [HP.out]; rfl, rfl⟩
  · rw [decide_eq_false h, Bool.false_and] at HP
    go_wp2
    go_ret
    exact ⟨by rw [HP.out]; rfl, rfl⟩
theorem isValidEdit (x : Int) (t : Str) (w : World) (hs : t.length ≤ 2 ^ 40) :
    Calls Tryz.prog 58 #[.agg #[.int .i64 x, .string (S t)]] w fun e w' => e = .returned (.bool (P.editOk (x, t))) ∧ Below w.heap.size w w' := by
  have HB := Lib.hid ((Below.refl w.heap.size w).alloc (Nat.le_refl _) (.cells #[.int .i64 x, .string (S t)] 38))
  have HP := Lib.hid (show P.editOk (x, t) = (decide (0 ≤ x ∧ x ≤ 2000) && P.screen t) from rfl)
  go_enter Tryz.func58, Tryz.ntmps58
  go_wp2_with fail
  refine (impl_in _ _ _ _).mono ?_
  rintro e w1 ⟨rfl, rfl⟩
  obtain ⟨q, hq⟩ : ∃ q, decide (0 ≤ x ∧ x ≤ 2000) = q := ⟨_, rfl⟩
  rw [hq] at HP ⊢
  clear hq
  cases q
  · go_wp2
    go_ret
    exact ⟨by rw [HP.out]; rfl, HB.out⟩
  · go_wp2_with fail
    refine (isScreen t _ hs).mono ?_
    rintro e w2 ⟨rfl, rfl⟩
    rw [Bool.true_and] at HP
    generalize P.screen t = q at *
    go_wp2
    go_ret
    exact ⟨by rw [HP.out]; rfl, HB.out⟩
theorem applyEdit (s : Str) (x : Int) (t : Str) (w : World) (hs : s.length ≤ 2 ^ 30) (ht : t.length ≤ 2 ^ 30) :
    Calls Tryz.prog 16 #[.string (S s), .agg #[.int .i64 x, .string (S t)]] w (RenPost (P.applyE s (x, t)) w) := by
  have hb0 := (Below.refl w.heap.size w).alloc (Nat.le_refl _) (.cells #[.int .i64 x, .string (S t)] 38)
  have HB := Lib.hid hb0
  have HX := Lib.hid (show w.heap.size < (w.alloc (.cells #[.int .i64 x, .string (S t)] 38)).heap.size ∧ (w.alloc (.cells #[.int .i64 x, .string (S t)] 38)).cell? ⟨w.heap.size, 0, none⟩ = some (.int .i64 x) ∧ (w.alloc (.cells #[.int .i64 x, .string (S t)] 38)).cell? ⟨w.heap.size, 1, none⟩ = some (.string (S t)) from ⟨by simp, by go_simp, by go_simp⟩)
  clear hb0
  go_enter Tryz.func16, Tryz.ntmps16
  go_wp2_with fail
  generalize (World.alloc _ _) = W at *
  refine (isScreen s _ (by omega)).mono ?_
  rintro e w1 ⟨rfl, rfl⟩
  have HP := Lib.hid (show P.applyE s (x, t) = (if P.screen s && (P.editOk (x, t) && decide (x ≤ (s.length : Int))) then (if 2000 < (s.take (s.length - x.toNat) ++ t).length then ([], false) else (s.take (s.length - x.toNat) ++ t, true)) else ([], false)) from rfl)
  generalize P.screen s = q at *
  obtain ⟨_, k0, k1⟩ := HX.out
  cases q
  · go_wp2
    go_ret2
    exact ⟨by rw [HP.out]; rfl, HB.out⟩
  · go_wp2_with fail
    refine (isValidEdit x t _ (by omega)).mono ?_
    rintro e w2 ⟨rfl, hb⟩
    have HB2 := Lib.hid (HB.out.trans (hb.mono HB.out.size))
    have h0 := hb.cell (p := ⟨w.heap.size, 0, none⟩) HX.out.1
    have h1 := hb.cell (p := ⟨w.heap.size, 1, none⟩) HX.out.1
    rw [k0] at h0; rw [k1] at h1
    have HE := Lib.hid (show P.editOk (x, t) = true → 0 ≤ x ∧ x ≤ 2000 from fun h => by unfold P.editOk at h; simp only [Bool.and_eq_true, decide_eq_true_eq] at h; exact h.1)
    generalize P.editOk (x, t) = q at *
    clear hb k0 k1 HX HB
    cases q
    · go_wp2
      go_ret2
      exact ⟨by rw [HP.out]; rfl, HB2.out⟩
    · obtain ⟨x0, _⟩ := HE.out rfl
      obtain ⟨n, rfl⟩ := Int.eq_ofNat_of_zero_le x0
      by_cases hx : n ≤ s.length
      · have i1 : ¬ (s.length : Int) < (n : Int) := by omega
        obtain ⟨m, hm⟩ : ∃ m, m + n = s.length := ⟨s.length - n, by omega⟩
        have i2 : (s.length : Int) - (n : Int) = (m : Int) := by omega
        have i3 : m ≤ s.length := by omega
        have hlen : (s.take m).length = m := by rw [List.length_take]; omega
        have HV := Lib.hid (show s.take (s.length - (n : Int).toNat) = s.take m by congr 1; omega)
        rw [HV.out] at HP
        have HD := Lib.hid (show decide ((n : Int) ≤ (s.length : Int)) = true from decide_eq_true (by omega))
        have i4 : ((s.take m ++ t).length : Int) = (m : Int) + (t.length : Int) := by rw [List.length_append, hlen]; omega
        by_cases h2 : 2000 < (s.take m ++ t).length
        · have i5 : (2000 : Int) < (m : Int) + (t.length : Int) := by omega
          go_wp2_with fail
          go_quiet (fail)
          go_wp2
          go_ret2
          exact ⟨by rw [HP.out, if_pos h2, HD.out]; rfl, by first | exact HB2.out | exact below_drewN HB2.out _⟩
        · have i5 : ¬ (2000 : Int) < (m : Int) + (t.length : Int) := by omega
          go_wp2_with fail
          go_quiet (fail)
          go_wp2
          go_ret2
          exact ⟨by rw [HP.out, if_neg h2, HD.out]; rfl, by first | exact HB2.out | exact below_drewN HB2.out _⟩
      · have i1 : (s.length : Int) < (n : Int) := by omega
        go_wp2
        go_ret2
        exact ⟨by rw [HP.out, decide_eq_false (by omega)]; rfl, HB2.out⟩
end Go.Proofs.YtmlklnimoknojaaGreatDoor
namespace Go.Proofs.YtmlklnimoknojaaGreatDoor
open Go Go.RowKit
set_option maxHeartbeats 2000000
set_option maxRecDepth 100000
theorem vTranslator (u v : Value) (l : List Int) (t : Str) (w : World) (hu : IntR w u l) (hv : IntR w v l) :
    Calls Tryz.prog 15 #[.agg #[u, .string (S t)], .agg #[v, .string (S t)]] w fun e w' => e = .returned (.bool true) ∧ Below w.heap.size w w' := by
  have hb0 : Below w.heap.size w ((w.alloc (.cells #[u, .string (S t)] 32)).alloc (.cells #[v, .string (S t)] 32)) :=
    ((Below.refl w.heap.size w).alloc (Nat.le_refl _) _).alloc (by simp) _
  have HU := Lib.hid (hu.below hb0); have HV := Lib.hid (hv.below hb0)
  have HB0 := Lib.hid hb0; clear hb0
  obtain ⟨ad, cap, rfl, hla, _⟩ := hu
  obtain ⟨bd, dap, rfl, _, _⟩ := hv
  go_enter Tryz.func15, Tryz.ntmps15
  go_wp2_with fail
  refine (vInts _ _ l l _ HU.out HV.out).mono ?_
  rintro e w1 ⟨rfl, hb⟩
  rw [show decide (l = l) = true from decide_eq_true rfl]
  have HB1 := Lib.hid (HB0.out.trans (hb.mono (by simp; omega)))
  clear hb
  go_wp2
  go_ret
  exact ⟨rfl, HB1.out⟩
end Go.Proofs.YtmlklnimoknojaaGreatDoor
