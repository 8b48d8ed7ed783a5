/- Walks: folds (reference): an outline folded, a folded text, the look-up with folds. -/
import Derived.Deep.DeepCutAuto
import Derived.Deep.RegionHeld
import Derived.Test.YtmlklnimoknojaaGreatDoorFoldS2
namespace Go.Proofs.YtmlklnimoknojaaGreatDoor
open Go Go.RowKit
set_option maxHeartbeats 1000000
set_option maxRecDepth 100000
theorem spec_foldInto (k : Nat) (s : Str) (u : Value) (o : List Int) (w : World) (hu : IntR w u o) (ho : P.outline o = true) (hf : P.fold ((k : Int), s) = true) :
    Calls Tryz.prog 84 #[u, .agg #[.int .i64 (k : Int), .string (S s)]] w (IntoPost (P.into k o) w) := by
  obtain ⟨k', hkk, hk1, hk, hs8⟩ := P.fold_key hf
  obtain rfl : k = k' := by omega
  obtain ⟨i0, hi, hz0, hz1, hz2⟩ := info_parts info_int
  have hb0 : Below w.heap.size w (w.alloc (.cells #[.int .i64 (k : Int), .string (S s)] 115)) := (Below.refl _ _).alloc (Nat.le_refl _) _
  have HU := Lib.hid (hu.below hb0); have HB0 := Lib.hid hb0
  obtain ⟨h0, h6, m, hm, hm1, hm2, hgd⟩ := P.outline_last ho
  obtain ⟨n, hn⟩ : ∃ n, o.length = n + 1 := ⟨o.length - 1, by omega⟩
  obtain ⟨ad, cap, rfl, ⟨hl45, hcap⟩, hq1, hq2⟩ := id hu
  obtain ⟨g, p, hga, hgl, c0⟩ := hu.at n (by omega)
  have hon : o[n]'(by omega) = (m : Int) := by
    rw [hn] at hgd
    rw [List.getD_eq_getElem?_getD, Nat.add_sub_cancel, List.getElem?_eq_getElem (by omega)] at hgd
    exact hgd
  rw [hon] at c0
  subst hga
  have c1 := (hb0.cell (p := ⟨g, p + n, none⟩) hgl).trans c0
  have hp := pow_k hk
  have E1 := and_bit (m := m) (k := k) hm2 hk
  have E2 := shl_k hk
  have E5 : IntKind.i64.wrap (2 ^ k) = ((2 ^ k : Nat) : Int) := by have h := E2; unfold wrap64 at h; rw [IntKind.wrap_i64]; exact h
  have E6 : IntKind.u64.wrap (k : Int) = (k : Int) := by simp [IntKind.wrap, IntKind.bits, IntKind.signed]; omega
  have HTK := Lib.hid (show IntR (w.alloc (.cells #[.int .i64 (k : Int), .string (S s)] 115)) (.slice (some ⟨g, p, none⟩) n cap) (o.take n) from by have h := IntR.take HU.out (k := n) (by omega); exact h)
  have HN := Lib.hid hn; have HGL := Lib.hid hgl
  have i1 : (o.length : Int) - 1 = (n : Int) := by omega
  have i2 : (n : Int) < (o.length : Int) := by omega
  have i3 : (n : Int) ≤ (cap : Int) := by omega
  have i4 : (n : Int) < (n : Int) + 1 := by omega
  have i5 : IntKind.i64.wrap (n : Int) = (n : Int) := by rw [IntKind.wrap_i64]; omega
  have HUN := Lib.hid (P.into_nat (k := k) hm hn)
  have HO := Lib.hid ho; have HF := Lib.hid hf
  have HX := Lib.hid (FBx.new (k : Int) s 115 w)
  have HIN := Lib.hid (show IntR (w.alloc (.cells #[.int .i64 (k : Int), .string (S s)] 115)) (.slice (some ⟨g, p, none⟩) (n + 1) cap) o by rw [← hn]; exact HU.out)
  clear hgd hm hon c0 hb0 hu ho hq1 hq2 hf hkk
  generalize hgq : 2 ^ k = q at *
  clear hgq
  go_enter Tryz.func84, Tryz.ntmps84
  go_wp2_with fail
  refine (l4Good _ o _ HIN.out).mono ?_
  rintro e w1 ⟨rfl, rfl⟩
  rw [HO.out]
  go_wp2_with fail
  refine (l10Fold (k : Int) s _ (by omega)).mono ?_
  rintro e w1 ⟨rfl, hb⟩
  rw [HF.out]
  have HB1 := Lib.hid (HB0.out.trans (hb.mono HB0.out.size)); have HT1 := Lib.hid (HTK.out.below hb); have HX1 := Lib.hid (HX.out.below hb)
  have c2 := (hb.cell (p := ⟨g, p + n, none⟩) (by have := HGL.out; simp; omega)).trans c1
  have HG1 := Lib.hid (show g < w1.heap.size from Nat.lt_of_lt_of_le HGL.out HB1.out.size)
  clear hb c1 HU HX HIN HTK HB0
  obtain ⟨⟨b0, b1⟩, _⟩ := HX1.out
  cases hbk : m.testBit k
  · rw [hbk] at E1
    have E1' : bits .and .i64 (m : Int) (q : Int) = 0 := E1
    have hun : P.into (k : Int) o = some (o.take n ++ [(m : Int) + (q : Int)]) := by rw [HUN.out, hbk]; rfl
    have HUNN := Lib.hid hun
    have c1 := c2
    clear E1 hbk hun HUN c2
    go_upto_region 7 with fail
    have hdd := (Below.refl (w1).heap.size (w1)).drew
    have HBV := Lib.hid (HB1.out.trans (hdd.mono HB1.out.size)); have HTV := Lib.hid (HT1.out.below hdd)
    have CV := Lib.hid ((hdd.cell (p := ⟨g, p + n, none⟩) (HG1.out)).trans c1)
    have GV := Lib.hid (show g < (w1).drew.heap.size from HG1.out)
    have ZV := Lib.hid (show w.heap.size ≤ (w1).drew.heap.size from HBV.out.size)
    clear hdd c1
    have i6 := wrap_add hm2 hp.2
    refine wp_region_held_drew (S := fun v => v.cell? ⟨g, p + n, none⟩ = some (.int .i64 (m : Int))) (by kernel_rfl) CV.out (fun hS0 => ?_)
    generalize (w1).drew = v0 at *
    refine wpAnyH_take (i := 1) (v := .slice (some ⟨g, p, none⟩) (n + 1) cap) rfl (by kernel_rfl) (by kernel_rfl) (by kernel_rfl) (fun _ _ _ h => h) (Or.inl ⟨by rfl, fun z hz => ?_⟩) hS0 ?_
    · obtain z1 := hz
      go_simp
    try simp only [qA, qB, qC, Act.put, qD, qE, qF]
    refine wpAnyH_take (i := 2) (v := .int .i64 ((n : Int) + 1)) rfl (by kernel_rfl) (by kernel_rfl) (by kernel_rfl) (fun _ _ _ h => h) (Or.inl ⟨by rfl, fun z hz => ?_⟩) hS0 ?_
    · obtain z1 := hz
      go_simp
    try simp only [qA, qB, qC, Act.put, qD, qE, qF]
    refine wpAnyH_take (i := 3) (v := .int .i64 (n : Int)) rfl (by kernel_rfl) (by kernel_rfl) (by kernel_rfl) (fun _ _ _ h => h) (Or.inl ⟨by rfl, fun z hz => ?_⟩) hS0 ?_
    · obtain z1 := hz
      go_simp
    try simp only [qA, qB, qC, Act.put, qD, qE, qF]
    refine wpAnyH_take (i := 4) (v := .slice (some ⟨g, p, none⟩) n cap) rfl (by kernel_rfl) (by kernel_rfl) (by kernel_rfl) (fun _ _ _ h => h) (Or.inl ⟨by rfl, fun z hz => ?_⟩) hS0 ?_
    · obtain z1 := hz
      go_simp
    try simp only [qA, qB, qC, Act.put, qD, qE, qF]
    refine wpAnyH_take (i := 6) (v := .slice (some ⟨g, p, none⟩) (n + 1) cap) rfl (by kernel_rfl) (by kernel_rfl) (by kernel_rfl) (fun _ _ _ h => h) (Or.inl ⟨by rfl, fun z hz => ?_⟩) hS0 ?_
    · obtain z1 := hz
      go_simp
    try simp only [qA, qB, qC, Act.put, qD, qE, qF]
    refine wpAnyH_take (i := 7) (v := .int .i64 ((n : Int) + 1)) rfl (by kernel_rfl) (by kernel_rfl) (by kernel_rfl) (fun _ _ _ h => h) (Or.inl ⟨by rfl, fun z hz => ?_⟩) hS0 ?_
    · obtain z1 := hz
      go_simp
    try simp only [qA, qB, qC, Act.put, qD, qE, qF]
    refine wpAnyH_take (i := 8) (v := .int .i64 (n : Int)) rfl (by kernel_rfl) (by kernel_rfl) (by kernel_rfl) (fun _ _ _ h => h) (Or.inl ⟨by rfl, fun z hz => ?_⟩) hS0 ?_
    · obtain z1 := hz
      go_simp
    try simp only [qA, qB, qC, Act.put, qD, qE, qF]
    refine wpAnyH_take (i := 9) (v := .pointer (some ⟨g, p + n, none⟩)) rfl (by kernel_rfl) (by kernel_rfl) (by kernel_rfl) (fun _ _ _ h => h) (Or.inl ⟨by rfl, fun z hz => ?_⟩) hS0 ?_
    · obtain z1 := hz
      go_simp
    try simp only [qA, qB, qC, Act.put, qD, qE, qF]
    refine wpAnyH_take (i := 10) (v := .int .i64 (m : Int)) rfl (by kernel_rfl) (by kernel_rfl) (by kernel_rfl) (fun _ _ _ h => h) (Or.inl ⟨by rfl, fun z hz => ?_⟩) hS0 ?_
    · obtain z1 := hz
      go_simp
    try simp only [qA, qB, qC, Act.put, qD, qE, qF]
    refine wpAnyH_take (i := 11) (v := .int .i64 (q : Int)) rfl (by kernel_rfl) (by kernel_rfl) (by kernel_rfl) (fun _ _ _ h => h) (Or.inl ⟨by rfl, fun z hz => ?_⟩) hS0 ?_
    · obtain z1 := hz
      go_simp
    try simp only [qA, qB, qC, Act.put, qD, qE, qF]
    refine wpAnyH_take (i := 12) (v := .int .i64 ((m : Int) + (q : Int))) rfl (by kernel_rfl) (by kernel_rfl) (by kernel_rfl) (fun _ _ _ h => h) (Or.inl ⟨by rfl, fun z hz => ?_⟩) hS0 ?_
    · obtain z1 := hz
      go_simp
    try simp only [qA, qB, qC, Act.put, qD, qE, qF]
    clear hS0
    have HBB := Lib.hid (Below.refl v0.heap.size v0)
    have SS := Lib.hid (fun (v : World) (h : Below v0.heap.size v0 v) => (h.cell (p := ⟨g, p + n, none⟩) GV.out).trans CV.out)
    have hln : (o.take n).length = n := by rw [List.length_take]; omega
    refine wpAnyH_ready (rs := [0, 13]) (by kernel_rfl) (by simp) ?_
    refine AllReadyH.cons rfl (fun K hK => ?_) (AllReadyH.cons rfl (fun K hK => ?_) AllReadyH.nil)
    · skip
      go_simp
      have hba := (Below.refl v0.heap.size v0).alloc (Nat.le_refl _) (.cells #[] 3)
      have OW1 := Lib.hid (World.ownsRow_lit (base := v0.heap.size) (e := 3) (size := 1) v0 #[] 0 HBB.out.size (Nat.zero_le _) (by simp))
      have HB1 := Lib.hid (HBB.out.trans (hba.mono HBB.out.size))
      have ZA1 := Lib.hid (show v0.heap.size < (v0.alloc (.cells #[] 3)).heap.size by simp)
      refine hK.out _ _ (SS.out _ HB1.out) (fun hS1 => ?_)
      clear hK K hba hS1
      generalize v0.alloc (.cells #[] 3) = n1 at *
      try simp only [qA, qB, qC, Act.put, qD, qE, qF]
      refine wpAnyH_ready (rs := [5, 13]) (by kernel_rfl) (by simp) ?_
      refine AllReadyH.cons rfl (fun K hK => ?_) (AllReadyH.cons rfl (fun K hK => ?_) AllReadyH.nil)
      · skip
        refine step_append_srcF rfl _ _ 27 rfl v0.heap.size 3 i0 (.int .i64 0) 1 8 Tryz.underlying27 hi hz0 hz1 hz2 rfl (by decide) (.slice (some ⟨v0.heap.size, 0, none⟩) 0 0) 0 [] rfl OW1.out (.slice (some ⟨g, p, none⟩) n cap) n (ints (o.take n)) rfl (by have h := src_of_ints (HTV.out.below HB1.out); rw [hln] at h; exact h) (by unfold maxLen; omega) (by omega) HB1.out.size ?_
        intro cv n2 hown hgr
        have HB2 := Lib.hid (HB1.out.grown hgr HB1.out.size (fun k hk => (World.ownsRow.lt OW1.out k hk).1))
        rw [Nat.zero_add, List.nil_append] at hown
        obtain ⟨cd2, cc2, rfl⟩ : ∃ a c, cv = .slice a n c := by
          rcases hown.2 with ⟨rfl, h0⟩ | ⟨g, cap, cur, hv, _⟩
          · exact ⟨none, 0, by rw [h0]⟩
          · exact ⟨_, cap, hv⟩
        have CP2 := Lib.hid hown
        refine hK.out _ _ (SS.out _ HB2.out) (fun hS2 => ?_)
        clear hK K hown hgr hS2
        try simp only [qA, qB, qC, Act.put, qD, qE, qF]
        refine wpAnyH_ready (rs := [13]) (by kernel_rfl) (by simp) ?_
        refine AllReadyH.cons rfl (fun K hK => ?_) AllReadyH.nil
        go_simp
        have hba := (Below.refl n2.heap.size n2).alloc (Nat.le_refl _) (.cells #[.int .i64 ((m : Int) + (q : Int))] 3)
        have ST3 := Lib.hid (show (n2.alloc (.cells #[.int .i64 ((m : Int) + (q : Int))] 3)).cell? ⟨n2.heap.size, 0, none⟩ = some (.int .i64 ((m : Int) + (q : Int))) by go_simp)
        have HB3 := Lib.hid (HB2.out.trans (hba.mono HB2.out.size))
        have LB3 := Lib.hid (show n2.heap.size < (n2.alloc (.cells #[.int .i64 ((m : Int) + (q : Int))] 3)).heap.size by simp)
        have CP3 := Lib.hid (owns_st CP2.out (Below.chg hba fun _ => False) (fun _ _ h => h))
        refine hK.out _ _ (SS.out _ HB3.out) (fun hS3 => ?_)
        clear hK K hba hS3
        generalize n2.alloc (.cells #[.int .i64 ((m : Int) + (q : Int))] 3) = n3 at *
        try simp only [qA, qB, qC, Act.put, qD, qE, qF]
        refine wpAnyH_ready (rs := [14]) (by kernel_rfl) (by simp) ?_
        refine AllReadyH.cons rfl (fun K hK => ?_) AllReadyH.nil
        refine step_append_lies _ rfl _ _ 27 rfl v0.heap.size 3 i0 (.int .i64 0) 1 8 Tryz.underlying27 hi hz0 hz1 hz2 rfl (by decide) (.slice cd2 n cc2) n (ints (o.take n)) rfl CP3.out ⟨n2.heap.size, 0, none⟩ 1 1 [.int .i64 ((m : Int) + (q : Int))] rfl rfl ?_ ?_ (by decide) (by unfold maxLen; omega) (by omega) HB3.out.size _ rfl ?_
        · intro i y hy
          match i, hy with
          | 0, hy => injection hy with hy; subst hy; rw [add0]; exact ST3.out
        · intro y hy
          simp only [List.mem_cons, List.not_mem_nil, or_false] at hy
          subst hy; rfl
        intro g3 cap3 n9 hown hgr hat hlt3
        have HB9 := Lib.hid (HB3.out.grown hgr HB3.out.size (fun k hk => (World.ownsRow.lt CP3.out k hk).1))
        have hln2 : (o.take n ++ [((m : Int) + (q : Int))]).length = n + 1 := by rw [List.length_append, hln]; rfl
        have HI9 := Lib.hid (ints_of_owns (B := v0.heap.size) (l := o.take n ++ [((m : Int) + (q : Int))]) (u := .slice (some ⟨g3, 0, none⟩) (n + 1) cap3) (v := n9) (by rw [hln2, show ints (o.take n ++ [((m : Int) + (q : Int))]) = ints (o.take n) ++ [.int .i64 ((m : Int) + (q : Int))] by simp [ints]]; exact hown) (by rw [hln2]; omega))
        have HW := Lib.hid (show Ints n9 (Bet w.heap.size n9.heap.size) (.slice (some ⟨g3, 0, none⟩) (n + 1) cap3) (o.take n ++ [((m : Int) + (q : Int))]) from RowO.wide (F' := Bet w.heap.size n9.heap.size) HI9.out (fun b hb => ⟨by have := hb.1; have := ZV.out; omega, hb.2⟩) (fun b hb => hb.2))
        have HBW := Lib.hid (HBV.out.trans (HB9.out.mono HBV.out.size))
        refine hK.out _ _ (SS.out _ HB9.out) (fun hS9 => ?_)
        clear hK K hown hgr hat
        try simp only [qA, qB, qC, Act.put, qD, qE, qF]
        refine wpAnyH_take (i := 15) (v := .slice (some ⟨g3, 0, none⟩) (n + 1) cap3) rfl (by kernel_rfl) (by kernel_rfl) (by kernel_rfl) (fun _ _ _ h => h) (Or.inl ⟨by rfl, fun z hz => ?_⟩) hS9 ?_
        · obtain z1 := hz
          go_simp
        try simp only [qA, qB, qC, Act.put, qD, qE, qF]
        refine wpAnyH_take (i := 16) (v := .bool true) rfl (by kernel_rfl) (by kernel_rfl) (by kernel_rfl) (fun _ _ _ h => h) (Or.inl ⟨by rfl, fun z hz => ?_⟩) hS9 ?_
        · obtain z1 := hz
          go_simp
        try simp only [qA, qB, qC, Act.put, qD, qE, qF]
        refine wpAnyH_done (by kernel_rfl) ?_ _
        clear hS9
        go_wp2
        go_ret2
        rw [HUNN.out]
        exact ⟨_, rfl, HW.out, HBW.out⟩
      · skip
        go_simp
        have hba := (Below.refl n1.heap.size n1).alloc (Nat.le_refl _) (.cells #[.int .i64 ((m : Int) + (q : Int))] 3)
        have ST4 := Lib.hid (show (n1.alloc (.cells #[.int .i64 ((m : Int) + (q : Int))] 3)).cell? ⟨n1.heap.size, 0, none⟩ = some (.int .i64 ((m : Int) + (q : Int))) by go_simp)
        have HB4 := Lib.hid (HB1.out.trans (hba.mono HB1.out.size))
        have LB4 := Lib.hid (show n1.heap.size < (n1.alloc (.cells #[.int .i64 ((m : Int) + (q : Int))] 3)).heap.size by simp)
        have OW4 := Lib.hid (owns_st OW1.out (Below.chg hba fun _ => False) (fun _ _ h => h))
        refine hK.out _ _ (SS.out _ HB4.out) (fun hS4 => ?_)
        clear hK K hba hS4
        generalize n1.alloc (.cells #[.int .i64 ((m : Int) + (q : Int))] 3) = n4 at *
        try simp only [qA, qB, qC, Act.put, qD, qE, qF]
        refine wpAnyH_ready (rs := [5]) (by kernel_rfl) (by simp) ?_
        refine AllReadyH.cons rfl (fun K hK => ?_) AllReadyH.nil
        refine step_append_srcF rfl _ _ 27 rfl v0.heap.size 3 i0 (.int .i64 0) 1 8 Tryz.underlying27 hi hz0 hz1 hz2 rfl (by decide) (.slice (some ⟨v0.heap.size, 0, none⟩) 0 0) 0 [] rfl OW4.out (.slice (some ⟨g, p, none⟩) n cap) n (ints (o.take n)) rfl (by have h := src_of_ints (HTV.out.below HB4.out); rw [hln] at h; exact h) (by unfold maxLen; omega) (by omega) HB4.out.size ?_
        intro cv n5 hown hgr
        have HB5 := Lib.hid (HB4.out.grown hgr HB4.out.size (fun k hk => (World.ownsRow.lt OW4.out k hk).1))
        rw [Nat.zero_add, List.nil_append] at hown
        obtain ⟨cd5, cc5, rfl⟩ : ∃ a c, cv = .slice a n c := by
          rcases hown.2 with ⟨rfl, h0⟩ | ⟨g, cap, cur, hv, _⟩
          · exact ⟨none, 0, by rw [h0]⟩
          · exact ⟨_, cap, hv⟩
        have CP5 := Lib.hid hown
        have ST5 := Lib.hid (((Chg.grown hgr).cell (p := ⟨n1.heap.size, 0, none⟩) LB4.out (fun e => by injection e with e; simp only at e; exact absurd e (Nat.ne_of_lt ZA1.out))).trans ST4.out)
        refine hK.out _ _ (SS.out _ HB5.out) (fun hS5 => ?_)
        clear hK K hown hgr hS5
        try simp only [qA, qB, qC, Act.put, qD, qE, qF]
        refine wpAnyH_ready (rs := [14]) (by kernel_rfl) (by simp) ?_
        refine AllReadyH.cons rfl (fun K hK => ?_) AllReadyH.nil
        refine step_append_lies _ rfl _ _ 27 rfl v0.heap.size 3 i0 (.int .i64 0) 1 8 Tryz.underlying27 hi hz0 hz1 hz2 rfl (by decide) (.slice cd5 n cc5) n (ints (o.take n)) rfl CP5.out ⟨n1.heap.size, 0, none⟩ 1 1 [.int .i64 ((m : Int) + (q : Int))] rfl rfl ?_ ?_ (by decide) (by unfold maxLen; omega) (by omega) HB5.out.size _ rfl ?_
        · intro i y hy
          match i, hy with
          | 0, hy => injection hy with hy; subst hy; rw [add0]; exact ST5.out
        · intro y hy
          simp only [List.mem_cons, List.not_mem_nil, or_false] at hy
          subst hy; rfl
        intro g3 cap3 n9 hown hgr hat hlt3
        have HB9 := Lib.hid (HB5.out.grown hgr HB5.out.size (fun k hk => (World.ownsRow.lt CP5.out k hk).1))
        have hln2 : (o.take n ++ [((m : Int) + (q : Int))]).length = n + 1 := by rw [List.length_append, hln]; rfl
        have HI9 := Lib.hid (ints_of_owns (B := v0.heap.size) (l := o.take n ++ [((m : Int) + (q : Int))]) (u := .slice (some ⟨g3, 0, none⟩) (n + 1) cap3) (v := n9) (by rw [hln2, show ints (o.take n ++ [((m : Int) + (q : Int))]) = ints (o.take n) ++ [.int .i64 ((m : Int) + (q : Int))] by simp [ints]]; exact hown) (by rw [hln2]; omega))
        have HW := Lib.hid (show Ints n9 (Bet w.heap.size n9.heap.size) (.slice (some ⟨g3, 0, none⟩) (n + 1) cap3) (o.take n ++ [((m : Int) + (q : Int))]) from RowO.wide (F' := Bet w.heap.size n9.heap.size) HI9.out (fun b hb => ⟨by have := hb.1; have := ZV.out; omega, hb.2⟩) (fun b hb => hb.2))
        have HBW := Lib.hid (HBV.out.trans (HB9.out.mono HBV.out.size))
        refine hK.out _ _ (SS.out _ HB9.out) (fun hS9 => ?_)
        clear hK K hown hgr hat
        try simp only [qA, qB, qC, Act.put, qD, qE, qF]
        refine wpAnyH_take (i := 15) (v := .slice (some ⟨g3, 0, none⟩) (n + 1) cap3) rfl (by kernel_rfl) (by kernel_rfl) (by kernel_rfl) (fun _ _ _ h => h) (Or.inl ⟨by rfl, fun z hz => ?_⟩) hS9 ?_
        · obtain z1 := hz
          go_simp
        try simp only [qA, qB, qC, Act.put, qD, qE, qF]
        refine wpAnyH_take (i := 16) (v := .bool true) rfl (by kernel_rfl) (by kernel_rfl) (by kernel_rfl) (fun _ _ _ h => h) (Or.inl ⟨by rfl, fun z hz => ?_⟩) hS9 ?_
        · obtain z1 := hz
          go_simp
        try simp only [qA, qB, qC, Act.put, qD, qE, qF]
        refine wpAnyH_done (by kernel_rfl) ?_ _
        clear hS9
        go_wp2
        go_ret2
        rw [HUNN.out]
        exact ⟨_, rfl, HW.out, HBW.out⟩
    · skip
      go_simp
      have hba := (Below.refl v0.heap.size v0).alloc (Nat.le_refl _) (.cells #[.int .i64 ((m : Int) + (q : Int))] 3)
      have ST6 := Lib.hid (show (v0.alloc (.cells #[.int .i64 ((m : Int) + (q : Int))] 3)).cell? ⟨v0.heap.size, 0, none⟩ = some (.int .i64 ((m : Int) + (q : Int))) by go_simp)
      have HB6 := Lib.hid (HBB.out.trans (hba.mono HBB.out.size))
      have LB6 := Lib.hid (show v0.heap.size < (v0.alloc (.cells #[.int .i64 ((m : Int) + (q : Int))] 3)).heap.size by simp)
      refine hK.out _ _ (SS.out _ HB6.out) (fun hS6 => ?_)
      clear hK K hba hS6
      generalize v0.alloc (.cells #[.int .i64 ((m : Int) + (q : Int))] 3) = n6 at *
      try simp only [qA, qB, qC, Act.put, qD, qE, qF]
      refine wpAnyH_ready (rs := [0]) (by kernel_rfl) (by simp) ?_
      refine AllReadyH.cons rfl (fun K hK => ?_) AllReadyH.nil
      go_simp
      have hba := (Below.refl n6.heap.size n6).alloc (Nat.le_refl _) (.cells #[] 3)
      have OW7 := Lib.hid (World.ownsRow_lit (base := v0.heap.size) (e := 3) (size := 1) n6 #[] 0 HB6.out.size (Nat.zero_le _) (by simp))
      have HB7 := Lib.hid (HB6.out.trans (hba.mono HB6.out.size))
      have ZA7 := Lib.hid (show n6.heap.size < (n6.alloc (.cells #[] 3)).heap.size by simp)
      have ST7 := Lib.hid ((hba.cell (p := ⟨v0.heap.size, 0, none⟩) LB6.out).trans ST6.out); have LB7 := Lib.hid (Nat.lt_of_lt_of_le LB6.out hba.size)
      refine hK.out _ _ (SS.out _ HB7.out) (fun hS7 => ?_)
      clear hK K hba hS7
      generalize n6.alloc (.cells #[] 3) = n7 at *
      try simp only [qA, qB, qC, Act.put, qD, qE, qF]
      refine wpAnyH_ready (rs := [5]) (by kernel_rfl) (by simp) ?_
      refine AllReadyH.cons rfl (fun K hK => ?_) AllReadyH.nil
      refine step_append_srcF rfl _ _ 27 rfl v0.heap.size 3 i0 (.int .i64 0) 1 8 Tryz.underlying27 hi hz0 hz1 hz2 rfl (by decide) (.slice (some ⟨n6.heap.size, 0, none⟩) 0 0) 0 [] rfl OW7.out (.slice (some ⟨g, p, none⟩) n cap) n (ints (o.take n)) rfl (by have h := src_of_ints (HTV.out.below HB7.out); rw [hln] at h; exact h) (by unfold maxLen; omega) (by omega) HB7.out.size ?_
      intro cv n8 hown hgr
      have HB8 := Lib.hid (HB7.out.grown hgr HB7.out.size (fun k hk => (World.ownsRow.lt OW7.out k hk).1))
      rw [Nat.zero_add, List.nil_append] at hown
      obtain ⟨cd8, cc8, rfl⟩ : ∃ a c, cv = .slice a n c := by
        rcases hown.2 with ⟨rfl, h0⟩ | ⟨g, cap, cur, hv, _⟩
        · exact ⟨none, 0, by rw [h0]⟩
        · exact ⟨_, cap, hv⟩
      have CP8 := Lib.hid hown
      have ST8 := Lib.hid (((Chg.grown hgr).cell (p := ⟨v0.heap.size, 0, none⟩) LB7.out (fun e => by injection e with e; simp only at e; exact absurd e (Nat.ne_of_gt LB6.out))).trans ST7.out)
      refine hK.out _ _ (SS.out _ HB8.out) (fun hS8 => ?_)
      clear hK K hown hgr hS8
      try simp only [qA, qB, qC, Act.put, qD, qE, qF]
      refine wpAnyH_ready (rs := [14]) (by kernel_rfl) (by simp) ?_
      refine AllReadyH.cons rfl (fun K hK => ?_) AllReadyH.nil
      refine step_append_lies _ rfl _ _ 27 rfl v0.heap.size 3 i0 (.int .i64 0) 1 8 Tryz.underlying27 hi hz0 hz1 hz2 rfl (by decide) (.slice cd8 n cc8) n (ints (o.take n)) rfl CP8.out ⟨v0.heap.size, 0, none⟩ 1 1 [.int .i64 ((m : Int) + (q : Int))] rfl rfl ?_ ?_ (by decide) (by unfold maxLen; omega) (by omega) HB8.out.size _ rfl ?_
      · intro i y hy
        match i, hy with
        | 0, hy => injection hy with hy; subst hy; rw [add0]; exact ST8.out
      · intro y hy
        simp only [List.mem_cons, List.not_mem_nil, or_false] at hy
        subst hy; rfl
      intro g3 cap3 n9 hown hgr hat hlt3
      have HB9 := Lib.hid (HB8.out.grown hgr HB8.out.size (fun k hk => (World.ownsRow.lt CP8.out k hk).1))
      have hln2 : (o.take n ++ [((m : Int) + (q : Int))]).length = n + 1 := by rw [List.length_append, hln]; rfl
      have HI9 := Lib.hid (ints_of_owns (B := v0.heap.size) (l := o.take n ++ [((m : Int) + (q : Int))]) (u := .slice (some ⟨g3, 0, none⟩) (n + 1) cap3) (v := n9) (by rw [hln2, show ints (o.take n ++ [((m : Int) + (q : Int))]) = ints (o.take n) ++ [.int .i64 ((m : Int) + (q : Int))] by simp [ints]]; exact hown) (by rw [hln2]; omega))
      have HW := Lib.hid (show Ints n9 (Bet w.heap.size n9.heap.size) (.slice (some ⟨g3, 0, none⟩) (n + 1) cap3) (o.take n ++ [((m : Int) + (q : Int))]) from RowO.wide (F' := Bet w.heap.size n9.heap.size) HI9.out (fun b hb => ⟨by have := hb.1; have := ZV.out; omega, hb.2⟩) (fun b hb => hb.2))
      have HBW := Lib.hid (HBV.out.trans (HB9.out.mono HBV.out.size))
      refine hK.out _ _ (SS.out _ HB9.out) (fun hS9 => ?_)
      clear hK K hown hgr hat
      try simp only [qA, qB, qC, Act.put, qD, qE, qF]
      refine wpAnyH_take (i := 15) (v := .slice (some ⟨g3, 0, none⟩) (n + 1) cap3) rfl (by kernel_rfl) (by kernel_rfl) (by kernel_rfl) (fun _ _ _ h => h) (Or.inl ⟨by rfl, fun z hz => ?_⟩) hS9 ?_
      · obtain z1 := hz
        go_simp
      try simp only [qA, qB, qC, Act.put, qD, qE, qF]
      refine wpAnyH_take (i := 16) (v := .bool true) rfl (by kernel_rfl) (by kernel_rfl) (by kernel_rfl) (fun _ _ _ h => h) (Or.inl ⟨by rfl, fun z hz => ?_⟩) hS9 ?_
      · obtain z1 := hz
        go_simp
      try simp only [qA, qB, qC, Act.put, qD, qE, qF]
      refine wpAnyH_done (by kernel_rfl) ?_ _
      clear hS9
      go_wp2
      go_ret2
      rw [HUNN.out]
      exact ⟨_, rfl, HW.out, HBW.out⟩
  · rw [hbk] at E1
    obtain ⟨z, E1', q0⟩ : ∃ z : Int, bits .and .i64 (m : Int) (q : Int) = z ∧ ¬ z = 0 := ⟨(q : Int), E1, fun h => absurd (Int.ofNat_inj.1 h : q = 0) (Nat.ne_of_gt hp.1)⟩
    have hun : P.into (k : Int) o = none := by rw [HUN.out, hbk]; rfl
    have HUNN := Lib.hid hun
    have b2 : (z == (0 : Int)) = false := by simp [q0]
    clear E1 hbk hun HUN
    go_wp2
    go_ret2
    rw [HUNN.out]
    exact ⟨_, rfl, ints_nil _ _, HB1.out⟩
theorem l10Text (t : Str) (k : Int) (s : Str) (w : World) (ht : t.length ≤ 2 ^ 29) (hf : P.fold (k, s) = true) :
    Calls Tryz.prog 152 #[.string (S t), .agg #[.int .i64 k, .string (S s)]] w (TxtPost (P.foldT t (k, s)) w) := by
  obtain ⟨k', rfl, hk1, hk, hs8⟩ := P.fold_key hf
  have hb0 : Below w.heap.size w (w.alloc (.cells #[.int .i64 (k' : Int), .string (S s)] 115)) := (Below.refl _ _).alloc (Nat.le_refl _) _
  have HB0 := Lib.hid hb0; clear hb0
  have HX := Lib.hid (FBx.new (k' : Int) s 115 w)
  have n1 : ¬ 9223372036854775807 < t.length + 3 := by omega
  have n2 : ¬ 9223372036854775807 < t.length + 3 + s.length := by omega
  have n3 : ¬ 9223372036854775807 < t.length + 3 + s.length + 1 := by omega
  have HFT := Lib.hid (show P.foldT t ((k' : Int), s) = if (P.transS t).2 && (P.transS (P.foldTxt t ((k' : Int), s))).2 then some (P.foldTxt t ((k' : Int), s)) else none from rfl)
  have HTL := Lib.hid (show (P.foldTxt t ((k' : Int), s)).length ≤ 2 ^ 30 by unfold P.foldTxt; simp; omega)
  have hfx : t ++ 32 :: 123 :: 94 :: (s ++ [125]) = P.foldTxt t ((k' : Int), s) := by unfold P.foldTxt; simp
  have HFX := Lib.hid hfx
  clear hf hfx
  go_enter Tryz.func152, Tryz.ntmps152
  go_wp2_with fail
  refine (l5Parse t _ (by omega)).mono ?_
  rintro e w1 ⟨v1, rfl, _, hb⟩
  have HB1 := Lib.hid (HB0.out.trans (hb.mono HB0.out.size)); have HX1 := Lib.hid (HX.out.below hb)
  clear hb HB0 HX
  obtain ⟨q1, hq1⟩ : ∃ q, (P.transS t).2 = q := ⟨_, rfl⟩
  have HQ1 := Lib.hid hq1
  rw [hq1]
  clear hq1
  obtain ⟨⟨b0, b1⟩, _⟩ := HX1.out
  go_wp2_with fail
  rw [HFX.out]
  refine (l5Parse _ _ HTL.out).mono ?_
  rintro e w2 ⟨v2, rfl, _, hb⟩
  have HB2 := Lib.hid (HB1.out.trans (hb.mono HB1.out.size))
  clear hb HB1 HFX b0 b1
  generalize P.foldTxt t ((k' : Int), s) = x at *
  obtain ⟨q2, hq2⟩ : ∃ q, (P.transS x).2 = q := ⟨_, rfl⟩
  have HQ2 := Lib.hid hq2
  rw [hq2]
  clear hq2
  cases q1
  · have hr : P.foldT t ((k' : Int), s) = none := by rw [HFT.out, HQ1.out]; rfl
    have HR := Lib.hid hr
    clear hr
    go_wp2
    go_ret2
    rw [HR.out]
    exact ⟨rfl, HB2.out⟩
  · cases q2
    · have hr : P.foldT t ((k' : Int), s) = none := by rw [HFT.out, HQ1.out, HQ2.out]; rfl
      have HR := Lib.hid hr
      clear hr
      go_wp2
      go_ret2
      rw [HR.out]
      exact ⟨rfl, HB2.out⟩
    · have hr : P.foldT t ((k' : Int), s) = some x := by rw [HFT.out, HQ1.out, HQ2.out]; rfl
      have HR := Lib.hid hr
      clear hr
      go_wp2
      go_ret2
      rw [HR.out]
      exact ⟨rfl, HB2.out⟩
end Go.Proofs.YtmlklnimoknojaaGreatDoor
