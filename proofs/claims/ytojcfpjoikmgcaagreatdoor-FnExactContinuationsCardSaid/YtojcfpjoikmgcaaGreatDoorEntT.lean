/- Walks: the entries of a trie, the strokes of a node (program, reference). -/
import Derived.Deep.DeepCutAuto
import Derived.Deep.RegionHeld
import Derived.Test.YtojcfpjoikmgcaaGreatDoorSpecT
namespace Go.Proofs.YtojcfpjoikmgcaaGreatDoor
open Go Go.RowKit
set_option maxHeartbeats 4000000
set_option maxRecDepth 100000
theorem impl_trieEntries (tv : Value) (t : P.Tri) (w : World) (hu : NodR w tv t) (hx : ∀ n ∈ t, n.2.2.2.length ≤ 2 ^ 30) (hE : Env w) :
    Calls Tryz.prog 19 #[.agg #[tv]] w (DictPost (P.dictI t) w) := by
  have hb0 : Below w.heap.size w ((w.alloc (.cells #[tv] 30)).alloc (.cells #[.slice none 0 0] 26)) :=
    ((Below.refl w.heap.size w).alloc (Nat.le_refl _) _).alloc (by simp) _
  have HN := Lib.hid (DBox.new tv w 30)
  have HB0 := Lib.hid hb0; have HU := Lib.hid hu; have HX := Lib.hid hx; have HE := Lib.hid (hE.below hb0 hE.size)
  clear hb0 hx hE
  obtain ⟨ad, cap, rfl, _, _⟩ := hu
  go_enter Tryz.func19, Tryz.ntmps19
  go_wp2_with fail
  refine (dictT _ t _ (HU.out.below HB0.out) HX.out HE.out).mono ?_
  rintro e w1 ⟨u, rfl, hI, hb⟩
  have HB1 := Lib.hid (HB0.out.trans (hb.mono HB0.out.size)); have HN1 := Lib.hid (HN.out.below hb); have HI := Lib.hid hI
  have hz := hb.size
  obtain ⟨ud, uc, rfl, _, _⟩ := hI
  obtain ⟨_, b0, f0, _⟩ := HN1.out
  obtain ⟨q, hq⟩ : ∃ q, (P.dictI t).isSome = q := ⟨_, rfl⟩
  obtain ⟨l, hl⟩ : ∃ l, (P.dictI t).getD [] = l := ⟨_, rfl⟩
  have HQ := Lib.hid hq; have HL := Lib.hid hl
  rw [hl] at HI ⊢
  rw [hq]
  clear hb hq hl
  go_wp2
  refine bodyPost_ret (v := .tuple #[.agg #[.slice ud l.length uc], .bool q]) (by simp [results, Tryz.results19, go_sem, b0]) rfl ⟨_, by rw [HQ.out], ?_, ?_⟩
  · rw [HL.out]
    refine (HI.out.stand (X := fun b => b = w.heap.size + 1) entE_ok ((Chg.refl (fun b => b = w.heap.size + 1) _).setCell (p := ⟨w.heap.size + 1, 0, none⟩) rfl _) (fun b hb e => by have := hb.1; simp at this; omega)).wide (fun b hb => ⟨by have := hb.1; simp at this; omega, by have := hb.2; simpa [World.setCell] using by omega⟩) (fun b hb => hb.2)
  · exact HB1.out.setCell (Nat.le_succ _) _
theorem spec_trieEntries (tv : Value) (t : P.Tri) (w : World) (hu : NodR w tv t) (hx : ∀ n ∈ t, n.2.2.2.length ≤ 2 ^ 30) :
    Calls Tryz.prog 38 #[.agg #[tv]] w (DictPost (P.dictI t) w) := by
  have hb0 : Below w.heap.size w ((w.alloc (.cells #[tv] 30)).alloc (.cells #[.slice none 0 0] 26)) :=
    ((Below.refl w.heap.size w).alloc (Nat.le_refl _) _).alloc (by simp) _
  have HN := Lib.hid (DBox.new tv w 30)
  have HB0 := Lib.hid hb0; have HU := Lib.hid hu; have HX := Lib.hid hx
  clear hb0 hx
  obtain ⟨ad, cap, rfl, _, _⟩ := hu
  go_enter Tryz.func38, Tryz.ntmps38
  go_wp2_with fail
  refine (spec_isValidTrie _ t _ (HU.out.below HB0.out) HX.out).mono ?_
  rintro e w1 ⟨rfl, hb⟩
  have HB1 := Lib.hid (HB0.out.trans (hb.mono HB0.out.size)); have HN1 := Lib.hid (HN.out.below hb)
  clear hb HB0 HN
  rw [← P.dict_eq]
  cases hd : P.dictI t with
  | none =>
    have HD := Lib.hid hd; clear hd
    obtain ⟨_, b0, f0, _⟩ := HN1.out
    simp only [Option.isSome_none]
    go_wp2
    refine bodyPost_ret (v := .tuple #[.agg #[.slice none 0 0], .bool false]) (by simp [results, Tryz.results38, go_sem, b0]) rfl ⟨_, by rw [HD.out]; rfl, ?_, ?_⟩
    · rw [HD.out]; exact RowO.nil _ _
    · exact HB1.out.setCell (Nat.le_succ _) _
  | some l =>
    obtain ⟨hdl, rfl⟩ := P.dictI_of hd
    have HD := Lib.hid hd
    have HCL := Lib.hid (P.trie_collect hdl)
    have HSH := Lib.hid (P.shaped_of (P.trie_shape hdl))
    clear hd hdl
    obtain ⟨a0, a1, f0, a2⟩ := HN1.out
    generalize htr : P.trie l = t at *
    have HTR := Lib.hid htr; clear htr
    simp only [Option.isSome_some]
    go_wp2_with fail
    refine (l7Entries _ t _ (HU.out.below HB1.out) HSH.out).mono ?_
    rintro e w2 ⟨u, rfl, hI, hb⟩
    rw [HCL.out] at hI
    have HB2 := Lib.hid (HB1.out.trans (hb.mono HB1.out.size)); have HN2 := Lib.hid (HN1.out.below hb); have HI := Lib.hid hI
    have hz := HN1.out.2.2.2
    obtain ⟨ud, uc, rfl, _, _⟩ := hI
    clear hb a0 a1 f0 a2
    obtain ⟨_, b0, f0, _⟩ := HN2.out
    go_wp2
    refine bodyPost_ret (v := .tuple #[.agg #[.slice ud l.length uc], .bool true]) (by simp [results, Tryz.results38, go_sem, b0]) rfl ⟨_, by rw [HD.out]; rfl, ?_, ?_⟩
    · rw [HD.out]
      refine (HI.out.stand (X := fun b => b = w.heap.size + 1) entE_ok ((Chg.refl (fun b => b = w.heap.size + 1) _).setCell (p := ⟨w.heap.size + 1, 0, none⟩) rfl _) (fun b hb e => by have := hb.1; omega)).wide (fun b hb => ⟨by have := hb.1; omega, by have := hb.2; simpa [World.setCell] using by omega⟩) (fun b hb => hb.2)
    · exact HB2.out.setCell (Nat.le_succ _) _
def P.contOk (t : P.Tri) (n : Int) : Bool := (P.dictI t).isSome && decide (0 ≤ n ∧ n ≤ (t.length : Int) - 1)
def P.contL (t : P.Tri) (n : Int) : List Int := (t.getD n.toNat P.nd0).1
def P.keptI (ok : Bool) (l : List Int) : List Int := if ok then l else []
/-- the strokes of a node, in memory of the call's own -/
def ConPost (ok : Bool) (l : List Int) (w : World) (e : Ending) (w' : World) : Prop := ∃ u, e = .returned (.tuple #[u, .bool ok]) ∧ Ints w' (Bet w.heap.size w'.heap.size) u (P.keptI ok l) ∧ Below w.heap.size w w'
theorem impl_continuations (tv : Value) (t : P.Tri) (n : Int) (w : World) (hu : NodR w tv t) (hs : SmallT t) (hx : ∀ n ∈ t, n.2.2.2.length ≤ 2 ^ 30) (hE : Env w) :
    Calls Tryz.prog 30 #[.agg #[tv], .int .i64 n] w (ConPost (P.contOk t n) (P.contL t n) w) := by
  have hba := (Below.refl w.heap.size w).alloc (Nat.le_refl _) (.cells #[tv] 30)
  have HTB := Lib.hid (Box1.new tv 30 w)
  have HB0 := Lib.hid hba; have HU := Lib.hid hu; have HX := Lib.hid hx; have HE := Lib.hid (hE.below hba hE.size); have HS := Lib.hid hs
  clear hba hx hE hs
  obtain ⟨ad, cap, rfl, htl, _⟩ := hu
  go_enter Tryz.func30, Tryz.ntmps30
  go_wp2_with fail
  refine (impl_isValidTrie _ t _ (HU.out.below HB0.out) HX.out HE.out).mono ?_
  rintro e w1 ⟨rfl, hb⟩
  have HB1 := Lib.hid (HB0.out.trans (hb.mono HB0.out.size)); have HT1 := Lib.hid (HTB.out.below hb)
  clear hb HB0 HTB
  obtain ⟨b0, b1⟩ := HT1.out
  cases hq : (P.dictI t).isSome
  · have HK := Lib.hid (show P.contOk t n = false by unfold P.contOk; rw [hq]; rfl)
    clear hq
    go_wp2
    go_ret2
    exact ⟨_, by rw [HK.out]; rfl, by rw [HK.out]; exact RowO.nil _ _, HB1.out⟩
  · obtain ⟨c, hc⟩ : ∃ c, decide (0 ≤ n ∧ n ≤ (t.length : Int) - 1) = c := ⟨_, rfl⟩
    have HK := Lib.hid (show P.contOk t n = c by unfold P.contOk; rw [hq, hc]; rfl)
    have HC := Lib.hid hc
    clear hq hc
    go_wp2_with fail
    refine (impl_in _ _ _ _).mono ?_
    rintro e w2 ⟨rfl, rfl⟩
    rw [HC.out]
    cases c
    · go_wp2
      go_ret2
      exact ⟨_, by rw [HK.out]; rfl, by rw [HK.out]; exact RowO.nil _ _, HB1.out⟩
    · obtain ⟨hn0, hn1⟩ := of_decide_eq_true HC.out
      obtain ⟨k, rfl⟩ : ∃ k : Nat, n = (k : Int) := ⟨n.toNat, by omega⟩
      have hk : k < t.length := by omega
      obtain ⟨g, o, x, y, st, ch, tt, tx, hg, rfl, hgl, ⟨c0, c1, c2, c3⟩, hx, _⟩ := (HU.out.below HB1.out).node hk
      have HSL := Lib.hid (show st.length ≤ 2 ^ 20 by
        have h := (HS.out.each _ (List.getElem_mem hk)).a
        rw [P.getD_at hk] at hg
        rw [hg] at h; exact h)
      have HL := Lib.hid (show P.contL t (k : Int) = st by unfold P.contL; rw [Int.toNat_natCast, hg])
      have HXX := Lib.hid hx
      obtain ⟨xd, xc, rfl, _, _⟩ := hx
      have i1 : (k : Int) < (t.length : Int) := by omega
      clear hg hn0 hn1
      go_wp2_with fail
      refine (copyOf _ st _ HXX.out (by have := HSL.out; omega)).mono ?_
      rintro e w3 ⟨u, rfl, hI, hb⟩
      have HB2 := Lib.hid (HB1.out.trans (hb.mono HB1.out.size)); have HI := Lib.hid hI
      have hz := HB1.out.size
      clear hb hI
      go_wp2
      go_ret2
      exact ⟨_, by rw [HK.out]; rfl, by rw [HK.out, HL.out]; exact HI.out.wide (fun b hb => ⟨by have := hb.1; omega, hb.2⟩) (fun b hb => hb.2), HB2.out⟩
theorem spec_continuations (tv : Value) (t : P.Tri) (n : Int) (w : World) (hu : NodR w tv t) (hs : SmallT t) (hx : ∀ n ∈ t, n.2.2.2.length ≤ 2 ^ 30) :
    Calls Tryz.prog 29 #[.agg #[tv], .int .i64 n] w (ConPost (P.contOk t n) (P.contL t n) w) := by
  obtain ⟨i0, hi, hz0, hz1, hz2⟩ := info_parts info_int
  have hba := (Below.refl w.heap.size w).alloc (Nat.le_refl _) (.cells #[tv] 30)
  have HTB := Lib.hid (Box1.new tv 30 w)
  have HB0 := Lib.hid hba; have HU := Lib.hid hu; have HX := Lib.hid hx; have HS := Lib.hid hs
  clear hba hx hs
  obtain ⟨ad, cap, rfl, htl, _⟩ := hu
  go_enter Tryz.func29, Tryz.ntmps29
  go_wp2_with fail
  refine (spec_isValidTrie _ t _ (HU.out.below HB0.out) HX.out).mono ?_
  rintro e w1 ⟨rfl, hb⟩
  rw [← P.dict_eq]
  have HB1 := Lib.hid (HB0.out.trans (hb.mono HB0.out.size)); have HT1 := Lib.hid (HTB.out.below hb)
  clear hb HB0 HTB
  obtain ⟨b0, b1⟩ := HT1.out
  cases hq : (P.dictI t).isSome
  · have HK := Lib.hid (show P.contOk t n = false by unfold P.contOk; rw [hq]; rfl)
    clear hq
    go_wp2
    go_ret2
    exact ⟨_, by rw [HK.out]; rfl, by rw [HK.out]; exact RowO.nil _ _, HB1.out⟩
  · obtain ⟨c, hc⟩ : ∃ c, decide (0 ≤ n ∧ n ≤ (t.length : Int) - 1) = c := ⟨_, rfl⟩
    have HK := Lib.hid (show P.contOk t n = c by unfold P.contOk; rw [hq, hc]; rfl)
    have HC := Lib.hid hc
    clear hq hc
    go_wp2_with fail
    refine (l1In _ _ _ _).mono ?_
    rintro e w2 ⟨rfl, rfl⟩
    rw [HC.out]
    cases c
    · go_wp2
      go_ret2
      exact ⟨_, by rw [HK.out]; rfl, by rw [HK.out]; exact RowO.nil _ _, HB1.out⟩
    · obtain ⟨hn0, hn1⟩ := of_decide_eq_true HC.out
      obtain ⟨k, rfl⟩ : ∃ k : Nat, n = (k : Int) := ⟨n.toNat, by omega⟩
      have hk : k < t.length := by omega
      obtain ⟨g, o, x, y, st, ch, tt, tx, hg, rfl, hgl, ⟨c0, c1, c2, c3⟩, hx, _⟩ := (HU.out.below HB1.out).node hk
      have hsl : st.length ≤ 2 ^ 20 := by
        have h := (HS.out.each _ (List.getElem_mem hk)).a
        rw [P.getD_at hk] at hg
        rw [hg] at h; exact h
      have HL := Lib.hid (show P.contL t (k : Int) = st by unfold P.contL; rw [Int.toNat_natCast, hg])
      have hbl := (Below.refl w1.heap.size w1).alloc (Nat.le_refl _) (.cells #[] 3)
      have HSRC := Lib.hid (src_of_ints (hx.below hbl))
      have HBL := Lib.hid hbl
      have HOWN := Lib.hid (World.ownsRow_lit (base := w1.heap.size) (e := 3) (size := 1) w1 #[] 0 (Nat.le_refl _) (Nat.zero_le _) (by simp))
      obtain ⟨xd, xc, rfl, _, _⟩ := hx
      have i1 : (k : Int) < (t.length : Int) := by omega
      clear hg hn0 hn1 hbl
      go_wp2_with (at_builtin; refine wpList_append_src rfl _ _ 41 rfl w1.heap.size 3 i0 (.int .i64 0) 1 8 Tryz.underlying41 hi hz0 hz1 hz2 rfl (by decide) _ 0 [] rfl HOWN.out _ st.length (ints st) rfl HSRC.out ?_ ?_ (by simp) ?_)
      · unfold maxLen; omega
      · omega
      intro v' w3 hown hgr _
      have HI := Lib.hid (ints_of_owns hown (by omega))
      have HB2 := Lib.hid (HB1.out.trans ((HBL.out.grown hgr (by simp) (fun k hk => by simp [Value.ownBlock] at hk; omega)).mono HB1.out.size))
      have hz := HB1.out.size
      clear hown hgr
      go_wp2
      go_ret2
      exact ⟨_, by rw [HK.out]; rfl, by rw [HK.out, HL.out]; exact HI.out.wide (fun b hb => ⟨by have := hb.1; omega, hb.2⟩) (fun b hb => hb.2), HB2.out⟩
end Go.Proofs.YtojcfpjoikmgcaaGreatDoor
