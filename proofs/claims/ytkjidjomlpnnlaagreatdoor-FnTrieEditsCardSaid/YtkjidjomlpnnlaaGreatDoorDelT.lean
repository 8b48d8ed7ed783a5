/- Walks: an entry struck from a trie (program, reference). -/
import Derived.Deep.DeepCutAuto
import Derived.Deep.RegionHeld
import Derived.Test.YtkjidjomlpnnlaaGreatDoorSpecT
import Derived.Test.YtkjidjomlpnnlaaGreatDoorTrieM
import Derived.Test.YtkjidjomlpnnlaaGreatDoorDelA
namespace Go.Proofs.YtkjidjomlpnnlaaGreatDoor
section
namespace P
def delTOk (d : Option Dic) (o : List Int) : Bool := match d with
  | none => false
  | some l => delOk o l
theorem delT_dic {o : List Int} {l : Dic} (h : delOk o l = true) : dic (del o l) = true := by
  unfold delOk at h
  rw [Bool.and_eq_true] at h
  obtain ⟨h1, h2, h3⟩ := dic_parts h.1
  have hl := del_len o l
  unfold dic
  rw [Bool.and_eq_true, Bool.and_eq_true, decide_eq_true_eq, List.all_eq_true, rising_pair]
  exact ⟨by omega, fun e he => h2 e (del_sub he), h3.sublist List.filter_sublist⟩
end P
end
open Go Go.RowKit
set_option maxHeartbeats 4000000
set_option maxRecDepth 100000
/-- a trie of the call's own, and whether there is one -/
def TriKPost (ok : Bool) (l : P.Tri) (w : World) (e : Ending) (w' : World) : Prop := ∃ u, e = .returned (.tuple #[.agg #[u], .bool ok]) ∧ Nods w' (Bet w.heap.size w'.heap.size) u (P.keptT ok l) ∧ Below w.heap.size w w'
/-- the boxes of InsertTrie and DeleteTrie: the trie, the result -/
def TBx (W R : Nat) (tv : Value) (v : World) : Prop := (v.cell? ⟨W, 0, none⟩ = some tv ∧ W < v.heap.size) ∧ BL R (.slice none 0 0) v
theorem TBx.below {W R : Nat} {tv : Value} {v v' : World} (h : TBx W R tv v) (hb : Below v.heap.size v v') : TBx W R tv v' :=
  ⟨⟨(hb.cell (p := ⟨W, 0, none⟩) h.1.2).trans h.1.1, Nat.lt_of_lt_of_le h.1.2 hb.size⟩, h.2.below hb⟩
theorem impl_deleteTrie (tv ov : Value) (t : P.Tri) (o : List Int) (w : World) (hu : NodR w tv t) (ho : IntR w ov o) (hx : ∀ n ∈ t, n.2.2.2.length ≤ 2 ^ 30) (hE : Env w) :
    Calls Tryz.prog 56 #[.agg #[tv], ov] w (TriKPost (P.delTOk (P.dictI t) o) (P.trie (P.del o ((P.dictI t).getD []))) w) := by
  have hb0 : Below w.heap.size w (((w.alloc (.cells #[tv] 86))).alloc (.cells #[.slice none 0 0] 86)) := ((Below.refl w.heap.size w).alloc (Nat.le_refl _) _).alloc (by simp) _
  have HN := Lib.hid (show TBx w.heap.size (w.heap.size + 1) tv (((w.alloc (.cells #[tv] 86))).alloc (.cells #[.slice none 0 0] 86)) by refine ⟨⟨?_, ?_⟩, ?_, ?_, ?_⟩ <;> go_simp)
  have HB0 := Lib.hid hb0; have HU := Lib.hid hu; have HX := Lib.hid hx; have HO := Lib.hid ho; have HE := Lib.hid (hE.below hb0 hE.size)
  clear hb0 hx hE
  obtain ⟨ad, cap, rfl, _, _⟩ := hu
  obtain ⟨od, oc, rfl, _, _⟩ := ho
  go_enter Tryz.func56, Tryz.ntmps56
  go_wp2_with fail
  refine (dictT _ t _ (HU.out.below HB0.out) HX.out HE.out).mono ?_
  rintro e w1 ⟨u, rfl, hI, hb⟩
  have HB1 := Lib.hid (HB0.out.trans (hb.mono HB0.out.size)); have HN1 := Lib.hid (HN.out.below hb); have HI := Lib.hid hI; have HE1 := Lib.hid (HE.out.below hb (Nat.le_trans HE.out.size (Nat.le_refl _)))
  obtain ⟨ud, uc, rfl, _, _⟩ := hI
  obtain ⟨q, hq⟩ : ∃ q, (P.dictI t).isSome = q := ⟨_, rfl⟩
  have HSM := Lib.hid (small_getD HX.out)
  have HOK := Lib.hid (show (P.delTOk (P.dictI t) o) = (q && P.delOk o ((P.dictI t).getD [])) by rw [← hq]; cases P.dictI t <;> rfl)
  obtain ⟨l, hl⟩ : ∃ l, (P.dictI t).getD [] = l := ⟨_, rfl⟩
  have HL := Lib.hid hl
  rw [hl] at HI HSM HOK ⊢
  rw [hq]
  have hba := (Below.refl w1.heap.size w1).alloc (Nat.le_refl _) (.cells #[.slice ud l.length uc] 26)
  have HB2 := Lib.hid (HB1.out.trans (hba.mono HB1.out.size)); have HN2 := Lib.hid (HN1.out.below hba); have HI2 := Lib.hid (HI.out.below entE_ok hba); have HE2 := Lib.hid (HE1.out.below hba HE1.out.size)
  clear hb hq hl hba
  go_wp2_with fail
  refine (impl_delete _ _ l o _ (Ents.read HI2.out) (HO.out.below HB2.out) HSM.out HE2.out).mono ?_
  rintro e w2 ⟨v, rfl, hJ, hb⟩
  have HB3 := Lib.hid (HB2.out.trans (hb.mono HB2.out.size)); have HN3 := Lib.hid (HN2.out.below hb); have HJ := Lib.hid hJ
  obtain ⟨vd, vc, rfl, _, _⟩ := hJ
  obtain ⟨k, hk⟩ : ∃ k, P.delOk o l = k := ⟨_, rfl⟩
  have HK := Lib.hid hk
  rw [hk] at HOK HJ ⊢
  obtain ⟨m, hm⟩ : ∃ m, P.kept k (P.del o l) = m := ⟨_, rfl⟩
  have HM := Lib.hid hm
  rw [hm] at HJ ⊢
  have hba := (Below.refl w2.heap.size w2).alloc (Nat.le_refl _) (.cells #[.slice vd m.length vc] 26)
  have HB4 := Lib.hid (HB3.out.trans (hba.mono HB3.out.size)); have HN4 := Lib.hid (HN3.out.below hba); have HJ4 := Lib.hid (HJ.out.below entE_ok hba)
  clear hb hk hm hba
  cases q
  · have HF := Lib.hid (show (P.delTOk (P.dictI t) o) = false from HOK.out)
    obtain ⟨_, b0, f0, _⟩ := HN4.out
    go_wp2
    refine bodyPost_ret (v := .tuple #[.agg #[.slice none 0 0], .bool false]) (by simp [results, Tryz.results56, go_sem, b0]) rfl ⟨_, by rw [HF.out], by rw [HF.out]; exact RowO.nil _ _, HB4.out.setCell (by show w.heap.size ≤ w.heap.size + 1; omega) _⟩
  · cases k
    · have HF := Lib.hid (show (P.delTOk (P.dictI t) o) = false from HOK.out)
      obtain ⟨_, b0, f0, _⟩ := HN4.out
      go_wp2
      refine bodyPost_ret (v := .tuple #[.agg #[.slice none 0 0], .bool false]) (by simp [results, Tryz.results56, go_sem, b0]) rfl ⟨_, by rw [HF.out], by rw [HF.out]; exact RowO.nil _ _, HB4.out.setCell (by show w.heap.size ≤ w.heap.size + 1; omega) _⟩
    · have HF := Lib.hid (show (P.delTOk (P.dictI t) o) = true from HOK.out)
      have HTM := Lib.hid (show P.keptT true (P.trie (P.del o ((P.dictI t).getD []))) = P.trie m by rw [HL.out, ← HM.out]; rfl)
      have HDM := Lib.hid (show P.dic m = true by rw [← HM.out]; exact P.delT_dic HK.out)
      go_wp2_with fail
      refine (trieOf _ m _ (Ents.read HJ4.out) HDM.out).mono ?_
      rintro e w9 ⟨z, rfl, hZ, hb⟩
      have HB9 := Lib.hid (HB4.out.trans (hb.mono HB4.out.size)); have HN9 := Lib.hid (HN4.out.below hb); have HZ := Lib.hid hZ
      have hz := HN4.out.2.2.2
      obtain ⟨zd, zc, rfl, _, _⟩ := hZ
      obtain ⟨_, b0, f0, _⟩ := HN9.out
      clear hb
      go_wp2
      refine bodyPost_ret (v := .tuple #[.agg #[.slice zd (P.trie m).length zc], .bool true]) (by simp [results, Tryz.results56, go_sem, b0]) rfl ⟨_, by rw [HF.out], ?_, HB9.out.setCell (by show w.heap.size ≤ w.heap.size + 1; omega) _⟩
      rw [HF.out, HTM.out]
      exact (HZ.out.stand (X := fun b => b = w.heap.size + 1) nodE_ok ((Chg.refl (fun b => b = w.heap.size + 1) _).setCell (p := ⟨w.heap.size + 1, 0, none⟩) rfl _) (fun b hb e => by have := hb.1; omega)).wide (fun b hb => ⟨by have := hb.1; omega, by have := hb.2; simpa [World.setCell] using by omega⟩) (fun b hb => hb.2)
theorem spec_deleteTrie (tv ov : Value) (t : P.Tri) (o : List Int) (w : World) (hu : NodR w tv t) (ho : IntR w ov o) (hx : ∀ n ∈ t, n.2.2.2.length ≤ 2 ^ 30) :
    Calls Tryz.prog 57 #[.agg #[tv], ov] w (TriKPost (P.delTOk (P.dictI t) o) (P.trie (P.del o ((P.dictI t).getD []))) w) := by
  have hb0 : Below w.heap.size w (((w.alloc (.cells #[tv] 86))).alloc (.cells #[.slice none 0 0] 86)) := ((Below.refl w.heap.size w).alloc (Nat.le_refl _) _).alloc (by simp) _
  have HN := Lib.hid (show TBx w.heap.size (w.heap.size + 1) tv (((w.alloc (.cells #[tv] 86))).alloc (.cells #[.slice none 0 0] 86)) by refine ⟨⟨?_, ?_⟩, ?_, ?_, ?_⟩ <;> go_simp)
  have HB0 := Lib.hid hb0; have HU := Lib.hid hu; have HX := Lib.hid hx; have HO := Lib.hid ho
  clear hb0 hx
  obtain ⟨ad, cap, rfl, _, _⟩ := hu
  obtain ⟨od, oc, rfl, _, _⟩ := ho
  go_enter Tryz.func57, Tryz.ntmps57
  go_wp2_with fail
  refine (spec_isValidTrie _ t _ (HU.out.below HB0.out) HX.out).mono ?_
  rintro e w1 ⟨rfl, hb⟩
  rw [← P.dict_eq]
  have HB1 := Lib.hid (HB0.out.trans (hb.mono HB0.out.size)); have HN1 := Lib.hid (HN.out.below hb)
  clear hb HB0 HN
  cases hd : P.dictI t with
  | none =>
    have HF := Lib.hid (show (P.delTOk (P.dictI t) o) = false by rw [hd]; rfl); clear hd
    obtain ⟨_, b0, f0, _⟩ := HN1.out
    simp only [Option.isSome_none]
    go_wp2
    refine bodyPost_ret (v := .tuple #[.agg #[.slice none 0 0], .bool false]) (by simp [results, Tryz.results57, go_sem, b0]) rfl ⟨_, by rw [HF.out], by rw [HF.out]; exact RowO.nil _ _, HB1.out.setCell (by show w.heap.size ≤ w.heap.size + 1; omega) _⟩
  | some l =>
    have HSM := Lib.hid (small_fun hd HX.out)
    have HOK := Lib.hid (show (P.delTOk (P.dictI t) o) = P.delOk o l by rw [hd]; rfl)
    have HL := Lib.hid (show (P.dictI t).getD [] = l by rw [hd]; rfl)
    obtain ⟨hdl, htl⟩ := P.dictI_of hd
    have HCL := Lib.hid (show P.collect t t.length 0 [] = l by have h := P.trie_collect hdl; rwa [← htl] at h)
    have HSH := Lib.hid (show P.Shaped t by have h := P.shaped_of (P.trie_shape hdl); rwa [← htl] at h)
    clear hd hdl htl
    simp only [Option.isSome_some]
    obtain ⟨⟨t0, t1⟩, b0, f0, _⟩ := HN1.out
    go_wp2_with fail
    refine (l7Entries _ t _ (HU.out.below HB1.out) HSH.out).mono ?_
    rintro e w2 ⟨u, rfl, hI, hb⟩
    rw [HCL.out] at hI
    have HB2 := Lib.hid (HB1.out.trans (hb.mono HB1.out.size)); have HN2 := Lib.hid (HN1.out.below hb); have HI := Lib.hid hI
    obtain ⟨ud, uc, rfl, _, _⟩ := hI
    clear hb t0 t1 b0 f0
    go_wp2_with fail
    refine (spec_delete _ _ l o _ (Ents.read HI.out) (HO.out.below HB2.out) HSM.out).mono ?_
    rintro e w3 ⟨v, rfl, hJ, hb⟩
    have HB3 := Lib.hid (HB2.out.trans (hb.mono HB2.out.size)); have HN3 := Lib.hid (HN2.out.below hb); have HJ := Lib.hid hJ
    obtain ⟨vd, vc, rfl, _, _⟩ := hJ
    obtain ⟨k, hk⟩ : ∃ k, P.delOk o l = k := ⟨_, rfl⟩
    have HK := Lib.hid hk
    rw [hk] at HOK HJ ⊢
    obtain ⟨m, hm⟩ : ∃ m, P.kept k (P.del o l) = m := ⟨_, rfl⟩
    have HM := Lib.hid hm
    rw [hm] at HJ ⊢
    have hba := (Below.refl w3.heap.size w3).alloc (Nat.le_refl _) (.cells #[.slice vd m.length vc] 26)
    have HB4 := Lib.hid (HB3.out.trans (hba.mono HB3.out.size)); have HN4 := Lib.hid (HN3.out.below hba); have HJ4 := Lib.hid (HJ.out.below entE_ok hba)
    clear hb hk hm hba
    cases k
    · have HF := Lib.hid (show (P.delTOk (P.dictI t) o) = false from HOK.out)
      obtain ⟨_, b0, f0, _⟩ := HN4.out
      go_wp2
      refine bodyPost_ret (v := .tuple #[.agg #[.slice none 0 0], .bool false]) (by simp [results, Tryz.results57, go_sem, b0]) rfl ⟨_, by rw [HF.out], by rw [HF.out]; exact RowO.nil _ _, HB4.out.setCell (by show w.heap.size ≤ w.heap.size + 1; omega) _⟩
    · have HF := Lib.hid (show (P.delTOk (P.dictI t) o) = true from HOK.out)
      have HTM := Lib.hid (show P.keptT true (P.trie (P.del o ((P.dictI t).getD []))) = P.trie m by rw [HL.out, ← HM.out]; rfl)
      have HDM := Lib.hid (show P.dic m = true by rw [← HM.out]; exact P.delT_dic HK.out)
      go_wp2_with fail
      refine (l7Build _ m _ (Ents.read HJ4.out) HDM.out).mono ?_
      rintro e w9 ⟨z, rfl, hZ, hb⟩
      have HB9 := Lib.hid (HB4.out.trans (hb.mono HB4.out.size)); have HN9 := Lib.hid (HN4.out.below hb); have HZ := Lib.hid hZ
      have hz := HN4.out.2.2.2
      obtain ⟨zd, zc, rfl, _, _⟩ := hZ
      obtain ⟨_, b0, f0, _⟩ := HN9.out
      clear hb
      go_wp2
      refine bodyPost_ret (v := .tuple #[.agg #[.slice zd (P.trie m).length zc], .bool true]) (by simp [results, Tryz.results57, go_sem, b0]) rfl ⟨_, by rw [HF.out], ?_, HB9.out.setCell (by show w.heap.size ≤ w.heap.size + 1; omega) _⟩
      rw [HF.out, HTM.out]
      exact (HZ.out.stand (X := fun b => b = w.heap.size + 1) nodE_ok ((Chg.refl (fun b => b = w.heap.size + 1) _).setCell (p := ⟨w.heap.size + 1, 0, none⟩) rfl _) (fun b hb e => by have := hb.1; omega)).wide (fun b hb => ⟨by have := hb.1; omega, by have := hb.2; simpa [World.setCell] using by omega⟩) (fun b hb => hb.2)
end Go.Proofs.YtkjidjomlpnnlaaGreatDoor
