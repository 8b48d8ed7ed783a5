/- Walks: a dictionary's entries in memory of their own, in order already (program): the row is the caller's own. -/
import Derived.Test.YtmlklnimoknojaaGreatDoorLawD
namespace Go.Proofs.YtmlklnimoknojaaGreatDoor
open Go Go.RowKit
set_option maxHeartbeats 1000000
set_option maxRecDepth 100000
def OwnDic (l : P.Dic) (w : World) (e : Ending) (w' : World) : Prop := ∃ u xs, e = .returned (.agg #[u]) ∧ Acc 47 2 entE (w.heap.size + 1) w' u l xs ∧ Below w.heap.size w w'
theorem dictionaryOf_own (u : Value) (l : P.Dic) (w : World) (hu : EntR w u l) (hs : P.Up l) (hl : l.length ≤ 2 ^ 20) (hle : ∀ e ∈ l, e.1.length ≤ 2 ^ 20) :
    Calls Tryz.prog 78 #[u] w (OwnDic l w) := by
  obtain ⟨i0, hi, hz0, hz1, hz2⟩ := info_parts info_ent
  have HU := Lib.hid hu
  have HUP := Lib.hid hs; clear hs
  have HLE := Lib.hid hle; clear hle
  have hB0 : Below w.heap.size w ((w.alloc (.cells #[.slice none 0 0] 26)).alloc (.cells #[] 47)) := ((Below.refl w.heap.size w).alloc (Nat.le_refl _) _).alloc (by simp) _
  have HB0 := Lib.hid hB0; clear hB0
  have HA0 := Lib.hid (show Acc 47 2 entE (w.heap.size + 1) ((w.alloc (.cells #[.slice none 0 0] 26)).alloc (.cells #[] 47)) (.slice (some ⟨w.heap.size + 1, 0, none⟩) 0 0) [] [] from
    Acc.nil (by have h := World.ownsRow_lit (base := w.heap.size + 1) (e := 47) (size := 2) (w.alloc (.cells #[.slice none 0 0] 26)) #[] 0 (by simp) (Nat.zero_le _) (by simp); simpa using h) (by simp))
  have r0 : ((w.alloc (.cells #[.slice none 0 0] 26)).alloc (.cells #[] 47)).cell? ⟨w.heap.size, 0, none⟩ = some (.slice none 0 0) := by go_simp
  have s0 : ((w.alloc (.cells #[.slice none 0 0] 26)).alloc (.cells #[] 47)).frozen? ⟨w.heap.size, 0, none⟩ = false := by go_simp
  have R0 := Lib.hid r0; have S0 := Lib.hid s0
  clear r0 s0
  obtain ⟨ad, cap, rfl, _, _⟩ := hu
  go_enter Tryz.func78, Tryz.ntmps78
  go_wp2_with fail
  go_loopw [3, 9] (fun s i wr => ∃ (j : Nat) (xs : List Value), j ≤ l.length ∧ i = .int .i64 j ∧ wr.cell? ⟨w.heap.size, 0, none⟩ = some (.slice none 0 0) ∧ wr.frozen? ⟨w.heap.size, 0, none⟩ = false ∧ Acc 47 2 entE (w.heap.size + 1) wr s (l.take j) xs ∧ Below w.heap.size w wr) (fun _ i _ => l.length - (intOf i).toNat)
  case atStart => exact ⟨0, [], Nat.zero_le _, rfl, R0.out, S0.out, HA0.out, HB0.out⟩
  case round =>
    obtain ⟨j, xs, hj, rfl, r0, s0, hacc, hb⟩ := hrel
    clear HA0 R0 S0 HB0
    have HBZ := Lib.hid (show w.heap.size + 1 ≤ wr.heap.size by obtain ⟨_, _, _, _, h, _⟩ := hacc; exact h)
    have hlt0 : (l.take j).length = j := by rw [List.length_take]; omega
    have HA := Lib.hid hacc; have HB := Lib.hid hb
    have HL0 := Lib.hid hlt0
    obtain ⟨uad, ucap, hu'⟩ := hacc.form
    rw [hlt0] at hu'
    subst hu'
    clear hlt0 hacc
    by_cases hlt : j < l.length
    · obtain ⟨g, o, hga, hgs, x, c0, c1, hx⟩ := (HU.out.below hb).at j hlt
      have HEN := Lib.hid (take_snoc l j hlt)
      have hll := HLE.out _ (List.getElem_mem hlt)
      have hba := (Below.refl wr.heap.size wr).alloc (Nat.le_refl _) (.cells #[x, .string (S l[j].2)] 47)
      have HX := Lib.hid (hx.below hba)
      have HBA := Lib.hid hba
      have HR := Lib.hid ((hba.cell (p := ⟨w.heap.size, 0, none⟩) (by have := HBZ.out; show w.heap.size < _; omega)).trans r0)
      have HSF := Lib.hid ((hba.frozen (p := ⟨w.heap.size, 0, none⟩) (by have := HBZ.out; show w.heap.size < _; omega)).trans s0)
      obtain ⟨xd, xc, rfl, _, _⟩ := hx
      subst hga
      generalize l[j] = en at *
      obtain ⟨eo, et⟩ := en
      simp only at hll HX HBA HR HSF c1
      have i1 : (j : Int) < (l.length : Int) := by omega
      clear hb hba r0 s0
      go_wp2_with fail
      refine (copied _ eo et _ HX.out (by omega)).mono ?_
      rintro e v1 ⟨x1, rfl, hI, hb1⟩
      have hzz : wr.heap.size + 1 ≤ v1.heap.size := by have := hb1.size; simp at this; omega
      have HZ1 := Lib.hid hzz
      have HB1 := Lib.hid (show Below wr.heap.size wr v1 from HBA.out.trans (hb1.mono (by simp)))
      have HI := Lib.hid hI
      have HR1 := Lib.hid ((hb1.cell (p := ⟨w.heap.size, 0, none⟩) (by have := HBZ.out; simp; omega)).trans HR.out)
      have HF1 := Lib.hid ((hb1.frozen (p := ⟨w.heap.size, 0, none⟩) (by have := HBZ.out; simp; omega)).trans HSF.out)
      obtain ⟨x1d, x1c, rfl, _, _⟩ := hI
      clear hb1
      have HA2 := Lib.hid ((HA.out.keep entE_ok HB1.out).keep entE_ok ((Below.refl v1.heap.size v1).alloc (Nat.le_refl _) (.cells #[.slice x1d eo.length x1c, .string (S et)] 47)))
      have HOW := Lib.hid (show (v1.alloc (.cells #[.slice x1d eo.length x1c, .string (S et)] 47)).ownsRow (w.heap.size + 1) 47 2 (.slice uad j ucap) j xs by have := HA2.out.owns; rwa [HL0.out] at this)
      go_wp2_with (at_builtin; refine wpList_append_lies _ rfl _ _ 24 rfl (w.heap.size + 1) 47 i0 (.agg #[.slice none 0 0, .string ⟨#[]⟩]) 2 40 Tryz.underlying24 hi hz0 hz1 hz2 rfl (by decide) (.slice uad j ucap) j xs rfl HOW.out ⟨v1.heap.size, 0, none⟩ 1 1 [.slice x1d eo.length x1c, .string (S et)] rfl rfl ?_ ?_ (Nat.zero_lt_one) ?_ ?_ ?_ _ rfl ?_)
      · intro i y hy
        match i, hy with
        | 0, hy => injection hy with hy; subst hy; rw [add0]; go_simp
        | 1, hy => injection hy with hy; subst hy; rw [add0]; go_simp
      · intro y hy
        simp only [List.mem_cons, List.not_mem_nil, or_false] at hy
        rcases hy with rfl | rfl <;> rfl
      · unfold maxLen; omega
      · omega
      · have h1 := HZ1.out; have h2 := HBZ.out; simp; omega
      intro g1 cap1 v3 hown hgr hat hlt3
      have HB3 := Lib.hid (show Below (w.heap.size + 1) (v1.alloc (.cells #[.slice x1d eo.length x1c, .string (S et)] 47)) v3 from
        (Below.refl _ _).grown hgr (by have h1 := HZ1.out; have h2 := HBZ.out; simp; omega) (fun k hk => (World.ownsRow.lt HA2.out.owns k hk).1))
      have HAC := Lib.hid (HA.out.snoc (a := (eo, et)) (cs := [.slice x1d eo.length x1c, .string (S et)]) (v1 := v1) (v2 := v1.alloc (.cells #[.slice x1d eo.length x1c, .string (S et)] 47)) (v3 := v3) (g := g1) (cap := cap1) (F := Bet (wr.heap.size + 1) v1.heap.size) entE_ok HB1.out (fun b hb => ⟨by have := hb.1; omega, hb.2⟩) (entE_mk (by have := HI.out; simpa using this)) rfl ((Below.refl _ _).alloc (Nat.le_refl _) _) (by rw [HL0.out]; exact hown) hgr (by simpa using hat))
      have hb2 : Below w.heap.size w v3 := ((HB.out.trans (HB1.out.mono (by have := HBZ.out; omega))).trans ((Below.refl w.heap.size v1).alloc (by have h1 := HZ1.out; have h2 := HBZ.out; omega) _)).trans (HB3.out.mono (by omega))
      have HBW := Lib.hid hb2
      have HR3 := Lib.hid (show v3.cell? ⟨w.heap.size, 0, none⟩ = some (.slice none 0 0) from
        (HB3.out.cell (p := ⟨w.heap.size, 0, none⟩) (by show w.heap.size < w.heap.size + 1; omega)).trans ((((Below.refl (w.heap.size + 1) v1).alloc (by have h1 := HZ1.out; have h2 := HBZ.out; omega) _).cell (p := ⟨w.heap.size, 0, none⟩) (by show w.heap.size < w.heap.size + 1; omega)).trans HR1.out))
      have HF3 := Lib.hid (show v3.frozen? ⟨w.heap.size, 0, none⟩ = false from
        (HB3.out.frozen (p := ⟨w.heap.size, 0, none⟩) (by show w.heap.size < w.heap.size + 1; omega)).trans ((((Below.refl (w.heap.size + 1) v1).alloc (by have h1 := HZ1.out; have h2 := HBZ.out; omega) _).frozen (p := ⟨w.heap.size, 0, none⟩) (by show w.heap.size < w.heap.size + 1; omega)).trans HF1.out))
      clear hown hgr hat hlt3 hb2 hzz
      go_wp2
      go_roundw
      case rel => exact ⟨j + 1, _, by omega, by go_num, HR3.out, HF3.out, by rw [HEN.out]; have h := HAC.out; rw [HL0.out] at h; exact h, HBW.out⟩
      case measure => simp [intOf]; omega
    · have hjl : l.length = j := by omega
      have HT := Lib.hid (show l.take j = l from List.take_of_length_le (by omega))
      have HROW := Lib.hid (show Ents wr (Bet (w.heap.size + 1) wr.heap.size) (.slice uad j ucap) l from by have h := HA.out; rw [HT.out] at h; exact h.row (by omega))
      have HAL := Lib.hid (show Acc 47 2 entE (w.heap.size + 1) wr (.slice uad j ucap) l xs from by have h := HA.out; rw [HT.out] at h; exact h)
      clear hb
      go_wp2_with fail
      refine (sortStable_up _ l _ HROW.out.read HUP.out).mono ?_
      rintro e v1 ⟨rfl, hb1⟩
      have r1 := (hb1.cell (p := ⟨w.heap.size, 0, none⟩) (by have := HBZ.out; show w.heap.size < _; omega)).trans r0
      have s1 := (hb1.frozen (p := ⟨w.heap.size, 0, none⟩) (by have := HBZ.out; show w.heap.size < _; omega)).trans s0
      have HR := Lib.hid (HAL.out.keep entE_ok hb1)
      have HBW := Lib.hid (HB.out.trans (hb1.mono HB.out.size))
      clear hb1 r0 s0
      go_wp2
      refine bodyPost_ret (v := .agg #[.slice uad j ucap]) (by simp [results, Tryz.results78, go_sem, r1]) rfl ⟨_, _, rfl, HR.out.stand entE_ok (X := fun b => b = w.heap.size) ((Chg.refl (fun b => b = w.heap.size) v1).setCell (p := ⟨w.heap.size, 0, none⟩) rfl (.slice uad j ucap)) (by intro b hb; omega), HBW.out.setCell (Nat.le_refl _) _⟩
end Go.Proofs.YtmlklnimoknojaaGreatDoor
