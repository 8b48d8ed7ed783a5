/- Walks: a layer moved in a stack (program). -/
import Derived.Test.YtngbkdlicknmhaaGreatDoorMov1
namespace Go.Proofs.YtngbkdlicknmhaaGreatDoor
namespace P
def moveOk (f t : Int) (l : Lays) : Bool := stack l && (inL l f && inL l t)
/-- the layer at f put at t -/
def movL (f t : Nat) (l : Lays) : Lays := (remL f l).take t ++ ((l.drop f).take 1 ++ (remL f l).drop t)
theorem movL_perm (f t : Nat) (l : Lays) : (movL f t l).Perm l := by
  unfold movL
  have h1 : ((remL f l).take t ++ ((l.drop f).take 1 ++ (remL f l).drop t)).Perm ((l.drop f).take 1 ++ remL f l) := by
    have h := List.perm_append_comm_assoc ((remL f l).take t) ((l.drop f).take 1) ((remL f l).drop t)
    rwa [List.take_append_drop] at h
  refine h1.trans ?_
  unfold remL
  have h2 := List.perm_append_comm_assoc ((l.drop f).take 1) (l.take f) (l.drop (f + 1))
  refine h2.trans ?_
  have h3 : (l.drop f).take 1 ++ l.drop (f + 1) = l.drop f := by
    have h := List.take_append_drop 1 (l.drop f)
    rwa [List.drop_drop] at h
  rw [h3, List.take_append_drop]
end P
open Go Go.RowKit
set_option maxHeartbeats 2000000
set_option maxRecDepth 100000
abbrev MovPost (f t : Int) (l : P.Lays) := SkPost (P.moveOk f t l) (P.movL f.toNat t.toNat l)
theorem ranges_of {i j : Int} {l : P.Lays} (hd : P.moveOk i j l = true) : P.stack l = true ∧ ∃ n m t : Nat, i = n ∧ j = t ∧ l.length = n + 1 + m ∧ t ≤ n + m := by
  unfold P.moveOk P.inL at hd
  simp only [Bool.and_eq_true, decide_eq_true_eq] at hd
  obtain ⟨h0, h1, h2⟩ := hd
  obtain ⟨n, rfl⟩ := Int.eq_ofNat_of_zero_le h1.1
  obtain ⟨t, rfl⟩ := Int.eq_ofNat_of_zero_le h2.1
  exact ⟨h0, n, l.length - (n + 1), t, rfl, rfl, by omega, by omega⟩
theorem made_cells2 (x y : Value) (v : World) (t : TypeId) : Cel (v.alloc (.cells #[x, y] t)) v.heap.size 0 [x, y] := by
  intro i hi
  refine ⟨?_, World.frozen?_alloc_new _ _ _ _⟩
  rcases (show i = 0 ∨ i = 1 by simp at hi; omega) with rfl | rfl <;> go_simp
theorem shape_of_block {w w' : World} {g : Nat} (h : w'.heap[g]? = w.heap[g]?) : w'.shape? g = w.shape? g := by unfold World.shape?; rw [h]
theorem shape_new (c : Array Value) (t : TypeId) (w : World) : (w.alloc (.cells c t)).shape? w.heap.size = some (t, c.size) := by unfold World.shape? World.alloc; simp
theorem ints_two (a b : Int) (v : World) (t : TypeId) : IntR (v.alloc (.cells #[.int .i64 a, .int .i64 b] t)) (.slice (some ⟨v.heap.size, 0, none⟩) 2 2) [a, b] := by
  refine ⟨_, _, rfl, by simp, (fun h => by cases h), .inr ⟨_, _, rfl, by simp, fun j hj => ?_⟩⟩
  rcases (show j = 0 ∨ j = 1 by simp at hj; omega) with rfl | rfl <;> go_simp
theorem impl_moveLayer (dv : Value) (l : P.Lays) (i j : Int) (w : World) (hu : LayR w dv l) (hs : SmallS l) (hE : Env w) :
    Calls Tryz.prog 51 #[.agg #[dv], .int .i64 i, .int .i64 j] w (MovPost i j l w) := by
  have hb0 : Below w.heap.size w (((w.alloc (.cells #[dv] 70)).alloc (.cells #[.slice none 0 0] 70)).alloc (.cells #[.int .i64 i, .int .i64 j] 3)) := (((Below.refl w.heap.size w).alloc (Nat.le_refl _) _).alloc (by simp) _).alloc (by simp; omega) _
  have HU := Lib.hid (hu.below hb0)
  have HE := Lib.hid (hE.below hb0 hE.size)
  have HB0 := Lib.hid hb0; clear hb0 hE
  have HN := Lib.hid ((SkBox.new dv w).below ((Below.refl _ _).alloc (Nat.le_refl _) (.cells #[.int .i64 i, .int .i64 j] 3)))
  have HI1 := Lib.hid (ints_two i j ((w.alloc (.cells #[dv] 70)).alloc (.cells #[.slice none 0 0] 70)) 3)
  have HSM := Lib.hid hs; clear hs
  have HOK := Lib.hid (show (P.stack l && [i, j].all (P.inL l)) = P.moveOk i j l by unfold P.moveOk; simp)
  obtain ⟨ad, cap, rfl, _, _⟩ := hu
  go_enter Tryz.func51, Tryz.ntmps51
  go_wp2_with fail
  refine (isLayer _ _ l [i, j] _ HU.out (by have := HI1.out; simpa using this) HSM.out.len HSM.out.each HE.out).mono ?_
  rintro e w1 ⟨rfl, hb⟩
  rw [HOK.out]
  have HU1 := Lib.hid (HU.out.below hb)
  have HN1 := Lib.hid (HN.out.below hb)
  have HB1 := Lib.hid (HB0.out.trans (hb.mono (by simp; omega)))
  clear hb HU HB0 HN HE HI1
  cases hd : P.moveOk i j l
  · have HD := Lib.hid hd; clear hd
    obtain ⟨_, b0, f0, _⟩ := HN1.out
    go_wp2
    refine bodyPost_ret (v := .tuple #[.agg #[.slice none 0 0], .bool false]) (by simp [results, Tryz.results51, go_sem, b0]) rfl ⟨_, by rw [HD.out], ?_, ?_⟩
    · rw [HD.out]; exact RowO.nil _ _
    · exact HB1.out.setCell (by simp) _
  · have HD := Lib.hid hd
    obtain ⟨hst, n, m, t, rfl, rfl, hm, htm⟩ := ranges_of hd
    have HUP := Lib.hid (show ∀ e ∈ l, Small e.1 ∧ P.Up e.1 from fun e he => ⟨HSM.out.each e he, P.layers_up (P.stack_layers hst) e he⟩)
    have HU1b := HU1
    have HM := Lib.hid hm
    have hl20 := HSM.out.len
    have hl0 : 0 < l.length := by omega
    have hn20 : (n : Int) ≤ 1048576 := by omega
    clear hd hm hst
    obtain ⟨a0, _⟩ := HN1.out
    go_wp2_with fail
    refine (copyLay _ l _ HU1.out hl20 hl0).mono ?_
    rintro e w2 ⟨g, cap2, its, rfl, hc2, hcm, hg1, hg2, hits, hent, hcel, ⟨kB, hsh, hkB⟩, hb⟩
    have HITS := Lib.hid hits; have HENT := Lib.hid hent
    have HLI := Lib.hid (show its.length = n + 1 + m by rw [← HM.out, ← hits, List.length_map])
    have HDEL := Lib.hid (by have h := delLay g cap2 n m its w2 hcel (ent_slices hent) HLI.out (by have := HM.out; omega) (by have := HM.out; omega); rw [← HM.out] at h; exact h)
    have HN2 := Lib.hid (HN1.out.below hb)
    have HB2 := Lib.hid (HB1.out.trans (hb.mono HB1.out.size))
    have HBA := Lib.hid hb
    have HC2 := Lib.hid hc2
    clear hb HU1 hits hent hcel a0 hcm
    go_wp2_with fail
    with_reducible refine (HDEL.out).mono ?_
    rintro e w3 ⟨rfl, hch, hc3, hsh3⟩
    have HSH3 := Lib.hid (hsh3.trans hsh); clear hsh hsh3
    have hW1 : w.heap.size + 1 < w1.heap.size := HN1.out.2.2.2
    have HN3 := Lib.hid (HN2.out.stand hch (by omega) (by omega))
    have HB3 := Lib.hid (HB2.out.trans (hch.below HB2.out.size (fun b hb => by subst hb; have := HB1.out.size; omega)))
    have HB13 := Lib.hid (HBA.out.trans (hch.below HBA.out.size (fun b hb => by subst hb; exact hg1)))
    have hlr : (its.take n ++ its.drop (n + 1)).length = n + m := by rw [List.length_append, List.length_take, List.length_drop, HLI.out]; omega
    have HLRN := Lib.hid hlr; clear hlr
    have HC3 := Lib.hid hc3
    have hz3 : w2.heap.size ≤ w3.heap.size := hch.size
    have hnl : n < l.length := by have := HM.out; omega
    obtain ⟨sg, so, rfl, hsg, x, c0, c1, hx⟩ := HU1b.out.at n hnl
    have HXE := Lib.hid hx
    have c0' := (HB13.out.cell (p := ⟨sg, _, none⟩) hsg).trans c0
    have c1' := (HB13.out.cell (p := ⟨sg, _, none⟩) hsg).trans c1
    have HSNG := Lib.hid (show (l.drop n).take 1 = [l[n]] by rw [List.drop_eq_getElem_cons hnl]; rfl)
    have HUPN := Lib.hid (HUP.out _ (List.getElem_mem hnl))
    generalize l[n] = en at *
    obtain ⟨ed, eb⟩ := en
    simp only at c1' HXE
    have i1 : (n : Int) < (l.length : Int) := by omega
    obtain ⟨xd, xc, rfl, _, _⟩ := hx
    obtain ⟨d0, _⟩ := HN3.out
    have hcap := HC2.out
    have HSZ := Lib.hid hg2
    clear hch hc3 HDEL HN2 HB2 HBA c0 c1
    have hba := (Below.refl w3.heap.size w3).alloc (Nat.le_refl _) (.cells #[.slice xd ed.length xc, .bool eb] 85)
    have HCV := Lib.hid (show Cel (w3.alloc (.cells #[.slice xd ed.length xc, .bool eb] 85)) w3.heap.size 0 [.slice xd ed.length xc, .bool eb] from made_cells2 _ _ w3 85)
    have HC4 := Lib.hid (HC3.out.keep (hba.block g (by omega)))
    have HN4 := Lib.hid (HN3.out.below hba); have HB4 := Lib.hid (HB3.out.trans (hba.mono HB3.out.size)); have HB14 := Lib.hid (HB13.out.trans (hba.mono HB13.out.size))
    have HSG := Lib.hid (show (w3.alloc (.cells #[.slice xd ed.length xc, .bool eb] 85)).shape? g = some (85, kB) by rw [shape_of_block (hba.block g (by omega))]; exact HSH3.out)
    have HSV := Lib.hid (show (w3.alloc (.cells #[.slice xd ed.length xc, .bool eb] 85)).shape? w3.heap.size = some (85, 2) from shape_new _ _ _)
    have HFV := Lib.hid (show (w3.alloc (.cells #[.slice xd ed.length xc, .bool eb] 85)).frozen? ⟨w3.heap.size, 2, none⟩ = false from World.frozen?_alloc_new _ _ _ _)
    have HINS := Lib.hid (show Calls Tryz.prog 138 #[.slice (some ⟨g, 0, none⟩) (n + m) cap2, .int .i64 t, .slice (some ⟨w3.heap.size, 0, none⟩) 1 1] (w3.alloc (.cells #[.slice xd ed.length xc, .bool eb] 85)) fun r w' => r = .returned (.slice (some ⟨g, 0, none⟩) (n + m + 1) cap2) ∧ Chg (fun b => b = g) (w3.alloc (.cells #[.slice xd ed.length xc, .bool eb] 85)) w' ∧ Cel w' g 0 (lcells ((its.take n ++ its.drop (n + 1)).take t ++ [(.slice xd ed.length xc, (ed, eb))] ++ (its.take n ++ its.drop (n + 1)).drop t)) from by
      by_cases hte : t = n + m
      · subst hte
        have h := insLay_end g cap2 (n + m) w3.heap.size (its.take n ++ its.drop (n + 1)) _ _ (.slice xd ed.length xc) (ed, eb) _ HLRN.out (by have := HM.out; omega) HC4.out HCV.out ⟨_, _, _, rfl⟩
        have e1 : (its.take n ++ its.drop (n + 1)).take (n + m) = its.take n ++ its.drop (n + 1) := List.take_of_length_le (by rw [HLRN.out]; exact Nat.le_refl _)
        have e2 : (its.take n ++ its.drop (n + 1)).drop (n + m) = [] := List.drop_eq_nil_of_le (by rw [HLRN.out]; exact Nat.le_refl _)
        rw [e1, e2, List.append_nil]
        exact h
      · obtain ⟨k, hk⟩ : ∃ k, n + m = t + 1 + k := ⟨n + m - (t + 1), by omega⟩
        rw [hk]
        exact insLay_mid g cap2 t k w3.heap.size 2 kB _ _ (its.take n ++ its.drop (n + 1)) _ _ (.slice xd ed.length xc) (ed, eb) _ (by rw [HLRN.out, hk]) (by have := HM.out; omega) (by have := HM.out; omega) HC4.out (ent_slices (fun y hy => (HENT.out y (by rcases List.mem_append.1 hy with h | h; exact List.mem_of_mem_take h; exact List.mem_of_mem_drop h)))) HCV.out ⟨_, _, _, rfl⟩ (by have := HSZ.out; omega) HSV.out HSG.out hkB (HCV.out 0 (by simp)).2 HFV.out)
    clear hba hg2
    go_wp2_with fail
    with_reducible refine (HINS.out).mono ?_
    rintro e w5 ⟨rfl, hch, hc5⟩
    have HN5 := Lib.hid (HN4.out.stand hch (by omega) (by omega))
    have HB5 := Lib.hid (HB4.out.trans (hch.below HB4.out.size (fun b hb => by subst hb; have := HB1.out.size; omega)))
    have HB15 := Lib.hid (HB14.out.trans (hch.below HB14.out.size (fun b hb => by subst hb; exact hg1)))
    have hl5 : ((its.take n ++ its.drop (n + 1)).take t ++ [((.slice xd ed.length xc, (ed, eb)) : LIt)] ++ (its.take n ++ its.drop (n + 1)).drop t).length = n + m + 1 := by
      rw [List.length_append, List.length_append, List.length_take, List.length_drop, HLRN.out]; simp; omega
    have hLR := layR_of_cel (cap := cap2) hc5 (fun y hy => by
      have hy' : (y ∈ its ∨ y = (.slice xd ed.length xc, (ed, eb))) := by
        rcases List.mem_append.1 hy with hy | hy
        · rcases List.mem_append.1 hy with hy | hy
          · left; rcases List.mem_append.1 (List.mem_of_mem_take hy) with h | h
            · exact List.mem_of_mem_take h
            · exact List.mem_of_mem_drop h
          · right; simpa using hy
        · left; rcases List.mem_append.1 (List.mem_of_mem_drop hy) with h | h
          · exact List.mem_of_mem_take h
          · exact List.mem_of_mem_drop h
      rcases hy' with hy | rfl
      · exact (HENT.out y hy).below HB15.out
      · exact HXE.out.below HB15.out) (by rw [hl5]; have := HM.out; omega) (by rw [hl5]; have := HM.out; omega) (by have h1 := hch.size; have h2 := HSZ.out; simp at h1; omega)
    rw [hl5] at hLR
    have HEQ := Lib.hid (show ((its.take n ++ its.drop (n + 1)).take t ++ [((.slice xd ed.length xc, (ed, eb)) : LIt)] ++ (its.take n ++ its.drop (n + 1)).drop t).map (·.2) = P.movL n t l by
      unfold P.movL P.remL
      rw [List.map_append, List.map_append, List.map_take, List.map_drop, List.map_append, List.map_take, List.map_drop, HITS.out, HSNG.out, List.append_assoc]
      rfl)
    rw [HEQ.out] at hLR
    have HLR := Lib.hid hLR
    have HUP2 := Lib.hid (show ∀ e ∈ P.movL n t l, Small e.1 ∧ P.Up e.1 from fun e he => HUP.out e ((P.movL_perm n t l).mem_iff.1 he))
    have HRL := Lib.hid (show (P.movL n t l).length = n + m + 1 by rw [(P.movL_perm n t l).length_eq, HM.out]; omega)
    have hz5 : w3.heap.size < w5.heap.size := by have := hch.size; simp at this; omega
    clear hLR hl5 hch hc5 HINS HN4 HB4
    go_wp2_with fail
    refine (stackOf_up _ (P.movL n t l) _ HLR.out (by rw [HRL.out]; have := HM.out; omega) HUP2.out).mono ?_
    rintro e w6 ⟨u, rfl, hI, hb⟩
    have hz6 : w5.heap.size ≤ w6.heap.size := hb.size
    have HN6 := Lib.hid (HN5.out.below hb)
    have HB6 := Lib.hid (HB5.out.trans (hb.mono HB5.out.size))
    have HI := Lib.hid hI
    obtain ⟨ud, uc, rfl, _, _⟩ := hI
    clear hb HN5 HB5
    obtain ⟨_, b0, f0, _⟩ := HN6.out
    go_wp2
    refine bodyPost_ret (v := .tuple #[.agg #[.slice ud (P.movL n t l).length uc], .bool true]) (by simp [results, Tryz.results51, go_sem, b0]) rfl ⟨_, by rw [HD.out], ?_, ?_⟩
    · rw [HD.out]
      exact set_done HI.out (by omega) (Nat.le_refl _)
    · exact HB6.out.setCell (by simp) _
end Go.Proofs.YtngbkdlicknmhaaGreatDoor
