/- Walks: a dictionary that the cursor draws. -/
import Derived.Deep.DeepCutAuto
import Derived.Test.YtonhkglilnplbaaGreatDoorCurE2
import Derived.Test.YtonhkglilnplbaaGreatDoorPut4
import Derived.Test.YtonhkglilnplbaaGreatDoorIns1
set_option linter.all false
namespace Go.Proofs.YtonhkglilnplbaaGreatDoor
open Go Go.RowKit
set_option maxHeartbeats 4000000
set_option maxRecDepth 100000
/-- a drawn dictionary is small -/
structure Drawn (l : P.Dic) : Prop where
  len : l.length ≤ 60
  outs : ∀ e ∈ l, e.1.length ≤ 8
  texts : ∀ e ∈ l, e.2.length ≤ 300
theorem Drawn.small {l : P.Dic} (h : Drawn l) : Small l := ⟨by have := h.len; omega, fun e he => by have := h.outs e he; omega, fun e he => by have := h.texts e he; omega⟩
theorem putF_pos (e : P.Ent) (l : P.Dic) : 0 < (P.putF e false l).length := List.length_pos_of_mem ((P.putF_mem e l e).2 (.inl rfl))
theorem putF_sub {e x : P.Ent} {l : P.Dic} (h : x ∈ P.putF e false l) : x = e ∨ x ∈ l := by
  rcases (P.putF_mem e l x).1 h with h | h
  · exact .inl h
  · exact .inr (P.del_sub h)
def WholeE (lo : Nat) (v : World) (u : Value) (n : Nat) : Prop := ∃ B xs, lo ≤ B ∧ v.ownsRow B 36 2 u n xs
theorem WholeE.stand {lo : Nat} {v v' : World} {u : Value} {n : Nat} {X : Blk} (h : WholeE lo v u n) (hc : Chg X v v') (hX : ∀ k, lo ≤ k → k < v.heap.size → ¬ X k) : WholeE lo v' u n := by
  obtain ⟨B, xs, h1, h2⟩ := h
  exact ⟨B, xs, h1, owns_stand h2 hc fun k hk => by have h3 := World.ownsRow.lt h2 k hk; exact hX k (by omega) h3.2⟩
/-- a drawn dictionary, in memory of the call's own -/
def DicDrawn (B C K : Nat) (w : World) (e : Ending) (w' : World) : Prop := ∃ (l : P.Dic) (u : Value), e = .returned (.agg #[u]) ∧ Drawn l ∧ l.length ≤ 9 ∧ 0 < l.length ∧ Ents w' (Bet w.heap.size w'.heap.size) u l ∧ WholeE w.heap.size w' u l.length ∧ CurPost B C K w w'
/-- a box of a dictionary that is being drawn -/
def DBx (b : Nat) (u : Value) (v : World) : Prop := v.cell? ⟨b, 0, none⟩ = some u ∧ v.frozen? ⟨b, 0, none⟩ = false ∧ b < v.heap.size
theorem DBx.stand {b : Nat} {u : Value} {v v' : World} {X : Blk} (h : DBx b u v) (hc : Chg X v v') (hX : ¬ X b) : DBx b u v' :=
  ⟨(hc.cell (p := ⟨b, 0, none⟩) h.2.2 hX).trans h.1, (hc.frozen (p := ⟨b, 0, none⟩) h.2.2 hX).trans h.2.1, Nat.lt_of_lt_of_le h.2.2 hc.size⟩
theorem DBx.below {b : Nat} {u : Value} {v v' : World} (h : DBx b u v) (hb : Below v.heap.size v v') : DBx b u v' := h.stand (Below.chg hb fun _ => False) fun h => h
theorem DBx.new (u : Value) (t : TypeId) (v : World) : DBx v.heap.size u (v.alloc (.cells #[u] t)) := by
  refine ⟨?_, ?_, ?_⟩ <;> go_simp
theorem DBx.put {b : Nat} {u u' : Value} {v : World} (h : DBx b u v) : DBx b u' (v.setCell ⟨b, 0, none⟩ u') :=
  ⟨World.cell?_setCell_same _ _ _ h.1, by simpa using h.2.1, by simpa [World.setCell] using h.2.2⟩
/-- how the loop stands -/
def DRun (B C K : Nat) (w v : World) (l : P.Dic) (u : Value) : Prop :=
  (∃ a c, u = .slice a l.length c) ∧ Drawn l ∧ Ents v (Bet (w.heap.size + 2) v.heap.size) u l ∧ WholeE (w.heap.size + 2) v u l.length ∧ DBx (w.heap.size + 1) u v ∧ DBx w.heap.size (.slice none 0 0) v ∧ CurPost B C K w v
theorem cur_dictionary (B C N : Nat) (w : World) (hN : N < 2 ^ 33) (h : IsCur B C N w) :
    Calls Tryz.prog 157 #[.pointer (some ⟨C, 0, none⟩)] w (DicDrawn B C (N + 1000) w) := by
  have hlt := h.lt
  have hba : Below w.heap.size w ((w.alloc (.cells #[.slice none 0 0] 32)).alloc (.cells #[.slice none 0 0] 32)) := ((Below.refl w.heap.size w).alloc (Nat.le_refl _) _).alloc (by simp) _
  have HC := Lib.hid ((CurPost.refl h (Nat.le_refl N)).below hba)
  have HD1 := Lib.hid (show DBx (w.heap.size + 1) (.slice none 0 0) ((w.alloc (.cells #[.slice none 0 0] 32)).alloc (.cells #[.slice none 0 0] 32)) by have h := DBx.new (.slice none 0 0) 32 (w.alloc (.cells #[.slice none 0 0] 32)); simpa using h)
  have HD0 := Lib.hid ((DBx.new (.slice none 0 0) 32 w).below ((Below.refl _ _).alloc (Nat.le_refl _) (.cells #[.slice none 0 0] 32)))
  clear h hba
  go_enter Tryz.func157, Tryz.ntmps157
  go_wp2_with fail
  refine (cur_pick B C N 7 _ (by omega) (by decide) HC.out.1).mono ?_
  rintro e w1 ⟨x, hx, rfl, hc⟩
  have hx7 : x < 7 := by omega
  have HR := Lib.hid (show DRun B C (N + 2) w w1 [] (.slice none 0 0) from ⟨⟨none, 0, rfl⟩, ⟨by simp, (fun e h => by cases h), (fun e h => by cases h)⟩, RowO.nil _ _, ⟨w.heap.size + 2, [], Nat.le_refl _, World.ownsRow_nil _ _ _ _⟩, HD1.out.stand hc.2 (by omega), HD0.out.stand hc.2 (by omega), HC.out.trans hc⟩)
  clear hc hx HC HD1 HD0
  go_wp2_with fail
  go_loopw [4] (fun n wr => ∃ (l : P.Dic) (u : Value) (k : Nat), l.length + k ≤ 9 ∧ (0 < l.length ∨ 0 < k) ∧ n = .int .i64 k ∧ DRun B C (N + 1000 - 100 * k) w wr l u) (fun n _ => (intOf n).toNat)
  case atStart =>
    obtain ⟨h1, h2, h3, h4, h5, h6, h7⟩ := HR.out
    exact ⟨[], _, x + 3, by simp; omega, .inr (by omega), by go_num, h1, h2, h3, h4, h5, h6, h7.mono (by omega)⟩
  case round =>
    obtain ⟨l, u, k, hk, hpos, rfl, hr⟩ := hrel
    have H3 := Lib.hid hr
    obtain ⟨⟨ua, uc, rfl⟩, hdr, hen, hwh, hbx, hbr, hcp⟩ := hr
    by_cases hp : 0 < k
    · have hS := Lib.hid (show wr.drew.cell? ⟨w.heap.size + 1, 0, none⟩ = some (.slice ua l.length uc) ∧ wr.drew.frozen? ⟨w.heap.size + 1, 0, none⟩ = false from ⟨hbx.1, hbx.2.1⟩)
      have HE1 := Lib.hid (hen.below entE_ok (Below.refl wr.heap.size wr).drew)
      have HW1 := Lib.hid (hwh.stand (X := fun _ => False) (Below.chg (Below.refl wr.heap.size wr).drew _) (fun _ _ _ h => h))
      have HB1 := Lib.hid (hbx.below (Below.refl wr.heap.size wr).drew)
      have HB0 := Lib.hid (hbr.below (Below.refl wr.heap.size wr).drew)
      have HC1 := Lib.hid hcp.drew
      have HDR := Lib.hid hdr
      have HPS := Lib.hid hpos
      clear hen hwh hbx hbr hcp hdr hpos
      go_upto_region 5 with fail
      refine Left.region [4] (S := fun v => v.cell? ⟨w.heap.size + 1, 0, none⟩ = some (.slice ua l.length uc) ∧ v.frozen? ⟨w.heap.size + 1, 0, none⟩ = false) (by kernel_rfl) hS.out (fun hS0 => ?_)
      generalize wr.drew = v0 at *
      refine Left.take (i := 0) (v := .agg #[.slice ua l.length uc]) rfl (by kernel_rfl) (by kernel_rfl) (by kernel_rfl) (by kernel_rfl) (fun _ _ _ h => h) (Or.inl ⟨by rfl, fun z hz => ?_⟩) hS0 ?_
      · obtain ⟨z1, z2⟩ := hz
        go_simp
      try simp only [List.getElem_toArray, List.getElem_cons_zero, Act.put, List.setIfInBounds_toArray, List.set_cons_zero, List.set_cons_succ]
      refine Left.take (i := 1) (v := .pointer (some ⟨C, 0, none⟩)) rfl (by kernel_rfl) (by kernel_rfl) (by kernel_rfl) (by kernel_rfl) (fun _ _ _ h => h) (Or.inl ⟨by rfl, fun z hz => ?_⟩) hS0 ?_
      · obtain ⟨z1, z2⟩ := hz
        go_simp
      try simp only [List.getElem_toArray, List.getElem_cons_zero, List.getElem_cons_succ, Act.put, List.setIfInBounds_toArray, List.set_cons_zero, List.set_cons_succ]
      refine Left.ready (rs := [2]) (by kernel_rfl) (by simp) ?_
      refine Nexts.cons rfl (fun K hK => ?_) Nexts.nil
      go_simp
      refine (cur_entry B C (N + 1000 - 100 * k) _ (by omega) HC1.out.1).mono ?_
      rintro e v1 ⟨o, t, x, rfl, ho, ht, hI, hc⟩
      have hz0 : w.heap.size + 1 < v0.heap.size := HB1.out.2.2
      have hz1 : v0.heap.size ≤ v1.heap.size := hc.2.size
      have HE2 := Lib.hid (HE1.out.stand entE_ok hc.2 (fun b hb e => by have h1 := hb.1; omega))
      have HB2 := Lib.hid (HB1.out.stand hc.2 (by omega))
      have HB02 := Lib.hid (HB0.out.stand hc.2 (by omega))
      have HC2 := Lib.hid (HC1.out.trans hc)
      have HI := Lib.hid hI
      refine on_held hK (by decide) ⟨HB2.out.1, HB2.out.2.1⟩ (fun hS1 => ?_)
      clear hK K hc hI HE1 HB1 HB0 HC1
      obtain ⟨xd, xc, rfl, _, _⟩ := id HI.out
      try simp only [List.getElem_toArray, List.getElem_cons_zero, List.getElem_cons_succ, Act.put, List.setIfInBounds_toArray, List.set_cons_zero, List.set_cons_succ]
      refine Left.ready (rs := [3]) (by kernel_rfl) (by simp) ?_
      refine Nexts.cons rfl (fun K hK => ?_) Nexts.nil
      go_simp
      refine (l6PutO _ _ l o t _ (Ents.read HE2.out) (Ints.read HI.out) HDR.out.small.len HDR.out.small.outs (by omega)).mono ?_
      rintro e v2 ⟨u2, rfl, hI2, hw2, hb⟩
      have hz2 : v1.heap.size ≤ v2.heap.size := hb.size
      have HB3 := Lib.hid (HB2.out.below hb); have HB03 := Lib.hid (HB02.out.below hb); have HC3 := Lib.hid (HC2.out.below hb)
      have HI2 := Lib.hid hI2; have HW2 := Lib.hid (show WholeE v1.heap.size v2 u2 (P.putF (o, t) false l).length from hw2)
      refine on_held hK (by decide) ⟨HB3.out.1, HB3.out.2.1⟩ (fun hS2 => ?_)
      clear hK K hb hI2 hw2 HB2 HB02 HC2
      obtain ⟨u2d, u2c, rfl, _, _⟩ := id HI2.out
      try simp only [List.getElem_toArray, List.getElem_cons_zero, List.getElem_cons_succ, Act.put, List.setIfInBounds_toArray, List.set_cons_zero, List.set_cons_succ]
      refine Left.ready (rs := [4]) (by kernel_rfl) (by simp) ?_
      refine Nexts.cons rfl (fun K hK => ?_) Nexts.nil
      obtain ⟨k0, k1, _⟩ := HB3.out
      go_simp
      refine on_last hK (by decide) ?_
      clear hK K
      try simp only [List.getElem_toArray, List.getElem_cons_zero, List.getElem_cons_succ, Act.put, List.setIfInBounds_toArray, List.set_cons_zero, List.set_cons_succ]
      refine Left.done (by kernel_rfl) ?_ _
      have HPL := Lib.hid (P.put_len (o, t) l)
      have HRUN := Lib.hid (show DRun B C (N + 1000 - 100 * (k - 1)) w (v2.setCell ⟨w.heap.size + 1, 0, none⟩ (.slice u2d (P.putF (o, t) false l).length u2c)) (P.putF (o, t) false l) (.slice u2d (P.putF (o, t) false l).length u2c) from by
        have hset : Chg (fun b => b = w.heap.size + 1) v2 (v2.setCell ⟨w.heap.size + 1, 0, none⟩ (.slice u2d (P.putF (o, t) false l).length u2c)) := (Chg.refl (fun b => b = w.heap.size + 1) v2).setCell (p := ⟨w.heap.size + 1, 0, none⟩) rfl _
        have hsz : (v2.setCell ⟨w.heap.size + 1, 0, none⟩ (.slice u2d (P.putF (o, t) false l).length u2c)).heap.size = v2.heap.size := by simp [World.setCell]
        refine ⟨⟨_, _, rfl⟩, ⟨?_, ?_, ?_⟩, ?_, ?_, HB3.out.put, HB03.out.stand hset (by omega), (HC3.out.set (g := w.heap.size + 1) (i := 0) (by omega) hlt.2 (by omega) _).mono (by omega)⟩
        · have := HPL.out; have := HDR.out.len; omega
        · intro e he
          rcases putF_sub he with rfl | he
          · show o.length ≤ 8; omega
          · exact HDR.out.outs e he
        · intro e he
          rcases putF_sub he with rfl | he
          · exact ht
          · exact HDR.out.texts e he
        · refine (HI2.out.stand entE_ok hset (fun b hb e => by have h1 := hb.1; omega)).wide (fun b hb => ⟨by have h1 := hb.1; omega, by rw [hsz]; exact hb.2⟩) (fun b hb => hb.2)
        · obtain ⟨B1, xs, h1, h2⟩ := HW2.out.stand hset (fun k h1 h2 e => by omega)
          exact ⟨B1, xs, by omega, h2⟩)
      have HPP := Lib.hid (putF_pos (o, t) l)
      clear hS0 hS1 hS2 hS HE2 HI HI2 HW2 HB3 HB03 HC3 k0 k1 HW1
      generalize v2.setCell ⟨w.heap.size + 1, 0, none⟩ (.slice u2d (P.putF (o, t) false l).length u2c) = v3 at *
      go_wp2
      go_roundw
      case rel => exact ⟨_, _, k - 1, by have := HPL.out; omega, .inl HPP.out, by go_num, HRUN.out⟩
      case measure => simp [intOf]; omega
    · have HPS := Lib.hid (show 0 < l.length by omega)
      have HDR := Lib.hid hdr; have HEN := Lib.hid hen; have HWH := Lib.hid hwh; have HCP := Lib.hid hcp; have HBX := Lib.hid hbx; have HBR := Lib.hid hbr
      obtain ⟨b0, f0, z0⟩ := hbx
      obtain ⟨r0, g0, y0⟩ := hbr
      clear hdr hen hwh hcp hpos
      go_wp2
      refine bodyPost_ret (v := .agg #[.slice ua l.length uc]) (by simp [results, Tryz.results157, go_sem, r0]) rfl ⟨l, _, rfl, HDR.out, by omega, HPS.out, ?_, ?_, ?_⟩
      · refine ents_done w.heap.size HEN.out fun b hb => ?_
        have h1 := hb.1; have h2 := hb.2
        omega
      · obtain ⟨B1, xs, h1, h2⟩ := HWH.out.stand ((Chg.refl (fun b => b = w.heap.size) wr).setCell (p := ⟨w.heap.size, 0, none⟩) rfl (.slice ua l.length uc)) (fun k h1 h2 e => by omega)
        exact ⟨B1, xs, by omega, h2⟩
      · exact (HCP.out.set (g := w.heap.size) (i := 0) (Nat.le_refl _) hlt.2 (by omega) _).mono (by omega)
end Go.Proofs.YtonhkglilnplbaaGreatDoor
