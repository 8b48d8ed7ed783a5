/- Walks: the draws of FnStackShadowed: a stack from bytes; a dictionary of single strokes; a stack for Flatten. Walks: the laws' own comparison of dictionaries that are equal. Walks: rCut: other bytes out of a draw's bytes. -/
import Derived.Deep.DeepCutAuto
import Derived.Deep.RegionHeld
import Derived.Laws.BitsLemmas
import Derived.Test.YtojcfpjoikmgcaaGreatDoorCurE8
import Derived.Test.YtojcfpjoikmgcaaGreatDoorRLists
import Derived.Test.YtojcfpjoikmgcaaGreatDoorCurE3
import Derived.Test.YtojcfpjoikmgcaaGreatDoorCodeD
namespace Go.Proofs.YtojcfpjoikmgcaaGreatDoor
section
open Go Go.RowKit
set_option maxHeartbeats 4000000
set_option maxRecDepth 100000
def StkDrawn (w : World) (e : Ending) (w' : World) : Prop := ∃ (l : P.Lays) (u : Value), e = .returned (.agg #[u]) ∧ DrawnL l ∧ ReadL w.heap.size w'.heap.size w' u l ∧ Below w.heap.size w w'
theorem drawIsValidStack (cv : Value) (w : World) (hc : CodeIs w cv) :
    Calls Tryz.prog 91 #[cv] w (StkDrawn w) := by
  have H1 := Lib.hid (CodeIs.fresh (t := 92) hc ((Below.refl w.heap.size w).alloc (Nat.le_refl _) (.cells #[.slice none 0 0] 68)))
  obtain ⟨ad, n, cap, rfl, _, _⟩ := hc
  go_enter Tryz.func91, Tryz.ntmps91
  go_wp2_with fail
  refine (l8Draw w.heap.size (w.heap.size + 1) 0 _ (by decide) (by simpa using H1.out)).mono ?_
  rintro e w1 ⟨l, d, u, ud, rfl, hdl, hdd, hrl, hrd, hc⟩
  have HL := Lib.hid (LSt.start 68 26 hdd hrl hrd hc)
  have HDL := Lib.hid hdl
  have hz1 : w.heap.size + 2 ≤ w1.heap.size := HL.out.low
  obtain ⟨la, lc, rfl, hl45, _⟩ := hrl.now
  obtain ⟨da, dc, rfl, _, _⟩ := hrd.now
  clear hdl hdd hrl hrd hc H1
  obtain ⟨k0, k1, k2⟩ := HL.out.bs
  obtain ⟨r0, r1, r2⟩ := HL.out.r0
  go_wp2
  refine bodyPost_ret (v := .agg #[.slice la l.length lc]) (by simp [results, Tryz.results91, go_sem, r0]) rfl ⟨l, _, rfl, HDL.out, ?_, HL.out.bel.setCell (Nat.le_refl _) _⟩
  have h := (HL.out.ls.chg ((Chg.refl (fun b => b = w.heap.size) _).setCell (p := ⟨w.heap.size, 0, none⟩) rfl (.slice la l.length lc)) (fun b h1 h2 e => by omega))
  exact h.wide (by omega) h.1.1 (Nat.le_refl _)
theorem drawShadowed (cv : Value) (w : World) (hc : CodeIs w cv) :
    Calls Tryz.prog 47 #[cv] w (StkDrawn w) := by
  have hba : Below w.heap.size w (w.alloc (.cells #[.slice none 0 0] 68)) := (Below.refl _ _).alloc (Nat.le_refl _) _
  have HC := Lib.hid (show CodeIs (w.alloc (.cells #[.slice none 0 0] 68)) cv by
    obtain ⟨ad, n, cap, rfl, hn, h⟩ := hc
    refine ⟨ad, n, cap, rfl, hn, h.imp id ?_⟩
    rintro ⟨g, o, h1, h2, h3⟩
    refine ⟨g, o, h1, Nat.lt_of_lt_of_le h2 hba.size, fun j hj => ?_⟩
    obtain ⟨b, hb1, hb2⟩ := h3 j hj
    exact ⟨b, hb1, (hba.cell (p := ⟨g, o + j, none⟩) h2).trans hb2⟩)
  have HB := Lib.hid hba
  have HR := Lib.hid (DBx.new (.slice none 0 0) 68 w)
  obtain ⟨ad, n, cap, rfl, _, _⟩ := hc
  clear hba
  go_enter Tryz.func47, Tryz.ntmps47
  go_wp2_with fail
  refine (drawIsValidStack _ _ HC.out).mono ?_
  rintro e w1 ⟨l, u, rfl, hdl, hu, hb⟩
  have HDL := Lib.hid hdl; have HU := Lib.hid hu
  have HB1 := Lib.hid (HB.out.trans (hb.mono HB.out.size))
  obtain ⟨r0, r1, r2⟩ := HR.out.below hb
  obtain ⟨la, lc, rfl, hl45, _⟩ := hu.now
  clear hdl hb HC HB HR
  go_wp2
  refine bodyPost_ret (v := .agg #[.slice la l.length lc]) (by simp [results, Tryz.results47, go_sem, r0]) rfl ⟨l, _, rfl, HDL.out, ?_, HB1.out.setCell (Nat.le_refl _) _⟩
  have h := (HU.out.wide (lo' := w.heap.size + 1) (by simp) (Nat.le_refl _) (Nat.le_refl _)).chg ((Chg.refl (fun b => b = w.heap.size) _).setCell (p := ⟨w.heap.size, 0, none⟩) rfl (.slice la l.length lc)) (fun b h1 h2 e => by omega)
  exact h.wide (by omega) h.1.1 (Nat.le_refl _)
/-- single strokes from one on -/
def P.wide (f : Int) : Nat → P.Dic
  | 0 => []
  | n + 1 => P.wide f n ++ [([f + n], [97])]
theorem P.wide_len (f : Int) : ∀ n, (P.wide f n).length = n
  | 0 => rfl
  | n + 1 => by rw [P.wide, List.length_append, P.wide_len f n]; rfl
theorem P.wide_mem {f : Int} {e : P.Ent} : ∀ {n : Nat}, e ∈ P.wide f n → e.1.length = 1 ∧ e.2.length = 1
  | 0, h => by cases h
  | n + 1, h => by
    rcases List.mem_append.1 h with h | h
    · exact P.wide_mem h
    · simp at h; subst h; exact ⟨rfl, rfl⟩
theorem l8Wide (f m : Int) (n : Nat) (w : World) (hf : 0 ≤ f ∧ f < 2 ^ 20) (hn : n ≤ 1000) (hm : m = n) :
    Calls Tryz.prog 98 #[.int .i64 f, .int .i64 m] w fun e w' => ∃ u, e = .returned (.agg #[u]) ∧ Ents w' (Bet (w.heap.size + 1) w'.heap.size) u (P.wide f n) ∧ Below w.heap.size w w' := by
  subst hm
  obtain ⟨i0, hi, hz0', hz1, hz2'⟩ := info_parts info_ent
  have hb0 : Below w.heap.size w ((w.alloc (.cells #[.slice none 0 0] 26)).alloc (.cells #[.slice none 0 0] 26)) := ((Below.refl w.heap.size w).alloc (Nat.le_refl _) _).alloc (by simp) _
  have HB0 := Lib.hid hb0
  have HR := Lib.hid ((DBx.new (.slice none 0 0) 26 w).below ((Below.refl _ _).alloc (Nat.le_refl _) (.cells #[.slice none 0 0] 26)))
  have HX := Lib.hid (show DBx (w.heap.size + 1) (.slice none 0 0) ((w.alloc (.cells #[.slice none 0 0] 26)).alloc (.cells #[.slice none 0 0] 26)) by have h := DBx.new (.slice none 0 0) 26 (w.alloc (.cells #[.slice none 0 0] 26)); simpa using h)
  have HA := Lib.hid (show Acc 80 2 entE (w.heap.size + 2) ((w.alloc (.cells #[.slice none 0 0] 26)).alloc (.cells #[.slice none 0 0] 26)) (.slice none 0 0) [] [] from Acc.nil (World.ownsRow_nil _ _ _ _) (by simp))
  clear hb0
  go_enter Tryz.func98, Tryz.ntmps98
  go_wp2_with fail
  go_loopw [6] (fun i wr => ∃ (j : Nat) (u : Value) (xs : List Value), j ≤ n ∧ i = .int .i64 j ∧ Acc 80 2 entE (w.heap.size + 2) wr u (P.wide f j) xs ∧ DBx (w.heap.size + 1) u wr ∧ DBx w.heap.size (.slice none 0 0) wr ∧ Below w.heap.size w wr) (fun i _ => n - (intOf i).toNat)
  case atStart => exact ⟨0, _, [], Nat.zero_le _, rfl, HA.out, HX.out, HR.out, HB0.out⟩
  case round =>
    clear HA HX HR HB0
    obtain ⟨j, u, xs, hj, rfl, hacc, hx, hr, hb⟩ := hrel
    have HA := Lib.hid hacc; have HX := Lib.hid hx; have HR := Lib.hid hr; have HB := Lib.hid hb
    have hwl := P.wide_len f j
    obtain ⟨ua, uc, rfl⟩ := hacc.form
    have hwz : w.heap.size + 1 < wr.heap.size := hx.2.2
    clear hacc hx hr hb
    by_cases hlt : j < n
    · have i1 : (j : Int) < (n : Int) := by omega
      have hb1 : Below wr.heap.size wr (wr.alloc (.cells #[.int .i64 (f + j)] 3)) := (Below.refl _ _).alloc (Nat.le_refl _) _
      have hb2 : Below (wr.alloc (.cells #[.int .i64 (f + j)] 3)).heap.size (wr.alloc (.cells #[.int .i64 (f + j)] 3)) ((wr.alloc (.cells #[.int .i64 (f + j)] 3)).alloc (.cells #[.slice (some ⟨wr.heap.size, 0, none⟩) 1 1, .string (S [97])] 80)) := (Below.refl _ _).alloc (Nat.le_refl _) _
      have HB1 := Lib.hid hb1; have HB2 := Lib.hid hb2
      have HII := Lib.hid (show Ints (wr.alloc (.cells #[.int .i64 (f + j)] 3)) (Bet wr.heap.size (wr.alloc (.cells #[.int .i64 (f + j)] 3)).heap.size) (.slice (some ⟨wr.heap.size, 0, none⟩) 1 1) [f + (j : Int)] from ints_of_owns (l := [f + (j : Int)]) (by have h := World.ownsRow_lit (base := wr.heap.size) (e := 3) (size := 1) wr #[.int .i64 (f + j)] 1 (Nat.le_refl _) (by decide) (by simp); simpa [ints] using h) (by simp))
      have HACC7 := Lib.hid ((HA.out.keep entE_ok hb1).keep entE_ok hb2)
      have HOW7 := Lib.hid HACC7.out.owns
      have HWZ := Lib.hid hwz
      obtain ⟨k0, k1, _⟩ := HX.out
      have HWL := Lib.hid hwl
      have hwb : (P.wide f j).length ≤ 1000 := by omega
      clear hb1 hb2 hwl
      go_wp2_with (at_builtin; refine wpList_append_lies _ rfl _ _ 24 rfl (w.heap.size + 2) 80 i0 (.agg #[.slice none 0 0, .string ⟨#[]⟩]) 2 40 Tryz.underlying24 hi hz0' hz1 hz2' rfl (by decide) (.slice ua (P.wide f j).length uc) (P.wide f j).length xs rfl HOW7.out ⟨wr.heap.size + 1, 0, none⟩ 1 1 [.slice (some ⟨wr.heap.size, 0, none⟩) 1 1, .string (S [97])] rfl rfl ?_ ?_ (Nat.zero_lt_one) ?_ ?_ ?_ _ rfl ?_)
      all_goals first | exact ⟨rfl, rfl⟩ | (intro y hy; simp only [List.mem_cons, List.not_mem_nil, or_false] at hy; rcases hy with rfl | rfl <;> rfl) | (unfold maxLen; omega) | omega | (have h1 := HWZ.out; simp; omega) | (intro i y hy; rcases i with _ | _ | i; (injection hy with hy; subst hy; rw [add0]; go_simp); (injection hy with hy; subst hy; rw [add0]; go_simp); cases hy) | skip
      intro g' cap' v3 hown hgr hat hlt3
      have hgrc := Chg.grown hgr
      have hown7 := World.ownsRow.lt HACC7.out.owns
      have HAC8 := Lib.hid (HA.out.snoc (a := ([f + (j : Int)], [97])) (cs := [.slice (some ⟨wr.heap.size, 0, none⟩) 1 1, .string (S [97])]) (v1 := wr.alloc (.cells #[.int .i64 (f + j)] 3)) (v3 := v3) (g := g') (cap := cap') (F := Bet wr.heap.size (wr.alloc (.cells #[.int .i64 (f + j)] 3)).heap.size) entE_ok HB1.out (fun b hb => hb) (entE_mk HII.out) rfl HB2.out hown hgr (by simpa using hat))
      have HDX8 := Lib.hid (((HX.out.below HB1.out).below HB2.out).stand hgrc (fun e => by have := hown7 _ e; omega)); have HD8 := Lib.hid (((HR.out.below HB1.out).below HB2.out).stand hgrc (fun e => by have := hown7 _ e; omega))
      have HB8 := Lib.hid (((HB.out.trans (HB1.out.mono HB.out.size)).trans (HB2.out.mono (Nat.le_trans HB.out.size HB1.out.size))).trans (hgrc.below (B := w.heap.size) (by have := HB.out.size; simp; omega) (fun b e => by have := hown7 _ e; omega)))
      obtain ⟨k0', k1', _⟩ := HDX8.out
      have hst : Chg (fun b => b = w.heap.size + 1) v3 (v3.setCell ⟨w.heap.size + 1, 0, none⟩ (.slice (some ⟨g', 0, none⟩) ((P.wide f j).length + 1) cap')) := (Chg.refl (fun b => b = w.heap.size + 1) v3).setCell (p := ⟨w.heap.size + 1, 0, none⟩) rfl _
      have HAC9 := Lib.hid (HAC8.out.stand entE_ok hst (fun b e => by omega))
      have HD9 := Lib.hid (HD8.out.stand hst (by omega)); have HDX9 := Lib.hid (show DBx (w.heap.size + 1) (.slice (some ⟨g', 0, none⟩) ((P.wide f j).length + 1) cap') (v3.setCell ⟨w.heap.size + 1, 0, none⟩ (.slice (some ⟨g', 0, none⟩) ((P.wide f j).length + 1) cap')) from HDX8.out.put)
      have HB9 := Lib.hid (HB8.out.trans (hst.below (B := w.heap.size) HB8.out.size (by rintro b rfl; omega)))
      clear hown hgr hat hlt3 hgrc hown7 hst HAC8 HD8 HDX8 HB8 k0 k1
      go_wp2
      go_roundw
      case rel => exact ⟨j + 1, _, _, by omega, by go_num, HAC9.out, HDX9.out, HD9.out, HB9.out⟩
      case measure => simp [intOf]; omega
    · have i1 : ¬ (j : Int) < (n : Int) := by omega
      obtain rfl : j = n := by omega
      obtain ⟨k0, k1, _⟩ := HX.out
      obtain ⟨r0, r1, _⟩ := HR.out
      have HROW := Lib.hid (HA.out.row (by omega))
      clear hwl
      go_wp2
      have HSET := Lib.hid ((Chg.refl (fun b => b = w.heap.size) wr).setCell (p := ⟨w.heap.size, 0, none⟩) rfl (.slice ua (P.wide f j).length uc))
      refine bodyPost_ret (v := .agg #[(.slice ua (P.wide f j).length uc)]) (by simp [results, Tryz.results98, go_sem, r0]) rfl ⟨_, rfl, ?_, HB.out.setCell (Nat.le_refl _) _⟩
      refine (RowO.stand entE_ok HROW.out HSET.out (fun b hb e => by have := hb.1; omega)).wide (fun b hb => ⟨by have := hb.1; omega, by simpa [World.setCell] using hb.2⟩) (fun b hb => hb.2)
theorem P.wide_drawn {f : Int} {n : Nat} (hn : n ≤ 45) : Drawn (P.wide f n) :=
  ⟨by rw [P.wide_len]; omega, fun e he => by have := P.wide_mem he; omega, fun e he => by have := P.wide_mem he; omega⟩
theorem drawFlatten (cv : Value) (w : World) (hc : CodeIs w cv) :
    Calls Tryz.prog 53 #[cv] w (StkDrawn w) := by
  have H1 := Lib.hid (CodeIs.fresh (t := 92) hc ((Below.refl w.heap.size w).alloc (Nat.le_refl _) (.cells #[.slice none 0 0] 68)))
  have HR0 := Lib.hid ((DBx.new (.slice none 0 0) 68 w).below ((Below.refl _ _).alloc (Nat.le_refl _) (.cells #[cv, .int .i64 0, .int .u64 0] 92)))
  have hb0 : Below w.heap.size w ((w.alloc (.cells #[.slice none 0 0] 68)).alloc (.cells #[cv, .int .i64 0, .int .u64 0] 92)) := ((Below.refl _ _).alloc (Nat.le_refl _) _).alloc (by simp) _
  have HB0 := Lib.hid hb0
  obtain ⟨ad, n, cap, rfl, _, _⟩ := hc
  clear hb0
  go_enter Tryz.func53, Tryz.ntmps53
  go_wp2_with fail
  refine (cur_one w.heap.size (w.heap.size + 1) 0 12 _ (by decide) (by decide) (by simpa using H1.out)).mono ?_
  rintro e w1 ⟨b, rfl, hc⟩
  have hz1 : w.heap.size + 2 ≤ w1.heap.size := by have := hc.2.size; simp at this; omega
  have HC := Lib.hid hc.1
  have HB := Lib.hid (HB0.out.trans (hc.2.below (B := w.heap.size) (by simp; omega) (by rintro b rfl; omega)))
  have HR := Lib.hid (HR0.out.stand hc.2 (by omega))
  clear hc H1 HR0 HB0
  cases b
  · go_wp2_with fail
    refine (l8Draw w.heap.size (w.heap.size + 1) (0 + 2) _ (by decide) HC.out).mono ?_
    rintro e w2 ⟨l, d, u, ud, rfl, hdl, hdd, hrl, hrd, hc⟩
    have hz2 : w1.heap.size ≤ w2.heap.size := hc.2.size
    have hba : Below w2.heap.size w2 ((w2.alloc (.cells #[u] 68)).alloc (.cells #[ud] 26)) := ((Below.refl _ _).alloc (Nat.le_refl _) _).alloc (by simp) _
    have HDL := Lib.hid hdl
    have HRL := Lib.hid (hrl.chg (Below.chg hba (fun _ => False)) (fun _ _ _ h => h))
    have HR2 := Lib.hid ((HR.out.stand hc.2 (by omega)).below hba)
    have HB2 := Lib.hid ((HB.out.trans (hc.2.below (B := w.heap.size) (by omega) (by rintro b rfl; omega))).trans (hba.mono (by omega)))
    have HX := Lib.hid ((DBx.new u 68 w2).below ((Below.refl _ _).alloc (Nat.le_refl _) (.cells #[ud] 26)))
    obtain ⟨la, lc, rfl, hl45, _⟩ := hrl.now
    obtain ⟨da, dc, rfl, _, _⟩ := hrd.now
    clear hdl hdd hrl hrd hc hba HC HB HR
    obtain ⟨k0, k1, k2⟩ := HX.out
    obtain ⟨r0, r1, r2⟩ := HR2.out
    go_wp2
    refine bodyPost_ret (v := .agg #[.slice la l.length lc]) (by simp [results, Tryz.results53, go_sem, r0]) rfl ⟨l, _, rfl, HDL.out, ?_, HB2.out.setCell (Nat.le_refl _) _⟩
    have h := (HRL.out.chg ((Chg.refl (fun b => b = w.heap.size) _).setCell (p := ⟨w.heap.size, 0, none⟩) rfl (.slice la l.length lc)) (fun b h1 h2 e => by omega))
    exact h.wide (by omega) h.1.1 (Nat.le_refl _)
  · go_wp2_with fail
    refine (l8Wide 1 20 20 _ (by decide) (by decide) rfl).mono ?_
    rintro e w2 ⟨u1, rfl, hI, hb⟩
    have hz2 : w1.heap.size ≤ w2.heap.size := hb.size
    have HC2 := Lib.hid (HC.out.below hb); have HR2 := Lib.hid (HR.out.below hb); have HB2 := Lib.hid (HB.out.trans (hb.mono HB.out.size))
    have HI := Lib.hid hI
    clear hb hI HC HR HB
    go_wp2_with fail
    refine (cur_pick w.heap.size (w.heap.size + 1) (0 + 2) 4 _ (by decide) (by decide) HC2.out).mono ?_
    rintro e w3 ⟨p, hp, rfl, hc⟩
    have hp4 : p < 4 := by omega
    have hz3 : w2.heap.size ≤ w3.heap.size := hc.2.size
    have HC3 := Lib.hid hc.1; have HR3 := Lib.hid (HR2.out.stand hc.2 (by omega)); have HB3 := Lib.hid (HB2.out.trans (hc.2.below (B := w.heap.size) (by omega) (by rintro b rfl; omega)))
    have HI3 := Lib.hid (HI.out.stand entE_ok hc.2 (fun b hb e => by have := hb.1; omega))
    clear hc hp HC2 HR2 HB2 HI
    go_wp2_with fail
    refine (l8Wide 10 (29 + (p : Int)) (29 + p) _ (by decide) (by omega) (by omega)).mono ?_
    rintro e w4 ⟨u2, rfl, hI, hb⟩
    have hz4 : w3.heap.size ≤ w4.heap.size := hb.size
    have HC4 := Lib.hid (HC3.out.below hb); have HR4 := Lib.hid (HR3.out.below hb); have HB4 := Lib.hid (HB3.out.trans (hb.mono HB3.out.size))
    have HI4 := Lib.hid (HI3.out.below entE_ok hb); have HJ := Lib.hid hI
    clear hb hI HC3 HR3 HB3 HI3
    go_wp2_with fail
    refine (cur_one w.heap.size (w.heap.size + 1) (0 + 2 + 2) 4 _ (by decide) (by decide) HC4.out).mono ?_
    rintro e w5 ⟨q, rfl, hc⟩
    have hz5 : w4.heap.size ≤ w5.heap.size := hc.2.size
    have HR5 := Lib.hid (HR4.out.stand hc.2 (by omega)); have HB5 := Lib.hid (HB4.out.trans (hc.2.below (B := w.heap.size) (by omega) (by rintro b rfl; omega)))
    have HI5 := Lib.hid (HI4.out.stand entE_ok hc.2 (fun b hb e => by have := hb.1; omega)); have HJ5 := Lib.hid (HJ.out.stand entE_ok hc.2 (fun b hb e => by have := hb.1; omega))
    obtain ⟨a1, c1, rfl, _, _⟩ := id HI5.out
    obtain ⟨a2, c2, rfl, _, _⟩ := id HJ5.out
    clear hc HC4 HR4 HB4 HI4 HJ
    obtain ⟨r0, r1, r2⟩ := HR5.out
    have hba : Below w5.heap.size w5 (w5.alloc (.cells #[.slice a1 (P.wide 1 20).length c1, .bool true, .slice a2 (P.wide 10 (29 + p)).length c2, .bool (!q)] 113)) := (Below.refl _ _).alloc (Nat.le_refl _) _
    have HBA := Lib.hid hba
    clear hba
    go_wp2
    have hset : Chg (fun b => b = w.heap.size) w5 (w5.setCell ⟨w.heap.size, 0, none⟩ (.slice (some ⟨w5.heap.size, 0, none⟩) 2 2)) := (Chg.refl (fun b => b = w.heap.size) w5).setCell (p := ⟨w.heap.size, 0, none⟩) rfl _
    have hsz : (w5.setCell ⟨w.heap.size, 0, none⟩ (.slice (some ⟨w5.heap.size, 0, none⟩) 2 2)).heap.size = w5.heap.size := by simp [World.setCell]
    have hI6 := HI5.out.stand entE_ok hset (fun b hb e => by have := hb.1; omega)
    have hJ6 := HJ5.out.stand entE_ok hset (fun b hb e => by have := hb.1; omega)
    have hB6 := HB5.out.setCell (p := ⟨w.heap.size, 0, none⟩) (Nat.le_refl _) (.slice (some ⟨w5.heap.size, 0, none⟩) 2 2)
    have k0 : (w5.setCell ⟨w.heap.size, 0, none⟩ (.slice (some ⟨w5.heap.size, 0, none⟩) 2 2)).cell? ⟨w.heap.size, 0, none⟩ = some (.slice (some ⟨w5.heap.size, 0, none⟩) 2 2) := World.cell?_setCell_same _ _ _ r0
    have hba := (Below.refl (w5.setCell ⟨w.heap.size, 0, none⟩ (.slice (some ⟨w5.heap.size, 0, none⟩) 2 2)).heap.size (w5.setCell ⟨w.heap.size, 0, none⟩ (.slice (some ⟨w5.heap.size, 0, none⟩) 2 2))).alloc (Nat.le_refl _) (.cells #[.slice a1 (P.wide 1 20).length c1, .bool true, .slice a2 (P.wide 10 (29 + p)).length c2, .bool (!q)] 113)
    have hown := World.ownsRow_lit (base := (w5.setCell ⟨w.heap.size, 0, none⟩ (.slice (some ⟨w5.heap.size, 0, none⟩) 2 2)).heap.size) (e := 113) (size := 2) (w5.setCell ⟨w.heap.size, 0, none⟩ (.slice (some ⟨w5.heap.size, 0, none⟩) 2 2)) #[.slice a1 (P.wide 1 20).length c1, .bool true, .slice a2 (P.wide 10 (29 + p)).length c2, .bool (!q)] 2 (Nat.le_refl _) (by decide) (by simp)
    have k1 := (hba.cell (p := ⟨w.heap.size, 0, none⟩) (by rw [hsz]; exact r2)).trans k0
    have hzz := hba.size
    clear k0
    generalize hv5 : w5.setCell ⟨w.heap.size, 0, none⟩ (.slice (some ⟨w5.heap.size, 0, none⟩) 2 2) = v5 at *
    have hI7 := hI6.below entE_ok hba
    have hJ7 := hJ6.below entE_ok hba
    have hlt2 := World.ownsRow.lt hown v5.heap.size rfl
    generalize v5.alloc (.cells #[.slice a1 (P.wide 1 20).length c1, .bool true, .slice a2 (P.wide 10 (29 + p)).length c2, .bool (!q)] 113) = v6 at *
    rw [hsz] at hown hlt2
    have HO : LOwn (w.heap.size + 1) w5.heap.size v6.heap.size v6 (.slice (some ⟨w5.heap.size, 0, none⟩) 2 2) [(.slice a1 (P.wide 1 20).length c1, (P.wide 1 20, true)), (.slice a2 (P.wide 10 (29 + p)).length c2, (P.wide 10 (29 + p), !q))] := by
      refine ⟨hown, ⟨by omega, by omega, Nat.le_refl _⟩, (fun k e => by have e2 : w5.heap.size = k := Option.some.inj e; omega), fun t ht => ?_⟩
      simp only [List.mem_cons, List.not_mem_nil, or_false] at ht
      rcases ht with rfl | rfl
      · exact ⟨P.wide_drawn (by decide), _, fun b hb => ⟨by have := hb.1; omega, by have := hb.2; omega, fun e => by have e2 : w5.heap.size = b := Option.some.inj e; have := hb.2; omega⟩, fun v' hk => Ents.read (hI7.keep entE_ok hk)⟩
      · exact ⟨P.wide_drawn (by omega), _, fun b hb => ⟨by have := hb.1; omega, by have := hb.2; omega, fun e => by have e2 : w5.heap.size = b := Option.some.inj e; have := hb.2; omega⟩, fun v' hk => Ents.read (hJ7.keep entE_ok hk)⟩
    have HR := HO.read (lo := w.heap.size) (by simp) (by omega)
    refine bodyPost_ret (v := .agg #[.slice (some ⟨w5.heap.size, 0, none⟩) 2 2]) (by simp [results, Tryz.results53, go_sem, k1]) rfl ⟨_, _, rfl, ⟨by simp, fun t ht => ?_⟩, HR, hB6.trans (hba.mono (by rw [hsz]; omega))⟩
    simp only [List.map_cons, List.map_nil, List.mem_cons, List.not_mem_nil, or_false] at ht
    rcases ht with rfl | rfl
    · exact P.wide_drawn (by decide)
    · exact P.wide_drawn (by omega)
end
section
open Go Go.RowKit
set_option maxHeartbeats 4000000
set_option maxRecDepth 100000
/-- what rDict's look at two entries keeps -/
def RDS (W : Nat) (u v : Value) (g p g' q : Nat) (x y s : Value) (w : World) : Prop :=
  w.cell? ⟨W, 0, none⟩ = some u ∧ w.cell? ⟨W + 1, 0, none⟩ = some v ∧ w.cell? ⟨g, p, none⟩ = some x ∧ w.cell? ⟨g, p + 1, none⟩ = some s ∧ w.cell? ⟨g', q, none⟩ = some y ∧ w.cell? ⟨g', q + 1, none⟩ = some s ∧ W + 1 < w.heap.size ∧ g < w.heap.size ∧ g' < w.heap.size
theorem RDS.below {W : Nat} {u v : Value} {g p g' q : Nat} {x y s : Value} {w w' : World} (h : RDS W u v g p g' q x y s w) (hb : Below w.heap.size w w') : RDS W u v g p g' q x y s w' := by
  obtain ⟨h1, h2, h3, h4, h5, h6, h7, h8, h9⟩ := h
  have hz := hb.size
  exact ⟨(hb.cell (p := ⟨W, 0, none⟩) (by show W < _; omega)).trans h1, (hb.cell (p := ⟨W + 1, 0, none⟩) h7).trans h2, (hb.cell (p := ⟨g, p, none⟩) h8).trans h3, (hb.cell (p := ⟨g, p + 1, none⟩) h8).trans h4, (hb.cell (p := ⟨g', q, none⟩) h9).trans h5, (hb.cell (p := ⟨g', q + 1, none⟩) h9).trans h6, by omega, by omega, by omega⟩
theorem rDict (u v : Value) (l : P.Dic) (w : World) (hu : EntR w u l) (hv : EntR w v l) :
    Calls Tryz.prog 20 #[.agg #[u], .agg #[v]] w fun e w' => e = .returned (.bool true) ∧ Below w.heap.size w w' := by
  have hb0 : Below w.heap.size w ((w.alloc (.cells #[u] 26)).alloc (.cells #[v] 26)) := ((Below.refl w.heap.size w).alloc (Nat.le_refl _) _).alloc (by simp) _
  have HU := Lib.hid (hu.below hb0); have HV := Lib.hid (hv.below hb0); have HB0 := Lib.hid hb0
  have HX := Lib.hid ((DBx.new u 26 w).below ((Below.refl _ _).alloc (Nat.le_refl _) (.cells #[v] 26)))
  have HY := Lib.hid (show DBx (w.heap.size + 1) v ((w.alloc (.cells #[u] 26)).alloc (.cells #[v] 26)) by
    have h := DBx.new v 26 (w.alloc (.cells #[u] 26)); simpa using h)
  obtain ⟨ad, cap, rfl, hla, _⟩ := hu
  obtain ⟨bd, dap, rfl, _, _⟩ := hv
  clear hb0
  go_enter Tryz.func20, Tryz.ntmps20
  go_wp2
  generalize hW : (w.alloc (.cells #[.slice ad l.length cap] 26)).alloc (.cells #[.slice bd l.length dap] 26) = w0 at *
  clear hW
  go_loopw [5] (fun i wr => ∃ j : Nat, j ≤ l.length ∧ i = .int .i64 j ∧ Below w0.heap.size w0 wr) (fun i _ => l.length - (intOf i).toNat)
  case atStart => exact ⟨0, Nat.zero_le _, rfl, Below.refl _ _⟩
  case round =>
    obtain ⟨j, hj, rfl, hb⟩ := hrel
    have HB := Lib.hid hb
    obtain ⟨x0, _⟩ := HX.out.below hb
    obtain ⟨y0, _⟩ := HY.out.below hb
    by_cases hlt : j < l.length
    · obtain ⟨g, o, hga, hgl, x, c0, c1, hx⟩ := (HU.out.below hb).at j hlt
      obtain ⟨g', o', hgb, hgl', y, d0, d1, hy⟩ := (HV.out.below hb).at j hlt
      subst hga hgb
      obtain ⟨xd, xc, rfl, _, _⟩ := id hx
      obtain ⟨yd, yc, rfl, _, _⟩ := id hy
      have HXX := Lib.hid hx; have HYY := Lib.hid hy
      generalize l[j] = en at *
      obtain ⟨eo, et⟩ := en
      simp only at HXX HYY c0 c1 d0 d1
      have HBW := Lib.hid (hb.trans ((Below.refl wr.heap.size wr).drew.mono hb.size))
      have hdw := (Below.refl wr.heap.size wr).drew
      have HXW := Lib.hid (HXX.out.below hdw); have HYW := Lib.hid (HYY.out.below hdw)
      have hz : w.heap.size + 1 < wr.heap.size := (HY.out.below hb).2.2
      have HS := Lib.hid (show RDS w.heap.size (.slice (some ⟨g, o, none⟩) l.length cap) (.slice (some ⟨g', o', none⟩) l.length dap) g (o + j * 2) g' (o' + j * 2) (.slice xd eo.length xc) (.slice yd eo.length yc) (.string (S et)) wr.drew from RDS.below ⟨x0, y0, c0, c1, d0, d1, hz, hgl, hgl'⟩ hdw)
      have i1 : (j : Int) < (l.length : Int) := by omega
      clear hb hx hy hdw c0 c1 d0 d1 hgl hgl' HXX HYY
      go_upto_region 6 with fail
      clear x0 y0
      refine wp_region_held_drew (S := RDS w.heap.size (.slice (some ⟨g, o, none⟩) l.length cap) (.slice (some ⟨g', o', none⟩) l.length dap) g (o + j * 2) g' (o' + j * 2) (.slice xd eo.length xc) (.slice yd eo.length yc) (.string (S et))) (by kernel_rfl) HS.out (fun hS0 => ?_)
      generalize wr.drew = v0 at *
      refine wpAnyH_take (i := 0) (v := .pointer (some ⟨w.heap.size, 0, none⟩)) rfl (by kernel_rfl) (by kernel_rfl) (by kernel_rfl) (fun _ _ _ h => h) (Or.inl ⟨by rfl, fun z hz => ?_⟩) hS0 ?_
      · obtain ⟨z1, z2, z3, z4, z5, z6, z7, z8, z9⟩ := hz
        go_simp
      try simp only [List.getElem_toArray, List.getElem_cons_zero, Act.put, List.setIfInBounds_toArray, List.set_cons_zero, List.set_cons_succ]
      refine wpAnyH_take (i := 1) (v := .slice (some ⟨g, o, none⟩) l.length cap) rfl (by kernel_rfl) (by kernel_rfl) (by kernel_rfl) (fun _ _ _ h => h) (Or.inl ⟨by rfl, fun z hz => ?_⟩) hS0 ?_
      · obtain ⟨z1, z2, z3, z4, z5, z6, z7, z8, z9⟩ := hz
        go_simp
      try simp only [List.getElem_toArray, List.getElem_cons_zero, List.getElem_cons_succ, Act.put, List.setIfInBounds_toArray, List.set_cons_zero, List.set_cons_succ]
      refine wpAnyH_take (i := 2) (v := .int .i64 j) rfl (by kernel_rfl) (by kernel_rfl) (by kernel_rfl) (fun _ _ _ h => h) (Or.inl ⟨by rfl, fun z hz => ?_⟩) hS0 ?_
      · obtain ⟨z1, z2, z3, z4, z5, z6, z7, z8, z9⟩ := hz
        go_simp
      try simp only [List.getElem_toArray, List.getElem_cons_zero, List.getElem_cons_succ, Act.put, List.setIfInBounds_toArray, List.set_cons_zero, List.set_cons_succ]
      refine wpAnyH_take (i := 3) (v := .pointer (some ⟨g, o + j * 2, none⟩)) rfl (by kernel_rfl) (by kernel_rfl) (by kernel_rfl) (fun _ _ _ h => h) (Or.inl ⟨by rfl, fun z hz => ?_⟩) hS0 ?_
      · obtain ⟨z1, z2, z3, z4, z5, z6, z7, z8, z9⟩ := hz
        go_simp
      try simp only [List.getElem_toArray, List.getElem_cons_zero, List.getElem_cons_succ, Act.put, List.setIfInBounds_toArray, List.set_cons_zero, List.set_cons_succ]
      refine wpAnyH_take (i := 4) (v := .pointer (some ⟨g, o + j * 2, none⟩)) rfl (by kernel_rfl) (by kernel_rfl) (by kernel_rfl) (fun _ _ _ h => h) (Or.inl ⟨by rfl, fun z hz => ?_⟩) hS0 ?_
      · obtain ⟨z1, z2, z3, z4, z5, z6, z7, z8, z9⟩ := hz
        go_simp
      try simp only [List.getElem_toArray, List.getElem_cons_zero, List.getElem_cons_succ, Act.put, List.setIfInBounds_toArray, List.set_cons_zero, List.set_cons_succ]
      refine wpAnyH_take (i := 5) (v := .slice xd eo.length xc) rfl (by kernel_rfl) (by kernel_rfl) (by kernel_rfl) (fun _ _ _ h => h) (Or.inl ⟨by rfl, fun z hz => ?_⟩) hS0 ?_
      · obtain ⟨z1, z2, z3, z4, z5, z6, z7, z8, z9⟩ := hz
        go_simp
      try simp only [List.getElem_toArray, List.getElem_cons_zero, List.getElem_cons_succ, Act.put, List.setIfInBounds_toArray, List.set_cons_zero, List.set_cons_succ]
      refine wpAnyH_take (i := 6) (v := .pointer (some ⟨w.heap.size + 1, 0, none⟩)) rfl (by kernel_rfl) (by kernel_rfl) (by kernel_rfl) (fun _ _ _ h => h) (Or.inl ⟨by rfl, fun z hz => ?_⟩) hS0 ?_
      · obtain ⟨z1, z2, z3, z4, z5, z6, z7, z8, z9⟩ := hz
        go_simp
      try simp only [List.getElem_toArray, List.getElem_cons_zero, List.getElem_cons_succ, Act.put, List.setIfInBounds_toArray, List.set_cons_zero, List.set_cons_succ]
      refine wpAnyH_take (i := 7) (v := .slice (some ⟨g', o', none⟩) l.length dap) rfl (by kernel_rfl) (by kernel_rfl) (by kernel_rfl) (fun _ _ _ h => h) (Or.inl ⟨by rfl, fun z hz => ?_⟩) hS0 ?_
      · obtain ⟨z1, z2, z3, z4, z5, z6, z7, z8, z9⟩ := hz
        go_simp
      try simp only [List.getElem_toArray, List.getElem_cons_zero, List.getElem_cons_succ, Act.put, List.setIfInBounds_toArray, List.set_cons_zero, List.set_cons_succ]
      refine wpAnyH_take (i := 8) (v := .int .i64 j) rfl (by kernel_rfl) (by kernel_rfl) (by kernel_rfl) (fun _ _ _ h => h) (Or.inl ⟨by rfl, fun z hz => ?_⟩) hS0 ?_
      · obtain ⟨z1, z2, z3, z4, z5, z6, z7, z8, z9⟩ := hz
        go_simp
      try simp only [List.getElem_toArray, List.getElem_cons_zero, List.getElem_cons_succ, Act.put, List.setIfInBounds_toArray, List.set_cons_zero, List.set_cons_succ]
      refine wpAnyH_take (i := 9) (v := .pointer (some ⟨g', o' + j * 2, none⟩)) rfl (by kernel_rfl) (by kernel_rfl) (by kernel_rfl) (fun _ _ _ h => h) (Or.inl ⟨by rfl, fun z hz => ?_⟩) hS0 ?_
      · obtain ⟨z1, z2, z3, z4, z5, z6, z7, z8, z9⟩ := hz
        go_simp
      try simp only [List.getElem_toArray, List.getElem_cons_zero, List.getElem_cons_succ, Act.put, List.setIfInBounds_toArray, List.set_cons_zero, List.set_cons_succ]
      refine wpAnyH_take (i := 10) (v := .pointer (some ⟨g', o' + j * 2, none⟩)) rfl (by kernel_rfl) (by kernel_rfl) (by kernel_rfl) (fun _ _ _ h => h) (Or.inl ⟨by rfl, fun z hz => ?_⟩) hS0 ?_
      · obtain ⟨z1, z2, z3, z4, z5, z6, z7, z8, z9⟩ := hz
        go_simp
      try simp only [List.getElem_toArray, List.getElem_cons_zero, List.getElem_cons_succ, Act.put, List.setIfInBounds_toArray, List.set_cons_zero, List.set_cons_succ]
      refine wpAnyH_take (i := 11) (v := .slice yd eo.length yc) rfl (by kernel_rfl) (by kernel_rfl) (by kernel_rfl) (fun _ _ _ h => h) (Or.inl ⟨by rfl, fun z hz => ?_⟩) hS0 ?_
      · obtain ⟨z1, z2, z3, z4, z5, z6, z7, z8, z9⟩ := hz
        go_simp
      try simp only [List.getElem_toArray, List.getElem_cons_zero, List.getElem_cons_succ, Act.put, List.setIfInBounds_toArray, List.set_cons_zero, List.set_cons_succ]
      refine wpAnyH_ready (rs := [12]) (by kernel_rfl) (by simp) ?_
      refine AllReadyH.cons rfl (fun K hK => ?_) AllReadyH.nil
      go_simp
      refine (rInts _ _ eo _ HXW.out HYW.out).mono ?_
      rintro e v ⟨rfl, hb⟩
      refine hK.out _ _ (hS0.below hb) (fun hS1 => ?_)
      have HB2 := Lib.hid (HBW.out.trans (hb.mono HBW.out.size))
      clear hK K hb
      try simp only [List.getElem_toArray, List.getElem_cons_zero, List.getElem_cons_succ, Act.put, List.setIfInBounds_toArray, List.set_cons_zero, List.set_cons_succ]
      refine wpAnyH_take (i := 13) (v := .bool false) rfl (by kernel_rfl) (by kernel_rfl) (by kernel_rfl) (fun _ _ _ h => h) (Or.inl ⟨by rfl, fun z hz => ?_⟩) hS1 ?_
      · obtain ⟨z1, z2, z3, z4, z5, z6, z7, z8, z9⟩ := hz
        go_simp
      try simp only [List.getElem_toArray, List.getElem_cons_zero, List.getElem_cons_succ, Act.put, List.setIfInBounds_toArray, List.set_cons_zero, List.set_cons_succ]
      refine wpAnyH_take (i := 14) (v := .bool false) rfl (by kernel_rfl) (by kernel_rfl) (by kernel_rfl) (fun _ _ _ h => h) (Or.inl ⟨by rfl, fun z hz => ?_⟩) hS1 ?_
      · obtain ⟨z1, z2, z3, z4, z5, z6, z7, z8, z9⟩ := hz
        go_simp
      try simp only [List.getElem_toArray, List.getElem_cons_zero, List.getElem_cons_succ, Act.put, List.setIfInBounds_toArray, List.set_cons_zero, List.set_cons_succ]
      refine wpAnyH_take (i := 15) (v := .pointer (some ⟨w.heap.size, 0, none⟩)) rfl (by kernel_rfl) (by kernel_rfl) (by kernel_rfl) (fun _ _ _ h => h) (Or.inl ⟨by rfl, fun z hz => ?_⟩) hS1 ?_
      · obtain ⟨z1, z2, z3, z4, z5, z6, z7, z8, z9⟩ := hz
        go_simp
      try simp only [List.getElem_toArray, List.getElem_cons_zero, List.getElem_cons_succ, Act.put, List.setIfInBounds_toArray, List.set_cons_zero, List.set_cons_succ]
      refine wpAnyH_take (i := 16) (v := .slice (some ⟨g, o, none⟩) l.length cap) rfl (by kernel_rfl) (by kernel_rfl) (by kernel_rfl) (fun _ _ _ h => h) (Or.inl ⟨by rfl, fun z hz => ?_⟩) hS1 ?_
      · obtain ⟨z1, z2, z3, z4, z5, z6, z7, z8, z9⟩ := hz
        go_simp
      try simp only [List.getElem_toArray, List.getElem_cons_zero, List.getElem_cons_succ, Act.put, List.setIfInBounds_toArray, List.set_cons_zero, List.set_cons_succ]
      refine wpAnyH_take (i := 17) (v := .int .i64 j) rfl (by kernel_rfl) (by kernel_rfl) (by kernel_rfl) (fun _ _ _ h => h) (Or.inl ⟨by rfl, fun z hz => ?_⟩) hS1 ?_
      · obtain ⟨z1, z2, z3, z4, z5, z6, z7, z8, z9⟩ := hz
        go_simp
      try simp only [List.getElem_toArray, List.getElem_cons_zero, List.getElem_cons_succ, Act.put, List.setIfInBounds_toArray, List.set_cons_zero, List.set_cons_succ]
      refine wpAnyH_take (i := 18) (v := .pointer (some ⟨g, o + j * 2, none⟩)) rfl (by kernel_rfl) (by kernel_rfl) (by kernel_rfl) (fun _ _ _ h => h) (Or.inl ⟨by rfl, fun z hz => ?_⟩) hS1 ?_
      · obtain ⟨z1, z2, z3, z4, z5, z6, z7, z8, z9⟩ := hz
        go_simp
      try simp only [List.getElem_toArray, List.getElem_cons_zero, List.getElem_cons_succ, Act.put, List.setIfInBounds_toArray, List.set_cons_zero, List.set_cons_succ]
      refine wpAnyH_take (i := 19) (v := .pointer (some ⟨g, o + j * 2 + 1, none⟩)) rfl (by kernel_rfl) (by kernel_rfl) (by kernel_rfl) (fun _ _ _ h => h) (Or.inl ⟨by rfl, fun z hz => ?_⟩) hS1 ?_
      · obtain ⟨z1, z2, z3, z4, z5, z6, z7, z8, z9⟩ := hz
        go_simp
      try simp only [List.getElem_toArray, List.getElem_cons_zero, List.getElem_cons_succ, Act.put, List.setIfInBounds_toArray, List.set_cons_zero, List.set_cons_succ]
      refine wpAnyH_take (i := 20) (v := .string (S et)) rfl (by kernel_rfl) (by kernel_rfl) (by kernel_rfl) (fun _ _ _ h => h) (Or.inl ⟨by rfl, fun z hz => ?_⟩) hS1 ?_
      · obtain ⟨z1, z2, z3, z4, z5, z6, z7, z8, z9⟩ := hz
        go_simp
      try simp only [List.getElem_toArray, List.getElem_cons_zero, List.getElem_cons_succ, Act.put, List.setIfInBounds_toArray, List.set_cons_zero, List.set_cons_succ]
      refine wpAnyH_take (i := 21) (v := .pointer (some ⟨w.heap.size + 1, 0, none⟩)) rfl (by kernel_rfl) (by kernel_rfl) (by kernel_rfl) (fun _ _ _ h => h) (Or.inl ⟨by rfl, fun z hz => ?_⟩) hS1 ?_
      · obtain ⟨z1, z2, z3, z4, z5, z6, z7, z8, z9⟩ := hz
        go_simp
      try simp only [List.getElem_toArray, List.getElem_cons_zero, List.getElem_cons_succ, Act.put, List.setIfInBounds_toArray, List.set_cons_zero, List.set_cons_succ]
      refine wpAnyH_take (i := 22) (v := .slice (some ⟨g', o', none⟩) l.length dap) rfl (by kernel_rfl) (by kernel_rfl) (by kernel_rfl) (fun _ _ _ h => h) (Or.inl ⟨by rfl, fun z hz => ?_⟩) hS1 ?_
      · obtain ⟨z1, z2, z3, z4, z5, z6, z7, z8, z9⟩ := hz
        go_simp
      try simp only [List.getElem_toArray, List.getElem_cons_zero, List.getElem_cons_succ, Act.put, List.setIfInBounds_toArray, List.set_cons_zero, List.set_cons_succ]
      refine wpAnyH_take (i := 23) (v := .int .i64 j) rfl (by kernel_rfl) (by kernel_rfl) (by kernel_rfl) (fun _ _ _ h => h) (Or.inl ⟨by rfl, fun z hz => ?_⟩) hS1 ?_
      · obtain ⟨z1, z2, z3, z4, z5, z6, z7, z8, z9⟩ := hz
        go_simp
      try simp only [List.getElem_toArray, List.getElem_cons_zero, List.getElem_cons_succ, Act.put, List.setIfInBounds_toArray, List.set_cons_zero, List.set_cons_succ]
      refine wpAnyH_take (i := 24) (v := .pointer (some ⟨g', o' + j * 2, none⟩)) rfl (by kernel_rfl) (by kernel_rfl) (by kernel_rfl) (fun _ _ _ h => h) (Or.inl ⟨by rfl, fun z hz => ?_⟩) hS1 ?_
      · obtain ⟨z1, z2, z3, z4, z5, z6, z7, z8, z9⟩ := hz
        go_simp
      try simp only [List.getElem_toArray, List.getElem_cons_zero, List.getElem_cons_succ, Act.put, List.setIfInBounds_toArray, List.set_cons_zero, List.set_cons_succ]
      refine wpAnyH_take (i := 25) (v := .pointer (some ⟨g', o' + j * 2 + 1, none⟩)) rfl (by kernel_rfl) (by kernel_rfl) (by kernel_rfl) (fun _ _ _ h => h) (Or.inl ⟨by rfl, fun z hz => ?_⟩) hS1 ?_
      · obtain ⟨z1, z2, z3, z4, z5, z6, z7, z8, z9⟩ := hz
        go_simp
      try simp only [List.getElem_toArray, List.getElem_cons_zero, List.getElem_cons_succ, Act.put, List.setIfInBounds_toArray, List.set_cons_zero, List.set_cons_succ]
      refine wpAnyH_take (i := 26) (v := .string (S et)) rfl (by kernel_rfl) (by kernel_rfl) (by kernel_rfl) (fun _ _ _ h => h) (Or.inl ⟨by rfl, fun z hz => ?_⟩) hS1 ?_
      · obtain ⟨z1, z2, z3, z4, z5, z6, z7, z8, z9⟩ := hz
        go_simp
      try simp only [List.getElem_toArray, List.getElem_cons_zero, List.getElem_cons_succ, Act.put, List.setIfInBounds_toArray, List.set_cons_zero, List.set_cons_succ]
      refine wpAnyH_take (i := 27) (v := .bool false) rfl (by kernel_rfl) (by kernel_rfl) (by kernel_rfl) (fun _ _ _ h => h) (Or.inl ⟨by rfl, fun z hz => ?_⟩) hS1 ?_
      · obtain ⟨z1, z2, z3, z4, z5, z6, z7, z8, z9⟩ := hz
        go_simp
      try simp only [List.getElem_toArray, List.getElem_cons_zero, List.getElem_cons_succ, Act.put, List.setIfInBounds_toArray, List.set_cons_zero, List.set_cons_succ]
      refine wpAnyH_take (i := 28) (v := .bool false) rfl (by kernel_rfl) (by kernel_rfl) (by kernel_rfl) (fun _ _ _ h => h) (Or.inl ⟨by rfl, fun z hz => ?_⟩) hS1 ?_
      · obtain ⟨z1, z2, z3, z4, z5, z6, z7, z8, z9⟩ := hz
        go_simp
      try simp only [List.getElem_toArray, List.getElem_cons_zero, List.getElem_cons_succ, Act.put, List.setIfInBounds_toArray, List.set_cons_zero, List.set_cons_succ]
      refine wpAnyH_done (by kernel_rfl) ?_ _
      clear hS0 hS1 HS
      go_wp2
      go_roundw
      case rel => exact ⟨j + 1, by omega, by go_num, HB2.out⟩
      case measure => simp [intOf]; omega
    · clear hb
      go_wp2
      go_ret
      exact ⟨rfl, HB0.out.trans (HB.out.mono HB0.out.size)⟩
end
section
open Go Go.RowKit
set_option maxHeartbeats 4000000
set_option maxRecDepth 100000
def bytesV (bs : List Nat) : List Value := bs.map fun (b : Nat) => Value.int .u8 (b : Int)
theorem info_u8 : (Tryz.prog.info? 5).map (fun i => (i.zero, i.size, i.bytes)) = some (some (.int .u8 0), 1, 1) := by kernel_rfl
theorem xor_byte (b k : Nat) : ∃ c : Nat, c < 256 ∧ bits .xor .u8 (b : Int) (k : Int) = (c : Int) := by
  have h := (BitVec.ofInt 8 (b : Int) ^^^ BitVec.ofInt 8 (k : Int)).isLt
  refine ⟨(BitVec.ofInt 8 (b : Int) ^^^ BitVec.ofInt 8 (k : Int)).toNat, h, ?_⟩
  show IntKind.u8.wrap ((BitVec.ofInt 8 (b : Int) ^^^ BitVec.ofInt 8 (k : Int)).toNat : Int) = _
  rw [IntKind.wrap_u8]
  omega
theorem rCut (cv : Value) (k : Nat) (w : World) (hc : CodeIs w cv) (hk : k = 1 ∨ k = 2) :
    Calls Tryz.prog 46 #[cv, .int .i64 k] w fun e w' => ∃ u, e = .returned u ∧ CodeIs w' u ∧ Below w.heap.size w w' := by
  obtain ⟨i0, hi, hz0, hz1, hz2⟩ := info_parts info_u8
  obtain ⟨ad, n, cap, rfl, hn, hr⟩ := hc
  have HR := Lib.hid hr
  clear hr
  obtain ⟨r, hr50, hrr⟩ : ∃ r : Nat, r < 50 ∧ (n : Int) % 50 = (r : Int) := ⟨n % 50, by omega, by omega⟩
  obtain ⟨q, hq, hqq⟩ : ∃ q : Nat, q < 256 ∧ (37 * (k : Int) + (r : Int)) = (q : Int) := ⟨37 * k + r, by omega, by omega⟩
  have hk3 : k < 3 := by omega
  have hk1 : 1 ≤ k := by omega
  clear hk
  go_enter Tryz.func46, Tryz.ntmps46
  go_wp2_with fail
  clear hrr hqq
  have HO := Lib.hid (show (w.alloc (.cells #[.int .u8 (q : Int)] 5)).ownsRow w.heap.size 5 1 (.slice (some ⟨w.heap.size, 0, none⟩) 1 1) ([q] : List Nat).length (bytesV [q]) by
    have h := World.ownsRow_lit (base := w.heap.size) (e := 5) (size := 1) w #[.int .u8 (q : Int)] 1 (Nat.le_refl _) (by decide) (by simp); simpa [bytesV] using h)
  have HB := Lib.hid ((Below.refl w.heap.size w).alloc (Nat.le_refl _) (.cells #[.int .u8 (q : Int)] 5))
  go_loopw [5, 6] (fun s i wr => ∃ (j : Nat) (bs : List Nat), k ≤ j ∧ (j ≤ n ∨ j = k) ∧ bs.length + k = j + 1 ∧ i = .int .i64 j ∧ (∀ b ∈ bs, b < 256) ∧ wr.ownsRow w.heap.size 5 1 s bs.length (bytesV bs) ∧ Below w.heap.size w wr) (fun _ i _ => n - (intOf i).toNat)
  case atStart => exact ⟨k, [q], Nat.le_refl _, .inr rfl, by simp; omega, rfl, by simpa using hq, HO.out, HB.out⟩
  case round =>
    clear HO HB
    obtain ⟨j, bs, hkj, hjn, hlen, rfl, hall, hown, hb⟩ := hrel
    have HA := Lib.hid hall; have HOW := Lib.hid hown; have HB := Lib.hid hb
    have hbl : bs.length ≤ 65537 := by omega
    have HLEN := Lib.hid hlen
    clear hlen hall hown
    by_cases hlt : j < n
    · have i1 : (j : Int) < (n : Int) := by omega
      obtain ⟨g, o, rfl, hg, hcell⟩ := HR.out.resolve_left (by omega)
      obtain ⟨b, hb256, c0⟩ := hcell j hlt
      have c1 := (hb.cell (p := ⟨g, o + j, none⟩) hg).trans c0
      clear hcell c0 hb
      obtain ⟨c, hc256, hx⟩ := xor_byte b k
      obtain ⟨ua, uc, rfl⟩ : ∃ ua uc, u5 = .slice ua bs.length uc := by
        rcases HOW.out.2 with ⟨rfl, h0⟩ | ⟨g2, cap2, cur, hv, _⟩
        · exact ⟨none, 0, by rw [h0]⟩
        · exact ⟨_, cap2, hv⟩
      have hbl1 : Below wr.heap.size wr (wr.alloc (.cells #[.int .u8 (c : Int)] 5)) := (Below.refl _ _).alloc (Nat.le_refl _) _
      have HBL := Lib.hid hbl1
      have HOW2 := Lib.hid (own_kept HOW.out hbl1 (Nat.le_refl _))
      have HWZ := Lib.hid HB.out.size
      clear hbl1
      go_wp2_with (at_builtin; refine wpList_append_lies _ rfl _ _ 22 rfl w.heap.size 5 i0 (.int .u8 0) 1 1 Tryz.underlying22 hi hz0 hz1 hz2 rfl (by decide) (.slice ua bs.length uc) bs.length _ rfl HOW2.out ⟨wr.heap.size, 0, none⟩ 1 1 [.int .u8 (c : Int)] rfl rfl ?_ ?_ (Nat.zero_lt_one) ?_ ?_ ?_ _ rfl ?_)
      all_goals first | exact ⟨rfl, rfl⟩ | (intro y hy; simp only [List.mem_cons, List.not_mem_nil, or_false] at hy; rcases hy with rfl <;> rfl) | (unfold maxLen; omega) | omega | (have h1 := HWZ.out; simp; omega) | (intro i y hy; rcases i with _ | i; (injection hy with hy; subst hy; rw [add0]; go_simp); cases hy) | skip
      intro g' cap' v3 hown hgr hat hlt3
      have hgrc := Chg.grown hgr
      have hown7 := World.ownsRow.lt HOW2.out
      have HO3 := Lib.hid (show v3.ownsRow w.heap.size 5 1 (.slice (some ⟨g', 0, none⟩) (bs.length + 1) cap') (bs ++ [c]).length (bytesV (bs ++ [c])) by simpa [bytesV] using hown)
      have HB3 := Lib.hid ((HB.out.trans (HBL.out.mono HB.out.size)).trans (hgrc.below (B := w.heap.size) (by have := HB.out.size; simp; omega) (fun b e => by have := hown7 _ e; omega)))
      have HA3 := Lib.hid (show ∀ x ∈ bs ++ [c], x < 256 from fun x hx => by rcases List.mem_append.1 hx with hx | hx; (exact HA.out x hx); (simp at hx; omega))
      clear hown hgr hat hlt3 hgrc hown7 hx
      go_wp2
      go_roundw
      case rel => exact ⟨j + 1, bs ++ [c], by omega, by omega, by rw [List.length_append]; have := HLEN.out; simp; omega, by go_num, HA3.out, HO3.out, HB3.out⟩
      case measure => simp [intOf]; omega
    · clear hb
      have i1 : ¬ (j : Int) < (n : Int) := by omega
      have hbn : bs.length ≤ 65536 := by have := HLEN.out; omega
      go_wp2
      go_ret
      refine ⟨_, rfl, ?_, HB.out⟩
      rcases id HOW.out.2 with ⟨rfl, h0⟩ | ⟨g2, cap2, cur, rfl, _⟩
      · exact ⟨none, 0, 0, rfl, by omega, .inl rfl⟩
      · have hlt2 := World.ownsRow.lt HOW.out g2 rfl
        refine ⟨_, bs.length, cap2, rfl, hbn, .inr ⟨g2, 0, rfl, hlt2.2, fun i hi => ⟨bs[i], HA.out _ (List.getElem_mem hi), ?_⟩⟩⟩
        have h := World.ownsRow.cellAt HOW.out i (by omega)
        rw [Nat.zero_add, h]
        unfold bytesV
        rw [List.getElem?_map, List.getElem?_eq_getElem hi]
        rfl
end
end Go.Proofs.YtojcfpjoikmgcaaGreatDoor
