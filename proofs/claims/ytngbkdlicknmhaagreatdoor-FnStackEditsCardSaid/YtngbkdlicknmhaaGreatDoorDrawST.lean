/- Walks: the draws of a stack with a layer, with two places, with a place and a switch. -/
import Derived.Deep.DeepCutAuto
import Derived.RegionTactic
import Derived.BigRegion
import Derived.Deep.RegionHeld
import Derived.Laws.BitsLemmas
import Derived.Test.YtngbkdlicknmhaaGreatDoorCurE8
namespace Go.Proofs.YtngbkdlicknmhaaGreatDoor
open Go Go.RowKit
set_option maxHeartbeats 4000000
set_option maxRecDepth 100000
/-- how the draw of a stack and a layer stands: the stack in block S -/
structure PLs (K S : Nat) (w : World) (u : Value) (l : P.Lays) (v : World) : Prop where
  low : w.heap.size + 3 ≤ S
  ls : ReadL (w.heap.size + 3) S v u l
  r0 : DBx w.heap.size (.slice none 0 0) v
  r1 : DBx (w.heap.size + 1) (.slice none 0 0) v
  bs : DBx S u v
  cur : IsCur w.heap.size (w.heap.size + 2) K v
  bel : Below w.heap.size w v
theorem PLs.below {K S : Nat} {w v v' : World} {u : Value} {l : P.Lays} (h : PLs K S w u l v) (hb : Below v.heap.size v v') : PLs K S w u l v' := by
  obtain ⟨h0, h1, h3, h4, h5, h6, h7⟩ := h
  exact ⟨h0, h1.chg (Below.chg hb (fun _ => False)) (fun _ _ _ h => h), h3.below hb, h4.below hb, h5.below hb, h6.below hb, h7.trans (hb.mono h7.size)⟩
theorem PLs.stand {K K' S : Nat} {w v v' : World} {u : Value} {l : P.Lays} (h : PLs K S w u l v) (hc : CurPost w.heap.size (w.heap.size + 2) K' v v') : PLs K' S w u l v' := by
  obtain ⟨h0, h1, h3, h4, h5, h6, h7⟩ := h
  exact ⟨h0, h1.chg hc.2 (fun b h1 h2 e => by omega), h3.stand hc.2 (by omega), h4.stand hc.2 (by omega), h5.stand hc.2 (by omega), hc.1, h7.trans (hc.2.below h7.size (by rintro b rfl; omega))⟩
theorem PLs.other {K S X i : Nat} {w v : World} {u : Value} {l : P.Lays} (h : PLs K S w u l v) (hX : S < X) (y : Value) : PLs K S w u l (v.setCell ⟨X, i, none⟩ y) := by
  obtain ⟨h0, h1, h3, h4, h5, h6, h7⟩ := h
  have hc : Chg (fun b => b = X) v (v.setCell ⟨X, i, none⟩ y) := (Chg.refl (fun b => b = X) v).setCell (p := ⟨X, i, none⟩) rfl _
  exact ⟨h0, h1.chg hc (fun b h1 h2 e => by omega), h3.stand hc (by omega), h4.stand hc (by omega), h5.stand hc (by omega), h6.stand hc (fun b e => by subst e; omega), h7.trans (hc.below h7.size (by rintro b rfl; omega))⟩
theorem PLs.mono {K K' S : Nat} {w v : World} {u : Value} {l : P.Lays} (h : PLs K S w u l v) (hK : K ≤ K') : PLs K' S w u l v := { h with cur := h.cur.mono hK }
/-- the layer's dictionary in its box -/
structure PDx (D : Nat) (w : World) (ud : Value) (d : P.Dic) (v : World) : Prop where
  bd : DBx D ud v
  dr : Drawn d
  rd : ∃ hi, ReadE (w.heap.size + 3) hi v ud d
theorem PDx.below {D : Nat} {w v v' : World} {ud : Value} {d : P.Dic} (h : PDx D w ud d v) (hb : Below v.heap.size v v') : PDx D w ud d v' := by
  obtain ⟨h1, h2, hi, h3⟩ := h
  exact ⟨h1.below hb, h2, hi, h3.chg (Below.chg hb (fun _ => False)) (fun _ _ _ h => h)⟩
theorem PDx.stand {K D : Nat} {w v v' : World} {ud : Value} {d : P.Dic} (h : PDx D w ud d v) (hD : w.heap.size + 2 < D) (hc : CurPost w.heap.size (w.heap.size + 2) K v v') : PDx D w ud d v' := by
  obtain ⟨h1, h2, hi, h3⟩ := h
  exact ⟨h1.stand hc.2 (by omega), h2, hi, h3.chg hc.2 (fun b h1 h2 e => by omega)⟩
def PushDrawn (w : World) (e : Ending) (w' : World) : Prop := ∃ (l : P.Lays) (d : P.Dic) (u ud : Value), e = .returned (.tuple #[.agg #[u], .agg #[ud]]) ∧ DrawnL l ∧ Drawn d ∧ LayR w' u l ∧ EntR w' ud d ∧ Below w.heap.size w w'
theorem drawPushLayer (cv : Value) (w : World) (hc : CodeIs w cv) :
    Calls Tryz.prog 44 #[cv] w (PushDrawn w) := by
  have hba0 : Below w.heap.size w ((w.alloc (.cells #[.slice none 0 0] 70)).alloc (.cells #[.slice none 0 0] 26)) := ((Below.refl _ _).alloc (Nat.le_refl _) _).alloc (by simp) _
  have H1 := Lib.hid (CodeIs.fresh (t := 132) hc hba0)
  have hbc : Below ((w.alloc (.cells #[.slice none 0 0] 70)).alloc (.cells #[.slice none 0 0] 26)).heap.size ((w.alloc (.cells #[.slice none 0 0] 70)).alloc (.cells #[.slice none 0 0] 26)) (((w.alloc (.cells #[.slice none 0 0] 70)).alloc (.cells #[.slice none 0 0] 26)).alloc (.cells #[cv, .int .i64 0, .int .u64 0] 132)) := (Below.refl _ _).alloc (Nat.le_refl _) _
  have HB0 := Lib.hid (hba0.trans (hbc.mono (by simp; omega)))
  have HR0 := Lib.hid (((DBx.new (.slice none 0 0) 70 w).below ((Below.refl _ _).alloc (Nat.le_refl _) (.cells #[.slice none 0 0] 26))).below hbc)
  have HR1 := Lib.hid (show DBx (w.heap.size + 1) (.slice none 0 0) (((w.alloc (.cells #[.slice none 0 0] 70)).alloc (.cells #[.slice none 0 0] 26)).alloc (.cells #[cv, .int .i64 0, .int .u64 0] 132)) by
    have h := (DBx.new (.slice none 0 0) 26 (w.alloc (.cells #[.slice none 0 0] 70))).below hbc; simpa using h)
  obtain ⟨ad, n, cap, rfl, _, _⟩ := hc
  clear hba0 hbc
  go_enter Tryz.func44, Tryz.ntmps44
  go_wp2_with fail
  refine (l8Draw w.heap.size (w.heap.size + 2) 0 _ (by decide) (by simpa using H1.out)).mono ?_
  rintro e w1 ⟨l, d, u, ud, rfl, hdl, hdd, hrl, hrd, hc⟩
  have hz1 : w.heap.size + 3 ≤ w1.heap.size := by have := hc.2.size; simp at this; omega
  have hba : Below w1.heap.size w1 ((w1.alloc (.cells #[u] 70)).alloc (.cells #[ud] 26)) := ((Below.refl _ _).alloc (Nat.le_refl _) _).alloc (by simp) _
  have hbb : Below (w1.alloc (.cells #[u] 70)).heap.size (w1.alloc (.cells #[u] 70)) ((w1.alloc (.cells #[u] 70)).alloc (.cells #[ud] 26)) := (Below.refl _ _).alloc (Nat.le_refl _) _
  have HI := Lib.hid (show PLs 20000 w1.heap.size w u l ((w1.alloc (.cells #[u] 70)).alloc (.cells #[ud] 26)) from
    ⟨hz1, ReadL.chg (by have h := hrl; simp at h; exact h) (Below.chg hba (fun _ => False)) (fun _ _ _ h => h), (HR0.out.stand hc.2 (by omega)).below hba, (HR1.out.stand hc.2 (by omega)).below hba, (DBx.new _ _ _).below hbb, hc.1.below hba, (HB0.out.trans (hc.2.below (B := w.heap.size) (by simp; omega) (by rintro b rfl; omega))).trans (hba.mono (by omega))⟩)
  have HD := Lib.hid (show PDx (w1.heap.size + 1) w ud d ((w1.alloc (.cells #[u] 70)).alloc (.cells #[ud] 26)) from
    ⟨by have h := DBx.new ud 26 (w1.alloc (.cells #[u] 70)); simpa using h, hdd, w1.heap.size, ReadE.chg (by have h := hrd; simp at h; exact h) (Below.chg hba (fun _ => False)) (fun _ _ _ h => h)⟩)
  have HDL := Lib.hid hdl
  obtain ⟨ua, uc, rfl, _, _⟩ := hrl.now
  obtain ⟨da, dc, rfl, _, _⟩ := hrd.now
  clear hdl hdd hrl hrd hc H1 HB0 HR0 HR1 hba hbb
  go_wp2_with fail
  refine (cur_one w.heap.size (w.heap.size + 2) 20000 15 _ (by decide) (by decide) HI.out.cur).mono ?_
  rintro e w4 ⟨b, rfl, hc⟩
  have HI4 := Lib.hid (HI.out.stand hc)
  have HD4 := Lib.hid (HD.out.stand (by omega) hc)
  clear hc HI HD
  go_upto_if 16 with fail
  go_cut [] (fun wx => ∃ (da : Option Addr) (dc : Nat) (d' : P.Dic), PLs 30000 w1.heap.size w (.slice ua l.length uc) l wx ∧ PDx (w1.heap.size + 1) w (.slice da d'.length dc) d' wx)
  case first =>
    cases b
    · go_wp2
      go_meet
      exact ⟨_, _, _, HI4.out.mono (by omega), HD4.out⟩
    · go_wp2_with fail
      refine (cur_anyDictionary w.heap.size (w.heap.size + 2) 20002 _ (by decide) HI4.out.cur).mono ?_
      rintro e w5 ⟨d', v', rfl, hd, hr, hc⟩
      have hsz : w1.heap.size + 1 < w4.heap.size := HD4.out.bd.2.2
      have HI5 := Lib.hid ((HI4.out.stand hc).other (X := w1.heap.size + 1) (i := 0) (by omega) v')
      have hbx := (HD4.out.bd.stand hc.2 (by omega)).put (u' := v')
      have hst : Chg (fun b => b = w1.heap.size + 1) w5 (w5.setCell ⟨w1.heap.size + 1, 0, none⟩ v') := (Chg.refl (fun b => b = w1.heap.size + 1) w5).setCell (p := ⟨w1.heap.size + 1, 0, none⟩) rfl _
      have HD5 := Lib.hid (show PDx (w1.heap.size + 1) w v' d' (w5.setCell ⟨w1.heap.size + 1, 0, none⟩ v') from ⟨hbx, hd, w5.heap.size, (hr.chg hst (fun b h1 h2 e => by omega)).wide (by omega) (Nat.le_refl _) (by simp [World.setCell])⟩)
      obtain ⟨b0, b1, b2⟩ := HD4.out.bd.stand hc.2 (by omega)
      obtain ⟨va, vc, rfl, _, _⟩ := hr.now
      clear hd hr hc hbx hst HI4 HD4
      go_wp2
      go_meet
      exact ⟨va, vc, d', HI5.out.mono (by omega), HD5.out⟩
  case rest =>
    clear HI4 HD4
    obtain ⟨da, dc, d', hi, hd⟩ := hcut
    have HI5 := Lib.hid hi; have HD5 := Lib.hid hd
    obtain ⟨x0, x1, x2⟩ := hi.bs
    obtain ⟨y0, y1, y2⟩ := hd.bd
    obtain ⟨k0, k1, k2⟩ := hi.r0
    obtain ⟨q0, q1, q2⟩ := hi.r1
    clear hi hd
    go_wp2
    go_region
    have hc : Chg (fun b => b = w.heap.size ∨ b = w.heap.size + 1) wc ((wc.setCell ⟨w.heap.size, 0, none⟩ (.slice ua l.length uc)).setCell ⟨w.heap.size + 1, 0, none⟩ (.slice da d'.length dc)).drew := (((Chg.refl _ wc).setCell (p := ⟨w.heap.size, 0, none⟩) (.inl rfl) _).setCell (p := ⟨w.heap.size + 1, 0, none⟩) (.inr rfl) _).drew
    have HC := Lib.hid hc
    clear hc
    obtain ⟨hi5, hr5⟩ := HD5.out.rd
    go_wp2
    refine bodyPost_ret (v := .tuple #[.agg #[.slice ua l.length uc], .agg #[.slice da d'.length dc]]) (by simp [results, Tryz.results44, go_sem, k0, q0]) rfl ⟨l, d', _, _, rfl, HDL.out, HD5.out.dr, (HI5.out.ls.chg HC.out (fun b h1 h2 e => by omega)).now, (hr5.chg HC.out (fun b h1 h2 e => by omega)).now, HI5.out.bel.trans (HC.out.below HI5.out.bel.size (by rintro b (rfl | rfl) <;> omega))⟩
def MovDrawn (w : World) (e : Ending) (w' : World) : Prop := ∃ (l : P.Lays) (u : Value) (f t : Int), e = .returned (.tuple #[.agg #[u], .int .i64 f, .int .i64 t]) ∧ DrawnL l ∧ LayR w' u l ∧ Below w.heap.size w w'
theorem drawMoveLayer (cv : Value) (w : World) (hc : CodeIs w cv) :
    Calls Tryz.prog 49 #[cv] w (MovDrawn w) := by
  have H1 := Lib.hid (CodeIs.fresh (t := 132) hc ((Below.refl w.heap.size w).alloc (Nat.le_refl _) (.cells #[.slice none 0 0] 70)))
  obtain ⟨ad, n, cap, rfl, _, _⟩ := hc
  go_enter Tryz.func49, Tryz.ntmps49
  go_wp2_with fail
  refine (l8Draw w.heap.size (w.heap.size + 1) 0 _ (by decide) (by simpa using H1.out)).mono ?_
  rintro e w1 ⟨l, d, u, ud, rfl, hdl, hdd, hrl, hrd, hc⟩
  have HL := Lib.hid (LSt.start 70 26 hdd hrl hrd hc)
  have HDL := Lib.hid hdl
  obtain ⟨la, lc, rfl, _, _⟩ := hrl.now
  obtain ⟨da, dc, rfl, _, _⟩ := hrd.now
  have hl5 := hdl.len
  have hw2 : IntKind.i64.wrap ((l.length : Int) + 2) = (l.length : Int) + 2 := by rw [IntKind.wrap_i64]; omega
  clear hdl hdd hrl hrd hc H1
  obtain ⟨k0, k1, k2⟩ := HL.out.bs
  go_wp2_with fail
  refine (cur_pick w.heap.size (w.heap.size + 1) (0 + 20000) _ _ (by decide) (by omega) HL.out.cur).mono ?_
  rintro e w2 ⟨x, hx, rfl, hc⟩
  have HL2 := Lib.hid (HL.out.stand hc)
  clear hc hx HL k0 k1 k2
  have HS := Lib.hid (show w2.drew.cell? ⟨w1.heap.size, 0, none⟩ = some (.slice la l.length lc) from HL2.out.bs.1)
  have HL3 := Lib.hid (HL2.out.below (Below.refl w2.heap.size w2).drew)
  clear HL2
  go_upto_region 4 with fail
  refine wp_region_held_drew (S := fun v => v.cell? ⟨w1.heap.size, 0, none⟩ = some (.slice la l.length lc)) (by kernel_rfl) HS.out (fun hS0 => ?_)
  generalize w2.drew = v0 at *
  refine wpAnyH_take (i := 0) (v := .agg #[.slice la l.length lc]) rfl (by kernel_rfl) (by kernel_rfl) (by kernel_rfl) (fun _ _ _ h => h) (Or.inl ⟨by rfl, fun z hz => ?_⟩) hS0 ?_
  · obtain z1 := hz
    go_simp
  try simp only [qA, qB, Act.put, qD, qE, qF]
  refine wpAnyH_take (i := 1) (v := .int .i64 x) rfl (by kernel_rfl) (by kernel_rfl) (by kernel_rfl) (fun _ _ _ h => h) (Or.inl ⟨by rfl, fun z hz => ?_⟩) hS0 ?_
  · obtain z1 := hz
    go_simp
  try simp only [qA, qB, qC, Act.put, qD, qE, qF]
  refine wpAnyH_take (i := 2) (v := .pointer (some ⟨w.heap.size + 1, 0, none⟩)) rfl (by kernel_rfl) (by kernel_rfl) (by kernel_rfl) (fun _ _ _ h => h) (Or.inl ⟨by rfl, fun z hz => ?_⟩) hS0 ?_
  · obtain z1 := hz
    go_simp
  try simp only [qA, qB, qC, Act.put, qD, qE, qF]
  refine wpAnyH_take (i := 3) (v := .pointer (some ⟨w1.heap.size, 0, none⟩)) rfl (by kernel_rfl) (by kernel_rfl) (by kernel_rfl) (fun _ _ _ h => h) (Or.inl ⟨by rfl, fun z hz => ?_⟩) hS0 ?_
  · obtain z1 := hz
    go_simp
  try simp only [qA, qB, qC, Act.put, qD, qE, qF]
  refine wpAnyH_take (i := 4) (v := .slice la l.length lc) rfl (by kernel_rfl) (by kernel_rfl) (by kernel_rfl) (fun _ _ _ h => h) (Or.inl ⟨by rfl, fun z hz => ?_⟩) hS0 ?_
  · obtain z1 := hz
    go_simp
  try simp only [qA, qB, qC, Act.put, qD, qE, qF]
  refine wpAnyH_take (i := 5) (v := .int .i64 (l.length : Int)) rfl (by kernel_rfl) (by kernel_rfl) (by kernel_rfl) (fun _ _ _ h => h) (Or.inl ⟨by rfl, fun z hz => ?_⟩) hS0 ?_
  · obtain z1 := hz
    go_simp
  try simp only [qA, qB, qC, Act.put, qD, qE, qF]
  refine wpAnyH_take (i := 6) (v := .int .i64 ((l.length : Int) + 2)) rfl (by kernel_rfl) (by kernel_rfl) (by kernel_rfl) (fun _ _ _ h => h) (Or.inl ⟨by rfl, fun z hz => ?_⟩) hS0 ?_
  · obtain z1 := hz
    go_simp
  try simp only [qA, qB, qC, Act.put, qD, qE, qF]
  refine wpAnyH_ready (rs := [7]) (by kernel_rfl) (by simp) ?_
  refine AllReadyH.cons rfl (fun K hK => ?_) AllReadyH.nil
  go_simp
  refine (cur_pick w.heap.size (w.heap.size + 1) (0 + 20000 + 2) _ _ (by decide) (by omega) HL3.out.cur).mono ?_
  rintro e v1 ⟨y, hy, rfl, hc⟩
  have HL4 := Lib.hid (HL3.out.stand hc)
  refine hK.out _ _ HL4.out.bs.1 (fun hS1 => ?_)
  clear hK K hc HL3
  have hy1 : (y : Int) ≤ (l.length : Int) + 2 := by omega
  have hw3 : IntKind.i64.wrap ((y : Int) - 1) = (y : Int) - 1 := by rw [IntKind.wrap_i64]; omega
  clear hy
  try simp only [qA, qB, qC, Act.put, qD, qE, qF]
  refine wpAnyH_take (i := 8) (v := .int .i64 ((y : Int) - 1)) rfl (by kernel_rfl) (by kernel_rfl) (by kernel_rfl) (fun _ _ _ h => h) (Or.inl ⟨by rfl, fun z hz => ?_⟩) hS1 ?_
  · obtain z1 := hz
    go_simp
  try simp only [qA, qB, qC, Act.put, qD, qE, qF]
  refine wpAnyH_ready (rs := [9]) (by kernel_rfl) (by simp) ?_
  refine AllReadyH.cons rfl (fun K hK => ?_) AllReadyH.nil
  obtain ⟨k0, k1, k2⟩ := HL4.out.r0
  have hw1 : Chg (fun b => b = w.heap.size) v1 (v1.setCell ⟨w.heap.size, 0, none⟩ (.slice la l.length lc)) := (Chg.refl (fun b => b = w.heap.size) v1).setCell (p := ⟨w.heap.size, 0, none⟩) rfl _
  have HW := Lib.hid hw1
  have hlow := HL4.out.low
  have HB2 := Lib.hid (HL4.out.bs.stand hw1 (by omega))
  go_simp
  refine hK.out _ _ HB2.out.1 (fun hS2 => ?_)
  clear hK K hw1
  try simp only [qA, qB, qC, Act.put, qD, qE, qF]
  refine wpAnyH_ready (rs := [10]) (by kernel_rfl) (by simp) ?_
  refine AllReadyH.cons rfl (fun K hK => ?_) AllReadyH.nil
  go_simp
  refine hK.out _ _ HB2.out.1 (fun hS3 => ?_)
  clear hK K
  try simp only [qA, qB, qC, Act.put, qD, qE, qF]
  refine wpAnyH_ready (rs := [11]) (by kernel_rfl) (by simp) ?_
  refine AllReadyH.cons rfl (fun K hK => ?_) AllReadyH.nil
  go_simp
  refine hK.out _ _ HB2.out.1 (fun hS4 => ?_)
  clear hK K
  try simp only [qA, qB, qC, Act.put, qD, qE, qF]
  refine wpAnyH_done (by kernel_rfl) ?_ _
  clear hS0 hS1 hS2 hS3 hS4
  go_wp2
  refine bodyPost_ret (v := .tuple #[.agg #[.slice la l.length lc], .int .i64 x, .int .i64 ((y : Int) - 1)]) (by simp [results, Tryz.results49, go_sem, k0]) rfl ⟨l, _, _, _, rfl, HDL.out, (HL4.out.ls.chg HW.out (fun b h1 h2 e => by omega)).now, HL4.out.bel.setCell (Nat.le_refl _) _⟩
def SetDrawn (w : World) (e : Ending) (w' : World) : Prop := ∃ (l : P.Lays) (u : Value) (i : Int) (b : Bool), e = .returned (.tuple #[.agg #[u], .int .i64 i, .bool b]) ∧ DrawnL l ∧ LayR w' u l ∧ Below w.heap.size w w'
theorem drawSetEnabled (cv : Value) (w : World) (hc : CodeIs w cv) :
    Calls Tryz.prog 53 #[cv] w (SetDrawn w) := by
  have H1 := Lib.hid (CodeIs.fresh (t := 132) hc ((Below.refl w.heap.size w).alloc (Nat.le_refl _) (.cells #[.slice none 0 0] 70)))
  obtain ⟨ad, n, cap, rfl, _, _⟩ := hc
  go_enter Tryz.func53, Tryz.ntmps53
  go_wp2_with fail
  refine (l8Draw w.heap.size (w.heap.size + 1) 0 _ (by decide) (by simpa using H1.out)).mono ?_
  rintro e w1 ⟨l, d, u, ud, rfl, hdl, hdd, hrl, hrd, hc⟩
  have HL := Lib.hid (LSt.start 70 26 hdd hrl hrd hc)
  have HDL := Lib.hid hdl
  obtain ⟨la, lc, rfl, _, _⟩ := hrl.now
  obtain ⟨da, dc, rfl, _, _⟩ := hrd.now
  have hl5 := hdl.len
  have hw2 : IntKind.i64.wrap ((l.length : Int) + 2) = (l.length : Int) + 2 := by rw [IntKind.wrap_i64]; omega
  clear hdl hdd hrl hrd hc H1
  go_upto_region 3 with fail
  have HL3 := Lib.hid (HL.out.below (Below.refl _ _).drew)
  generalize hw2 : (w1.alloc (.cells #[.slice la l.length lc] 70)).alloc (.cells #[.slice da d.length dc] 26) = w2 at *
  have HS := Lib.hid (show w2.drew.cell? ⟨w1.heap.size, 0, none⟩ = some (.slice la l.length lc) from HL3.out.bs.1)
  clear HL hw2
  refine wp_region_held_drew (S := fun v => v.cell? ⟨w1.heap.size, 0, none⟩ = some (.slice la l.length lc)) (by kernel_rfl) HS.out (fun hS0 => ?_)
  generalize w2.drew = v0 at *
  refine wpAnyH_take (i := 0) (v := .agg #[.slice la l.length lc]) rfl (by kernel_rfl) (by kernel_rfl) (by kernel_rfl) (fun _ _ _ h => h) (Or.inl ⟨by rfl, fun z hz => ?_⟩) hS0 ?_
  · obtain z1 := hz
    go_simp
  try simp only [qA, qB, Act.put, qD, qE, qF]
  refine wpAnyH_take (i := 1) (v := .pointer (some ⟨w.heap.size + 1, 0, none⟩)) rfl (by kernel_rfl) (by kernel_rfl) (by kernel_rfl) (fun _ _ _ h => h) (Or.inl ⟨by rfl, fun z hz => ?_⟩) hS0 ?_
  · obtain z1 := hz
    go_simp
  try simp only [qA, qB, qC, Act.put, qD, qE, qF]
  refine wpAnyH_take (i := 2) (v := .pointer (some ⟨w1.heap.size, 0, none⟩)) rfl (by kernel_rfl) (by kernel_rfl) (by kernel_rfl) (fun _ _ _ h => h) (Or.inl ⟨by rfl, fun z hz => ?_⟩) hS0 ?_
  · obtain z1 := hz
    go_simp
  try simp only [qA, qB, qC, Act.put, qD, qE, qF]
  refine wpAnyH_take (i := 3) (v := .slice la l.length lc) rfl (by kernel_rfl) (by kernel_rfl) (by kernel_rfl) (fun _ _ _ h => h) (Or.inl ⟨by rfl, fun z hz => ?_⟩) hS0 ?_
  · obtain z1 := hz
    go_simp
  try simp only [qA, qB, qC, Act.put, qD, qE, qF]
  refine wpAnyH_take (i := 4) (v := .int .i64 (l.length : Int)) rfl (by kernel_rfl) (by kernel_rfl) (by kernel_rfl) (fun _ _ _ h => h) (Or.inl ⟨by rfl, fun z hz => ?_⟩) hS0 ?_
  · obtain z1 := hz
    go_simp
  try simp only [qA, qB, qC, Act.put, qD, qE, qF]
  refine wpAnyH_take (i := 5) (v := .int .i64 ((l.length : Int) + 2)) rfl (by kernel_rfl) (by kernel_rfl) (by kernel_rfl) (fun _ _ _ h => h) (Or.inl ⟨by rfl, fun z hz => ?_⟩) hS0 ?_
  · obtain z1 := hz
    go_simp
  try simp only [qA, qB, qC, Act.put, qD, qE, qF]
  refine wpAnyH_take (i := 8) (v := .pointer (some ⟨w.heap.size + 1, 0, none⟩)) rfl (by kernel_rfl) (by kernel_rfl) (by kernel_rfl) (fun _ _ _ h => h) (Or.inl ⟨by rfl, fun z hz => ?_⟩) hS0 ?_
  · obtain z1 := hz
    go_simp
  try simp only [qA, qB, qC, Act.put, qD, qE, qF]
  refine wpAnyH_ready (rs := [6]) (by kernel_rfl) (by simp) ?_
  refine AllReadyH.cons rfl (fun K hK => ?_) AllReadyH.nil
  go_simp
  refine (cur_pick w.heap.size (w.heap.size + 1) (0 + 20000) _ _ (by decide) (by omega) HL3.out.cur).mono ?_
  rintro e v1 ⟨y, hy, rfl, hc⟩
  have HL4 := Lib.hid (HL3.out.stand hc)
  refine hK.out _ _ HL4.out.bs.1 (fun hS1 => ?_)
  clear hK K hc HL3
  have hy1 : (y : Int) ≤ (l.length : Int) + 2 := by omega
  have hw3 : IntKind.i64.wrap ((y : Int) - 1) = (y : Int) - 1 := by rw [IntKind.wrap_i64]; omega
  clear hy
  try simp only [qA, qB, qC, Act.put, qD, qE, qF]
  refine wpAnyH_take (i := 7) (v := .int .i64 ((y : Int) - 1)) rfl (by kernel_rfl) (by kernel_rfl) (by kernel_rfl) (fun _ _ _ h => h) (Or.inl ⟨by rfl, fun z hz => ?_⟩) hS1 ?_
  · obtain z1 := hz
    go_simp
  try simp only [qA, qB, qC, Act.put, qD, qE, qF]
  refine wpAnyH_ready (rs := [9]) (by kernel_rfl) (by simp) ?_
  refine AllReadyH.cons rfl (fun K hK => ?_) AllReadyH.nil
  go_simp
  refine (cur_one w.heap.size (w.heap.size + 1) (0 + 20000 + 2) 2 _ (by decide) (by decide) HL4.out.cur).mono ?_
  rintro e v2 ⟨b, rfl, hc⟩
  have HL5 := Lib.hid (HL4.out.stand hc)
  refine hK.out _ _ HL5.out.bs.1 (fun hS2 => ?_)
  clear hK K hc HL4
  try simp only [qA, qB, qC, Act.put, qD, qE, qF]
  refine wpAnyH_ready (rs := [10]) (by kernel_rfl) (by simp) ?_
  refine AllReadyH.cons rfl (fun K hK => ?_) AllReadyH.nil
  obtain ⟨k0, k1, k2⟩ := HL5.out.r0
  have hw1 : Chg (fun b => b = w.heap.size) v2 (v2.setCell ⟨w.heap.size, 0, none⟩ (.slice la l.length lc)) := (Chg.refl (fun b => b = w.heap.size) v2).setCell (p := ⟨w.heap.size, 0, none⟩) rfl _
  have HW := Lib.hid hw1
  have hlow := HL5.out.low
  have HB2 := Lib.hid (HL5.out.bs.stand hw1 (by omega))
  go_simp
  refine hK.out _ _ HB2.out.1 (fun hS3 => ?_)
  clear hK K hw1
  try simp only [qA, qB, qC, Act.put, qD, qE, qF]
  refine wpAnyH_ready (rs := [11]) (by kernel_rfl) (by simp) ?_
  refine AllReadyH.cons rfl (fun K hK => ?_) AllReadyH.nil
  go_simp
  refine hK.out _ _ HB2.out.1 (fun hS4 => ?_)
  clear hK K
  try simp only [qA, qB, qC, Act.put, qD, qE, qF]
  refine wpAnyH_ready (rs := [12]) (by kernel_rfl) (by simp) ?_
  refine AllReadyH.cons rfl (fun K hK => ?_) AllReadyH.nil
  go_simp
  refine hK.out _ _ HB2.out.1 (fun hS5 => ?_)
  clear hK K
  try simp only [qA, qB, qC, Act.put, qD, qE, qF]
  refine wpAnyH_done (by kernel_rfl) ?_ _
  clear hS0 hS1 hS2 hS3 hS4 hS5
  go_wp2
  refine bodyPost_ret (v := .tuple #[.agg #[.slice la l.length lc], .int .i64 ((y : Int) - 1), .bool b]) (by simp [results, Tryz.results53, go_sem, k0]) rfl ⟨l, _, _, _, rfl, HDL.out, (HL5.out.ls.chg HW.out (fun b h1 h2 e => by omega)).now, HL5.out.bel.setCell (Nat.le_refl _) _⟩
end Go.Proofs.YtngbkdlicknmhaaGreatDoor
