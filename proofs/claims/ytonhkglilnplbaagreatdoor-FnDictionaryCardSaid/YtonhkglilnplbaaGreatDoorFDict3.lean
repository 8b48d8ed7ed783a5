/- Walks: a dictionary with an entry, drawn from bytes. -/
import Derived.Test.YtonhkglilnplbaaGreatDoorFDict2
set_option linter.all false
namespace Go.Proofs.YtonhkglilnplbaaGreatDoor
open Go Go.RowKit
set_option maxHeartbeats 4000000
set_option maxRecDepth 100000
/-- a box of an entry -/
def EnBx (b : Nat) (x : Value) (t : Str) (v : World) : Prop := v.cell? ⟨b, 0, none⟩ = some x ∧ v.cell? ⟨b, 1, none⟩ = some (.string (S t)) ∧ v.frozen? ⟨b, 0, none⟩ = false ∧ v.frozen? ⟨b, 1, none⟩ = false ∧ b < v.heap.size
theorem EnBx.stand {b : Nat} {x : Value} {t : Str} {v v' : World} {X : Blk} (h : EnBx b x t v) (hc : Chg X v v') (hX : ¬ X b) : EnBx b x t v' := by
  obtain ⟨h1, h2, h3, h4, h5⟩ := h
  exact ⟨(hc.cell (p := ⟨b, 0, none⟩) h5 hX).trans h1, (hc.cell (p := ⟨b, 1, none⟩) h5 hX).trans h2, (hc.frozen (p := ⟨b, 0, none⟩) h5 hX).trans h3, (hc.frozen (p := ⟨b, 1, none⟩) h5 hX).trans h4, Nat.lt_of_lt_of_le h5 hc.size⟩
theorem EnBx.below {b : Nat} {x : Value} {t : Str} {v v' : World} (h : EnBx b x t v) (hb : Below v.heap.size v v') : EnBx b x t v' := h.stand (Below.chg hb fun _ => False) fun h => h
theorem EnBx.new (x : Value) (t : Str) (T : TypeId) (v : World) : EnBx v.heap.size x t (v.alloc (.cells #[x, .string (S t)] T)) := by
  refine ⟨?_, ?_, ?_, ?_, ?_⟩ <;> go_simp
theorem EnBx.text {b : Nat} {x : Value} {t t' : Str} {v : World} (h : EnBx b x t v) : EnBx b x t' (v.setCell ⟨b, 1, none⟩ (.string (S t'))) := by
  obtain ⟨h1, h2, h3, h4, h5⟩ := h
  refine ⟨?_, World.cell?_setCell_same _ _ _ h2, by simpa using h3, by simpa using h4, by simpa [World.setCell] using h5⟩
  go_simp
/-- how the draw stands -/
structure IRun (K D : Nat) (w : World) (u : Value) (l : P.Dic) (v : World) : Prop where
  low : w.heap.size + 3 ≤ D
  rd : ReadE (w.heap.size + 3) D v u l
  dr : Drawn l
  r0 : DBx w.heap.size (.slice none 0 0) v
  r1 : EnBx (w.heap.size + 1) (.slice none 0 0) [] v
  bx : DBx D u v
  cur : IsCur w.heap.size (w.heap.size + 2) K v
  bel : Below w.heap.size w v
theorem IRun.below {K D : Nat} {w v v' : World} {u : Value} {l : P.Dic} (h : IRun K D w u l v) (hb : Below v.heap.size v v') : IRun K D w u l v' := by
  obtain ⟨h0, h1, h2, h3, h4, h5, h6, h7⟩ := h
  exact ⟨h0, h1.chg (Below.chg hb (fun _ => False)) (fun _ _ _ h => h), h2, h3.below hb, h4.below hb, h5.below hb, h6.below hb, h7.trans (hb.mono h7.size)⟩
theorem IRun.stand {K K' D : Nat} {w v v' : World} {u : Value} {l : P.Dic} (h : IRun K D w u l v) (hc : CurPost w.heap.size (w.heap.size + 2) K' v v') : IRun K' D w u l v' := by
  obtain ⟨h0, h1, h2, h3, h4, h5, h6, h7⟩ := h
  exact ⟨h0, h1.chg hc.2 (fun b h1 h2 e => by omega), h2, h3.stand hc.2 (by omega), h4.stand hc.2 (by omega), h5.stand hc.2 (by omega), hc.1, h7.trans (hc.2.below h7.size (by rintro b rfl; omega))⟩
theorem IRun.other {K D X i : Nat} {w v : World} {u : Value} {l : P.Dic} (h : IRun K D w u l v) (hX : D < X) (y : Value) : IRun K D w u l (v.setCell ⟨X, i, none⟩ y) := by
  obtain ⟨h0, h1, h2, h3, h4, h5, h6, h7⟩ := h
  have hc : Chg (fun b => b = X) v (v.setCell ⟨X, i, none⟩ y) := (Chg.refl (fun b => b = X) v).setCell (p := ⟨X, i, none⟩) rfl _
  exact ⟨h0, h1.chg hc (fun b h1 h2 e => by omega), h2, h3.stand hc (by omega), h4.stand hc (by omega), h5.stand hc (by omega), h6.stand hc (fun b e => by subst e; omega), h7.trans (hc.below h7.size (by rintro b rfl; omega))⟩
def InsDrawn (w : World) (e : Ending) (w' : World) : Prop := ∃ (l : P.Dic) (o : List Int) (t : Str) (u ov : Value), e = .returned (.tuple #[.agg #[u], .agg #[ov, .string (S t)]]) ∧ Drawn l ∧ o.length ≤ 8 ∧ t.length ≤ 300 ∧ EntR w' u l ∧ IntR w' ov o ∧ Below w.heap.size w w'
theorem drawInsert (cv : Value) (w : World) (hc : CodeIs w cv) :
    Calls Tryz.prog 49 #[cv] w (InsDrawn w) := by
  have hba0 : Below w.heap.size w ((w.alloc (.cells #[.slice none 0 0] 32)).alloc (.cells #[.slice none 0 0, .string (S [])] 36)) := ((Below.refl _ _).alloc (Nat.le_refl _) _).alloc (by simp) _
  have H1 := Lib.hid (CodeIs.fresh (t := 127) hc hba0)
  have hbc : Below ((w.alloc (.cells #[.slice none 0 0] 32)).alloc (.cells #[.slice none 0 0, .string (S [])] 36)).heap.size ((w.alloc (.cells #[.slice none 0 0] 32)).alloc (.cells #[.slice none 0 0, .string (S [])] 36)) (((w.alloc (.cells #[.slice none 0 0] 32)).alloc (.cells #[.slice none 0 0, .string (S [])] 36)).alloc (.cells #[cv, .int .i64 0, .int .u64 0] 127)) := (Below.refl _ _).alloc (Nat.le_refl _) _
  have HB0 := Lib.hid (hba0.trans (hbc.mono (by simp; omega)))
  have HR0 := Lib.hid (((DBx.new (.slice none 0 0) 32 w).below ((Below.refl _ _).alloc (Nat.le_refl _) (.cells #[.slice none 0 0, .string (S [])] 36))).below hbc)
  have HR1 := Lib.hid (show EnBx (w.heap.size + 1) (.slice none 0 0) [] (((w.alloc (.cells #[.slice none 0 0] 32)).alloc (.cells #[.slice none 0 0, .string (S [])] 36)).alloc (.cells #[cv, .int .i64 0, .int .u64 0] 127)) by
    have h := (EnBx.new (.slice none 0 0) [] 36 (w.alloc (.cells #[.slice none 0 0] 32))).below hbc; simpa using h)
  obtain ⟨ad, n, cap, rfl, _, _⟩ := hc
  clear hba0 hbc
  go_enter Tryz.func49, Tryz.ntmps49
  go_wp2_with fail
  refine (cur_anyDictionary w.heap.size (w.heap.size + 2) 0 _ (by decide) (by simpa using H1.out)).mono ?_
  rintro e w1 ⟨l, u, rfl, hd, hr, hc⟩
  have hz1 : w.heap.size + 3 ≤ w1.heap.size := by have := hc.2.size; simp at this; omega
  have hba := (Below.refl w1.heap.size w1).alloc (Nat.le_refl _) (.cells #[u] 32)
  have HI := Lib.hid (show IRun 2000 w1.heap.size w u l (w1.alloc (.cells #[u] 32)) from
    ⟨hz1, ReadE.chg (by have h := hr; simp at h; exact h) (Below.chg hba (fun _ => False)) (fun _ _ _ h => h), hd, (HR0.out.stand hc.2 (by omega)).below hba, (HR1.out.stand hc.2 (by omega)).below hba, DBx.new _ _ _, hc.1.below hba, (HB0.out.trans (hc.2.below (B := w.heap.size) (by simp; omega) (by rintro b rfl; omega))).trans (hba.mono (by omega))⟩)
  obtain ⟨ua, uc, rfl, _, _⟩ := hr.now
  clear hd hr hc H1 HB0 HR0 HR1 hba
  obtain ⟨x0, _⟩ := HI.out.bx
  go_wp2_with fail
  refine (cur_known w.heap.size (w.heap.size + 2) 2000 (w.heap.size + 3) w1.heap.size _ l _ (by decide) HI.out.cur HI.out.rd (by omega) HI.out.dr).mono ?_
  rintro e w2 ⟨o, ov, rfl, hol, hO, hc⟩
  have HI2 := Lib.hid (HI.out.stand hc)
  have hz2 : w1.heap.size < (w1.alloc (.cells #[.slice ua l.length uc] 32)).heap.size := by simp
  have HO := Lib.hid hO
  have HZ2 := Lib.hid hz2
  clear hc HI x0 hO hz2
  go_wp2_with fail
  refine (cur_translation w.heap.size (w.heap.size + 2) 2200 _ (by decide) (by simpa using HI2.out.cur)).mono ?_
  rintro e w3 ⟨t, rfl, ht, hc⟩
  have hba := (Below.refl w3.heap.size w3).alloc (Nat.le_refl _) (.cells #[ov, .string (S t)] 36)
  have hz3 : w2.heap.size ≤ w3.heap.size := hc.2.size
  have HI3 := Lib.hid ((HI2.out.stand hc).below hba)
  have hDE : w1.heap.size < w3.heap.size := by have := HI2.out.bx.2.2; omega
  have HO3 := Lib.hid ((HO.out.stand intE_ok hc.2 (fun b hb e => by have h1 := hb.1; have h2 := HZ2.out; omega)).below intE_ok hba)
  have HE := Lib.hid (EnBx.new ov t 36 w3)
  obtain ⟨oa, oc, rfl, _, _⟩ := id HO.out
  clear hc HI2 HO hba
  go_wp2_with fail
  refine (cur_one w.heap.size (w.heap.size + 2) 2230 16 _ (by decide) (by decide) HI3.out.cur).mono ?_
  rintro e w4 ⟨b, rfl, hc⟩
  have HI4 := Lib.hid (HI3.out.stand hc)
  have HO4 := Lib.hid (HO3.out.stand intE_ok hc.2 (fun b hb e => by have h1 := hb.1; have h2 := HZ2.out; omega))
  have HE4 := Lib.hid (HE.out.stand hc.2 (by omega))
  have hz4 : w2.heap.size ≤ w4.heap.size := by have := hc.2.size; simp at this; omega
  clear hc HI3 HO3 HE
  go_upto_if 19 with fail
  go_cut [] (fun wx => ∃ t : Str, t.length ≤ 300 ∧ IRun 2232 w1.heap.size w (.slice ua l.length uc) l wx ∧ Ints wx (Bet (w1.heap.size + 1) w2.heap.size) (.slice oa o.length oc) o ∧ EnBx w3.heap.size (.slice oa o.length oc) t wx)
  case first =>
    cases b
    · go_wp2
      go_meet
      refine ⟨t, ht, HI4.out, ?_, HE4.out⟩
      have h := HO4.out; simp at h; exact h
    · have HE5 := Lib.hid (HE4.out.text (t' := [123])); have HI5 := Lib.hid (HI4.out.other (X := w3.heap.size) (i := 1) hDE (.string (S [123])))
      have HO5 := Lib.hid (HO4.out.stand intE_ok ((Chg.refl (fun b => b = w3.heap.size) w4).setCell (p := ⟨w3.heap.size, 1, none⟩) rfl (.string (S [123]))) (fun b hb e => by have h1 := hb.2; omega))
      obtain ⟨e0, e1, e2, e3, e4⟩ := HE4.out
      go_wp2
      go_meet
      refine ⟨[123], by decide, HI5.out, ?_, HE5.out⟩
      have h := HO5.out; simp at h; exact h
  case rest =>
    clear HI4 HO4 HE4
    obtain ⟨t', ht', hi, ho, he⟩ := hcut
    have HI5 := Lib.hid hi; have HO5 := Lib.hid ho
    obtain ⟨e0, e1, e2, e3, e4⟩ := he
    obtain ⟨x0, x1, x2⟩ := hi.bx
    obtain ⟨k0, k1, k2⟩ := hi.r0
    obtain ⟨q0, q1, q2, q3, q4⟩ := hi.r1
    clear hi ho
    go_wp2
    go_region
    have hc : Chg (fun b => b = w.heap.size ∨ b = w.heap.size + 1) wc (((wc.setCell ⟨w.heap.size, 0, none⟩ (.slice ua l.length uc)).setCell ⟨w.heap.size + 1, 0, none⟩ (.slice oa o.length oc)).setCell ⟨w.heap.size + 1, 1, none⟩ (.string (S t'))).drew := ((((Chg.refl _ wc).setCell (p := ⟨w.heap.size, 0, none⟩) (.inl rfl) _).setCell (p := ⟨w.heap.size + 1, 0, none⟩) (.inr rfl) _).setCell (p := ⟨w.heap.size + 1, 1, none⟩) (.inr rfl) _).drew
    have HC := Lib.hid hc
    clear hc
    go_wp2
    refine bodyPost_ret (v := .tuple #[.agg #[.slice ua l.length uc], .agg #[.slice oa o.length oc, .string (S t')]]) (by simp [results, Tryz.results49, go_sem, k0, q0, q1]) rfl ⟨l, o, t', _, _, rfl, HI5.out.dr, hol, ht', (HI5.out.rd.chg HC.out (fun b h1 h2 e => by omega)).now, ?_, HI5.out.bel.trans (HC.out.below HI5.out.bel.size (by rintro b (rfl | rfl) <;> omega))⟩
    exact Ints.read (HO5.out.stand intE_ok HC.out (fun b hb e => by have h1 := hb.1; omega))
end Go.Proofs.YtonhkglilnplbaaGreatDoor
