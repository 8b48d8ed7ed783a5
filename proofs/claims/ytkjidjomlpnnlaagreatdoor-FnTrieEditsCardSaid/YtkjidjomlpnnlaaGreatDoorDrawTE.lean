/- Walks: the draws of a trie and an entry, of a trie and an outline. -/
import Derived.Deep.DeepCutAuto
import Derived.RegionTactic
import Derived.BigRegion
import Derived.Test.YtkjidjomlpnnlaaGreatDoorDrawS
import Derived.Test.YtkjidjomlpnnlaaGreatDoorFDict3
namespace Go.Proofs.YtkjidjomlpnnlaaGreatDoor
open Go Go.RowKit
set_option maxHeartbeats 4000000
set_option maxRecDepth 100000
/-- how the draw stands: the trie in block S -/
structure ITn (K S : Nat) (w : World) (u : Value) (t : P.Tri) (v : World) : Prop where
  low : w.heap.size + 3 ≤ S
  ls : ReadT (w.heap.size + 3) S v u t
  r0 : DBx w.heap.size (.slice none 0 0) v
  r1 : EnBx (w.heap.size + 1) (.slice none 0 0) [] v
  bs : DBx S u v
  cur : IsCur w.heap.size (w.heap.size + 2) K v
  bel : Below w.heap.size w v
theorem ITn.below {K S : Nat} {w v v' : World} {u : Value} {t : P.Tri} (h : ITn K S w u t v) (hb : Below v.heap.size v v') : ITn K S w u t v' := by
  obtain ⟨h0, h1, h3, h4, h5, h6, h7⟩ := h
  exact ⟨h0, h1.chg (Below.chg hb (fun _ => False)) (fun _ _ _ h => h), h3.below hb, h4.below hb, h5.below hb, h6.below hb, h7.trans (hb.mono h7.size)⟩
theorem ITn.stand {K K' S : Nat} {w v v' : World} {u : Value} {t : P.Tri} (h : ITn K S w u t v) (hc : CurPost w.heap.size (w.heap.size + 2) K' v v') : ITn K' S w u t v' := by
  obtain ⟨h0, h1, h3, h4, h5, h6, h7⟩ := h
  exact ⟨h0, h1.chg hc.2 (fun b h1 h2 e => by omega), h3.stand hc.2 (by omega), h4.stand hc.2 (by omega), h5.stand hc.2 (by omega), hc.1, h7.trans (hc.2.below h7.size (by rintro b rfl; omega))⟩
theorem ITn.other {K S X i : Nat} {w v : World} {u : Value} {t : P.Tri} (h : ITn K S w u t v) (hX : S < X) (y : Value) : ITn K S w u t (v.setCell ⟨X, i, none⟩ y) := by
  obtain ⟨h0, h1, h3, h4, h5, h6, h7⟩ := h
  have hc : Chg (fun b => b = X) v (v.setCell ⟨X, i, none⟩ y) := (Chg.refl (fun b => b = X) v).setCell (p := ⟨X, i, none⟩) rfl _
  exact ⟨h0, h1.chg hc (fun b h1 h2 e => by omega), h3.stand hc (by omega), h4.stand hc (by omega), h5.stand hc (by omega), h6.stand hc (fun b e => by subst e; omega), h7.trans (hc.below h7.size (by rintro b rfl; omega))⟩
theorem ITn.mono {K K' S : Nat} {w v : World} {u : Value} {t : P.Tri} (h : ITn K S w u t v) (hK : K ≤ K') : ITn K' S w u t v := { h with cur := h.cur.mono hK }
def InsTDrawn (w : World) (e : Ending) (w' : World) : Prop := ∃ (t : P.Tri) (o : List Int) (tx : Str) (u ov : Value), e = .returned (.tuple #[.agg #[u], .agg #[ov, .string (S tx)]]) ∧ P.DrawnT t ∧ o.length ≤ 8 ∧ tx.length ≤ 300 ∧ NodR w' u t ∧ IntR w' ov o ∧ Below w.heap.size w w'
theorem drawInsertTrie (cv : Value) (w : World) (hc : CodeIs w cv) :
    Calls Tryz.prog 48 #[cv] w (InsTDrawn w) := by
  have hba0 : Below w.heap.size w ((w.alloc (.cells #[.slice none 0 0] 86)).alloc (.cells #[.slice none 0 0, .string (S [])] 38)) := ((Below.refl _ _).alloc (Nat.le_refl _) _).alloc (by simp) _
  have H1 := Lib.hid (CodeIs.fresh (t := 120) hc hba0)
  have hbc : Below ((w.alloc (.cells #[.slice none 0 0] 86)).alloc (.cells #[.slice none 0 0, .string (S [])] 38)).heap.size ((w.alloc (.cells #[.slice none 0 0] 86)).alloc (.cells #[.slice none 0 0, .string (S [])] 38)) (((w.alloc (.cells #[.slice none 0 0] 86)).alloc (.cells #[.slice none 0 0, .string (S [])] 38)).alloc (.cells #[cv, .int .i64 0, .int .u64 0] 120)) := (Below.refl _ _).alloc (Nat.le_refl _) _
  have HB0 := Lib.hid (hba0.trans (hbc.mono (by simp; omega)))
  have HR0 := Lib.hid (((DBx.new (.slice none 0 0) 86 w).below ((Below.refl _ _).alloc (Nat.le_refl _) (.cells #[.slice none 0 0, .string (S [])] 38))).below hbc)
  have HR1 := Lib.hid (show EnBx (w.heap.size + 1) (.slice none 0 0) [] (((w.alloc (.cells #[.slice none 0 0] 86)).alloc (.cells #[.slice none 0 0, .string (S [])] 38)).alloc (.cells #[cv, .int .i64 0, .int .u64 0] 120)) by
    have h := (EnBx.new (.slice none 0 0) [] 38 (w.alloc (.cells #[.slice none 0 0] 86))).below hbc; simpa using h)
  obtain ⟨ad, n, cap, rfl, _, _⟩ := hc
  clear hba0 hbc
  go_enter Tryz.func48, Tryz.ntmps48
  go_wp2_with fail
  refine (l7Draw w.heap.size (w.heap.size + 2) 0 _ (by decide) (by simpa using H1.out)).mono ?_
  rintro e w1 ⟨t, u, l, ud, rfl, hdt, hdl, hrt, hrd, hc⟩
  have hz1 : w.heap.size + 3 ≤ w1.heap.size := by have := hc.2.size; simp at this; omega
  have hba : Below w1.heap.size w1 ((w1.alloc (.cells #[u] 86)).alloc (.cells #[ud] 26)) := ((Below.refl _ _).alloc (Nat.le_refl _) _).alloc (by simp) _
  have hbb : Below (w1.alloc (.cells #[u] 86)).heap.size (w1.alloc (.cells #[u] 86)) ((w1.alloc (.cells #[u] 86)).alloc (.cells #[ud] 26)) := (Below.refl _ _).alloc (Nat.le_refl _) _
  have HI := Lib.hid (show ITn 1200 w1.heap.size w u t ((w1.alloc (.cells #[u] 86)).alloc (.cells #[ud] 26)) from
    ⟨hz1, ReadT.chg (by have h := hrt; simp at h; exact h) (Below.chg hba (fun _ => False)) (fun _ _ _ h => h), (HR0.out.stand hc.2 (by omega)).below hba, (HR1.out.stand hc.2 (by omega)).below hba, (DBx.new _ _ _).below hbb, hc.1.below hba, (HB0.out.trans (hc.2.below (B := w.heap.size) (by simp; omega) (by rintro b rfl; omega))).trans (hba.mono (by omega))⟩)
  have HDT := Lib.hid hdt
  obtain ⟨ua, uc, rfl, _, _⟩ := hrt.now
  obtain ⟨da, dc, rfl, _, _⟩ := hrd.now
  clear hdt hdl hrt hrd hc H1 HB0 HR0 HR1 hba hbb
  go_wp2_with fail
  refine (cur_entry w.heap.size (w.heap.size + 2) 1200 _ (by decide) HI.out.cur).mono ?_
  rintro e w2 ⟨o, tx, x, rfl, ho, htx, hO, hc⟩
  have hz2 : w1.heap.size + 2 ≤ w2.heap.size := by have := hc.2.size; simp at this; omega
  have hba := (Below.refl w2.heap.size w2).alloc (Nat.le_refl _) (.cells #[x, .string (S tx)] 38)
  have HI2 := Lib.hid ((HI.out.stand hc).below hba)
  have HO := Lib.hid (show Ints (w2.alloc (.cells #[x, .string (S tx)] 38)) (Bet (w1.heap.size + 2) w2.heap.size) x o from (hO.below intE_ok hba).wide (fun b hb => ⟨by have h := hb.1; simp at h; omega, hb.2⟩) (fun b hb => by have h := hb.2; simp; omega))
  have HE := Lib.hid (EnBx.new x tx 38 w2)
  obtain ⟨oa, oc, rfl, _, _⟩ := id hO
  clear hc HI hO hba
  go_wp2_with fail
  refine (cur_one w.heap.size (w.heap.size + 2) 1300 12 _ (by decide) (by decide) HI2.out.cur).mono ?_
  rintro e w4 ⟨b, rfl, hc⟩
  have HI4 := Lib.hid (HI2.out.stand hc)
  have HO4 := Lib.hid (HO.out.stand intE_ok hc.2 (fun b hb e => by have h1 := hb.1; omega))
  have HE4 := Lib.hid (HE.out.stand hc.2 (by omega))
  have hz4 : w2.heap.size < w4.heap.size := by have := hc.2.size; simp at this; omega
  clear hc HI2 HO HE
  go_upto_if 19 with fail
  go_cut [] (fun wx => ∃ t' : Str, t'.length ≤ 300 ∧ ITn 1304 w1.heap.size w (.slice ua t.length uc) t wx ∧ Ints wx (Bet (w1.heap.size + 2) w2.heap.size) (.slice oa o.length oc) o ∧ EnBx w2.heap.size (.slice oa o.length oc) t' wx)
  case first =>
    cases b
    · go_wp2
      go_meet
      exact ⟨tx, htx, HI4.out.mono (by omega), HO4.out, HE4.out⟩
    · have hbl : Below w4.heap.size w4 (w4.alloc (.cells #[.string (S []), .string (S [123, 94])] 9)) := (Below.refl _ _).alloc (Nat.le_refl _) _
      have HL := Lib.hid (lit_strs [[], [123, 94]] w4 9)
      have HI5 := Lib.hid (HI4.out.below hbl); have HO5 := Lib.hid (HO4.out.below intE_ok hbl); have HE5 := Lib.hid (HE4.out.below hbl)
      clear hbl HI4 HO4 HE4
      go_wp2_with fail
      refine (cur_of w.heap.size (w.heap.size + 2) 1302 w4.heap.size 2 [[], [123, 94]] _ (by decide) (by decide) (by decide) (by simp) (by omega) HL.out HI5.out.cur).mono ?_
      rintro e w5 ⟨s, hs, rfl, hc⟩
      have HSL := Lib.hid (show s.length ≤ 300 from Nat.le_trans ((by decide : ∀ s ∈ ([[], [123, 94]] : List Str), s.length ≤ 4) s hs) (by decide))
      have HI6 := Lib.hid (HI5.out.stand hc)
      have HO6 := Lib.hid (HO5.out.stand intE_ok hc.2 (fun b hb e => by have h1 := hb.1; omega))
      have HE6 := Lib.hid (HE5.out.stand hc.2 (by omega))
      clear hc hs HI5 HO5 HE5 HL
      have HE7 := Lib.hid (HE6.out.text (t' := s)); have HI7 := Lib.hid (HI6.out.other (X := w2.heap.size) (i := 1) (by omega) (.string (S s)))
      have HO7 := Lib.hid (HO6.out.stand intE_ok ((Chg.refl (fun b => b = w2.heap.size) w5).setCell (p := ⟨w2.heap.size, 1, none⟩) rfl (.string (S s))) (fun b hb e => by have h1 := hb.2; omega))
      obtain ⟨e0, e1, e2, e3, e4⟩ := HE6.out
      go_wp2
      go_meet
      exact ⟨s, HSL.out, HI7.out.mono (by omega), HO7.out, HE7.out⟩
  case rest =>
    clear HI4 HO4 HE4
    obtain ⟨t', ht', hi, ho2, he⟩ := hcut
    have HI5 := Lib.hid hi; have HO5 := Lib.hid ho2
    obtain ⟨e0, e1, e2, e3, e4⟩ := he
    obtain ⟨x0, x1, x2⟩ := hi.bs
    obtain ⟨k0, k1, k2⟩ := hi.r0
    obtain ⟨q0, q1, q2, q3, q4⟩ := hi.r1
    clear hi ho2
    go_wp2
    go_region
    have hc : Chg (fun b => b = w.heap.size ∨ b = w.heap.size + 1) wc (((wc.setCell ⟨w.heap.size, 0, none⟩ (.slice ua t.length uc)).setCell ⟨w.heap.size + 1, 0, none⟩ (.slice oa o.length oc)).setCell ⟨w.heap.size + 1, 1, none⟩ (.string (S t'))).drew := ((((Chg.refl _ wc).setCell (p := ⟨w.heap.size, 0, none⟩) (.inl rfl) _).setCell (p := ⟨w.heap.size + 1, 0, none⟩) (.inr rfl) _).setCell (p := ⟨w.heap.size + 1, 1, none⟩) (.inr rfl) _).drew
    have HC := Lib.hid hc
    clear hc
    go_wp2
    refine bodyPost_ret (v := .tuple #[.agg #[.slice ua t.length uc], .agg #[.slice oa o.length oc, .string (S t')]]) (by simp [results, Tryz.results48, go_sem, k0, q0, q1]) rfl ⟨t, o, t', _, _, rfl, HDT.out, by omega, ht', (HI5.out.ls.chg HC.out (fun b h1 h2 e => by omega)).now, ?_, HI5.out.bel.trans (HC.out.below HI5.out.bel.size (by rintro b (rfl | rfl) <;> omega))⟩
    exact Ints.read (HO5.out.stand intE_ok HC.out (fun b hb e => by have h1 := hb.1; omega))
theorem drawDeleteTrie (cv : Value) (w : World) (hc : CodeIs w cv) :
    Calls Tryz.prog 55 #[cv] w (StrDrawn w) := by
  have hba := (Below.refl w.heap.size w).alloc (Nat.le_refl _) (.cells #[.slice none 0 0] 86)
  have HC := Lib.hid (CodeIs.on hc hba)
  have HB0 := Lib.hid hba; have HX := Lib.hid (DBx.new (.slice none 0 0) 86 w)
  obtain ⟨ad, n, cap, rfl, _, _⟩ := hc
  clear hba
  go_enter Tryz.func55, Tryz.ntmps55
  go_wp2_with fail
  refine (drawLookupTrie _ _ HC.out).mono ?_
  rintro e w1 ⟨t, o, u, ov, rfl, hdt, ho, hu, hov, hb⟩
  have HDT := Lib.hid hdt; have HO := Lib.hid ho; have HU := Lib.hid hu; have HV := Lib.hid hov; have HB := Lib.hid (HB0.out.trans (hb.mono HB0.out.size)); have HX1 := Lib.hid (HX.out.below hb)
  obtain ⟨ta, tc, rfl, _, _⟩ := hu.now
  obtain ⟨oa, oc, rfl, _, _⟩ := id hov
  clear hdt ho hb hu hov HX
  obtain ⟨k0, k1, k2⟩ := HX1.out
  go_wp2
  refine bodyPost_ret (v := .tuple #[.agg #[.slice ta t.length tc], .slice oa o.length oc]) (by simp [results, Tryz.results55, go_sem, k0]) rfl ⟨t, o, _, _, rfl, HDT.out, HO.out, ?_⟩
  have hset : Chg (fun b => b = w.heap.size) w1 (w1.setCell ⟨w.heap.size, 0, none⟩ (.slice ta t.length tc)) := (Chg.refl (fun b => b = w.heap.size) w1).setCell (p := ⟨w.heap.size, 0, none⟩) rfl _
  have hzs : (w1.setCell ⟨w.heap.size, 0, none⟩ (.slice ta t.length tc)).heap.size = w1.heap.size := by simp [World.setCell]
  have hz0 : (w.alloc (.cells #[.slice none 0 0] 86)).heap.size = w.heap.size + 1 := by simp
  refine ⟨(HU.out.chg hset (fun b h1 _ e => by omega)).wide (by omega) (by rw [hzs]; exact Nat.le_refl _) (Nat.le_refl _), (HV.out.stand intE_ok hset (fun b hb e => by have := hb.1; omega)).wide (fun b hb => ⟨by have := hb.1; omega, by rw [hzs]; exact hb.2⟩) (fun b hb => hb.2), HB.out.setCell (Nat.le_refl _) _⟩
end Go.Proofs.YtkjidjomlpnnlaaGreatDoor
