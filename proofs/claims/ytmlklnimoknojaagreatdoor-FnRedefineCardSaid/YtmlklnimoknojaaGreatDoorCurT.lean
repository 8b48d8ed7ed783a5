/- Walks: the reference's drawing of a translator. -/
import Derived.Test.YtmlklnimoknojaaGreatDoorLayB
import Derived.Test.YtmlklnimoknojaaGreatDoorTool3
namespace Go.Proofs.YtmlklnimoknojaaGreatDoor
open Go Go.RowKit
set_option maxHeartbeats 4000000
set_option maxRecDepth 100000
structure TrSt (w : World) (B C K b4 b5 : Nat) (ud us : Value) (l : P.Dic) (st : List Int) (sc : Str) (v : World) : Prop where
  d : DBx b4 ud v
  t : TBx b5 us sc v
  r2 : NBx w.heap.size v
  r3 : TBx (w.heap.size + 1) (.slice none 0 0) [] v
  rd : ReadE (w.heap.size + 2) b4 v ud l
  row : OwnK (b4 + 1) v us st
  ap : us.ownBlock ≠ some b5
  cur : CurPost B C K w v
theorem TrSt.chg {w : World} {B C K K' b4 b5 : Nat} {ud us : Value} {l : P.Dic} {st : List Int} {sc : Str} {v v' : World} {X : Blk} (h : TrSt w B C K b4 b5 ud us l st sc v) (hc : Chg X v v')
    (hX : ∀ b, X b → b ≠ b4 ∧ b ≠ b5 ∧ b ≠ w.heap.size ∧ b ≠ w.heap.size + 1 ∧ (b < w.heap.size + 2 ∨ b4 ≤ b) ∧ us.ownBlock ≠ some b) (hk : CurPost B C K' w v') : TrSt w B C K' b4 b5 ud us l st sc v' :=
  ⟨h.d.stand hc (fun e => (hX _ e).1 rfl), h.t.stand hc (fun e => (hX _ e).2.1 rfl), h.r2.stand hc (fun e => (hX _ e).2.2.1 rfl), h.r3.stand hc (fun e => (hX _ e).2.2.2.1 rfl), h.rd.chg hc (fun b h1 h2 e => by have := (hX b e).2.2.2.2.1; omega), owns_stand h.row hc (fun k hk e => (hX k e).2.2.2.2.2 hk), h.ap, hk⟩
theorem TrSt.curs {w : World} {B C K K' b4 b5 : Nat} {ud us : Value} {l : P.Dic} {st : List Int} {sc : Str} {v v' : World} (h : TrSt w B C K b4 b5 ud us l st sc v) (h4 : w.heap.size ≤ b4) (h5 : b4 < b5) (hC : C < w.heap.size) (hc : CurPost B C K' v v') : TrSt w B C K' b4 b5 ud us l st sc v' :=
  h.chg hc.2 (fun b e => ⟨by omega, by omega, by omega, by omega, .inl (by omega), fun e2 => by have := (World.ownsRow.lt h.row b e2).1; omega⟩) (h.cur.trans hc)
theorem TrSt.below {w : World} {B C K b4 b5 : Nat} {ud us : Value} {l : P.Dic} {st : List Int} {sc : Str} {v v' : World} (h : TrSt w B C K b4 b5 ud us l st sc v) (hb : Below v.heap.size v v') : TrSt w B C K b4 b5 ud us l st sc v' :=
  h.chg (X := fun _ => False) (Below.chg hb _) (fun _ h => h.elim) (h.cur.below hb)
theorem TrSt.text {w : World} {B C K b4 b5 : Nat} {ud us : Value} {l : P.Dic} {st : List Int} {sc : Str} {v : World} (h : TrSt w B C K b4 b5 ud us l st sc v) (h4 : w.heap.size + 2 ≤ b4) (h5 : b4 < b5) (hC : C < w.heap.size) (hB : B ≤ w.heap.size) (r : Str) : TrSt w B C K b4 b5 ud us l st r (v.setCell ⟨b5, 1, none⟩ (.string (S r))) := by
  have hset : Chg (fun k => k = b5) v (v.setCell ⟨b5, 1, none⟩ (.string (S r))) := (Chg.refl (fun k => k = b5) v).setCell (p := ⟨b5, 1, none⟩) rfl _
  obtain ⟨q1, q2, q3, q4, q5⟩ := h.t
  exact ⟨h.d.stand hset (by omega), ⟨by simpa [World.setCell] using q1, by go_simp, by go_simp, by go_simp, by go_simp⟩, h.r2.stand hset (by omega), h.r3.stand hset (by omega), h.rd.chg hset (fun b h1 h2 e => by omega), owns_stand h.row hset (fun k hk e => h.ap (by rw [hk, e])), h.ap, h.cur.new hset (fun b e => by omega) hC hB⟩
theorem TrSt.push {w : World} {B C K b4 b5 : Nat} {ud us : Value} {l : P.Dic} {st : List Int} {sc : Str} {v z : World} (h : TrSt w B C K b4 b5 ud us l st sc v) (h4 : w.heap.size + 2 ≤ b4) (h5 : b4 < b5) (hC : C < w.heap.size) (hB : B ≤ w.heap.size) {x : Int} {g cap : Nat} {o : Obj}
    (hown : z.ownsRow (b4 + 1) 3 1 (.slice (some ⟨g, 0, none⟩) (st.length + 1) cap) (st.length + 1) (ints st ++ [.int .i64 x])) (hgr : (v.alloc o).grownBy z us.ownBlock) (hat : us.ownBlock = some g ∨ g = (v.alloc o).heap.size) :
    TrSt w B C K b4 b5 ud (.slice (some ⟨g, 0, none⟩) (st.length + 1) cap) l (st ++ [x]) sc (z.setCell ⟨b5, 0, none⟩ (.slice (some ⟨g, 0, none⟩) (st.length + 1) cap)) := by
  have h1 := h.below ((Below.refl _ _).alloc (Nat.le_refl _) o)
  have hc := chg_grown hgr
  have hlo : ∀ k, us.ownBlock = some k → b4 + 1 ≤ k := fun k hk => (World.ownsRow.lt h.row k hk).1
  have hgb : g ≠ b5 := by
    rintro rfl
    rcases hat with e | e
    · exact h.ap e
    · have e2 : (v.alloc o).heap.size = v.heap.size + 1 := by simp
      have := h.t.1
      omega
  have hset : Chg (fun k => k = b5) z (z.setCell ⟨b5, 0, none⟩ (.slice (some ⟨g, 0, none⟩) (st.length + 1) cap)) := (Chg.refl (fun k => k = b5) z).setCell (p := ⟨b5, 0, none⟩) rfl _
  have e : OwnK (b4 + 1) z (.slice (some ⟨g, 0, none⟩) (st.length + 1) cap) (st ++ [x]) := by
    unfold OwnK
    rw [List.length_append]
    simpa [ints] using hown
  obtain ⟨q1, q2, q3, q4, q5⟩ := h1.t.stand hc (fun e => h.ap e)
  refine ⟨(h1.d.stand hc (fun e => by have := hlo _ e; omega)).stand hset (by omega), ⟨by simpa [World.setCell] using q1, by go_simp, by go_simp, by go_simp, by go_simp⟩, (h1.r2.stand hc (fun e => by have := hlo _ e; omega)).stand hset (by omega), (h1.r3.stand hc (fun e => by have := hlo _ e; omega)).stand hset (by omega), (h1.rd.chg hc (fun b p1 p2 e => by have := hlo b e; omega)).chg hset (fun b p1 p2 e => by omega), owns_stand e hset (fun k hk e2 => hgb (by injection hk with hk; subst e2; exact hk)), (fun e2 => by injection e2 with e2; exact hgb e2), ?_⟩
  exact (h1.cur.new hc (fun b e => by have := hlo b e; omega) hC hB).new hset (fun b e => by omega) hC hB
def TrDrawn (B C K : Nat) (w : World) (e : Ending) (w' : World) : Prop :=
  ∃ (l : P.Dic) (u : Value) (st : List Int) (us : Value) (sc : Str), e = .returned (.tuple #[.agg #[u], transV us sc]) ∧ Drawn l ∧ ReadE w.heap.size w'.heap.size w' u l ∧ OwnK w.heap.size w' us st ∧ st.length ≤ 70 ∧ sc.length ≤ 2001 ∧ CurPost B C K w w'
theorem cur_translator (B C N : Nat) (w : World) (hN : N < 2 ^ 30) (h : IsCur B C N w) :
    Calls Tryz.prog 63 #[.pointer (some ⟨C, 0, none⟩)] w (TrDrawn B C (N + 5000) w) := by
  obtain ⟨i0, hi', hy0, hy1, hy2⟩ := info_parts info_int
  have hlt := h.lt
  have hb0 : Below w.heap.size w ((w.alloc (.cells #[.slice none 0 0] 26)).alloc (.cells #[.slice none 0 0, .string (S [])] 32)) := ((Below.refl w.heap.size w).alloc (Nat.le_refl _) _).alloc (by simp) _
  have HC0 := Lib.hid ((CurPost.refl h (Nat.le_refl N)).below hb0)
  have HR2 := Lib.hid (show NBx w.heap.size ((w.alloc (.cells #[.slice none 0 0] 26)).alloc (.cells #[.slice none 0 0, .string (S [])] 32)) from ⟨by go_simp, by go_simp, by simp <;> omega⟩)
  have HR3 := Lib.hid (show TBx (w.heap.size + 1) (.slice none 0 0) [] ((w.alloc (.cells #[.slice none 0 0] 26)).alloc (.cells #[.slice none 0 0, .string (S [])] 32)) from ⟨by simp, by go_simp, by go_simp, by go_simp, by go_simp⟩)
  have hz0 : w.heap.size + 2 ≤ ((w.alloc (.cells #[.slice none 0 0] 26)).alloc (.cells #[.slice none 0 0, .string (S [])] 32)).heap.size := by simp
  have hz0' : ((w.alloc (.cells #[.slice none 0 0] 26)).alloc (.cells #[.slice none 0 0, .string (S [])] 32)).heap.size ≤ w.heap.size + 2 := by simp
  clear h hb0
  go_enter Tryz.func63, Tryz.ntmps63
  go_upto_region 1 with fail
  generalize ((w.alloc (.cells #[.slice none 0 0] 26)).alloc (.cells #[.slice none 0 0, .string (S [])] 32)) = W0 at *
  go_wp2_with fail
  refine (cur_anyDictionary B C N _ (by omega) HC0.out.1).mono ?_
  rintro e w1 ⟨l, ud, rfl, hdr, hrd, hc⟩
  have HDR := Lib.hid hdr
  obtain ⟨ad, cap, rfl, _, _⟩ := hrd.now
  have hz1 : W0.heap.size ≤ w1.heap.size := hc.2.size
  have HR2 := Lib.hid (HR2.out.stand hc.2 (by omega)); have HR3 := Lib.hid (HR3.out.stand hc.2 (by omega))
  have HC1 := Lib.hid (HC0.out.trans hc)
  have hba := (Below.refl w1.heap.size w1).alloc (Nat.le_refl _) (.cells #[.slice ad l.length cap] 26)
  have HR2 := Lib.hid (HR2.out.below hba); have HR3 := Lib.hid (HR3.out.below hba); have HC1 := Lib.hid (HC1.out.below hba)
  have HRD := Lib.hid (show ReadE (w.heap.size + 2) w1.heap.size (w1.alloc (.cells #[.slice ad l.length cap] 26)) (.slice ad l.length cap) l from
    ((hrd.chg (Below.chg hba (fun _ => False)) (fun _ _ _ h => h)).wide (by omega) (Nat.le_refl _) (by simp)))
  have HD4 := Lib.hid (DBx.new (.slice ad l.length cap) 26 w1)
  clear hba hc hdr hrd HC0
  go_upto_region 2 with fail
  have hv1 : w1.heap.size < (w1.alloc (.cells #[.slice ad l.length cap] 26)).heap.size := by simp
  have hv1' : (w1.alloc (.cells #[.slice ad l.length cap] 26)).heap.size ≤ w1.heap.size + 1 := by simp
  generalize w1.alloc (.cells #[.slice ad l.length cap] 26) = v1 at *
  generalize w1.heap.size = b4 at *
  obtain ⟨k0, _⟩ := HD4.out
  go_wp2_with fail
  refine (cur_strokes B C (N + 2000) (w.heap.size + 2) b4 _ l _ (by omega) HC1.out.1 HRD.out (by omega) HDR.out).mono ?_
  rintro e w2 ⟨st, us, rfl, hst, hrow, hc⟩
  obtain ⟨ua, uc, rfl⟩ : ∃ a c, us = .slice a st.length c := ownK_form hrow
  have hz2 : v1.heap.size ≤ w2.heap.size := hc.2.size
  have HT2 := Lib.hid (show TrSt w B C (N + 2100) b4 w2.heap.size (.slice ad l.length cap) (.slice ua st.length uc) l st [] (w2.alloc (.cells #[.slice ua st.length uc, .string (S [])] 32)) by
    have hba := (Below.refl w2.heap.size w2).alloc (Nat.le_refl _) (.cells #[.slice ua st.length uc, .string (S [])] 32)
    have hX : ∀ k : Nat, k ≠ C → ¬ (fun b => b = C) k := fun k h e => h e
    exact ⟨(HD4.out.stand hc.2 (hX _ (by omega))).below hba, TBx.new _ _ _, (HR2.out.stand hc.2 (hX _ (by omega))).below hba, (HR3.out.stand hc.2 (hX _ (by omega))).below hba, (HRD.out.chg hc.2 (fun b h1 h2 e => by omega)).chg (Below.chg hba (fun _ => False)) (fun _ _ _ h => h), own_base (own_kept hrow hba (Nat.le_refl _)) (by omega), (fun e => by have := (World.ownsRow.lt hrow _ e).2; omega), (HC1.out.trans hc).below hba⟩)
  clear hc hrow HR2 HR3 HC1 HRD HD4 k0
  go_upto_region 3 with fail
  generalize w2.alloc (.cells #[.slice ua st.length uc, .string (S [])] 32) = v2 at *
  generalize w2.heap.size = b5 at *
  obtain ⟨k0, _⟩ := HT2.out.d
  obtain ⟨_, k1, k2, _⟩ := HT2.out.t
  go_wp2_with fail
  refine (spec_screenOf _ _ l st _ HT2.out.rd.now (ownK_read HT2.out.row (by omega)) HDR.out.small).mono ?_
  rintro e w3 ⟨rfl, hb⟩
  have hsl := P.scr_len l st
  obtain ⟨sx, hsx⟩ : ∃ sx, P.scr l st = sx := ⟨_, rfl⟩
  rw [hsx] at hsl ⊢
  clear hsx
  obtain ⟨s1, f1⟩ := sx
  simp only at hsl ⊢
  have HT3 := Lib.hid (HT2.out.below hb)
  clear hb HT2 k0 k1 k2
  obtain ⟨q1, q2, q3, q4, q5⟩ := HT3.out.t
  have HT4 := Lib.hid (HT3.out.text (by omega) (by omega) hlt.2 (by omega) s1)
  have hz3 : b5 < (w3.setCell ⟨b5, 1, none⟩ (.string (S s1))).heap.size := HT4.out.t.1
  clear HT3
  go_upto_region 4 with fail
  generalize w3.setCell ⟨b5, 1, none⟩ (.string (S s1)) = v3 at *
  clear q1 q2 q3 q4 q5
  go_wp2_with fail
  refine (cur_pick B C (N + 2100) 24 _ (by omega) (by decide) HT4.out.cur.1).mono ?_
  rintro e w4 ⟨p, hp, rfl, hc⟩
  have HT5 := Lib.hid (HT4.out.curs (by omega) (by omega) hlt.2 hc)
  clear hc hp HT4
  have hzq : w.heap.size + 2 ≤ w4.heap.size := by have := HT5.out.t.1; omega
  by_cases p0 : p = 0
  · subst p0
    obtain ⟨q1, q2, q3, q4, q5⟩ := HT5.out.t
    have HT6 := Lib.hid (HT5.out.text (by omega) (by omega) hlt.2 (by omega) (s1 ++ [120]))
    clear HT5
    go_upto_region 13 with fail
    generalize w4.setCell ⟨b5, 1, none⟩ (.string (S (s1 ++ [120]))) = v5 at *
    clear q1 q2 q3 q4 q5
    have hzq : w.heap.size + 2 ≤ v5.heap.size := by have := HT6.out.t.1; omega
    have HF := Lib.hid (HT6.out.chg (X := fun _ => False) (Below.chg (Below.refl _ _).drew _) (fun _ h => h.elim) (HT6.out.cur.drew))
    have HZ9 := Lib.hid (show w.heap.size + 2 ≤ v5.drew.heap.size from hzq)
    clear HT6
    go_upto_region 13 with fail
    refine wp_region_held_drew (S := fun v => DBx b4 (.slice ad l.length cap) v ∧ TBx b5 (.slice ua st.length uc) (s1 ++ [120]) v) (by kernel_rfl) ⟨HF.out.d, HF.out.t⟩ (fun hS0 => ?_)
    generalize v5.drew = v9 at *
    refine wpAnyH_take (i := 0) (v := .agg #[.slice ad l.length cap]) rfl (by kernel_rfl) (by kernel_rfl) (by kernel_rfl) (fun _ _ _ h => h) (Or.inl ⟨by rfl, fun z hz => ?_⟩) hS0 ?_
    · obtain ⟨⟨z1, z2, z3⟩, z4, z5, z6, z7, z8⟩ := hz
      go_simp
    try simp only [qA, qB, Act.put, qD, qE, qF]
    refine wpAnyH_take (i := 1) (v := .agg #[.slice ua st.length uc, .string (S (s1 ++ [120]))]) rfl (by kernel_rfl) (by kernel_rfl) (by kernel_rfl) (fun _ _ _ h => h) (Or.inl ⟨by rfl, fun z hz => ?_⟩) hS0 ?_
    · obtain ⟨⟨z1, z2, z3⟩, z4, z5, z6, z7, z8⟩ := hz
      go_simp
    try simp only [qA, qB, qC, Act.put, qD, qE, qF]
    obtain ⟨r0, r1, r2⟩ := HF.out.r2
    obtain ⟨r3, r4, r5, r6, r7⟩ := HF.out.r3
    have hc1 : Chg (fun k => k = w.heap.size ∨ k = w.heap.size + 1) v9 (v9.setCell ⟨w.heap.size, 0, none⟩ (.slice ad l.length cap)) := (Chg.refl _ v9).setCell (p := ⟨w.heap.size, 0, none⟩) (.inl rfl) _
    have hc2 : Chg (fun k => k = w.heap.size ∨ k = w.heap.size + 1) v9 (((v9.setCell ⟨w.heap.size, 0, none⟩ (.slice ad l.length cap)).setCell ⟨w.heap.size + 1, 0, none⟩ (.slice ua st.length uc)).setCell ⟨w.heap.size + 1, 1, none⟩ (.string (S (s1 ++ [120])))) := (hc1.setCell (p := ⟨w.heap.size + 1, 0, none⟩) (.inr rfl) _).setCell (p := ⟨w.heap.size + 1, 1, none⟩) (.inr rfl) _
    have e0 : (((v9.setCell ⟨w.heap.size, 0, none⟩ (.slice ad l.length cap)).setCell ⟨w.heap.size + 1, 0, none⟩ (.slice ua st.length uc)).setCell ⟨w.heap.size + 1, 1, none⟩ (.string (S (s1 ++ [120])))).cell? ⟨w.heap.size, 0, none⟩ = some (.slice ad l.length cap) := by go_simp
    have e1 : (((v9.setCell ⟨w.heap.size, 0, none⟩ (.slice ad l.length cap)).setCell ⟨w.heap.size + 1, 0, none⟩ (.slice ua st.length uc)).setCell ⟨w.heap.size + 1, 1, none⟩ (.string (S (s1 ++ [120])))).cell? ⟨w.heap.size + 1, 0, none⟩ = some (.slice ua st.length uc) := by go_simp
    have e2 : (((v9.setCell ⟨w.heap.size, 0, none⟩ (.slice ad l.length cap)).setCell ⟨w.heap.size + 1, 0, none⟩ (.slice ua st.length uc)).setCell ⟨w.heap.size + 1, 1, none⟩ (.string (S (s1 ++ [120])))).cell? ⟨w.heap.size + 1, 1, none⟩ = some (.string (S (s1 ++ [120]))) := by go_simp
    have f3 : (v9.setCell ⟨w.heap.size, 0, none⟩ (.slice ad l.length cap)).cell? ⟨w.heap.size + 1, 0, none⟩ = some (.slice none 0 0) := by go_simp
    have f4 : (v9.setCell ⟨w.heap.size, 0, none⟩ (.slice ad l.length cap)).cell? ⟨w.heap.size + 1, 1, none⟩ = some (.string (S [])) := by go_simp
    have f5 : (v9.setCell ⟨w.heap.size, 0, none⟩ (.slice ad l.length cap)).frozen? ⟨w.heap.size + 1, 0, none⟩ = false := by go_simp
    have f6 : (v9.setCell ⟨w.heap.size, 0, none⟩ (.slice ad l.length cap)).frozen? ⟨w.heap.size + 1, 1, none⟩ = false := by go_simp
    refine wpAnyH_ready (rs := [2]) (by kernel_rfl) (by simp) ?_
    refine AllReadyH.cons rfl (fun K hK => ?_) AllReadyH.nil
    go_simp
    refine hK.out _ _ ⟨hS0.1.stand hc1 (by omega), hS0.2.stand hc1 (by omega)⟩ (fun hS1 => ?_)
    clear hK K
    try simp only [qA, qB, qC, Act.put, qD, qE, qF]
    refine wpAnyH_ready (rs := [3]) (by kernel_rfl) (by simp) ?_
    refine AllReadyH.cons rfl (fun K hK => ?_) AllReadyH.nil
    go_simp
    refine hK.out _ _ ⟨hS0.1.stand hc2 (by omega), hS0.2.stand hc2 (by omega)⟩ (fun hS2 => ?_)
    clear hK K
    try simp only [qA, qB, qC, Act.put, qD, qE, qF]
    refine wpAnyH_done (by kernel_rfl) ?_ _
    have HRD := Lib.hid (show ReadE w.heap.size (((v9.setCell ⟨w.heap.size, 0, none⟩ (.slice ad l.length cap)).setCell ⟨w.heap.size + 1, 0, none⟩ (.slice ua st.length uc)).setCell ⟨w.heap.size + 1, 1, none⟩ (.string (S (s1 ++ [120])))).heap.size (((v9.setCell ⟨w.heap.size, 0, none⟩ (.slice ad l.length cap)).setCell ⟨w.heap.size + 1, 0, none⟩ (.slice ua st.length uc)).setCell ⟨w.heap.size + 1, 1, none⟩ (.string (S (s1 ++ [120])))) (.slice ad l.length cap) l from (HF.out.rd.chg hc2 (fun b h1 h2 h3 => by omega)).wide (by omega) (by have h3 := hc2.size; have h4 := HF.out.d.2.2; omega) (Nat.le_refl _))
    have HRW := Lib.hid (show OwnK w.heap.size (((v9.setCell ⟨w.heap.size, 0, none⟩ (.slice ad l.length cap)).setCell ⟨w.heap.size + 1, 0, none⟩ (.slice ua st.length uc)).setCell ⟨w.heap.size + 1, 1, none⟩ (.string (S (s1 ++ [120])))) (.slice ua st.length uc) (st) from own_base (owns_stand HF.out.row hc2 (fun k hk h3 => by have h4 := (World.ownsRow.lt HF.out.row k hk).1; omega)) (by omega))
    have HCR := Lib.hid (show CurPost B C (N + 5000) w (((v9.setCell ⟨w.heap.size, 0, none⟩ (.slice ad l.length cap)).setCell ⟨w.heap.size + 1, 0, none⟩ (.slice ua st.length uc)).setCell ⟨w.heap.size + 1, 1, none⟩ (.string (S (s1 ++ [120])))) from (HF.out.cur.new hc2 (fun b h3 => by omega) hlt.2 (by omega)).mono (by omega))
    clear hS0 hS1 hS2 r0 r1 r2 r3 r4 r5 r6 r7 f3 f4 f5 f6
    go_wp2
    refine bodyPost_ret (v := .tuple #[.agg #[.slice ad l.length cap], transV (.slice ua st.length uc) (s1 ++ [120])]) (by simp [transV, e0, e1, e2, results, Tryz.results63, go_sem]) rfl ⟨l, _, st, _, s1 ++ [120], rfl, HDR.out, HRD.out, HRW.out, (by omega), (by rw [List.length_append]; simp; omega), HCR.out⟩
  · have n0 : ¬ (p : Int) = 0 := by omega
    by_cases p1 : p = 1
    · subst p1
      have HF0 := Lib.hid (HT5.out.chg (X := fun _ => False) (Below.chg (Below.refl _ _).drew _) (fun _ h => h.elim) (HT5.out.cur.drew))
      clear HT5
      go_upto_region 8 with fail
      refine Left.region [8] (S := TBx b5 (.slice ua st.length uc) s1) (by kernel_rfl) HF0.out.t (fun hS0 => ?_)
      generalize w4.drew = v5 at *
      refine Left.take (i := 0) (v := .pointer (some ⟨b5, 0, none⟩)) rfl (by kernel_rfl) (by kernel_rfl) (by kernel_rfl) (by kernel_rfl) (fun _ _ _ h => h) (Or.inl ⟨by rfl, fun z hz => ?_⟩) hS0 ?_
      · obtain ⟨z1, z2, z3, z4, z5⟩ := hz
        go_simp
      try simp only [qA, qB, Act.put, qD, qE, qF]
      refine Left.take (i := 1) (v := .slice ua st.length uc) rfl (by kernel_rfl) (by kernel_rfl) (by kernel_rfl) (by kernel_rfl) (fun _ _ _ h => h) (Or.inl ⟨by rfl, fun z hz => ?_⟩) hS0 ?_
      · obtain ⟨z1, z2, z3, z4, z5⟩ := hz
        go_simp
      try simp only [qA, qB, qC, Act.put, qD, qE, qF]
      refine Left.take (i := 2) (v := .pointer (some ⟨C, 0, none⟩)) rfl (by kernel_rfl) (by kernel_rfl) (by kernel_rfl) (by kernel_rfl) (fun _ _ _ h => h) (Or.inl ⟨by rfl, fun z hz => ?_⟩) hS0 ?_
      · obtain ⟨z1, z2, z3, z4, z5⟩ := hz
        go_simp
      try simp only [qA, qB, qC, Act.put, qD, qE, qF]
      refine Left.ready (rs := [3]) (by kernel_rfl) (by simp) ?_
      refine Nexts.cons rfl (fun K hK => ?_) Nexts.nil
      go_simp
      have hba := (Below.refl v5.heap.size v5).alloc (Nat.le_refl _) (.cells #[.int .i64 1024, .int .i64 0, .int .i64 5] 3)
      have HL := Lib.hid (lit_ints [1024, 0, 5] v5 3)
      have HF1 := Lib.hid (HF0.out.below hba)
      have hb5s := HF0.out.d.2.2
      have hv6 : v5.heap.size < (v5.alloc (.cells #[.int .i64 1024, .int .i64 0, .int .i64 5] 3)).heap.size := by simp
      refine on_held hK (by decide) HF1.out.t (fun hS1 => ?_)
      clear hK K hba HF0 hS0
      try simp only [qA, qB, qC, Act.put, qD, qE, qF]
      refine Left.ready (rs := [4]) (by kernel_rfl) (by simp) ?_
      refine Nexts.cons rfl (fun K hK => ?_) Nexts.nil
      go_simp
      refine (cur_among B C (N + 2102) v5.heap.size 3 [1024, 0, 5] _ (by omega) (by decide) (by decide) hv6 (by omega) HL.out HF1.out.cur.1).mono ?_
      rintro e v7 ⟨x, hx, rfl, hc⟩
      have HF2 := Lib.hid (HF1.out.curs (by omega) (by omega) hlt.2 hc)
      refine on_held hK (by decide) HF2.out.t (fun hS2 => ?_)
      clear hK K hc hx hS1 HF1 HL
      try simp only [qA, qB, qC, Act.put, qD, qE, qF]
      refine Left.ready (rs := [5]) (by kernel_rfl) (by simp) ?_
      refine Nexts.cons rfl (fun K hK => ?_) Nexts.nil
      go_simp
      have hba := (Below.refl v7.heap.size v7).alloc (Nat.le_refl _) (.cells #[.int .i64 x] 3)
      have HF3 := Lib.hid (HF2.out.below hba)
      have hna : (v7.alloc (.cells #[.int .i64 x] 3)).cell? ⟨v7.heap.size, 0, none⟩ = some (.int .i64 x) := by go_simp
      refine on_held hK (by decide) HF3.out.t (fun hS3 => ?_)
      clear hK K hba hS2
      try simp only [qA, qB, qC, Act.put, qD, qE, qF]
      refine Left.ready (rs := [6]) (by kernel_rfl) (by simp) ?_
      refine Nexts.cons rfl (fun K hK => ?_) Nexts.nil
      refine step_append_lies _ rfl _ _ 27 rfl (b4 + 1) 3 i0 (.int .i64 0) 1 8 Tryz.underlying27 hi' hy0 hy1 hy2 rfl (by decide) (.slice ua st.length uc) st.length (ints st) rfl HF3.out.row ⟨v7.heap.size, 0, none⟩ 1 1 [.int .i64 x] rfl rfl ?_ ?_ (by decide) (by unfold maxLen; omega) (by omega) (by have := HF3.out.d.2.2; omega) _ rfl ?_
      · intro k y hy
        match k, hy with
        | 0, hy => injection hy with hy; subst hy; rw [add0]; exact hna
      · intro y hy
        simp only [List.mem_cons, List.not_mem_nil, or_false] at hy
        subst hy; rfl
      intro g3 cap3 z hown hgr hat hlt3
      have HPU := Lib.hid (HF2.out.push (by omega) (by omega) hlt.2 (by omega) hown hgr hat)
      obtain ⟨q1, q2, q3, q4, q5⟩ := HF3.out.t.stand (chg_grown hgr) (fun e => HF3.out.ap e)
      refine on_held hK (by decide) ⟨q1, q2, q3, q4, q5⟩ (fun hS4 => ?_)
      clear hK K hown hgr hat hS3 hna
      try simp only [qA, qB, qC, Act.put, qD, qE, qF]
      refine Left.take (i := 7) (v := .pointer (some ⟨b5, 0, none⟩)) rfl (by kernel_rfl) (by kernel_rfl) (by kernel_rfl) (by kernel_rfl) (fun _ _ _ h => h) (Or.inl ⟨by rfl, fun z hz => ?_⟩) hS4 ?_
      · obtain ⟨z1, z2, z3, z4, z5⟩ := hz
        go_simp
      try simp only [qA, qB, qC, Act.put, qD, qE, qF]
      refine Left.ready (rs := [8]) (by kernel_rfl) (by simp) ?_
      refine Nexts.cons rfl (fun K hK => ?_) Nexts.nil
      go_simp
      refine on_last hK (by decide) ?_
      clear hK K
      try simp only [qA, qB, qC, Act.put, qD, qE, qF]
      refine Left.done (by kernel_rfl) ?_ _
      clear hS4 HF2 HF3
      go_upto_region 13 with fail
      generalize z.setCell ⟨b5, 0, none⟩ (.slice (some ⟨g3, 0, none⟩) (st.length + 1) cap3) = v8 at *
      clear q1 q2 q3 q4 q5
      have hzq : w.heap.size + 2 ≤ v8.heap.size := by have := HPU.out.t.1; omega
      have HF := Lib.hid (HPU.out.chg (X := fun _ => False) (Below.chg (Below.refl _ _).drew _) (fun _ h => h.elim) (HPU.out.cur.drew))
      have HZ9 := Lib.hid (show w.heap.size + 2 ≤ v8.drew.heap.size from hzq)
      clear HPU
      go_upto_region 13 with fail
      refine wp_region_held_drew (S := fun v => DBx b4 (.slice ad l.length cap) v ∧ TBx b5 (.slice (some ⟨g3, 0, none⟩) (st.length + 1) cap3) (s1) v) (by kernel_rfl) ⟨HF.out.d, HF.out.t⟩ (fun hS0 => ?_)
      generalize v8.drew = v9 at *
      refine wpAnyH_take (i := 0) (v := .agg #[.slice ad l.length cap]) rfl (by kernel_rfl) (by kernel_rfl) (by kernel_rfl) (fun _ _ _ h => h) (Or.inl ⟨by rfl, fun z hz => ?_⟩) hS0 ?_
      · obtain ⟨⟨z1, z2, z3⟩, z4, z5, z6, z7, z8⟩ := hz
        go_simp
      try simp only [qA, qB, Act.put, qD, qE, qF]
      refine wpAnyH_take (i := 1) (v := .agg #[.slice (some ⟨g3, 0, none⟩) (st.length + 1) cap3, .string (S (s1))]) rfl (by kernel_rfl) (by kernel_rfl) (by kernel_rfl) (fun _ _ _ h => h) (Or.inl ⟨by rfl, fun z hz => ?_⟩) hS0 ?_
      · obtain ⟨⟨z1, z2, z3⟩, z4, z5, z6, z7, z8⟩ := hz
        go_simp
      try simp only [qA, qB, qC, Act.put, qD, qE, qF]
      obtain ⟨r0, r1, r2⟩ := HF.out.r2
      obtain ⟨r3, r4, r5, r6, r7⟩ := HF.out.r3
      have hc1 : Chg (fun k => k = w.heap.size ∨ k = w.heap.size + 1) v9 (v9.setCell ⟨w.heap.size, 0, none⟩ (.slice ad l.length cap)) := (Chg.refl _ v9).setCell (p := ⟨w.heap.size, 0, none⟩) (.inl rfl) _
      have hc2 : Chg (fun k => k = w.heap.size ∨ k = w.heap.size + 1) v9 (((v9.setCell ⟨w.heap.size, 0, none⟩ (.slice ad l.length cap)).setCell ⟨w.heap.size + 1, 0, none⟩ (.slice (some ⟨g3, 0, none⟩) (st.length + 1) cap3)).setCell ⟨w.heap.size + 1, 1, none⟩ (.string (S (s1)))) := (hc1.setCell (p := ⟨w.heap.size + 1, 0, none⟩) (.inr rfl) _).setCell (p := ⟨w.heap.size + 1, 1, none⟩) (.inr rfl) _
      have e0 : (((v9.setCell ⟨w.heap.size, 0, none⟩ (.slice ad l.length cap)).setCell ⟨w.heap.size + 1, 0, none⟩ (.slice (some ⟨g3, 0, none⟩) (st.length + 1) cap3)).setCell ⟨w.heap.size + 1, 1, none⟩ (.string (S (s1)))).cell? ⟨w.heap.size, 0, none⟩ = some (.slice ad l.length cap) := by go_simp
      have e1 : (((v9.setCell ⟨w.heap.size, 0, none⟩ (.slice ad l.length cap)).setCell ⟨w.heap.size + 1, 0, none⟩ (.slice (some ⟨g3, 0, none⟩) (st.length + 1) cap3)).setCell ⟨w.heap.size + 1, 1, none⟩ (.string (S (s1)))).cell? ⟨w.heap.size + 1, 0, none⟩ = some (.slice (some ⟨g3, 0, none⟩) (st.length + 1) cap3) := by go_simp
      have e2 : (((v9.setCell ⟨w.heap.size, 0, none⟩ (.slice ad l.length cap)).setCell ⟨w.heap.size + 1, 0, none⟩ (.slice (some ⟨g3, 0, none⟩) (st.length + 1) cap3)).setCell ⟨w.heap.size + 1, 1, none⟩ (.string (S (s1)))).cell? ⟨w.heap.size + 1, 1, none⟩ = some (.string (S (s1))) := by go_simp
      have f3 : (v9.setCell ⟨w.heap.size, 0, none⟩ (.slice ad l.length cap)).cell? ⟨w.heap.size + 1, 0, none⟩ = some (.slice none 0 0) := by go_simp
      have f4 : (v9.setCell ⟨w.heap.size, 0, none⟩ (.slice ad l.length cap)).cell? ⟨w.heap.size + 1, 1, none⟩ = some (.string (S [])) := by go_simp
      have f5 : (v9.setCell ⟨w.heap.size, 0, none⟩ (.slice ad l.length cap)).frozen? ⟨w.heap.size + 1, 0, none⟩ = false := by go_simp
      have f6 : (v9.setCell ⟨w.heap.size, 0, none⟩ (.slice ad l.length cap)).frozen? ⟨w.heap.size + 1, 1, none⟩ = false := by go_simp
      refine wpAnyH_ready (rs := [2]) (by kernel_rfl) (by simp) ?_
      refine AllReadyH.cons rfl (fun K hK => ?_) AllReadyH.nil
      go_simp
      refine hK.out _ _ ⟨hS0.1.stand hc1 (by omega), hS0.2.stand hc1 (by omega)⟩ (fun hS1 => ?_)
      clear hK K
      try simp only [qA, qB, qC, Act.put, qD, qE, qF]
      refine wpAnyH_ready (rs := [3]) (by kernel_rfl) (by simp) ?_
      refine AllReadyH.cons rfl (fun K hK => ?_) AllReadyH.nil
      go_simp
      refine hK.out _ _ ⟨hS0.1.stand hc2 (by omega), hS0.2.stand hc2 (by omega)⟩ (fun hS2 => ?_)
      clear hK K
      try simp only [qA, qB, qC, Act.put, qD, qE, qF]
      refine wpAnyH_done (by kernel_rfl) ?_ _
      have HRD := Lib.hid (show ReadE w.heap.size (((v9.setCell ⟨w.heap.size, 0, none⟩ (.slice ad l.length cap)).setCell ⟨w.heap.size + 1, 0, none⟩ (.slice (some ⟨g3, 0, none⟩) (st.length + 1) cap3)).setCell ⟨w.heap.size + 1, 1, none⟩ (.string (S (s1)))).heap.size (((v9.setCell ⟨w.heap.size, 0, none⟩ (.slice ad l.length cap)).setCell ⟨w.heap.size + 1, 0, none⟩ (.slice (some ⟨g3, 0, none⟩) (st.length + 1) cap3)).setCell ⟨w.heap.size + 1, 1, none⟩ (.string (S (s1)))) (.slice ad l.length cap) l from (HF.out.rd.chg hc2 (fun b h1 h2 h3 => by omega)).wide (by omega) (by have h3 := hc2.size; have h4 := HF.out.d.2.2; omega) (Nat.le_refl _))
      have HRW := Lib.hid (show OwnK w.heap.size (((v9.setCell ⟨w.heap.size, 0, none⟩ (.slice ad l.length cap)).setCell ⟨w.heap.size + 1, 0, none⟩ (.slice (some ⟨g3, 0, none⟩) (st.length + 1) cap3)).setCell ⟨w.heap.size + 1, 1, none⟩ (.string (S (s1)))) (.slice (some ⟨g3, 0, none⟩) (st.length + 1) cap3) (st ++ [x]) from own_base (owns_stand HF.out.row hc2 (fun k hk h3 => by have h4 := (World.ownsRow.lt HF.out.row k hk).1; omega)) (by omega))
      have HCR := Lib.hid (show CurPost B C (N + 5000) w (((v9.setCell ⟨w.heap.size, 0, none⟩ (.slice ad l.length cap)).setCell ⟨w.heap.size + 1, 0, none⟩ (.slice (some ⟨g3, 0, none⟩) (st.length + 1) cap3)).setCell ⟨w.heap.size + 1, 1, none⟩ (.string (S (s1)))) from (HF.out.cur.new hc2 (fun b h3 => by omega) hlt.2 (by omega)).mono (by omega))
      clear hS0 hS1 hS2 r0 r1 r2 r3 r4 r5 r6 r7 f3 f4 f5 f6
      go_wp2
      refine bodyPost_ret (v := .tuple #[.agg #[.slice ad l.length cap], transV (.slice (some ⟨g3, 0, none⟩) (st.length + 1) cap3) (s1)]) (by simp [transV, e0, e1, e2, results, Tryz.results63, go_sem]) rfl ⟨l, _, st ++ [x], _, s1, rfl, HDR.out, HRD.out, HRW.out, (by rw [List.length_append]; simp; omega), (by omega), HCR.out⟩
    · have n1 : ¬ (p : Int) = 1 := by omega
      by_cases p2 : p = 2
      · subst p2
        go_wp2_with fail
        go_loopw [] (fun wr => ∃ (o : List Int) (va : Option Addr) (vc : Nat), o.length ≤ 62 ∧ TrSt w B C (N + 2200 + 2 * o.length) b4 b5 (.slice ad l.length cap) (.slice va o.length vc) l o s1 wr) (fun wr => 62 - (match wr.cell? ⟨b5, 0, none⟩ with | some (.slice _ n _) => n | _ => 0))
        case atStart => exact ⟨st, ua, uc, by omega, ⟨HT5.out.d, HT5.out.t, HT5.out.r2, HT5.out.r3, HT5.out.rd, HT5.out.row, HT5.out.ap, HT5.out.cur.mono (by omega)⟩⟩
        case round =>
          obtain ⟨o, va, vc, ho, hr⟩ := hrel
          have HR0 := Lib.hid hr
          have HM0 := Lib.hid hr.t.2.1
          have HR1 := Lib.hid (hr.chg (X := fun _ => False) (Below.chg (Below.refl _ _).drew _) (fun _ h => h.elim) (hr.cur.drew))
          clear hr HT5 HR0
          go_upto_region 10 with fail
          refine wp_region_held_drew (S := TBx b5 (.slice va o.length vc) s1) (by kernel_rfl) HR1.out.t (fun hS0 => ?_)
          generalize hvv : wr.drew = v5 at HR1 hS0 ⊢
          refine wpAnyH_take (i := 0) (v := .pointer (some ⟨b5, 0, none⟩)) rfl (by kernel_rfl) (by kernel_rfl) (by kernel_rfl) (fun _ _ _ h => h) (Or.inl ⟨by rfl, fun z hz => ?_⟩) hS0 ?_
          · obtain ⟨z1, z2, z3, z4, z5⟩ := hz
            go_simp
          try simp only [qA, qB, Act.put, qD, qE, qF]
          refine wpAnyH_take (i := 1) (v := .slice va o.length vc) rfl (by kernel_rfl) (by kernel_rfl) (by kernel_rfl) (fun _ _ _ h => h) (Or.inl ⟨by rfl, fun z hz => ?_⟩) hS0 ?_
          · obtain ⟨z1, z2, z3, z4, z5⟩ := hz
            go_simp
          try simp only [qA, qB, qC, Act.put, qD, qE, qF]
          refine wpAnyH_take (i := 2) (v := .int .i64 (o.length : Int)) rfl (by kernel_rfl) (by kernel_rfl) (by kernel_rfl) (fun _ _ _ h => h) (Or.inl ⟨by rfl, fun z hz => ?_⟩) hS0 ?_
          · obtain ⟨z1, z2, z3, z4, z5⟩ := hz
            go_simp
          try simp only [qA, qB, qC, Act.put, qD, qE, qF]
          refine wpAnyH_take (i := 3) (v := .pointer (some ⟨C, 0, none⟩)) rfl (by kernel_rfl) (by kernel_rfl) (by kernel_rfl) (fun _ _ _ h => h) (Or.inl ⟨by rfl, fun z hz => ?_⟩) hS0 ?_
          · obtain ⟨z1, z2, z3, z4, z5⟩ := hz
            go_simp
          try simp only [qA, qB, qC, Act.put, qD, qE, qF]
          refine wpAnyH_ready (rs := [4]) (by kernel_rfl) (by simp) ?_
          refine AllReadyH.cons rfl (fun K hK => ?_) AllReadyH.nil
          go_simp
          refine (cur_pick B C (N + 2200 + 2 * o.length) 3 _ (by omega) (by decide) HR1.out.cur.1).mono ?_
          rintro e v6 ⟨x, hx, rfl, hc⟩
          have hx3 : x < 3 := by omega
          have HR2 := Lib.hid (HR1.out.curs (by omega) (by omega) hlt.2 hc)
          have hw5 : IntKind.i64.wrap (59 + (x : Int)) = 59 + (x : Int) := IntWalk.i64_in _ (by omega)
          refine hK.out _ _ HR2.out.t (fun hS1 => ?_)
          clear hK K hc hx hS0 HR1 hvv
          try simp only [qA, qB, qC, Act.put, qD, qE, qF]
          refine wpAnyH_take (i := 5) (v := .int .i64 (59 + (x : Int))) rfl (by kernel_rfl) (by kernel_rfl) (by kernel_rfl) (fun _ _ _ h => h) (Or.inl ⟨by rfl, fun z hz => ?_⟩) hS1 ?_
          · obtain ⟨z1, z2, z3, z4, z5⟩ := hz
            go_simp
          try simp only [qA, qB, qC, Act.put, qD, qE, qF]
          refine wpAnyH_take (i := 6) (v := .bool (decide ((o.length : Int) < 59 + (x : Int)))) rfl (by kernel_rfl) (by kernel_rfl) (by kernel_rfl) (fun _ _ _ h => h) (Or.inl ⟨by rfl, fun z hz => ?_⟩) hS1 ?_
          · obtain ⟨z1, z2, z3, z4, z5⟩ := hz
            go_simp
          try simp only [qA, qB, qC, Act.put, qD, qE, qF]
          refine wpAnyH_done (by kernel_rfl) ?_ _
          clear hS1
          by_cases hcl : (o.length : Int) < 59 + (x : Int)
          · have hna0 : (v6.alloc (.cells #[.int .i64 1048576] 3)).cell? ⟨v6.heap.size, 0, none⟩ = some (.int .i64 1048576) := by go_simp
            have HRA := Lib.hid (HR2.out.below ((Below.refl v6.heap.size v6).alloc (Nat.le_refl _) (.cells #[.int .i64 1048576] 3)))
            have hza : b4 + 1 ≤ (v6.alloc (.cells #[.int .i64 1048576] 3)).heap.size := by have := HRA.out.d.2.2; omega
            have HRB := Lib.hid HRA.out.row
            obtain ⟨_, k1, _⟩ := HR2.out.t
            go_wp2_with (at_builtin; refine wpList_append_lies _ rfl _ _ 27 rfl (b4 + 1) 3 i0 (.int .i64 0) 1 8 Tryz.underlying27 hi' hy0 hy1 hy2 rfl (by decide) (.slice va o.length vc) o.length (ints o) rfl HRB.out ⟨v6.heap.size, 0, none⟩ 1 1 [.int .i64 1048576] rfl rfl ?_ ?_ (by decide) (by unfold maxLen; omega) (by omega) hza _ rfl ?_)
            · intro k y hy
              match k, hy with
              | 0, hy => injection hy with hy; subst hy; rw [add0]; exact hna0
            · intro y hy
              simp only [List.mem_cons, List.not_mem_nil, or_false] at hy
              subst hy; rfl
            intro g3 cap3 z hown hgr hat hlt3
            have HPU := Lib.hid (HR2.out.push (by omega) (by omega) hlt.2 (by omega) hown hgr (hat.imp id fun h => h.trans (by simp)))
            obtain ⟨q1, q2, q3, q4, q5⟩ := HRA.out.t.stand (chg_grown hgr) (fun e => HRA.out.ap e)
            have HMZ := Lib.hid HPU.out.t.2.1
            clear hown hgr hat hna0 k1 HRB
            go_wp2
            go_roundw
            case rel => exact ⟨o ++ [1048576], some ⟨g3, 0, none⟩, cap3, by rw [List.length_append]; simp; omega, by
              have h := HPU.out
              have e1 : (o ++ [1048576]).length = o.length + 1 := by simp
              rw [e1]
              exact ⟨h.d, h.t, h.r2, h.r3, h.rd, by simpa using h.row, h.ap, h.cur.mono (by omega)⟩⟩
            case measure => rw [HM0.out, HMZ.out]; simp only; omega
          · clear HM0
            have hcf : decide ((o.length : Int) < 59 + (x : Int)) = false := decide_eq_false hcl
            obtain ⟨k0, _⟩ := HR2.out.d
            obtain ⟨_, k1, k2, _⟩ := HR2.out.t
            go_wp2_with fail
            refine (spec_screenOf _ _ l o _ HR2.out.rd.now (ownK_read HR2.out.row (by omega)) HDR.out.small).mono ?_
            rintro e v7 ⟨rfl, hb⟩
            have hsl2 := P.scr_len l o
            obtain ⟨sy, hsy⟩ : ∃ sy, P.scr l o = sy := ⟨_, rfl⟩
            rw [hsy] at hsl2 ⊢
            clear hsy
            obtain ⟨s2, f2⟩ := sy
            simp only at hsl2 ⊢
            have HR3 := Lib.hid (HR2.out.below hb)
            clear hb k0 k1 k2 HR2
            obtain ⟨q1, q2, q3, q4, q5⟩ := HR3.out.t
            have HR4 := Lib.hid (HR3.out.text (by omega) (by omega) hlt.2 (by omega) s2)
            clear HR3
            go_upto_region 13 with fail
            generalize v7.setCell ⟨b5, 1, none⟩ (.string (S s2)) = v8 at *
            clear q1 q2 q3 q4 q5
            have hzq : w.heap.size + 2 ≤ v8.heap.size := by have := HR4.out.t.1; omega
            have HF := Lib.hid (HR4.out.chg (X := fun _ => False) (Below.chg (Below.refl _ _).drew _) (fun _ h => h.elim) (HR4.out.cur.drew))
            have HZ9 := Lib.hid (show w.heap.size + 2 ≤ v8.drew.heap.size from hzq)
            clear HR4
            go_upto_region 13 with fail
            refine wp_region_held_drew (S := fun v => DBx b4 (.slice ad l.length cap) v ∧ TBx b5 (.slice va o.length vc) (s2) v) (by kernel_rfl) ⟨HF.out.d, HF.out.t⟩ (fun hS0 => ?_)
            generalize v8.drew = v9 at *
            refine wpAnyH_take (i := 0) (v := .agg #[.slice ad l.length cap]) rfl (by kernel_rfl) (by kernel_rfl) (by kernel_rfl) (fun _ _ _ h => h) (Or.inl ⟨by rfl, fun z hz => ?_⟩) hS0 ?_
            · obtain ⟨⟨z1, z2, z3⟩, z4, z5, z6, z7, z8⟩ := hz
              go_simp
            try simp only [qA, qB, Act.put, qD, qE, qF]
            refine wpAnyH_take (i := 1) (v := .agg #[.slice va o.length vc, .string (S (s2))]) rfl (by kernel_rfl) (by kernel_rfl) (by kernel_rfl) (fun _ _ _ h => h) (Or.inl ⟨by rfl, fun z hz => ?_⟩) hS0 ?_
            · obtain ⟨⟨z1, z2, z3⟩, z4, z5, z6, z7, z8⟩ := hz
              go_simp
            try simp only [qA, qB, qC, Act.put, qD, qE, qF]
            obtain ⟨r0, r1, r2⟩ := HF.out.r2
            obtain ⟨r3, r4, r5, r6, r7⟩ := HF.out.r3
            have hc1 : Chg (fun k => k = w.heap.size ∨ k = w.heap.size + 1) v9 (v9.setCell ⟨w.heap.size, 0, none⟩ (.slice ad l.length cap)) := (Chg.refl _ v9).setCell (p := ⟨w.heap.size, 0, none⟩) (.inl rfl) _
            have hc2 : Chg (fun k => k = w.heap.size ∨ k = w.heap.size + 1) v9 (((v9.setCell ⟨w.heap.size, 0, none⟩ (.slice ad l.length cap)).setCell ⟨w.heap.size + 1, 0, none⟩ (.slice va o.length vc)).setCell ⟨w.heap.size + 1, 1, none⟩ (.string (S (s2)))) := (hc1.setCell (p := ⟨w.heap.size + 1, 0, none⟩) (.inr rfl) _).setCell (p := ⟨w.heap.size + 1, 1, none⟩) (.inr rfl) _
            have e0 : (((v9.setCell ⟨w.heap.size, 0, none⟩ (.slice ad l.length cap)).setCell ⟨w.heap.size + 1, 0, none⟩ (.slice va o.length vc)).setCell ⟨w.heap.size + 1, 1, none⟩ (.string (S (s2)))).cell? ⟨w.heap.size, 0, none⟩ = some (.slice ad l.length cap) := by go_simp
            have e1 : (((v9.setCell ⟨w.heap.size, 0, none⟩ (.slice ad l.length cap)).setCell ⟨w.heap.size + 1, 0, none⟩ (.slice va o.length vc)).setCell ⟨w.heap.size + 1, 1, none⟩ (.string (S (s2)))).cell? ⟨w.heap.size + 1, 0, none⟩ = some (.slice va o.length vc) := by go_simp
            have e2 : (((v9.setCell ⟨w.heap.size, 0, none⟩ (.slice ad l.length cap)).setCell ⟨w.heap.size + 1, 0, none⟩ (.slice va o.length vc)).setCell ⟨w.heap.size + 1, 1, none⟩ (.string (S (s2)))).cell? ⟨w.heap.size + 1, 1, none⟩ = some (.string (S (s2))) := by go_simp
            have f3 : (v9.setCell ⟨w.heap.size, 0, none⟩ (.slice ad l.length cap)).cell? ⟨w.heap.size + 1, 0, none⟩ = some (.slice none 0 0) := by go_simp
            have f4 : (v9.setCell ⟨w.heap.size, 0, none⟩ (.slice ad l.length cap)).cell? ⟨w.heap.size + 1, 1, none⟩ = some (.string (S [])) := by go_simp
            have f5 : (v9.setCell ⟨w.heap.size, 0, none⟩ (.slice ad l.length cap)).frozen? ⟨w.heap.size + 1, 0, none⟩ = false := by go_simp
            have f6 : (v9.setCell ⟨w.heap.size, 0, none⟩ (.slice ad l.length cap)).frozen? ⟨w.heap.size + 1, 1, none⟩ = false := by go_simp
            refine wpAnyH_ready (rs := [2]) (by kernel_rfl) (by simp) ?_
            refine AllReadyH.cons rfl (fun K hK => ?_) AllReadyH.nil
            go_simp
            refine hK.out _ _ ⟨hS0.1.stand hc1 (by omega), hS0.2.stand hc1 (by omega)⟩ (fun hS1 => ?_)
            clear hK K
            try simp only [qA, qB, qC, Act.put, qD, qE, qF]
            refine wpAnyH_ready (rs := [3]) (by kernel_rfl) (by simp) ?_
            refine AllReadyH.cons rfl (fun K hK => ?_) AllReadyH.nil
            go_simp
            refine hK.out _ _ ⟨hS0.1.stand hc2 (by omega), hS0.2.stand hc2 (by omega)⟩ (fun hS2 => ?_)
            clear hK K
            try simp only [qA, qB, qC, Act.put, qD, qE, qF]
            refine wpAnyH_done (by kernel_rfl) ?_ _
            have HRD := Lib.hid (show ReadE w.heap.size (((v9.setCell ⟨w.heap.size, 0, none⟩ (.slice ad l.length cap)).setCell ⟨w.heap.size + 1, 0, none⟩ (.slice va o.length vc)).setCell ⟨w.heap.size + 1, 1, none⟩ (.string (S (s2)))).heap.size (((v9.setCell ⟨w.heap.size, 0, none⟩ (.slice ad l.length cap)).setCell ⟨w.heap.size + 1, 0, none⟩ (.slice va o.length vc)).setCell ⟨w.heap.size + 1, 1, none⟩ (.string (S (s2)))) (.slice ad l.length cap) l from (HF.out.rd.chg hc2 (fun b h1 h2 h3 => by omega)).wide (by omega) (by have h3 := hc2.size; have h4 := HF.out.d.2.2; omega) (Nat.le_refl _))
            have HRW := Lib.hid (show OwnK w.heap.size (((v9.setCell ⟨w.heap.size, 0, none⟩ (.slice ad l.length cap)).setCell ⟨w.heap.size + 1, 0, none⟩ (.slice va o.length vc)).setCell ⟨w.heap.size + 1, 1, none⟩ (.string (S (s2)))) (.slice va o.length vc) (o) from own_base (owns_stand HF.out.row hc2 (fun k hk h3 => by have h4 := (World.ownsRow.lt HF.out.row k hk).1; omega)) (by omega))
            have HCR := Lib.hid (show CurPost B C (N + 5000) w (((v9.setCell ⟨w.heap.size, 0, none⟩ (.slice ad l.length cap)).setCell ⟨w.heap.size + 1, 0, none⟩ (.slice va o.length vc)).setCell ⟨w.heap.size + 1, 1, none⟩ (.string (S (s2)))) from (HF.out.cur.new hc2 (fun b h3 => by omega) hlt.2 (by omega)).mono (by omega))
            clear hS0 hS1 hS2 r0 r1 r2 r3 r4 r5 r6 r7 f3 f4 f5 f6
            go_wp2
            refine bodyPost_ret (v := .tuple #[.agg #[.slice ad l.length cap], transV (.slice va o.length vc) (s2)]) (by simp [transV, e0, e1, e2, results, Tryz.results63, go_sem]) rfl ⟨l, _, o, _, s2, rfl, HDR.out, HRD.out, HRW.out, (by omega), (by omega), HCR.out⟩
      · have n2 : ¬ (p : Int) = 2 := by omega
        have HF := Lib.hid (HT5.out.chg (X := fun _ => False) (Below.chg (Below.refl _ _).drew _) (fun _ h => h.elim) (HT5.out.cur.drew))
        have HZ9 := Lib.hid (show w.heap.size + 2 ≤ w4.drew.heap.size from hzq)
        clear HT5
        go_upto_region 13 with fail
        refine wp_region_held_drew (S := fun v => DBx b4 (.slice ad l.length cap) v ∧ TBx b5 (.slice ua st.length uc) (s1) v) (by kernel_rfl) ⟨HF.out.d, HF.out.t⟩ (fun hS0 => ?_)
        generalize w4.drew = v9 at *
        refine wpAnyH_take (i := 0) (v := .agg #[.slice ad l.length cap]) rfl (by kernel_rfl) (by kernel_rfl) (by kernel_rfl) (fun _ _ _ h => h) (Or.inl ⟨by rfl, fun z hz => ?_⟩) hS0 ?_
        · obtain ⟨⟨z1, z2, z3⟩, z4, z5, z6, z7, z8⟩ := hz
          go_simp
        try simp only [qA, qB, Act.put, qD, qE, qF]
        refine wpAnyH_take (i := 1) (v := .agg #[.slice ua st.length uc, .string (S (s1))]) rfl (by kernel_rfl) (by kernel_rfl) (by kernel_rfl) (fun _ _ _ h => h) (Or.inl ⟨by rfl, fun z hz => ?_⟩) hS0 ?_
        · obtain ⟨⟨z1, z2, z3⟩, z4, z5, z6, z7, z8⟩ := hz
          go_simp
        try simp only [qA, qB, qC, Act.put, qD, qE, qF]
        obtain ⟨r0, r1, r2⟩ := HF.out.r2
        obtain ⟨r3, r4, r5, r6, r7⟩ := HF.out.r3
        have hc1 : Chg (fun k => k = w.heap.size ∨ k = w.heap.size + 1) v9 (v9.setCell ⟨w.heap.size, 0, none⟩ (.slice ad l.length cap)) := (Chg.refl _ v9).setCell (p := ⟨w.heap.size, 0, none⟩) (.inl rfl) _
        have hc2 : Chg (fun k => k = w.heap.size ∨ k = w.heap.size + 1) v9 (((v9.setCell ⟨w.heap.size, 0, none⟩ (.slice ad l.length cap)).setCell ⟨w.heap.size + 1, 0, none⟩ (.slice ua st.length uc)).setCell ⟨w.heap.size + 1, 1, none⟩ (.string (S (s1)))) := (hc1.setCell (p := ⟨w.heap.size + 1, 0, none⟩) (.inr rfl) _).setCell (p := ⟨w.heap.size + 1, 1, none⟩) (.inr rfl) _
        have e0 : (((v9.setCell ⟨w.heap.size, 0, none⟩ (.slice ad l.length cap)).setCell ⟨w.heap.size + 1, 0, none⟩ (.slice ua st.length uc)).setCell ⟨w.heap.size + 1, 1, none⟩ (.string (S (s1)))).cell? ⟨w.heap.size, 0, none⟩ = some (.slice ad l.length cap) := by go_simp
        have e1 : (((v9.setCell ⟨w.heap.size, 0, none⟩ (.slice ad l.length cap)).setCell ⟨w.heap.size + 1, 0, none⟩ (.slice ua st.length uc)).setCell ⟨w.heap.size + 1, 1, none⟩ (.string (S (s1)))).cell? ⟨w.heap.size + 1, 0, none⟩ = some (.slice ua st.length uc) := by go_simp
        have e2 : (((v9.setCell ⟨w.heap.size, 0, none⟩ (.slice ad l.length cap)).setCell ⟨w.heap.size + 1, 0, none⟩ (.slice ua st.length uc)).setCell ⟨w.heap.size + 1, 1, none⟩ (.string (S (s1)))).cell? ⟨w.heap.size + 1, 1, none⟩ = some (.string (S (s1))) := by go_simp
        have f3 : (v9.setCell ⟨w.heap.size, 0, none⟩ (.slice ad l.length cap)).cell? ⟨w.heap.size + 1, 0, none⟩ = some (.slice none 0 0) := by go_simp
        have f4 : (v9.setCell ⟨w.heap.size, 0, none⟩ (.slice ad l.length cap)).cell? ⟨w.heap.size + 1, 1, none⟩ = some (.string (S [])) := by go_simp
        have f5 : (v9.setCell ⟨w.heap.size, 0, none⟩ (.slice ad l.length cap)).frozen? ⟨w.heap.size + 1, 0, none⟩ = false := by go_simp
        have f6 : (v9.setCell ⟨w.heap.size, 0, none⟩ (.slice ad l.length cap)).frozen? ⟨w.heap.size + 1, 1, none⟩ = false := by go_simp
        refine wpAnyH_ready (rs := [2]) (by kernel_rfl) (by simp) ?_
        refine AllReadyH.cons rfl (fun K hK => ?_) AllReadyH.nil
        go_simp
        refine hK.out _ _ ⟨hS0.1.stand hc1 (by omega), hS0.2.stand hc1 (by omega)⟩ (fun hS1 => ?_)
        clear hK K
        try simp only [qA, qB, qC, Act.put, qD, qE, qF]
        refine wpAnyH_ready (rs := [3]) (by kernel_rfl) (by simp) ?_
        refine AllReadyH.cons rfl (fun K hK => ?_) AllReadyH.nil
        go_simp
        refine hK.out _ _ ⟨hS0.1.stand hc2 (by omega), hS0.2.stand hc2 (by omega)⟩ (fun hS2 => ?_)
        clear hK K
        try simp only [qA, qB, qC, Act.put, qD, qE, qF]
        refine wpAnyH_done (by kernel_rfl) ?_ _
        have HRD := Lib.hid (show ReadE w.heap.size (((v9.setCell ⟨w.heap.size, 0, none⟩ (.slice ad l.length cap)).setCell ⟨w.heap.size + 1, 0, none⟩ (.slice ua st.length uc)).setCell ⟨w.heap.size + 1, 1, none⟩ (.string (S (s1)))).heap.size (((v9.setCell ⟨w.heap.size, 0, none⟩ (.slice ad l.length cap)).setCell ⟨w.heap.size + 1, 0, none⟩ (.slice ua st.length uc)).setCell ⟨w.heap.size + 1, 1, none⟩ (.string (S (s1)))) (.slice ad l.length cap) l from (HF.out.rd.chg hc2 (fun b h1 h2 h3 => by omega)).wide (by omega) (by have h3 := hc2.size; have h4 := HF.out.d.2.2; omega) (Nat.le_refl _))
        have HRW := Lib.hid (show OwnK w.heap.size (((v9.setCell ⟨w.heap.size, 0, none⟩ (.slice ad l.length cap)).setCell ⟨w.heap.size + 1, 0, none⟩ (.slice ua st.length uc)).setCell ⟨w.heap.size + 1, 1, none⟩ (.string (S (s1)))) (.slice ua st.length uc) (st) from own_base (owns_stand HF.out.row hc2 (fun k hk h3 => by have h4 := (World.ownsRow.lt HF.out.row k hk).1; omega)) (by omega))
        have HCR := Lib.hid (show CurPost B C (N + 5000) w (((v9.setCell ⟨w.heap.size, 0, none⟩ (.slice ad l.length cap)).setCell ⟨w.heap.size + 1, 0, none⟩ (.slice ua st.length uc)).setCell ⟨w.heap.size + 1, 1, none⟩ (.string (S (s1)))) from (HF.out.cur.new hc2 (fun b h3 => by omega) hlt.2 (by omega)).mono (by omega))
        clear hS0 hS1 hS2 r0 r1 r2 r3 r4 r5 r6 r7 f3 f4 f5 f6
        go_wp2
        refine bodyPost_ret (v := .tuple #[.agg #[.slice ad l.length cap], transV (.slice ua st.length uc) (s1)]) (by simp [transV, e0, e1, e2, results, Tryz.results63, go_sem]) rfl ⟨l, _, st, _, s1, rfl, HDR.out, HRD.out, HRW.out, (by omega), (by omega), HCR.out⟩
end Go.Proofs.YtmlklnimoknojaaGreatDoor
