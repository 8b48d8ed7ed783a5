/- Walks: the reference's drawing of a dictionary, a translator and a stroke. -/
import Derived.Test.YtmlklnimoknojaaGreatDoorVBig
namespace Go.Proofs.YtmlklnimoknojaaGreatDoor
open Go Go.RowKit
set_option maxHeartbeats 4000000
set_option maxRecDepth 100000
/-- how a drawing goes on behind a drawn translator: the result's boxes at the bottom, the cursor C, the dictionary's box b, the translator's box b + 1 -/
structure PSt (w : World) (C K b : Nat) (ud us : Value) (l : P.Dic) (st : List Int) (sc : Str) (v : World) : Prop where
  d : DBx b ud v
  t : TBx (b + 1) us sc v
  r2 : NBx w.heap.size v
  r3 : TBx (w.heap.size + 1) (.slice none 0 0) [] v
  rd : ReadE (C + 1) b v ud l
  row : OwnK (C + 1) v us st
  low : w.heap.size + 2 ≤ C ∧ C < b
  rb : ∀ k, us.ownBlock = some k → k < b
  cur : IsCur w.heap.size C K v
  bel : Below w.heap.size w v
theorem PSt.chg {w : World} {C K b : Nat} {ud us : Value} {l : P.Dic} {st : List Int} {sc : Str} {v v' : World} {K' : Nat} {X : Blk} (h : PSt w C K b ud us l st sc v) (hc : Chg X v v') (hX : ∀ k, X k → k ≠ b ∧ k ≠ b + 1 ∧ k ≠ w.heap.size ∧ k ≠ w.heap.size + 1 ∧ (k < C + 1 ∨ b ≤ k) ∧ us.ownBlock ≠ some k ∧ w.heap.size ≤ k) (hk : IsCur w.heap.size C K' v') : PSt w C K' b ud us l st sc v' :=
  ⟨h.d.stand hc (fun e => (hX _ e).1 rfl), h.t.stand hc (fun e => (hX _ e).2.1 rfl), h.r2.stand hc (fun e => (hX _ e).2.2.1 rfl), h.r3.stand hc (fun e => (hX _ e).2.2.2.1 rfl), h.rd.chg hc (fun k h1 h2 e => by have := (hX k e).2.2.2.2.1; omega), owns_stand h.row hc (fun k hk e => (hX k e).2.2.2.2.2.1 hk), h.low, h.rb, hk, Chg.belowB h.bel hc h.bel.size (fun k e => (hX k e).2.2.2.2.2.2)⟩
theorem PSt.curs {w : World} {C K b : Nat} {ud us : Value} {l : P.Dic} {st : List Int} {sc : Str} {v v' : World} {K' : Nat} (h : PSt w C K b ud us l st sc v) (hc : CurPost w.heap.size C K' v v') : PSt w C K' b ud us l st sc v' :=
  h.chg hc.2 (fun k e => by
    have e : k = C := e
    have h1 := h.low
    refine ⟨by omega, by omega, by omega, by omega, .inl (by omega), fun e2 => ?_, by omega⟩
    have := (World.ownsRow.lt h.row k e2).1
    omega) hc.1
theorem PSt.below {w : World} {C K b : Nat} {ud us : Value} {l : P.Dic} {st : List Int} {sc : Str} {v v' : World} (h : PSt w C K b ud us l st sc v) (hb : Below v.heap.size v v') : PSt w C K b ud us l st sc v' :=
  h.chg (X := fun _ => False) (Below.chg hb _) (fun _ h => h.elim) (h.cur.below hb)
theorem PSt.new {w : World} {C K c : Nat} {ud us : Value} {l : P.Dic} {st : List Int} {sc : Str} {v0 v : World} (hr2 : NBx w.heap.size v) (hr3 : TBx (w.heap.size + 1) (.slice none 0 0) [] v) (hrd : ReadE c v.heap.size v ud l) (hrow : OwnK c v us st) (hc : CurPost w.heap.size C K v0 v) (hcc : c = C + 1) (hl : w.heap.size + 2 ≤ C) (hb : Below w.heap.size w v) :
    PSt w C K v.heap.size ud us l st sc ((v.alloc (.cells #[ud] 26)).alloc (.cells #[us, .string (S sc)] 32)) := by
  subst hcc
  have hba : Below v.heap.size v ((v.alloc (.cells #[ud] 26)).alloc (.cells #[us, .string (S sc)] 32)) := ((Below.refl v.heap.size v).alloc (Nat.le_refl _) _).alloc (by simp) _
  have hf : Chg (fun _ => False) v ((v.alloc (.cells #[ud] 26)).alloc (.cells #[us, .string (S sc)] 32)) := Below.chg hba _
  have ht := TBx.new us sc (v.alloc (.cells #[ud] 26))
  refine ⟨(DBx.new ud 26 v).below ((Below.refl _ _).alloc (Nat.le_refl _) _), by simpa using ht, hr2.below hba, hr3.below hba, hrd.chg hf (fun _ _ _ h => h), owns_stand hrow hf (fun _ _ h => h), ⟨hl, hc.1.lt.2⟩, fun k hk => (World.ownsRow.lt hrow k hk).2, hc.1.below hba, hb.trans (hba.mono hb.size)⟩
/-- the results are stored -/
theorem PSt.mid {w : World} {C K b : Nat} {ud us : Value} {l : P.Dic} {st : List Int} {sc : Str} {v : World} (h : PSt w C K b ud us l st sc v) :
    (v.setCell ⟨w.heap.size, 0, none⟩ ud).cell? ⟨w.heap.size + 1, 0, none⟩ = some (.slice none 0 0) ∧ (v.setCell ⟨w.heap.size, 0, none⟩ ud).cell? ⟨w.heap.size + 1, 1, none⟩ = some (.string (S [])) ∧ (v.setCell ⟨w.heap.size, 0, none⟩ ud).frozen? ⟨w.heap.size + 1, 0, none⟩ = false ∧ (v.setCell ⟨w.heap.size, 0, none⟩ ud).frozen? ⟨w.heap.size + 1, 1, none⟩ = false ∧ Chg (fun k => k = w.heap.size ∨ k = w.heap.size + 1) v (v.setCell ⟨w.heap.size, 0, none⟩ ud) := by
  obtain ⟨r0, r1, r2⟩ := h.r2
  obtain ⟨r3, r4, r5, r6, r7⟩ := h.r3
  exact ⟨by go_simp, by go_simp, by go_simp, by go_simp, (Chg.refl _ v).setCell (p := ⟨w.heap.size, 0, none⟩) (.inl rfl) _⟩
theorem PSt.fin {w : World} {C K b : Nat} {ud us : Value} {l : P.Dic} {st : List Int} {sc : Str} {v : World} (h : PSt w C K b ud us l st sc v) :
    (((v.setCell ⟨w.heap.size, 0, none⟩ ud).setCell ⟨w.heap.size + 1, 0, none⟩ us).setCell ⟨w.heap.size + 1, 1, none⟩ (.string (S sc))).cell? ⟨w.heap.size, 0, none⟩ = some ud ∧ (((v.setCell ⟨w.heap.size, 0, none⟩ ud).setCell ⟨w.heap.size + 1, 0, none⟩ us).setCell ⟨w.heap.size + 1, 1, none⟩ (.string (S sc))).cell? ⟨w.heap.size + 1, 0, none⟩ = some us ∧ (((v.setCell ⟨w.heap.size, 0, none⟩ ud).setCell ⟨w.heap.size + 1, 0, none⟩ us).setCell ⟨w.heap.size + 1, 1, none⟩ (.string (S sc))).cell? ⟨w.heap.size + 1, 1, none⟩ = some (.string (S sc)) ∧
      ReadE w.heap.size (((v.setCell ⟨w.heap.size, 0, none⟩ ud).setCell ⟨w.heap.size + 1, 0, none⟩ us).setCell ⟨w.heap.size + 1, 1, none⟩ (.string (S sc))).heap.size (((v.setCell ⟨w.heap.size, 0, none⟩ ud).setCell ⟨w.heap.size + 1, 0, none⟩ us).setCell ⟨w.heap.size + 1, 1, none⟩ (.string (S sc))) ud l ∧ OwnK w.heap.size (((v.setCell ⟨w.heap.size, 0, none⟩ ud).setCell ⟨w.heap.size + 1, 0, none⟩ us).setCell ⟨w.heap.size + 1, 1, none⟩ (.string (S sc))) us st ∧ Below w.heap.size w (((v.setCell ⟨w.heap.size, 0, none⟩ ud).setCell ⟨w.heap.size + 1, 0, none⟩ us).setCell ⟨w.heap.size + 1, 1, none⟩ (.string (S sc))) ∧ Chg (fun k => k = w.heap.size ∨ k = w.heap.size + 1) v (((v.setCell ⟨w.heap.size, 0, none⟩ ud).setCell ⟨w.heap.size + 1, 0, none⟩ us).setCell ⟨w.heap.size + 1, 1, none⟩ (.string (S sc))) := by
  obtain ⟨r0, r1, r2⟩ := h.r2
  obtain ⟨r3, r4, r5, r6, r7⟩ := h.r3
  have hl := h.low
  have hc : Chg (fun k => k = w.heap.size ∨ k = w.heap.size + 1) v (((v.setCell ⟨w.heap.size, 0, none⟩ ud).setCell ⟨w.heap.size + 1, 0, none⟩ us).setCell ⟨w.heap.size + 1, 1, none⟩ (.string (S sc))) := (((Chg.refl _ v).setCell (p := ⟨w.heap.size, 0, none⟩) (.inl rfl) _).setCell (p := ⟨w.heap.size + 1, 0, none⟩) (.inr rfl) _).setCell (p := ⟨w.heap.size + 1, 1, none⟩) (.inr rfl) _
  have hb1 : b ≤ (((v.setCell ⟨w.heap.size, 0, none⟩ ud).setCell ⟨w.heap.size + 1, 0, none⟩ us).setCell ⟨w.heap.size + 1, 1, none⟩ (.string (S sc))).heap.size := Nat.le_trans (Nat.le_of_lt h.d.2.2) hc.size
  refine ⟨by go_simp, by go_simp, by go_simp, (h.rd.chg hc (fun k h1 h2 e => by omega)).wide (by omega) hb1 (Nat.le_refl _), own_base (owns_stand h.row hc (fun k hk e => by have := (World.ownsRow.lt h.row k hk).1; omega)) (by omega), Chg.belowB h.bel hc h.bel.size (fun k e => by omega), hc⟩
def PrDrawn (w : World) (e : Ending) (w' : World) : Prop :=
  ∃ (l : P.Dic) (u : Value) (st : List Int) (us : Value) (sc : Str) (k : Int), e = .returned (.tuple #[.agg #[u], transV us sc, .int .i64 k]) ∧ Drawn l ∧ ReadE w.heap.size w'.heap.size w' u l ∧ OwnK w.heap.size w' us st ∧ st.length ≤ 70 ∧ sc.length ≤ 2001 ∧ Below w.heap.size w w'
theorem drawPress (v : Value) (w : World) (hv : CodeIs w v) :
    Calls Tryz.prog 37 #[v] w (PrDrawn w) := by
  have hv' := hv
  obtain ⟨ad, n, cap, rfl, _, _⟩ := hv'
  have hb0 : Below w.heap.size w ((w.alloc (.cells #[.slice none 0 0] 26)).alloc (.cells #[.slice none 0 0, .string (S [])] 32)) := ((Below.refl w.heap.size w).alloc (Nat.le_refl _) _).alloc (by simp) _
  have hz0 : ((w.alloc (.cells #[.slice none 0 0] 26)).alloc (.cells #[.slice none 0 0, .string (S [])] 32)).heap.size ≤ w.heap.size + 2 := by simp
  have hz0' : w.heap.size + 2 ≤ ((w.alloc (.cells #[.slice none 0 0] 26)).alloc (.cells #[.slice none 0 0, .string (S [])] 32)).heap.size := by simp
  have HR2 := Lib.hid (show NBx w.heap.size ((w.alloc (.cells #[.slice none 0 0] 26)).alloc (.cells #[.slice none 0 0, .string (S [])] 32)) from ⟨by go_simp, by go_simp, by simp <;> omega⟩)
  have HR3 := Lib.hid (show TBx (w.heap.size + 1) (.slice none 0 0) [] ((w.alloc (.cells #[.slice none 0 0] 26)).alloc (.cells #[.slice none 0 0, .string (S [])] 32)) from ⟨by simp, by go_simp, by go_simp, by go_simp, by go_simp⟩)
  have HV := Lib.hid hv
  have HB0 := Lib.hid hb0
  clear hb0 hv
  go_enter Tryz.func37, Tryz.ntmps37
  go_upto_region 1 with fail
  generalize ((w.alloc (.cells #[.slice none 0 0] 26)).alloc (.cells #[.slice none 0 0, .string (S [])] 32)) = V0 at *
  have HC := Lib.hid (HV.out.fresh (t := 91) HB0.out)
  have hba := (Below.refl V0.heap.size V0).alloc (Nat.le_refl _) (.cells #[.slice ad n cap, .int .i64 0, .int .u64 0] 91)
  have HR2 := Lib.hid (HR2.out.below hba); have HR3 := Lib.hid (HR3.out.below hba)
  have HB1 := Lib.hid (HB0.out.trans (hba.mono HB0.out.size))
  have hz1 : V0.heap.size < (V0.alloc (.cells #[.slice ad n cap, .int .i64 0, .int .u64 0] 91)).heap.size := by simp
  have hz2 : (V0.alloc (.cells #[.slice ad n cap, .int .i64 0, .int .u64 0] 91)).heap.size = V0.heap.size + 1 := by simp
  clear hba HB0 HV
  go_upto_region 2 with fail
  generalize V0.alloc (.cells #[.slice ad n cap, .int .i64 0, .int .u64 0] 91) = v1 at *
  generalize V0.heap.size = C at *
  go_wp2_with fail
  refine (cur_translator w.heap.size C 0 _ (by decide) HC.out).mono ?_
  rintro e w1 ⟨l, u, st, us, sc, rfl, hdr, hrd, hrow, hst, hsc, hc⟩
  have HDR := Lib.hid hdr; have HLN := Lib.hid (show st.length ≤ 70 ∧ sc.length ≤ 2001 from ⟨hst, hsc⟩)
  have HBW := Lib.hid (show Below w.heap.size w w1 from Chg.belowB HB1.out hc.2 HB1.out.size (fun b h => by omega))
  have HP := Lib.hid (PSt.new (sc := sc) (HR2.out.stand hc.2 (by omega)) (HR3.out.stand hc.2 (by omega)) hrd hrow hc hz2 (by omega) HBW.out)
  obtain ⟨ua, uc, rfl, _, _⟩ := hrd.now
  obtain ⟨va, vc, rfl⟩ := ownK_form hrow
  clear hc HC HB1 HR2 HR3 hrd hrow hst hsc hdr HBW
  unfold transV
  go_upto_region 3 with fail
  generalize ((w1.alloc (.cells #[(.slice ua l.length uc)] 26)).alloc (.cells #[(.slice va st.length vc), .string (S sc)] 32)) = v2 at *
  generalize w1.heap.size = b at *
  go_wp2_with fail
  refine (cur_pick w.heap.size C 5000 6 _ (by decide) (by decide) HP.out.cur).mono ?_
  rintro e w4 ⟨p, hp, rfl, hc⟩
  have HP := Lib.hid (HP.out.curs hc)
  clear hc hp
  by_cases p0 : p = 0
  · subst p0
    have HPD := Lib.hid (HP.out.below (Below.refl _ _).drew)
    clear HP
    go_upto_region 5 with fail
    refine wp_region_held_drew (S := fun z => DBx b (.slice ua l.length uc) z ∧ TBx (b + 1) (.slice va st.length vc) sc z) (by kernel_rfl) ⟨HPD.out.d, HPD.out.t⟩ (fun hS0 => ?_)
    generalize w4.drew = v9 at *
    refine wpAnyH_take (i := 0) (v := .agg #[(.slice ua l.length uc)]) rfl (by kernel_rfl) (by kernel_rfl) (by kernel_rfl) (fun _ _ _ h => h) (Or.inl ⟨by rfl, fun z hz => ?_⟩) hS0 ?_
    · obtain ⟨⟨z1, z2, z3⟩, z4, z5, z6, z7, z8⟩ := hz
      go_simp
    try simp only [qA, qB, Act.put, qD, qE, qF]
    refine wpAnyH_take (i := 1) (v := .agg #[(.slice va st.length vc), .string (S sc)]) rfl (by kernel_rfl) (by kernel_rfl) (by kernel_rfl) (fun _ _ _ h => h) (Or.inl ⟨by rfl, fun z hz => ?_⟩) hS0 ?_
    · obtain ⟨⟨z1, z2, z3⟩, z4, z5, z6, z7, z8⟩ := hz
      go_simp
    try simp only [qA, qB, qC, Act.put, qD, qE, qF]
    obtain ⟨f3, f4, f5, f6, hc1⟩ := HPD.out.mid
    obtain ⟨e0, e1, e2, hrd, hrw, hbl, hc2⟩ := HPD.out.fin
    have HRD := Lib.hid hrd; have HRW := Lib.hid hrw; have HBL := Lib.hid hbl
    clear hrd hrw hbl
    obtain ⟨r0, r1, r2⟩ := HPD.out.r2
    have hlow := HPD.out.low
    refine wpAnyH_ready (rs := [2]) (by kernel_rfl) (by simp) ?_
    refine AllReadyH.cons rfl (fun K hK => ?_) AllReadyH.nil
    go_simp
    refine hK.out _ _ ⟨hS0.1.stand hc1 (by omega), hS0.2.stand hc1 (by omega)⟩ (fun hS1 => ?_)
    clear hK K
    try simp only [qA, qB, qC, Act.put, qD, qE, qF]
    refine wpAnyH_ready (rs := [3]) (by kernel_rfl) (by simp) ?_
    refine AllReadyH.cons rfl (fun K hK => ?_) AllReadyH.nil
    go_simp
    refine hK.out _ _ ⟨hS0.1.stand hc2 (by omega), hS0.2.stand hc2 (by omega)⟩ (fun hS2 => ?_)
    clear hK K
    try simp only [qA, qB, qC, Act.put, qD, qE, qF]
    refine wpAnyH_ready (rs := [4]) (by kernel_rfl) (by simp) ?_
    refine AllReadyH.cons rfl (fun K hK => ?_) AllReadyH.nil
    go_simp
    refine hK.out _ _ hS2 (fun hS3 => ?_)
    clear hK K
    try simp only [qA, qB, qC, Act.put, qD, qE, qF]
    refine wpAnyH_done (by kernel_rfl) ?_ _
    clear hS0 hS1 hS2 hS3 r0 r1 r2 f3 f4 f5 f6
    go_wp2
    refine bodyPost_ret (v := .tuple #[.agg #[(.slice ua l.length uc)], transV (.slice va st.length vc) sc, .int .i64 1024]) (by simp [transV, e0, e1, e2, results, Tryz.results37, go_sem]) rfl ⟨l, _, st, _, sc, 1024, rfl, HDR.out, HRD.out, HRW.out, HLN.out.1, HLN.out.2, HBL.out⟩
  · have n0 : ¬ (p : Int) = 0 := by omega
    by_cases p1 : p = 1
    · subst p1
      have HPD := Lib.hid (HP.out.below (Below.refl _ _).drew)
      clear HP
      go_upto_region 7 with fail
      refine wp_region_held_drew (S := fun z => DBx b (.slice ua l.length uc) z ∧ TBx (b + 1) (.slice va st.length vc) sc z) (by kernel_rfl) ⟨HPD.out.d, HPD.out.t⟩ (fun hS0 => ?_)
      generalize w4.drew = v9 at *
      refine wpAnyH_take (i := 0) (v := .agg #[(.slice ua l.length uc)]) rfl (by kernel_rfl) (by kernel_rfl) (by kernel_rfl) (fun _ _ _ h => h) (Or.inl ⟨by rfl, fun z hz => ?_⟩) hS0 ?_
      · obtain ⟨⟨z1, z2, z3⟩, z4, z5, z6, z7, z8⟩ := hz
        go_simp
      try simp only [qA, qB, Act.put, qD, qE, qF]
      refine wpAnyH_take (i := 1) (v := .agg #[(.slice va st.length vc), .string (S sc)]) rfl (by kernel_rfl) (by kernel_rfl) (by kernel_rfl) (fun _ _ _ h => h) (Or.inl ⟨by rfl, fun z hz => ?_⟩) hS0 ?_
      · obtain ⟨⟨z1, z2, z3⟩, z4, z5, z6, z7, z8⟩ := hz
        go_simp
      try simp only [qA, qB, qC, Act.put, qD, qE, qF]
      refine wpAnyH_take (i := 2) (v := .pointer (some ⟨C, 0, none⟩)) rfl (by kernel_rfl) (by kernel_rfl) (by kernel_rfl) (fun _ _ _ h => h) (Or.inl ⟨by rfl, fun z hz => ?_⟩) hS0 ?_
      · obtain ⟨⟨z1, z2, z3⟩, z4, z5, z6, z7, z8⟩ := hz
        go_simp
      try simp only [qA, qB, qC, Act.put, qD, qE, qF]
      refine wpAnyH_ready (rs := [3]) (by kernel_rfl) (by simp) ?_
      refine AllReadyH.cons rfl (fun K hK => ?_) AllReadyH.nil
      go_simp
      refine (cur_anyStroke w.heap.size C 5002 _ (by decide) HPD.out.cur).mono ?_
      rintro e v8 ⟨k, rfl, hc⟩
      have HPD := Lib.hid (HPD.out.curs hc)
      refine hK.out _ _ ⟨HPD.out.d, HPD.out.t⟩ (fun hS0 => ?_)
      clear hK K hc
      try simp only [qA, qB, qC, Act.put, qD, qE, qF]
      obtain ⟨f3, f4, f5, f6, hc1⟩ := HPD.out.mid
      obtain ⟨e0, e1, e2, hrd, hrw, hbl, hc2⟩ := HPD.out.fin
      have HRD := Lib.hid hrd; have HRW := Lib.hid hrw; have HBL := Lib.hid hbl
      clear hrd hrw hbl
      obtain ⟨r0, r1, r2⟩ := HPD.out.r2
      have hlow := HPD.out.low
      refine wpAnyH_ready (rs := [4]) (by kernel_rfl) (by simp) ?_
      refine AllReadyH.cons rfl (fun K hK => ?_) AllReadyH.nil
      go_simp
      refine hK.out _ _ ⟨hS0.1.stand hc1 (by omega), hS0.2.stand hc1 (by omega)⟩ (fun hS1 => ?_)
      clear hK K
      try simp only [qA, qB, qC, Act.put, qD, qE, qF]
      refine wpAnyH_ready (rs := [5]) (by kernel_rfl) (by simp) ?_
      refine AllReadyH.cons rfl (fun K hK => ?_) AllReadyH.nil
      go_simp
      refine hK.out _ _ ⟨hS0.1.stand hc2 (by omega), hS0.2.stand hc2 (by omega)⟩ (fun hS2 => ?_)
      clear hK K
      try simp only [qA, qB, qC, Act.put, qD, qE, qF]
      refine wpAnyH_ready (rs := [6]) (by kernel_rfl) (by simp) ?_
      refine AllReadyH.cons rfl (fun K hK => ?_) AllReadyH.nil
      go_simp
      refine hK.out _ _ hS2 (fun hS3 => ?_)
      clear hK K
      try simp only [qA, qB, qC, Act.put, qD, qE, qF]
      refine wpAnyH_done (by kernel_rfl) ?_ _
      clear hS0 hS1 hS2 hS3 r0 r1 r2 f3 f4 f5 f6
      go_wp2
      refine bodyPost_ret (v := .tuple #[.agg #[(.slice ua l.length uc)], transV (.slice va st.length vc) sc, .int .i64 k]) (by simp [transV, e0, e1, e2, results, Tryz.results37, go_sem]) rfl ⟨l, _, st, _, sc, k, rfl, HDR.out, HRD.out, HRW.out, HLN.out.1, HLN.out.2, HBL.out⟩
    · have n1 : ¬ (p : Int) = 1 := by omega
      have HPD := Lib.hid (HP.out.below (Below.refl _ _).drew)
      clear HP
      go_upto_region 8 with fail
      refine wp_region_held_drew (S := fun z => DBx b (.slice ua l.length uc) z ∧ TBx (b + 1) (.slice va st.length vc) sc z) (by kernel_rfl) ⟨HPD.out.d, HPD.out.t⟩ (fun hS0 => ?_)
      generalize w4.drew = v9 at *
      refine wpAnyH_take (i := 0) (v := .agg #[(.slice ua l.length uc)]) rfl (by kernel_rfl) (by kernel_rfl) (by kernel_rfl) (fun _ _ _ h => h) (Or.inl ⟨by rfl, fun z hz => ?_⟩) hS0 ?_
      · obtain ⟨⟨z1, z2, z3⟩, z4, z5, z6, z7, z8⟩ := hz
        go_simp
      try simp only [qA, qB, Act.put, qD, qE, qF]
      refine wpAnyH_take (i := 1) (v := .agg #[(.slice va st.length vc), .string (S sc)]) rfl (by kernel_rfl) (by kernel_rfl) (by kernel_rfl) (fun _ _ _ h => h) (Or.inl ⟨by rfl, fun z hz => ?_⟩) hS0 ?_
      · obtain ⟨⟨z1, z2, z3⟩, z4, z5, z6, z7, z8⟩ := hz
        go_simp
      try simp only [qA, qB, qC, Act.put, qD, qE, qF]
      refine wpAnyH_take (i := 2) (v := .pointer (some ⟨C, 0, none⟩)) rfl (by kernel_rfl) (by kernel_rfl) (by kernel_rfl) (fun _ _ _ h => h) (Or.inl ⟨by rfl, fun z hz => ?_⟩) hS0 ?_
      · obtain ⟨⟨z1, z2, z3⟩, z4, z5, z6, z7, z8⟩ := hz
        go_simp
      try simp only [qA, qB, qC, Act.put, qD, qE, qF]
      refine wpAnyH_ready (rs := [3]) (by kernel_rfl) (by simp) ?_
      refine AllReadyH.cons rfl (fun K hK => ?_) AllReadyH.nil
      go_simp
      refine (cur_few w.heap.size C 5002 _ (by decide) HPD.out.cur).mono ?_
      rintro e v8 ⟨k, rfl, hc⟩
      have HPD := Lib.hid (HPD.out.curs hc)
      refine hK.out _ _ ⟨HPD.out.d, HPD.out.t⟩ (fun hS0 => ?_)
      clear hK K hc
      try simp only [qA, qB, qC, Act.put, qD, qE, qF]
      obtain ⟨f3, f4, f5, f6, hc1⟩ := HPD.out.mid
      obtain ⟨e0, e1, e2, hrd, hrw, hbl, hc2⟩ := HPD.out.fin
      have HRD := Lib.hid hrd; have HRW := Lib.hid hrw; have HBL := Lib.hid hbl
      clear hrd hrw hbl
      obtain ⟨r0, r1, r2⟩ := HPD.out.r2
      have hlow := HPD.out.low
      refine wpAnyH_ready (rs := [4]) (by kernel_rfl) (by simp) ?_
      refine AllReadyH.cons rfl (fun K hK => ?_) AllReadyH.nil
      go_simp
      refine hK.out _ _ ⟨hS0.1.stand hc1 (by omega), hS0.2.stand hc1 (by omega)⟩ (fun hS1 => ?_)
      clear hK K
      try simp only [qA, qB, qC, Act.put, qD, qE, qF]
      refine wpAnyH_ready (rs := [5]) (by kernel_rfl) (by simp) ?_
      refine AllReadyH.cons rfl (fun K hK => ?_) AllReadyH.nil
      go_simp
      refine hK.out _ _ ⟨hS0.1.stand hc2 (by omega), hS0.2.stand hc2 (by omega)⟩ (fun hS2 => ?_)
      clear hK K
      try simp only [qA, qB, qC, Act.put, qD, qE, qF]
      refine wpAnyH_ready (rs := [6]) (by kernel_rfl) (by simp) ?_
      refine AllReadyH.cons rfl (fun K hK => ?_) AllReadyH.nil
      go_simp
      refine hK.out _ _ hS2 (fun hS3 => ?_)
      clear hK K
      try simp only [qA, qB, qC, Act.put, qD, qE, qF]
      refine wpAnyH_done (by kernel_rfl) ?_ _
      clear hS0 hS1 hS2 hS3 r0 r1 r2 f3 f4 f5 f6
      go_wp2
      refine bodyPost_ret (v := .tuple #[.agg #[(.slice ua l.length uc)], transV (.slice va st.length vc) sc, .int .i64 k]) (by simp [transV, e0, e1, e2, results, Tryz.results37, go_sem]) rfl ⟨l, _, st, _, sc, k, rfl, HDR.out, HRD.out, HRW.out, HLN.out.1, HLN.out.2, HBL.out⟩
end Go.Proofs.YtmlklnimoknojaaGreatDoor
