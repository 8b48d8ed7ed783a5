/- Walks: the program plants a trie of a dictionary's entries. Walks: the reference adds the nodes of a dictionary's entries. Walks: the trie of a dictionary (program and reference). -/
import Derived.Deep.DeepCutAuto
import Derived.BigRegion
import Derived.RegionTactic
import Derived.Test.YtkjidjomlpnnlaaGreatDoorTrieB
namespace Go.Proofs.YtkjidjomlpnnlaaGreatDoor
section
open Go Go.RowKit
set_option maxHeartbeats 8000000
set_option maxRecDepth 100000
/-- what a read of the builder and the node's box needs -/
def KPl (R N : Nat) (u su cu : Value) (t : Bool) (x : Str) (v : World) : Prop := BL R u v ∧ NB N su cu t x v
theorem KPl.stand {R N : Nat} {u su cu : Value} {t : Bool} {x : Str} {v v' : World} {X : Blk} (h : KPl R N u su cu t x v) (hc : Chg X v v') (h1 : ¬ X R) (h2 : ¬ X N) : KPl R N u su cu t x v' := ⟨h.1.stand hc h1, h.2.stand hc h2⟩
theorem KPl.below {R N : Nat} {u su cu : Value} {t : Bool} {x : Str} {v v' : World} (h : KPl R N u su cu t x v) (hb : Below v.heap.size v v') : KPl R N u su cu t x v' := ⟨h.1.below hb, h.2.below hb⟩
/-- how the loop over a node's entries stands -/
structure PL (wb w : World) (R N f : Nat) (es : P.Dic) (p : List Int) (u : Value) (G : Nat → Blk) (l : P.Tri) (ob : Bool) (ot : Str) (n : Nat) (left : P.Dic) (s c : List Int) (nodes : P.Tri) (ev ur : Value) (Gr : Nat → Blk) (Cr : Nat → List Value) (su cu : Value) (nd : P.Nd) (v : World) : Prop where
  ev : EntR wb ev left
  le : left.length ≤ es.length
  half : P.Half f p.length l.length es n left s c nodes
  sh : P.Shared p left
  lg : ∀ e ∈ left, p.length < e.1.length
  pi : PI w R N u G l ob ot v ur Gr Cr (l ++ nd :: nodes) su cu s c
theorem P.head_at {d : Nat} {l : P.Dic} (h : 0 < l.length) : P.strokeAt d (l[0]'h) = P.headStroke d l := by
  cases l with
  | nil => exact absurd h (Nat.lt_irrefl _)
  | cons e l => rfl
theorem plant (wb : World) (R : Nat) (hR : wb.heap.size ≤ R) : ∀ (f : Nat) (es : P.Dic) (p : List Int) (ev u : Value) (G : Nat → Blk) (C : Nat → List Value) (l : P.Tri) (w : World), f + p.length = 7 → (0 < f ∨ es ≠ []) → P.Shared p es → es.length ≤ 2 ^ 20 → EntR wb ev es → Below wb.heap.size wb w → BL R u w → AccY 162 4 nodE (R + 1) w u G C l →
    l.length + (P.build f p.length l.length es).length ≤ 2 ^ 20 →
    Calls Tryz.prog 178 #[.pointer (some ⟨R, 0, none⟩), ev, .int .i64 p.length] w fun e w' => e = .returned (.int .i64 l.length) ∧ Planted R (P.build f p.length l.length es) u G l w w' := by
  intro f
  induction f with
  | zero =>
    intro es p ev u G C l w hf hne hsh _ _ _ _ _ _
    rcases hne with h | h
    · exact absurd h (Nat.lt_irrefl _)
    · obtain ⟨e, he⟩ := List.exists_mem_of_ne_nil es h
      have := hsh.ge e he; have := hsh.len e he; omega
  | succ f ih =>
    intro es p ev u G C l w hf _ hsh hes hev hb hbl hacc hsz
    have IH := Lib.hid ih; clear ih
    obtain ⟨i0, hi, hz0, hz1, hz2⟩ := info_parts info_int
    obtain ⟨j0, hj, hy0, hy1, hy2⟩ := info_parts info_nod
    obtain ⟨uad, ucap, hu⟩ := hacc.form
    obtain ⟨ob, ot, hot⟩ : ∃ ob ot, P.ownText p.length es = (ob, ot) := ⟨_, _, rfl⟩
    have HOT := Lib.hid hot; clear hot
    have hRw := hbl.2.2
    have huz := fun b h => (hacc.lt b h).2
    have HUL := Lib.hid (fun b h => (hacc.lt b h).1)
    have hgz := fun j b hj h => (hacc.sub j hj b h).2.1
    subst hu
    obtain ⟨ead, ecap, rfl, hel, _⟩ := id hev
    have HEV := Lib.hid hev; have HB := Lib.hid hb; have HBL := Lib.hid hbl; have HACC := Lib.hid hacc; have HSH := Lib.hid hsh; have HUZ := Lib.hid huz; have HGZ := Lib.hid hgz; have HF := Lib.hid hf
    obtain ⟨c0, _⟩ := hbl
    clear hev hb hacc hsh huz hgz hf
    go_enter Tryz.func178, Tryz.ntmps178
    go_upto_region 3 with fail
    have HB0 := Lib.hid (show Below w.heap.size w (((w.alloc (.cells #[] 3)).alloc (.cells #[] 3)).alloc (.cells #[.slice (some ⟨w.heap.size, 0, none⟩) 0 0, .slice (some ⟨w.heap.size + 1, 0, none⟩) 0 0, .bool false, .string (S [])] 162)) from (((Below.refl w.heap.size w).alloc (Nat.le_refl _) _).alloc (by simp) _).alloc (by simp; omega) _)
    have HBX := Lib.hid (show NB (w.heap.size + 1 + 1) (.slice (some ⟨w.heap.size, 0, none⟩) 0 0) (.slice (some ⟨w.heap.size + 1, 0, none⟩) 0 0) false [] (((w.alloc (.cells #[] 3)).alloc (.cells #[] 3)).alloc (.cells #[.slice (some ⟨w.heap.size, 0, none⟩) 0 0, .slice (some ⟨w.heap.size + 1, 0, none⟩) 0 0, .bool false, .string (S [])] 162)) by refine ⟨?_, ?_, ?_, ?_, ?_, ?_, ?_, ?_, ?_⟩ <;> go_simp)
    have HSO := Lib.hid (show (((w.alloc (.cells #[] 3)).alloc (.cells #[] 3)).alloc (.cells #[.slice (some ⟨w.heap.size, 0, none⟩) 0 0, .slice (some ⟨w.heap.size + 1, 0, none⟩) 0 0, .bool false, .string (S [])] 162)).ownsRow w.heap.size 3 1 (.slice (some ⟨w.heap.size, 0, none⟩) 0 0) 0 [] from
      ((World.ownsRow_lit (base := w.heap.size) (e := 3) (size := 1) w #[] 0 (Nat.le_refl _) (Nat.zero_le _) (by simp)).alloc _).alloc _)
    have HCO := Lib.hid (show (((w.alloc (.cells #[] 3)).alloc (.cells #[] 3)).alloc (.cells #[.slice (some ⟨w.heap.size, 0, none⟩) 0 0, .slice (some ⟨w.heap.size + 1, 0, none⟩) 0 0, .bool false, .string (S [])] 162)).ownsRow w.heap.size 3 1 (.slice (some ⟨w.heap.size + 1, 0, none⟩) 0 0) 0 [] from by
      have h := (World.ownsRow_lit (base := w.heap.size) (e := 3) (size := 1) (w.alloc (.cells #[] 3)) #[] 0 (by simp) (Nat.zero_le _) (by simp)).alloc (.cells #[.slice (some ⟨w.heap.size, 0, none⟩) 0 0, .slice (some ⟨w.heap.size + 1, 0, none⟩) 0 0, .bool false, .string (S [])] 162)
      simpa using h)
    generalize ((w.alloc (.cells #[] 3)).alloc (.cells #[] 3)).alloc (.cells #[.slice (some ⟨w.heap.size, 0, none⟩) 0 0, .slice (some ⟨w.heap.size + 1, 0, none⟩) 0 0, .bool false, .string (S [])] 162) = v0 at *
    have HBL0 := Lib.hid (HBL.out.below HB0.out); have HACC0 := Lib.hid (HACC.out.keep nodE_ok HB0.out)
    have HBW := Lib.hid (HB.out.trans (HB0.out.mono HB.out.size))
    have HEV0 := Lib.hid (HEV.out.below HBW.out)
    clear HBL HACC c0
    go_cut [30] (fun b wx => b = .bool ob ∧ wx = v0)
    case first =>
      by_cases h0 : 0 < es.length
      · obtain ⟨g, o, hga, hgl, x, c1, c2, hx⟩ := HEV0.out.at 0 h0
        simp only [Nat.zero_mul, Nat.add_zero] at c1 c2 hx
        obtain ⟨xd, xc, rfl, _, _⟩ := hx
        subst hga
        by_cases hl : es[0].1.length = p.length
        · have hh := HOT.out
          rw [(P.own_yes p.length es h0 hl).1] at hh
          injection hh with hh1 hh2
          subst hh1 hh2
          have hb : ((es[0].1.length : Int) == (p.length : Int)) = true := by simp [hl]
          clear hl
          go_wp2
          go_meet
          case rel => exact ⟨rfl, rfl⟩
        · have hh := HOT.out
          rw [(P.own_no p.length es h0 hl).1] at hh
          injection hh with hh1 hh2
          subst hh1 hh2
          have hb : ((es[0].1.length : Int) == (p.length : Int)) = false := by simp; omega
          clear hl
          go_wp2
          go_meet
          case rel => exact ⟨rfl, rfl⟩
      · have hh := HOT.out
        rw [(P.own_none p.length es (by omega)).1] at hh
        injection hh with hh1 hh2
        subst hh1 hh2
        go_wp2
        go_meet
        case rel => exact ⟨rfl, rfl⟩
    case rest =>
      obtain ⟨rfl, rfl⟩ := hcut
      go_upto_if 30 with fail
      go_cut [1] (fun ev2 wx => ∃ ad2 cap2, ev2 = .slice ad2 (P.rest p.length es).length cap2 ∧ EntR wb ev2 (P.rest p.length es) ∧ NB (w.heap.size + 1 + 1) (.slice (some ⟨w.heap.size, 0, none⟩) 0 0) (.slice (some ⟨w.heap.size + 1, 0, none⟩) 0 0) ob ot wx ∧ Chg (fun b => b = w.heap.size + 1 + 1) wc wx)
      case first =>
        by_cases h0 : 0 < es.length
        · by_cases hl : es[0].1.length = p.length
          · obtain ⟨hown, hrest⟩ := P.own_yes p.length es h0 hl
            obtain ⟨ad', hsl, hE1⟩ := ent_from HEV.out 1 h0 1 rfl
            have HE1 := Lib.hid hE1; clear hE1
            obtain ⟨g, o, hga, hgl, x, c1, c2, hx⟩ := HEV.out.at 0 h0
            simp only [Nat.zero_mul, Nat.add_zero] at c1 c2
            have c2 := (HBW.out.cell (p := ⟨g, o + 1, none⟩) hgl).trans c2
            have hgw : g < w.heap.size := Nat.lt_of_lt_of_le hgl HB.out.size
            have hgN : g ≠ w.heap.size + 1 + 1 := by omega
            subst hga
            have hh := HOT.out
            rw [hown] at hh
            injection hh with hh1 hh2
            rw [hh2] at c2
            subst hh1
            have HR := Lib.hid hrest
            obtain ⟨q0, q1, q2, q3, f0, f1, f2, f3, hlt⟩ := HBX.out
            clear hown hrest hl c1 hx q0 q1 hh2
            go_upto_region 4 with fail
            go_region
            go_wp2
            go_meet
            case rel =>
              refine ⟨ad', ecap - 1, ?_, ?_, ?_, ?_⟩
              · rw [HR.out, List.length_drop]
              · rw [HR.out]; exact HE1.out
              · have h := (HBX.out.put2 (t' := true)).put3 (s' := ot); exact h.below (Below.refl _ _).drew
              · exact (((Chg.refl (fun b => b = w.heap.size + 1 + 1) wc).setCell (p := ⟨w.heap.size + 1 + 1, 2, none⟩) rfl _).setCell (p := ⟨w.heap.size + 1 + 1, 3, none⟩) rfl _).drew
          · obtain ⟨hown, hrest⟩ := P.own_no p.length es h0 hl
            have hh := HOT.out
            rw [hown] at hh
            injection hh with hh1 hh2
            subst hh1 hh2
            have HR := Lib.hid hrest
            clear hown hrest hl
            go_wp2
            go_meet
            case rel => exact ⟨ead, ecap, by rw [HR.out], by rw [HR.out]; exact HEV.out, HBX.out, Chg.refl _ _⟩
        · obtain ⟨hown, hrest⟩ := P.own_none p.length es (by omega)
          have hh := HOT.out
          rw [hown] at hh
          injection hh with hh1 hh2
          subst hh1 hh2
          have HR := Lib.hid hrest
          clear hown hrest
          go_wp2
          go_meet
          case rel => exact ⟨ead, ecap, by rw [HR.out], by rw [HR.out]; exact HEV.out, HBX.out, Chg.refl _ _⟩
      case rest =>
        obtain ⟨ad2, cap2, rfl, hev2, hnb, hchg⟩ := hcut
        have hnu : ∀ k, k = w.heap.size + 1 + 1 → (Value.slice uad l.length ucap).ownBlock ≠ some k ∧ ∀ j, j < l.length → ¬ G j k := fun k hk => ⟨fun e => by have := HUZ.out k e; omega, fun j hj e => by have := HGZ.out j k hj e; omega⟩
        have hd := (Below.refl wc.heap.size wc).drew
        have HBL2 := Lib.hid ((HBL0.out.stand hchg (fun e => by omega)).below hd); have HACC2 := Lib.hid ((HACC0.out.stand nodE_ok hchg hnu).keep nodE_ok hd)
        have HSO2 := Lib.hid (owns_st (owns_st HSO.out hchg fun k hk e => by simp only [Value.ownBlock, Option.some.injEq] at hk; omega) (Below.chg hd fun _ => False) fun _ _ h => h)
        have HCO2 := Lib.hid (owns_st (owns_st HCO.out hchg fun k hk e => by simp only [Value.ownBlock, Option.some.injEq] at hk; omega) (Below.chg hd fun _ => False) fun _ _ h => h)
        have HNB2 := Lib.hid (hnb.below hd)
        have hB2 : Below w.heap.size w wc := ((Below.chg HB0.out fun _ => False).late hchg (fun b hb => .inr (by omega))).below0
        have HB2 := Lib.hid (hB2.trans (hd.mono hB2.size))
        have HS := Lib.hid (show KPl R (w.heap.size + 1 + 1) (.slice uad l.length ucap) (.slice (some ⟨w.heap.size, 0, none⟩) 0 0) (.slice (some ⟨w.heap.size + 1, 0, none⟩) 0 0) ob ot wc.drew from ⟨HBL2.out, HNB2.out⟩)
        have HEV2 := Lib.hid hev2
        clear hev2 hnb hchg hnu hd hB2 HBL0 HACC0 HSO HCO HBX HB0 HBW HEV0
        go_upto_region 6 with fail
        refine Left.region [10] (S := KPl R (w.heap.size + 1 + 1) (.slice uad l.length ucap) (.slice (some ⟨w.heap.size, 0, none⟩) 0 0) (.slice (some ⟨w.heap.size + 1, 0, none⟩) 0 0) ob ot) (by kernel_rfl) HS.out (fun hS0 => ?_)
        generalize wc.drew = v1 at *
        refine Left.take (i := 0) (v := .pointer (some ⟨R, 0, none⟩)) rfl (by kernel_rfl) (by kernel_rfl) (by kernel_rfl) (by kernel_rfl) (fun _ _ _ h => h) (Or.inl ⟨by rfl, fun z hz => ?_⟩) hS0 ?_
        · obtain ⟨⟨z1, z2, z3⟩, ⟨c0, c1, c2, c3, f0, f1, f2, f3, hl⟩⟩ := hz
          go_simp
        try simp only [qA, qB, Act.put, qD, qE, qF]
        refine Left.take (i := 1) (v := .pointer (some ⟨R, 0, none⟩)) rfl (by kernel_rfl) (by kernel_rfl) (by kernel_rfl) (by kernel_rfl) (fun _ _ _ h => h) (Or.inl ⟨by rfl, fun z hz => ?_⟩) hS0 ?_
        · obtain ⟨⟨z1, z2, z3⟩, ⟨c0, c1, c2, c3, f0, f1, f2, f3, hl⟩⟩ := hz
          go_simp
        try simp only [qA, qB, qC, Act.put, qD, qE, qF]
        refine Left.take (i := 2) (v := .pointer (some ⟨R, 0, none⟩)) rfl (by kernel_rfl) (by kernel_rfl) (by kernel_rfl) (by kernel_rfl) (fun _ _ _ h => h) (Or.inl ⟨by rfl, fun z hz => ?_⟩) hS0 ?_
        · obtain ⟨⟨z1, z2, z3⟩, ⟨c0, c1, c2, c3, f0, f1, f2, f3, hl⟩⟩ := hz
          go_simp
        try simp only [qA, qB, qC, Act.put, qD, qE, qF]
        refine Left.take (i := 3) (v := .pointer (some ⟨R, 0, none⟩)) rfl (by kernel_rfl) (by kernel_rfl) (by kernel_rfl) (by kernel_rfl) (fun _ _ _ h => h) (Or.inl ⟨by rfl, fun z hz => ?_⟩) hS0 ?_
        · obtain ⟨⟨z1, z2, z3⟩, ⟨c0, c1, c2, c3, f0, f1, f2, f3, hl⟩⟩ := hz
          go_simp
        try simp only [qA, qB, qC, Act.put, qD, qE, qF]
        refine Left.take (i := 4) (v := .slice uad l.length ucap) rfl (by kernel_rfl) (by kernel_rfl) (by kernel_rfl) (by kernel_rfl) (fun _ _ _ h => h) (Or.inl ⟨by rfl, fun z hz => ?_⟩) hS0 ?_
        · obtain ⟨⟨z1, z2, z3⟩, ⟨c0, c1, c2, c3, f0, f1, f2, f3, hl⟩⟩ := hz
          go_simp
        try simp only [qA, qB, qC, Act.put, qD, qE, qF]
        refine Left.take (i := 5) (v := .agg #[(.slice (some ⟨w.heap.size, 0, none⟩) 0 0), (.slice (some ⟨w.heap.size + 1, 0, none⟩) 0 0), .bool ob, .string (S ot)]) rfl (by kernel_rfl) (by kernel_rfl) (by kernel_rfl) (by kernel_rfl) (fun _ _ _ h => h) (Or.inl ⟨by rfl, fun z hz => ?_⟩) hS0 ?_
        · obtain ⟨⟨z1, z2, z3⟩, ⟨c0, c1, c2, c3, f0, f1, f2, f3, hl⟩⟩ := hz
          go_simp
        try simp only [qA, qB, qC, Act.put, qD, qE, qF]
        refine Left.ready (rs := [6]) (by kernel_rfl) (by simp) ?_
        refine Nexts.cons rfl (fun K hK => ?_) Nexts.nil
        go_simp
        refine on_held hK (by decide) (hS0.below ((Below.refl v1.heap.size v1).alloc (Nat.le_refl _) _)) (fun hS1 => ?_)
        clear hK K
        try simp only [qA, qB, qC, Act.put, qD, qE, qF]
        refine Left.ready (rs := [7]) (by kernel_rfl) (by simp) ?_
        refine Nexts.cons rfl (fun K hK => ?_) Nexts.nil
        have hba := (Below.refl v1.heap.size v1).alloc (Nat.le_refl _) (.cells #[.slice (some ⟨w.heap.size, 0, none⟩) 0 0, .slice (some ⟨w.heap.size + 1, 0, none⟩) 0 0, .bool ob, .string (S ot)] 162)
        have HA3 := Lib.hid (HACC2.out.keep nodE_ok hba)
        have hzv := HB2.out.size
        refine step_append_lies _ rfl _ _ 84 rfl (R + 1) 162 j0 (.agg #[.slice none 0 0, .slice none 0 0, .bool false, .string ⟨#[]⟩]) 4 72 Tryz.underlying84 hj hy0 hy1 hy2 rfl (by decide) (.slice uad l.length ucap) l.length (flat C l.length) rfl HA3.out.owns ⟨v1.heap.size, 0, none⟩ 1 1 [.slice (some ⟨w.heap.size, 0, none⟩) 0 0, .slice (some ⟨w.heap.size + 1, 0, none⟩) 0 0, .bool ob, .string (S ot)] rfl rfl ?_ ?_ (by decide) (by unfold maxLen; omega) (by omega) ?_ _ rfl ?_
        · intro i y hy
          match i, hy with
          | 0, hy => injection hy with hy; subst hy; rw [add0]; go_simp
          | 1, hy => injection hy with hy; subst hy; rw [add0]; go_simp
          | 2, hy => injection hy with hy; subst hy; rw [add0]; go_simp
          | 3, hy => injection hy with hy; subst hy; rw [add0]; go_simp
        · intro y hy
          simp only [List.mem_cons, List.not_mem_nil, or_false] at hy
          rcases hy with rfl | rfl | rfl | rfl <;> rfl
        · simp; omega
        intro g1 cap1 v3 hown hgr hat hlt3
        have hch := chg_grown hgr
        have hS3 := hS1.stand hch (fun e => by have := (HA3.out.lt R e).1; omega) (fun e => by have := HUZ.out _ e; omega)
        have HPI := Lib.hid (PI.start (w := w) (nd := ([], [], ob, ot)) (HBL2.out.below hba) HA3.out (HNB2.out.below hba) (HB2.out.trans (hba.mono hzv)) (by omega) (by omega) HUZ.out HGZ.out (HSO2.out.alloc _) (HCO2.out.alloc _) (by simp only [Value.ownBlock, ne_eq, Option.some.injEq]; omega) (by simp only [Value.ownBlock, ne_eq, Option.some.injEq]; omega) (fun b h1 h2 => by simp only [Value.ownBlock, Option.some.injEq] at h1 h2; omega)
          (show nodE v3 (fun _ => False) [.slice (some ⟨w.heap.size, 0, none⟩) 0 0, .slice (some ⟨w.heap.size + 1, 0, none⟩) 0 0, .bool ob, .string (S ot)] ([], [], ob, ot) from ⟨_, _, fun _ => False, fun _ => False, rfl, RowO.empty _ _ _ _, RowO.empty _ _ _ _, fun _ h => h, fun _ h => h, fun _ h _ => h⟩) rfl hown hgr hat)
        refine on_held hK (by decide) hS3 (fun hS4 => ?_)
        clear hK K hown hgr hat hS1 hS0 hch hS3 hba HA3
        try simp only [qA, qB, qC, Act.put, qD, qE, qF]
        refine Left.take (i := 8) (v := .pointer (some ⟨R, 0, none⟩)) rfl (by kernel_rfl) (by kernel_rfl) (by kernel_rfl) (by kernel_rfl) (fun _ _ _ h => h) (Or.inl ⟨by rfl, fun z hz => ?_⟩) hS4 ?_
        · obtain ⟨⟨z1, z2, z3⟩, ⟨c0, c1, c2, c3, f0, f1, f2, f3, hl⟩⟩ := hz
          go_simp
        try simp only [qA, qB, qC, Act.put, qD, qE, qF]
        refine Left.take (i := 9) (v := .pointer (some ⟨R, 0, none⟩)) rfl (by kernel_rfl) (by kernel_rfl) (by kernel_rfl) (by kernel_rfl) (fun _ _ _ h => h) (Or.inl ⟨by rfl, fun z hz => ?_⟩) hS4 ?_
        · obtain ⟨⟨z1, z2, z3⟩, ⟨c0, c1, c2, c3, f0, f1, f2, f3, hl⟩⟩ := hz
          go_simp
        try simp only [qA, qB, qC, Act.put, qD, qE, qF]
        refine Left.ready (rs := [10]) (by kernel_rfl) (by simp) ?_
        refine Nexts.cons rfl (fun K hK => ?_) Nexts.nil
        obtain ⟨⟨z1, z2, _⟩, _⟩ := hS4
        go_simp
        refine on_last hK (by decide) ?_
        clear hK K z1 z2
        try simp only [qA, qB, qC, Act.put, qD, qE, qF]
        refine Left.done (by kernel_rfl) ?_ _
        clear HS HBL2 HACC2 HSO2 HCO2 HNB2 HB2
        generalize v3.setCell ⟨R, 0, none⟩ (.slice (some ⟨g1, 0, none⟩) (l.length + 1) cap1) = v4 at *
        have HHF := Lib.hid (P.Half.start f p.length l.length es)
        go_wp2_with fail
        go_loopw [1] (fun ev wr => ∃ n left s c nodes ad cap ur Gr Cr su cu, ev = .slice ad left.length cap ∧ PL wb w R (w.heap.size + 1 + 1) f es p (.slice uad l.length ucap) G l ob ot n left s c nodes ev ur Gr Cr su cu ([], [], ob, ot) wr) (fun ev _ => lenV ev)
        case atStart => exact ⟨_, _, [], [], [], ad2, cap2, _, _, _, _, _, rfl, HEV2.out, HHF.out.le, HHF.out, HSH.out.rest.1, HSH.out.rest.2, HPI.out⟩
        case round =>
          obtain ⟨n, left, s, c, nodes, ad, cap, ur, Gr, Cr, su, cu, rfl, hpl⟩ := hrel
          clear HPI HHF HEV2
          have HPL := Lib.hid hpl
          have HBR := Lib.hid (show Below wb.heap.size wb wr from HB.out.trans (hpl.pi.chg.below HB.out.size (fun b hb => hb.elim (fun e => by omega) (fun e => by have := HUL.out b e; omega))))
          have HER := Lib.hid (hpl.ev.below HBR.out)
          by_cases hne : 0 < left.length
          · obtain ⟨st, hst⟩ : ∃ st, P.headStroke p.length left = st := ⟨_, rfl⟩
            have hlg0 := hpl.lg _ (List.getElem_mem hne)
            obtain ⟨g, o, g2, o2, xc, hga, _, _, c0, c1⟩ := ent_stroke HER.out 0 hne p.length hlg0
            rw [P.head_at hne, hst] at c1
            have HST := Lib.hid hst; clear hst
            subst hga
            simp only [Nat.zero_mul, Nat.add_zero] at c0
            have i2 : (p.length : Int) < (left[0].1.length : Int) := by omega
            have hll : left.length ≤ 2 ^ 45 := by obtain ⟨_, _, _, h, _⟩ := hpl.ev; exact h.1
            clear hpl
            go_upto_block 2 with fail
            have hfl := P.front_len p.length left
            go_cut [10] (fun m wx => m = .int .i64 (P.front p.length left).length ∧ wx = wr)
            case first =>
              go_wp2_with fail
              go_loop [10] (fun m => ∃ k : Nat, k ≤ (P.front p.length left).length ∧ m = .int .i64 k) (fun m => (P.front p.length left).length - (intOf m).toNat)
              case atStart => exact ⟨0, Nat.zero_le _, rfl⟩
              case round =>
                obtain ⟨k, hk, rfl⟩ := hrel
                by_cases hlt : k < (P.front p.length left).length
                · have hkl : k < left.length := by omega
                  have hlk := HPL.out.lg _ (List.getElem_mem hkl)
                  obtain ⟨g', o', g3, o3, xc3, hga, _, _, d0, d1⟩ := ent_stroke HER.out k hkl p.length hlk
                  rw [P.front_same p.length left k hlt hkl, HST.out] at d1
                  injection hga with hga
                  injection hga with hga1 hga2
                  subst hga1 hga2
                  have i1 : (k : Int) < (left.length : Int) := by omega
                  have i3 : (p.length : Int) < (left[k].1.length : Int) := by omega
                  go_wp2
                  go_round
                  case rel => exact ⟨k + 1, by omega, by go_num⟩
                  case measure => simp [intOf]; omega
                · have hke : k = (P.front p.length left).length := by omega
                  by_cases hkl : k < left.length
                  · have hlk := HPL.out.lg _ (List.getElem_mem hkl)
                    obtain ⟨g', o', g3, o3, xc3, hga, _, _, d0, d1⟩ := ent_stroke HER.out k hkl p.length hlk
                    have hnx := P.front_next p.length left (by omega)
                    have hnx2 : P.strokeAt p.length left[k] ≠ st := by
                      have e := HST.out
                      subst hke
                      rw [← e]; exact hnx
                    have hq : (P.strokeAt p.length left[k] == st) = false := by simpa using hnx2
                    injection hga with hga
                    injection hga with hga1 hga2
                    subst hga1 hga2
                    have i1 : (k : Int) < (left.length : Int) := by omega
                    have i3 : (p.length : Int) < (left[k].1.length : Int) := by omega
                    have HKE := Lib.hid hke
                    clear hnx hnx2 hke
                    go_wp2
                    go_meet
                    case rel => exact ⟨by rw [HKE.out], rfl⟩
                  · have i1 : ¬ (k : Int) < (left.length : Int) := by omega
                    have HKE := Lib.hid hke
                    clear hke
                    go_wp2
                    go_meet
                    case rel => exact ⟨by rw [HKE.out], rfl⟩
            case rest =>
              obtain ⟨rfl, rfl⟩ := hcut
              obtain ⟨sad, scap, hsu⟩ := own_form HPL.out.pi.so
              obtain ⟨cad, ccap, hcu⟩ := own_form HPL.out.pi.co
              subst hsu hcu
              have hpi := HPL.out.pi
              have hsm := HPL.out.half.small
              have hba := (Below.refl wc.heap.size wc).alloc (Nat.le_refl _) (.cells #[.int .i64 st] 3)
              have HP1 := Lib.hid (hpi.below hba)
              have hzw := hpi.chg.size
              have hnz := hpi.box.lt
              have hsn := hpi.ns
              obtain ⟨q0, q1, q2, q3, f0, f1, f2, f3, _⟩ := hpi.box
              clear hpi hba c0 c1 i2 q1 q2 q3 f1 f2 f3 hlg0
              go_wp2_with (at_builtin; refine wpList_append_lies _ rfl _ _ 27 rfl w.heap.size 3 i0 (.int .i64 0) 1 8 Tryz.underlying27 hi hz0 hz1 hz2 rfl (by decide) (.slice sad s.length scap) s.length (ints s) rfl HP1.out.so ⟨wc.heap.size, 0, none⟩ 1 1 [.int .i64 st] rfl rfl ?_ ?_ (Nat.zero_lt_one) ?_ ?_ ?_ _ rfl ?_)
              · intro i y hy
                match i, hy with
                | 0, hy => injection hy with hy; subst hy; rw [add0]; go_simp
              · intro y hy
                simp only [List.mem_cons, List.not_mem_nil, or_false] at hy
                subst hy; rfl
              · unfold maxLen; omega
              · omega
              · simp; omega
              intro g3 cap3 v5 hown hgr hat hlt5
              have HP2 := Lib.hid (HP1.out.stroke (a := st) hown hgr (hat.imp id fun h => h.trans (by simp)))
              have hnb5 := HP1.out.box.stand (chg_grown hgr) (fun e => (hsn _ e).1 rfl)
              obtain ⟨b0, _, _, _, k0, _⟩ := hnb5
              clear hown hgr hat hlt5 q0 f0 HP1 hsn
              go_upto_region 12 with fail
              clear b0 k0
              generalize v5.setCell ⟨w.heap.size + 1 + 1, 0, none⟩ (.slice (some ⟨g3, 0, none⟩) (s.length + 1) cap3) = v6 at *
              obtain ⟨q, hq⟩ : ∃ q, p ++ [st] = q := ⟨_, rfl⟩
              have hql : q.length = p.length + 1 := by rw [← hq]; simp
              obtain ⟨kk, hkk⟩ : ∃ kk, (l ++ ([], [], ob, ot) :: nodes).length = kk := ⟨_, rfl⟩
              have hkl : kk = l.length + 1 + nodes.length := by rw [← hkk]; simp; omega
              obtain ⟨hto, hE2⟩ := ent_to HPL.out.ev (P.front p.length left).length hfl
              obtain ⟨ad3, hfr, hE3⟩ := ent_from HPL.out.ev (P.front p.length left).length hfl _ rfl
              rw [P.front_take] at hE2
              rw [P.front_drop] at hE3
              have hfs := HPL.out.sh.front HPL.out.lg
              have hstep := HPL.out.half.step (List.ne_nil_of_length_pos hne)
              rw [HST.out, hq] at hfs
              rw [HST.out] at hstep
              rw [← hkl, ← hql] at hstep
              have hsm2 := hstep.small
              have HE2 := Lib.hid hE2; have HE3 := Lib.hid hE3; have HFS := Lib.hid hfs; have HSTP := Lib.hid hstep; have HKK := Lib.hid hkk; have HQL := Lib.hid hql; have HKL := Lib.hid hkl
              have hbl2 : kk + (P.build f q.length kk (P.front p.length left)).length ≤ 2 ^ 20 := by
                have := hsm2.2.2; simp only [List.length_append] at this; omega
              have HBL2 := Lib.hid hbl2
              have hfne := P.front_pos p.length left (List.ne_nil_of_length_pos hne)
              have hwr : IntKind.i64.wrap ((p.length : Int) + 1) = (q.length : Int) := by rw [IntWalk.i64_in _ (by have := HF.out; omega), hql]; rfl
              have hb6 := HP2.out.chg.below HB.out.size (fun b hb => hb.elim (fun e => by omega) (fun e => by have := HUL.out b e; omega))
              have HB6 := Lib.hid (HB.out.trans hb6)
              clear hE2 hE3 hfs hstep hkk hql hkl hq hsm2 hbl2 hb6
              have hdd := (Below.refl v6.heap.size v6).drew
              have HP6 := Lib.hid (HP2.out.below hdd)
              have HB7 := Lib.hid (HB6.out.trans (hdd.mono HB6.out.size))
              clear hdd
              refine Left.region [12] (S := NB (w.heap.size + 1 + 1) (.slice (some ⟨g3, 0, none⟩) (s.length + 1) cap3) (.slice cad c.length ccap) ob ot) (by kernel_rfl) HP6.out.box (fun hS0 => ?_)
              generalize v6.drew = v7 at *
              refine Left.take (i := 0) (v := .pointer (some ⟨w.heap.size + 1 + 1, 1, none⟩)) rfl (by kernel_rfl) (by kernel_rfl) (by kernel_rfl) (by kernel_rfl) (fun _ _ _ h => h) (Or.inl ⟨by rfl, fun z hz => ?_⟩) hS0 ?_
              · obtain ⟨c0, c1, c2, c3, f0, f1, f2, f3, hl⟩ := hz
                go_simp
              try simp only [qA, qB, Act.put, qD, qE, qF]
              refine Left.take (i := 1) (v := .slice cad c.length ccap) rfl (by kernel_rfl) (by kernel_rfl) (by kernel_rfl) (by kernel_rfl) (fun _ _ _ h => h) (Or.inl ⟨by rfl, fun z hz => ?_⟩) hS0 ?_
              · obtain ⟨c0, c1, c2, c3, f0, f1, f2, f3, hl⟩ := hz
                go_simp
              try simp only [qA, qB, qC, Act.put, qD, qE, qF]
              refine Left.take (i := 2) (v := .pointer (some ⟨R, 0, none⟩)) rfl (by kernel_rfl) (by kernel_rfl) (by kernel_rfl) (by kernel_rfl) (fun _ _ _ h => h) (Or.inl ⟨by rfl, fun z hz => ?_⟩) hS0 ?_
              · obtain ⟨c0, c1, c2, c3, f0, f1, f2, f3, hl⟩ := hz
                go_simp
              try simp only [qA, qB, qC, Act.put, qD, qE, qF]
              refine Left.take (i := 3) (v := .slice (some ⟨g, o, none⟩) left.length cap) rfl (by kernel_rfl) (by kernel_rfl) (by kernel_rfl) (by kernel_rfl) (fun _ _ _ h => h) (Or.inl ⟨by rfl, fun z hz => ?_⟩) hS0 ?_
              · obtain ⟨c0, c1, c2, c3, f0, f1, f2, f3, hl⟩ := hz
                go_simp
              try simp only [qA, qB, qC, Act.put, qD, qE, qF]
              refine Left.take (i := 4) (v := .int .i64 (P.front p.length left).length) rfl (by kernel_rfl) (by kernel_rfl) (by kernel_rfl) (by kernel_rfl) (fun _ _ _ h => h) (Or.inl ⟨by rfl, fun z hz => ?_⟩) hS0 ?_
              · obtain ⟨c0, c1, c2, c3, f0, f1, f2, f3, hl⟩ := hz
                go_simp
              try simp only [qA, qB, qC, Act.put, qD, qE, qF]
              refine Left.take (i := 5) (v := .slice (some ⟨g, o, none⟩) (P.front p.length left).length cap) rfl (by kernel_rfl) (by kernel_rfl) (by kernel_rfl) (by kernel_rfl) (fun _ _ _ h => h) (Or.inl ⟨by rfl, fun z hz => ?_⟩) hS0 ?_
              · obtain ⟨c0, c1, c2, c3, f0, f1, f2, f3, hl⟩ := hz
                go_simp
              try simp only [qA, qB, qC, Act.put, qD, qE, qF]
              refine Left.take (i := 6) (v := .int .i64 p.length) rfl (by kernel_rfl) (by kernel_rfl) (by kernel_rfl) (by kernel_rfl) (fun _ _ _ h => h) (Or.inl ⟨by rfl, fun z hz => ?_⟩) hS0 ?_
              · obtain ⟨c0, c1, c2, c3, f0, f1, f2, f3, hl⟩ := hz
                go_simp
              try simp only [qA, qB, qC, Act.put, qD, qE, qF]
              refine Left.take (i := 7) (v := .int .i64 q.length) rfl (by kernel_rfl) (by kernel_rfl) (by kernel_rfl) (by kernel_rfl) (fun _ _ _ h => h) (Or.inl ⟨by rfl, fun z hz => ?_⟩) hS0 ?_
              · obtain ⟨c0, c1, c2, c3, f0, f1, f2, f3, hl⟩ := hz
                go_simp
              try simp only [qA, qB, qC, Act.put, qD, qE, qF]
              refine Left.ready (rs := [8]) (by kernel_rfl) (by simp) ?_
              refine Nexts.cons rfl (fun K hK => ?_) Nexts.nil
              have hf7 : f + q.length = 7 := by have := HF.out; have := HQL.out; omega
              go_simp
              refine (IH.out (P.front p.length left) q (.slice (some ⟨g, o, none⟩) (P.front p.length left).length cap) ur Gr Cr (l ++ ([], [], ob, ot) :: nodes) _ hf7 (.inr (List.ne_nil_of_length_pos hfne)) HFS.out.1 (by have := HPL.out.le; omega) HE2.out HB7.out HP6.out.bl HP6.out.acc (by rw [HKK.out]; exact HBL2.out)).mono ?_
              rintro e v8 ⟨rfl, hpl8⟩
              rw [HKK.out] at hpl8 ⊢
              obtain ⟨u8, G8, C8, hp8⟩ := HP6.out.call hpl8
              have HP8 := Lib.hid hp8
              have hz8 := hp8.chg.size
              refine on_held hK (by decide) hp8.box (fun hS1 => ?_)
              clear hK K hpl8 hp8 hS0 hf7
              try simp only [qA, qB, qC, Act.put, qD, qE, qF]
              refine Left.ready (rs := [9]) (by kernel_rfl) (by simp) ?_
              refine Nexts.cons rfl (fun K hK => ?_) Nexts.nil
              go_simp
              have hba := (Below.refl v8.heap.size v8).alloc (Nat.le_refl _) (.cells #[.int .i64 kk] 3)
              have HP9 := Lib.hid (HP8.out.below hba)
              refine on_held hK (by decide) (HP9.out.box) (fun hS2 => ?_)
              clear hK K hba hS1
              try simp only [qA, qB, qC, Act.put, qD, qE, qF]
              refine Left.ready (rs := [10]) (by kernel_rfl) (by simp) ?_
              refine Nexts.cons rfl (fun K hK => ?_) Nexts.nil
              refine step_append_lies _ rfl _ _ 27 rfl w.heap.size 3 i0 (.int .i64 0) 1 8 Tryz.underlying27 hi hz0 hz1 hz2 rfl (by decide) (.slice cad c.length ccap) c.length (ints c) rfl HP9.out.co ⟨v8.heap.size, 0, none⟩ 1 1 [.int .i64 kk] rfl rfl ?_ ?_ (by decide) (by unfold maxLen; omega) (by omega) ?_ _ rfl ?_
              · intro i y hy
                match i, hy with
                | 0, hy => injection hy with hy; subst hy; rw [add0]; go_simp
              · intro y hy
                simp only [List.mem_cons, List.not_mem_nil, or_false] at hy
                subst hy; rfl
              · simp; omega
              intro g4 cap4 v9 hown hgr hat hlt9
              have HPA := Lib.hid (HP9.out.child (a := (kk : Int)) hown hgr (hat.imp id fun h => h.trans (by simp)))
              have hnb9 := HP9.out.box.stand (chg_grown hgr) (fun e => (HP9.out.nc _ e).1 rfl)
              refine on_held hK (by decide) hnb9 (fun hS3 => ?_)
              clear hK K hown hgr hat hlt9 hS2
              try simp only [qA, qB, qC, Act.put, qD, qE, qF]
              refine Left.take (i := 11) (v := .pointer (some ⟨w.heap.size + 1 + 1, 1, none⟩)) rfl (by kernel_rfl) (by kernel_rfl) (by kernel_rfl) (by kernel_rfl) (fun _ _ _ h => h) (Or.inl ⟨by rfl, fun z hz => ?_⟩) hS3 ?_
              · obtain ⟨c0, c1, c2, c3, f0, f1, f2, f3, hl⟩ := hz
                go_simp
              try simp only [qA, qB, qC, Act.put, qD, qE, qF]
              refine Left.ready (rs := [12]) (by kernel_rfl) (by simp) ?_
              refine Nexts.cons rfl (fun K hK => ?_) Nexts.nil
              obtain ⟨_, b1, _, _, _, k1, _⟩ := hnb9
              go_simp
              refine on_last hK (by decide) ?_
              clear hK K b1 k1 hS3 hwr hto
              try simp only [qA, qB, qC, Act.put, qD, qE, qF]
              refine Left.done (by kernel_rfl) ?_ _
              clear HP9 HP8 HP6 HP2 HB6 HB7
              generalize v9.setCell ⟨w.heap.size + 1 + 1, 1, none⟩ (.slice (some ⟨g4, 0, none⟩) (c.length + 1) cap4) = v10 at *
              have hfp : 0 < (P.front p.length left).length := hfne
              have hnl : (P.behind p.length left).length = left.length - (P.front p.length left).length := by rw [← P.front_drop, List.length_drop]
              have HNL := Lib.hid hnl
              clear hnl
              go_wp2
              go_roundw
              case rel =>
                refine ⟨n - 1, P.behind p.length left, s ++ [st], c ++ [(kk : Int)], nodes ++ P.build f q.length kk (P.front p.length left), ad3, cap - (P.front p.length left).length, u8, G8, C8, .slice (some ⟨g3, 0, none⟩) (s.length + 1) cap3, .slice (some ⟨g4, 0, none⟩) (c.length + 1) cap4, by rw [HNL.out], ⟨HE3.out, by have := HNL.out; have := HPL.out.le; omega, HSTP.out, HFS.out.2.1, HFS.out.2.2, ?_⟩⟩
                rw [show l ++ ([], [], ob, ot) :: (nodes ++ P.build f q.length kk (P.front p.length left)) = (l ++ ([], [], ob, ot) :: nodes) ++ P.build f q.length kk (P.front p.length left) by simp]
                exact HPA.out
              case measure => simp [lenV]; omega
          · have hl0 : left = [] := List.eq_nil_of_length_eq_zero (by omega)
            subst hl0
            have hdone := HPL.out.half.done
            have hsm := HPL.out.half.small
            obtain ⟨sad, scap, hsu⟩ := own_form HPL.out.pi.so
            obtain ⟨cad, ccap, hcu⟩ := own_form HPL.out.pi.co
            subst hsu hcu
            have hpi := HPL.out.pi
            rw [HOT.out] at hdone
            obtain ⟨gr, capr, hur⟩ := own_some hpi.acc.owns (by simp; omega)
            subst hur
            have hlr : l.length < (l ++ ([], [], ob, ot) :: nodes).length := by simp
            obtain ⟨a0, a1, a2, a3, ⟨c0, c1, c2, c3⟩, f0, f1, f2, f3⟩ := hpi.acc.cells4 rfl hlr
            obtain ⟨q0, q1, q2, q3, _, _, _, _, _⟩ := hpi.box
            obtain ⟨b0, _, _⟩ := hpi.bl
            have hset : (l ++ ([], [], ob, ot) :: nodes).set l.length (s, c, ob, ot) = l ++ P.build (f + 1) p.length l.length es := by
              rw [hdone, List.set_append_right _ _ (Nat.le_refl _), Nat.sub_self]; rfl
            have hfin := (hpi.done hlr (by omega) (by omega) hset).below (Below.refl _ _).drew
            have HFIN := Lib.hid hfin
            have i1 : (l.length : Int) < ((l ++ ([], [], ob, ot) :: nodes).length : Int) := by omega
            generalize (l ++ ([], [], ob, ot) :: nodes).length = lr at *
            clear hfin hset hdone hsm hpi hpl HER hlr
            go_upto_region 14 with fail
            go_region
            go_wp2
            go_ret
            exact ⟨rfl, HFIN.out⟩
end
section
open Go Go.RowKit
set_option maxHeartbeats 8000000
set_option maxRecDepth 100000
/-- the entries from an index to another -/
def P.seg (D : P.Dic) (lo hi : Nat) : P.Dic := (D.drop lo).take (hi - lo)
theorem P.seg_len {D : P.Dic} {lo hi : Nat} (h : hi ≤ D.length) : (P.seg D lo hi).length = hi - lo := by
  unfold P.seg; rw [List.length_take, List.length_drop]; omega
theorem P.seg_get {D : P.Dic} {lo hi k : Nat} (hk : k < (P.seg D lo hi).length) (hd : lo + k < D.length) : (P.seg D lo hi)[k] = D[lo + k] := by
  unfold P.seg at hk ⊢; rw [List.getElem_take, List.getElem_drop]
theorem P.seg_take {D : P.Dic} {lo hi k : Nat} (h : lo + k ≤ hi) : (P.seg D lo hi).take k = P.seg D lo (lo + k) := by
  unfold P.seg; rw [List.take_take, Nat.add_sub_cancel_left, Nat.min_eq_left (by omega)]
theorem P.seg_drop {D : P.Dic} {lo hi k : Nat} : (P.seg D lo hi).drop k = P.seg D (lo + k) hi := by
  unfold P.seg; rw [List.drop_take, List.drop_drop, show hi - lo - k = hi - (lo + k) by omega]
theorem Planted.early {R : Nat} {bl : P.Tri} {u : Value} {G : Nat → Blk} {l : P.Tri} {w w1 v : World} (h : Planted R bl u G l w1 v) (hb : Below w.heap.size w w1) : Planted R bl u G l w v := by
  obtain ⟨u', G', C', h1, h2, h3, h4, h5⟩ := h
  have hz := hb.size
  exact ⟨u', G', C', h1, h2, fun j b hj hb' => (h3 j b hj hb').imp id fun h => by omega, fun b hb' => (h4 b hb').imp id fun h => by omega, (Below.chg hb _).trans h5⟩
/-- how the reference's loop over a node's entries stands -/
structure PR (D : P.Dic) (hi : Nat) (w : World) (R N f : Nat) (es : P.Dic) (p : List Int) (u : Value) (G : Nat → Blk) (l : P.Tri) (ob : Bool) (ot : Str) (n lo : Nat) (s c : List Int) (nodes : P.Tri) (ur : Value) (Gr : Nat → Blk) (Cr : Nat → List Value) (su cu : Value) (v : World) : Prop where
  le : lo ≤ hi
  half : P.Half f p.length l.length es n (P.seg D lo hi) s c nodes
  sh : P.Shared p (P.seg D lo hi)
  lg : ∀ e ∈ P.seg D lo hi, p.length < e.1.length
  pi : PI w R N u G l ob ot v ur Gr Cr (l ++ P.nd0 :: nodes) su cu s c
theorem l7Add (wb : World) (R : Nat) (hR : wb.heap.size ≤ R) (D : P.Dic) (dv : Value) (hD : EntR wb dv D) (hDl : D.length ≤ 2 ^ 20) : ∀ (f : Nat) (lo hh : Nat) (p : List Int) (u : Value) (G : Nat → Blk) (C : Nat → List Value) (l : P.Tri) (w : World), f + p.length = 7 → lo ≤ hh → hh ≤ D.length → (0 < f ∨ lo < hh) → P.Shared p (P.seg D lo hh) → Below wb.heap.size wb w → BL R u w → AccY 162 4 nodE (R + 1) w u G C l →
    l.length + (P.build f p.length l.length (P.seg D lo hh)).length ≤ 2 ^ 20 →
    Calls Tryz.prog 182 #[.pointer (some ⟨R, 0, none⟩), .agg #[dv], .int .i64 lo, .int .i64 hh, .int .i64 p.length] w fun e w' => e = .returned (.int .i64 l.length) ∧ Planted R (P.build f p.length l.length (P.seg D lo hh)) u G l w w' := by
  have HD := Lib.hid hD
  obtain ⟨dad, dcap, rfl, _, _⟩ := hD
  intro f
  induction f with
  | zero =>
    intro lo hh p u G C l w hf h1 h2 hne hsh _ _ _ _
    rcases hne with h | h
    · exact absurd h (Nat.lt_irrefl _)
    · have hl := P.seg_len (D := D) (lo := lo) h2
      obtain ⟨e, he⟩ := List.exists_mem_of_ne_nil (P.seg D lo hh) (List.ne_nil_of_length_pos (by omega))
      have := hsh.ge e he; have := hsh.len e he; omega
  | succ f ih =>
    intro lo hh p u G C l w hf hlh hhD _ hsh hb hbl hacc hsz
    have IH := Lib.hid ih; clear ih
    obtain ⟨i0, hi, hz0, hz1, hz2⟩ := info_parts info_int
    obtain ⟨j0, hj, hy0, hy1, hy2⟩ := info_parts info_nod
    obtain ⟨uad, ucap, hu⟩ := hacc.form
    obtain ⟨ob, ot, hot⟩ : ∃ ob ot, P.ownText p.length (P.seg D lo hh) = (ob, ot) := ⟨_, _, rfl⟩
    have HOT := Lib.hid hot; clear hot
    have hRw := hbl.2.2
    have huz := fun b h => (hacc.lt b h).2
    have HUL := Lib.hid (fun b h => (hacc.lt b h).1)
    have hgz := fun j b hj h => (hacc.sub j hj b h).2.1
    subst hu
    have hsl : (P.seg D lo hh).length = hh - lo := P.seg_len hhD
    have HSL := Lib.hid hsl; clear hsl
    have hba := (Below.refl w.heap.size w).alloc (Nat.le_refl _) (.cells #[.slice dad D.length dcap] 26)
    have HB := Lib.hid (hb.trans (hba.mono hb.size)); have HBA := Lib.hid hba
    have HDB := Lib.hid (BL.new (.slice dad D.length dcap) 26 w)
    have HBL := Lib.hid (hbl.below hba); have HACC := Lib.hid (hacc.keep nodE_ok hba); have HSH := Lib.hid hsh; have HF := Lib.hid hf
    have HUZ := Lib.hid (show ∀ b, (Value.slice uad l.length ucap).ownBlock = some b → b < w.heap.size from huz); have HGZ := Lib.hid hgz
    have hbw := hb.size
    have hw1 := HDB.out.2.2
    obtain ⟨c0, s0, _⟩ := HBL.out
    clear hb hbl hacc hsh huz hgz hf hba
    go_enter Tryz.func182, Tryz.ntmps182
    go_upto_region 1 with fail
    generalize w.alloc (.cells #[.slice dad D.length dcap] 26) = w1 at *
    have hba := (Below.refl w1.heap.size w1).alloc (Nat.le_refl _) (.cells #[.slice none 0 0, .slice none 0 0, .bool false, .string (S [])] 162)
    have HA3 := Lib.hid (HACC.out.keep nodE_ok hba)
    have HBA3 := Lib.hid hba; clear hba
    go_wp2_with (at_builtin; refine wpList_append_lies _ rfl _ _ 84 rfl (R + 1) 162 j0 (.agg #[.slice none 0 0, .slice none 0 0, .bool false, .string ⟨#[]⟩]) 4 72 Tryz.underlying84 hj hy0 hy1 hy2 rfl (by decide) (.slice uad l.length ucap) l.length (flat C l.length) rfl HA3.out.owns ⟨w1.heap.size, 0, none⟩ 1 1 [.slice none 0 0, .slice none 0 0, .bool false, .string (S [])] rfl rfl ?_ ?_ (Nat.zero_lt_one) ?_ ?_ ?_ _ rfl ?_)
    · intro i y hy
      match i, hy with
      | 0, hy => injection hy with hy; subst hy; rw [add0]; go_simp
      | 1, hy => injection hy with hy; subst hy; rw [add0]; go_simp
      | 2, hy => injection hy with hy; subst hy; rw [add0]; go_simp
      | 3, hy => injection hy with hy; subst hy; rw [add0]; go_simp
    · intro y hy
      simp only [List.mem_cons, List.not_mem_nil, or_false] at hy
      rcases hy with rfl | rfl | rfl | rfl <;> rfl
    · unfold maxLen; omega
    · omega
    · simp; omega
    intro g1 cap1 v3 hown hgr hat hlt3
    have hch := chg_grown hgr
    have hbl3 := (HBL.out.below HBA3.out).stand hch (fun e => by have := (HA3.out.lt R e).1; omega)
    have hdb3 := (HDB.out.below HBA3.out).stand hch (fun e => by have := HUZ.out _ e; omega)
    have HDB4 := Lib.hid (hdb3.stand ((Chg.refl (fun b => b = R) v3).setCell (p := ⟨R, 0, none⟩) rfl (.slice (some ⟨g1, 0, none⟩) (l.length + 1) cap1)) (fun e => by omega))
    have HB4 := Lib.hid (show Below wb.heap.size wb (v3.setCell ⟨R, 0, none⟩ (.slice (some ⟨g1, 0, none⟩) (l.length + 1) cap1)) from
      ((HB.out.trans (HBA3.out.mono HB.out.size)).trans (hch.below (B := wb.heap.size) (by have := HB.out.size; have := HBA3.out.size; omega) (fun b e => by have := HUL.out b e; omega))).setCell (by omega) _)
    have HOWN := Lib.hid hown; have HGR := Lib.hid hgr; have HAT := Lib.hid (show _ ∨ _ from hat.imp id fun h => h.trans (show _ = (w1.alloc (.cells #[.slice none 0 0, .slice none 0 0, .bool false, .string (S [])] 162)).heap.size by simp))
    obtain ⟨b0, k0, _⟩ := hbl3
    clear hown hgr hat hch hdb3 c0 s0
    have hz3 : w1.heap.size < v3.heap.size := by have := HGR.out.size; simp at this; omega
    go_upto_region 3 with fail
    have HV4 := Lib.hid (Below.refl v3.heap.size (v3.setCell ⟨R, 0, none⟩ (.slice (some ⟨g1, 0, none⟩) (l.length + 1) cap1)))
    have hz4 : v3.heap.size = (v3.setCell ⟨R, 0, none⟩ (.slice (some ⟨g1, 0, none⟩) (l.length + 1) cap1)).heap.size := by simp [World.setCell]
    have HZ4 := Lib.hid hz4
    clear hz4 b0 k0
    generalize hv4 : v3.setCell ⟨R, 0, none⟩ (.slice (some ⟨g1, 0, none⟩) (l.length + 1) cap1) = v4 at *
    have HE4 := Lib.hid hv4; clear hv4
    go_upto_region 4 with fail
    have HNB := Lib.hid (show NB v4.heap.size (.slice none 0 0) (.slice none 0 0) false [] (v4.alloc (.cells #[.slice none 0 0, .slice none 0 0, .bool false, .string (S [])] 162)) by refine ⟨?_, ?_, ?_, ?_, ?_, ?_, ?_, ?_, ?_⟩ <;> go_simp)
    have hbb := (Below.refl v4.heap.size v4).alloc (Nat.le_refl _) (.cells #[.slice none 0 0, .slice none 0 0, .bool false, .string (S [])] 162)
    have HV5 := Lib.hid (HV4.out.trans (hbb.mono (by rw [← HZ4.out]; exact Nat.le_refl _))); have HDB5 := Lib.hid (HDB4.out.below hbb); have HB5 := Lib.hid (HB4.out.trans (hbb.mono HB4.out.size))
    have hn4 : v3.heap.size ≤ v4.heap.size := by rw [← HZ4.out]; exact Nat.le_refl _
    have HB4' := Lib.hid (show wb.heap.size ≤ v4.heap.size from HB4.out.size)
    clear hbb HV4 HDB4 HB4
    generalize v4.alloc (.cells #[.slice none 0 0, .slice none 0 0, .bool false, .string (S [])] 162) = v5 at *
    have hz35 := Nat.le_trans hn4 HV5.out.size
    generalize v4.heap.size = N at *
    go_cut [44] (fun b wx => b = .bool ob ∧ wx = v5)
    case first =>
      obtain ⟨d0, _, _⟩ := HDB5.out
      by_cases h0 : lo < hh
      · have h0' : lo < D.length := by omega
        have hs0 : 0 < (P.seg D lo hh).length := by have := HSL.out; omega
        have hsg := P.seg_get (D := D) (lo := lo) (hi := hh) hs0 (by omega)
        simp only [Nat.add_zero] at hsg
        obtain ⟨g, o, hga, hgl, x, c1, c2, hx⟩ := (HD.out.below HB5.out).at lo h0'
        obtain ⟨xd, xc, rfl, _, _⟩ := hx
        subst hga
        have i1 : (lo : Int) < (hh : Int) := by omega
        have i2 : (lo : Int) < (D.length : Int) := by omega
        by_cases hl : D[lo].1.length = p.length
        · have hh2 := HOT.out
          rw [(P.own_yes p.length _ hs0 (by rw [hsg]; exact hl)).1] at hh2
          injection hh2 with hh1 hh2
          subst hh1
          have hb : ((D[lo].1.length : Int) == (p.length : Int)) = true := by simp [hl]
          clear hl hsg hh2
          go_wp2
          go_meet
          case rel => exact ⟨rfl, rfl⟩
        · have hh2 := HOT.out
          rw [(P.own_no p.length _ hs0 (by rw [hsg]; exact hl)).1] at hh2
          injection hh2 with hh1 hh2
          subst hh1
          have hb : ((D[lo].1.length : Int) == (p.length : Int)) = false := by simp; omega
          clear hl hsg hh2
          go_wp2
          go_meet
          case rel => exact ⟨rfl, rfl⟩
      · have hh2 := HOT.out
        rw [(P.own_none p.length _ (by have := HSL.out; omega)).1] at hh2
        injection hh2 with hh1 hh2
        subst hh1
        have i1 : ¬ (lo : Int) < (hh : Int) := by omega
        clear hh2
        go_wp2
        go_meet
        case rel => exact ⟨rfl, rfl⟩
    case rest =>
      obtain ⟨rfl, rfl⟩ := hcut
      go_upto_if 44 with fail
      go_cut [2] (fun i wx => ∃ lo2 : Nat, i = .int .i64 lo2 ∧ lo2 ≤ hh ∧ P.rest p.length (P.seg D lo hh) = P.seg D lo2 hh ∧ NB N (.slice none 0 0) (.slice none 0 0) ob ot wx ∧ Chg (fun b => b = N) wc wx)
      case first =>
        by_cases h0 : lo < hh
        · have h0' : lo < D.length := by omega
          have hs0 : 0 < (P.seg D lo hh).length := by have := HSL.out; omega
          have hsg := P.seg_get (D := D) (lo := lo) (hi := hh) hs0 (by omega)
          simp only [Nat.add_zero] at hsg
          by_cases hl : D[lo].1.length = p.length
          · obtain ⟨hown, hrest⟩ := P.own_yes p.length _ hs0 (by rw [hsg]; exact hl)
            obtain ⟨g, o, hga, hgl, x, c1, c2, hx⟩ := (HD.out.below HB5.out).at lo h0'
            obtain ⟨g', o', hga', hgl', _⟩ := HD.out.at lo h0'
            rw [hga] at hga'
            injection hga' with hga'
            injection hga' with hga1 hga2
            subst hga1 hga2
            subst hga
            have i2 : (lo : Int) < (D.length : Int) := by omega
            have hgN : g ≠ N := by have := HB4'.out; omega
            have hgN2 : w.heap.size ≠ N := by omega
            have hh2 := HOT.out
            rw [hown, hsg] at hh2
            injection hh2 with hh1 hh2
            subst hh1
            rw [hh2] at c2
            rw [P.seg_drop] at hrest
            have HR := Lib.hid hrest
            obtain ⟨d0, _, _⟩ := HDB5.out
            obtain ⟨q0, q1, q2, q3, f0, f1, f2, f3, hlt⟩ := HNB.out
            clear hown hrest hl c1 hx q0 q1 hh2 hsg
            go_wp2
            go_meet
            case rel =>
              refine ⟨lo + 1, by go_num, by omega, HR.out, ?_, ?_⟩
              · exact (HNB.out.put2 (t' := true)).put3 (s' := ot)
              · exact ((Chg.refl (fun b => b = N) wc).setCell (p := ⟨N, 2, none⟩) rfl _).setCell (p := ⟨N, 3, none⟩) rfl _
          · obtain ⟨hown, hrest⟩ := P.own_no p.length _ hs0 (by rw [hsg]; exact hl)
            have hh2 := HOT.out
            rw [hown] at hh2
            injection hh2 with hh1 hh2
            subst hh1 hh2
            have HR := Lib.hid hrest
            clear hown hrest hl hsg
            go_wp2
            go_meet
            case rel => exact ⟨lo, rfl, by omega, HR.out, HNB.out, Chg.refl _ _⟩
        · obtain ⟨hown, hrest⟩ := P.own_none p.length _ (by have := HSL.out; omega : (P.seg D lo hh).length = 0)
          have hh2 := HOT.out
          rw [hown] at hh2
          injection hh2 with hh1 hh2
          subst hh1 hh2
          have HR := Lib.hid hrest
          clear hown hrest
          go_wp2
          go_meet
          case rel => exact ⟨lo, rfl, by omega, HR.out, HNB.out, Chg.refl _ _⟩
      case rest =>
        obtain ⟨lo2, rfl, hlo2, hrs, hnb, hchg⟩ := hcut
        have hnz4 := HDB5.out.2.2
        have HPI := Lib.hid (PI.start2 (N := N) (t := ob) (x := ot) (nd := P.nd0) (HBL.out.below HBA3.out) HA3.out HBA3.out (by omega) (fun b h => by have := HUZ.out b h; omega) (fun j b hj h => by have := HGZ.out j b hj h; omega)
          (show nodE v3 (fun _ => False) [.slice none 0 0, .slice none 0 0, .bool false, .string (S [])] P.nd0 from ⟨_, _, fun _ => False, fun _ => False, rfl, RowO.nil _ _, RowO.nil _ _, fun _ h => h, fun _ h => h, fun _ h _ => h⟩) rfl HOWN.out HGR.out HAT.out
          (by rw [HE4.out]; exact HV5.out.trans (hchg.below (B := v3.heap.size) hz35 (fun b e => by omega))) hn4 hnb)
        have HHF := Lib.hid (P.Half.start f p.length l.length (P.seg D lo hh))
        have HLO := Lib.hid hlo2
        have hrt := HSH.out.rest
        rw [hrs] at hrt
        have HRT := Lib.hid hrt
        have HRS := Lib.hid hrs
        clear hnb hchg hrs hrt
        go_wp2_with fail
        go_loopw [2] (fun i wr => ∃ n lo3 s c nodes ur Gr Cr su cu, i = .int .i64 (lo3 : Nat) ∧ PR D hh w1 R N f (P.seg D lo hh) p (.slice uad l.length ucap) G l ob ot n lo3 s c nodes ur Gr Cr su cu wr) (fun i _ => hh - (intOf i).toNat)
        case atStart => exact ⟨_, lo2, [], [], [], _, _, _, _, _, rfl, HLO.out, by rw [← HRS.out]; exact HHF.out, HRT.out.1, HRT.out.2, HPI.out⟩
        case round =>
          obtain ⟨n, lo3, s, c, nodes, ur, Gr, Cr, su, cu, rfl, hpl⟩ := hrel
          clear HPI HHF HRT HRS HLO hlo2 hz35 hnz4 hn4
          have HPL := Lib.hid hpl
          have HBW1 := Lib.hid HB.out
          have HBR := Lib.hid (show Below wb.heap.size wb wr from HB.out.trans (hpl.pi.chg.below HB.out.size (fun b hb => hb.elim (fun e => by omega) (fun e => by have := HUL.out b e; omega))))
          have HER := Lib.hid (HD.out.below HBR.out)
          have HDR := Lib.hid (HDB.out.stand hpl.pi.chg (fun e => e.elim (fun e => by omega) (fun e => by have := HUZ.out _ e; omega)))
          obtain ⟨d0, _, _⟩ := HDR.out
          have hle3 := hpl.le
          have hsl3 : (P.seg D lo3 hh).length = hh - lo3 := P.seg_len hhD
          by_cases hne : lo3 < hh
          · have hs0 : 0 < (P.seg D lo3 hh).length := by omega
            obtain ⟨st, hst⟩ : ∃ st, P.headStroke p.length (P.seg D lo3 hh) = st := ⟨_, rfl⟩
            have hlg0 := hpl.lg _ (List.getElem_mem hs0)
            have hsg := P.seg_get (D := D) (lo := lo3) (hi := hh) hs0 (by omega)
            simp only [Nat.add_zero] at hsg
            have hha := P.head_at (d := p.length) hs0
            rw [hsg, hst] at hha
            rw [hsg] at hlg0
            obtain ⟨g, o, g2, o2, xc, hga, _, _, c0, c1⟩ := ent_stroke HER.out lo3 (by omega) p.length hlg0
            rw [hha] at c1
            have HST := Lib.hid hst; clear hst hha hsg
            subst hga
            have i2 : (p.length : Int) < (D[lo3].1.length : Int) := by omega
            have i3 : (lo3 : Int) < (hh : Int) := by omega
            have i4 : (lo3 : Int) < (D.length : Int) := by omega
            clear hpl
            go_upto_block 2 with fail
            have hfl := P.front_len p.length (P.seg D lo3 hh)
            obtain ⟨m3, hm3⟩ : ∃ m3, lo3 + (P.front p.length (P.seg D lo3 hh)).length = m3 := ⟨_, rfl⟩
            have HM3 := Lib.hid hm3; clear hm3
            go_cut [14] (fun m wx => m = .int .i64 m3 ∧ wx = wr)
            case first =>
              go_wp2_with fail
              go_loop [14] (fun m => ∃ k : Nat, k ≤ (P.front p.length (P.seg D lo3 hh)).length ∧ m = .int .i64 ((lo3 + k : Nat))) (fun m => lo3 + (P.front p.length (P.seg D lo3 hh)).length - (intOf m).toNat)
              case atStart => exact ⟨0, Nat.zero_le _, rfl⟩
              case round =>
                obtain ⟨k, hk, rfl⟩ := hrel
                have HS3 := Lib.hid hsl3; clear hsl3
                by_cases hlt : k < (P.front p.length (P.seg D lo3 hh)).length
                · have hkl : k < (P.seg D lo3 hh).length := by omega
                  have hkD : lo3 + k < D.length := by have := HS3.out; omega
                  have hlk := HPL.out.lg _ (List.getElem_mem hkl)
                  have hsg := P.seg_get (D := D) (lo := lo3) (hi := hh) hkl hkD
                  have hfs := P.front_same p.length (P.seg D lo3 hh) k hlt hkl
                  rw [hsg] at hlk hfs
                  obtain ⟨g', o', g3, o3, xc3, hga, _, _, e0, e1⟩ := ent_stroke HER.out (lo3 + k) hkD p.length hlk
                  rw [hfs, HST.out] at e1
                  injection hga with hga
                  injection hga with hga1 hga2
                  subst hga1 hga2
                  have i1 : ((lo3 + k : Nat) : Int) < (hh : Int) := by have := HS3.out; omega
                  have i5 : ((lo3 + k : Nat) : Int) < (D.length : Int) := by omega
                  have i6 : (p.length : Int) < (D[lo3 + k].1.length : Int) := by omega
                  clear hsg hfs hlk
                  obtain ⟨m, hm⟩ : ∃ m, lo3 + k = m := ⟨_, rfl⟩
                  simp only [hm] at *
                  have HM := Lib.hid hm; clear hm
                  go_wp2
                  go_round
                  case rel => exact ⟨k + 1, by omega, by rw [show lo3 + (k + 1) = m + 1 by have := HM.out; omega]; go_num⟩
                  case measure => have := HM.out; simp [intOf]; omega
                · have hke : k = (P.front p.length (P.seg D lo3 hh)).length := by omega
                  by_cases hkl : k < (P.seg D lo3 hh).length
                  · have hkD : lo3 + k < D.length := by have := HS3.out; omega
                    have hlk := HPL.out.lg _ (List.getElem_mem hkl)
                    have hsg := P.seg_get (D := D) (lo := lo3) (hi := hh) hkl hkD
                    have hnx2 : P.strokeAt p.length (P.seg D lo3 hh)[k] ≠ st := by
                      have e := HST.out
                      subst hke
                      rw [← e]; exact P.front_next p.length (P.seg D lo3 hh) hkl
                    rw [hsg] at hlk hnx2
                    obtain ⟨g', o', g3, o3, xc3, hga, _, _, e0, e1⟩ := ent_stroke HER.out (lo3 + k) hkD p.length hlk
                    injection hga with hga
                    injection hga with hga1 hga2
                    subst hga1 hga2
                    have hq : (P.strokeAt p.length D[lo3 + k] == st) = false := by simpa using hnx2
                    have i1 : ((lo3 + k : Nat) : Int) < (hh : Int) := by have := HS3.out; omega
                    have i5 : ((lo3 + k : Nat) : Int) < (D.length : Int) := by omega
                    have i6 : (p.length : Int) < (D[lo3 + k].1.length : Int) := by omega
                    have HKE := Lib.hid (show lo3 + k = m3 by have := HM3.out; omega)
                    clear hsg hnx2 hke hlk hlt
                    obtain ⟨m, hm⟩ : ∃ m, lo3 + k = m := ⟨_, rfl⟩
                    simp only [hm] at *
                    clear hm
                    go_wp2
                    go_meet
                    case rel => exact ⟨by rw [HKE.out], rfl⟩
                  · have i1 : ¬ ((lo3 + k : Nat) : Int) < (hh : Int) := by have := HS3.out; omega
                    have HKE := Lib.hid (show lo3 + k = m3 by have := HM3.out; omega)
                    clear hke hlt hkl
                    obtain ⟨m, hm⟩ : ∃ m, lo3 + k = m := ⟨_, rfl⟩
                    simp only [hm] at *
                    clear hm
                    go_wp2
                    go_meet
                    case rel => exact ⟨by rw [HKE.out], rfl⟩
            case rest =>
              obtain ⟨rfl, rfl⟩ := hcut
              obtain ⟨sad, scap, hsu⟩ := own_form HPL.out.pi.so
              obtain ⟨cad, ccap, hcu⟩ := own_form HPL.out.pi.co
              subst hsu hcu
              have hpi := HPL.out.pi
              have hsm := HPL.out.half.small
              have hsl0 := HSL.out
              have hba := (Below.refl wc.heap.size wc).alloc (Nat.le_refl _) (.cells #[.int .i64 st] 3)
              have HP1 := Lib.hid (hpi.below hba)
              have hzw := hpi.chg.size
              have hnz := hpi.box.lt
              have hsn := hpi.ns
              obtain ⟨q0, q1, q2, q3, f0, f1, f2, f3, _⟩ := hpi.box
              clear hpi hba c0 c1 i2 q1 q2 q3 f1 f2 f3 hlg0 i4 hsl0
              have hsl1 : s.length ≤ 2 ^ 20 := by have := HSL.out; omega
              have hcl1 : c.length ≤ 2 ^ 20 := by have := HSL.out; omega
              go_wp2_with (at_builtin; refine wpList_append_lies _ rfl _ _ 27 rfl w1.heap.size 3 i0 (.int .i64 0) 1 8 Tryz.underlying27 hi hz0 hz1 hz2 rfl (by decide) (.slice sad s.length scap) s.length (ints s) rfl HP1.out.so ⟨wc.heap.size, 0, none⟩ 1 1 [.int .i64 st] rfl rfl ?_ ?_ (Nat.zero_lt_one) ?_ ?_ ?_ _ rfl ?_)
              · intro i y hy
                match i, hy with
                | 0, hy => injection hy with hy; subst hy; rw [add0]; go_simp
              · intro y hy
                simp only [List.mem_cons, List.not_mem_nil, or_false] at hy
                subst hy; rfl
              · unfold maxLen; omega
              · omega
              · simp; omega
              intro g3 cap3 v5' hown hgr hat hlt5
              have HP2 := Lib.hid (HP1.out.stroke (a := st) hown hgr (hat.imp id fun h => h.trans (by simp)))
              have hnb5 := HP1.out.box.stand (chg_grown hgr) (fun e => (hsn _ e).1 rfl)
              obtain ⟨b0, _, _, _, k0, _⟩ := hnb5
              clear hown hgr hat hlt5 q0 f0 HP1 hsn d0
              go_upto_region 14 with fail
              clear b0 k0
              generalize v5'.setCell ⟨N, 0, none⟩ (.slice (some ⟨g3, 0, none⟩) (s.length + 1) cap3) = v6 at *
              obtain ⟨q, hq⟩ : ∃ q, p ++ [st] = q := ⟨_, rfl⟩
              have hql : q.length = p.length + 1 := by rw [← hq]; simp
              obtain ⟨kk, hkk⟩ : ∃ kk, (l ++ P.nd0 :: nodes).length = kk := ⟨_, rfl⟩
              have hkl : kk = l.length + 1 + nodes.length := by rw [← hkk]; simp; omega
              have hfne := P.front_pos p.length _ (List.ne_nil_of_length_pos hs0)
              have htk := P.front_take p.length (P.seg D lo3 hh)
              have hdr := P.front_drop p.length (P.seg D lo3 hh)
              rw [P.seg_take (by omega)] at htk
              rw [P.seg_drop] at hdr
              have hfs := HPL.out.sh.front HPL.out.lg
              have hstep := HPL.out.half.step (List.ne_nil_of_length_pos hs0)
              rw [HST.out, hq] at hfs
              rw [HST.out] at hstep
              rw [← hkl, ← hql] at hstep
              have hm3 := HM3.out
              have hm3a : lo3 < m3 := by omega
              have hm3b : m3 ≤ hh := by omega
              rw [hm3] at htk hdr
              rw [← htk, ← hdr] at hfs hstep
              have hsm2 := hstep.small
              have HFS := Lib.hid hfs; have HSTP := Lib.hid hstep; have HKK := Lib.hid hkk; have HQL := Lib.hid hql
              have hbl2 : kk + (P.build f q.length kk (P.seg D lo3 m3)).length ≤ 2 ^ 20 := by
                have := hsm2.2.2; simp only [List.length_append] at this; omega
              have HBL2 := Lib.hid hbl2
              have hwr : IntKind.i64.wrap ((p.length : Int) + 1) = (q.length : Int) := by rw [IntWalk.i64_in _ (by have := HF.out; omega), hql]; rfl
              have hb6 := HP2.out.chg.below HB.out.size (fun b hb => hb.elim (fun e => by omega) (fun e => by have := HUL.out b e; omega))
              have HB6 := Lib.hid (HB.out.trans hb6)
              clear hfs hstep hkk hql hkl hq hsm2 hbl2 hb6 htk hdr hm3 hfne hfl
              have hdd := (Below.refl v6.heap.size v6).drew
              have HP6 := Lib.hid (HP2.out.below hdd)
              have HB7 := Lib.hid (HB6.out.trans (hdd.mono HB6.out.size))
              have hDN : ¬ (w.heap.size = R ∨ (Value.slice uad l.length ucap).ownBlock = some w.heap.size) := fun e => e.elim (fun e => by omega) (fun e => by have := HUZ.out _ e; omega)
              have HDN := Lib.hid hDN
              have HS := Lib.hid (show NB N (.slice (some ⟨g3, 0, none⟩) (s.length + 1) cap3) (.slice cad c.length ccap) ob ot v6.drew ∧ BL w.heap.size (.slice (some ⟨g, o, none⟩) D.length dcap) v6.drew from ⟨HP6.out.box, HDB.out.stand HP6.out.chg hDN⟩)
              clear hdd hDN
              refine Left.region [12] (S := fun v => NB N (.slice (some ⟨g3, 0, none⟩) (s.length + 1) cap3) (.slice cad c.length ccap) ob ot v ∧ BL w.heap.size (.slice (some ⟨g, o, none⟩) D.length dcap) v) (by kernel_rfl) HS.out (fun hS0 => ?_)
              generalize v6.drew = v7 at *
              refine Left.take (i := 0) (v := .pointer (some ⟨N, 1, none⟩)) rfl (by kernel_rfl) (by kernel_rfl) (by kernel_rfl) (by kernel_rfl) (fun _ _ _ h => h) (Or.inl ⟨by rfl, fun z hz => ?_⟩) hS0 ?_
              · obtain ⟨⟨c0, c1, c2, c3, f0, f1, f2, f3, hl⟩, ⟨z1, z2, z3⟩⟩ := hz
                go_simp
              try simp only [qA, qB, Act.put, qD, qE, qF]
              refine Left.take (i := 1) (v := .slice cad c.length ccap) rfl (by kernel_rfl) (by kernel_rfl) (by kernel_rfl) (by kernel_rfl) (fun _ _ _ h => h) (Or.inl ⟨by rfl, fun z hz => ?_⟩) hS0 ?_
              · obtain ⟨⟨c0, c1, c2, c3, f0, f1, f2, f3, hl⟩, ⟨z1, z2, z3⟩⟩ := hz
                go_simp
              try simp only [qA, qB, qC, Act.put, qD, qE, qF]
              refine Left.take (i := 2) (v := .pointer (some ⟨R, 0, none⟩)) rfl (by kernel_rfl) (by kernel_rfl) (by kernel_rfl) (by kernel_rfl) (fun _ _ _ h => h) (Or.inl ⟨by rfl, fun z hz => ?_⟩) hS0 ?_
              · obtain ⟨⟨c0, c1, c2, c3, f0, f1, f2, f3, hl⟩, ⟨z1, z2, z3⟩⟩ := hz
                go_simp
              try simp only [qA, qB, qC, Act.put, qD, qE, qF]
              refine Left.take (i := 3) (v := .agg #[.slice (some ⟨g, o, none⟩) D.length dcap]) rfl (by kernel_rfl) (by kernel_rfl) (by kernel_rfl) (by kernel_rfl) (fun _ _ _ h => h) (Or.inl ⟨by rfl, fun z hz => ?_⟩) hS0 ?_
              · obtain ⟨⟨c0, c1, c2, c3, f0, f1, f2, f3, hl⟩, ⟨z1, z2, z3⟩⟩ := hz
                go_simp
              try simp only [qA, qB, qC, Act.put, qD, qE, qF]
              refine Left.take (i := 4) (v := .int .i64 lo3) rfl (by kernel_rfl) (by kernel_rfl) (by kernel_rfl) (by kernel_rfl) (fun _ _ _ h => h) (Or.inl ⟨by rfl, fun z hz => ?_⟩) hS0 ?_
              · obtain ⟨⟨c0, c1, c2, c3, f0, f1, f2, f3, hl⟩, ⟨z1, z2, z3⟩⟩ := hz
                go_simp
              try simp only [qA, qB, qC, Act.put, qD, qE, qF]
              refine Left.take (i := 5) (v := .int .i64 m3) rfl (by kernel_rfl) (by kernel_rfl) (by kernel_rfl) (by kernel_rfl) (fun _ _ _ h => h) (Or.inl ⟨by rfl, fun z hz => ?_⟩) hS0 ?_
              · obtain ⟨⟨c0, c1, c2, c3, f0, f1, f2, f3, hl⟩, ⟨z1, z2, z3⟩⟩ := hz
                go_simp
              try simp only [qA, qB, qC, Act.put, qD, qE, qF]
              refine Left.take (i := 6) (v := .int .i64 p.length) rfl (by kernel_rfl) (by kernel_rfl) (by kernel_rfl) (by kernel_rfl) (fun _ _ _ h => h) (Or.inl ⟨by rfl, fun z hz => ?_⟩) hS0 ?_
              · obtain ⟨⟨c0, c1, c2, c3, f0, f1, f2, f3, hl⟩, ⟨z1, z2, z3⟩⟩ := hz
                go_simp
              try simp only [qA, qB, qC, Act.put, qD, qE, qF]
              refine Left.take (i := 7) (v := .int .i64 q.length) rfl (by kernel_rfl) (by kernel_rfl) (by kernel_rfl) (by kernel_rfl) (fun _ _ _ h => h) (Or.inl ⟨by rfl, fun z hz => ?_⟩) hS0 ?_
              · obtain ⟨⟨c0, c1, c2, c3, f0, f1, f2, f3, hl⟩, ⟨z1, z2, z3⟩⟩ := hz
                go_simp
              try simp only [qA, qB, qC, Act.put, qD, qE, qF]
              refine Left.ready (rs := [8]) (by kernel_rfl) (by simp) ?_
              refine Nexts.cons rfl (fun K hK => ?_) Nexts.nil
              have hf7 : f + q.length = 7 := by have := HF.out; have := HQL.out; omega
              go_simp
              refine (IH.out lo3 m3 q ur Gr Cr (l ++ P.nd0 :: nodes) _ hf7 (by omega) (by omega) (.inr hm3a) HFS.out.1 HB7.out HP6.out.bl HP6.out.acc (by rw [HKK.out]; exact HBL2.out)).mono ?_
              rintro e v8 ⟨rfl, hpl8⟩
              rw [HKK.out] at hpl8 ⊢
              obtain ⟨u8, G8, C8, hp8⟩ := HP6.out.call hpl8
              have HP8 := Lib.hid hp8
              have hz8 := hp8.chg.size
              refine on_held hK (by decide) ⟨hp8.box, HDB.out.stand hp8.chg HDN.out⟩ (fun hS1 => ?_)
              clear hK K hpl8 hp8 hS0 hf7
              try simp only [qA, qB, qC, Act.put, qD, qE, qF]
              refine Left.ready (rs := [9]) (by kernel_rfl) (by simp) ?_
              refine Nexts.cons rfl (fun K hK => ?_) Nexts.nil
              go_simp
              have hba := (Below.refl v8.heap.size v8).alloc (Nat.le_refl _) (.cells #[.int .i64 kk] 3)
              have HP9 := Lib.hid (HP8.out.below hba)
              refine on_held hK (by decide) ⟨HP9.out.box, HDB.out.stand HP9.out.chg HDN.out⟩ (fun hS2 => ?_)
              clear hK K hba hS1
              try simp only [qA, qB, qC, Act.put, qD, qE, qF]
              refine Left.ready (rs := [10]) (by kernel_rfl) (by simp) ?_
              refine Nexts.cons rfl (fun K hK => ?_) Nexts.nil
              refine step_append_lies _ rfl _ _ 27 rfl w1.heap.size 3 i0 (.int .i64 0) 1 8 Tryz.underlying27 hi hz0 hz1 hz2 rfl (by decide) (.slice cad c.length ccap) c.length (ints c) rfl HP9.out.co ⟨v8.heap.size, 0, none⟩ 1 1 [.int .i64 kk] rfl rfl ?_ ?_ (by decide) (by unfold maxLen; omega) (by omega) ?_ _ rfl ?_
              · intro i y hy
                match i, hy with
                | 0, hy => injection hy with hy; subst hy; rw [add0]; go_simp
              · intro y hy
                simp only [List.mem_cons, List.not_mem_nil, or_false] at hy
                subst hy; rfl
              · simp; omega
              intro g4 cap4 v9 hown hgr hat hlt9
              have HPA := Lib.hid (HP9.out.child (a := (kk : Int)) hown hgr (hat.imp id fun h => h.trans (by simp)))
              have hnb9 := HP9.out.box.stand (chg_grown hgr) (fun e => (HP9.out.nc _ e).1 rfl)
              have hcol := World.ownsRow.lt HP9.out.co
              refine on_held hK (by decide) ⟨hnb9, (HDB.out.stand HP9.out.chg HDN.out).stand (chg_grown hgr) (fun e => by have := (hcol _ e).1; omega)⟩ (fun hS3 => ?_)
              clear hK K hown hgr hat hlt9 hS2 hcol
              try simp only [qA, qB, qC, Act.put, qD, qE, qF]
              refine Left.take (i := 11) (v := .pointer (some ⟨N, 1, none⟩)) rfl (by kernel_rfl) (by kernel_rfl) (by kernel_rfl) (by kernel_rfl) (fun _ _ _ h => h) (Or.inl ⟨by rfl, fun z hz => ?_⟩) hS3 ?_
              · obtain ⟨⟨c0, c1, c2, c3, f0, f1, f2, f3, hl⟩, ⟨z1, z2, z3⟩⟩ := hz
                go_simp
              try simp only [qA, qB, qC, Act.put, qD, qE, qF]
              refine Left.ready (rs := [12]) (by kernel_rfl) (by simp) ?_
              refine Nexts.cons rfl (fun K hK => ?_) Nexts.nil
              obtain ⟨_, b1, _, _, _, k1, _⟩ := hnb9
              go_simp
              refine on_last hK (by decide) ?_
              clear hK K b1 k1 hS3 hwr
              try simp only [qA, qB, qC, Act.put, qD, qE, qF]
              refine Left.done (by kernel_rfl) ?_ _
              clear HP9 HP8 HP6 HP2 HB6 HB7 HS
              generalize v9.setCell ⟨N, 1, none⟩ (.slice (some ⟨g4, 0, none⟩) (c.length + 1) cap4) = v10 at *
              go_wp2
              go_roundw
              case rel =>
                refine ⟨n - 1, m3, s ++ [st], c ++ [(kk : Int)], nodes ++ P.build f q.length kk (P.seg D lo3 m3), u8, G8, C8, .slice (some ⟨g3, 0, none⟩) (s.length + 1) cap3, .slice (some ⟨g4, 0, none⟩) (c.length + 1) cap4, rfl, ⟨hm3b, HSTP.out, HFS.out.2.1, HFS.out.2.2, ?_⟩⟩
                rw [show l ++ P.nd0 :: (nodes ++ P.build f q.length kk (P.seg D lo3 m3)) = (l ++ P.nd0 :: nodes) ++ P.build f q.length kk (P.seg D lo3 m3) by simp]
                exact HPA.out
              case measure => simp [intOf]; omega
          · have hl0 : P.seg D lo3 hh = [] := List.eq_nil_of_length_eq_zero (by omega)
            obtain ⟨sad, scap, hsu⟩ := own_form HPL.out.pi.so
            obtain ⟨cad, ccap, hcu⟩ := own_form HPL.out.pi.co
            subst hsu hcu
            have hpi := HPL.out.pi
            have hhf := HPL.out.half
            rw [hl0] at hhf
            have hdone := hhf.done
            have hsm := hhf.small
            have hsl0 := HSL.out
            rw [HOT.out] at hdone
            obtain ⟨gr, capr, hur⟩ := own_some hpi.acc.owns (by simp; omega)
            subst hur
            have hlr : l.length < (l ++ P.nd0 :: nodes).length := by simp
            obtain ⟨a0, a1, a2, a3, ⟨c0, c1, c2, c3⟩, f0, f1, f2, f3⟩ := hpi.acc.cells4 rfl hlr
            obtain ⟨q0, q1, q2, q3, _, _, _, _, _⟩ := hpi.box
            obtain ⟨b0, _, _⟩ := hpi.bl
            have hset : (l ++ P.nd0 :: nodes).set l.length (s, c, ob, ot) = l ++ P.build (f + 1) p.length l.length (P.seg D lo hh) := by
              rw [hdone, List.set_append_right _ _ (Nat.le_refl _), Nat.sub_self]; rfl
            have hfin := ((hpi.done hlr (by omega) (by omega) hset).below (Below.refl _ _).drew).early HBA.out
            have HFIN := Lib.hid hfin
            have i1 : (l.length : Int) < ((l ++ P.nd0 :: nodes).length : Int) := by omega
            have i3 : ¬ (lo3 : Int) < (hh : Int) := by omega
            generalize (l ++ P.nd0 :: nodes).length = lr at *
            clear hfin hset hdone hsm hpi hpl HER hlr hhf hl0 hsl3 hsl0 hle3 d0
            go_upto_region 16 with fail
            go_region
            go_wp2
            go_ret
            exact ⟨rfl, HFIN.out⟩
end
section
open Go Go.RowKit
set_option maxHeartbeats 2000000
set_option maxRecDepth 100000
theorem trie_small {l : P.Dic} (h : P.dic l = true) : (P.build 7 0 0 l).length ≤ 2 ^ 20 := by
  have := P.trie_len h; unfold P.trie at this; omega
/-- a trie out of its builder -/
theorem planted_row {R : Nat} {bl : P.Tri} {u : Value} {w v : World} (h : Planted R bl u (fun _ _ => False) [] w v) (hl : bl.length ≤ 2 ^ 20) : ∃ u', BL R u' v ∧ Nods v (Bet (R + 1) v.heap.size) u' bl ∧ Chg (fun b => b = R ∨ u.ownBlock = some b) w v := by
  obtain ⟨u', G', C', h1, h2, h3, h4, h5⟩ := h
  rw [List.nil_append] at h2
  exact ⟨u', h1, h2.row (by omega), h5⟩
theorem trieOf (dv : Value) (l : P.Dic) (w : World) (hu : EntR w dv l) (hd : P.dic l = true) :
    Calls Tryz.prog 117 #[.agg #[dv]] w (TriPost (P.trie l) w) := by
  have hb0 : Below w.heap.size w (((w.alloc (.cells #[dv] 26)).alloc (.cells #[.slice none 0 0] 86)).alloc (.cells #[.slice none 0 0] 202)) :=
    (((Below.refl w.heap.size w).alloc (Nat.le_refl _) _).alloc (by simp) _).alloc (by simp; omega) _
  have HB0 := Lib.hid hb0; clear hb0
  have HRB := Lib.hid (show BL (w.heap.size + 1) (.slice none 0 0) (((w.alloc (.cells #[dv] 26)).alloc (.cells #[.slice none 0 0] 86)).alloc (.cells #[.slice none 0 0] 202)) by refine ⟨?_, ?_, ?_⟩ <;> go_simp)
  have HBB := Lib.hid (show BL (w.heap.size + 1 + 1) (.slice none 0 0) (((w.alloc (.cells #[dv] 26)).alloc (.cells #[.slice none 0 0] 86)).alloc (.cells #[.slice none 0 0] 202)) by refine ⟨?_, ?_, ?_⟩ <;> go_simp)
  have HU := Lib.hid hu; have HD := Lib.hid hd
  have hll := (P.dic_parts hd).1
  obtain ⟨ad, cap, rfl, _, _⟩ := hu
  clear hd
  go_enter Tryz.func117, Tryz.ntmps117
  go_wp2_with fail
  have h0 : (0 : Int) = (([] : List Int).length : Nat) := rfl
  refine (plant w (w.heap.size + 1 + 1) (by omega) 7 l [] _ (.slice none 0 0) (fun _ _ => False) (fun _ => []) [] _ rfl (.inl (by decide)) (P.dic_shared HD.out) (by omega) HU.out HB0.out HBB.out (AccY.nil (World.ownsRow_nil _ _ _ _) HBB.out.2.2) (by have := trie_small HD.out; simpa using this)).mono ?_
  rintro e v1 ⟨rfl, hp⟩
  obtain ⟨u', hbl, hrow, hch⟩ := planted_row hp (trie_small HD.out)
  have hrb := HRB.out.stand hch (fun e => e.elim (fun e => by omega) (fun e => by cases e))
  have HROW := Lib.hid hrow; have HCH := Lib.hid hch
  have hz := hbl.2.2
  have HBW := Lib.hid (HB0.out.trans (hch.below (B := w.heap.size) HB0.out.size (fun b e => e.elim (fun e => by omega) (fun e => by cases e))))
  obtain ⟨c0, _, _⟩ := hbl
  obtain ⟨r0, s0, _⟩ := hrb
  obtain ⟨ud, uc, rfl, _, _⟩ := hrow
  clear hp hch
  go_wp2
  refine bodyPost_ret (v := .agg #[.slice ud (P.build 7 0 0 l).length uc]) (by simp [results, Tryz.results117, go_sem, r0]) rfl ⟨_, rfl, ?_, ?_⟩
  · refine (HROW.out.stand (X := fun b => b = w.heap.size + 1) nodE_ok ((Chg.refl (fun b => b = w.heap.size + 1) _).setCell (p := ⟨w.heap.size + 1, 0, none⟩) rfl _) (fun b hb e => by have := hb.1; omega)).wide (fun b hb => ⟨by have := hb.1; omega, by simpa [World.setCell] using hb.2⟩) (fun b hb => hb.2)
  · exact HBW.out.setCell (by simp) _
theorem l7BuildY (dv : Value) (l : P.Dic) (w : World) (hu : EntR w dv l) (hd : P.Shared [] l) (hll : l.length ≤ 2 ^ 20) (hbl : (P.build 7 0 0 l).length ≤ 2 ^ 20) :
    Calls Tryz.prog 120 #[.agg #[dv]] w fun e w' => ∃ u G C, e = .returned (.agg #[u]) ∧ AccY 162 4 nodE (w.heap.size + 3) w' u G C (P.trie l) ∧ Below w.heap.size w w' := by
  have hb0 : Below w.heap.size w (((w.alloc (.cells #[dv] 26)).alloc (.cells #[.slice none 0 0] 86)).alloc (.cells #[.slice none 0 0] 86)) :=
    (((Below.refl w.heap.size w).alloc (Nat.le_refl _) _).alloc (by simp) _).alloc (by simp; omega) _
  have HB0 := Lib.hid hb0; clear hb0
  have HRB := Lib.hid (show BL (w.heap.size + 1) (.slice none 0 0) (((w.alloc (.cells #[dv] 26)).alloc (.cells #[.slice none 0 0] 86)).alloc (.cells #[.slice none 0 0] 86)) by refine ⟨?_, ?_, ?_⟩ <;> go_simp)
  have HBB := Lib.hid (show BL (w.heap.size + 1 + 1) (.slice none 0 0) (((w.alloc (.cells #[dv] 26)).alloc (.cells #[.slice none 0 0] 86)).alloc (.cells #[.slice none 0 0] 86)) by refine ⟨?_, ?_, ?_⟩ <;> go_simp)
  have HU := Lib.hid hu; have HD := Lib.hid hd
  have HBL := Lib.hid hbl; clear hbl
  have hseg : P.seg l 0 l.length = l := by unfold P.seg; rw [List.drop_zero, Nat.sub_zero, List.take_length]
  have HSEG := Lib.hid hseg
  obtain ⟨ad, cap, rfl, _, _⟩ := hu
  clear hd hseg
  go_enter Tryz.func120, Tryz.ntmps120
  go_wp2_with fail
  refine (l7Add w (w.heap.size + 1 + 1) (by omega) l (.slice ad l.length cap) HU.out (by omega) 7 0 l.length [] (.slice none 0 0) (fun _ _ => False) (fun _ => []) [] _ rfl (Nat.zero_le _) (Nat.le_refl _) (.inl (by decide)) (by rw [HSEG.out]; exact HD.out) HB0.out HBB.out (AccY.nil (World.ownsRow_nil _ _ _ _) HBB.out.2.2) (by rw [HSEG.out]; have := HBL.out; simpa using this)).mono ?_
  rintro e v1 ⟨rfl, hp⟩
  rw [HSEG.out] at hp
  obtain ⟨u', G', C', hbl, hrow, _, _, hch⟩ := hp
  rw [List.nil_append] at hrow
  have hrb := HRB.out.stand hch (fun e => e.elim (fun e => by omega) (fun e => by cases e))
  have HROW := Lib.hid hrow; have HCH := Lib.hid hch
  have hz := hbl.2.2
  have HBW := Lib.hid (HB0.out.trans (hch.below (B := w.heap.size) HB0.out.size (fun b e => e.elim (fun e => by omega) (fun e => by cases e))))
  have hlt := hrow.lt
  obtain ⟨c0, _, _⟩ := hbl
  obtain ⟨r0, s0, _⟩ := hrb
  obtain ⟨ud, uc, rfl⟩ := hrow.form
  have HLT := Lib.hid hlt
  clear hrow hch hlt
  go_wp2
  refine bodyPost_ret (v := .agg #[.slice ud (P.build 7 0 0 l).length uc]) (by simp [results, Tryz.results120, go_sem, r0]) rfl ⟨_, G', C', rfl, ?_, ?_⟩
  · refine HROW.out.stand (X := fun b => b = w.heap.size + 1) nodE_ok ((Chg.refl (fun b => b = w.heap.size + 1) _).setCell (p := ⟨w.heap.size + 1, 0, none⟩) rfl _) (fun b hb => ⟨fun e => by have := (HLT.out b e).1; omega, fun j hj h => by have := (HROW.out.sub j hj b h).1; omega⟩)
  · exact HBW.out.setCell (by simp) _
theorem l7BuildS (dv : Value) (l : P.Dic) (w : World) (hu : EntR w dv l) (hd : P.Shared [] l) (hll : l.length ≤ 2 ^ 20) (hbl : (P.build 7 0 0 l).length ≤ 2 ^ 20) :
    Calls Tryz.prog 120 #[.agg #[dv]] w (TriPost (P.trie l) w) :=
  (l7BuildY dv l w hu hd hll hbl).mono fun e w' ⟨u, G, C, h1, h2, h3⟩ => ⟨u, h1, (h2.row (by unfold P.trie; omega)).wide (fun b hb => ⟨by have := hb.1; omega, hb.2⟩) (fun b hb => hb.2), h3⟩
theorem l7Build (dv : Value) (l : P.Dic) (w : World) (hu : EntR w dv l) (hd : P.dic l = true) :
    Calls Tryz.prog 120 #[.agg #[dv]] w (TriPost (P.trie l) w) :=
  l7BuildS dv l w hu (P.dic_shared hd) (by have := (P.dic_parts hd).1; omega) (trie_small hd)
end
end Go.Proofs.YtkjidjomlpnnlaaGreatDoor
