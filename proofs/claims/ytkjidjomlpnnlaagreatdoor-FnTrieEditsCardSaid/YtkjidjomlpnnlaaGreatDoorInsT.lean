/- Walks: an entry put into a trie (program, reference). -/
import Derived.Deep.DeepCutAuto
import Derived.Deep.RegionHeld
import Derived.Test.YtkjidjomlpnnlaaGreatDoorDelT
import Derived.Test.YtkjidjomlpnnlaaGreatDoorFDict3
namespace Go.Proofs.YtkjidjomlpnnlaaGreatDoor
section
namespace P
def insTOk (d : Option Dic) (e : Ent) : Bool := match d with
  | none => false
  | some l => insOk e l
theorem insT_dic {e : Ent} {l : Dic} (h : insOk e l = true) : dic (putF e false l) = true := by
  unfold insOk at h
  simp only [Bool.and_eq_true] at h
  rw [put_dic h.1 h.2.1]; exact h.2.2
end P
end
open Go Go.RowKit
set_option maxHeartbeats 4000000
set_option maxRecDepth 100000
theorem impl_insertTrie (tv x : Value) (t : P.Tri) (o : List Int) (tx : Str) (w : World) (hu : NodR w tv t) (ho : IntR w x o) (h1 : o.length ≤ 2 ^ 20) (h2 : tx.length ≤ 2 ^ 30) (hx : ∀ n ∈ t, n.2.2.2.length ≤ 2 ^ 30) (hE : Env w) :
    Calls Tryz.prog 49 #[.agg #[tv], .agg #[x, .string (S tx)]] w (TriKPost (P.insTOk (P.dictI t) (o, tx)) (P.trie (P.putF (o, tx) false ((P.dictI t).getD []))) w) := by
  have hb0 : Below w.heap.size w (((w.alloc (.cells #[tv] 86)).alloc (.cells #[x, .string (S tx)] 38)).alloc (.cells #[.slice none 0 0] 86)) := (((Below.refl w.heap.size w).alloc (Nat.le_refl _) _).alloc (by simp) _).alloc (by simp; omega) _
  have HN := Lib.hid (show TBx w.heap.size (w.heap.size + 1 + 1) tv (((w.alloc (.cells #[tv] 86)).alloc (.cells #[x, .string (S tx)] 38)).alloc (.cells #[.slice none 0 0] 86)) by refine ⟨⟨?_, ?_⟩, ?_, ?_, ?_⟩ <;> go_simp)
  have HEB := Lib.hid (show Box2E (w.heap.size + 1) x tx (((w.alloc (.cells #[tv] 86)).alloc (.cells #[x, .string (S tx)] 38)).alloc (.cells #[.slice none 0 0] 86)) by refine ⟨?_, ?_, ?_⟩ <;> go_simp)
  have HB0 := Lib.hid hb0; have HU := Lib.hid hu; have HX := Lib.hid hx; have HO := Lib.hid ho; have HE := Lib.hid (hE.below hb0 hE.size)
  have HL1 := Lib.hid h1; have HL2 := Lib.hid h2
  clear hb0 hx hE h1 h2
  obtain ⟨ad, cap, rfl, _, _⟩ := hu
  obtain ⟨od, oc, rfl, _, _⟩ := ho
  go_enter Tryz.func49, Tryz.ntmps49
  go_wp2_with fail
  refine (dictT _ t _ (HU.out.below HB0.out) HX.out HE.out).mono ?_
  rintro e w1 ⟨u, rfl, hI, hb⟩
  have HB1 := Lib.hid (HB0.out.trans (hb.mono HB0.out.size)); have HN1 := Lib.hid (HN.out.below hb); have HI := Lib.hid hI; have HE1 := Lib.hid (HE.out.below hb (Nat.le_trans HE.out.size (Nat.le_refl _)))
  have HEB1 := Lib.hid (HEB.out.below hb)
  obtain ⟨ud, uc, rfl, _, _⟩ := hI
  obtain ⟨q, hq⟩ : ∃ q, (P.dictI t).isSome = q := ⟨_, rfl⟩
  have HSM := Lib.hid (small_getD HX.out)
  have HOK := Lib.hid (show (P.insTOk (P.dictI t) (o, tx)) = (q && P.insOk (o, tx) ((P.dictI t).getD [])) by rw [← hq]; cases P.dictI t <;> rfl)
  obtain ⟨l, hl⟩ : ∃ l, (P.dictI t).getD [] = l := ⟨_, rfl⟩
  have HL := Lib.hid hl
  rw [hl] at HI HSM HOK ⊢
  rw [hq]
  have hba := (Below.refl w1.heap.size w1).alloc (Nat.le_refl _) (.cells #[.slice ud l.length uc] 26)
  have HB2 := Lib.hid (HB1.out.trans (hba.mono HB1.out.size)); have HN2 := Lib.hid (HN1.out.below hba); have HI2 := Lib.hid (HI.out.below entE_ok hba); have HE2 := Lib.hid (HE1.out.below hba HE1.out.size)
  have HEB2 := Lib.hid (HEB1.out.below hba); obtain ⟨e0, e1, e2⟩ := HEB1.out
  clear hb hq hl hba
  go_wp2_with fail
  refine (impl_insert _ _ l o tx _ (Ents.read HI2.out) (HO.out.below HB2.out) HSM.out HL1.out HL2.out HE2.out).mono ?_
  rintro e w2 ⟨v, rfl, hJ, hb⟩
  have HB3 := Lib.hid (HB2.out.trans (hb.mono HB2.out.size)); have HN3 := Lib.hid (HN2.out.below hb); have HJ := Lib.hid hJ
  obtain ⟨vd, vc, rfl, _, _⟩ := hJ
  obtain ⟨k, hk⟩ : ∃ k, P.insOk (o, tx) l = k := ⟨_, rfl⟩
  have HK := Lib.hid hk
  rw [hk] at HOK HJ ⊢
  obtain ⟨m, hm⟩ : ∃ m, P.kept k (P.putF (o, tx) false l) = m := ⟨_, rfl⟩
  have HM := Lib.hid hm
  rw [hm] at HJ ⊢
  have hba := (Below.refl w2.heap.size w2).alloc (Nat.le_refl _) (.cells #[.slice vd m.length vc] 26)
  have HB4 := Lib.hid (HB3.out.trans (hba.mono HB3.out.size)); have HN4 := Lib.hid (HN3.out.below hba); have HJ4 := Lib.hid (HJ.out.below entE_ok hba)
  clear hb hk hm hba e0 e1 e2
  cases q
  · have HF := Lib.hid (show (P.insTOk (P.dictI t) (o, tx)) = false from HOK.out)
    obtain ⟨_, b0, f0, _⟩ := HN4.out
    go_wp2
    refine bodyPost_ret (v := .tuple #[.agg #[.slice none 0 0], .bool false]) (by simp [results, Tryz.results49, go_sem, b0]) rfl ⟨_, by rw [HF.out], by rw [HF.out]; exact RowO.nil _ _, HB4.out.setCell (by show w.heap.size ≤ w.heap.size + 1 + 1; omega) _⟩
  · cases k
    · have HF := Lib.hid (show (P.insTOk (P.dictI t) (o, tx)) = false from HOK.out)
      obtain ⟨_, b0, f0, _⟩ := HN4.out
      go_wp2
      refine bodyPost_ret (v := .tuple #[.agg #[.slice none 0 0], .bool false]) (by simp [results, Tryz.results49, go_sem, b0]) rfl ⟨_, by rw [HF.out], by rw [HF.out]; exact RowO.nil _ _, HB4.out.setCell (by show w.heap.size ≤ w.heap.size + 1 + 1; omega) _⟩
    · have HF := Lib.hid (show (P.insTOk (P.dictI t) (o, tx)) = true from HOK.out)
      have HTM := Lib.hid (show P.keptT true (P.trie (P.putF (o, tx) false ((P.dictI t).getD []))) = P.trie m by rw [HL.out, ← HM.out]; rfl)
      have HDM := Lib.hid (show P.dic m = true by rw [← HM.out]; exact P.insT_dic HK.out)
      go_wp2_with fail
      refine (trieOf _ m _ (Ents.read HJ4.out) HDM.out).mono ?_
      rintro e w9 ⟨z, rfl, hZ, hb⟩
      have HB9 := Lib.hid (HB4.out.trans (hb.mono HB4.out.size)); have HN9 := Lib.hid (HN4.out.below hb); have HZ := Lib.hid hZ
      have hz := HN4.out.2.2.2
      obtain ⟨zd, zc, rfl, _, _⟩ := hZ
      obtain ⟨_, b0, f0, _⟩ := HN9.out
      clear hb
      go_wp2
      refine bodyPost_ret (v := .tuple #[.agg #[.slice zd (P.trie m).length zc], .bool true]) (by simp [results, Tryz.results49, go_sem, b0]) rfl ⟨_, by rw [HF.out], ?_, HB9.out.setCell (by show w.heap.size ≤ w.heap.size + 1 + 1; omega) _⟩
      rw [HF.out, HTM.out]
      exact (HZ.out.stand (X := fun b => b = w.heap.size + 1 + 1) nodE_ok ((Chg.refl (fun b => b = w.heap.size + 1 + 1) _).setCell (p := ⟨w.heap.size + 1 + 1, 0, none⟩) rfl _) (fun b hb e => by have := hb.1; omega)).wide (fun b hb => ⟨by have := hb.1; omega, by have := hb.2; simpa [World.setCell] using by omega⟩) (fun b hb => hb.2)
/-- what the region of the reference's InsertTrie keeps -/
def KIT (W : Nat) (tv x : Value) (tx : Str) (v : World) : Prop := (v.cell? ⟨W, 0, none⟩ = some tv ∧ v.cell? ⟨W + 1, 0, none⟩ = some x ∧ v.cell? ⟨W + 1, 1, none⟩ = some (.string (S tx))) ∧ W + 1 < v.heap.size
theorem KIT.stand {W : Nat} {tv x : Value} {tx : Str} {v v' : World} {X : Blk} (h : KIT W tv x tx v) (hc : Chg X v v') (h1 : ¬ X W) (h2 : ¬ X (W + 1)) : KIT W tv x tx v' :=
  ⟨⟨(hc.cell (p := ⟨W, 0, none⟩) (by have := h.2; show W < _; omega) h1).trans h.1.1, (hc.cell (p := ⟨W + 1, 0, none⟩) h.2 h2).trans h.1.2.1, (hc.cell (p := ⟨W + 1, 1, none⟩) h.2 h2).trans h.1.2.2⟩, Nat.lt_of_lt_of_le h.2 hc.size⟩
theorem KIT.step {W : Nat} {tv x : Value} {tx : Str} {v v' : World} (h : KIT W tv x tx v) (hb : Below v.heap.size v v') : KIT W tv x tx v' := h.stand (Below.chg hb fun _ => False) (fun h => h) (fun h => h)
theorem spec_insertTrie (tv x : Value) (t : P.Tri) (o : List Int) (tx : Str) (w : World) (hu : NodR w tv t) (ho : IntR w x o) (h1 : o.length ≤ 2 ^ 20) (h2 : tx.length ≤ 2 ^ 30) (hx : ∀ n ∈ t, n.2.2.2.length ≤ 2 ^ 30) :
    Calls Tryz.prog 50 #[.agg #[tv], .agg #[x, .string (S tx)]] w (TriKPost (P.insTOk (P.dictI t) (o, tx)) (P.trie (P.putF (o, tx) false ((P.dictI t).getD []))) w) := by
  have hb0 : Below w.heap.size w (((w.alloc (.cells #[tv] 86)).alloc (.cells #[x, .string (S tx)] 38)).alloc (.cells #[.slice none 0 0] 86)) := (((Below.refl w.heap.size w).alloc (Nat.le_refl _) _).alloc (by simp) _).alloc (by simp; omega) _
  have HN := Lib.hid (show TBx w.heap.size (w.heap.size + 1 + 1) tv (((w.alloc (.cells #[tv] 86)).alloc (.cells #[x, .string (S tx)] 38)).alloc (.cells #[.slice none 0 0] 86)) by refine ⟨⟨?_, ?_⟩, ?_, ?_, ?_⟩ <;> go_simp)
  have HEB := Lib.hid (show Box2E (w.heap.size + 1) x tx (((w.alloc (.cells #[tv] 86)).alloc (.cells #[x, .string (S tx)] 38)).alloc (.cells #[.slice none 0 0] 86)) by refine ⟨?_, ?_, ?_⟩ <;> go_simp)
  have HB0 := Lib.hid hb0; have HU := Lib.hid hu; have HX := Lib.hid hx; have HO := Lib.hid ho
  have HL1 := Lib.hid h1; have HL2 := Lib.hid h2
  clear hb0 hx h1 h2
  obtain ⟨ad, cap, rfl, _, _⟩ := hu
  obtain ⟨od, oc, rfl, _, _⟩ := ho
  go_enter Tryz.func50, Tryz.ntmps50
  go_wp2_with fail
  refine (spec_isValidTrie _ t _ (HU.out.below HB0.out) HX.out).mono ?_
  rintro e w1 ⟨rfl, hb⟩
  rw [← P.dict_eq]
  have HB1 := Lib.hid (HB0.out.trans (hb.mono HB0.out.size)); have HN1 := Lib.hid (HN.out.below hb)
  have HEB1 := Lib.hid (HEB.out.below hb)
  clear hb HB0 HN HEB
  cases hd : P.dictI t with
  | none =>
    have HF := Lib.hid (show (P.insTOk (P.dictI t) (o, tx)) = false by rw [hd]; rfl); clear hd
    obtain ⟨_, b0, f0, _⟩ := HN1.out
    simp only [Option.isSome_none]
    go_wp2
    refine bodyPost_ret (v := .tuple #[.agg #[.slice none 0 0], .bool false]) (by simp [results, Tryz.results50, go_sem, b0]) rfl ⟨_, by rw [HF.out], by rw [HF.out]; exact RowO.nil _ _, HB1.out.setCell (by show w.heap.size ≤ w.heap.size + 1 + 1; omega) _⟩
  | some l =>
    have HSM := Lib.hid (small_fun hd HX.out)
    have HOK := Lib.hid (show (P.insTOk (P.dictI t) (o, tx)) = P.insOk (o, tx) l by rw [hd]; rfl)
    have HL := Lib.hid (show (P.dictI t).getD [] = l by rw [hd]; rfl)
    obtain ⟨hdl, htl⟩ := P.dictI_of hd
    have HCL := Lib.hid (show P.collect t t.length 0 [] = l by have h := P.trie_collect hdl; rwa [← htl] at h)
    have HSH := Lib.hid (show P.Shaped t by have h := P.shaped_of (P.trie_shape hdl); rwa [← htl] at h)
    clear hd hdl htl
    simp only [Option.isSome_some]
    have hbd := (Below.refl w1.heap.size w1).drew
    have HS := Lib.hid (show KIT w.heap.size (.slice ad t.length cap) (.slice od o.length oc) tx w1.drew from KIT.step ⟨⟨HN1.out.1.1, HEB1.out.1, HEB1.out.2.1⟩, HEB1.out.2.2⟩ hbd)
    have HBD := Lib.hid (HB1.out.trans (hbd.mono HB1.out.size)); have HND := Lib.hid (HN1.out.below hbd)
    have HWZ := Lib.hid (show w.heap.size + 2 < w1.drew.heap.size by have := HND.out.2.2.2; omega)
    clear hbd HB1 HN1 HEB1
    go_upto_region 3 with fail
    go_cut [6, 7] (fun p q wx => ∃ R v, p = .pointer (some ⟨R, 0, none⟩) ∧ q = .bool (P.insOk (o, tx) l) ∧ Box1 R v wx ∧ EntR wx v (P.kept (P.insOk (o, tx) l) (P.putF (o, tx) false l)) ∧ TBx w.heap.size (w.heap.size + 1 + 1) (.slice ad t.length cap) wx ∧ Below w.heap.size w wx)
    case first =>
      refine wp_region_held_drew (S := KIT w.heap.size (.slice ad t.length cap) (.slice od o.length oc) tx) (by kernel_rfl) HS.out (fun hS0 => ?_)
      generalize w1.drew = v0 at *
      refine wpAnyH_take (i := 0) (v := .agg #[.slice ad t.length cap]) rfl (by kernel_rfl) (by kernel_rfl) (by kernel_rfl) (fun _ _ _ h => h) (Or.inl ⟨by rfl, fun z hz => ?_⟩) hS0 ?_
      · obtain ⟨⟨z1, z2, z3⟩, z4⟩ := hz
        go_simp
      try simp only [qA, qB, Act.put, qD, qE, qF]
      refine wpAnyH_take (i := 2) (v := .agg #[.slice od o.length oc, .string (S tx)]) rfl (by kernel_rfl) (by kernel_rfl) (by kernel_rfl) (fun _ _ _ h => h) (Or.inl ⟨by rfl, fun z hz => ?_⟩) hS0 ?_
      · obtain ⟨⟨z1, z2, z3⟩, z4⟩ := hz
        go_simp
      try simp only [qA, qB, qC, Act.put, qD, qE, qF]
      refine wpAnyH_ready (rs := [1, 7]) (by kernel_rfl) (by simp) ?_
      refine AllReadyH.cons rfl (fun K hK => ?_) (AllReadyH.cons rfl (fun K hK => ?_) AllReadyH.nil)
      · skip
        go_simp
        refine (l7Entries _ t _ (HU.out.below HBD.out) HSH.out).mono ?_
        rintro e v1 ⟨u, rfl, hI, hb⟩
        rw [HCL.out] at hI
        obtain ⟨ud, uc, rfl, _, _⟩ := id hI
        have HIv1 := Lib.hid hI; clear hI
        have HBv1 := Lib.hid (HBD.out.trans (hb.mono HBD.out.size)); have HNv1 := Lib.hid (HND.out.below hb)
        refine hK.out _ _ (hS0.step hb) (fun hSv1 => ?_)
        clear hK K hb hS0
        try simp only [qA, qB, qC, Act.put, qD, qE, qF]
        refine wpAnyH_ready (rs := [3, 7]) (by kernel_rfl) (by simp) ?_
        refine AllReadyH.cons rfl (fun K hK => ?_) (AllReadyH.cons rfl (fun K hK => ?_) AllReadyH.nil)
        · skip
          go_simp
          refine (spec_insert _ _ l o tx _ (Ents.read HIv1.out) (HO.out.below HBv1.out) HSM.out HL1.out HL2.out).mono ?_
          rintro e v2 ⟨y, rfl, hJ, hb⟩
          obtain ⟨yd, yc, rfl, _, _⟩ := id hJ
          have HJv2 := Lib.hid hJ; clear hJ
          have HBv2 := Lib.hid (HBv1.out.trans (hb.mono HBv1.out.size)); have HNv2 := Lib.hid (HNv1.out.below hb)
          refine hK.out _ _ (hSv1.step hb) (fun hSv2 => ?_)
          clear hK K hb hSv1
          try simp only [qA, qB, qC, Act.put, qD, qE, qF]
          refine wpAnyH_take (i := 4) (v := .tuple #[.agg #[.slice yd (P.kept (P.insOk (o, tx) l) (P.putF (o, tx) false l)).length yc], .bool (P.insOk (o, tx) l)]) rfl (by kernel_rfl) (by kernel_rfl) (by kernel_rfl) (fun _ _ _ h => h) (Or.inl ⟨by rfl, fun z hz => ?_⟩) hSv2 ?_
          · obtain ⟨⟨z1, z2, z3⟩, z4⟩ := hz
            go_simp
          try simp only [qA, qB, qC, Act.put, qD, qE, qF]
          refine wpAnyH_take (i := 5) (v := .agg #[.slice yd (P.kept (P.insOk (o, tx) l) (P.putF (o, tx) false l)).length yc]) rfl (by kernel_rfl) (by kernel_rfl) (by kernel_rfl) (fun _ _ _ h => h) (Or.inl ⟨by rfl, fun z hz => ?_⟩) hSv2 ?_
          · obtain ⟨⟨z1, z2, z3⟩, z4⟩ := hz
            go_simp
          try simp only [qA, qB, qC, Act.put, qD, qE, qF]
          refine wpAnyH_take (i := 6) (v := .bool (P.insOk (o, tx) l)) rfl (by kernel_rfl) (by kernel_rfl) (by kernel_rfl) (fun _ _ _ h => h) (Or.inl ⟨by rfl, fun z hz => ?_⟩) hSv2 ?_
          · obtain ⟨⟨z1, z2, z3⟩, z4⟩ := hz
            go_simp
          try simp only [qA, qB, qC, Act.put, qD, qE, qF]
          refine wpAnyH_ready (rs := [7]) (by kernel_rfl) (by simp) ?_
          refine AllReadyH.cons rfl (fun K hK => ?_) AllReadyH.nil
          go_simp
          have hb := (Below.refl v2.heap.size v2).alloc (Nat.le_refl _) (.cells #[.slice none 0 0] 26)
          have HRv3 := Lib.hid (NBx.new v2 26)
          have hzr : w.heap.size + 2 < v2.heap.size := by have := HNv2.out.2.2.2; omega
          have HZR := Lib.hid hzr; clear hzr
          have HBv3 := Lib.hid (HBv2.out.trans (hb.mono HBv2.out.size)); have HNv3 := Lib.hid (HNv2.out.below hb)
          have HJv3 := Lib.hid (HJv2.out.below entE_ok hb)
          refine hK.out _ _ (hSv2.step hb) (fun hSv3 => ?_)
          clear hK K hb hSv2
          generalize v2.alloc (.cells #[.slice none 0 0] 26) = v3 at *
          try simp only [qA, qB, qC, Act.put, qD, qE, qF]
          refine wpAnyH_ready (rs := [8]) (by kernel_rfl) (by simp) ?_
          refine AllReadyH.cons rfl (fun K hK => ?_) AllReadyH.nil
          obtain ⟨r0, r1, r2⟩ := HRv3.out
          go_simp
          have hch := (Chg.refl (fun b => b = v2.heap.size) v3).setCell (p := ⟨v2.heap.size, 0, none⟩) rfl (.slice yd (P.kept (P.insOk (o, tx) l) (P.putF (o, tx) false l)).length yc)
          have HBX := Lib.hid (show Box1 (v2.heap.size) (.slice yd (P.kept (P.insOk (o, tx) l) (P.putF (o, tx) false l)).length yc) (v3.setCell ⟨v2.heap.size, 0, none⟩ (.slice yd (P.kept (P.insOk (o, tx) l) (P.putF (o, tx) false l)).length yc)) from ⟨World.cell?_setCell_same _ _ _ r0, by simpa [World.setCell] using r2⟩)
          have HJE := Lib.hid (Ents.read (HJv3.out.stand entE_ok hch (fun b hb e => by have h1 := hb.1; have h2 := hb.2; omega)))
          have HNF := Lib.hid (show TBx w.heap.size (w.heap.size + 1 + 1) (.slice ad t.length cap) (v3.setCell ⟨v2.heap.size, 0, none⟩ (.slice yd (P.kept (P.insOk (o, tx) l) (P.putF (o, tx) false l)).length yc)) from ⟨⟨(hch.cell (p := ⟨w.heap.size, 0, none⟩) HNv3.out.1.2 (fun e => by have h1 := HZR.out; have h2 : w.heap.size = _ := e; omega)).trans HNv3.out.1.1, by simpa [World.setCell] using HNv3.out.1.2⟩, HNv3.out.2.stand hch (fun e => by have := HZR.out; omega)⟩)
          have HBF := Lib.hid (HBv3.out.setCell (p := ⟨v2.heap.size, 0, none⟩) (by have := HZR.out; show w.heap.size ≤ v2.heap.size; omega) (.slice yd (P.kept (P.insOk (o, tx) l) (P.putF (o, tx) false l)).length yc))
          refine hK.out _ _ (hSv3.stand hch (fun e => by have := HZR.out; omega) (fun e => by have := HZR.out; omega)) (fun hS9 => ?_)
          clear hK K hch r0 r1 r2 hSv3
          try simp only [qA, qB, qC, Act.put, qD, qE, qF]
          refine wpAnyH_take (i := 9) (v := .bool (P.insOk (o, tx) l)) rfl (by kernel_rfl) (by kernel_rfl) (by kernel_rfl) (fun _ _ _ h => h) (Or.inl ⟨by rfl, fun z hz => ?_⟩) hS9 ?_
          · obtain ⟨⟨z1, z2, z3⟩, z4⟩ := hz
            go_simp
          try simp only [qA, qB, qC, Act.put, qD, qE, qF]
          refine wpAnyH_done (by kernel_rfl) ?_ _
          clear hS9
          go_wp2_with fail
          go_meet
          case rel => exact ⟨_, _, rfl, rfl, HBX.out, HJE.out, HNF.out, HBF.out⟩
        · skip
          go_simp
          have hb := (Below.refl v1.heap.size v1).alloc (Nat.le_refl _) (.cells #[.slice none 0 0] 26)
          have HRv5 := Lib.hid (NBx.new v1 26)
          have hzr : w.heap.size + 2 < v1.heap.size := by have := HNv1.out.2.2.2; omega
          have HZR := Lib.hid hzr; clear hzr
          have HBv5 := Lib.hid (HBv1.out.trans (hb.mono HBv1.out.size)); have HNv5 := Lib.hid (HNv1.out.below hb)
          have HIv5 := Lib.hid (HIv1.out.below entE_ok hb)
          refine hK.out _ _ (hSv1.step hb) (fun hSv5 => ?_)
          clear hK K hb hSv1
          generalize v1.alloc (.cells #[.slice none 0 0] 26) = v5 at *
          try simp only [qA, qB, qC, Act.put, qD, qE, qF]
          refine wpAnyH_ready (rs := [3]) (by kernel_rfl) (by simp) ?_
          refine AllReadyH.cons rfl (fun K hK => ?_) AllReadyH.nil
          go_simp
          refine (spec_insert _ _ l o tx _ (Ents.read HIv5.out) (HO.out.below HBv5.out) HSM.out HL1.out HL2.out).mono ?_
          rintro e v6 ⟨y, rfl, hJ, hb⟩
          obtain ⟨yd, yc, rfl, _, _⟩ := id hJ
          have HJv6 := Lib.hid hJ; clear hJ
          have HBv6 := Lib.hid (HBv5.out.trans (hb.mono HBv5.out.size)); have HNv6 := Lib.hid (HNv5.out.below hb)
          have HRv6 := Lib.hid (HRv5.out.below hb)
          refine hK.out _ _ (hSv5.step hb) (fun hSv6 => ?_)
          clear hK K hb hSv5
          try simp only [qA, qB, qC, Act.put, qD, qE, qF]
          refine wpAnyH_take (i := 4) (v := .tuple #[.agg #[.slice yd (P.kept (P.insOk (o, tx) l) (P.putF (o, tx) false l)).length yc], .bool (P.insOk (o, tx) l)]) rfl (by kernel_rfl) (by kernel_rfl) (by kernel_rfl) (fun _ _ _ h => h) (Or.inl ⟨by rfl, fun z hz => ?_⟩) hSv6 ?_
          · obtain ⟨⟨z1, z2, z3⟩, z4⟩ := hz
            go_simp
          try simp only [qA, qB, qC, Act.put, qD, qE, qF]
          refine wpAnyH_take (i := 5) (v := .agg #[.slice yd (P.kept (P.insOk (o, tx) l) (P.putF (o, tx) false l)).length yc]) rfl (by kernel_rfl) (by kernel_rfl) (by kernel_rfl) (fun _ _ _ h => h) (Or.inl ⟨by rfl, fun z hz => ?_⟩) hSv6 ?_
          · obtain ⟨⟨z1, z2, z3⟩, z4⟩ := hz
            go_simp
          try simp only [qA, qB, qC, Act.put, qD, qE, qF]
          refine wpAnyH_take (i := 6) (v := .bool (P.insOk (o, tx) l)) rfl (by kernel_rfl) (by kernel_rfl) (by kernel_rfl) (fun _ _ _ h => h) (Or.inl ⟨by rfl, fun z hz => ?_⟩) hSv6 ?_
          · obtain ⟨⟨z1, z2, z3⟩, z4⟩ := hz
            go_simp
          try simp only [qA, qB, qC, Act.put, qD, qE, qF]
          refine wpAnyH_ready (rs := [8]) (by kernel_rfl) (by simp) ?_
          refine AllReadyH.cons rfl (fun K hK => ?_) AllReadyH.nil
          obtain ⟨r0, r1, r2⟩ := HRv6.out
          go_simp
          have hch := (Chg.refl (fun b => b = v1.heap.size) v6).setCell (p := ⟨v1.heap.size, 0, none⟩) rfl (.slice yd (P.kept (P.insOk (o, tx) l) (P.putF (o, tx) false l)).length yc)
          have HBX := Lib.hid (show Box1 (v1.heap.size) (.slice yd (P.kept (P.insOk (o, tx) l) (P.putF (o, tx) false l)).length yc) (v6.setCell ⟨v1.heap.size, 0, none⟩ (.slice yd (P.kept (P.insOk (o, tx) l) (P.putF (o, tx) false l)).length yc)) from ⟨World.cell?_setCell_same _ _ _ r0, by simpa [World.setCell] using r2⟩)
          have HJE := Lib.hid (Ents.read (HJv6.out.stand entE_ok hch (fun b hb e => by have h1 := hb.1; have h2 := hb.2; have := HRv5.out.2.2; omega)))
          have HNF := Lib.hid (show TBx w.heap.size (w.heap.size + 1 + 1) (.slice ad t.length cap) (v6.setCell ⟨v1.heap.size, 0, none⟩ (.slice yd (P.kept (P.insOk (o, tx) l) (P.putF (o, tx) false l)).length yc)) from ⟨⟨(hch.cell (p := ⟨w.heap.size, 0, none⟩) HNv6.out.1.2 (fun e => by have h1 := HZR.out; have h2 : w.heap.size = _ := e; omega)).trans HNv6.out.1.1, by simpa [World.setCell] using HNv6.out.1.2⟩, HNv6.out.2.stand hch (fun e => by have := HZR.out; omega)⟩)
          have HBF := Lib.hid (HBv6.out.setCell (p := ⟨v1.heap.size, 0, none⟩) (by have := HZR.out; show w.heap.size ≤ v1.heap.size; omega) (.slice yd (P.kept (P.insOk (o, tx) l) (P.putF (o, tx) false l)).length yc))
          refine hK.out _ _ (hSv6.stand hch (fun e => by have := HZR.out; omega) (fun e => by have := HZR.out; omega)) (fun hS9 => ?_)
          clear hK K hch r0 r1 r2 hSv6
          try simp only [qA, qB, qC, Act.put, qD, qE, qF]
          refine wpAnyH_take (i := 9) (v := .bool (P.insOk (o, tx) l)) rfl (by kernel_rfl) (by kernel_rfl) (by kernel_rfl) (fun _ _ _ h => h) (Or.inl ⟨by rfl, fun z hz => ?_⟩) hS9 ?_
          · obtain ⟨⟨z1, z2, z3⟩, z4⟩ := hz
            go_simp
          try simp only [qA, qB, qC, Act.put, qD, qE, qF]
          refine wpAnyH_done (by kernel_rfl) ?_ _
          clear hS9
          go_wp2_with fail
          go_meet
          case rel => exact ⟨_, _, rfl, rfl, HBX.out, HJE.out, HNF.out, HBF.out⟩
      · skip
        go_simp
        have hb := (Below.refl v0.heap.size v0).alloc (Nat.le_refl _) (.cells #[.slice none 0 0] 26)
        have HRv8 := Lib.hid (NBx.new v0 26)
        have hzr : w.heap.size + 2 < v0.heap.size := by have := HND.out.2.2.2; omega
        have HZR := Lib.hid hzr; clear hzr
        have HBv8 := Lib.hid (HBD.out.trans (hb.mono HBD.out.size)); have HNv8 := Lib.hid (HND.out.below hb)
        refine hK.out _ _ (hS0.step hb) (fun hSv8 => ?_)
        clear hK K hb hS0
        generalize v0.alloc (.cells #[.slice none 0 0] 26) = v8 at *
        try simp only [qA, qB, qC, Act.put, qD, qE, qF]
        refine wpAnyH_ready (rs := [1]) (by kernel_rfl) (by simp) ?_
        refine AllReadyH.cons rfl (fun K hK => ?_) AllReadyH.nil
        go_simp
        refine (l7Entries _ t _ (HU.out.below HBv8.out) HSH.out).mono ?_
        rintro e v9 ⟨u, rfl, hI, hb⟩
        rw [HCL.out] at hI
        obtain ⟨ud, uc, rfl, _, _⟩ := id hI
        have HIv9 := Lib.hid hI; clear hI
        have HBv9 := Lib.hid (HBv8.out.trans (hb.mono HBv8.out.size)); have HNv9 := Lib.hid (HNv8.out.below hb)
        have HRv9 := Lib.hid (HRv8.out.below hb)
        refine hK.out _ _ (hSv8.step hb) (fun hSv9 => ?_)
        clear hK K hb hSv8
        try simp only [qA, qB, qC, Act.put, qD, qE, qF]
        refine wpAnyH_ready (rs := [3]) (by kernel_rfl) (by simp) ?_
        refine AllReadyH.cons rfl (fun K hK => ?_) AllReadyH.nil
        go_simp
        refine (spec_insert _ _ l o tx _ (Ents.read HIv9.out) (HO.out.below HBv9.out) HSM.out HL1.out HL2.out).mono ?_
        rintro e v10 ⟨y, rfl, hJ, hb⟩
        obtain ⟨yd, yc, rfl, _, _⟩ := id hJ
        have HJv10 := Lib.hid hJ; clear hJ
        have HBv10 := Lib.hid (HBv9.out.trans (hb.mono HBv9.out.size)); have HNv10 := Lib.hid (HNv9.out.below hb)
        have HRv10 := Lib.hid (HRv9.out.below hb)
        refine hK.out _ _ (hSv9.step hb) (fun hSv10 => ?_)
        clear hK K hb hSv9
        try simp only [qA, qB, qC, Act.put, qD, qE, qF]
        refine wpAnyH_take (i := 4) (v := .tuple #[.agg #[.slice yd (P.kept (P.insOk (o, tx) l) (P.putF (o, tx) false l)).length yc], .bool (P.insOk (o, tx) l)]) rfl (by kernel_rfl) (by kernel_rfl) (by kernel_rfl) (fun _ _ _ h => h) (Or.inl ⟨by rfl, fun z hz => ?_⟩) hSv10 ?_
        · obtain ⟨⟨z1, z2, z3⟩, z4⟩ := hz
          go_simp
        try simp only [qA, qB, qC, Act.put, qD, qE, qF]
        refine wpAnyH_take (i := 5) (v := .agg #[.slice yd (P.kept (P.insOk (o, tx) l) (P.putF (o, tx) false l)).length yc]) rfl (by kernel_rfl) (by kernel_rfl) (by kernel_rfl) (fun _ _ _ h => h) (Or.inl ⟨by rfl, fun z hz => ?_⟩) hSv10 ?_
        · obtain ⟨⟨z1, z2, z3⟩, z4⟩ := hz
          go_simp
        try simp only [qA, qB, qC, Act.put, qD, qE, qF]
        refine wpAnyH_take (i := 6) (v := .bool (P.insOk (o, tx) l)) rfl (by kernel_rfl) (by kernel_rfl) (by kernel_rfl) (fun _ _ _ h => h) (Or.inl ⟨by rfl, fun z hz => ?_⟩) hSv10 ?_
        · obtain ⟨⟨z1, z2, z3⟩, z4⟩ := hz
          go_simp
        try simp only [qA, qB, qC, Act.put, qD, qE, qF]
        refine wpAnyH_ready (rs := [8]) (by kernel_rfl) (by simp) ?_
        refine AllReadyH.cons rfl (fun K hK => ?_) AllReadyH.nil
        obtain ⟨r0, r1, r2⟩ := HRv10.out
        go_simp
        have hch := (Chg.refl (fun b => b = v0.heap.size) v10).setCell (p := ⟨v0.heap.size, 0, none⟩) rfl (.slice yd (P.kept (P.insOk (o, tx) l) (P.putF (o, tx) false l)).length yc)
        have HBX := Lib.hid (show Box1 (v0.heap.size) (.slice yd (P.kept (P.insOk (o, tx) l) (P.putF (o, tx) false l)).length yc) (v10.setCell ⟨v0.heap.size, 0, none⟩ (.slice yd (P.kept (P.insOk (o, tx) l) (P.putF (o, tx) false l)).length yc)) from ⟨World.cell?_setCell_same _ _ _ r0, by simpa [World.setCell] using r2⟩)
        have HJE := Lib.hid (Ents.read (HJv10.out.stand entE_ok hch (fun b hb e => by have h1 := hb.1; have h2 := hb.2; have := HRv9.out.2.2; omega)))
        have HNF := Lib.hid (show TBx w.heap.size (w.heap.size + 1 + 1) (.slice ad t.length cap) (v10.setCell ⟨v0.heap.size, 0, none⟩ (.slice yd (P.kept (P.insOk (o, tx) l) (P.putF (o, tx) false l)).length yc)) from ⟨⟨(hch.cell (p := ⟨w.heap.size, 0, none⟩) HNv10.out.1.2 (fun e => by have h1 := HZR.out; have h2 : w.heap.size = _ := e; omega)).trans HNv10.out.1.1, by simpa [World.setCell] using HNv10.out.1.2⟩, HNv10.out.2.stand hch (fun e => by have := HZR.out; omega)⟩)
        have HBF := Lib.hid (HBv10.out.setCell (p := ⟨v0.heap.size, 0, none⟩) (by have := HZR.out; show w.heap.size ≤ v0.heap.size; omega) (.slice yd (P.kept (P.insOk (o, tx) l) (P.putF (o, tx) false l)).length yc))
        refine hK.out _ _ (hSv10.stand hch (fun e => by have := HZR.out; omega) (fun e => by have := HZR.out; omega)) (fun hS9 => ?_)
        clear hK K hch r0 r1 r2 hSv10
        try simp only [qA, qB, qC, Act.put, qD, qE, qF]
        refine wpAnyH_take (i := 9) (v := .bool (P.insOk (o, tx) l)) rfl (by kernel_rfl) (by kernel_rfl) (by kernel_rfl) (fun _ _ _ h => h) (Or.inl ⟨by rfl, fun z hz => ?_⟩) hS9 ?_
        · obtain ⟨⟨z1, z2, z3⟩, z4⟩ := hz
          go_simp
        try simp only [qA, qB, qC, Act.put, qD, qE, qF]
        refine wpAnyH_done (by kernel_rfl) ?_ _
        clear hS9
        go_wp2_with fail
        go_meet
        case rel => exact ⟨_, _, rfl, rfl, HBX.out, HJE.out, HNF.out, HBF.out⟩
    case rest =>
      obtain ⟨R, v, rfl, rfl, hbx, hje, hnf, hbf⟩ := hcut
      obtain ⟨r0, r1⟩ := hbx
      obtain ⟨k, hk⟩ : ∃ k, P.insOk (o, tx) l = k := ⟨_, rfl⟩
      have HK := Lib.hid hk
      rw [hk] at HOK hje ⊢
      obtain ⟨m, hm⟩ : ∃ m, P.kept k (P.putF (o, tx) false l) = m := ⟨_, rfl⟩
      have HM := Lib.hid hm
      rw [hm] at hje
      have HJ := Lib.hid hje; have HN4 := Lib.hid hnf; have HB4 := Lib.hid hbf
      obtain ⟨vd, vc, rfl, _, _⟩ := hje
      clear hnf hbf hk hm HS HBD HND HWZ
      cases k
      · have HF := Lib.hid (show (P.insTOk (P.dictI t) (o, tx)) = false from HOK.out)
        obtain ⟨_, b0, f0, _⟩ := HN4.out
        go_wp2
        refine bodyPost_ret (v := .tuple #[.agg #[.slice none 0 0], .bool false]) (by simp [results, Tryz.results50, go_sem, b0]) rfl ⟨_, by rw [HF.out], by rw [HF.out]; exact RowO.nil _ _, HB4.out.setCell (by show w.heap.size ≤ w.heap.size + 1 + 1; omega) _⟩
      · have HF := Lib.hid (show (P.insTOk (P.dictI t) (o, tx)) = true from HOK.out)
        have HTM := Lib.hid (show P.keptT true (P.trie (P.putF (o, tx) false ((P.dictI t).getD []))) = P.trie m by rw [HL.out, ← HM.out]; rfl)
        have HDM := Lib.hid (show P.dic m = true by rw [← HM.out]; exact P.insT_dic HK.out)
        have hz := HN4.out.2.2.2
        go_wp2_with fail
        refine (l7Build _ m _ HJ.out HDM.out).mono ?_
        rintro e w9 ⟨z, rfl, hZ, hb⟩
        have HB9 := Lib.hid (HB4.out.trans (hb.mono HB4.out.size)); have HN9 := Lib.hid (HN4.out.below hb); have HZ := Lib.hid hZ
        obtain ⟨zd, zc, rfl, _, _⟩ := hZ
        obtain ⟨_, b0, f0, _⟩ := HN9.out
        clear hb
        go_wp2
        refine bodyPost_ret (v := .tuple #[.agg #[.slice zd (P.trie m).length zc], .bool true]) (by simp [results, Tryz.results50, go_sem, b0]) rfl ⟨_, by rw [HF.out], ?_, HB9.out.setCell (by show w.heap.size ≤ w.heap.size + 1 + 1; omega) _⟩
        rw [HF.out, HTM.out]
        exact (HZ.out.stand (X := fun b => b = w.heap.size + 1 + 1) nodE_ok ((Chg.refl (fun b => b = w.heap.size + 1 + 1) _).setCell (p := ⟨w.heap.size + 1 + 1, 0, none⟩) rfl _) (fun b hb e => by have := hb.1; omega)).wide (fun b hb => ⟨by have := hb.1; omega, by have := hb.2; simpa [World.setCell] using by omega⟩) (fun b hb => hb.2)
end Go.Proofs.YtkjidjomlpnnlaaGreatDoor
