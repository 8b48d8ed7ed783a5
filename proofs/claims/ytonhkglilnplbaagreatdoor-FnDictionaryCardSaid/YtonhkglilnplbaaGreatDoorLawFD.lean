/- The law of dictionaries: an entry put in is found, all others are as before; what is taken out is put in again. -/
import Derived.Test.YtonhkglilnplbaaGreatDoorFDict3
set_option linter.all false
namespace Go.Proofs.YtonhkglilnplbaaGreatDoor
open Go Go.RowKit
set_option maxHeartbeats 8000000
set_option maxRecDepth 100000
theorem CodeIs.below {w w' : World} {v : Value} (h : CodeIs w v) (hb : Below w.heap.size w w') : CodeIs w' v := by
  obtain ⟨ad, n, cap, rfl, hn, hc⟩ := h
  refine ⟨ad, n, cap, rfl, hn, hc.imp id ?_⟩
  rintro ⟨g, o, h1, h2, h3⟩
  refine ⟨g, o, h1, Nat.lt_of_lt_of_le h2 hb.size, fun j hj => ?_⟩
  obtain ⟨b, hb1, hb2⟩ := h3 j hj
  exact ⟨b, hb1, (hb.cell (p := ⟨g, o + j, none⟩) h2).trans hb2⟩
/-- the boxes of the law: the dictionary, the entry, the new dictionary -/
structure FB (D E X : Nat) (w : World) (dv : Value) (l : P.Dic) (ov : Value) (o : List Int) (t : Str) (xv : Value) (xl : P.Dic) (v : World) : Prop where
  bd : DBx D dv v
  be : EnBx E ov t v
  bx : DBx X xv v
  rd : EntR v dv l
  ro : IntR v ov o
  rx : EntR v xv xl
  bel : Below w.heap.size w v
  env : Env v
theorem FB.below {D E X : Nat} {w : World} {dv : Value} {l : P.Dic} {ov : Value} {o : List Int} {t : Str} {xv : Value} {xl : P.Dic} {v v' : World} (h : FB D E X w dv l ov o t xv xl v) (hb : Below v.heap.size v v') : FB D E X w dv l ov o t xv xl v' := by
  obtain ⟨h1, h2, h3, h4, h5, h6, h7, h8⟩ := h
  exact ⟨h1.below hb, h2.below hb, h3.below hb, h4.below hb, h5.below hb, h6.below hb, h7.trans (hb.mono h7.size), h8.below hb h8.size⟩
/-- the second dictionary and an outline -/
structure FB2 (B : Nat) (bv : Value) (b : P.Dic) (qv : Value) (q : List Int) (v : World) : Prop where
  bb : DBx B bv v
  rb : EntR v bv b
  rq : IntR v qv q
theorem FB2.below {B : Nat} {bv : Value} {b : P.Dic} {qv : Value} {q : List Int} {v v' : World} (h : FB2 B bv b qv q v) (hb : Below v.heap.size v v') : FB2 B bv b qv q v' := ⟨h.bb.below hb, h.rb.below hb, h.rq.below hb⟩
/-- what region 6 reads -/
def FSt (X Y E : Nat) (xv yv ov : Value) (t : Str) (v : World) : Prop := DBx X xv v ∧ DBx Y yv v ∧ EnBx E ov t v
theorem FSt.below {X Y E : Nat} {xv yv ov : Value} {t : Str} {v v' : World} (h : FSt X Y E xv yv ov t v) (hb : Below v.heap.size v v') : FSt X Y E xv yv ov t v' := ⟨h.1.below hb, h.2.1.below hb, h.2.2.below hb⟩
/-- what the loop's regions read -/
def FT (X D E g p : Nat) (xv dv iv : Value) (ti : Str) (ov : Value) (t : Str) (v : World) : Prop := DBx X xv v ∧ DBx D dv v ∧ EnBx E ov t v ∧ v.cell? ⟨g, p, none⟩ = some iv ∧ v.cell? ⟨g, p + 1, none⟩ = some (.string (S ti)) ∧ g < v.heap.size
theorem FT.below {X D E g p : Nat} {xv dv iv ov : Value} {ti t : Str} {v v' : World} (h : FT X D E g p xv dv iv ti ov t v) (hb : Below v.heap.size v v') : FT X D E g p xv dv iv ti ov t v' := by
  obtain ⟨h1, h2, h3, h4, h5, h6⟩ := h
  exact ⟨h1.below hb, h2.below hb, h3.below hb, (hb.cell (p := ⟨g, p, none⟩) h6).trans h4, (hb.cell (p := ⟨g, p + 1, none⟩) h6).trans h5, Nat.lt_of_lt_of_le h6 hb.size⟩
theorem look_len {o : List Int} {l : P.Dic} (h : Drawn l) : (P.lookD o l).1.length ≤ 300 := by
  unfold P.lookD
  split
  · show (P.textAt o l).length ≤ 300
    cases hh : P.hasE o l
    · rw [P.textAt_not hh]; simp
    · exact h.texts _ (P.mem_textAt hh)
  · simp
theorem small_kept {ok : Bool} {l : P.Dic} (h : Small l) : Small (P.kept ok l) := by
  cases ok
  · exact ⟨by simp [P.kept], (fun e he => by cases he), (fun e he => by cases he)⟩
  · exact h
theorem small_putF {e : P.Ent} {l : P.Dic} (h : Small l) (hl : l.length < 2 ^ 20) (h1 : e.1.length ≤ 2 ^ 20) (h2 : e.2.length ≤ 2 ^ 30) : Small (P.putF e false l) := by
  refine ⟨by have := P.put_len e l; omega, fun x hx => ?_, fun x hx => ?_⟩
  · rcases (P.putF_mem e l x).1 hx with rfl | hx
    · exact h1
    · exact h.outs x (P.del_sub hx)
  · rcases (P.putF_mem e l x).1 hx with rfl | hx
    · exact h2
    · exact h.texts x (P.del_sub hx)
theorem law_dictionary (v : Value) (w : World) (hc : CodeAny w v) (hE : Env w) :
    Calls Tryz.prog 8 #[v] w fun e w' => e = .returned (.bool true) ∧ Below w.heap.size w w' := by
  obtain ⟨ad, n, cap, rfl, hn, hr⟩ := hc
  have HE := Lib.hid hE
  clear hE
  go_enter Tryz.func8, Tryz.ntmps8
  go_wp2_with fail
  refine (vBig _ n ad cap rfl hn _).mono ?_
  rintro e w' ⟨rfl, rfl⟩
  cases hbig : decide (65536 < n)
  · have hn2 : n ≤ 65536 := by have := of_decide_eq_false hbig; omega
    have HCD := Lib.hid (show CodeIs w (.slice ad n cap) from ⟨ad, n, cap, rfl, hn2, hr⟩)
    clear hr hbig
    go_wp2_with fail
    refine (drawInsert _ _ HCD.out).mono ?_
    rintro e w1 ⟨l, o, t, dv, ov, rfl, hdl, hol, htl, hrd, hro, hb⟩
    have HDL := Lib.hid hdl
    have hba : Below w1.heap.size w1 (w1.alloc (.cells #[dv] 32)) := (Below.refl _ _).alloc (Nat.le_refl _) _
    have hbb : Below (w1.alloc (.cells #[dv] 32)).heap.size (w1.alloc (.cells #[dv] 32)) ((w1.alloc (.cells #[dv] 32)).alloc (.cells #[ov, .string (S t)] 36)) := (Below.refl _ _).alloc (Nat.le_refl _) _
    have hbt := hba.trans (hbb.mono hba.size)
    have HB := Lib.hid (hb.trans (hbt.mono hb.size))
    have HRD := Lib.hid (hrd.below hbt); have HRO := Lib.hid (hro.below hbt)
    have HBD := Lib.hid ((DBx.new dv 32 w1).below hbb)
    have HBE := Lib.hid (show EnBx (w1.heap.size + 1) ov t ((w1.alloc (.cells #[dv] 32)).alloc (.cells #[ov, .string (S t)] 36)) by
      have h := EnBx.new ov t 36 (w1.alloc (.cells #[dv] 32)); simpa using h)
    have HE1 := Lib.hid (HE.out.below HB.out HE.out.size)
    obtain ⟨da, dc, rfl, hdl45, _⟩ := hrd
    obtain ⟨oa, oc, rfl, _, _⟩ := hro
    have hl20 := HDL.out.len
    clear hdl hba hbb hbt hb HE
    obtain ⟨d0, d1, d2⟩ := HBD.out
    obtain ⟨e0, e1, _⟩ := HBE.out
    go_wp2_with fail
    refine (impl_insert _ _ l o t _ HRD.out HRO.out HDL.out.small (by omega) (by omega) HE1.out).mono ?_
    rintro e w2 ⟨xv, rfl, hI, hb⟩
    generalize hxl : P.kept (P.insOk (o, t) l) (P.putF (o, t) false l) = xl at *
    have HXL := Lib.hid hxl
    have hba : Below w2.heap.size w2 (w2.alloc (.cells #[xv] 32)) := (Below.refl _ _).alloc (Nat.le_refl _) _
    have HF := Lib.hid (show FB w1.heap.size (w1.heap.size + 1) w2.heap.size w (.slice da l.length dc) l (.slice oa o.length oc) o t xv xl (w2.alloc (.cells #[xv] 32)) from
      ⟨(HBD.out.below hb).below hba, (HBE.out.below hb).below hba, DBx.new _ _ _, (HRD.out.below hb).below hba, (HRO.out.below hb).below hba, (Ents.read hI).below hba, (HB.out.trans (hb.mono HB.out.size)).trans (hba.mono (Nat.le_trans HB.out.size hb.size)), (HE1.out.below hb HE1.out.size).below hba (HE1.out.below hb HE1.out.size).size⟩)
    obtain ⟨xa, xc, rfl, hx30, _⟩ := hI
    have HSX := Lib.hid (show Small xl from hxl ▸ small_kept (small_putF HDL.out.small (by omega) (by simp; omega) (by simp; omega)))
    clear hb hba hxl HB HRD HRO HBD HBE HE1 d0 d1 d2 e0 e1
    obtain ⟨d0, d1, d2⟩ := HF.out.bd
    obtain ⟨e0, e1, _⟩ := HF.out.be
    go_wp2_with fail
    refine (spec_insert _ _ l o t _ HF.out.rd HF.out.ro HDL.out.small (by omega) (by omega)).mono ?_
    rintro e w3 ⟨yv, rfl, hI, hb⟩
    rw [HXL.out] at hI
    have hba : Below w3.heap.size w3 (w3.alloc (.cells #[yv] 32)) := (Below.refl _ _).alloc (Nat.le_refl _) _
    have HF2 := Lib.hid ((HF.out.below hb).below hba)
    have HY := Lib.hid (DBx.new yv 32 w3)
    have HRY := Lib.hid ((Ents.read hI).below hba)
    obtain ⟨ya, yc, rfl, _, _⟩ := hI
    clear hb hba HF d0 d1 d2 e0 e1
    go_upto_region 6 with fail
    go_cut [60] (fun p wx => p = .bool false ∧ FB w1.heap.size (w1.heap.size + 1) w2.heap.size w (.slice da l.length dc) l (.slice oa o.length oc) o t (.slice xa xl.length xc) xl wx)
    case first =>
      have hdd := (Below.refl (w3.alloc (.cells #[.slice ya xl.length yc] 32)).heap.size (w3.alloc (.cells #[.slice ya xl.length yc] 32))).drew
      have HF3 := Lib.hid (HF2.out.below hdd); have HY3 := Lib.hid (HY.out.below hdd); have HRY3 := Lib.hid (HRY.out.below hdd)
      have HS := Lib.hid (show FSt w2.heap.size w3.heap.size (w1.heap.size + 1) (.slice xa xl.length xc) (.slice ya xl.length yc) (.slice oa o.length oc) t (w3.alloc (.cells #[.slice ya xl.length yc] 32)).drew from ⟨HF3.out.bx, HY3.out, HF3.out.be⟩)
      clear hdd HF2 HY HRY
      refine wp_region_held_drew (S := FSt w2.heap.size w3.heap.size (w1.heap.size + 1) (.slice xa xl.length xc) (.slice ya xl.length yc) (.slice oa o.length oc) t) (by kernel_rfl) HS.out (fun hS0 => ?_)
      generalize (w3.alloc (.cells #[.slice ya xl.length yc] 32)).drew = v0 at *
      refine wpAnyH_take (i := 0) (v := .bool (P.insOk (o, t) l)) rfl (by kernel_rfl) (by kernel_rfl) (by kernel_rfl) (fun _ _ _ h => h) (Or.inl ⟨by rfl, fun z hz => ?_⟩) hS0 ?_
      · obtain ⟨⟨a1, a2, a3⟩, ⟨b1, b2, b3⟩, ⟨c1, c2, c3, c4, c5⟩⟩ := hz
        go_simp
      try simp only [List.getElem_toArray, List.getElem_cons_zero, Act.put, List.setIfInBounds_toArray, List.set_cons_zero, List.set_cons_succ]
      refine wpAnyH_take (i := 1) (v := .bool (P.insOk (o, t) l)) rfl (by kernel_rfl) (by kernel_rfl) (by kernel_rfl) (fun _ _ _ h => h) (Or.inl ⟨by rfl, fun z hz => ?_⟩) hS0 ?_
      · obtain ⟨⟨a1, a2, a3⟩, ⟨b1, b2, b3⟩, ⟨c1, c2, c3, c4, c5⟩⟩ := hz
        go_simp
      try simp only [List.getElem_toArray, List.getElem_cons_zero, List.getElem_cons_succ, Act.put, List.setIfInBounds_toArray, List.set_cons_zero, List.set_cons_succ]
      refine wpAnyH_take (i := 2) (v := .bool false) rfl (by kernel_rfl) (by kernel_rfl) (by kernel_rfl) (fun _ _ _ h => h) (Or.inl ⟨by rfl, fun z hz => ?_⟩) hS0 ?_
      · obtain ⟨⟨a1, a2, a3⟩, ⟨b1, b2, b3⟩, ⟨c1, c2, c3, c4, c5⟩⟩ := hz
        go_simp
      try simp only [List.getElem_toArray, List.getElem_cons_zero, List.getElem_cons_succ, Act.put, List.setIfInBounds_toArray, List.set_cons_zero, List.set_cons_succ]
      refine wpAnyH_take (i := 3) (v := .bool false) rfl (by kernel_rfl) (by kernel_rfl) (by kernel_rfl) (fun _ _ _ h => h) (Or.inl ⟨by rfl, fun z hz => ?_⟩) hS0 ?_
      · obtain ⟨⟨a1, a2, a3⟩, ⟨b1, b2, b3⟩, ⟨c1, c2, c3, c4, c5⟩⟩ := hz
        go_simp
      try simp only [List.getElem_toArray, List.getElem_cons_zero, List.getElem_cons_succ, Act.put, List.setIfInBounds_toArray, List.set_cons_zero, List.set_cons_succ]
      refine wpAnyH_take (i := 4) (v := .agg #[.slice xa xl.length xc]) rfl (by kernel_rfl) (by kernel_rfl) (by kernel_rfl) (fun _ _ _ h => h) (Or.inl ⟨by rfl, fun z hz => ?_⟩) hS0 ?_
      · obtain ⟨⟨a1, a2, a3⟩, ⟨b1, b2, b3⟩, ⟨c1, c2, c3, c4, c5⟩⟩ := hz
        go_simp
      try simp only [List.getElem_toArray, List.getElem_cons_zero, List.getElem_cons_succ, Act.put, List.setIfInBounds_toArray, List.set_cons_zero, List.set_cons_succ]
      refine wpAnyH_take (i := 5) (v := .agg #[.slice ya xl.length yc]) rfl (by kernel_rfl) (by kernel_rfl) (by kernel_rfl) (fun _ _ _ h => h) (Or.inl ⟨by rfl, fun z hz => ?_⟩) hS0 ?_
      · obtain ⟨⟨a1, a2, a3⟩, ⟨b1, b2, b3⟩, ⟨c1, c2, c3, c4, c5⟩⟩ := hz
        go_simp
      try simp only [List.getElem_toArray, List.getElem_cons_zero, List.getElem_cons_succ, Act.put, List.setIfInBounds_toArray, List.set_cons_zero, List.set_cons_succ]
      refine wpAnyH_ready (rs := [6]) (by kernel_rfl) (by simp) ?_
      refine AllReadyH.cons rfl (fun K hK => ?_) AllReadyH.nil
      go_simp
      refine (vDict _ _ xl _ HF3.out.rx HRY3.out).mono ?_
      rintro e v1 ⟨rfl, hb⟩
      have HF4 := Lib.hid (HF3.out.below hb)
      refine hK.out _ _ (hS0.below hb) (fun hS1 => ?_)
      clear hK K hb HF3 HRY3
      try simp only [List.getElem_toArray, List.getElem_cons_zero, List.getElem_cons_succ, Act.put, List.setIfInBounds_toArray, List.set_cons_zero, List.set_cons_succ]
      refine wpAnyH_take (i := 7) (v := .bool false) rfl (by kernel_rfl) (by kernel_rfl) (by kernel_rfl) (fun _ _ _ h => h) (Or.inl ⟨by rfl, fun z hz => ?_⟩) hS1 ?_
      · obtain ⟨⟨a1, a2, a3⟩, ⟨b1, b2, b3⟩, ⟨c1, c2, c3, c4, c5⟩⟩ := hz
        go_simp
      try simp only [List.getElem_toArray, List.getElem_cons_zero, List.getElem_cons_succ, Act.put, List.setIfInBounds_toArray, List.set_cons_zero, List.set_cons_succ]
      refine wpAnyH_take (i := 8) (v := .bool false) rfl (by kernel_rfl) (by kernel_rfl) (by kernel_rfl) (fun _ _ _ h => h) (Or.inl ⟨by rfl, fun z hz => ?_⟩) hS1 ?_
      · obtain ⟨⟨a1, a2, a3⟩, ⟨b1, b2, b3⟩, ⟨c1, c2, c3, c4, c5⟩⟩ := hz
        go_simp
      try simp only [List.getElem_toArray, List.getElem_cons_zero, List.getElem_cons_succ, Act.put, List.setIfInBounds_toArray, List.set_cons_zero, List.set_cons_succ]
      refine wpAnyH_take (i := 9) (v := .bool false) rfl (by kernel_rfl) (by kernel_rfl) (by kernel_rfl) (fun _ _ _ h => h) (Or.inl ⟨by rfl, fun z hz => ?_⟩) hS1 ?_
      · obtain ⟨⟨a1, a2, a3⟩, ⟨b1, b2, b3⟩, ⟨c1, c2, c3, c4, c5⟩⟩ := hz
        go_simp
      try simp only [List.getElem_toArray, List.getElem_cons_zero, List.getElem_cons_succ, Act.put, List.setIfInBounds_toArray, List.set_cons_zero, List.set_cons_succ]
      refine wpAnyH_take (i := 10) (v := .agg #[.slice oa o.length oc, .string (S t)]) rfl (by kernel_rfl) (by kernel_rfl) (by kernel_rfl) (fun _ _ _ h => h) (Or.inl ⟨by rfl, fun z hz => ?_⟩) hS1 ?_
      · obtain ⟨⟨a1, a2, a3⟩, ⟨b1, b2, b3⟩, ⟨c1, c2, c3, c4, c5⟩⟩ := hz
        go_simp
      try simp only [List.getElem_toArray, List.getElem_cons_zero, List.getElem_cons_succ, Act.put, List.setIfInBounds_toArray, List.set_cons_zero, List.set_cons_succ]
      refine wpAnyH_take (i := 12) (v := .agg #[.slice oa o.length oc, .string (S t)]) rfl (by kernel_rfl) (by kernel_rfl) (by kernel_rfl) (fun _ _ _ h => h) (Or.inl ⟨by rfl, fun z hz => ?_⟩) hS1 ?_
      · obtain ⟨⟨a1, a2, a3⟩, ⟨b1, b2, b3⟩, ⟨c1, c2, c3, c4, c5⟩⟩ := hz
        go_simp
      try simp only [List.getElem_toArray, List.getElem_cons_zero, List.getElem_cons_succ, Act.put, List.setIfInBounds_toArray, List.set_cons_zero, List.set_cons_succ]
      refine wpAnyH_ready (rs := [11]) (by kernel_rfl) (by simp) ?_
      refine AllReadyH.cons rfl (fun K hK => ?_) AllReadyH.nil
      go_simp
      refine (isValidEntry _ o t _ HF4.out.ro (by omega) HF4.out.env).mono ?_
      rintro e v2 ⟨rfl, hb⟩
      have HF5 := Lib.hid (HF4.out.below hb)
      refine hK.out _ _ (hS1.below hb) (fun hS2 => ?_)
      clear hK K hb HF4
      try simp only [List.getElem_toArray, List.getElem_cons_zero, List.getElem_cons_succ, Act.put, List.setIfInBounds_toArray, List.set_cons_zero, List.set_cons_succ]
      refine wpAnyH_ready (rs := [13]) (by kernel_rfl) (by simp) ?_
      refine AllReadyH.cons rfl (fun K hK => ?_) AllReadyH.nil
      go_simp
      refine (spec_isValidEntry _ o t _ HF5.out.ro (by omega)).mono ?_
      rintro e v3 ⟨rfl, hb⟩
      have HF6 := Lib.hid (HF5.out.below hb)
      refine hK.out _ _ (hS2.below hb) (fun hS3 => ?_)
      clear hK K hb HF5
      try simp only [List.getElem_toArray, List.getElem_cons_zero, List.getElem_cons_succ, Act.put, List.setIfInBounds_toArray, List.set_cons_zero, List.set_cons_succ]
      refine wpAnyH_take (i := 14) (v := .bool false) rfl (by kernel_rfl) (by kernel_rfl) (by kernel_rfl) (fun _ _ _ h => h) (Or.inl ⟨by rfl, fun z hz => ?_⟩) hS3 ?_
      · obtain ⟨⟨a1, a2, a3⟩, ⟨b1, b2, b3⟩, ⟨c1, c2, c3, c4, c5⟩⟩ := hz
        go_simp
      try simp only [List.getElem_toArray, List.getElem_cons_zero, List.getElem_cons_succ, Act.put, List.setIfInBounds_toArray, List.set_cons_zero, List.set_cons_succ]
      refine wpAnyH_take (i := 15) (v := .bool false) rfl (by kernel_rfl) (by kernel_rfl) (by kernel_rfl) (fun _ _ _ h => h) (Or.inl ⟨by rfl, fun z hz => ?_⟩) hS3 ?_
      · obtain ⟨⟨a1, a2, a3⟩, ⟨b1, b2, b3⟩, ⟨c1, c2, c3, c4, c5⟩⟩ := hz
        go_simp
      try simp only [List.getElem_toArray, List.getElem_cons_zero, List.getElem_cons_succ, Act.put, List.setIfInBounds_toArray, List.set_cons_zero, List.set_cons_succ]
      refine wpAnyH_done (by kernel_rfl) ?_ _
      clear hS0 hS1 hS2 hS3
      go_wp2
      go_meet
      exact ⟨rfl, HF6.out⟩
    case rest =>
      clear HF2 HY HRY
      obtain ⟨rfl, hf⟩ := hcut
      have HF := Lib.hid hf
      clear hf
      go_wp2_with fail
      refine (drawLookup _ _ (HCD.out.below HF.out.bel)).mono ?_
      rintro e w4 ⟨b, q, bv, qv, rfl, hdb, hql, hrb, hrq, hb⟩
      have HDB := Lib.hid hdb
      have hba : Below w4.heap.size w4 (w4.alloc (.cells #[bv] 32)) := (Below.refl _ _).alloc (Nat.le_refl _) _
      have HF1 := Lib.hid ((HF.out.below hb).below hba)
      have HG := Lib.hid (show FB2 w4.heap.size bv b qv q (w4.alloc (.cells #[bv] 32)) from ⟨DBx.new _ _ _, hrb.below hba, hrq.below hba⟩)
      obtain ⟨ba, bc, rfl, hb45, _⟩ := hrb
      obtain ⟨qa, qc, rfl, _, _⟩ := hrq
      clear hdb hb hba HF
      obtain ⟨b0, b1, b2⟩ := HG.out.bb
      go_wp2_with fail
      refine (impl_lookup _ _ b q _ HG.out.rb HG.out.rq HDB.out.small HF1.out.env).mono ?_
      rintro e w5 ⟨rfl, hb⟩
      have HF2 := Lib.hid (HF1.out.below hb); have HG2 := Lib.hid (HG.out.below hb)
      clear hb HF1 HG b0 b1 b2
      obtain ⟨b0, b1, b2⟩ := HG2.out.bb
      go_wp2_with fail
      refine (spec_lookup _ _ b q _ HG2.out.rb HG2.out.rq HDB.out.small).mono ?_
      rintro e w6 ⟨rfl, hb⟩
      have HF3 := Lib.hid (HF2.out.below hb); have HG3 := Lib.hid (HG2.out.below hb)
      clear hb HF2 HG2 b0 b1 b2
      have HLK := Lib.hid (P.delOk_look q b)
      have HPD := Lib.hid (fun h => P.put_del (o := q) (l := b) h)
      obtain ⟨⟨s, fd⟩, hlk⟩ : ∃ x, P.lookD q b = x := ⟨_, rfl⟩
      have hsl : s.length ≤ 300 := by have h := look_len (o := q) HDB.out; rw [hlk] at h; exact h
      rw [hlk] at HLK HPD ⊢
      clear hlk
      go_upto_region 11 with fail
      go_cut [92] (fun p wx => p = .bool false ∧ FB w1.heap.size (w1.heap.size + 1) w2.heap.size w (.slice da l.length dc) l (.slice oa o.length oc) o t (.slice xa xl.length xc) xl wx ∧ FB2 w4.heap.size (.slice ba b.length bc) b (.slice qa q.length qc) q wx)
      case first =>
        have hdd := (Below.refl w6.heap.size w6).drew
        have HF4 := Lib.hid (HF3.out.below hdd); have HG4 := Lib.hid (HG3.out.below hdd)
        have HS := Lib.hid (show DBx w4.heap.size (.slice ba b.length bc) w6.drew from HG4.out.bb)
        clear hdd HF3 HG3
        refine wp_region_held_drew (S := DBx w4.heap.size (.slice ba b.length bc)) (by kernel_rfl) HS.out (fun hS0 => ?_)
        generalize w6.drew = v0 at *
        refine wpAnyH_take (i := 0) (v := .string (S s)) rfl (by kernel_rfl) (by kernel_rfl) (by kernel_rfl) (fun _ _ _ h => h) (Or.inl ⟨by rfl, fun z hz => ?_⟩) hS0 ?_
        · obtain ⟨a1, a2, a3⟩ := hz
          go_simp
        try simp only [List.getElem_toArray, List.getElem_cons_zero, Act.put, List.setIfInBounds_toArray, List.set_cons_zero, List.set_cons_succ]
        refine wpAnyH_take (i := 1) (v := .string (S s)) rfl (by kernel_rfl) (by kernel_rfl) (by kernel_rfl) (fun _ _ _ h => h) (Or.inl ⟨by rfl, fun z hz => ?_⟩) hS0 ?_
        · obtain ⟨a1, a2, a3⟩ := hz
          go_simp
        try simp only [List.getElem_toArray, List.getElem_cons_zero, List.getElem_cons_succ, Act.put, List.setIfInBounds_toArray, List.set_cons_zero, List.set_cons_succ]
        refine wpAnyH_take (i := 2) (v := .bool false) rfl (by kernel_rfl) (by kernel_rfl) (by kernel_rfl) (fun _ _ _ h => h) (Or.inl ⟨by rfl, fun z hz => ?_⟩) hS0 ?_
        · obtain ⟨a1, a2, a3⟩ := hz
          go_simp
        try simp only [List.getElem_toArray, List.getElem_cons_zero, List.getElem_cons_succ, Act.put, List.setIfInBounds_toArray, List.set_cons_zero, List.set_cons_succ]
        refine wpAnyH_take (i := 3) (v := .bool false) rfl (by kernel_rfl) (by kernel_rfl) (by kernel_rfl) (fun _ _ _ h => h) (Or.inl ⟨by rfl, fun z hz => ?_⟩) hS0 ?_
        · obtain ⟨a1, a2, a3⟩ := hz
          go_simp
        try simp only [List.getElem_toArray, List.getElem_cons_zero, List.getElem_cons_succ, Act.put, List.setIfInBounds_toArray, List.set_cons_zero, List.set_cons_succ]
        refine wpAnyH_take (i := 4) (v := .bool fd) rfl (by kernel_rfl) (by kernel_rfl) (by kernel_rfl) (fun _ _ _ h => h) (Or.inl ⟨by rfl, fun z hz => ?_⟩) hS0 ?_
        · obtain ⟨a1, a2, a3⟩ := hz
          go_simp
        try simp only [List.getElem_toArray, List.getElem_cons_zero, List.getElem_cons_succ, Act.put, List.setIfInBounds_toArray, List.set_cons_zero, List.set_cons_succ]
        refine wpAnyH_take (i := 5) (v := .bool fd) rfl (by kernel_rfl) (by kernel_rfl) (by kernel_rfl) (fun _ _ _ h => h) (Or.inl ⟨by rfl, fun z hz => ?_⟩) hS0 ?_
        · obtain ⟨a1, a2, a3⟩ := hz
          go_simp
        try simp only [List.getElem_toArray, List.getElem_cons_zero, List.getElem_cons_succ, Act.put, List.setIfInBounds_toArray, List.set_cons_zero, List.set_cons_succ]
        refine wpAnyH_take (i := 6) (v := .bool false) rfl (by kernel_rfl) (by kernel_rfl) (by kernel_rfl) (fun _ _ _ h => h) (Or.inl ⟨by rfl, fun z hz => ?_⟩) hS0 ?_
        · obtain ⟨a1, a2, a3⟩ := hz
          go_simp
        try simp only [List.getElem_toArray, List.getElem_cons_zero, List.getElem_cons_succ, Act.put, List.setIfInBounds_toArray, List.set_cons_zero, List.set_cons_succ]
        refine wpAnyH_take (i := 7) (v := .bool false) rfl (by kernel_rfl) (by kernel_rfl) (by kernel_rfl) (fun _ _ _ h => h) (Or.inl ⟨by rfl, fun z hz => ?_⟩) hS0 ?_
        · obtain ⟨a1, a2, a3⟩ := hz
          go_simp
        try simp only [List.getElem_toArray, List.getElem_cons_zero, List.getElem_cons_succ, Act.put, List.setIfInBounds_toArray, List.set_cons_zero, List.set_cons_succ]
        refine wpAnyH_take (i := 8) (v := .bool false) rfl (by kernel_rfl) (by kernel_rfl) (by kernel_rfl) (fun _ _ _ h => h) (Or.inl ⟨by rfl, fun z hz => ?_⟩) hS0 ?_
        · obtain ⟨a1, a2, a3⟩ := hz
          go_simp
        try simp only [List.getElem_toArray, List.getElem_cons_zero, List.getElem_cons_succ, Act.put, List.setIfInBounds_toArray, List.set_cons_zero, List.set_cons_succ]
        refine wpAnyH_take (i := 9) (v := .agg #[.slice ba b.length bc]) rfl (by kernel_rfl) (by kernel_rfl) (by kernel_rfl) (fun _ _ _ h => h) (Or.inl ⟨by rfl, fun z hz => ?_⟩) hS0 ?_
        · obtain ⟨a1, a2, a3⟩ := hz
          go_simp
        try simp only [List.getElem_toArray, List.getElem_cons_zero, List.getElem_cons_succ, Act.put, List.setIfInBounds_toArray, List.set_cons_zero, List.set_cons_succ]
        refine wpAnyH_take (i := 11) (v := .agg #[.slice ba b.length bc]) rfl (by kernel_rfl) (by kernel_rfl) (by kernel_rfl) (fun _ _ _ h => h) (Or.inl ⟨by rfl, fun z hz => ?_⟩) hS0 ?_
        · obtain ⟨a1, a2, a3⟩ := hz
          go_simp
        try simp only [List.getElem_toArray, List.getElem_cons_zero, List.getElem_cons_succ, Act.put, List.setIfInBounds_toArray, List.set_cons_zero, List.set_cons_succ]
        refine wpAnyH_ready (rs := [10]) (by kernel_rfl) (by simp) ?_
        refine AllReadyH.cons rfl (fun K hK => ?_) AllReadyH.nil
        go_simp
        refine (isValidDictionary _ b _ HG4.out.rb HDB.out.small.texts HF4.out.env).mono ?_
        rintro e v1 ⟨rfl, hb⟩
        have HF5 := Lib.hid (HF4.out.below hb); have HG5 := Lib.hid (HG4.out.below hb)
        refine hK.out _ _ (hS0.below hb) (fun hS1 => ?_)
        clear hK K hb HF4 HG4
        try simp only [List.getElem_toArray, List.getElem_cons_zero, List.getElem_cons_succ, Act.put, List.setIfInBounds_toArray, List.set_cons_zero, List.set_cons_succ]
        refine wpAnyH_ready (rs := [12]) (by kernel_rfl) (by simp) ?_
        refine AllReadyH.cons rfl (fun K hK => ?_) AllReadyH.nil
        go_simp
        refine (spec_isValidDictionary _ b _ HG5.out.rb HDB.out.small.texts).mono ?_
        rintro e v2 ⟨rfl, hb⟩
        have HF6 := Lib.hid (HF5.out.below hb); have HG6 := Lib.hid (HG5.out.below hb)
        refine hK.out _ _ (hS1.below hb) (fun hS2 => ?_)
        clear hK K hb HF5 HG5
        try simp only [List.getElem_toArray, List.getElem_cons_zero, List.getElem_cons_succ, Act.put, List.setIfInBounds_toArray, List.set_cons_zero, List.set_cons_succ]
        refine wpAnyH_take (i := 13) (v := .bool false) rfl (by kernel_rfl) (by kernel_rfl) (by kernel_rfl) (fun _ _ _ h => h) (Or.inl ⟨by rfl, fun z hz => ?_⟩) hS2 ?_
        · obtain ⟨a1, a2, a3⟩ := hz
          go_simp
        try simp only [List.getElem_toArray, List.getElem_cons_zero, List.getElem_cons_succ, Act.put, List.setIfInBounds_toArray, List.set_cons_zero, List.set_cons_succ]
        refine wpAnyH_take (i := 14) (v := .bool false) rfl (by kernel_rfl) (by kernel_rfl) (by kernel_rfl) (fun _ _ _ h => h) (Or.inl ⟨by rfl, fun z hz => ?_⟩) hS2 ?_
        · obtain ⟨a1, a2, a3⟩ := hz
          go_simp
        try simp only [List.getElem_toArray, List.getElem_cons_zero, List.getElem_cons_succ, Act.put, List.setIfInBounds_toArray, List.set_cons_zero, List.set_cons_succ]
        refine wpAnyH_done (by kernel_rfl) ?_ _
        clear hS0 hS1 hS2
        go_wp2
        go_meet
        exact ⟨rfl, HF6.out, HG6.out⟩
      case rest =>
        clear HF3 HG3
        obtain ⟨rfl, hf, hg⟩ := hcut
        have HF := Lib.hid hf; have HG := Lib.hid hg
        clear hf hg
        obtain ⟨b0, b1, b2⟩ := HG.out.bb
        go_wp2_with fail
        refine (impl_delete _ _ b q _ HG.out.rb HG.out.rq HDB.out.small HF.out.env).mono ?_
        rintro e w7 ⟨yv, rfl, hI, hb⟩
        rw [HLK.out] at hI ⊢
        generalize hyl : P.kept fd (P.del q b) = yl at *
        have HYL := Lib.hid hyl
        have hba : Below w7.heap.size w7 (w7.alloc (.cells #[yv] 32)) := (Below.refl _ _).alloc (Nat.le_refl _) _
        have HF1 := Lib.hid ((HF.out.below hb).below hba); have HG1 := Lib.hid ((HG.out.below hb).below hba)
        have HY := Lib.hid (DBx.new yv 32 w7)
        have HRY := Lib.hid ((Ents.read hI).below hba)
        have HSY := Lib.hid (show Small yl from hyl ▸ small_kept (small_del HDB.out.small q))
        obtain ⟨ya, yc, rfl, _, _⟩ := hI
        clear hb hba HF HG b0 b1 b2 hyl
        obtain ⟨b0, b1, b2⟩ := HG1.out.bb
        go_wp2_with fail
        refine (spec_delete _ _ b q _ HG1.out.rb HG1.out.rq HDB.out.small).mono ?_
        rintro e w8 ⟨zv, rfl, hI, hb⟩
        rw [HLK.out, HYL.out] at hI
        rw [HLK.out]
        have hba : Below w8.heap.size w8 (w8.alloc (.cells #[zv] 32)) := (Below.refl _ _).alloc (Nat.le_refl _) _
        have HF2 := Lib.hid ((HF1.out.below hb).below hba); have HG2 := Lib.hid ((HG1.out.below hb).below hba)
        have HY2 := Lib.hid ((HY.out.below hb).below hba); have HRY2 := Lib.hid ((HRY.out.below hb).below hba)
        have HZ := Lib.hid (DBx.new zv 32 w8); have HRZ := Lib.hid ((Ents.read hI).below hba)
        obtain ⟨za, zc, rfl, _, _⟩ := hI
        clear hb hba HF1 HG1 HY HRY b0 b1 b2
        obtain ⟨y0, y1, y2⟩ := HY2.out
        obtain ⟨z0, z1, z2⟩ := HZ.out
        go_wp2_with fail
        refine (vDict _ _ yl _ HRY2.out HRZ.out).mono ?_
        rintro e w9 ⟨rfl, hb⟩
        have HF3 := Lib.hid (HF2.out.below hb); have HG3 := Lib.hid (HG2.out.below hb); have HY3 := Lib.hid (HY2.out.below hb); have HRY3 := Lib.hid (HRY2.out.below hb)
        clear hb HF2 HG2 HY2 HRY2 HZ HRZ y0 y1 y2 z0 z1 z2
        go_upto_if 119 with fail
        go_cut [] (fun wx => FB w1.heap.size (w1.heap.size + 1) w2.heap.size w (.slice da l.length dc) l (.slice oa o.length oc) o t (.slice xa xl.length xc) xl wx)
        case first =>
          cases fd
          · go_wp2
            go_meet
            exact HF3.out
          · have HI1 := Lib.hid (HPD.out HLK.out)
            have hyd : yl = P.del q b := HYL.out.symm
            have HI2 := Lib.hid (show P.insOk (q, s) yl = true from hyd ▸ HI1.out.1)
            have HI3 := Lib.hid (show P.kept (P.insOk (q, s) yl) (P.putF (q, s) false yl) = b by rw [HI2.out]; exact hyd ▸ HI1.out.2)
            clear hyd
            obtain ⟨y0, y1, y2⟩ := HY3.out
            go_wp2_with fail
            refine (impl_insert _ _ yl q s _ HRY3.out HG3.out.rq HSY.out (by omega) (by omega) HF3.out.env).mono ?_
            rintro e w10 ⟨uv, rfl, hI, hb⟩
            rw [HI3.out] at hI
            rw [HI2.out]
            have hba : Below w10.heap.size w10 (w10.alloc (.cells #[uv] 32)) := (Below.refl _ _).alloc (Nat.le_refl _) _
            have HF4 := Lib.hid ((HF3.out.below hb).below hba); have HG4 := Lib.hid ((HG3.out.below hb).below hba)
            have HU := Lib.hid (DBx.new uv 32 w10); have HRU := Lib.hid ((Ents.read hI).below hba)
            obtain ⟨ua, uc, rfl, _, _⟩ := hI
            clear hb hba HF3 HG3 y0 y1 y2
            obtain ⟨u0, u1, u2⟩ := HU.out
            obtain ⟨b0, b1, b2⟩ := HG4.out.bb
            go_wp2_with fail
            refine (vDict _ _ b _ HRU.out HG4.out.rb).mono ?_
            rintro e w11 ⟨rfl, hb⟩
            have HF5 := Lib.hid (HF4.out.below hb)
            clear hb HF4 HG4 HU HRU u0 u1 u2 b0 b1 b2
            go_wp2
            go_meet
            exact HF5.out
        case rest =>
          clear HF3 HG3 HY3 HRY3 HSY HYL HPD HLK
          have HF4 := Lib.hid hcut
          clear hcut
          cases hok : P.insOk (o, t) l
          · have hx0 : xl.length = 0 := by rw [← HXL.out, hok]; rfl
            obtain ⟨x0, x1, x2⟩ := HF4.out.bx
            go_wp2
            go_ret
            exact ⟨by first | rfl | simp, HF4.out.bel⟩
          · have HOK := Lib.hid hok
            have HXE := Lib.hid (show xl = P.putF (o, t) false l by rw [← HXL.out, hok]; rfl)
            have HLX := Lib.hid (show P.lookD o xl = (t, true) by rw [HXE.out]; exact P.ins_look hok)
            have HDX := Lib.hid (show P.dic xl = true by rw [HXE.out]; exact (P.ins_dic hok).1)
            have hlen1 : xl.length ≤ l.length + 1 := by rw [HXE.out]; exact P.put_len _ _
            have HOT := Lib.hid (fun x (hx : x ∈ l) => show (P.lookD x.1 xl).2 = true ∧ (x.1 ≠ o → (P.lookD x.1 xl).1 = x.2) by rw [HXE.out]; exact P.ins_other hok hx)
            clear hok
            obtain ⟨x0, x1, x2⟩ := HF4.out.bx
            obtain ⟨e0, e1, e2, e3, e4⟩ := HF4.out.be
            go_wp2_with fail
            refine (impl_lookup _ _ xl o _ HF4.out.rx HF4.out.ro HSX.out HF4.out.env).mono ?_
            rintro e w12 ⟨rfl, hb⟩
            rw [HLX.out]
            have HF5 := Lib.hid (HF4.out.below hb)
            clear hb HF4 x0 x1 x2 e0 e1 e2 e3 e4
            go_wp2_with fail
            go_loopw [23] (fun i wr => ∃ j : Nat, j ≤ l.length ∧ i = .int .i64 j ∧ FB w1.heap.size (w1.heap.size + 1) w2.heap.size w (.slice da l.length dc) l (.slice oa o.length oc) o t (.slice xa xl.length xc) xl wr) (fun i _ => l.length - (intOf i).toNat)
            case atStart => exact ⟨0, Nat.zero_le _, rfl, HF5.out⟩
            case round =>
              clear HF5
              obtain ⟨j, hj, rfl, hf⟩ := hrel
              have HF6 := Lib.hid hf
              clear hf
              obtain ⟨d0, d1, d2⟩ := HF6.out.bd
              by_cases hlt : j < l.length
              · obtain ⟨g, p, hga, hgl, iv, c0, c1, hi⟩ := HF6.out.rd.at j hlt
                subst hga
                have hdd := (Below.refl wr.heap.size wr).drew
                have HS := Lib.hid (show FT w2.heap.size w1.heap.size (w1.heap.size + 1) g (p + j * 2) (.slice xa xl.length xc) (.slice (some ⟨g, p, none⟩) l.length dc) iv l[j].2 (.slice oa o.length oc) t wr.drew from FT.below ⟨HF6.out.bx, HF6.out.bd, HF6.out.be, c0, c1, hgl⟩ hdd)
                have HFd := Lib.hid (HF6.out.below hdd)
                have HIV := Lib.hid (hi.below hdd)
                have hot := HOT.out l[j] (List.getElem_mem hlt)
                obtain ⟨ia, ic, rfl, _, _⟩ := hi
                generalize l[j] = en at *
                obtain ⟨oi, ti⟩ := en
                simp only at HS HIV hot c0 c1
                have HOTJ := Lib.hid hot
                clear hot hdd c0 c1 hgl HF6
                have i1 : (j : Int) < (l.length : Int) := by omega
                go_upto_region 27 with fail
                clear d0 d1 d2
                refine wp_region_held_drew (S := FT w2.heap.size w1.heap.size (w1.heap.size + 1) g (p + j * 2) (.slice xa xl.length xc) (.slice (some ⟨g, p, none⟩) l.length dc) (.slice ia oi.length ic) ti (.slice oa o.length oc) t) (by kernel_rfl) HS.out (fun hS0 => ?_)
                generalize wr.drew = v0 at *
                refine wpAnyH_take (i := 0) (v := .agg #[.slice xa xl.length xc]) rfl (by kernel_rfl) (by kernel_rfl) (by kernel_rfl) (fun _ _ _ h => h) (Or.inl ⟨by rfl, fun z hz => ?_⟩) hS0 ?_
                · obtain ⟨⟨a1, a2, a3⟩, ⟨b1, b2, b3⟩, ⟨c1, c2, c3, c4, c5⟩, q1, q2, q3⟩ := hz
                  go_simp
                try simp only [List.getElem_toArray, List.getElem_cons_zero, Act.put, List.setIfInBounds_toArray, List.set_cons_zero, List.set_cons_succ]
                refine wpAnyH_take (i := 1) (v := .pointer (some ⟨w1.heap.size, 0, none⟩)) rfl (by kernel_rfl) (by kernel_rfl) (by kernel_rfl) (fun _ _ _ h => h) (Or.inl ⟨by rfl, fun z hz => ?_⟩) hS0 ?_
                · obtain ⟨⟨a1, a2, a3⟩, ⟨b1, b2, b3⟩, ⟨c1, c2, c3, c4, c5⟩, q1, q2, q3⟩ := hz
                  go_simp
                try simp only [List.getElem_toArray, List.getElem_cons_zero, List.getElem_cons_succ, Act.put, List.setIfInBounds_toArray, List.set_cons_zero, List.set_cons_succ]
                refine wpAnyH_take (i := 2) (v := .slice (some ⟨g, p, none⟩) l.length dc) rfl (by kernel_rfl) (by kernel_rfl) (by kernel_rfl) (fun _ _ _ h => h) (Or.inl ⟨by rfl, fun z hz => ?_⟩) hS0 ?_
                · obtain ⟨⟨a1, a2, a3⟩, ⟨b1, b2, b3⟩, ⟨c1, c2, c3, c4, c5⟩, q1, q2, q3⟩ := hz
                  go_simp
                try simp only [List.getElem_toArray, List.getElem_cons_zero, List.getElem_cons_succ, Act.put, List.setIfInBounds_toArray, List.set_cons_zero, List.set_cons_succ]
                refine wpAnyH_take (i := 3) (v := .int .i64 j) rfl (by kernel_rfl) (by kernel_rfl) (by kernel_rfl) (fun _ _ _ h => h) (Or.inl ⟨by rfl, fun z hz => ?_⟩) hS0 ?_
                · obtain ⟨⟨a1, a2, a3⟩, ⟨b1, b2, b3⟩, ⟨c1, c2, c3, c4, c5⟩, q1, q2, q3⟩ := hz
                  go_simp
                try simp only [List.getElem_toArray, List.getElem_cons_zero, List.getElem_cons_succ, Act.put, List.setIfInBounds_toArray, List.set_cons_zero, List.set_cons_succ]
                refine wpAnyH_take (i := 4) (v := .pointer (some ⟨g, p + j * 2, none⟩)) rfl (by kernel_rfl) (by kernel_rfl) (by kernel_rfl) (fun _ _ _ h => h) (Or.inl ⟨by rfl, fun z hz => ?_⟩) hS0 ?_
                · obtain ⟨⟨a1, a2, a3⟩, ⟨b1, b2, b3⟩, ⟨c1, c2, c3, c4, c5⟩, q1, q2, q3⟩ := hz
                  go_simp
                try simp only [List.getElem_toArray, List.getElem_cons_zero, List.getElem_cons_succ, Act.put, List.setIfInBounds_toArray, List.set_cons_zero, List.set_cons_succ]
                refine wpAnyH_take (i := 5) (v := .pointer (some ⟨g, p + j * 2, none⟩)) rfl (by kernel_rfl) (by kernel_rfl) (by kernel_rfl) (fun _ _ _ h => h) (Or.inl ⟨by rfl, fun z hz => ?_⟩) hS0 ?_
                · obtain ⟨⟨a1, a2, a3⟩, ⟨b1, b2, b3⟩, ⟨c1, c2, c3, c4, c5⟩, q1, q2, q3⟩ := hz
                  go_simp
                try simp only [List.getElem_toArray, List.getElem_cons_zero, List.getElem_cons_succ, Act.put, List.setIfInBounds_toArray, List.set_cons_zero, List.set_cons_succ]
                refine wpAnyH_take (i := 6) (v := .slice ia oi.length ic) rfl (by kernel_rfl) (by kernel_rfl) (by kernel_rfl) (fun _ _ _ h => h) (Or.inl ⟨by rfl, fun z hz => ?_⟩) hS0 ?_
                · obtain ⟨⟨a1, a2, a3⟩, ⟨b1, b2, b3⟩, ⟨c1, c2, c3, c4, c5⟩, q1, q2, q3⟩ := hz
                  go_simp
                try simp only [List.getElem_toArray, List.getElem_cons_zero, List.getElem_cons_succ, Act.put, List.setIfInBounds_toArray, List.set_cons_zero, List.set_cons_succ]
                refine wpAnyH_ready (rs := [7]) (by kernel_rfl) (by simp) ?_
                refine AllReadyH.cons rfl (fun K hK => ?_) AllReadyH.nil
                go_simp
                refine (impl_lookup _ _ xl oi _ HFd.out.rx HIV.out HSX.out HFd.out.env).mono ?_
                rintro e v1 ⟨rfl, hb⟩
                have HF7a := Lib.hid (HFd.out.below hb); have HIV2 := Lib.hid (HIV.out.below hb)
                obtain ⟨⟨ui, th⟩, hlk⟩ : ∃ x, P.lookD oi xl = x := ⟨_, rfl⟩
                rw [hlk] at HOTJ ⊢
                have hth : th = true := HOTJ.out.1
                subst hth
                have HUI := Lib.hid (show oi ≠ o → ui = ti from HOTJ.out.2)
                clear hlk HOTJ
                refine hK.out _ _ (hS0.below hb) (fun hS1 => ?_)
                clear hK K hb HFd HIV
                try simp only [List.getElem_toArray, List.getElem_cons_zero, List.getElem_cons_succ, Act.put, List.setIfInBounds_toArray, List.set_cons_zero, List.set_cons_succ]
                refine wpAnyH_take (i := 8) (v := .tuple #[.string (S ui), .bool true]) rfl (by kernel_rfl) (by kernel_rfl) (by kernel_rfl) (fun _ _ _ h => h) (Or.inl ⟨by rfl, fun z hz => ?_⟩) hS1 ?_
                · obtain ⟨⟨a1, a2, a3⟩, ⟨b1, b2, b3⟩, ⟨c1, c2, c3, c4, c5⟩, q1, q2, q3⟩ := hz
                  go_simp
                try simp only [List.getElem_toArray, List.getElem_cons_zero, List.getElem_cons_succ, Act.put, List.setIfInBounds_toArray, List.set_cons_zero, List.set_cons_succ]
                refine wpAnyH_take (i := 9) (v := .string (S ui)) rfl (by kernel_rfl) (by kernel_rfl) (by kernel_rfl) (fun _ _ _ h => h) (Or.inl ⟨by rfl, fun z hz => ?_⟩) hS1 ?_
                · obtain ⟨⟨a1, a2, a3⟩, ⟨b1, b2, b3⟩, ⟨c1, c2, c3, c4, c5⟩, q1, q2, q3⟩ := hz
                  go_simp
                try simp only [List.getElem_toArray, List.getElem_cons_zero, List.getElem_cons_succ, Act.put, List.setIfInBounds_toArray, List.set_cons_zero, List.set_cons_succ]
                refine wpAnyH_take (i := 10) (v := .bool true) rfl (by kernel_rfl) (by kernel_rfl) (by kernel_rfl) (fun _ _ _ h => h) (Or.inl ⟨by rfl, fun z hz => ?_⟩) hS1 ?_
                · obtain ⟨⟨a1, a2, a3⟩, ⟨b1, b2, b3⟩, ⟨c1, c2, c3, c4, c5⟩, q1, q2, q3⟩ := hz
                  go_simp
                try simp only [List.getElem_toArray, List.getElem_cons_zero, List.getElem_cons_succ, Act.put, List.setIfInBounds_toArray, List.set_cons_zero, List.set_cons_succ]
                refine wpAnyH_take (i := 11) (v := .string (S ui)) rfl (by kernel_rfl) (by kernel_rfl) (by kernel_rfl) (fun _ _ _ h => h) (Or.inl ⟨by rfl, fun z hz => ?_⟩) hS1 ?_
                · obtain ⟨⟨a1, a2, a3⟩, ⟨b1, b2, b3⟩, ⟨c1, c2, c3, c4, c5⟩, q1, q2, q3⟩ := hz
                  go_simp
                try simp only [List.getElem_toArray, List.getElem_cons_zero, List.getElem_cons_succ, Act.put, List.setIfInBounds_toArray, List.set_cons_zero, List.set_cons_succ]
                refine wpAnyH_take (i := 12) (v := .bool true) rfl (by kernel_rfl) (by kernel_rfl) (by kernel_rfl) (fun _ _ _ h => h) (Or.inl ⟨by rfl, fun z hz => ?_⟩) hS1 ?_
                · obtain ⟨⟨a1, a2, a3⟩, ⟨b1, b2, b3⟩, ⟨c1, c2, c3, c4, c5⟩, q1, q2, q3⟩ := hz
                  go_simp
                try simp only [List.getElem_toArray, List.getElem_cons_zero, List.getElem_cons_succ, Act.put, List.setIfInBounds_toArray, List.set_cons_zero, List.set_cons_succ]
                refine wpAnyH_done (by kernel_rfl) ?_ _
                have hdd := (Below.refl v1.heap.size v1).drew
                have HS2 := Lib.hid (hS1.below hdd)
                have HF7 := Lib.hid (HF7a.out.below hdd); have HIV3 := Lib.hid (HIV2.out.below hdd)
                clear hdd HF7a HIV2
                by_cases heq : oi = o
                · subst heq
                  go_upto_region 28 with fail
                  refine wp_region_held_drew (S := FT w2.heap.size w1.heap.size (w1.heap.size + 1) g (p + j * 2) (.slice xa xl.length xc) (.slice (some ⟨g, p, none⟩) l.length dc) (.slice ia oi.length ic) ti (.slice oa oi.length oc) t) (by kernel_rfl) HS2.out (fun hS2 => ?_)
                  generalize v1.drew = v2 at *
                  refine wpAnyH_take (i := 0) (v := .bool true) rfl (by kernel_rfl) (by kernel_rfl) (by kernel_rfl) (fun _ _ _ h => h) (Or.inl ⟨by rfl, fun z hz => ?_⟩) hS2 ?_
                  · obtain ⟨⟨a1, a2, a3⟩, ⟨b1, b2, b3⟩, ⟨c1, c2, c3, c4, c5⟩, q1, q2, q3⟩ := hz
                    go_simp
                  try simp only [List.getElem_toArray, List.getElem_cons_zero, Act.put, List.setIfInBounds_toArray, List.set_cons_zero, List.set_cons_succ]
                  refine wpAnyH_take (i := 1) (v := .bool false) rfl (by kernel_rfl) (by kernel_rfl) (by kernel_rfl) (fun _ _ _ h => h) (Or.inl ⟨by rfl, fun z hz => ?_⟩) hS2 ?_
                  · obtain ⟨⟨a1, a2, a3⟩, ⟨b1, b2, b3⟩, ⟨c1, c2, c3, c4, c5⟩, q1, q2, q3⟩ := hz
                    go_simp
                  try simp only [List.getElem_toArray, List.getElem_cons_zero, List.getElem_cons_succ, Act.put, List.setIfInBounds_toArray, List.set_cons_zero, List.set_cons_succ]
                  refine wpAnyH_take (i := 2) (v := .bool false) rfl (by kernel_rfl) (by kernel_rfl) (by kernel_rfl) (fun _ _ _ h => h) (Or.inl ⟨by rfl, fun z hz => ?_⟩) hS2 ?_
                  · obtain ⟨⟨a1, a2, a3⟩, ⟨b1, b2, b3⟩, ⟨c1, c2, c3, c4, c5⟩, q1, q2, q3⟩ := hz
                    go_simp
                  try simp only [List.getElem_toArray, List.getElem_cons_zero, List.getElem_cons_succ, Act.put, List.setIfInBounds_toArray, List.set_cons_zero, List.set_cons_succ]
                  refine wpAnyH_take (i := 3) (v := .pointer (some ⟨w1.heap.size, 0, none⟩)) rfl (by kernel_rfl) (by kernel_rfl) (by kernel_rfl) (fun _ _ _ h => h) (Or.inl ⟨by rfl, fun z hz => ?_⟩) hS2 ?_
                  · obtain ⟨⟨a1, a2, a3⟩, ⟨b1, b2, b3⟩, ⟨c1, c2, c3, c4, c5⟩, q1, q2, q3⟩ := hz
                    go_simp
                  try simp only [List.getElem_toArray, List.getElem_cons_zero, List.getElem_cons_succ, Act.put, List.setIfInBounds_toArray, List.set_cons_zero, List.set_cons_succ]
                  refine wpAnyH_take (i := 4) (v := .slice (some ⟨g, p, none⟩) l.length dc) rfl (by kernel_rfl) (by kernel_rfl) (by kernel_rfl) (fun _ _ _ h => h) (Or.inl ⟨by rfl, fun z hz => ?_⟩) hS2 ?_
                  · obtain ⟨⟨a1, a2, a3⟩, ⟨b1, b2, b3⟩, ⟨c1, c2, c3, c4, c5⟩, q1, q2, q3⟩ := hz
                    go_simp
                  try simp only [List.getElem_toArray, List.getElem_cons_zero, List.getElem_cons_succ, Act.put, List.setIfInBounds_toArray, List.set_cons_zero, List.set_cons_succ]
                  refine wpAnyH_take (i := 5) (v := .int .i64 j) rfl (by kernel_rfl) (by kernel_rfl) (by kernel_rfl) (fun _ _ _ h => h) (Or.inl ⟨by rfl, fun z hz => ?_⟩) hS2 ?_
                  · obtain ⟨⟨a1, a2, a3⟩, ⟨b1, b2, b3⟩, ⟨c1, c2, c3, c4, c5⟩, q1, q2, q3⟩ := hz
                    go_simp
                  try simp only [List.getElem_toArray, List.getElem_cons_zero, List.getElem_cons_succ, Act.put, List.setIfInBounds_toArray, List.set_cons_zero, List.set_cons_succ]
                  refine wpAnyH_take (i := 6) (v := .pointer (some ⟨g, p + j * 2, none⟩)) rfl (by kernel_rfl) (by kernel_rfl) (by kernel_rfl) (fun _ _ _ h => h) (Or.inl ⟨by rfl, fun z hz => ?_⟩) hS2 ?_
                  · obtain ⟨⟨a1, a2, a3⟩, ⟨b1, b2, b3⟩, ⟨c1, c2, c3, c4, c5⟩, q1, q2, q3⟩ := hz
                    go_simp
                  try simp only [List.getElem_toArray, List.getElem_cons_zero, List.getElem_cons_succ, Act.put, List.setIfInBounds_toArray, List.set_cons_zero, List.set_cons_succ]
                  refine wpAnyH_take (i := 7) (v := .pointer (some ⟨g, p + j * 2, none⟩)) rfl (by kernel_rfl) (by kernel_rfl) (by kernel_rfl) (fun _ _ _ h => h) (Or.inl ⟨by rfl, fun z hz => ?_⟩) hS2 ?_
                  · obtain ⟨⟨a1, a2, a3⟩, ⟨b1, b2, b3⟩, ⟨c1, c2, c3, c4, c5⟩, q1, q2, q3⟩ := hz
                    go_simp
                  try simp only [List.getElem_toArray, List.getElem_cons_zero, List.getElem_cons_succ, Act.put, List.setIfInBounds_toArray, List.set_cons_zero, List.set_cons_succ]
                  refine wpAnyH_take (i := 8) (v := .slice ia oi.length ic) rfl (by kernel_rfl) (by kernel_rfl) (by kernel_rfl) (fun _ _ _ h => h) (Or.inl ⟨by rfl, fun z hz => ?_⟩) hS2 ?_
                  · obtain ⟨⟨a1, a2, a3⟩, ⟨b1, b2, b3⟩, ⟨c1, c2, c3, c4, c5⟩, q1, q2, q3⟩ := hz
                    go_simp
                  try simp only [List.getElem_toArray, List.getElem_cons_zero, List.getElem_cons_succ, Act.put, List.setIfInBounds_toArray, List.set_cons_zero, List.set_cons_succ]
                  refine wpAnyH_take (i := 9) (v := .pointer (some ⟨w1.heap.size + 1, 0, none⟩)) rfl (by kernel_rfl) (by kernel_rfl) (by kernel_rfl) (fun _ _ _ h => h) (Or.inl ⟨by rfl, fun z hz => ?_⟩) hS2 ?_
                  · obtain ⟨⟨a1, a2, a3⟩, ⟨b1, b2, b3⟩, ⟨c1, c2, c3, c4, c5⟩, q1, q2, q3⟩ := hz
                    go_simp
                  try simp only [List.getElem_toArray, List.getElem_cons_zero, List.getElem_cons_succ, Act.put, List.setIfInBounds_toArray, List.set_cons_zero, List.set_cons_succ]
                  refine wpAnyH_take (i := 10) (v := .slice oa oi.length oc) rfl (by kernel_rfl) (by kernel_rfl) (by kernel_rfl) (fun _ _ _ h => h) (Or.inl ⟨by rfl, fun z hz => ?_⟩) hS2 ?_
                  · obtain ⟨⟨a1, a2, a3⟩, ⟨b1, b2, b3⟩, ⟨c1, c2, c3, c4, c5⟩, q1, q2, q3⟩ := hz
                    go_simp
                  try simp only [List.getElem_toArray, List.getElem_cons_zero, List.getElem_cons_succ, Act.put, List.setIfInBounds_toArray, List.set_cons_zero, List.set_cons_succ]
                  refine wpAnyH_ready (rs := [11]) (by kernel_rfl) (by simp) ?_
                  refine AllReadyH.cons rfl (fun K hK => ?_) AllReadyH.nil
                  go_simp
                  refine (vInts _ _ oi oi _ HIV3.out HF7.out.ro).mono ?_
                  rintro e v3 ⟨rfl, hb⟩
                  rw [decide_eq_true rfl]
                  have HF8 := Lib.hid (HF7.out.below hb)
                  refine hK.out _ _ (hS2.below hb) (fun hS3 => ?_)
                  clear hK K hb HF7 HIV3
                  try simp only [List.getElem_toArray, List.getElem_cons_zero, List.getElem_cons_succ, Act.put, List.setIfInBounds_toArray, List.set_cons_zero, List.set_cons_succ]
                  refine wpAnyH_take (i := 12) (v := .bool false) rfl (by kernel_rfl) (by kernel_rfl) (by kernel_rfl) (fun _ _ _ h => h) (Or.inl ⟨by rfl, fun z hz => ?_⟩) hS3 ?_
                  · obtain ⟨⟨a1, a2, a3⟩, ⟨b1, b2, b3⟩, ⟨c1, c2, c3, c4, c5⟩, q1, q2, q3⟩ := hz
                    go_simp
                  try simp only [List.getElem_toArray, List.getElem_cons_zero, List.getElem_cons_succ, Act.put, List.setIfInBounds_toArray, List.set_cons_zero, List.set_cons_succ]
                  refine wpAnyH_take (i := 13) (v := .bool false) rfl (by kernel_rfl) (by kernel_rfl) (by kernel_rfl) (fun _ _ _ h => h) (Or.inl ⟨by rfl, fun z hz => ?_⟩) hS3 ?_
                  · obtain ⟨⟨a1, a2, a3⟩, ⟨b1, b2, b3⟩, ⟨c1, c2, c3, c4, c5⟩, q1, q2, q3⟩ := hz
                    go_simp
                  try simp only [List.getElem_toArray, List.getElem_cons_zero, List.getElem_cons_succ, Act.put, List.setIfInBounds_toArray, List.set_cons_zero, List.set_cons_succ]
                  refine wpAnyH_take (i := 14) rfl (by kernel_rfl) (by kernel_rfl) (by kernel_rfl) (fun _ _ _ h => h) (Or.inr ⟨by rfl, rfl⟩) hS3 ?_
                  try simp only [List.getElem_toArray, List.getElem_cons_zero, List.getElem_cons_succ, Act.put, List.setIfInBounds_toArray, List.set_cons_zero, List.set_cons_succ]
                  refine wpAnyH_take (i := 15) rfl (by kernel_rfl) (by kernel_rfl) (by kernel_rfl) (fun _ _ _ h => h) (Or.inr ⟨by rfl, rfl⟩) hS3 ?_
                  try simp only [List.getElem_toArray, List.getElem_cons_zero, List.getElem_cons_succ, Act.put, List.setIfInBounds_toArray, List.set_cons_zero, List.set_cons_succ]
                  refine wpAnyH_take (i := 16) rfl (by kernel_rfl) (by kernel_rfl) (by kernel_rfl) (fun _ _ _ h => h) (Or.inr ⟨by rfl, rfl⟩) hS3 ?_
                  try simp only [List.getElem_toArray, List.getElem_cons_zero, List.getElem_cons_succ, Act.put, List.setIfInBounds_toArray, List.set_cons_zero, List.set_cons_succ]
                  refine wpAnyH_take (i := 17) rfl (by kernel_rfl) (by kernel_rfl) (by kernel_rfl) (fun _ _ _ h => h) (Or.inr ⟨by rfl, rfl⟩) hS3 ?_
                  try simp only [List.getElem_toArray, List.getElem_cons_zero, List.getElem_cons_succ, Act.put, List.setIfInBounds_toArray, List.set_cons_zero, List.set_cons_succ]
                  refine wpAnyH_take (i := 18) rfl (by kernel_rfl) (by kernel_rfl) (by kernel_rfl) (fun _ _ _ h => h) (Or.inr ⟨by rfl, rfl⟩) hS3 ?_
                  try simp only [List.getElem_toArray, List.getElem_cons_zero, List.getElem_cons_succ, Act.put, List.setIfInBounds_toArray, List.set_cons_zero, List.set_cons_succ]
                  refine wpAnyH_take (i := 19) rfl (by kernel_rfl) (by kernel_rfl) (by kernel_rfl) (fun _ _ _ h => h) (Or.inr ⟨by rfl, rfl⟩) hS3 ?_
                  try simp only [List.getElem_toArray, List.getElem_cons_zero, List.getElem_cons_succ, Act.put, List.setIfInBounds_toArray, List.set_cons_zero, List.set_cons_succ]
                  refine wpAnyH_take (i := 20) rfl (by kernel_rfl) (by kernel_rfl) (by kernel_rfl) (fun _ _ _ h => h) (Or.inr ⟨by rfl, rfl⟩) hS3 ?_
                  try simp only [List.getElem_toArray, List.getElem_cons_zero, List.getElem_cons_succ, Act.put, List.setIfInBounds_toArray, List.set_cons_zero, List.set_cons_succ]
                  refine wpAnyH_take (i := 21) rfl (by kernel_rfl) (by kernel_rfl) (by kernel_rfl) (fun _ _ _ h => h) (Or.inr ⟨by rfl, rfl⟩) hS3 ?_
                  try simp only [List.getElem_toArray, List.getElem_cons_zero, List.getElem_cons_succ, Act.put, List.setIfInBounds_toArray, List.set_cons_zero, List.set_cons_succ]
                  refine wpAnyH_take (i := 22) (v := .bool false) rfl (by kernel_rfl) (by kernel_rfl) (by kernel_rfl) (fun _ _ _ h => h) (Or.inl ⟨by rfl, fun z hz => ?_⟩) hS3 ?_
                  · obtain ⟨⟨a1, a2, a3⟩, ⟨b1, b2, b3⟩, ⟨c1, c2, c3, c4, c5⟩, q1, q2, q3⟩ := hz
                    go_simp
                  try simp only [List.getElem_toArray, List.getElem_cons_zero, List.getElem_cons_succ, Act.put, List.setIfInBounds_toArray, List.set_cons_zero, List.set_cons_succ]
                  refine wpAnyH_take (i := 23) (v := .bool false) rfl (by kernel_rfl) (by kernel_rfl) (by kernel_rfl) (fun _ _ _ h => h) (Or.inl ⟨by rfl, fun z hz => ?_⟩) hS3 ?_
                  · obtain ⟨⟨a1, a2, a3⟩, ⟨b1, b2, b3⟩, ⟨c1, c2, c3, c4, c5⟩, q1, q2, q3⟩ := hz
                    go_simp
                  try simp only [List.getElem_toArray, List.getElem_cons_zero, List.getElem_cons_succ, Act.put, List.setIfInBounds_toArray, List.set_cons_zero, List.set_cons_succ]
                  refine wpAnyH_done (by kernel_rfl) ?_ _
                  clear hS0 hS1 hS2 hS3
                  go_wp2
                  go_roundw
                  case rel => exact ⟨j + 1, by omega, by go_num, HF8.out⟩
                  case measure => simp [intOf]; omega
                · have hu : ui = ti := HUI.out heq
                  subst hu
                  go_upto_region 28 with fail
                  refine wp_region_held_drew (S := FT w2.heap.size w1.heap.size (w1.heap.size + 1) g (p + j * 2) (.slice xa xl.length xc) (.slice (some ⟨g, p, none⟩) l.length dc) (.slice ia oi.length ic) ui (.slice oa o.length oc) t) (by kernel_rfl) HS2.out (fun hS2 => ?_)
                  generalize v1.drew = v2 at *
                  refine wpAnyH_take (i := 0) (v := .bool true) rfl (by kernel_rfl) (by kernel_rfl) (by kernel_rfl) (fun _ _ _ h => h) (Or.inl ⟨by rfl, fun z hz => ?_⟩) hS2 ?_
                  · obtain ⟨⟨a1, a2, a3⟩, ⟨b1, b2, b3⟩, ⟨c1, c2, c3, c4, c5⟩, q1, q2, q3⟩ := hz
                    go_simp
                  try simp only [List.getElem_toArray, List.getElem_cons_zero, Act.put, List.setIfInBounds_toArray, List.set_cons_zero, List.set_cons_succ]
                  refine wpAnyH_take (i := 1) (v := .bool false) rfl (by kernel_rfl) (by kernel_rfl) (by kernel_rfl) (fun _ _ _ h => h) (Or.inl ⟨by rfl, fun z hz => ?_⟩) hS2 ?_
                  · obtain ⟨⟨a1, a2, a3⟩, ⟨b1, b2, b3⟩, ⟨c1, c2, c3, c4, c5⟩, q1, q2, q3⟩ := hz
                    go_simp
                  try simp only [List.getElem_toArray, List.getElem_cons_zero, List.getElem_cons_succ, Act.put, List.setIfInBounds_toArray, List.set_cons_zero, List.set_cons_succ]
                  refine wpAnyH_take (i := 2) (v := .bool false) rfl (by kernel_rfl) (by kernel_rfl) (by kernel_rfl) (fun _ _ _ h => h) (Or.inl ⟨by rfl, fun z hz => ?_⟩) hS2 ?_
                  · obtain ⟨⟨a1, a2, a3⟩, ⟨b1, b2, b3⟩, ⟨c1, c2, c3, c4, c5⟩, q1, q2, q3⟩ := hz
                    go_simp
                  try simp only [List.getElem_toArray, List.getElem_cons_zero, List.getElem_cons_succ, Act.put, List.setIfInBounds_toArray, List.set_cons_zero, List.set_cons_succ]
                  refine wpAnyH_take (i := 3) (v := .pointer (some ⟨w1.heap.size, 0, none⟩)) rfl (by kernel_rfl) (by kernel_rfl) (by kernel_rfl) (fun _ _ _ h => h) (Or.inl ⟨by rfl, fun z hz => ?_⟩) hS2 ?_
                  · obtain ⟨⟨a1, a2, a3⟩, ⟨b1, b2, b3⟩, ⟨c1, c2, c3, c4, c5⟩, q1, q2, q3⟩ := hz
                    go_simp
                  try simp only [List.getElem_toArray, List.getElem_cons_zero, List.getElem_cons_succ, Act.put, List.setIfInBounds_toArray, List.set_cons_zero, List.set_cons_succ]
                  refine wpAnyH_take (i := 4) (v := .slice (some ⟨g, p, none⟩) l.length dc) rfl (by kernel_rfl) (by kernel_rfl) (by kernel_rfl) (fun _ _ _ h => h) (Or.inl ⟨by rfl, fun z hz => ?_⟩) hS2 ?_
                  · obtain ⟨⟨a1, a2, a3⟩, ⟨b1, b2, b3⟩, ⟨c1, c2, c3, c4, c5⟩, q1, q2, q3⟩ := hz
                    go_simp
                  try simp only [List.getElem_toArray, List.getElem_cons_zero, List.getElem_cons_succ, Act.put, List.setIfInBounds_toArray, List.set_cons_zero, List.set_cons_succ]
                  refine wpAnyH_take (i := 5) (v := .int .i64 j) rfl (by kernel_rfl) (by kernel_rfl) (by kernel_rfl) (fun _ _ _ h => h) (Or.inl ⟨by rfl, fun z hz => ?_⟩) hS2 ?_
                  · obtain ⟨⟨a1, a2, a3⟩, ⟨b1, b2, b3⟩, ⟨c1, c2, c3, c4, c5⟩, q1, q2, q3⟩ := hz
                    go_simp
                  try simp only [List.getElem_toArray, List.getElem_cons_zero, List.getElem_cons_succ, Act.put, List.setIfInBounds_toArray, List.set_cons_zero, List.set_cons_succ]
                  refine wpAnyH_take (i := 6) (v := .pointer (some ⟨g, p + j * 2, none⟩)) rfl (by kernel_rfl) (by kernel_rfl) (by kernel_rfl) (fun _ _ _ h => h) (Or.inl ⟨by rfl, fun z hz => ?_⟩) hS2 ?_
                  · obtain ⟨⟨a1, a2, a3⟩, ⟨b1, b2, b3⟩, ⟨c1, c2, c3, c4, c5⟩, q1, q2, q3⟩ := hz
                    go_simp
                  try simp only [List.getElem_toArray, List.getElem_cons_zero, List.getElem_cons_succ, Act.put, List.setIfInBounds_toArray, List.set_cons_zero, List.set_cons_succ]
                  refine wpAnyH_take (i := 7) (v := .pointer (some ⟨g, p + j * 2, none⟩)) rfl (by kernel_rfl) (by kernel_rfl) (by kernel_rfl) (fun _ _ _ h => h) (Or.inl ⟨by rfl, fun z hz => ?_⟩) hS2 ?_
                  · obtain ⟨⟨a1, a2, a3⟩, ⟨b1, b2, b3⟩, ⟨c1, c2, c3, c4, c5⟩, q1, q2, q3⟩ := hz
                    go_simp
                  try simp only [List.getElem_toArray, List.getElem_cons_zero, List.getElem_cons_succ, Act.put, List.setIfInBounds_toArray, List.set_cons_zero, List.set_cons_succ]
                  refine wpAnyH_take (i := 8) (v := .slice ia oi.length ic) rfl (by kernel_rfl) (by kernel_rfl) (by kernel_rfl) (fun _ _ _ h => h) (Or.inl ⟨by rfl, fun z hz => ?_⟩) hS2 ?_
                  · obtain ⟨⟨a1, a2, a3⟩, ⟨b1, b2, b3⟩, ⟨c1, c2, c3, c4, c5⟩, q1, q2, q3⟩ := hz
                    go_simp
                  try simp only [List.getElem_toArray, List.getElem_cons_zero, List.getElem_cons_succ, Act.put, List.setIfInBounds_toArray, List.set_cons_zero, List.set_cons_succ]
                  refine wpAnyH_take (i := 9) (v := .pointer (some ⟨w1.heap.size + 1, 0, none⟩)) rfl (by kernel_rfl) (by kernel_rfl) (by kernel_rfl) (fun _ _ _ h => h) (Or.inl ⟨by rfl, fun z hz => ?_⟩) hS2 ?_
                  · obtain ⟨⟨a1, a2, a3⟩, ⟨b1, b2, b3⟩, ⟨c1, c2, c3, c4, c5⟩, q1, q2, q3⟩ := hz
                    go_simp
                  try simp only [List.getElem_toArray, List.getElem_cons_zero, List.getElem_cons_succ, Act.put, List.setIfInBounds_toArray, List.set_cons_zero, List.set_cons_succ]
                  refine wpAnyH_take (i := 10) (v := .slice oa o.length oc) rfl (by kernel_rfl) (by kernel_rfl) (by kernel_rfl) (fun _ _ _ h => h) (Or.inl ⟨by rfl, fun z hz => ?_⟩) hS2 ?_
                  · obtain ⟨⟨a1, a2, a3⟩, ⟨b1, b2, b3⟩, ⟨c1, c2, c3, c4, c5⟩, q1, q2, q3⟩ := hz
                    go_simp
                  try simp only [List.getElem_toArray, List.getElem_cons_zero, List.getElem_cons_succ, Act.put, List.setIfInBounds_toArray, List.set_cons_zero, List.set_cons_succ]
                  refine wpAnyH_ready (rs := [11]) (by kernel_rfl) (by simp) ?_
                  refine AllReadyH.cons rfl (fun K hK => ?_) AllReadyH.nil
                  go_simp
                  refine (vInts _ _ oi o _ HIV3.out HF7.out.ro).mono ?_
                  rintro e v3 ⟨rfl, hb⟩
                  rw [decide_eq_false heq]
                  have HF8 := Lib.hid (HF7.out.below hb)
                  refine hK.out _ _ (hS2.below hb) (fun hS3 => ?_)
                  clear hK K hb HF7 HIV3
                  try simp only [List.getElem_toArray, List.getElem_cons_zero, List.getElem_cons_succ, Act.put, List.setIfInBounds_toArray, List.set_cons_zero, List.set_cons_succ]
                  refine wpAnyH_take (i := 12) (v := .bool true) rfl (by kernel_rfl) (by kernel_rfl) (by kernel_rfl) (fun _ _ _ h => h) (Or.inl ⟨by rfl, fun z hz => ?_⟩) hS3 ?_
                  · obtain ⟨⟨a1, a2, a3⟩, ⟨b1, b2, b3⟩, ⟨c1, c2, c3, c4, c5⟩, q1, q2, q3⟩ := hz
                    go_simp
                  try simp only [List.getElem_toArray, List.getElem_cons_zero, List.getElem_cons_succ, Act.put, List.setIfInBounds_toArray, List.set_cons_zero, List.set_cons_succ]
                  refine wpAnyH_take (i := 13) (v := .bool true) rfl (by kernel_rfl) (by kernel_rfl) (by kernel_rfl) (fun _ _ _ h => h) (Or.inl ⟨by rfl, fun z hz => ?_⟩) hS3 ?_
                  · obtain ⟨⟨a1, a2, a3⟩, ⟨b1, b2, b3⟩, ⟨c1, c2, c3, c4, c5⟩, q1, q2, q3⟩ := hz
                    go_simp
                  try simp only [List.getElem_toArray, List.getElem_cons_zero, List.getElem_cons_succ, Act.put, List.setIfInBounds_toArray, List.set_cons_zero, List.set_cons_succ]
                  refine wpAnyH_take (i := 14) (v := .string (S ui)) rfl (by kernel_rfl) (by kernel_rfl) (by kernel_rfl) (fun _ _ _ h => h) (Or.inl ⟨by rfl, fun z hz => ?_⟩) hS3 ?_
                  · obtain ⟨⟨a1, a2, a3⟩, ⟨b1, b2, b3⟩, ⟨c1, c2, c3, c4, c5⟩, q1, q2, q3⟩ := hz
                    go_simp
                  try simp only [List.getElem_toArray, List.getElem_cons_zero, List.getElem_cons_succ, Act.put, List.setIfInBounds_toArray, List.set_cons_zero, List.set_cons_succ]
                  refine wpAnyH_take (i := 15) (v := .pointer (some ⟨w1.heap.size, 0, none⟩)) rfl (by kernel_rfl) (by kernel_rfl) (by kernel_rfl) (fun _ _ _ h => h) (Or.inl ⟨by rfl, fun z hz => ?_⟩) hS3 ?_
                  · obtain ⟨⟨a1, a2, a3⟩, ⟨b1, b2, b3⟩, ⟨c1, c2, c3, c4, c5⟩, q1, q2, q3⟩ := hz
                    go_simp
                  try simp only [List.getElem_toArray, List.getElem_cons_zero, List.getElem_cons_succ, Act.put, List.setIfInBounds_toArray, List.set_cons_zero, List.set_cons_succ]
                  refine wpAnyH_take (i := 16) (v := .slice (some ⟨g, p, none⟩) l.length dc) rfl (by kernel_rfl) (by kernel_rfl) (by kernel_rfl) (fun _ _ _ h => h) (Or.inl ⟨by rfl, fun z hz => ?_⟩) hS3 ?_
                  · obtain ⟨⟨a1, a2, a3⟩, ⟨b1, b2, b3⟩, ⟨c1, c2, c3, c4, c5⟩, q1, q2, q3⟩ := hz
                    go_simp
                  try simp only [List.getElem_toArray, List.getElem_cons_zero, List.getElem_cons_succ, Act.put, List.setIfInBounds_toArray, List.set_cons_zero, List.set_cons_succ]
                  refine wpAnyH_take (i := 17) (v := .int .i64 j) rfl (by kernel_rfl) (by kernel_rfl) (by kernel_rfl) (fun _ _ _ h => h) (Or.inl ⟨by rfl, fun z hz => ?_⟩) hS3 ?_
                  · obtain ⟨⟨a1, a2, a3⟩, ⟨b1, b2, b3⟩, ⟨c1, c2, c3, c4, c5⟩, q1, q2, q3⟩ := hz
                    go_simp
                  try simp only [List.getElem_toArray, List.getElem_cons_zero, List.getElem_cons_succ, Act.put, List.setIfInBounds_toArray, List.set_cons_zero, List.set_cons_succ]
                  refine wpAnyH_take (i := 18) (v := .pointer (some ⟨g, p + j * 2, none⟩)) rfl (by kernel_rfl) (by kernel_rfl) (by kernel_rfl) (fun _ _ _ h => h) (Or.inl ⟨by rfl, fun z hz => ?_⟩) hS3 ?_
                  · obtain ⟨⟨a1, a2, a3⟩, ⟨b1, b2, b3⟩, ⟨c1, c2, c3, c4, c5⟩, q1, q2, q3⟩ := hz
                    go_simp
                  try simp only [List.getElem_toArray, List.getElem_cons_zero, List.getElem_cons_succ, Act.put, List.setIfInBounds_toArray, List.set_cons_zero, List.set_cons_succ]
                  refine wpAnyH_take (i := 19) (v := .pointer (some ⟨g, p + j * 2 + 1, none⟩)) rfl (by kernel_rfl) (by kernel_rfl) (by kernel_rfl) (fun _ _ _ h => h) (Or.inl ⟨by rfl, fun z hz => ?_⟩) hS3 ?_
                  · obtain ⟨⟨a1, a2, a3⟩, ⟨b1, b2, b3⟩, ⟨c1, c2, c3, c4, c5⟩, q1, q2, q3⟩ := hz
                    go_simp
                  try simp only [List.getElem_toArray, List.getElem_cons_zero, List.getElem_cons_succ, Act.put, List.setIfInBounds_toArray, List.set_cons_zero, List.set_cons_succ]
                  refine wpAnyH_take (i := 20) (v := .string (S ui)) rfl (by kernel_rfl) (by kernel_rfl) (by kernel_rfl) (fun _ _ _ h => h) (Or.inl ⟨by rfl, fun z hz => ?_⟩) hS3 ?_
                  · obtain ⟨⟨a1, a2, a3⟩, ⟨b1, b2, b3⟩, ⟨c1, c2, c3, c4, c5⟩, q1, q2, q3⟩ := hz
                    go_simp
                  try simp only [List.getElem_toArray, List.getElem_cons_zero, List.getElem_cons_succ, Act.put, List.setIfInBounds_toArray, List.set_cons_zero, List.set_cons_succ]
                  refine wpAnyH_take (i := 21) (v := .bool false) rfl (by kernel_rfl) (by kernel_rfl) (by kernel_rfl) (fun _ _ _ h => h) (Or.inl ⟨by rfl, fun z hz => ?_⟩) hS3 ?_
                  · obtain ⟨⟨a1, a2, a3⟩, ⟨b1, b2, b3⟩, ⟨c1, c2, c3, c4, c5⟩, q1, q2, q3⟩ := hz
                    go_simp
                  try simp only [List.getElem_toArray, List.getElem_cons_zero, List.getElem_cons_succ, Act.put, List.setIfInBounds_toArray, List.set_cons_zero, List.set_cons_succ]
                  refine wpAnyH_take (i := 22) (v := .bool false) rfl (by kernel_rfl) (by kernel_rfl) (by kernel_rfl) (fun _ _ _ h => h) (Or.inl ⟨by rfl, fun z hz => ?_⟩) hS3 ?_
                  · obtain ⟨⟨a1, a2, a3⟩, ⟨b1, b2, b3⟩, ⟨c1, c2, c3, c4, c5⟩, q1, q2, q3⟩ := hz
                    go_simp
                  try simp only [List.getElem_toArray, List.getElem_cons_zero, List.getElem_cons_succ, Act.put, List.setIfInBounds_toArray, List.set_cons_zero, List.set_cons_succ]
                  refine wpAnyH_take (i := 23) (v := .bool false) rfl (by kernel_rfl) (by kernel_rfl) (by kernel_rfl) (fun _ _ _ h => h) (Or.inl ⟨by rfl, fun z hz => ?_⟩) hS3 ?_
                  · obtain ⟨⟨a1, a2, a3⟩, ⟨b1, b2, b3⟩, ⟨c1, c2, c3, c4, c5⟩, q1, q2, q3⟩ := hz
                    go_simp
                  try simp only [List.getElem_toArray, List.getElem_cons_zero, List.getElem_cons_succ, Act.put, List.setIfInBounds_toArray, List.set_cons_zero, List.set_cons_succ]
                  refine wpAnyH_done (by kernel_rfl) ?_ _
                  clear hS0 hS1 hS2 hS3
                  go_wp2
                  go_roundw
                  case rel => exact ⟨j + 1, by omega, by go_num, HF8.out⟩
                  case measure => simp [intOf]; omega
              · obtain ⟨x0, x1, x2⟩ := HF6.out.bx
                obtain ⟨e0, e1, e2, e3, e4⟩ := HF6.out.be
                have hjl : ¬ (j : Int) < (l.length : Int) := by omega
                go_wp2_with fail
                refine (isValidDictionary _ xl _ HF6.out.rx HSX.out.texts HF6.out.env).mono ?_
                rintro e w13 ⟨rfl, hb⟩
                rw [HDX.out]
                have HF7 := Lib.hid (HF6.out.below hb)
                clear hb HF6 x0 x1 x2 e0 e1 e2 e3 e4 d0 d1 d2
                obtain ⟨x0, x1, x2⟩ := HF7.out.bx
                obtain ⟨d0, d1, d2⟩ := HF7.out.bd
                have hli : (xl.length : Int) ≤ (l.length : Int) + 1 := by omega
                go_wp2
                go_ret
                exact ⟨by first | rfl | simp, HF7.out.bel⟩
  · have hn2 := of_decide_eq_true hbig
    go_wp2
    go_ret
    exact ⟨rfl, Below.refl _ _⟩
end Go.Proofs.YtonhkglilnplbaaGreatDoor
