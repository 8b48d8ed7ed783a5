/- Walks: all strokes undone (program). -/
import Derived.Test.YtmlklnimoknojaaGreatDoorScrI7
namespace Go.Proofs.YtmlklnimoknojaaGreatDoor
namespace P
theorem undoN_succ {d : Dic} {t : Tr} {j : Nat} {es : List Edit} {s : Bs} (h : undoN d t j = some (es, s)) :
    undoN d t (j + 1) = if (scr d (t.1.take (t.1.length - 1 - j))).2 then some (es ++ [least s (scr d (t.1.take (t.1.length - 1 - j))).1], (scr d (t.1.take (t.1.length - 1 - j))).1) else none := by
  rw [show undoN d t (j + 1) = (undoN d t j).bind fun r => if (scr d (t.1.take (t.1.length - 1 - j))).2 then some (r.1 ++ [least r.2 (scr d (t.1.take (t.1.length - 1 - j))).1], (scr d (t.1.take (t.1.length - 1 - j))).1) else none from rfl, h]
  rfl
theorem undo_next (l : List Int) (j : Nat) : next (l.take (l.length - j)) 1024 = l.take (l.length - 1 - j) := by
  unfold next
  rw [if_pos rfl, List.take_take, List.length_take]
  congr 1
  omega
theorem undo_press {d : Dic} {l : List Int} {j : Nat} {s : Bs} : pressP d (l.take (l.length - j), s) 1024 = if (scr d (l.take (l.length - 1 - j))).2 then (((l.take (l.length - 1 - j), (scr d (l.take (l.length - 1 - j))).1), least s (scr d (l.take (l.length - 1 - j))).1), true) else ((tr0, (0, [])), false) := by
  unfold pressP
  simp only [undo_next]
theorem undo_bad {d : Dic} {t : Tr} {j : Nat} (h : undoN d t j = none) (hj : j ≤ t.1.length) : undo d t = ([], false) := by
  unfold undo
  rw [undoN_none h _ hj]
  split <;> rfl
theorem undo_no {d : Dic} {t : Tr} (h : trans d t = false) : undo d t = ([], false) := by
  unfold undo; rw [h]; rfl
theorem undo_all {d : Dic} {t : Tr} {r : List Edit × Bs} (h0 : trans d t = true) (h : undoN d t t.1.length = some r) : undo d t = (r.1, true) := by
  unfold undo
  rw [h0, h]
  rfl
theorem trans_len {d : Dic} {t : Tr} (h : trans d t = true) : t.1.length ≤ 60 ∧ t.2.length ≤ 2000 := by
  obtain ⟨h1, _, _⟩ := trans_parts h
  refine ⟨?_, screen_len (trans_screen h)⟩
  have h2 : slist t.1 = true := by
    unfold scr at h1
    cases hq : slist t.1
    · rw [hq] at h1
      simp at h1
    · rfl
  exact slist_len h2
end P
open Go Go.RowKit
set_option maxHeartbeats 4000000
set_option maxRecDepth 100000
def UndoPost (r : List P.Edit × Bool) (w : World) (e : Ending) (w' : World) : Prop :=
  ∃ u, e = .returned (.tuple #[u, .bool r.2]) ∧ OwnE w.heap.size w' u r.1 ∧ Below w.heap.size w w'
/-- how an undoing stands: its row of edits (base B), its translator in the box b -/
structure UnSt (w : World) (B b : Nat) (dv u tv : Value) (es : List P.Edit) (s : Str) (v : World) : Prop where
  row : OwnE B v u es
  box : TBx b tv s v
  bel : Below w.heap.size w v
  dic : v.cell? ⟨w.heap.size, 0, none⟩ = some dv
  siz : B ≤ v.heap.size
theorem UnSt.below {w : World} {B b : Nat} {dv u tv : Value} {es : List P.Edit} {s : Str} {v v' : World} (h : UnSt w B b dv u tv es s v) (hw : w.heap.size < B) (hb : Below v.heap.size v v') : UnSt w B b dv u tv es s v' :=
  ⟨own_kept h.row hb (Nat.le_refl _), h.box.below hb, h.bel.trans (hb.mono h.bel.size), (hb.cell (p := ⟨w.heap.size, 0, none⟩) (Nat.lt_of_lt_of_le hw h.siz)).trans h.dic, Nat.le_trans h.siz hb.size⟩
/-- an edit appended and a translator stored -/
theorem UnSt.push {w : World} {B b : Nat} {dv u tv : Value} {es : List P.Edit} {s : Str} {v z : World} (h : UnSt w B b dv u tv es s v) {nv : Value} {scr : Str} {x : P.Edit} {g cap : Nat} {o : Obj}
    (hB : w.heap.size < b) (hb : b < B)
    (hown : z.ownsRow B 38 2 (.slice (some ⟨g, 0, none⟩) (es.length + 1) cap) (es.length + 1) (atomVals es ++ [.int .i64 x.1, .string (S x.2)])) (hgr : (v.alloc o).grownBy z u.ownBlock) :
    UnSt w B b dv (.slice (some ⟨g, 0, none⟩) (es.length + 1) cap) nv (es ++ [x]) scr ((z.setCell ⟨b, 0, none⟩ nv).setCell ⟨b, 1, none⟩ (.string (S scr))) := by
  have hba : Below v.heap.size v (v.alloc o) := (Below.refl _ _).alloc (Nat.le_refl _) o
  have h1 := h.below (by omega) hba
  have hc := chg_grown hgr
  have hlo : ∀ k, u.ownBlock = some k → B ≤ k := fun k hk => (World.ownsRow.lt h.row k hk).1
  have hset : Chg (fun k => k = b) z ((z.setCell ⟨b, 0, none⟩ nv).setCell ⟨b, 1, none⟩ (.string (S scr))) := ((Chg.refl (fun k => k = b) z).setCell (p := ⟨b, 0, none⟩) rfl _).setCell (p := ⟨b, 1, none⟩) rfl _
  have hbox := h1.box.stand hc (fun e => by have := hlo _ e; omega)
  refine ⟨?_, ?_, ?_, ?_, ?_⟩
  · have e : OwnE B z (.slice (some ⟨g, 0, none⟩) (es.length + 1) cap) (es ++ [x]) := by unfold OwnE; rw [atomVals_snoc, List.length_append]; exact hown
    exact owns_stand e hset (fun k hk e2 => by have := (World.ownsRow.lt e k hk).1; omega)
  · obtain ⟨z1, c0, c1, f0, f1⟩ := hbox
    exact ⟨by simpa [World.setCell] using z1, by go_simp, by go_simp, by go_simp, by go_simp⟩
  · have h3 : Below w.heap.size w z := Chg.belowB h1.bel hc h1.bel.size (fun k hk => by have := hlo k hk; omega)
    exact (h3.setCell (by show w.heap.size ≤ b; omega) _).setCell (by show w.heap.size ≤ b; omega) _
  · have hz : w.heap.size < (v.alloc o).heap.size := by have := h1.siz; omega
    exact (hset.cell (p := ⟨w.heap.size, 0, none⟩) (Nat.lt_of_lt_of_le hz hc.size) (by show ¬ w.heap.size = b; omega)).trans ((hc.cell (p := ⟨w.heap.size, 0, none⟩) hz (fun e => by have h9 : B ≤ w.heap.size := hlo _ e; omega)).trans h1.dic)
  · exact Nat.le_trans (Nat.le_trans h1.siz hc.size) hset.size
theorem impl_undoAll (dv sv : Value) (l : P.Dic) (st : List Int) (t : Str) (w : World) (hu : EntR w dv l) (hs : IntR w sv st) (hm : Small l) (hE : Env w) :
    Calls Tryz.prog 19 #[.agg #[dv], transV sv t] w (UndoPost (P.undo l (st, t)) w) := by
  obtain ⟨i0, hi, hy0, hy1, hy2⟩ := info_parts info_edit
  have HU := Lib.hid hu; have HST := Lib.hid hs; have HE := Lib.hid hE
  obtain ⟨ad, cap, rfl, _, _⟩ := hu
  obtain ⟨sd, sc, rfl, hsl, _⟩ := hs
  obtain ⟨W0, hW0⟩ : ∃ v, ((w.alloc (.cells #[.slice ad l.length cap] 26)).alloc (.cells #[.slice sd st.length sc, .string (S t)] 32)) = v := ⟨_, rfl⟩
  have hb0 : Below w.heap.size w W0 := by rw [← hW0]; exact ((Below.refl w.heap.size w).alloc (Nat.le_refl _) _).alloc (by simp) _
  have hz0' : W0.heap.size = w.heap.size + 2 := by rw [← hW0]; simp
  have hx0 : W0.cell? ⟨w.heap.size, 0, none⟩ = some (.slice ad l.length cap) ∧ TBx (w.heap.size + 1) (.slice sd st.length sc) t W0 := by
    subst hW0
    exact ⟨by go_simp, ⟨by simp, by go_simp, by go_simp, by go_simp, by go_simp⟩⟩
  have HB0 := Lib.hid hb0
  have HX := Lib.hid hx0; have HZ0 := Lib.hid hz0'
  clear hb0 hz0'
  unfold transV
  go_enter Tryz.func19, Tryz.ntmps19
  go_upto_region 1 with (fail)
  try rw [hW0]
  clear hW0
  obtain ⟨k0, _, k1, k2, _⟩ := hx0
  go_wp2_with fail
  refine (impl_isValidTranslator _ _ l st t _ (HU.out.below HB0.out) (HST.out.below HB0.out) hm (HE.out.below HB0.out HE.out.size)).mono ?_
  rintro e w1 ⟨rfl, hb⟩
  have HB1 := Lib.hid (HB0.out.trans (hb.mono HB0.out.size))
  have HX1 := Lib.hid (show w1.cell? ⟨w.heap.size, 0, none⟩ = some (.slice ad l.length cap) ∧ TBx (w.heap.size + 1) (.slice sd st.length sc) t w1 from ⟨(hb.cell (p := ⟨w.heap.size, 0, none⟩) (by show w.heap.size < _; have := HZ0.out; omega)).trans HX.out.1, HX.out.2.below hb⟩)
  have hz1 : w.heap.size + 2 ≤ w1.heap.size := by have h1 := hb.size; have h2 := HZ0.out; omega
  clear hb k0 k1 k2 HB0 HX
  cases hd : P.trans l (st, t)
  · have HP := Lib.hid (P.undo_no hd)
    clear hd
    go_wp2
    refine bodyPost_ret (v := .tuple #[.slice none 0 0, .bool false]) (by simp [results, Tryz.results19, go_sem]) rfl ⟨.slice none 0 0, by rw [HP.out], by rw [HP.out]; exact World.ownsRow_nil _ _ _ _, HB1.out⟩
  · have HD := Lib.hid hd
    have hlen := P.trans_len hd
    simp only at hlen
    obtain ⟨hl60, hl2⟩ := hlen
    have HSC := Lib.hid (P.trans_screen hd)
    clear hd
    have HS0 := Lib.hid (show UnSt w w1.heap.size (w.heap.size + 1) (.slice ad l.length cap) (.slice (some ⟨w1.heap.size, 0, none⟩) 0 0) (.slice sd st.length sc) [] t (w1.alloc (.cells #[] 38)) by
      have hbx : Below w1.heap.size w1 (w1.alloc (.cells #[] 38)) := (Below.refl w1.heap.size w1).alloc (Nat.le_refl _) _
      exact ⟨ownE_nil w1, HX1.out.2.below hbx, HB1.out.trans (hbx.mono HB1.out.size), (hbx.cell (p := ⟨w.heap.size, 0, none⟩) (by show w.heap.size < _; omega)).trans HX1.out.1, hbx.size⟩)
    obtain ⟨_, _, k1, k2, _⟩ := HX1.out
    go_wp2
    clear k1 k2
    go_loopw [6, 18] (fun u i wr => ∃ (j : Nat) (es : List P.Edit) (s : Str) (tv : Value), j ≤ st.length ∧ i = .int .i64 j ∧ P.undoN l (st, t) j = some (es, s) ∧ UnSt w w1.heap.size (w.heap.size + 1) (.slice ad l.length cap) u tv es s wr ∧ ((tv = .slice sd st.length sc ∧ j = 0) ∨ OwnK w1.heap.size wr tv (st.take (st.length - j)))) (fun _ i _ => st.length - (intOf i).toNat)
    case atStart => exact ⟨0, [], t, _, Nat.zero_le _, rfl, rfl, HS0.out, .inl ⟨rfl, rfl⟩⟩
    case round =>
      obtain ⟨j, es, s, tv, hj, rfl, hN, hr, htv⟩ := hrel
      have HR := Lib.hid hr; have HN := Lib.hid hN
      have HJ := Lib.hid (P.undoN_len hN)
      have hsl2 := P.screen_len (P.undoN_screen HSC.out hN)
      have HTV := Lib.hid (show IntR wr tv (st.take (st.length - j)) by
        rcases htv with ⟨rfl, rfl⟩ | h
        · rw [Nat.sub_zero, List.take_length]; exact HST.out.below hr.bel
        · exact ownK_read h (by rw [List.length_take]; omega))
      obtain ⟨ua, uc, rfl⟩ := ownE_form hr.row
      have htf : ∃ a c, tv = .slice a (st.take (st.length - j)).length c := by
        obtain ⟨a, c, rfl, _⟩ := HTV.out
        exact ⟨a, c, rfl⟩
      obtain ⟨ta, tc, rfl⟩ := htf
      clear hr hN HS0 htv
      by_cases hlt : j < st.length
      · have HN1 := Lib.hid (P.undoN_succ HN.out)
        have HPP := Lib.hid (P.undo_press (d := l) (l := st) (j := j) (s := s))
        have i2 : (j : Int) < (st.length : Int) := by omega
        have k0 := HR.out.dic
        obtain ⟨hzb, k1, k2, _, _⟩ := HR.out.box
        simp only at HN1
        have hml : (st.take (st.length - j)).length ≤ 60 := by rw [List.length_take]; omega
        obtain ⟨cr, hcr⟩ : ∃ cr, P.scr l (st.take (st.length - 1 - j)) = cr := ⟨_, rfl⟩
        rw [hcr] at HN1 HPP
        clear hcr
        obtain ⟨nx, hnx⟩ : ∃ nx, st.take (st.length - 1 - j) = nx := ⟨_, rfl⟩
        rw [hnx] at HPP
        have HNX := Lib.hid (show st.take (st.length - (j + 1)) = nx by rw [← hnx]; congr 1; omega)
        clear hnx
        generalize st.take (st.length - j) = tk at *
        go_wp2_with fail
        refine (press _ _ l tk s 1024 _ (HU.out.below HR.out.bel) HTV.out hm (HE.out.below HR.out.bel HE.out.size) (by omega) (by omega)).mono ?_
        rintro e w3 ⟨nv, rfl, ho, hb⟩
        have HR3 := Lib.hid (HR.out.below (by omega) hb)
        have hz3 : wr.heap.size ≤ w3.heap.size := hb.size
        have hzr := HR.out.siz
        obtain ⟨scr, ok⟩ := cr
        simp only at HN1 HPP
        clear hb k0 k1 k2 HR HN HTV hml
        cases ok
        · have HP := Lib.hid (P.undo_bad (t := (st, t)) (j := j + 1) (by rw [HN1.out]; rfl) (by show j + 1 ≤ st.length; omega))
          have he : P.pressP l (tk, s) 1024 = ((([], []), (0, [])), false) := HPP.out
          rw [he] at ho ⊢
          simp only at ho ⊢
          obtain ⟨va, vc, rfl⟩ := ownK_form ho
          clear ho
          unfold editV
          go_wp2
          refine bodyPost_ret (v := .tuple #[.slice none 0 0, .bool false]) (by simp [results, Tryz.results19, go_sem]) rfl ⟨.slice none 0 0, by rw [HP.out], by rw [HP.out]; exact World.ownsRow_nil _ _ _ _, ?_⟩
          exact (HR3.out.bel.alloc HR3.out.bel.size _).alloc (by have := HR3.out.bel.size; simp; omega) _
        · obtain ⟨en, et, hle⟩ : ∃ en et, P.least s scr = (en, et) := ⟨_, _, rfl⟩
          have he : P.pressP l (tk, s) 1024 = (((nx, scr), (en, et)), true) := by rw [HPP.out, ← hle]; rfl
          have HN2 := Lib.hid (show P.undoN l (st, t) (j + 1) = some (es ++ [(en, et)], scr) by rw [HN1.out, ← hle]; rfl)
          rw [he] at ho ⊢
          simp only at ho ⊢
          unfold editV
          have HO := Lib.hid ho
          obtain ⟨va, vc, rfl⟩ := ownK_form ho
          clear ho he hle HN1 HPP
          have hb4 : Below w3.heap.size w3 ((w3.alloc (.cells #[.slice va nx.length vc, .string (S scr)] 32)).alloc (.cells #[.int .i64 en, .string (S et)] 38)).drew := (((Below.refl _ _).alloc (Nat.le_refl _) _).alloc (by simp) _).drew
          have HBX := Lib.hid (show Box2E w3.heap.size (.slice va nx.length vc) scr ((w3.alloc (.cells #[.slice va nx.length vc, .string (S scr)] 32)).alloc (.cells #[.int .i64 en, .string (S et)] 38)).drew ∧ Box2E (w3.heap.size + 1) (.int .i64 en) et ((w3.alloc (.cells #[.slice va nx.length vc, .string (S scr)] 32)).alloc (.cells #[.int .i64 en, .string (S et)] 38)).drew from
            ⟨(Box2E.new (.slice va nx.length vc) scr 32 w3).below ((Below.refl _ _).alloc (Nat.le_refl _) _).drew, by have h := (Box2E.new (.int .i64 en) et 38 (w3.alloc (.cells #[.slice va nx.length vc, .string (S scr)] 32))).below (Below.refl _ _).drew; simpa using h⟩)
          have HUB := Lib.hid (show ∀ k, (Value.slice ua es.length uc).ownBlock = some k → k ≠ w3.heap.size ∧ k ≠ w3.heap.size + 1 from fun k hk => by have := (World.ownsRow.lt HR3.out.row k hk).2; omega)
          have HR4 := Lib.hid (HR3.out.below (by omega) hb4); have HO4 := Lib.hid (own_kept HO.out hb4 (Nat.le_refl _))
          clear hb4 HR3 HO
          go_upto_region 9 with fail
          refine Left.region [6] (S := fun v => Box2E w3.heap.size (.slice va nx.length vc) scr v ∧ Box2E (w3.heap.size + 1) (.int .i64 en) et v) (by kernel_rfl) HBX.out (fun hS0 => ?_)
          generalize ((w3.alloc (.cells #[.slice va nx.length vc, .string (S scr)] 32)).alloc (.cells #[.int .i64 en, .string (S et)] 38)).drew = v0 at *
          refine Left.take (i := 0) (v := .slice ua es.length uc) rfl (by kernel_rfl) (by kernel_rfl) (by kernel_rfl) (by kernel_rfl) (fun _ _ _ h => h) (Or.inl ⟨by rfl, fun z hz => ?_⟩) hS0 ?_
          · obtain ⟨⟨z1, z2, z3⟩, z4, z5, z6⟩ := hz
            go_simp
          try simp only [qA, qB, Act.put, qD, qE, qF]
          refine Left.take (i := 1) (v := .agg #[.int .i64 en, .string (S et)]) rfl (by kernel_rfl) (by kernel_rfl) (by kernel_rfl) (by kernel_rfl) (fun _ _ _ h => h) (Or.inl ⟨by rfl, fun z hz => ?_⟩) hS0 ?_
          · obtain ⟨⟨z1, z2, z3⟩, z4, z5, z6⟩ := hz
            go_simp
          try simp only [qA, qB, qC, Act.put, qD, qE, qF]
          refine Left.take (i := 4) (v := .agg #[.slice va nx.length vc, .string (S scr)]) rfl (by kernel_rfl) (by kernel_rfl) (by kernel_rfl) (by kernel_rfl) (fun _ _ _ h => h) (Or.inl ⟨by rfl, fun z hz => ?_⟩) hS0 ?_
          · obtain ⟨⟨z1, z2, z3⟩, z4, z5, z6⟩ := hz
            go_simp
          try simp only [qA, qB, qC, Act.put, qD, qE, qF]
          refine Left.ready (rs := [2]) (by kernel_rfl) (by simp) ?_
          refine Nexts.cons rfl (fun K hK => ?_) Nexts.nil
          go_simp
          have hba := (Below.refl v0.heap.size v0).alloc (Nat.le_refl _) (.cells #[.int .i64 en, .string (S et)] 38)
          have hna0 : (v0.alloc (.cells #[.int .i64 en, .string (S et)] 38)).cell? ⟨v0.heap.size, 0, none⟩ = some (.int .i64 en) := by go_simp
          have hna1 : (v0.alloc (.cells #[.int .i64 en, .string (S et)] 38)).cell? ⟨v0.heap.size, 1, none⟩ = some (.string (S et)) := by go_simp
          refine on_held hK (by decide) ⟨HBX.out.1.below hba, HBX.out.2.below hba⟩ (fun hS1 => ?_)
          clear hK K hS0
          have HRA := Lib.hid (HR4.out.below (by omega) hba).row
          have HOA := Lib.hid (own_kept HO4.out hba (Nat.le_refl _))
          have hza : w1.heap.size ≤ (v0.alloc (.cells #[.int .i64 en, .string (S et)] 38)).heap.size := Nat.le_trans HR4.out.siz hba.size
          try simp only [qA, qB, qC, Act.put, qD, qE, qF]
          refine Left.ready (rs := [3]) (by kernel_rfl) (by simp) ?_
          refine Nexts.cons rfl (fun K hK => ?_) Nexts.nil
          refine step_append_lies _ rfl _ _ 30 rfl w1.heap.size 38 i0 (.agg #[.int .i64 0, .string ⟨#[]⟩]) 2 24 Tryz.underlying30 hi hy0 hy1 hy2 rfl (by decide) (.slice ua es.length uc) es.length (atomVals es) rfl HRA.out ⟨v0.heap.size, 0, none⟩ 1 1 [.int .i64 en, .string (S et)] rfl rfl ?_ ?_ (by decide) (by have := HJ.out; unfold maxLen; omega) (by have := HJ.out; omega) hza _ rfl ?_
          · intro k y hy
            match k, hy with
            | 0, hy => injection hy with hy; subst hy; rw [add0]; exact hna0
            | 1, hy => injection hy with hy; subst hy; exact hna1
          · intro y hy
            simp only [List.mem_cons, List.not_mem_nil, or_false] at hy
            rcases hy with rfl | rfl <;> rfl
          intro g3 cap3 z hown hgr hat hlt3
          have HPU := Lib.hid (HR4.out.push (nv := .slice va nx.length vc) (scr := scr) (x := (en, et)) (by omega) (by omega) hown hgr)
          have hcz := chg_grown hgr
          have hub := HUB.out
          have hsz : Box2E w3.heap.size (.slice va nx.length vc) scr z ∧ Box2E (w3.heap.size + 1) (.int .i64 en) et z := ⟨(hS1.1).stand hcz (fun e => (hub _ e).1 rfl), (hS1.2).stand hcz (fun e => (hub _ e).2 rfl)⟩
          obtain ⟨kz, k5, k6, k7, k8⟩ := (HR4.out.below (by omega) hba).box.stand hcz (fun e => by have h9 := (World.ownsRow.lt HR4.out.row _ e).1; omega)
          have hset : Chg (fun k => k = w.heap.size + 1) z ((z.setCell ⟨w.heap.size + 1, 0, none⟩ (.slice va nx.length vc)).setCell ⟨w.heap.size + 1, 1, none⟩ (.string (S scr))) := ((Chg.refl (fun k => k = w.heap.size + 1) z).setCell (p := ⟨w.heap.size + 1, 0, none⟩) rfl _).setCell (p := ⟨w.heap.size + 1, 1, none⟩) rfl _
          have HOZ := Lib.hid (own_base (owns_stand (owns_stand HOA.out hcz (fun k hk e => by
            rcases ed_sep2 HRA.out HOA.out with e2 | e2
            · rw [e2] at hk; cases hk
            · exact e2 (hk.trans e.symm))) hset (fun k hk e => by have h8 := (World.ownsRow.lt HOA.out k hk).1; have h9 : k = w.heap.size + 1 := e; omega)) (show w1.heap.size ≤ wr.heap.size by omega))
          refine on_held hK (by decide) hsz (fun hS2 => ?_)
          clear hK K hown hgr hat hS1 hba hna0 hna1 HRA HOA hset
          try simp only [qA, qB, qC, Act.put, qD, qE, qF]
          refine Left.take (i := 5) (v := .slice (some ⟨g3, 0, none⟩) (es.length + 1) cap3) rfl (by kernel_rfl) (by kernel_rfl) (by kernel_rfl) (by kernel_rfl) (fun _ _ _ h => h) (Or.inl ⟨by rfl, fun z hz => ?_⟩) hS2 ?_
          · obtain ⟨⟨z1, z2, z3⟩, z4, z5, z6⟩ := hz
            go_simp
          try simp only [qA, qB, qC, Act.put, qD, qE, qF]
          refine Left.ready (rs := [6]) (by kernel_rfl) (by simp) ?_
          refine Nexts.cons rfl (fun K hK => ?_) Nexts.nil
          go_simp
          refine on_last hK (by decide) ?_
          clear hK K
          try simp only [qA, qB, qC, Act.put, qD, qE, qF]
          refine Left.done (by kernel_rfl) ?_ _
          clear hS2 hsz hcz k5 k6 k7 k8
          go_wp2
          go_roundw
          case rel => exact ⟨j + 1, es ++ [(en, et)], scr, .slice va nx.length vc, by omega, by go_num, HN2.out, HPU.out, .inr (by rw [HNX.out]; exact HOZ.out)⟩
          case measure => simp [intOf]; omega
      · have hjl : j = st.length := by omega
        subst hjl
        have HP := Lib.hid (P.undo_all (t := (st, t)) HD.out HN.out)
        have HROW := Lib.hid (own_base HR.out.row (show w.heap.size ≤ w1.heap.size by omega))
        have HBL := Lib.hid HR.out.bel
        clear HR HN HTV
        go_wp2
        refine bodyPost_ret (v := .tuple #[.slice ua es.length uc, .bool true]) (by simp [results, Tryz.results19, go_sem]) rfl ⟨.slice ua es.length uc, by rw [HP.out], by rw [HP.out]; exact HROW.out, HBL.out⟩
end Go.Proofs.YtmlklnimoknojaaGreatDoor
