/- Walks: a replay (program). -/
import Derived.Test.YtmlklnimoknojaaGreatDoorScrI5
import Derived.Test.YtmlklnimoknojaaGreatDoorTool3
import Derived.Test.YtmlklnimoknojaaGreatDoorPlainTop
namespace Go.Proofs.YtmlklnimoknojaaGreatDoor
namespace P
theorem replayN_small {d : Dic} {st : List Int} : ∀ {j : Nat} {es : List Edit} {t : Tr}, replayN d st j = some (es, t) → es.length = j ∧ t.1.length ≤ j ∧ t.2.length ≤ 2000
  | 0, es, t, h => by
    unfold replayN at h
    injection h with h
    injection h with h1 h2
    subst h1 h2
    exact ⟨rfl, Nat.le_refl _, Nat.zero_le _⟩
  | j + 1, es, t, h => by
    obtain ⟨es0, t0, h1, h2, h3, h4⟩ := replayN_step h
    obtain ⟨h5, h6, _⟩ := replayN_small h1
    have h7 := press_len d t0 (st.getD j 0)
    obtain ⟨_, h8, h9, h10⟩ := press_ok h2
    refine ⟨by rw [h3, List.length_append, h5]; rfl, by rw [h4]; omega, ?_⟩
    have h11 := trans_screen (press_trans h2)
    rw [h4]
    exact screen_len h11
theorem replayN_succ {d : Dic} {st : List Int} {j : Nat} {es : List Edit} {t : Tr} (h : replayN d st j = some (es, t)) (hj : j < st.length) :
    replayN d st (j + 1) = if (press d t st[j]).2 then some (es ++ [(press d t st[j]).1.2], (press d t st[j]).1.1) else none := by
  have e : st.getD j 0 = st[j] := by rw [List.getD_eq_getElem?_getD, List.getElem?_eq_getElem hj]; rfl
  unfold replayN
  rw [h, e]
  rfl
theorem replay_bad {d : Dic} {st : List Int} {j : Nat} (h : replayN d st j = none) (hj : j ≤ st.length) : replay d st = (([], tr0), false) := by
  unfold replay
  rw [replayN_none h _ hj]
  split <;> rfl
theorem replay_no {d : Dic} {st : List Int} (h : (dic d && decide (st.length ≤ 120)) = false) : replay d st = (([], tr0), false) := by
  unfold replay; rw [h]; rfl
theorem replay_all {d : Dic} {st : List Int} {r : List Edit × Tr} (h0 : dic d = true) (h1 : st.length ≤ 120) (h : replayN d st st.length = some r) : replay d st = (r, true) := by
  unfold replay
  rw [h0, h]
  simp [h1]
end P
open Go Go.RowKit
set_option maxHeartbeats 4000000
set_option maxRecDepth 100000
def ReplayPost (r : (List P.Edit × P.Tr) × Bool) (w : World) (e : Ending) (w' : World) : Prop :=
  ∃ u us, e = .returned (.tuple #[u, transV us r.1.2.2, .bool r.2]) ∧ OwnE w.heap.size w' u r.1.1 ∧ OwnK w.heap.size w' us r.1.2.1 ∧ Below w.heap.size w w'
/-- the boxes of a replay -/
def RpBx (b : Nat) (dv : Value) (v : World) : Prop := (b < v.heap.size ∧ v.cell? ⟨b, 0, none⟩ = some dv) ∧ TBx (b + 1) (.slice none 0 0) [] v
theorem RpBx.below {b : Nat} {dv : Value} {v v' : World} (h : RpBx b dv v) (hb : Below v.heap.size v v') : RpBx b dv v' :=
  ⟨⟨Nat.lt_of_lt_of_le h.1.1 hb.size, (hb.cell (p := ⟨b, 0, none⟩) h.1.1).trans h.1.2⟩, h.2.below hb⟩
theorem RpBx.stand {b : Nat} {dv : Value} {v v' : World} {X : Blk} (h : RpBx b dv v) (hc : Chg X v v') (h0 : ¬ X b) (h1 : ¬ X (b + 1)) : RpBx b dv v' :=
  ⟨⟨Nat.lt_of_lt_of_le h.1.1 hc.size, (hc.cell (p := ⟨b, 0, none⟩) h.1.1 h0).trans h.1.2⟩, h.2.stand hc h1⟩
/-- how a replay stands: its row of edits (base B), its translator in the box b -/
structure RpSt (w : World) (B b : Nat) (dv u tv : Value) (es : List P.Edit) (t : P.Tr) (v : World) : Prop where
  row : OwnE B v u es
  str : OwnK B v tv t.1
  n1 : u.ownBlock ≠ some b
  n2 : tv.ownBlock ≠ some b
  box : TBx b tv t.2 v
  bel : Below w.heap.size w v
  rbx : RpBx w.heap.size dv v
  siz : B ≤ v.heap.size
theorem RpSt.below {w : World} {B b : Nat} {dv u tv : Value} {es : List P.Edit} {t : P.Tr} {v v' : World} (h : RpSt w B b dv u tv es t v) (hb : Below v.heap.size v v') : RpSt w B b dv u tv es t v' :=
  ⟨own_kept h.row hb (Nat.le_refl _), own_kept h.str hb (Nat.le_refl _), h.n1, h.n2, h.box.below hb, h.bel.trans (hb.mono h.bel.size), h.rbx.below hb, Nat.le_trans h.siz hb.size⟩
/-- an edit appended and a translator stored -/
theorem RpSt.push {w : World} {B b : Nat} {dv u tv : Value} {es : List P.Edit} {t : P.Tr} {v z : World} (h : RpSt w B b dv u tv es t v) {nv : Value} {nx : List Int} {scr : Str} {x : P.Edit} {g cap B' : Nat} {o : Obj}
    (hB : w.heap.size + 2 ≤ B) (hb : B ≤ b) (ho : OwnK B' v nv nx) (hnb : nv.ownBlock ≠ some b) (hB' : B ≤ B')
    (hown : z.ownsRow B 38 2 (.slice (some ⟨g, 0, none⟩) (es.length + 1) cap) (es.length + 1) (atomVals es ++ [.int .i64 x.1, .string (S x.2)])) (hgr : (v.alloc o).grownBy z u.ownBlock) (hat : u.ownBlock = some g ∨ g = (v.alloc o).heap.size) :
    RpSt w B b dv (.slice (some ⟨g, 0, none⟩) (es.length + 1) cap) nv (es ++ [x]) (nx, scr) ((z.setCell ⟨b, 0, none⟩ nv).setCell ⟨b, 1, none⟩ (.string (S scr))) := by
  have hba : Below v.heap.size v (v.alloc o) := (Below.refl _ _).alloc (Nat.le_refl _) o
  have h1 := h.below hba
  have ho1 := own_kept ho hba (Nat.le_refl _)
  have hc := chg_grown hgr
  have hlo : ∀ k, u.ownBlock = some k → B ≤ k := fun k hk => (World.ownsRow.lt h.row k hk).1
  have hbz := h.box.1
  have hset : Chg (fun k => k = b) z ((z.setCell ⟨b, 0, none⟩ nv).setCell ⟨b, 1, none⟩ (.string (S scr))) := ((Chg.refl (fun k => k = b) z).setCell (p := ⟨b, 0, none⟩) rfl _).setCell (p := ⟨b, 1, none⟩) rfl _
  have hbox := h1.box.stand hc (fun e => h.n1 e)
  have hgb : g ≠ b := by
    rintro rfl
    rcases hat with e | e
    · exact h.n1 e
    · have e2 : (v.alloc o).heap.size = v.heap.size + 1 := by simp
      have : g < v.heap.size := hbz
      omega
  refine ⟨?_, ?_, ?_, hnb, ?_, ?_, ?_, ?_⟩
  · have e : OwnE B z (.slice (some ⟨g, 0, none⟩) (es.length + 1) cap) (es ++ [x]) := by unfold OwnE; rw [atomVals_snoc, List.length_append]; exact hown
    exact owns_stand e hset (fun k hk e => hgb (by injection hk with hk; subst e; exact hk))
  · have e : OwnK B' z nv nx := owns_stand ho1 hc (fun k hk e => by
      rcases ed_sep2 h1.row ho1 with e2 | e2
      · rw [e2] at hk; cases hk
      · exact e2 (hk.trans e.symm))
    exact own_base (owns_stand e hset (fun k hk e => hnb (by rw [hk, e]))) hB'
  · intro e; injection e with e; exact hgb e
  · obtain ⟨z1, c0, c1, f0, f1⟩ := hbox
    exact ⟨by simpa [World.setCell] using z1, by go_simp, by go_simp, by go_simp, by go_simp⟩
  · have h3 : Below w.heap.size w z := Chg.belowB h1.bel hc h1.bel.size (fun k hk => by have := hlo k hk; omega)
    exact (h3.setCell (by show w.heap.size ≤ b; omega) _).setCell (by show w.heap.size ≤ b; omega) _
  · exact (h1.rbx.stand hc (fun hk => by have := hlo _ hk; omega) (fun hk => by have := hlo _ hk; omega)).stand hset (by omega) (by omega)
  · exact Nat.le_trans (Nat.le_trans h1.siz hc.size) hset.size
theorem impl_replay (dv sv : Value) (l : P.Dic) (st : List Int) (w : World) (hu : EntR w dv l) (hs : IntR w sv st) (hm : Small l) (hE : Env w) :
    Calls Tryz.prog 12 #[.agg #[dv], sv] w (ReplayPost (P.replay l st) w) := by
  obtain ⟨i0, hi, hy0, hy1, hy2⟩ := info_parts info_edit
  obtain ⟨W0, hW0⟩ : ∃ v, ((w.alloc (.cells #[dv] 26)).alloc (.cells #[.slice none 0 0, .string (S [])] 32)) = v := ⟨_, rfl⟩
  have hb0 : Below w.heap.size w W0 := by rw [← hW0]; exact ((Below.refl w.heap.size w).alloc (Nat.le_refl _) _).alloc (by simp) _
  have hz0' : W0.heap.size = w.heap.size + 2 := by rw [← hW0]; simp
  have hx0 : RpBx w.heap.size dv W0 := by
    subst hW0
    exact ⟨⟨by simp <;> omega, by go_simp⟩, ⟨by simp, by go_simp, by go_simp, by go_simp, by go_simp⟩⟩
  have HU := Lib.hid hu; have HST := Lib.hid hs; have HB0 := Lib.hid hb0; have HE := Lib.hid hE
  have HX := Lib.hid hx0; have HZ0 := Lib.hid hz0'
  clear hb0 hz0'
  obtain ⟨ad, cap, rfl, _, _⟩ := hu
  obtain ⟨sd, sc, rfl, hsl, _⟩ := hs
  go_enter Tryz.func12, Tryz.ntmps12
  go_upto_region 1 with (fail)
  try rw [hW0]
  clear hW0
  obtain ⟨⟨_, k0⟩, _⟩ := hx0
  go_wp2_with fail
  refine (isValidDictionary _ l _ (HU.out.below HB0.out) hm.texts (HE.out.below HB0.out HE.out.size)).mono ?_
  rintro e w1 ⟨rfl, hb⟩
  have HB1 := Lib.hid (HB0.out.trans (hb.mono HB0.out.size)); have HX1 := Lib.hid (HX.out.below hb)
  have hz1 : w.heap.size + 2 ≤ w1.heap.size := by have h1 := hb.size; have h2 := HZ0.out; omega
  clear hb k0 HB0 HX
  have HBAD := Lib.hid (fun h : (P.dic l && decide (st.length ≤ 120)) = false => P.replay_no (st := st) h)
  obtain ⟨_, ⟨_, k3, k4, k7, k8⟩⟩ := HX1.out
  cases hd : P.dic l
  · have HP := Lib.hid (HBAD.out (by rw [hd]; rfl))
    clear hd
    go_wp2
    refine bodyPost_ret (v := .tuple #[.slice none 0 0, transV (.slice none 0 0) [], .bool false]) (by simp [transV, k3, k4, results, Tryz.results12, go_sem]) rfl ⟨.slice none 0 0, .slice none 0 0, by rw [HP.out]; rfl, by rw [HP.out]; exact World.ownsRow_nil _ _ _ _, by rw [HP.out]; exact World.ownsRow_nil _ _ _ _, ?_⟩
    exact (HB1.out.setCell (by simp <;> omega) _).setCell (by simp <;> omega) _
  · have HD := Lib.hid hd
    by_cases hl : 120 < st.length
    · have HP := Lib.hid (HBAD.out (by rw [hd]; simp; omega))
      have i1 : (120 : Int) < (st.length : Int) := by omega
      clear hd
      go_wp2
      refine bodyPost_ret (v := .tuple #[.slice none 0 0, transV (.slice none 0 0) [], .bool false]) (by simp [transV, k3, k4, results, Tryz.results12, go_sem]) rfl ⟨.slice none 0 0, .slice none 0 0, by rw [HP.out]; rfl, by rw [HP.out]; exact World.ownsRow_nil _ _ _ _, by rw [HP.out]; exact World.ownsRow_nil _ _ _ _, ?_⟩
      exact (HB1.out.setCell (by simp <;> omega) _).setCell (by simp <;> omega) _
    · have i1 : ¬ (120 : Int) < (st.length : Int) := by omega
      have HL := Lib.hid (show st.length ≤ 120 by omega)
      clear hd hl HBAD k3 k4 k7 k8
      have HS0 := Lib.hid (show RpSt w w1.heap.size (w1.heap.size + 1) (.slice ad l.length cap) (.slice (some ⟨w1.heap.size, 0, none⟩) 0 0) (.slice none 0 0) [] P.tr0 ((w1.alloc (.cells #[] 38)).alloc (.cells #[.slice none 0 0, .string (S [])] 32)) by
        have hbx : Below w1.heap.size w1 ((w1.alloc (.cells #[] 38)).alloc (.cells #[.slice none 0 0, .string (S [])] 32)) := ((Below.refl w1.heap.size w1).alloc (Nat.le_refl _) _).alloc (by simp) _
        exact ⟨(ownE_nil w1).alloc _, World.ownsRow_nil _ _ _ _, by simp [Value.ownBlock], by simp [Value.ownBlock], ⟨by simp, by go_simp, by go_simp; rfl, by go_simp, by go_simp⟩, HB1.out.trans (hbx.mono HB1.out.size), HX1.out.below hbx, hbx.size⟩)
      go_wp2
      go_loopw [7, 27] (fun u i wr => ∃ (j : Nat) (es : List P.Edit) (t : P.Tr) (tv : Value), j ≤ st.length ∧ i = .int .i64 j ∧ P.replayN l st j = some (es, t) ∧ RpSt w w1.heap.size (w1.heap.size + 1) (.slice ad l.length cap) u tv es t wr) (fun _ i _ => st.length - (intOf i).toNat)
      case atStart => exact ⟨0, [], P.tr0, _, Nat.zero_le _, rfl, rfl, HS0.out⟩
      case round =>
        obtain ⟨j, es, t, tv, hj, rfl, hN, hr⟩ := hrel
        have HR := Lib.hid hr; have HN := Lib.hid hN
        have HSM := Lib.hid (P.replayN_small hN)
        obtain ⟨ua, uc, rfl⟩ := ownE_form hr.row
        obtain ⟨ta, tc, rfl⟩ := ownK_form hr.str
        clear hr hN HS0
        by_cases hlt : j < st.length
        · obtain ⟨g, o, hga, hgs, c0⟩ := (HST.out.below HR.out.bel).at j hlt
          subst hga
          have HN1 := Lib.hid (P.replayN_succ HN.out hlt)
          generalize st[j] = s at *
          have i2 : (j : Int) < (st.length : Int) := by omega
          obtain ⟨⟨_, k0⟩, _⟩ := HR.out.rbx
          obtain ⟨_, k1, k2, _, _⟩ := HR.out.box
          have hs1 := HSM.out.2.1
          have hs2 := HSM.out.2.2
          obtain ⟨t1, t2⟩ := t
          simp only at hs1 hs2 k2
          have hll := HL.out
          go_wp2_with fail
          refine (impl_press _ _ l t1 t2 s _ (HU.out.below HR.out.bel) (ownK_read HR.out.str (by show t1.length ≤ _; omega)) hm (HE.out.below HR.out.bel HE.out.size) (by omega) (by omega)).mono ?_
          rintro e w3 ⟨nv, rfl, ho, hb⟩
          have HR3 := Lib.hid (HR.out.below hb); have HO := Lib.hid ho
          have hz3 : wr.heap.size ≤ w3.heap.size := hb.size
          have hzr := HR.out.siz
          have hzb := HR.out.box.1
          generalize P.press l (t1, t2) s = r at *
          obtain ⟨⟨⟨nx, scr⟩, ⟨en, et⟩⟩, ok⟩ := r
          simp only at ho HO HN1 ⊢
          unfold editV
          obtain ⟨va, vc, rfl⟩ := ownK_form ho
          have HUB := Lib.hid (show ∀ k, (Value.slice ua es.length uc).ownBlock = some k → k ≠ w3.heap.size ∧ k ≠ w3.heap.size + 1 from fun k hk => by have := (World.ownsRow.lt HR3.out.row k hk).2; omega)
          clear ho hb k0 k1 k2 c0 hs1 hs2 HR HN
          cases ok
          · have HP := Lib.hid (P.replay_bad (j := j + 1) (by rw [HN1.out]; rfl) (by omega))
            obtain ⟨_, ⟨_, k3, k4, k7, k8⟩⟩ := HR3.out.rbx
            have hzz : w.heap.size + 1 < w3.heap.size := HR3.out.rbx.2.1
            have r0 : ((((w3.setCell ⟨w.heap.size + 1, 0, none⟩ (.slice none 0 0)).setCell ⟨w.heap.size + 1, 1, none⟩ (.string (S []))).alloc (.cells #[.slice va nx.length vc, .string (S scr)] 32)).alloc (.cells #[.int .i64 en, .string (S et)] 38)).cell? ⟨w.heap.size + 1, 0, none⟩ = some (.slice none 0 0) := by go_simp
            have r1 : ((((w3.setCell ⟨w.heap.size + 1, 0, none⟩ (.slice none 0 0)).setCell ⟨w.heap.size + 1, 1, none⟩ (.string (S []))).alloc (.cells #[.slice va nx.length vc, .string (S scr)] 32)).alloc (.cells #[.int .i64 en, .string (S et)] 38)).cell? ⟨w.heap.size + 1, 1, none⟩ = some (.string (S [])) := by go_simp
            go_wp2
            refine bodyPost_ret (v := .tuple #[.slice none 0 0, transV (.slice none 0 0) [], .bool false]) (by simp [transV, r0, r1, results, Tryz.results12, go_sem]) rfl ⟨.slice none 0 0, .slice none 0 0, by rw [HP.out]; rfl, by rw [HP.out]; exact World.ownsRow_nil _ _ _ _, by rw [HP.out]; exact World.ownsRow_nil _ _ _ _, ?_⟩
            exact ((((HR3.out.bel.setCell (by simp <;> omega) _).setCell (by simp <;> omega) _).alloc (by simp [World.setCell]; omega) _).alloc (by simp [World.setCell]; omega) _)
          · have hb4 : Below w3.heap.size w3 ((w3.alloc (.cells #[.slice va nx.length vc, .string (S scr)] 32)).alloc (.cells #[.int .i64 en, .string (S et)] 38)).drew := (((Below.refl _ _).alloc (Nat.le_refl _) _).alloc (by simp) _).drew
            have HBX := Lib.hid (show Box2E w3.heap.size (.slice va nx.length vc) scr ((w3.alloc (.cells #[.slice va nx.length vc, .string (S scr)] 32)).alloc (.cells #[.int .i64 en, .string (S et)] 38)).drew ∧ Box2E (w3.heap.size + 1) (.int .i64 en) et ((w3.alloc (.cells #[.slice va nx.length vc, .string (S scr)] 32)).alloc (.cells #[.int .i64 en, .string (S et)] 38)).drew from
              ⟨(Box2E.new (.slice va nx.length vc) scr 32 w3).below ((Below.refl _ _).alloc (Nat.le_refl _) _).drew, by have h := (Box2E.new (.int .i64 en) et 38 (w3.alloc (.cells #[.slice va nx.length vc, .string (S scr)] 32))).below (Below.refl _ _).drew; simpa using h⟩)
            have HR4 := Lib.hid (HR3.out.below hb4); have HO4 := Lib.hid (own_kept HO.out hb4 (Nat.le_refl _))
            have HNB := Lib.hid (show (Value.slice va nx.length vc).ownBlock ≠ some (w1.heap.size + 1) from fun e => by have := (World.ownsRow.lt HO.out _ e).1; omega)
            clear hb4 HR3 HO
            go_upto_region 10 with fail
            refine Left.region [6] (S := fun v => Box2E w3.heap.size (.slice va nx.length vc) scr v ∧ Box2E (w3.heap.size + 1) (.int .i64 en) et v) (by kernel_rfl) HBX.out (fun hS0 => ?_)
            generalize ((w3.alloc (.cells #[.slice va nx.length vc, .string (S scr)] 32)).alloc (.cells #[.int .i64 en, .string (S et)] 38)).drew = v0 at *
            refine Left.take (i := 0) (v := .slice ua es.length uc) rfl (by kernel_rfl) (by kernel_rfl) (by kernel_rfl) (by kernel_rfl) (fun _ _ _ h => h) (Or.inl ⟨by rfl, fun z hz => ?_⟩) hS0 ?_
            · obtain ⟨⟨z1, z2, z3⟩, z4, z5, z6⟩ := hz
              go_simp
            try simp only [qA, qB, Act.put, qD, qE, qF]
            refine Left.take (i := 1) (v := .agg #[.int .i64 en, .string (S et)]) rfl (by kernel_rfl) (by kernel_rfl) (by kernel_rfl) (by kernel_rfl) (fun _ _ _ h => h) (Or.inl ⟨by rfl, fun z hz => ?_⟩) hS0 ?_
            · obtain ⟨⟨z1, z2, z3⟩, z4, z5, z6⟩ := hz
              go_simp
            try simp only [qA, qB, qC, Act.put, qD, qE, qF]
            refine Left.take (i := 4) (v := .agg #[.slice va nx.length vc, .string (S scr)]) rfl (by kernel_rfl) (by kernel_rfl) (by kernel_rfl) (by kernel_rfl) (fun _ _ _ h => h) (Or.inl ⟨by rfl, fun z hz => ?_⟩) hS0 ?_
            · obtain ⟨⟨z1, z2, z3⟩, z4, z5, z6⟩ := hz
              go_simp
            try simp only [qA, qB, qC, Act.put, qD, qE, qF]
            refine Left.ready (rs := [2]) (by kernel_rfl) (by simp) ?_
            refine Nexts.cons rfl (fun K hK => ?_) Nexts.nil
            go_simp
            have hba := (Below.refl v0.heap.size v0).alloc (Nat.le_refl _) (.cells #[.int .i64 en, .string (S et)] 38)
            have hna0 : (v0.alloc (.cells #[.int .i64 en, .string (S et)] 38)).cell? ⟨v0.heap.size, 0, none⟩ = some (.int .i64 en) := by go_simp
            have hna1 : (v0.alloc (.cells #[.int .i64 en, .string (S et)] 38)).cell? ⟨v0.heap.size, 1, none⟩ = some (.string (S et)) := by go_simp
            refine on_held hK (by decide) ⟨HBX.out.1.below hba, HBX.out.2.below hba⟩ (fun hS1 => ?_)
            clear hK K hS0
            have HRA := Lib.hid (HR4.out.below hba).row
            have hza : w1.heap.size ≤ (v0.alloc (.cells #[.int .i64 en, .string (S et)] 38)).heap.size := Nat.le_trans HR4.out.siz hba.size
            try simp only [qA, qB, qC, Act.put, qD, qE, qF]
            refine Left.ready (rs := [3]) (by kernel_rfl) (by simp) ?_
            refine Nexts.cons rfl (fun K hK => ?_) Nexts.nil
            refine step_append_lies _ rfl _ _ 30 rfl w1.heap.size 38 i0 (.agg #[.int .i64 0, .string ⟨#[]⟩]) 2 24 Tryz.underlying30 hi hy0 hy1 hy2 rfl (by decide) (.slice ua es.length uc) es.length (atomVals es) rfl HRA.out ⟨v0.heap.size, 0, none⟩ 1 1 [.int .i64 en, .string (S et)] rfl rfl ?_ ?_ (by decide) (by have := HSM.out.1; unfold maxLen; omega) (by have := HSM.out.1; omega) hza _ rfl ?_
            · intro k y hy
              match k, hy with
              | 0, hy => injection hy with hy; subst hy; rw [add0]; exact hna0
              | 1, hy => injection hy with hy; subst hy; exact hna1
            · intro y hy
              simp only [List.mem_cons, List.not_mem_nil, or_false] at hy
              rcases hy with rfl | rfl <;> rfl
            intro g3 cap3 z hown hgr hat hlt3
            have HPU := Lib.hid (HR4.out.push (scr := scr) (x := (en, et)) (by omega) (by omega) HO4.out HNB.out (by omega) hown hgr hat)
            have hcz := chg_grown hgr
            have hub : ∀ k, (Value.slice ua es.length uc).ownBlock = some k → k ≠ w3.heap.size ∧ k ≠ w3.heap.size + 1 := HUB.out
            have hsz : Box2E w3.heap.size (.slice va nx.length vc) scr z ∧ Box2E (w3.heap.size + 1) (.int .i64 en) et z := ⟨(hS1.1).stand hcz (fun e => (hub _ e).1 rfl), (hS1.2).stand hcz (fun e => (hub _ e).2 rfl)⟩
            obtain ⟨kz, k5, k6, k7, k8⟩ := (HR4.out.below hba).box.stand hcz (fun e => HR4.out.n1 e)
            refine on_held hK (by decide) hsz (fun hS2 => ?_)
            clear hK K hown hgr hat hS1 hba hna0 hna1 HRA
            try simp only [qA, qB, qC, Act.put, qD, qE, qF]
            refine Left.take (i := 5) (v := .slice (some ⟨g3, 0, none⟩) (es.length + 1) cap3) rfl (by kernel_rfl) (by kernel_rfl) (by kernel_rfl) (by kernel_rfl) (fun _ _ _ h => h) (Or.inl ⟨by rfl, fun z hz => ?_⟩) hS2 ?_
            · obtain ⟨⟨z1, z2, z3⟩, z4, z5, z6⟩ := hz
              go_simp
            try simp only [qA, qB, qC, Act.put, qD, qE, qF]
            refine Left.ready (rs := [6]) (by kernel_rfl) (by simp) ?_
            refine Nexts.cons rfl (fun K hK => ?_) Nexts.nil
            go_simp
            refine on_last hK (by decide) ?_
            clear hK K
            try simp only [qA, qB, qC, Act.put, qD, qE, qF]
            refine Left.done (by kernel_rfl) ?_ _
            clear hS2 hsz hcz k5 k6 k7 k8
            go_wp2
            go_roundw
            case rel => exact ⟨j + 1, es ++ [(en, et)], (nx, scr), .slice va nx.length vc, by omega, by go_num, by rw [HN1.out]; rfl, HPU.out⟩
            case measure => simp [intOf]; omega
        · have hjl : j = st.length := by omega
          subst hjl
          have HP := Lib.hid (P.replay_all HD.out HL.out HN.out)
          have HR4 := Lib.hid (HR.out.below (Below.refl _ _).drew)
          have hu1 : (Value.slice ua es.length uc).ownBlock ≠ some (w.heap.size + 1) := fun e => by have := (World.ownsRow.lt HR.out.row _ e).1; omega
          have hu2 : (Value.slice ta t.1.length tc).ownBlock ≠ some (w.heap.size + 1) := fun e => by have := (World.ownsRow.lt HR.out.str _ e).1; omega
          have HU1 := Lib.hid hu1; have HU2 := Lib.hid hu2
          clear HN HR hu1 hu2
          go_upto_region 12 with fail
          refine wp_region_held_drew (S := TBx (w1.heap.size + 1) (.slice ta t.1.length tc) t.2) (by kernel_rfl) HR4.out.box (fun hS0 => ?_)
          generalize wr.drew = v0 at *
          refine wpAnyH_take (i := 0) (v := .slice ua es.length uc) rfl (by kernel_rfl) (by kernel_rfl) (by kernel_rfl) (fun _ _ _ h => h) (Or.inl ⟨by rfl, fun z hz => ?_⟩) hS0 ?_
          · obtain ⟨z1, z2, z3, z4, z5⟩ := hz
            go_simp
          try simp only [qA, qB, Act.put, qD, qE, qF]
          refine wpAnyH_take (i := 1) (v := .agg #[.slice ta t.1.length tc, .string (S t.2)]) rfl (by kernel_rfl) (by kernel_rfl) (by kernel_rfl) (fun _ _ _ h => h) (Or.inl ⟨by rfl, fun z hz => ?_⟩) hS0 ?_
          · obtain ⟨z1, z2, z3, z4, z5⟩ := hz
            go_simp
          try simp only [qA, qB, qC, Act.put, qD, qE, qF]
          refine wpAnyH_take (i := 2) (v := .slice ua es.length uc) rfl (by kernel_rfl) (by kernel_rfl) (by kernel_rfl) (fun _ _ _ h => h) (Or.inl ⟨by rfl, fun z hz => ?_⟩) hS0 ?_
          · obtain ⟨z1, z2, z3, z4, z5⟩ := hz
            go_simp
          try simp only [qA, qB, qC, Act.put, qD, qE, qF]
          obtain ⟨_, ⟨kz, k3, k4, k7, k8⟩⟩ := HR4.out.rbx
          have hset : Chg (fun k => k = w.heap.size + 1) v0 ((v0.setCell ⟨w.heap.size + 1, 0, none⟩ (.slice ta t.1.length tc)).setCell ⟨w.heap.size + 1, 1, none⟩ (.string (S t.2))) := ((Chg.refl (fun k => k = w.heap.size + 1) v0).setCell (p := ⟨w.heap.size + 1, 0, none⟩) rfl _).setCell (p := ⟨w.heap.size + 1, 1, none⟩) rfl _
          have r0 : ((v0.setCell ⟨w.heap.size + 1, 0, none⟩ (.slice ta t.1.length tc)).setCell ⟨w.heap.size + 1, 1, none⟩ (.string (S t.2))).cell? ⟨w.heap.size + 1, 0, none⟩ = some (.slice ta t.1.length tc) := by go_simp
          have r1 : ((v0.setCell ⟨w.heap.size + 1, 0, none⟩ (.slice ta t.1.length tc)).setCell ⟨w.heap.size + 1, 1, none⟩ (.string (S t.2))).cell? ⟨w.heap.size + 1, 1, none⟩ = some (.string (S t.2)) := by go_simp
          refine wpAnyH_ready (rs := [3]) (by kernel_rfl) (by simp) ?_
          refine AllReadyH.cons rfl (fun K hK => ?_) AllReadyH.nil
          go_simp
          refine hK.out _ _ (hS0.stand hset (by omega)) (fun hS1 => ?_)
          clear hK K
          try simp only [qA, qB, qC, Act.put, qD, qE, qF]
          refine wpAnyH_take (i := 4) (v := .bool true) rfl (by kernel_rfl) (by kernel_rfl) (by kernel_rfl) (fun _ _ _ h => h) (Or.inl ⟨by rfl, fun z hz => ?_⟩) hS1 ?_
          · obtain ⟨z1, z2, z3, z4, z5⟩ := hz
            go_simp
          try simp only [qA, qB, qC, Act.put, qD, qE, qF]
          refine wpAnyH_done (by kernel_rfl) ?_ _
          have HROW := Lib.hid (own_base (owns_stand HR4.out.row hset (fun k hk e => HU1.out (by rw [hk, e]))) (show w.heap.size ≤ w1.heap.size by omega))
          have HSTR := Lib.hid (own_base (owns_stand HR4.out.str hset (fun k hk e => HU2.out (by rw [hk, e]))) (show w.heap.size ≤ w1.heap.size by omega))
          have HBL := Lib.hid (Chg.belowB HR4.out.bel hset HR4.out.bel.size (fun k hk => by have h9 : k = w.heap.size + 1 := hk; omega))
          clear hS0 hS1 hset
          go_wp2
          refine bodyPost_ret (v := .tuple #[.slice ua es.length uc, transV (.slice ta t.1.length tc) t.2, .bool true]) (by simp [transV, r0, r1, results, Tryz.results12, go_sem]) rfl ⟨.slice ua es.length uc, .slice ta t.1.length tc, by rw [HP.out], ?_, ?_, HBL.out⟩
          · rw [HP.out]; exact HROW.out
          · rw [HP.out]; exact HSTR.out
end Go.Proofs.YtmlklnimoknojaaGreatDoor
