/- Walks: an entry put into a dictionary (program). Plain: when it may be. -/
import Derived.Test.YtonhkglilnplbaaGreatDoorDelA
import Derived.Test.YtonhkglilnplbaaGreatDoorSortH
import Derived.Test.YtonhkglilnplbaaGreatDoorPut1
set_option linter.all false
namespace Go.Proofs.YtonhkglilnplbaaGreatDoor
namespace P
/-- an entry may be put in -/
def insOk (e : Ent) (l : Dic) : Bool := dic l && (entry e && decide ((putF e false l).length ≤ 40))
theorem dic_len {l : Dic} (h : dic l = true) : l.length ≤ 40 := by
  unfold dic at h
  simp only [Bool.and_eq_true, decide_eq_true_eq] at h
  exact h.1
theorem put_dic {e : Ent} {l : Dic} (hl : dic l = true) (he : entry e = true) : dic (putF e false l) = decide ((putF e false l).length ≤ 40) := by
  unfold dic at hl
  simp only [Bool.and_eq_true] at hl
  have h1 := (rising_pair _).2 (putF_rising e l ((rising_pair l).1 hl.2.2))
  unfold dic
  rw [putF_entry he hl.2.1, h1]
  simp
theorem put_ne {e : Ent} {l : Dic} (hl : dic l = true) : (del e.1 l ++ [e]).Pairwise fun a b => a.1 ≠ b.1 := by
  rw [List.pairwise_append]
  refine ⟨List.Pairwise.filter _ ((pair_of_dic hl).imp fun {a b} hab he => ?_), by simp, fun a ha b hb => ?_⟩
  · unfold lt at hab; rw [he, cmp_refl] at hab; exact absurd hab (by decide)
  · rw [List.mem_singleton] at hb; subst hb; exact (del_mem.1 ha).2
theorem put_len (e : Ent) (l : Dic) : (putF e false l).length ≤ l.length + 1 := by
  have h1 := putFold_eq e l
  have h2 := putFold_len e l
  rw [← h1]
  cases h : (putFold e l).2 with
  | true => rw [h] at h2; simpa using h2
  | false => rw [h] at h2; simpa using h2
end P
open Go Go.RowKit
set_option maxHeartbeats 2000000
set_option maxRecDepth 100000
theorem small_put {e : P.Ent} {l : P.Dic} (h : Small l) (h0 : l.length < 2 ^ 20) (h1 : e.1.length ≤ 2 ^ 20) (h2 : e.2.length ≤ 2 ^ 30) : Small (P.putF e false l) := by
  refine ⟨by have := P.put_len e l; omega, fun x hx => ?_, fun x hx => ?_⟩
  · rcases (P.putF_mem e l x).1 hx with rfl | hx
    · exact h1
    · exact h.outs x (P.del_sub hx)
  · rcases (P.putF_mem e l x).1 hx with rfl | hx
    · exact h2
    · exact h.texts x (P.del_sub hx)
/-- a result of a dictionary's function: the row, the answer -/
def DkPost (ok : Bool) (l : P.Dic) (w : World) (e : Ending) (w' : World) : Prop :=
  ∃ u, e = .returned (.tuple #[.agg #[u], .bool ok]) ∧ Ents w' (Bet w.heap.size w'.heap.size) u (P.kept ok l) ∧ Below w.heap.size w w'
abbrev InsPost (e : P.Ent) (l : P.Dic) := DkPost (P.insOk e l) (P.putF e false l)
/-- the boxes of Insert -/
def IBox (W : Nat) (dv x : Value) (t : Str) (v : World) : Prop :=
  v.cell? ⟨W, 0, none⟩ = some dv ∧ v.cell? ⟨W + 1, 0, none⟩ = some x ∧ v.cell? ⟨W + 1, 1, none⟩ = some (.string (S t)) ∧ v.cell? ⟨W + 2, 0, none⟩ = some (.slice none 0 0) ∧ v.frozen? ⟨W + 2, 0, none⟩ = false ∧ W + 2 < v.heap.size
theorem IBox.below {W : Nat} {dv x : Value} {t : Str} {v v' : World} (h : IBox W dv x t v) (hb : Below v.heap.size v v') : IBox W dv x t v' := by
  obtain ⟨a, b, b1, c, d, e⟩ := h
  exact ⟨(hb.cell (p := ⟨W, 0, none⟩) (by show W < _; omega)).trans a, (hb.cell (p := ⟨W + 1, 0, none⟩) (by show W + 1 < _; omega)).trans b, (hb.cell (p := ⟨W + 1, 1, none⟩) (by show W + 1 < _; omega)).trans b1, (hb.cell (p := ⟨W + 2, 0, none⟩) e).trans c, (hb.frozen (p := ⟨W + 2, 0, none⟩) e).trans d, Nat.lt_of_lt_of_le e hb.size⟩
theorem IBox.new (dv x : Value) (t : Str) (w : World) : IBox w.heap.size dv x t (((w.alloc (.cells #[dv] 32)).alloc (.cells #[x, .string (S t)] 36)).alloc (.cells #[.slice none 0 0] 32)) := by
  refine ⟨?_, ?_, ?_, ?_, ?_, ?_⟩ <;> go_simp
/-- the row behind the result's store -/
theorem ents_done {W : Nat} {v : World} {F : Blk} {u x : Value} {l : P.Dic} (k : Nat) (h : Ents v F u l) (hF : ∀ b, F b → W ≤ b ∧ b < v.heap.size ∧ b ≠ k) : Ents (v.setCell ⟨k, 0, none⟩ x) (Bet W (v.setCell ⟨k, 0, none⟩ x).heap.size) u l := by
  refine (h.stand (X := fun b => b = k) entE_ok ((Chg.refl (fun b => b = k) v).setCell (p := ⟨k, 0, none⟩) rfl _) ?_).wide ?_ ?_
  · intro b hb e; exact (hF b hb).2.2 e
  · intro b hb; have := hF b hb; exact ⟨this.1, by simp [World.setCell]; omega⟩
  · intro b hb; exact hb.2
theorem ins_step (x : Value) (eo o : List Int) (t : Str) (C : Nat) (ov : Value) (w : World) (hx : IntR w x eo) (hc : w.cell? ⟨C, 0, none⟩ = some ov) (ho : IntR w ov o) :
    Calls Tryz.prog 95 #[.agg #[x, .string (S t)], .pointer (some ⟨C, 0, none⟩)] w fun e w' => e = .returned (.bool (!decide (eo = o))) ∧ Below w.heap.size w w' := by
  have hb0 := (Below.refl w.heap.size w).alloc (Nat.le_refl _) (.cells #[x, .string (S t)] 36)
  have HX := Lib.hid (hx.below hb0); have HO := Lib.hid (ho.below hb0)
  have hc' := (hb0.cell (p := ⟨C, 0, none⟩) (World.block_lt_of_cell? w _ hc)).trans hc
  have HB0 := Lib.hid hb0
  obtain ⟨xd, xc, rfl, _, _⟩ := hx
  obtain ⟨od, oc, rfl, _, _⟩ := ho
  clear hb0 hc
  go_enter Tryz.func95, Tryz.ntmps95
  go_wp2_with fail
  refine (equalInts _ _ eo o _ HX.out HO.out).mono ?_
  rintro e w1 ⟨rfl, hb⟩
  have HB1 := Lib.hid (HB0.out.trans (hb.mono (by simp)))
  clear hb
  cases hok : decide (eo = o)
  · have HK := Lib.hid hok; clear hok
    go_wp2
    go_ret
    exact ⟨ret_bool (by rw [HK.out]; rfl), HB1.out⟩
  · have HK := Lib.hid hok; clear hok
    go_wp2
    go_ret
    exact ⟨ret_bool (by rw [HK.out]; rfl), HB1.out⟩
theorem filterIns (u ov : Value) (l : P.Dic) (o : List Int) (C : Nat) (w : World) (hu : EntR w u l) (hl : l.length ≤ 2 ^ 20) (hc : w.cell? ⟨C, 0, none⟩ = some ov) (ho : IntR w ov o) :
    Calls Tryz.prog 94 #[u, .func (Fn.func 95) #[] #[.pointer (some ⟨C, 0, none⟩)]] w
      fun e w' => (∃ u' xs, e = .returned u' ∧ Acc 36 2 (refE w) w.heap.size w' u' (P.del o l) xs) ∧ Below w.heap.size w w' := by
  obtain ⟨i0, hi, hz0, hz1, hz2⟩ := info_parts info_ent
  have HU := Lib.hid hu; have HO := Lib.hid ho
  have HC := Lib.hid hc
  have HCL := Lib.hid (World.block_lt_of_cell? w _ hc)
  have hB0 : Below w.heap.size w (w.alloc (.cells #[] 36)) := (Below.refl w.heap.size w).alloc (Nat.le_refl _) _
  have HB0 := Lib.hid hB0; clear hB0
  have HA0 := Lib.hid (show Acc 36 2 (refE w) w.heap.size (w.alloc (.cells #[] 36)) (.slice (some ⟨w.heap.size, 0, none⟩) 0 0) [] [] from
    Acc.nil (by have h := World.ownsRow_lit (base := w.heap.size) (e := 36) (size := 2) w #[] 0 (Nat.le_refl _) (Nat.zero_le _) (by simp); simpa using h) (by simp))
  obtain ⟨ad, cap, rfl, _, _⟩ := hu
  clear hc ho
  go_enter Tryz.func94, Tryz.ntmps94
  go_wp2_with fail
  go_loopw [5, 11] (fun s i wr => ∃ (j : Nat) (xs : List Value), j ≤ l.length ∧ i = .int .i64 j ∧ Acc 36 2 (refE w) w.heap.size wr s (P.del o (l.take j)) xs ∧ Below w.heap.size w wr) (fun _ i _ => l.length - (intOf i).toNat)
  case atStart => exact ⟨0, [], Nat.zero_le _, rfl, HA0.out, HB0.out⟩
  case round =>
    obtain ⟨j, xs, hj, rfl, hacc, hb⟩ := hrel
    clear HA0 HB0
    have HBZ := Lib.hid hb.size
    have HA := Lib.hid hacc; have HB := Lib.hid hb
    have hdl : (P.del o (l.take j)).length ≤ j := Nat.le_trans (P.del_len _ _) (by rw [List.length_take]; omega)
    obtain ⟨uad, ucap, rfl⟩ := hacc.form
    clear hacc
    by_cases hlt : j < l.length
    · obtain ⟨g, p, hga, hgs, x, c0, c1, hx⟩ := HU.out.at j hlt
      have HXW := Lib.hid hx
      have c0' := (hb.cell (p := ⟨g, _, none⟩) hgs).trans c0
      have c1' := (hb.cell (p := ⟨g, _, none⟩) hgs).trans c1
      have HEN := Lib.hid (show P.del o (l.take (j + 1)) = if l[j].1 = o then P.del o (l.take j) else P.del o (l.take j) ++ [l[j]] by rw [take_snoc l j hlt, P.del_snoc])
      have hba := (Below.refl wr.heap.size wr).alloc (Nat.le_refl _) (.cells #[x, .string (S l[j].2)] 36)
      have HBA := Lib.hid hba
      have HX := Lib.hid ((hx.below hb).below hba)
      have HO2 := Lib.hid ((HO.out.below hb).below hba)
      have HC2 := Lib.hid ((hba.cell (p := ⟨C, 0, none⟩) (Nat.lt_of_lt_of_le HCL.out hb.size)).trans ((hb.cell (p := ⟨C, 0, none⟩) HCL.out).trans HC.out))
      obtain ⟨xd, xc, rfl, _, _⟩ := hx
      subst hga
      generalize l[j] = en at *
      obtain ⟨eo, et⟩ := en
      simp only at HX HXW HBA HEN c1' c1 hba HC2 HO2
      generalize P.del o (l.take j) = dl at *
      have i1 : (j : Int) < (l.length : Int) := by omega
      clear hb hba c0 c1
      go_wp2_with fail
      refine (ins_step _ eo o et C ov _ HX.out HC2.out HO2.out).mono ?_
      rintro e v1 ⟨rfl, hb1⟩
      have hzz : wr.heap.size + 1 ≤ v1.heap.size := by have := hb1.size; simp at this; omega
      have HB1 := Lib.hid (show Below wr.heap.size wr v1 from HBA.out.trans (hb1.mono (by simp)))
      have e0 := (hb1.cell (p := ⟨wr.heap.size, 0, none⟩) (by simp)).trans (show (wr.alloc (.cells #[.slice xd eo.length xc, .string (S et)] 36)).cell? ⟨wr.heap.size, 0, none⟩ = some (.slice xd eo.length xc) by go_simp)
      have e1 := (hb1.cell (p := ⟨wr.heap.size, 1, none⟩) (by simp)).trans (show (wr.alloc (.cells #[.slice xd eo.length xc, .string (S et)] 36)).cell? ⟨wr.heap.size, 1, none⟩ = some (.string (S et)) by go_simp)
      have HZ1 := Lib.hid hzz
      clear hb1 hzz HX HC2 HO2 HBA
      by_cases heo : eo = o
      · have HEN2 := Lib.hid (HEN.out.trans (if_pos heo))
        rw [decide_eq_true heo]
        clear heo HEN e0 e1
        go_wp2
        go_roundw
        case rel => exact ⟨j + 1, xs, by omega, by go_num, by rw [HEN2.out]; exact HA.out.keep (refE_ok w) HB1.out, HB.out.trans (HB1.out.mono HBZ.out)⟩
        case measure => simp [intOf]; omega
      · have HEN2 := Lib.hid (HEN.out.trans (if_neg heo))
        rw [decide_eq_false heo]
        clear heo HEN
        have HA2 := Lib.hid ((HA.out.keep (refE_ok w) HB1.out).keep (refE_ok w) ((Below.refl v1.heap.size v1).alloc (Nat.le_refl _) (.cells #[.slice xd eo.length xc, .string (S et)] 36)))
        have HOW := Lib.hid HA2.out.owns
        have HWV := Lib.hid (Nat.le_trans HBZ.out HB1.out.size)
        go_wp2_with (at_builtin; refine wpList_append_lies _ rfl _ _ 30 rfl w.heap.size 36 i0 (.agg #[.slice none 0 0, .string ⟨#[]⟩]) 2 40 Tryz.underlying30 hi hz0 hz1 hz2 rfl (by decide) (.slice uad dl.length ucap) dl.length xs rfl HOW.out ⟨v1.heap.size, 0, none⟩ 1 1 [.slice xd eo.length xc, .string (S et)] rfl rfl ?_ ?_ (Nat.zero_lt_one) ?_ ?_ ?_ _ rfl ?_)
        · intro i y hy
          match i, hy with
          | 0, hy => injection hy with hy; subst hy; rw [add0]; go_simp
          | 1, hy => injection hy with hy; subst hy; rw [add0]; go_simp
        · intro y hy
          simp only [List.mem_cons, List.not_mem_nil, or_false] at hy
          rcases hy with rfl | rfl <;> rfl
        · unfold maxLen; omega
        · omega
        · have h1 := HWV.out; simp; omega
        intro g1 cap1 v3 hown hgr hat hlt3
        have HB3 := Lib.hid (show Below w.heap.size (v1.alloc (.cells #[.slice xd eo.length xc, .string (S et)] 36)) v3 from
          (Below.refl _ _).grown hgr (by have h1 := HWV.out; simp; omega) (fun k hk => (World.ownsRow.lt HA2.out.owns k hk).1))
        have HAC := Lib.hid (HA.out.snoc (a := (eo, et)) (cs := [.slice xd eo.length xc, .string (S et)]) (v1 := v1) (v2 := v1.alloc (.cells #[.slice xd eo.length xc, .string (S et)] 36)) (v3 := v3) (g := g1) (cap := cap1) (F := fun _ => False) (refE_ok w) HB1.out (fun b hb => hb.elim) ⟨_, rfl, HXW.out⟩ rfl ((Below.refl _ _).alloc (Nat.le_refl _) _) hown hgr (by simpa using hat))
        have HBW := Lib.hid (((HB.out.trans (HB1.out.mono HBZ.out)).trans ((Below.refl w.heap.size v1).alloc HWV.out _)).trans HB3.out)
        clear hown hgr hat hlt3 e0 e1
        go_wp2
        go_roundw
        case rel => exact ⟨j + 1, _, by omega, by go_num, by rw [HEN2.out]; exact HAC.out, HBW.out⟩
        case measure => simp [intOf]; omega
    · have HT := Lib.hid (show l.take j = l from List.take_of_length_le (by omega))
      clear hb
      go_wp2
      go_ret
      refine ⟨⟨.slice uad (P.del o (l.take j)).length ucap, xs, rfl, ?_⟩, HB.out⟩
      have h := HA.out
      rw [HT.out] at h ⊢
      exact h
theorem impl_insert (dv x : Value) (l : P.Dic) (o : List Int) (t : Str) (w : World) (hu : EntR w dv l) (ho : IntR w x o) (hs : Small l) (h1 : o.length ≤ 2 ^ 20) (h2 : t.length ≤ 2 ^ 30) (hE : Env w) :
    Calls Tryz.prog 20 #[.agg #[dv], .agg #[x, .string (S t)]] w (InsPost (o, t) l w) := by
  obtain ⟨i0, hi, hz0, hz1, hz2⟩ := info_parts info_ent
  have hb0 : Below w.heap.size w (((w.alloc (.cells #[dv] 32)).alloc (.cells #[x, .string (S t)] 36)).alloc (.cells #[.slice none 0 0] 32)) := (((Below.refl w.heap.size w).alloc (Nat.le_refl _) _).alloc (by simp) _).alloc (by simp; omega) _
  have HU := Lib.hid (hu.below hb0); have HO := Lib.hid (ho.below hb0); have HE := Lib.hid (hE.below hb0 hE.size)
  have HB0 := Lib.hid hb0; clear hb0 hE
  have HN := Lib.hid (IBox.new dv x t w)
  have HSM := Lib.hid hs; clear hs
  have HL1 := Lib.hid h1; have HL2 := Lib.hid h2; clear h1 h2
  obtain ⟨ad, cap, rfl, _, _⟩ := hu
  obtain ⟨od, oc, rfl, _, _⟩ := ho
  go_enter Tryz.func20, Tryz.ntmps20
  go_wp2_with fail
  refine (isValidDictionary _ l _ HU.out HSM.out.texts HE.out).mono ?_
  rintro e w1 ⟨rfl, hb⟩
  have HU1 := Lib.hid (HU.out.below hb); have HO1 := Lib.hid (HO.out.below hb); have HE1 := Lib.hid (HE.out.below hb HE.out.size)
  have HN1 := Lib.hid (HN.out.below hb)
  have HB1 := Lib.hid (HB0.out.trans (hb.mono (by simp; omega)))
  clear hb HU HB0 HN HO HE
  cases hd : P.dic l
  · have HD := Lib.hid (show P.insOk (o, t) l = false by unfold P.insOk; rw [hd]; rfl); clear hd
    obtain ⟨_, _, _, b0, f0, _⟩ := HN1.out
    go_wp2
    refine bodyPost_ret (v := .tuple #[.agg #[.slice none 0 0], .bool false]) (by simp [results, Tryz.results20, go_sem, b0]) rfl ⟨_, by rw [HD.out], ?_, ?_⟩
    · rw [HD.out]; exact RowO.nil _ _
    · exact HB1.out.setCell (by simp; omega) _
  · have HDC := Lib.hid hd; clear hd
    have HL0 := Lib.hid (show l.length < 2 ^ 20 by have := P.dic_len HDC.out; omega)
    have HSP := Lib.hid (small_put (e := (o, t)) HSM.out HL0.out HL1.out HL2.out)
    obtain ⟨a0, a1, a2, _⟩ := HN1.out
    go_wp2_with fail
    refine (isValidEntry _ o t _ HO1.out HL2.out HE1.out).mono ?_
    rintro e w2 ⟨rfl, hb⟩
    have HU2 := Lib.hid (HU1.out.below hb); have HO2 := Lib.hid (HO1.out.below hb); have HE2 := Lib.hid (HE1.out.below hb HE1.out.size)
    have HN2 := Lib.hid (HN1.out.below hb)
    have HB2 := Lib.hid (HB1.out.trans (hb.mono HB1.out.size))
    clear hb HU1 HB1 HN1 HO1 HE1 a0 a1 a2
    cases he : P.entry (o, t)
    · have HD := Lib.hid (show P.insOk (o, t) l = false by unfold P.insOk; rw [he, Bool.false_and, Bool.and_false]); clear he
      obtain ⟨_, _, _, b0, f0, _⟩ := HN2.out
      go_wp2
      refine bodyPost_ret (v := .tuple #[.agg #[.slice none 0 0], .bool false]) (by simp [results, Tryz.results20, go_sem, b0]) rfl ⟨_, by rw [HD.out], ?_, ?_⟩
      · rw [HD.out]; exact RowO.nil _ _
      · exact HB2.out.setCell (by simp; omega) _
    · have HEN := Lib.hid he; clear he
      obtain ⟨a0, a1, a2, _⟩ := HN2.out
      have HA1 := Lib.hid a1; have HA2 := Lib.hid a2
      clear a1 a2
      go_wp2_with fail
      refine (filterIns _ (.slice od o.length oc) l o _ _ HU2.out HSM.out.len HA1.out HO2.out).mono ?_
      rintro e w3 ⟨⟨u3, xs, rfl, hacc⟩, hb⟩
      have HZ2 := Lib.hid HN2.out.2.2.2.2.2
      have HN3 := Lib.hid (HN2.out.below hb)
      have HB3 := Lib.hid (HB2.out.trans (hb.mono HB2.out.size))
      have HB23 := Lib.hid hb
      have HE3 := Lib.hid (HE2.out.below hb HE2.out.size)
      have HEB := Lib.hid HE2.out.size
      have hdl := P.del_len o l
      have HDL := Lib.hid hdl
      obtain ⟨ud, uc, rfl⟩ := hacc.form
      have HA := Lib.hid hacc
      clear hb HN2 HU2 HB2 a0 HA1 HA2 HE2 hacc hdl
      obtain ⟨a0, a1, a2, _⟩ := HN3.out
      have ha2 := (HA.out.keep (refE_ok w2) ((Below.refl w3.heap.size w3).alloc (Nat.le_refl _) (.cells #[.slice od o.length oc, .string (S t)] 36)))
      have HOW := Lib.hid ha2.owns
      have HAK := Lib.hid ha2
      clear ha2
      have HL0' := HL0.out
      have HDL' := HDL.out
      go_wp2_with (at_builtin; refine wpList_append_lies _ rfl _ _ 30 rfl w2.heap.size 36 i0 (.agg #[.slice none 0 0, .string ⟨#[]⟩]) 2 40 Tryz.underlying30 hi hz0 hz1 hz2 rfl (by decide) (.slice ud (P.del o l).length uc) (P.del o l).length xs rfl HOW.out ⟨w3.heap.size, 0, none⟩ 1 1 [.slice od o.length oc, .string (S t)] rfl rfl ?_ ?_ (Nat.zero_lt_one) ?_ ?_ ?_ _ rfl ?_)
      · intro i y hy
        match i, hy with
        | 0, hy => injection hy with hy; subst hy; rw [add0]; go_simp
        | 1, hy => injection hy with hy; subst hy; rw [add0]; go_simp
      · intro y hy
        simp only [List.mem_cons, List.not_mem_nil, or_false] at hy
        rcases hy with rfl | rfl <;> rfl
      · unfold maxLen; omega
      · omega
      · have h1 := HB23.out.size; simp; omega
      intro g1 cap1 v3 hown hgr hat hlt3
      have HB4 := Lib.hid (show Below w2.heap.size (w3.alloc (.cells #[.slice od o.length oc, .string (S t)] 36)) v3 from
        (Below.refl _ _).grown hgr (by have h1 := HB23.out.size; simp; omega) (fun k hk => (World.ownsRow.lt HAK.out.owns k hk).1))
      have hac := HA.out.snoc (a := (o, t)) (cs := [.slice od o.length oc, .string (S t)]) (v1 := w3) (v2 := w3.alloc (.cells #[.slice od o.length oc, .string (S t)] 36)) (v3 := v3) (g := g1) (cap := cap1) (F := fun _ => False) (refE_ok w2) (Below.refl _ _) (fun b hb => hb.elim) ⟨_, rfl, HO2.out⟩ rfl ((Below.refl _ _).alloc (Nat.le_refl _) _) hown hgr (by simpa using hat)
      have hbv := ((HB23.out.trans ((Below.refl w2.heap.size w3).alloc HB23.out.size _)).trans HB4.out)
      have hrd := ref_read (hac.row (by rw [List.length_append]; simp; omega)) hbv
      have hlen : (P.del o l ++ [(o, t)]).length = (P.del o l).length + 1 := by simp
      have HRD := Lib.hid hrd
      have HN4 := Lib.hid (show IBox w.heap.size (.slice ad l.length cap) (.slice od o.length oc) t v3 from by
        have h := HN3.out
        have hb := ((Below.refl w3.heap.size w3).alloc (Nat.le_refl _) (.cells #[.slice od o.length oc, .string (S t)] 36))
        have h2 := h.below hb
        obtain ⟨q0, q1, q2, q3, q4, q5⟩ := h2
        have hz := HZ2.out
        exact ⟨(HB4.out.cell (p := ⟨w.heap.size, 0, none⟩) (by show w.heap.size < w2.heap.size; omega)).trans q0, (HB4.out.cell (p := ⟨w.heap.size + 1, 0, none⟩) (by show w.heap.size + 1 < w2.heap.size; omega)).trans q1, (HB4.out.cell (p := ⟨w.heap.size + 1, 1, none⟩) (by show w.heap.size + 1 < w2.heap.size; omega)).trans q2, (HB4.out.cell (p := ⟨w.heap.size + 2, 0, none⟩) hz).trans q3, (HB4.out.frozen (p := ⟨w.heap.size + 2, 0, none⟩) hz).trans q4, Nat.lt_of_lt_of_le q5 HB4.out.size⟩)
      have HBV := Lib.hid hbv
      have HB5 := Lib.hid (HB3.out.trans (((Below.refl w.heap.size w3).alloc HB3.out.size (.cells #[.slice od o.length oc, .string (S t)] 36)).trans (HB4.out.mono (by have := HZ2.out; omega))))
      have HE4 := Lib.hid (HE3.out.below (((Below.refl w2.heap.size w3).alloc HB23.out.size (.cells #[.slice od o.length oc, .string (S t)] 36)).trans HB4.out) HEB.out)
      clear hown hgr hat hlt3 hac hbv hrd hlen HN3 HA HOW HAK HB4 HB3 a0 a1 a2 HE3 HO2
      go_wp2_with fail
      refine (dictionaryOf_as _ (P.del o l ++ [(o, t)]) (P.putF (o, t) false l) _ (by have := HRD.out; simpa using this) (by rw [List.length_append]; simp; omega) ?_ ?_ ?_ (P.put_ne (e := (o, t)) HDC.out)).mono ?_
      · intro e he
        rcases List.mem_append.1 he with he | he
        · exact HSM.out.outs e (P.del_sub he)
        · rw [List.mem_singleton] at he; subst he; exact HL1.out
      · exact P.putF_rising _ _ (P.pair_of_dic HDC.out)
      · intro z
        rw [P.putF_mem, List.mem_append, List.mem_singleton]
        exact Or.comm
      rintro e w4 ⟨u4, rfl, hI, hb⟩
      have HN5 := Lib.hid (HN4.out.below hb)
      have hN4 : w.heap.size + 2 < v3.heap.size := HN4.out.2.2.2.2.2
      have HB6 := Lib.hid (HB5.out.trans (hb.mono HB5.out.size))
      have HE5 := Lib.hid (HE4.out.below hb HE4.out.size)
      have hba := (Below.refl w4.heap.size w4).alloc (Nat.le_refl _) (.cells #[u4] 32)
      have HI := Lib.hid hI
      obtain ⟨u4d, u4c, rfl, _, _⟩ := hI
      have HZ4 := Lib.hid (show v3.heap.size ≤ w4.heap.size from hb.size)
      clear hb HN4 HB5 HE4
      have HI2 := Lib.hid (show Ents _ _ _ (P.putF (o, t) false l) from HI.out.below entE_ok hba)
      have HN6 := Lib.hid (HN5.out.below hba)
      have HB7 := Lib.hid (HB6.out.trans (hba.mono HB6.out.size))
      have HE6 := Lib.hid (HE5.out.below hba HE5.out.size)
      have HC4 := Lib.hid (show (w4.alloc (.cells #[.slice u4d (P.putF (o, t) false l).length u4c] 32)).cell? ⟨w4.heap.size, 0, none⟩ = some (.slice u4d (P.putF (o, t) false l).length u4c) by go_simp)
      clear hba HN5 HB6 HE5
      go_wp2_with fail
      refine (isValidDictionary _ (P.putF (o, t) false l) _ (Ents.read HI2.out) HSP.out.texts HE6.out).mono ?_
      rintro e w5 ⟨rfl, hb⟩
      have HN7 := Lib.hid (HN6.out.below hb)
      have HB8 := Lib.hid (HB7.out.trans (hb.mono HB7.out.size))
      have HI3 := Lib.hid (HI2.out.below entE_ok hb)
      have c4 := (hb.cell (p := ⟨w4.heap.size, 0, none⟩) (by simp)).trans HC4.out
      have HZ5 := Lib.hid (show w4.heap.size < w5.heap.size by have := hb.size; simp at this; omega)
      clear hb HN6 HB7 HI2 HE6 HC4
      rw [P.put_dic HDC.out HEN.out]
      obtain ⟨_, _, _, b0, f0, _⟩ := HN7.out
      cases hlen : decide ((P.putF (o, t) false l).length ≤ 40)
      · have HD := Lib.hid (show P.insOk (o, t) l = false by unfold P.insOk; rw [HDC.out, HEN.out, hlen]; rfl); clear hlen
        go_wp2
        refine bodyPost_ret (v := .tuple #[.agg #[.slice none 0 0], .bool false]) (by simp [results, Tryz.results20, go_sem, b0]) rfl ⟨_, by rw [HD.out], ?_, ?_⟩
        · rw [HD.out]; exact RowO.nil _ _
        · exact HB8.out.setCell (by simp; omega) _
      · have HD := Lib.hid (show P.insOk (o, t) l = true by unfold P.insOk; rw [HDC.out, HEN.out, hlen]; rfl); clear hlen
        go_wp2
        refine bodyPost_ret (v := .tuple #[.agg #[.slice u4d (P.putF (o, t) false l).length u4c], .bool true]) (by simp [results, Tryz.results20, go_sem, b0]) rfl ⟨_, by rw [HD.out], ?_, ?_⟩
        · rw [HD.out]
          show Ents _ _ _ (P.putF (o, t) false l)
          refine ents_done (w.heap.size + 2) HI3.out fun b hb => ?_
          have h1 := hb.1; have h2 := hb.2; have h3 := HZ5.out
          omega
        · exact HB8.out.setCell (by simp; omega) _
end Go.Proofs.YtonhkglilnplbaaGreatDoor
