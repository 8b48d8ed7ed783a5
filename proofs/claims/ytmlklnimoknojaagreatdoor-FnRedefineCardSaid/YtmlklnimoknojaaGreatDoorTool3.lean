/- Walks: the screen of a list of strokes, translators checked (reference). -/
import Derived.Test.YtmlklnimoknojaaGreatDoorScrS4
import Derived.Test.YtmlklnimoknojaaGreatDoorScrI3
import Derived.Test.YtmlklnimoknojaaGreatDoorOutD
import Derived.Test.YtmlklnimoknojaaGreatDoorColl
import Derived.Test.YtmlklnimoknojaaGreatDoorValD
import Derived.Deep.DeepCutAuto
import Derived.Deep.RegionHeld
import Derived.Test.YtmlklnimoknojaaGreatDoorLawD
import Derived.Test.YtmlklnimoknojaaGreatDoorSpellI
import Derived.Test.YtmlklnimoknojaaGreatDoorPut3
namespace Go.Proofs.YtmlklnimoknojaaGreatDoor
open Go Go.RowKit
set_option maxHeartbeats 2000000
set_option maxRecDepth 100000
theorem P.scr_renderS {l : P.Dic} {st : List Int} (h1 : P.dic l = true) (h2 : P.slist st = true) : (P.renderS (P.atomsOf st (P.segA l st))).2 = (P.scr l st).2 ∧ ((P.scr l st).2 = true → (P.renderS (P.atomsOf st (P.segA l st))).1 = (P.scr l st).1) := by
  have h := P.render_eq (P.atomsOf st (P.segA l st))
  have e : P.scr l st = P.render (P.atomsOf st (P.segA l st)) := by unfold P.scr; rw [h1, h2]; rfl
  rw [e]
  exact ⟨h.1, h.2.1⟩
theorem spec_screenOf (dv sv : Value) (l : P.Dic) (st : List Int) (w : World) (hu : EntR w dv l) (hs : IntR w sv st) (hm : Small l) :
    Calls Tryz.prog 72 #[.agg #[dv], sv] w (RenPost (P.scr l st) w) := by
  have hb0 : Below w.heap.size w (w.alloc (.cells #[dv] 26)) := (Below.refl _ _).alloc (Nat.le_refl _) _
  have HU := Lib.hid (hu.below hb0); have HST := Lib.hid (hs.below hb0); have HB0 := Lib.hid hb0
  have HX := Lib.hid (DBx.new dv 26 w)
  clear hb0
  obtain ⟨ad, cap, rfl, _, _⟩ := hu
  obtain ⟨sd, sc, rfl, _, _⟩ := hs
  go_enter Tryz.func72, Tryz.ntmps72
  obtain ⟨k0, _⟩ := HX.out
  go_wp2_with fail
  refine (l6Good _ l _ HU.out hm.texts).mono ?_
  rintro e w1 ⟨rfl, hb⟩
  have HB1 := Lib.hid (HB0.out.trans (hb.mono HB0.out.size)); have HST1 := Lib.hid (HST.out.below hb); have HU1 := Lib.hid (HU.out.below hb); have HX1 := Lib.hid (HX.out.below hb)
  clear hb k0
  obtain ⟨q, hq⟩ : ∃ q, P.dic l = q := ⟨_, rfl⟩
  have HQ := Lib.hid hq
  rw [hq]
  clear hq
  cases q
  · have HN := Lib.hid (show P.scr l st = ([], false) by unfold P.scr; rw [HQ.out]; rfl)
    go_wp2
    go_ret2
    exact ⟨by rw [HN.out]; rfl, HB1.out⟩
  · go_wp2_with fail
    refine (l11Strokes _ st _ HST1.out).mono ?_
    rintro e w2 ⟨rfl, rfl⟩
    obtain ⟨q, hq⟩ : ∃ q, P.slist st = q := ⟨_, rfl⟩
    have HQ2 := Lib.hid hq
    rw [hq]
    clear hq
    cases q
    · have HN := Lib.hid (show P.scr l st = ([], false) by unfold P.scr; rw [HQ.out, HQ2.out]; rfl)
      go_wp2
      go_ret2
      exact ⟨by rw [HN.out]; rfl, HB1.out⟩
    · obtain ⟨k0, _⟩ := HX1.out
      go_wp2_with fail
      refine (l14Screen _ _ l st _ HU1.out HST1.out HQ.out HQ2.out).mono ?_
      rintro e w3 ⟨rfl, hb⟩
      have HB3 := Lib.hid (HB1.out.trans (hb.mono HB1.out.size))
      have HE := Lib.hid (P.scr_renderS HQ.out HQ2.out)
      have HNO := Lib.hid (P.scr_no (d := l) (st := st))
      clear hb k0
      generalize P.renderS (P.atomsOf st (P.segA l st)) = r at *
      obtain ⟨r1, r2⟩ := r
      cases r2
      · have HN := Lib.hid (show P.scr l st = ([], false) from Prod.ext (HNO.out HE.out.1.symm) HE.out.1.symm)
        go_wp2
        go_ret2
        exact ⟨by rw [HN.out]; rfl, HB3.out⟩
      · have HN := Lib.hid (show P.scr l st = (r1, true) from Prod.ext (HE.out.2 HE.out.1.symm).symm HE.out.1.symm)
        go_wp2
        go_ret2
        exact ⟨by rw [HN.out]; rfl, HB3.out⟩
theorem l14Good (dv sv : Value) (l : P.Dic) (st : List Int) (t : Str) (w : World) (hu : EntR w dv l) (hs : IntR w sv st) (hm : Small l) :
    Calls Tryz.prog 70 #[.agg #[dv], transV sv t] w fun e w' => e = .returned (.bool (P.trans l (st, t))) ∧ Below w.heap.size w w' := by
  have hb0 : Below w.heap.size w ((w.alloc (.cells #[dv] 26)).alloc (.cells #[sv, .string (S t)] 32)) := ((Below.refl w.heap.size w).alloc (Nat.le_refl _) _).alloc (by simp) _
  have HU := Lib.hid (hu.below hb0); have HST := Lib.hid (hs.below hb0); have HB0 := Lib.hid hb0
  have HX := Lib.hid (show TBx (w.heap.size + 1) sv t ((w.alloc (.cells #[dv] 26)).alloc (.cells #[sv, .string (S t)] 32)) by simpa using TBx.new sv t (w.alloc (.cells #[dv] 26)))
  clear hb0
  obtain ⟨ad, cap, rfl, _, _⟩ := hu
  obtain ⟨sd, sc, rfl, _, _⟩ := hs
  unfold transV
  go_enter Tryz.func70, Tryz.ntmps70
  go_wp2_with fail
  refine (spec_screenOf _ _ l st _ HU.out HST.out hm).mono ?_
  rintro e w1 ⟨rfl, hb⟩
  have HB1 := Lib.hid (HB0.out.trans (hb.mono HB0.out.size)); have HST1 := Lib.hid (HST.out.below hb); have HX1 := Lib.hid (HX.out.below hb)
  have HP := Lib.hid (show P.trans l (st, t) = ((P.scr l st).2 && ((P.scr l st).1 == t && !st.contains 1024)) from rfl)
  clear hb
  generalize P.scr l st = r at *
  obtain ⟨r1, r2⟩ := r
  obtain ⟨k0, k1, k2, _⟩ := HX1.out
  cases r2
  · go_wp2
    go_ret
    exact ⟨by rw [HP.out]; rfl, HB1.out⟩
  · go_wp2_with fail
    refine (l1Has _ st 1024 _ HST1.out).mono ?_
    rintro e w2 ⟨rfl, rfl⟩
    obtain ⟨q, hq⟩ : ∃ q, st.contains 1024 = q := ⟨_, rfl⟩
    rw [hq] at HP ⊢
    clear hq
    cases q
    · by_cases h : r1 = t
      · subst h
        go_wp2
        go_ret
        exact ⟨by rw [HP.out]; simp, HB1.out⟩
      · have f1 : ¬ S r1 = S t := fun hx => h (S_inj hx)
        have f2 : decide (S r1 = S t) = false := decide_eq_false f1
        go_wp2
        go_ret
        exact ⟨by rw [HP.out]; simp [], HB1.out⟩
    · go_wp2
      go_ret
      exact ⟨by rw [HP.out]; simp, HB1.out⟩
end Go.Proofs.YtmlklnimoknojaaGreatDoor
namespace Go.Proofs.YtmlklnimoknojaaGreatDoor
namespace P
end P
open Go Go.RowKit
set_option maxHeartbeats 2000000
set_option maxRecDepth 100000
theorem ownK_read {B : Nat} {v : World} {u : Value} {l : List Int} (h : OwnK B v u l) (hl : l.length ≤ 2 ^ 45) : IntR v u l := by
  have h' := h
  rcases h.2 with ⟨rfl, h0⟩ | ⟨g, cap, cur, rfl, h1, h2, h3, h4, h5⟩
  · have : l = [] := by cases l with
      | nil => rfl
      | cons => simp at h0
    subst this
    exact ⟨none, 0, rfl, ⟨by simp, by simp⟩, fun _ => rfl, .inl rfl⟩
  · refine ⟨some ⟨g, 0, none⟩, cap, rfl, ⟨hl, h3⟩, (fun h => by cases h), .inr ⟨g, 0, rfl, ?_, fun j hj => ?_⟩⟩
    · exact (World.ownsRow.lt h' g rfl).2
    · rw [Nat.zero_add, World.ownsRow.cellAt h' j (by omega)]
      unfold ints
      rw [List.getElem?_map, List.getElem?_eq_getElem hj]
      rfl
theorem IntR.cap {v : World} {a : Option Addr} {n c : Nat} {l : List Int} (h : IntR v (.slice a n c) l) : l.length ≤ c := by
  obtain ⟨ad, cap, h1, h2, _⟩ := h
  injection h1 with _ _ h3
  subst h3
  exact h2.2
def EBx (b : Nat) (v : World) : Prop := b < v.heap.size ∧ v.cell? ⟨b, 0, none⟩ = some (.int .i64 0) ∧ v.cell? ⟨b, 1, none⟩ = some (.string (S [])) ∧ v.frozen? ⟨b, 0, none⟩ = false ∧ v.frozen? ⟨b, 1, none⟩ = false
theorem EBx.below {b : Nat} {v v' : World} (h : EBx b v) (hb : Below v.heap.size v v') : EBx b v' := by
  obtain ⟨h1, h2, h3, h4, h5⟩ := h
  exact ⟨Nat.lt_of_lt_of_le h1 hb.size, (hb.cell (p := ⟨b, 0, none⟩) h1).trans h2, (hb.cell (p := ⟨b, 1, none⟩) h1).trans h3, (hb.frozen (p := ⟨b, 0, none⟩) h1).trans h4, (hb.frozen (p := ⟨b, 1, none⟩) h1).trans h5⟩
def editV (e : P.Edit) : Value := .agg #[.int .i64 e.1, .string (S e.2)]
end Go.Proofs.YtmlklnimoknojaaGreatDoor
namespace Go.Proofs.YtmlklnimoknojaaGreatDoor
open Go Go.RowKit
set_option maxHeartbeats 2000000
set_option maxRecDepth 100000
theorem l1OwnO (u : Value) (l : List Int) (w : World) (hu : IntR w u l) (hl : l.length ≤ 2 ^ 30) :
    Calls Tryz.prog 66 #[u] w (OwnPost l w) := by
  obtain ⟨i0, hi, hz0, hz1, hz2⟩ := info_parts info_int
  have hb0 := (Below.refl w.heap.size w).alloc (Nat.le_refl _) (.cells #[] 3)
  have HSRC := Lib.hid (src_of_ints (hu.below hb0))
  have HB := Lib.hid hb0; clear hb0
  have HOWN := Lib.hid (World.ownsRow_lit (base := w.heap.size) (e := 3) (size := 1) w #[] 0 (Nat.le_refl _) (Nat.zero_le _) (by simp))
  obtain ⟨ad, cap, rfl, _, _⟩ := hu
  go_enter Tryz.func66, Tryz.ntmps66
  go_wp2_with (at_builtin; refine wpList_append_src rfl _ _ 27 rfl w.heap.size 3 i0 (.int .i64 0) 1 8 Tryz.underlying27 hi hz0 hz1 hz2 rfl (by decide) _ 0 [] rfl HOWN.out _ l.length (ints l) rfl HSRC.out ?_ ?_ (by simp) ?_)
  · unfold maxLen; omega
  · omega
  intro v' w' hown hgr _
  have HOW := Lib.hid hown
  have HBB := Lib.hid (HB.out.grown hgr (by simp) (fun k hk => by simp [Value.ownBlock] at hk; omega))
  clear hown hgr
  go_wp2
  go_ret
  refine ⟨_, rfl, ?_, HBB.out⟩
  exact HOW.out
end Go.Proofs.YtmlklnimoknojaaGreatDoor
namespace Go.Proofs.YtmlklnimoknojaaGreatDoor
open Go Go.RowKit
set_option maxHeartbeats 2000000
set_option maxRecDepth 100000
def BetO (lo hi : Nat) (u : Value) : Blk := fun b => (lo ≤ b ∧ b < hi) ∧ u.ownBlock = some b
end Go.Proofs.YtmlklnimoknojaaGreatDoor
namespace Go.Proofs.YtmlklnimoknojaaGreatDoor
open Go Go.RowKit
set_option maxHeartbeats 4000000
set_option maxRecDepth 100000
theorem spec_insert (dv x : Value) (l : P.Dic) (o : List Int) (t : Str) (w : World) (hu : EntR w dv l) (ho : IntR w x o) (hs : Small l) (h1 : o.length ≤ 2 ^ 20) (h2 : t.length ≤ 2 ^ 30) :
    Calls Tryz.prog 71 #[.agg #[dv], .agg #[x, .string (S t)]] w (InsPost (o, t) l w) := by
  have hb0 : Below w.heap.size w (((w.alloc (.cells #[dv] 26)).alloc (.cells #[x, .string (S t)] 47)).alloc (.cells #[.slice none 0 0] 26)) := (((Below.refl w.heap.size w).alloc (Nat.le_refl _) _).alloc (by simp) _).alloc (by simp; omega) _
  have HU := Lib.hid (hu.below hb0); have HO := Lib.hid (ho.below hb0)
  have HB0 := Lib.hid hb0; clear hb0
  have HN := Lib.hid (IBox.new dv x t w)
  have HSM := Lib.hid hs; clear hs
  have HL1 := Lib.hid h1; have HL2 := Lib.hid h2; clear h1 h2
  obtain ⟨ad, cap, rfl, _, _⟩ := hu
  obtain ⟨od, oc, rfl, _, _⟩ := ho
  go_enter Tryz.func71, Tryz.ntmps71
  go_wp2_with fail
  refine (l6Good _ l _ HU.out HSM.out.texts).mono ?_
  rintro e w1 ⟨rfl, hb⟩
  have HU1 := Lib.hid (HU.out.below hb); have HO1 := Lib.hid (HO.out.below hb)
  have HN1 := Lib.hid (HN.out.below hb)
  have HB1 := Lib.hid (HB0.out.trans (hb.mono (by simp; omega)))
  clear hb HU HB0 HN HO
  cases hd : P.dic l
  · have HD := Lib.hid (show P.insOk (o, t) l = false by unfold P.insOk; rw [hd]; rfl); clear hd
    obtain ⟨_, _, _, b0, f0, _⟩ := HN1.out
    go_wp2
    refine bodyPost_ret (v := .tuple #[.agg #[.slice none 0 0], .bool false]) (by simp [results, Tryz.results71, go_sem, b0]) rfl ⟨_, by rw [HD.out], ?_, ?_⟩
    · rw [HD.out]; exact RowO.nil _ _
    · exact HB1.out.setCell (by simp; omega) _
  · have HDC := Lib.hid hd; clear hd
    obtain ⟨a0, a1, a2, _⟩ := HN1.out
    go_wp2_with fail
    refine (l6Entry _ o t _ HO1.out HL2.out).mono ?_
    rintro e w2 ⟨rfl, hb⟩
    have HU2 := Lib.hid (HU1.out.below hb); have HO2 := Lib.hid (HO1.out.below hb)
    have HN2 := Lib.hid (HN1.out.below hb)
    have HB2 := Lib.hid (HB1.out.trans (hb.mono HB1.out.size))
    clear hb HU1 HB1 HN1 HO1 a0 a1 a2
    cases he : P.entry (o, t)
    · have HD := Lib.hid (show P.insOk (o, t) l = false by unfold P.insOk; rw [he, Bool.false_and, Bool.and_false]); clear he
      obtain ⟨_, _, _, b0, f0, _⟩ := HN2.out
      go_wp2
      refine bodyPost_ret (v := .tuple #[.agg #[.slice none 0 0], .bool false]) (by simp [results, Tryz.results71, go_sem, b0]) rfl ⟨_, by rw [HD.out], ?_, ?_⟩
      · rw [HD.out]; exact RowO.nil _ _
      · exact HB2.out.setCell (by simp; omega) _
    · have HEN := Lib.hid he; clear he
      obtain ⟨a0, a1, a2, _⟩ := HN2.out
      go_wp2_with fail
      refine (l6Put _ _ l o t _ HU2.out HO2.out HSM.out.len HSM.out.outs HL1.out).mono ?_
      rintro e w4 ⟨u4, rfl, hI, hb⟩
      have HZ2 := Lib.hid HN2.out.2.2.2.2.2
      have HN5 := Lib.hid (HN2.out.below hb)
      have HB6 := Lib.hid (HB2.out.trans (hb.mono HB2.out.size))
      have hba := (Below.refl w4.heap.size w4).alloc (Nat.le_refl _) (.cells #[u4] 26)
      have HI := Lib.hid hI
      obtain ⟨u4d, u4c, rfl, hlp, _⟩ := hI
      have HZ4 := Lib.hid (show w2.heap.size ≤ w4.heap.size from hb.size)
      clear hb HN2 HB2 a0 a1 a2
      have HI2 := Lib.hid (show Ents _ _ _ (P.putF (o, t) false l) from HI.out.below entE_ok hba)
      have HN6 := Lib.hid (HN5.out.below hba)
      have HB7 := Lib.hid (HB6.out.trans (hba.mono HB6.out.size))
      clear hba HN5 HB6
      obtain ⟨_, _, _, b0, f0, _⟩ := HN6.out
      by_cases hlen : (40 : Int) < ((P.putF (o, t) false l).length : Int)
      · have HD := Lib.hid (show P.insOk (o, t) l = false by unfold P.insOk; rw [HDC.out, HEN.out, decide_eq_false (by omega)]; rfl)
        go_wp2
        refine bodyPost_ret (v := .tuple #[.agg #[.slice none 0 0], .bool false]) (by simp [results, Tryz.results71, go_sem, b0]) rfl ⟨_, by rw [HD.out], ?_, ?_⟩
        · rw [HD.out]; exact RowO.nil _ _
        · exact HB7.out.setCell (by simp; omega) _
      · have HD := Lib.hid (show P.insOk (o, t) l = true by unfold P.insOk; rw [HDC.out, HEN.out, decide_eq_true (by omega)]; rfl)
        go_wp2
        refine bodyPost_ret (v := .tuple #[.agg #[.slice u4d (P.putF (o, t) false l).length u4c], .bool true]) (by simp [results, Tryz.results71, go_sem, b0]) rfl ⟨_, by rw [HD.out], ?_, ?_⟩
        · rw [HD.out]
          show Ents _ _ _ (P.putF (o, t) false l)
          refine ents_done (w.heap.size + 2) HI2.out fun b hb => ?_
          have h1 := hb.1; have h2 := hb.2; have h3 := HZ2.out
          simp
          omega
        · exact HB7.out.setCell (by simp; omega) _
def Box2E (b : Nat) (x : Value) (t : Str) (v : World) : Prop := v.cell? ⟨b, 0, none⟩ = some x ∧ v.cell? ⟨b, 1, none⟩ = some (.string (S t)) ∧ b < v.heap.size
theorem Box2E.stand {b : Nat} {x : Value} {t : Str} {v v' : World} {X : Blk} (h : Box2E b x t v) (hc : Chg X v v') (hX : ¬ X b) : Box2E b x t v' :=
  ⟨(hc.cell (p := ⟨b, 0, none⟩) h.2.2 hX).trans h.1, (hc.cell (p := ⟨b, 1, none⟩) h.2.2 hX).trans h.2.1, Nat.lt_of_lt_of_le h.2.2 hc.size⟩
theorem Box2E.below {b : Nat} {x : Value} {t : Str} {v v' : World} (h : Box2E b x t v) (hb : Below v.heap.size v v') : Box2E b x t v' := h.stand (Below.chg hb fun _ => False) fun h => h
theorem Box2E.new (x : Value) (t : Str) (T : TypeId) (v : World) : Box2E v.heap.size x t (v.alloc (.cells #[x, .string (S t)] T)) := ⟨by go_simp, by go_simp, by simp⟩
end Go.Proofs.YtmlklnimoknojaaGreatDoor
namespace Go.Proofs.YtmlklnimoknojaaGreatDoor
namespace P
end P
open Go Go.RowKit
set_option maxHeartbeats 2000000
set_option maxRecDepth 100000
theorem RowO.to {α : Type} {E : ElT α} {wd : Nat} (hE : ElOk E) {v v' : World} {lo hi lo' hi' : Nat} {x u : Value} {l : List α} (h : RowO wd E v (BetO lo hi x) u l) (hb : Below v.heap.size v v') (h1 : lo' ≤ lo) (h2 : hi ≤ hi') (h3 : hi' ≤ v'.heap.size) : RowO wd E v' (BetO lo' hi' x) u l :=
  (h.below hE hb).wide (fun _ hb => ⟨⟨Nat.le_trans h1 hb.1.1, Nat.lt_of_lt_of_le hb.1.2 h2⟩, hb.2⟩) (fun _ hb => Nat.lt_of_lt_of_le hb.1.2 h3)
theorem EBx.new (v : World) : EBx v.heap.size (v.alloc (.cells #[.int .i64 0, .string (S [])] 38)) := ⟨by simp, by go_simp, by go_simp, by go_simp, by go_simp⟩
theorem TBx.stand {b : Nat} {u : Value} {t : Str} {v v' : World} {X : Blk} (h : TBx b u t v) (hc : Chg X v v') (hX : ¬ X b) : TBx b u t v' := by
  obtain ⟨h1, h2, h3, h4, h5⟩ := h
  exact ⟨Nat.lt_of_lt_of_le h1 hc.size, (hc.cell (p := ⟨b, 0, none⟩) h1 hX).trans h2, (hc.cell (p := ⟨b, 1, none⟩) h1 hX).trans h3, (hc.frozen (p := ⟨b, 0, none⟩) h1 hX).trans h4, (hc.frozen (p := ⟨b, 1, none⟩) h1 hX).trans h5⟩
theorem EBx.stand {b : Nat} {v v' : World} {X : Blk} (h : EBx b v) (hc : Chg X v v') (hX : ¬ X b) : EBx b v' := by
  obtain ⟨h1, h2, h3, h4, h5⟩ := h
  exact ⟨Nat.lt_of_lt_of_le h1 hc.size, (hc.cell (p := ⟨b, 0, none⟩) h1 hX).trans h2, (hc.cell (p := ⟨b, 1, none⟩) h1 hX).trans h3, (hc.frozen (p := ⟨b, 0, none⟩) h1 hX).trans h4, (hc.frozen (p := ⟨b, 1, none⟩) h1 hX).trans h5⟩
end Go.Proofs.YtmlklnimoknojaaGreatDoor
