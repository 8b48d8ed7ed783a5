/- Walks: Insert (reference); the law's own mark of an entry. -/
import Derived.Deep.DeepCutAuto
import Derived.Test.YtonhkglilnplbaaGreatDoorPut3
set_option linter.all false
namespace Go.Proofs.YtonhkglilnplbaaGreatDoor
open Go Go.RowKit
set_option maxHeartbeats 4000000
set_option maxRecDepth 100000
theorem spec_insert (dv x : Value) (l : P.Dic) (o : List Int) (t : Str) (w : World) (hu : EntR w dv l) (ho : IntR w x o) (hs : Small l) (h1 : o.length ≤ 2 ^ 20) (h2 : t.length ≤ 2 ^ 30) :
    Calls Tryz.prog 17 #[.agg #[dv], .agg #[x, .string (S t)]] w (InsPost (o, t) l w) := by
  have hb0 : Below w.heap.size w (((w.alloc (.cells #[dv] 32)).alloc (.cells #[x, .string (S t)] 36)).alloc (.cells #[.slice none 0 0] 32)) := (((Below.refl w.heap.size w).alloc (Nat.le_refl _) _).alloc (by simp) _).alloc (by simp; omega) _
  have HU := Lib.hid (hu.below hb0); have HO := Lib.hid (ho.below hb0)
  have HB0 := Lib.hid hb0; clear hb0
  have HN := Lib.hid (IBox.new dv x t w)
  have HSM := Lib.hid hs; clear hs
  have HL1 := Lib.hid h1; have HL2 := Lib.hid h2; clear h1 h2
  obtain ⟨ad, cap, rfl, _, _⟩ := hu
  obtain ⟨od, oc, rfl, _, _⟩ := ho
  go_enter Tryz.func17, Tryz.ntmps17
  go_wp2_with fail
  refine (l6Good _ l _ HU.out HSM.out.texts).mono ?_
  rintro e w1 ⟨rfl, hb⟩
  have HU1 := Lib.hid (HU.out.below hb); have HO1 := Lib.hid (HO.out.below hb)
  have HN1 := Lib.hid (HN.out.below hb)
  have HB1 := Lib.hid (HB0.out.trans (hb.mono (by simp; omega)))
  clear hb HU HB0 HN HO
  cases hd : P.dic l
  · have HD := Lib.hid (show P.insOk (o, t) l = false by unfold P.insOk; rw [hd]; rfl); clear hd
    obtain ⟨_, _, _, b0, f0, _⟩ := HN1.out
    go_wp2
    refine bodyPost_ret (v := .tuple #[.agg #[.slice none 0 0], .bool false]) (by simp [results, Tryz.results17, go_sem, b0]) rfl ⟨_, by rw [HD.out], ?_, ?_⟩
    · rw [HD.out]; exact RowO.nil _ _
    · exact HB1.out.setCell (by simp; omega) _
  · have HDC := Lib.hid hd; clear hd
    obtain ⟨a0, a1, a2, _⟩ := HN1.out
    go_wp2_with fail
    refine (l6Entry _ o t _ HO1.out HL2.out).mono ?_
    rintro e w2 ⟨rfl, hb⟩
    have HU2 := Lib.hid (HU1.out.below hb); have HO2 := Lib.hid (HO1.out.below hb)
    have HN2 := Lib.hid (HN1.out.below hb)
    have HB2 := Lib.hid (HB1.out.trans (hb.mono HB1.out.size))
    clear hb HU1 HB1 HN1 HO1 a0 a1 a2
    cases he : P.entry (o, t)
    · have HD := Lib.hid (show P.insOk (o, t) l = false by unfold P.insOk; rw [he, Bool.false_and, Bool.and_false]); clear he
      obtain ⟨_, _, _, b0, f0, _⟩ := HN2.out
      go_wp2
      refine bodyPost_ret (v := .tuple #[.agg #[.slice none 0 0], .bool false]) (by simp [results, Tryz.results17, go_sem, b0]) rfl ⟨_, by rw [HD.out], ?_, ?_⟩
      · rw [HD.out]; exact RowO.nil _ _
      · exact HB2.out.setCell (by simp; omega) _
    · have HEN := Lib.hid he; clear he
      obtain ⟨a0, a1, a2, _⟩ := HN2.out
      go_wp2_with fail
      refine (l6Put _ _ l o t _ HU2.out HO2.out HSM.out.len HSM.out.outs HL1.out).mono ?_
      rintro e w4 ⟨u4, rfl, hI, hb⟩
      have HZ2 := Lib.hid HN2.out.2.2.2.2.2
      have HN5 := Lib.hid (HN2.out.below hb)
      have HB6 := Lib.hid (HB2.out.trans (hb.mono HB2.out.size))
      have hba := (Below.refl w4.heap.size w4).alloc (Nat.le_refl _) (.cells #[u4] 32)
      have HI := Lib.hid hI
      obtain ⟨u4d, u4c, rfl, hlp, _⟩ := hI
      have HZ4 := Lib.hid (show w2.heap.size ≤ w4.heap.size from hb.size)
      clear hb HN2 HB2 a0 a1 a2
      have HI2 := Lib.hid (show Ents _ _ _ (P.putF (o, t) false l) from HI.out.below entE_ok hba)
      have HN6 := Lib.hid (HN5.out.below hba)
      have HB7 := Lib.hid (HB6.out.trans (hba.mono HB6.out.size))
      clear hba HN5 HB6
      obtain ⟨_, _, _, b0, f0, _⟩ := HN6.out
      by_cases hlen : (40 : Int) < ((P.putF (o, t) false l).length : Int)
      · have HD := Lib.hid (show P.insOk (o, t) l = false by unfold P.insOk; rw [HDC.out, HEN.out, decide_eq_false (by omega)]; rfl)
        go_wp2
        refine bodyPost_ret (v := .tuple #[.agg #[.slice none 0 0], .bool false]) (by simp [results, Tryz.results17, go_sem, b0]) rfl ⟨_, by rw [HD.out], ?_, ?_⟩
        · rw [HD.out]; exact RowO.nil _ _
        · exact HB7.out.setCell (by simp; omega) _
      · have HD := Lib.hid (show P.insOk (o, t) l = true by unfold P.insOk; rw [HDC.out, HEN.out, decide_eq_true (by omega)]; rfl)
        go_wp2
        refine bodyPost_ret (v := .tuple #[.agg #[.slice u4d (P.putF (o, t) false l).length u4c], .bool true]) (by simp [results, Tryz.results17, go_sem, b0]) rfl ⟨_, by rw [HD.out], ?_, ?_⟩
        · rw [HD.out]
          show Ents _ _ _ (P.putF (o, t) false l)
          refine ents_done (w.heap.size + 2) HI2.out fun b hb => ?_
          have h1 := hb.1; have h2 := hb.2; have h3 := HZ2.out
          simp
          omega
        · exact HB7.out.setCell (by simp; omega) _
/-- a box of an entry -/
def Box2E (b : Nat) (x : Value) (t : Str) (v : World) : Prop := v.cell? ⟨b, 0, none⟩ = some x ∧ v.cell? ⟨b, 1, none⟩ = some (.string (S t)) ∧ b < v.heap.size
theorem Box2E.stand {b : Nat} {x : Value} {t : Str} {v v' : World} {X : Blk} (h : Box2E b x t v) (hc : Chg X v v') (hX : ¬ X b) : Box2E b x t v' :=
  ⟨(hc.cell (p := ⟨b, 0, none⟩) h.2.2 hX).trans h.1, (hc.cell (p := ⟨b, 1, none⟩) h.2.2 hX).trans h.2.1, Nat.lt_of_lt_of_le h.2.2 hc.size⟩
theorem Box2E.below {b : Nat} {x : Value} {t : Str} {v v' : World} (h : Box2E b x t v) (hb : Below v.heap.size v v') : Box2E b x t v' := h.stand (Below.chg hb fun _ => False) fun h => h
theorem Box2E.new (x : Value) (t : Str) (T : TypeId) (v : World) : Box2E v.heap.size x t (v.alloc (.cells #[x, .string (S t)] T)) := ⟨by go_simp, by go_simp, by simp⟩
theorem markEntry (u : Value) (l : List Int) (t : Str) (k : Int) (F : Blk) (w : World) (hu : Ints w F u l) (hk0 : 0 ≤ k) (hk : k ≤ 2 ^ 40) :
    Calls Tryz.prog 24 #[.agg #[u, .string (S t)], .int .i64 k] w fun e w' => e = .returned (.int .i64 (k + l.length)) ∧ Ints w' F u (P.marks k l.length) ∧ Chg F w w' := by
  have hba := (Below.refl w.heap.size w).alloc (Nat.le_refl _) (.cells #[u, .string (S t)] 36)
  have HU := Lib.hid (hu.below intE_ok hba)
  have HC := Lib.hid (show Chg F w (w.alloc (.cells #[u, .string (S t)] 36)) from (Chg.refl F w).alloc _)
  clear hba
  obtain ⟨ad, cap, rfl, _, _⟩ := hu
  go_enter Tryz.func24, Tryz.ntmps24
  go_wp2_with fail
  refine (markIntS _ l k F _ HU.out hk0 hk).mono ?_
  rintro e w1 ⟨rfl, hI, hc, _⟩
  have HI := Lib.hid hI; have HC2 := Lib.hid (HC.out.trans hc)
  clear hI hc
  go_wp2
  go_ret
  exact ⟨rfl, HI.out, HC2.out⟩
end Go.Proofs.YtonhkglilnplbaaGreatDoor
