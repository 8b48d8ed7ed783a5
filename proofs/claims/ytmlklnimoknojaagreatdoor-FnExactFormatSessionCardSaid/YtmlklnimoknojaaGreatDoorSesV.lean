/- Walks: is a session valid? (program and reference); the law's own functions on sessions. -/
import Derived.Test.YtmlklnimoknojaaGreatDoorScrI3
import Derived.Test.YtmlklnimoknojaaGreatDoorBaseL
import Derived.Test.YtmlklnimoknojaaGreatDoorLLog10
import Derived.Test.YtmlklnimoknojaaGreatDoorPlainLog
namespace Go.Proofs.YtmlklnimoknojaaGreatDoor
namespace P
theorem trans_dicS {d : Dic} {t : Tr} (h : trans d t = true) : dic d = true := by
  obtain ⟨h1, _⟩ := trans_parts h
  unfold scr at h1
  cases q : (dic d && slist t.1)
  · rw [q] at h1; exact absurd h1 (by simp)
  · simp only [Bool.and_eq_true] at q; exact q.1
/-- is a session valid? -/
def sess (l : Dic) (st : List Int) (sc d p : Bs) (n : Int) : Bool := trans l (st, sc) && validLog d p n
theorem sess_dic (l : Dic) (st : List Int) (sc d p : Bs) (n : Int) : (dic l && (trans l (st, sc) && validLog d p n)) = sess l st sc d p n := by
  unfold sess
  cases h : trans l (st, sc) with
  | false => simp
  | true => rw [trans_dicS h]; simp
end P
open Go Go.RowKit
set_option maxHeartbeats 2000000
set_option maxRecDepth 100000
theorem impl_isValidSession (u us : Value) (l : P.Dic) (st : List Int) (sc d p : Str) (n : Int) (w : World) (hu : EntR w u l) (hus : IntR w us st) (hm : Small l) (hd : d.length ≤ 2 ^ 20) (hp : p.length ≤ 2 ^ 20) (hE : L.Env w) :
    Calls Tryz.prog 44 #[sessV u us sc d p n] w fun e w' => e = .returned (.bool (P.sess l st sc d p n)) ∧ Below w.heap.size w w' := by
  have hb0 := (Below.refl w.heap.size w).alloc (Nat.le_refl _) (sessCells u us sc d p n)
  have HU := Lib.hid (hu.below hb0); have HUS := Lib.hid (hus.below hb0); have HX := Lib.hid (SBox.new u us sc d p n w); have HE := Lib.hid (hE.below hb0 hE.size); have HB := Lib.hid hb0
  clear hb0 hE
  obtain ⟨ad, cap, rfl, _, _⟩ := hu
  obtain ⟨sd, sap, rfl, _, _⟩ := hus
  go_enter Tryz.func44, Tryz.ntmps44
  go_upto_region 1 with fail
  generalize w.alloc (sessCells (.slice ad l.length cap) (.slice sd st.length sap) sc d p n) = v0 at *
  obtain ⟨c0, c1, c2, c3, c4, c5, _⟩ := HX.out
  go_wp2_with fail
  refine (impl_isValidTranslator _ _ l st sc _ HU.out HUS.out hm HE.out.dic).mono ?_
  rintro e w1 ⟨rfl, hb⟩
  have HX1 := Lib.hid (HX.out.below hb); have HE1 := Lib.hid (HE.out.below hb HE.out.size); have HB1 := Lib.hid (HB.out.trans (hb.mono HB.out.size))
  have HP := Lib.hid (show P.sess l st sc d p n = (P.trans l (st, sc) && P.validLog d p n) from rfl)
  clear hb c0 c1 c2 c3 c4 c5 HX HE HB HU HUS
  generalize P.trans l (st, sc) = q at *
  obtain ⟨c0, c1, c2, c3, c4, c5, _⟩ := HX1.out
  cases q
  · go_wp2
    go_ret
    exact ⟨by rw [HP.out]; rfl, HB1.out⟩
  · go_wp2_with fail
    refine (L.isValidLog d p n _ hd hp HE1.out).mono ?_
    rintro e w2 ⟨rfl, hb⟩
    rw [P.records_valid]
    have HB2 := Lib.hid (HB1.out.trans (hb.mono HB1.out.size))
    clear hb
    go_wp2
    go_ret
    exact ⟨by rw [HP.out]; rfl, HB2.out⟩
theorem l25Good (u us : Value) (l : P.Dic) (st : List Int) (sc d p : Str) (n : Int) (w : World) (hu : EntR w u l) (hus : IntR w us st) (hm : Small l) (hd : d.length ≤ 2 ^ 20) (hp : p.length ≤ 2 ^ 20) :
    Calls Tryz.prog 102 #[sessV u us sc d p n] w fun e w' => e = .returned (.bool (P.sess l st sc d p n)) ∧ Below w.heap.size w w' := by
  have hb0 := (Below.refl w.heap.size w).alloc (Nat.le_refl _) (sessCells u us sc d p n)
  have HU := Lib.hid (hu.below hb0); have HUS := Lib.hid (hus.below hb0); have HX := Lib.hid (SBox.new u us sc d p n w); have HB := Lib.hid hb0
  clear hb0
  have HP := Lib.hid (P.sess_dic l st sc d p n)
  obtain ⟨ad, cap, rfl, _, _⟩ := hu
  obtain ⟨sd, sap, rfl, _, _⟩ := hus
  go_enter Tryz.func102, Tryz.ntmps102
  go_upto_region 1 with fail
  generalize w.alloc (sessCells (.slice ad l.length cap) (.slice sd st.length sap) sc d p n) = v0 at *
  obtain ⟨c0, c1, c2, c3, c4, c5, _⟩ := HX.out
  go_wp2_with fail
  refine (l6Good _ l _ HU.out hm.texts).mono ?_
  rintro e w1 ⟨rfl, hb⟩
  have HX1 := Lib.hid (HX.out.below hb); have HB1 := Lib.hid (HB.out.trans (hb.mono HB.out.size)); have HU1 := Lib.hid (HU.out.below hb); have HUS1 := Lib.hid (HUS.out.below hb)
  clear hb c0 c1 c2 c3 c4 c5 HX HB HU HUS
  generalize P.dic l = q at *
  obtain ⟨c0, c1, c2, c3, c4, c5, _⟩ := HX1.out
  cases q
  · go_wp2
    go_ret
    exact ⟨by rw [← HP.out]; rfl, HB1.out⟩
  · go_wp2_with fail
    refine (l14Good _ _ l st sc _ HU1.out HUS1.out hm).mono ?_
    rintro e w2 ⟨rfl, hb⟩
    have HX2 := Lib.hid (HX1.out.below hb); have HB2 := Lib.hid (HB1.out.trans (hb.mono HB1.out.size))
    clear hb c0 c1 c2 c3 c4 c5 HX1 HB1 HU1 HUS1
    generalize P.trans l (st, sc) = q at *
    obtain ⟨c0, c1, c2, c3, c4, c5, _⟩ := HX2.out
    cases q
    · go_wp2
      go_ret
      exact ⟨by rw [← HP.out]; rfl, HB2.out⟩
    · go_wp2_with fail
      refine (L.l24Log d p n _ hd hp).mono ?_
      rintro e w3 ⟨rfl, hb⟩
      have HB3 := Lib.hid (HB2.out.trans (hb.mono HB2.out.size))
      clear hb
      go_wp2
      go_ret
      exact ⟨by rw [← HP.out]; rfl, HB3.out⟩
theorem spec_isValidSession (u us : Value) (l : P.Dic) (st : List Int) (sc d p : Str) (n : Int) (w : World) (hu : EntR w u l) (hus : IntR w us st) (hm : Small l) (hd : d.length ≤ 2 ^ 20) (hp : p.length ≤ 2 ^ 20) :
    Calls Tryz.prog 42 #[sessV u us sc d p n] w fun e w' => e = .returned (.bool (P.sess l st sc d p n)) ∧ Below w.heap.size w w' := by
  have hb0 := (Below.refl w.heap.size w).alloc (Nat.le_refl _) (sessCells u us sc d p n)
  have HU := Lib.hid (hu.below hb0); have HUS := Lib.hid (hus.below hb0); have HX := Lib.hid (SBox.new u us sc d p n w); have HB := Lib.hid hb0
  clear hb0
  obtain ⟨ad, cap, rfl, _, _⟩ := hu
  obtain ⟨sd, sap, rfl, _, _⟩ := hus
  go_enter Tryz.func42, Tryz.ntmps42
  go_upto_region 1 with fail
  generalize w.alloc (sessCells (.slice ad l.length cap) (.slice sd st.length sap) sc d p n) = v0 at *
  obtain ⟨c0, c1, c2, c3, c4, c5, _⟩ := HX.out
  go_wp2_with fail
  refine (l25Good _ _ l st sc d p n _ HU.out HUS.out hm hd hp).mono ?_
  rintro e w1 ⟨rfl, hb⟩
  have HB1 := Lib.hid (HB.out.trans (hb.mono HB.out.size))
  clear hb c0 c1 c2 c3 c4 c5
  go_wp2
  go_ret
  exact ⟨rfl, HB1.out⟩
/-- a session in a box of the law's own type -/
abbrev sessCellsL (u us : Value) (sc d p : Str) (n : Int) : Obj := .cells #[u, us, .string (S sc), .string (S d), .string (S p), .int .i64 n] 78
theorem SBox.newL (u us : Value) (sc d p : Str) (n : Int) (v : World) : SBox v.heap.size u us sc d p n (v.alloc (sessCellsL u us sc d p n)) := by
  refine ⟨?_, ?_, ?_, ?_, ?_, ?_, by simp⟩ <;> go_simp
def P.szSess (l : P.Dic) (st : List Int) (sc d p : Str) : Int := ((l.length : Int) + P.sizeE l) + ((st.length : Int) + sc.length) + ((d.length : Int) + p.length)
theorem szSession (u us : Value) (l : P.Dic) (st : List Int) (sc d p : Str) (n left : Int) (w : World) (hu : EntA w u l) (ht : ∀ e ∈ l, e.2.length ≤ 9223372036854775807) (hus : IntA w us st) (hsc : sc.length ≤ 9223372036854775807) (hd : d.length ≤ maxLen) (hp : p.length ≤ maxLen) (h0 : 0 ≤ left) (h1 : left ≤ 2 ^ 20) :
    Calls Tryz.prog 41 #[sessV u us sc d p n, .int .i64 left] w (SzPost left (P.szSess l st sc d p) w) := by
  have hb0 := (Below.refl w.heap.size w).alloc (Nat.le_refl _) (sessCellsL u us sc d p n)
  have HU := Lib.hid (hu.below hb0); have HUS := Lib.hid (hus.below hb0); have HX := Lib.hid (SBox.newL u us sc d p n w); have HB := Lib.hid hb0
  have HZE := Lib.hid (P.sizeE_nonneg l)
  clear hb0
  obtain ⟨ad, cap, rfl, _, _⟩ := hu
  obtain ⟨sd, sap, rfl, _, _⟩ := hus
  go_enter Tryz.func41, Tryz.ntmps41
  go_upto_region 1 with fail
  generalize w.alloc (sessCellsL (.slice ad l.length cap) (.slice sd st.length sap) sc d p n) = v0 at *
  obtain ⟨c0, c1, c2, c3, c4, c5, _⟩ := HX.out
  go_wp2_with fail
  refine (szDictionary _ l left _ HU.out ht h0 h1).mono ?_
  rintro e w1 ⟨⟨r, rfl, hr0, hr⟩, hb⟩
  have HX1 := Lib.hid (HX.out.below hb); have HB1 := Lib.hid (HB.out.trans (hb.mono HB.out.size)); have HUS1 := Lib.hid (HUS.out.below hb)
  have HR := Lib.hid hr
  clear hb c0 c1 c2 c3 c4 c5 HX HB HU HUS hr
  obtain ⟨c0, c1, c2, c3, c4, c5, _⟩ := HX1.out
  by_cases hn1 : r < 0
  · go_wp2
    go_ret
    exact ⟨⟨-1, rfl, by omega, by omega⟩, HB1.out⟩
  have hr1 : r = left - ((l.length : Int) + P.sizeE l) := HR.out (by omega)
  have hr2 : 0 ≤ r := by omega
  have hr3 : r ≤ 2 ^ 20 := by have := HZE.out; omega
  have HR1 := Lib.hid hr1
  clear HR hr1
  go_wp2_with fail
  refine (szTranslator _ st sc r _ HUS1.out hsc hr2 hr3).mono ?_
  rintro e w2 ⟨⟨s, rfl, hs0, hs⟩, hb⟩
  have HX2 := Lib.hid (HX1.out.below hb); have HB2 := Lib.hid (HB1.out.trans (hb.mono HB1.out.size))
  have HS := Lib.hid hs
  clear hb c0 c1 c2 c3 c4 c5 HX1 HB1 HUS1 hs
  obtain ⟨c0, c1, c2, c3, c4, c5, _⟩ := HX2.out
  by_cases hn2 : s < 0
  · go_wp2
    go_ret
    exact ⟨⟨-1, rfl, by omega, by omega⟩, HB2.out⟩
  have hs1 : s = r - ((st.length : Int) + sc.length) := HS.out (by omega)
  have hs2 : 0 ≤ s := by omega
  have hs3 : s ≤ 1048576 := by omega
  have HS1 := Lib.hid hs1
  clear HS hs1
  go_wp2_with fail
  refine (L.szLog d p n s _ hd hp hs2 hs3).mono ?_
  rintro e w3 ⟨rfl, hb⟩
  have HB3 := Lib.hid (HB2.out.trans (hb.mono HB2.out.size))
  clear hb c0 c1 c2 c3 c4 c5 HX2 HB2
  obtain ⟨q, hq⟩ : ∃ q, P.sz2 d.length p.length s = q := ⟨_, rfl⟩
  rw [hq]
  have hq2 : -1 ≤ q ∧ (0 ≤ q → q = s - d.length - p.length) := by
    rw [← hq]
    unfold P.sz2
    split
    · exact ⟨by omega, by omega⟩
    · split
      · exact ⟨by omega, by omega⟩
      · exact ⟨by omega, fun _ => rfl⟩
  have HQ := Lib.hid hq2
  clear hq hq2
  by_cases hn3 : q < 0
  · go_wp2
    go_ret
    exact ⟨⟨-1, rfl, by omega, by omega⟩, HB3.out⟩
  · go_wp2
    go_ret
    exact ⟨⟨q, rfl, by omega, fun _ => by have h1 := HQ.out.2 (by omega); have h2 := HS1.out; have h3 := HR1.out; unfold P.szSess; omega⟩, HB3.out⟩
/-- a session in a box that is written -/
def SOut (b : Nat) (u us : Value) (sc d p : Str) (n : Int) (v : World) : Prop :=
  SBox b u us sc d p n v ∧ v.frozen? ⟨b, 0, none⟩ = false ∧ v.frozen? ⟨b, 1, none⟩ = false ∧ v.frozen? ⟨b, 2, none⟩ = false ∧ v.frozen? ⟨b, 3, none⟩ = false ∧ v.frozen? ⟨b, 4, none⟩ = false ∧ v.frozen? ⟨b, 5, none⟩ = false
theorem SOut.stand {b : Nat} {u us : Value} {sc d p : Str} {n : Int} {v v' : World} {X : Blk} (h : SOut b u us sc d p n v) (hc : Chg X v v') (hX : ¬ X b) : SOut b u us sc d p n v' := by
  obtain ⟨h0, f0, f1, f2, f3, f4, f5⟩ := h
  have hb := h0.2.2.2.2.2.2
  exact ⟨h0.stand hc hX, (hc.frozen (p := ⟨b, 0, none⟩) hb hX).trans f0, (hc.frozen (p := ⟨b, 1, none⟩) hb hX).trans f1, (hc.frozen (p := ⟨b, 2, none⟩) hb hX).trans f2, (hc.frozen (p := ⟨b, 3, none⟩) hb hX).trans f3, (hc.frozen (p := ⟨b, 4, none⟩) hb hX).trans f4, (hc.frozen (p := ⟨b, 5, none⟩) hb hX).trans f5⟩
theorem SOut.below {b : Nat} {u us : Value} {sc d p : Str} {n : Int} {v v' : World} (h : SOut b u us sc d p n v) (hb : Below v.heap.size v v') : SOut b u us sc d p n v' := h.stand (Below.chg hb fun _ => False) fun h => h
theorem SOut.new (u us : Value) (sc d p : Str) (n : Int) (v : World) : SOut v.heap.size u us sc d p n (v.alloc (sessCells u us sc d p n)) := by
  refine ⟨SBox.new _ _ _ _ _ _ _, ?_, ?_, ?_, ?_, ?_, ?_⟩ <;> go_simp
theorem SOut.set0 {b : Nat} {u us x : Value} {sc d p : Str} {n : Int} {v : World} (h : SOut b u us sc d p n v) : SOut b x us sc d p n (v.setCell ⟨b, 0, none⟩ x) := by
  obtain ⟨⟨h0, h1, h2, h3, h4, h5, h6⟩, f0, f1, f2, f3, f4, f5⟩ := h
  exact ⟨⟨by go_simp, by go_simp, by go_simp, by go_simp, by go_simp, by go_simp, by simpa [World.setCell] using h6⟩, by go_simp, by go_simp, by go_simp, by go_simp, by go_simp, by go_simp⟩
theorem SOut.set1 {b : Nat} {u us x : Value} {sc r d p : Str} {n : Int} {v : World} (h : SOut b u us sc d p n v) : SOut b u x r d p n ((v.setCell ⟨b, 1, none⟩ x).setCell ⟨b, 2, none⟩ (.string (S r))) := by
  obtain ⟨⟨h0, h1, h2, h3, h4, h5, h6⟩, f0, f1, f2, f3, f4, f5⟩ := h
  exact ⟨⟨by go_simp, by go_simp, by go_simp, by go_simp, by go_simp, by go_simp, by simpa [World.setCell] using h6⟩, by go_simp, by go_simp, by go_simp, by go_simp, by go_simp, by go_simp⟩
theorem SOut.set3 {b : Nat} {u us : Value} {sc d p d' p' : Str} {n n' : Int} {v : World} (h : SOut b u us sc d p n v) : SOut b u us sc d' p' n' (((v.setCell ⟨b, 3, none⟩ (.string (S d'))).setCell ⟨b, 4, none⟩ (.string (S p'))).setCell ⟨b, 5, none⟩ (.int .i64 n')) := by
  obtain ⟨⟨h0, h1, h2, h3, h4, h5, h6⟩, f0, f1, f2, f3, f4, f5⟩ := h
  exact ⟨⟨by go_simp, by go_simp, by go_simp, by go_simp, by go_simp, by go_simp, by simpa [World.setCell] using h6⟩, by go_simp, by go_simp, by go_simp, by go_simp, by go_simp, by go_simp⟩
/-- a session in memory of the callee's own: the dictionary's blocks lie below m, the strokes' above -/
def SesPost (l : P.Dic) (st : List Int) (sc d p : Str) (n : Int) (w : World) (e : Ending) (w' : World) : Prop :=
  ∃ u us m, e = .returned (sessV u us sc d p n) ∧ Ents w' (Bet w.heap.size m) u l ∧ Ints w' (Bet m w'.heap.size) us st ∧ w.heap.size ≤ m ∧ m ≤ w'.heap.size ∧ Below w.heap.size w w'
theorem toSession (u us : Value) (l : P.Dic) (st : List Int) (sc d p : Str) (n : Int) (w : World) (hu : EntR w u l) (hus : IntR w us st) (hm : Small l) (hst : st.length ≤ 2 ^ 20) :
    Calls Tryz.prog 43 #[sessV u us sc d p n] w (SesPost l st sc d p n w) := by
  have hb0 : Below w.heap.size w (((w.alloc (sessCellsL u us sc d p n)).alloc (sessCells (.slice none 0 0) (.slice none 0 0) [] [] [] 0)).alloc (sessCells (.slice none 0 0) (.slice none 0 0) [] [] [] 0)) := (((Below.refl w.heap.size w).alloc (Nat.le_refl _) _).alloc (by simp) _).alloc (by simp; omega) _
  have HU := Lib.hid hu; have HUS := Lib.hid hus; have HB := Lib.hid hb0
  have HX := Lib.hid (((SBox.newL u us sc d p n w).below ((Below.refl _ _).alloc (Nat.le_refl _) (sessCells (.slice none 0 0) (.slice none 0 0) [] [] [] 0))).below ((Below.refl _ _).alloc (Nat.le_refl _) (sessCells (.slice none 0 0) (.slice none 0 0) [] [] [] 0)))
  have HR := Lib.hid (show SOut (w.heap.size + 1) (.slice none 0 0) (.slice none 0 0) [] [] [] 0 (((w.alloc (sessCellsL u us sc d p n)).alloc (sessCells (.slice none 0 0) (.slice none 0 0) [] [] [] 0)).alloc (sessCells (.slice none 0 0) (.slice none 0 0) [] [] [] 0)) from by have h := (SOut.new (.slice none 0 0) (.slice none 0 0) [] [] [] 0 (w.alloc (sessCellsL u us sc d p n))).below ((Below.refl _ _).alloc (Nat.le_refl _) (sessCells (.slice none 0 0) (.slice none 0 0) [] [] [] 0)); simpa using h)
  have HO := Lib.hid (show SOut (w.heap.size + 2) (.slice none 0 0) (.slice none 0 0) [] [] [] 0 (((w.alloc (sessCellsL u us sc d p n)).alloc (sessCells (.slice none 0 0) (.slice none 0 0) [] [] [] 0)).alloc (sessCells (.slice none 0 0) (.slice none 0 0) [] [] [] 0)) from by have h := SOut.new (.slice none 0 0) (.slice none 0 0) [] [] [] 0 ((w.alloc (sessCellsL u us sc d p n)).alloc (sessCells (.slice none 0 0) (.slice none 0 0) [] [] [] 0)); simpa using h)
  have hz0 : w.heap.size + 2 < (((w.alloc (sessCellsL u us sc d p n)).alloc (sessCells (.slice none 0 0) (.slice none 0 0) [] [] [] 0)).alloc (sessCells (.slice none 0 0) (.slice none 0 0) [] [] [] 0)).heap.size := by simp
  clear hb0
  obtain ⟨ad, cap, rfl, _, _⟩ := hu
  obtain ⟨sd, sap, rfl, _, _⟩ := hus
  go_enter Tryz.func43, Tryz.ntmps43
  go_upto_region 2 with fail
  generalize ((w.alloc (sessCellsL (.slice ad l.length cap) (.slice sd st.length sap) sc d p n)).alloc (sessCells (.slice none 0 0) (.slice none 0 0) [] [] [] 0)).alloc (sessCells (.slice none 0 0) (.slice none 0 0) [] [] [] 0) = v0 at *
  obtain ⟨c0, c1, c2, c3, c4, c5, _⟩ := HX.out
  go_wp2_with fail
  refine (toDictionary _ l _ (HU.out.below HB.out) hm.len hm.outs).mono ?_
  rintro e w1 ⟨x, rfl, hX, hb⟩
  have HX1 := Lib.hid (HX.out.below hb); have HR1 := Lib.hid (HR.out.below hb); have HO1 := Lib.hid (HO.out.below hb); have HB1 := Lib.hid (HB.out.trans (hb.mono HB.out.size))
  have HD1 := Lib.hid hX
  have hz1 : v0.heap.size ≤ w1.heap.size := hb.size
  obtain ⟨xa, xc, rfl, _, _⟩ := id hX
  clear hb c0 c1 c2 c3 c4 c5 HX HR HO HB HU hX
  have hset : Chg (fun k => k = w.heap.size + 2) w1 (w1.setCell ⟨w.heap.size + 2, 0, none⟩ (.slice xa l.length xc)) := (Chg.refl (fun k => k = w.heap.size + 2) w1).setCell (p := ⟨w.heap.size + 2, 0, none⟩) rfl _
  have HX2 := Lib.hid (HX1.out.stand hset (by omega)); have HR2 := Lib.hid (HR1.out.stand hset (by omega)); have HO2 := Lib.hid (HO1.out.set0 (x := .slice xa l.length xc)); have HB2 := Lib.hid (Chg.belowB HB1.out hset HB1.out.size (fun b e => by omega))
  have HD2 := Lib.hid (HD1.out.stand entE_ok hset (fun b hb (e : b = w.heap.size + 2) => by have h1 := hb.1; omega))
  have hz2 : w1.heap.size ≤ (w1.setCell ⟨w.heap.size + 2, 0, none⟩ (.slice xa l.length xc)).heap.size := hset.size
  have hz2' : (w1.setCell ⟨w.heap.size + 2, 0, none⟩ (.slice xa l.length xc)).heap.size ≤ w1.heap.size := by simp [World.setCell]
  obtain ⟨⟨o0, o1, o2, o3, o4, o5, o6⟩, f0, f1, f2, f3, f4, f5⟩ := HO1.out
  clear hset HX1 HR1 HB1 HD1 HO1
  go_upto_region 3 with fail
  clear o0 o1 o2 o3 o4 o5 o6 f0 f1 f2 f3 f4 f5
  generalize w1.setCell ⟨w.heap.size + 2, 0, none⟩ (.slice xa l.length xc) = v2 at *
  obtain ⟨c0, c1, c2, c3, c4, c5, _⟩ := HX2.out
  go_wp2_with fail
  refine (toTranslator _ st sc _ (HUS.out.below HB2.out) hst).mono ?_
  rintro e w3 ⟨y, rfl, hY, hb⟩
  have HX3 := Lib.hid (HX2.out.below hb); have HR3 := Lib.hid (HR2.out.below hb); have HO3 := Lib.hid (HO2.out.below hb); have HB3 := Lib.hid (HB2.out.trans (hb.mono HB2.out.size))
  have HD3 := Lib.hid (HD2.out.below entE_ok hb); have HY3 := Lib.hid hY
  have hz3 : v2.heap.size ≤ w3.heap.size := hb.size
  obtain ⟨ya, yc, rfl, _, _⟩ := id hY
  clear hb c0 c1 c2 c3 c4 c5 HX2 HR2 HO2 HB2 HUS HD2 hY
  have hset : Chg (fun k => k = w.heap.size + 2) w3 ((w3.setCell ⟨w.heap.size + 2, 1, none⟩ (.slice ya st.length yc)).setCell ⟨w.heap.size + 2, 2, none⟩ (.string (S sc))) := ((Chg.refl (fun k => k = w.heap.size + 2) w3).setCell (p := ⟨w.heap.size + 2, 1, none⟩) rfl _).setCell (p := ⟨w.heap.size + 2, 2, none⟩) rfl _
  have HX4 := Lib.hid (HX3.out.stand hset (by omega)); have HR4 := Lib.hid (HR3.out.stand hset (by omega)); have HO4 := Lib.hid (HO3.out.set1 (x := .slice ya st.length yc) (r := sc)); have HB4 := Lib.hid (Chg.belowB HB3.out hset HB3.out.size (fun b e => by omega))
  have HD4 := Lib.hid (HD3.out.stand entE_ok hset (fun b hb (e : b = w.heap.size + 2) => by have h1 := hb.1; omega))
  have HY4 := Lib.hid (HY3.out.stand intE_ok hset (fun b hb (e : b = w.heap.size + 2) => by have h1 := hb.1; omega))
  have hz4 : w3.heap.size ≤ ((w3.setCell ⟨w.heap.size + 2, 1, none⟩ (.slice ya st.length yc)).setCell ⟨w.heap.size + 2, 2, none⟩ (.string (S sc))).heap.size := hset.size
  obtain ⟨⟨o0, o1, o2, o3, o4, o5, o6⟩, f0, f1, f2, f3, f4, f5⟩ := HO3.out
  clear hset HX3 HR3 HB3 HD3 HO3 HY3
  go_upto_region 4 with fail
  clear o0 o1 o2 o3 o4 o5 o6 f0 f1 f2 f3 f4 f5
  generalize (w3.setCell ⟨w.heap.size + 2, 1, none⟩ (.slice ya st.length yc)).setCell ⟨w.heap.size + 2, 2, none⟩ (.string (S sc)) = v4 at *
  obtain ⟨c0, c1, c2, c3, c4, c5, _⟩ := HX4.out
  go_wp2_with fail
  refine (L.toLog d p n _).mono ?_
  rintro e w5 ⟨rfl, hb⟩
  have HR5 := Lib.hid (HR4.out.below hb); have HO5 := Lib.hid (HO4.out.below hb); have HB5 := Lib.hid (HB4.out.trans (hb.mono HB4.out.size))
  have HD5 := Lib.hid (HD4.out.below entE_ok hb); have HY5 := Lib.hid (HY4.out.below intE_ok hb)
  have hz5 : v4.heap.size ≤ w5.heap.size := hb.size
  clear hb c0 c1 c2 c3 c4 c5 HX4 HR4 HO4 HB4 HD4 HY4
  obtain ⟨V6, hV6⟩ : ∃ v, ((w5.setCell ⟨w.heap.size + 2, 3, none⟩ (.string (S d))).setCell ⟨w.heap.size + 2, 4, none⟩ (.string (S p))).setCell ⟨w.heap.size + 2, 5, none⟩ (.int .i64 n) = v := ⟨_, rfl⟩
  have hset : Chg (fun k => k = w.heap.size + 2) w5 V6 := by rw [← hV6]; exact (((Chg.refl (fun k => k = w.heap.size + 2) w5).setCell (p := ⟨w.heap.size + 2, 3, none⟩) rfl _).setCell (p := ⟨w.heap.size + 2, 4, none⟩) rfl _).setCell (p := ⟨w.heap.size + 2, 5, none⟩) rfl _
  have HR6 := Lib.hid (HR5.out.stand hset (by omega)); have HO6 := Lib.hid (show SOut (w.heap.size + 2) (.slice xa l.length xc) (.slice ya st.length yc) sc d p n V6 from by rw [← hV6]; exact HO5.out.set3); have HB6 := Lib.hid (Chg.belowB HB5.out hset HB5.out.size (fun b e => by omega))
  have HD6 := Lib.hid (HD5.out.stand entE_ok hset (fun b hb (e : b = w.heap.size + 2) => by have h1 := hb.1; omega))
  have HY6 := Lib.hid (HY5.out.stand intE_ok hset (fun b hb (e : b = w.heap.size + 2) => by have h1 := hb.1; omega))
  have hz6 : w5.heap.size ≤ V6.heap.size := hset.size
  obtain ⟨⟨o0, o1, o2, o3, o4, o5, o6⟩, f0, f1, f2, f3, f4, f5⟩ := HO5.out
  clear hset HR5 HB5 HD5 HO5 HY5
  go_upto_region 5 with fail
  try rw [hV6]
  clear o0 o1 o2 o3 o4 o5 o6 f0 f1 f2 f3 f4 f5 hV6
  obtain ⟨o0, o1, o2, o3, o4, o5, _⟩ := HO6.out.1
  obtain ⟨⟨r0, r1, r2, r3, r4, r5, r6⟩, f0, f1, f2, f3, f4, f5⟩ := HR6.out
  obtain ⟨V7, hV7⟩ : ∃ v, (((((V6.setCell ⟨w.heap.size + 1, 0, none⟩ (.slice xa l.length xc)).setCell ⟨w.heap.size + 1, 1, none⟩ (.slice ya st.length yc)).setCell ⟨w.heap.size + 1, 2, none⟩ (.string (S sc))).setCell ⟨w.heap.size + 1, 3, none⟩ (.string (S d))).setCell ⟨w.heap.size + 1, 4, none⟩ (.string (S p))).setCell ⟨w.heap.size + 1, 5, none⟩ (.int .i64 n) = v := ⟨_, rfl⟩
  have hset : Chg (fun k => k = w.heap.size + 1) V6 V7 := by rw [← hV7]; exact ((((((Chg.refl (fun k => k = w.heap.size + 1) V6).setCell (p := ⟨w.heap.size + 1, 0, none⟩) rfl _).setCell (p := ⟨w.heap.size + 1, 1, none⟩) rfl _).setCell (p := ⟨w.heap.size + 1, 2, none⟩) rfl _).setCell (p := ⟨w.heap.size + 1, 3, none⟩) rfl _).setCell (p := ⟨w.heap.size + 1, 4, none⟩) rfl _).setCell (p := ⟨w.heap.size + 1, 5, none⟩) rfl _
  have HR7 := Lib.hid (show SOut (w.heap.size + 1) (.slice xa l.length xc) (.slice ya st.length yc) sc d p n V7 from by rw [← hV7]; exact ((HR6.out.set0 (x := .slice xa l.length xc)).set1 (x := .slice ya st.length yc) (r := sc)).set3 (d' := d) (p' := p) (n' := n))
  have HD7 := Lib.hid (HD6.out.stand entE_ok hset (fun b hb (e : b = w.heap.size + 1) => by have h1 := hb.1; omega))
  have HY7 := Lib.hid (HY6.out.stand intE_ok hset (fun b hb (e : b = w.heap.size + 1) => by have h1 := hb.1; omega))
  have HB7 := Lib.hid (Chg.belowB HB6.out hset HB6.out.size (fun b e => by omega))
  have hz7 : V6.heap.size ≤ V7.heap.size := hset.size
  go_wp2
  try rw [hV7]
  clear r0 r1 r2 r3 r4 r5 r6 f0 f1 f2 f3 f4 f5 o0 o1 o2 o3 o4 o5 hset hV7
  obtain ⟨r0, r1, r2, r3, r4, r5, r6⟩ := HR7.out.1
  refine bodyPost_ret (v := sessV (.slice xa l.length xc) (.slice ya st.length yc) sc d p n) (by simp [results, Tryz.results43, go_sem, r0, r1, r2, r3, r4, r5]) rfl ⟨_, _, v2.heap.size, rfl, HD7.out.wide (fun b hb => ⟨by have h1 := hb.1; omega, by have h1 := hb.2; omega⟩) (fun b hb => by have h1 := hb.2; omega), HY7.out.wide (fun b hb => ⟨hb.1, by have h1 := hb.2; omega⟩) (fun b hb => hb.2), by omega, by omega, HB7.out⟩
end Go.Proofs.YtmlklnimoknojaaGreatDoor
