/- Walk: the law of LogRecords. -/
import Derived.Test.YtbjfpceoamiaoaaDoorRecs
namespace Go.Proofs.YtbjfpceoamiaoaaDoor
open Go Go.RowKit
set_option maxHeartbeats 1000000
set_option maxRecDepth 100000
/-- a block of three cells, carried over a step that leaves the blocks below B -/
theorem carry3B {B b : Nat} {w v v' : World} {x y z : Option Value} (hE : EB ≤ w.heap.size) (h : v.cell? ⟨b, 0, none⟩ = x ∧ v.cell? ⟨b, 1, none⟩ = y ∧ v.cell? ⟨b, 2, none⟩ = z ∧ w.heap.size ≤ b ∧ b < v.heap.size ∧ Env v ∧ Below w.heap.size w v) (hb : Below B v v') (hB : b < B) :
    v'.cell? ⟨b, 0, none⟩ = x ∧ v'.cell? ⟨b, 1, none⟩ = y ∧ v'.cell? ⟨b, 2, none⟩ = z ∧ w.heap.size ≤ b ∧ b < v'.heap.size ∧ Env v' ∧ Below w.heap.size w v' := by
  obtain ⟨h0, h1, h2, h3, h4, h5, h6⟩ := h
  exact ⟨(hb.cell (p := ⟨b, 0, none⟩) hB).trans h0, (hb.cell (p := ⟨b, 1, none⟩) hB).trans h1, (hb.cell (p := ⟨b, 2, none⟩) hB).trans h2, h3, Nat.lt_of_lt_of_le h4 hb.size, h5.below hb (by omega), h6.trans (hb.mono (by omega))⟩
theorem law_records (d p : Str) (n : Int) (w : World) (hd : d.length ≤ maxLen) (hp : p.length ≤ maxLen) (hE : Env w) :
    Calls Tryd.prog 6 #[logV d p n] w fun e w' => e = .returned (.bool true) ∧ Below w.heap.size w w' := by
  have HE := Lib.hid hE; clear hE
  rcases Int.lt_or_le (P.sz2 d.length p.length 1048576) 0 with h1 | h1
  · go_enter Tryd.func6, Tryd.ntmps6
    go_wp2_with fail
    refine (szLog _ _ _ _ _ hd hp (by omega) (by omega)).mono ?_
    rintro e w1 ⟨rfl, hb⟩
    go_wp2
    go_ret
    exact ⟨rfl, ((Below.refl _ _).alloc (Nat.le_refl _) _).trans (hb.mono (by simp))⟩
  · have hle := sz2_le h1
    have hd2 : d.length ≤ 2 ^ 20 := by omega
    have hp2 : p.length ≤ 2 ^ 20 := by omega
    obtain ⟨l, hl⟩ : ∃ l, l = P.recsS d p n := ⟨_, rfl⟩
    have hll : l.length ≤ 60 := by rw [hl]; exact P.recs_len d p n
    have HL := Lib.hid hl; clear hl
    have HI := Lib.hid (show P.recsI d p n = l by rw [P.recs_eq]; exact HL.out.symm)
    have HK := Lib.hid (P.records_valid d p n)
    obtain ⟨ok, hok⟩ : ∃ ok, ok = P.validLog d p n := ⟨_, rfl⟩
    rw [← hok] at HK
    have HOK := Lib.hid hok.symm; clear hok
    go_enter Tryd.func6, Tryd.ntmps6
    go_wp2_with fail
    have C1 := Lib.hid (box3 (w := w) (x := .string (S d)) (y := .string (S p)) (z := .int .i64 n) (t := 23) HE.out (Below.refl _ _) (Nat.le_refl _))
    refine (szLog _ _ _ _ _ hd hp (by omega) (by omega)).mono ?_
    rintro e w1 ⟨rfl, hb⟩
    have C2 := Lib.hid (carry3 C1.out hb); clear hb C1
    obtain ⟨k0, k1, k2, _⟩ := C2.out
    go_wp2_with fail
    refine (toLog _ _ _ _).mono ?_
    rintro e w2 ⟨rfl, hb⟩
    clear k0 k1 k2
    have C3 := Lib.hid (carry3 C2.out hb); clear hb C2
    go_wp2_with fail
    refine (spec_records _ _ _ _ hd2 hp2).mono ?_
    rintro e w3 ⟨ys, rfl, hown, hb⟩
    rw [HOK.out]
    rw [← HL.out] at hown
    have C4 := Lib.hid (carry3 C3.out hb); clear hb C3
    obtain ⟨gy, hry, hgy⟩ := own_row hown (by omega)
    have HGY := Lib.hid hgy
    have Y4 := Lib.hid hry
    clear hown hry hgy
    obtain ⟨k0, k1, k2, _⟩ := C4.out
    go_wp2_with fail
    refine (toLog _ _ _ _).mono ?_
    rintro e w4 ⟨rfl, hb⟩
    clear k0 k1 k2
    have C5 := Lib.hid (carry3 C4.out hb); clear C4
    have hs34 := hb.size
    have Y5 := Lib.hid (Y4.out.carry hb); clear hb Y4
    go_wp2_with fail
    refine (impl_records _ _ _ _ hd2 hp2 C5.out.2.2.2.2.2.1).mono ?_
    rintro e w5 ⟨xs, rfl, hown, hb⟩
    rw [HK.out]
    rw [HI.out] at hown
    have C6 := Lib.hid (carry3 C5.out hb)
    have hw4 : w.heap.size < w4.heap.size := C5.out.2.2.2.2.1
    have hs45 := hb.size
    have Y6 := Lib.hid (Y5.out.carry hb); clear hb Y5 C5
    obtain ⟨gx, hrx, hgx⟩ := own_row hown (by omega)
    have HGX := Lib.hid hgx
    have X6 := Lib.hid hrx
    clear hown hrx hgx
    go_wp2_with fail
    refine (eqRecs _ _ gx gy _ _ _ X6.out Y6.out).mono ?_
    rintro e w6 ⟨rfl, hb⟩
    rw [decide_eq_true (rfl : l = l)]
    have C7 := Lib.hid (carry3 C6.out hb); clear C6
    have hs56 := hb.size
    have Y7 := Lib.hid (Y6.out.carry hb); clear Y6
    have X7 := Lib.hid (X6.out.carry hb); clear hb X6
    go_wp2_with fail
    refine (markRecs w4.heap.size xs gx l 1 w6 (by omega) (by omega) X7.out (by omega) (HGX.out.imp id (fun h => h.1)) (by omega)).mono ?_
    rintro e w7 ⟨rfl, hm, hap, hb⟩
    have hs67 := hb.size
    have C8 := Lib.hid (carry3B HE.out.size C7.out hb hw4); clear C7
    have Y8 := Lib.hid (Y7.out.apart hap (by
      rcases HGX.out with h | h
      · exact .inl h
      · rcases HGY.out with h' | h'
        · exact .inl h'
        · exact .inr (by have := h.1; have := h'.2; omega)) hs67); clear Y7
    have X8 := Lib.hid (X7.out.marked hm (P.marks_len 1 l.length) hs67); clear X7 hb hm hap
    go_wp2_with fail
    refine (heldRecs xs gx l.length 1 w7 (by omega) (by omega) (by omega) X8.out).mono ?_
    rintro e w8 ⟨rfl, hb⟩
    have C9 := Lib.hid (carry3 C8.out hb); clear C8
    have Y9 := Lib.hid (Y8.out.carry hb); clear Y8
    have X9 := Lib.hid (X8.out.carry hb); clear hb X8
    obtain ⟨k0, k1, k2, _⟩ := C9.out
    have f1 : ¬ 1 + 2 * (l.length : Int) < 0 := by omega
    go_wp2_with fail
    refine (toLog _ _ _ _).mono ?_
    rintro e w9 ⟨rfl, hb⟩
    clear k0 k1 k2
    have C10 := Lib.hid (carry3 C9.out hb); clear C9
    have Y10 := Lib.hid (Y9.out.carry hb); clear Y9
    have X10 := Lib.hid (X9.out.carry hb); clear hb X9
    go_wp2_with fail
    refine (impl_records _ _ _ _ hd2 hp2 C10.out.2.2.2.2.2.1).mono ?_
    rintro e w10 ⟨zs, rfl, hown, hb⟩
    rw [HK.out]
    rw [HI.out] at hown
    have C11 := Lib.hid (carry3 C10.out hb); clear C10
    have Y11 := Lib.hid (Y10.out.carry hb); clear Y10
    have X11 := Lib.hid (X10.out.carry hb); clear hb X10
    obtain ⟨gz, hrz, _⟩ := own_row hown (by omega)
    have Z11 := Lib.hid hrz; clear hrz hown
    go_wp2_with fail
    refine (eqRecs _ _ gz gy _ _ _ Z11.out Y11.out).mono ?_
    rintro e w11 ⟨rfl, hb⟩
    rw [decide_eq_true (rfl : l = l)]
    have C12 := Lib.hid (carry3 C11.out hb); clear C11
    have X12 := Lib.hid (X11.out.carry hb); clear hb X11
    go_wp2_with fail
    refine (heldRecs xs gx l.length 1 w11 (by omega) (by omega) (by omega) X12.out).mono ?_
    rintro e w12 ⟨rfl, hb⟩
    have C13 := Lib.hid (carry3 C12.out hb); clear C12 hb
    go_wp2
    go_ret
    exact ⟨rfl, C13.out.2.2.2.2.2.2⟩
end Go.Proofs.YtbjfpceoamiaoaaDoor
