/- Walks: recovery of a log from its bytes. -/
import Derived.Test.YtbjfpceoamiaoaaDoorCur13
import Derived.Test.YtbjfpceoamiaoaaDoorPlainRvr
namespace Go.Proofs.YtbjfpceoamiaoaaDoor
open Go Go.RowKit
set_option maxHeartbeats 2000000
set_option maxRecDepth 100000
def RvrPost (s : Str) (w : World) (e : Ending) (w' : World) : Prop := e = .returned (.tuple #[logV (P.recover s).1 [] (P.recover s).2.1, .int .i64 (P.recover s).2.2.1, .bool (P.recover s).2.2.2]) ∧ Below w.heap.size w w'
theorem spec_recover (s : Str) (w : World) (hs : s.length ≤ 2 ^ 30) :
    Calls Tryd.prog 32 #[.string (S s)] w (RvrPost s w) := by
  by_cases h : s.length ≤ 30000
  · have HF := Lib.hid (show P.recover s = _ by unfold P.recover; rw [if_pos h])
    obtain ⟨hl1, hl2⟩ := P.openLog_le s
    have h0 : ¬ (30000 : Int) < (s.length : Int) := by omega
    generalize hR : P.openLog s = R at *
    obtain ⟨l, n⟩ := R
    have HR := Lib.hid hR; clear hR
    simp only at hl1 hl2
    go_enter Tryd.func32, Tryd.ntmps32
    go_wp2_with fail
    refine (l24Open _ _ (by omega)).mono ?_
    rintro e w1 ⟨v, rfl, hown, hb⟩
    rw [HR.out] at hown ⊢
    simp only at hown ⊢
    obtain ⟨ad, cp, rfl⟩ := own_len hown
    obtain ⟨hcc, hff⟩ := bcell hb
    have hz := grew0 hb
    have HB := Lib.hid hb
    have z0 : w1.cell? ⟨w.heap.size, 0, none⟩ = some (.string (S [])) := by rw [hcc _ _ (by simp)]; go_simp
    have z1 : w1.cell? ⟨w.heap.size, 1, none⟩ = some (.string (S [])) := by rw [hcc _ _ (by simp)]; go_simp
    have z2 : w1.cell? ⟨w.heap.size, 2, none⟩ = some (.int .i64 0) := by rw [hcc _ _ (by simp)]; go_simp
    have x0 : w1.frozen? ⟨w.heap.size, 0, none⟩ = false := by rw [hff _ _ (by simp)]; go_simp
    have x1 : w1.frozen? ⟨w.heap.size, 1, none⟩ = false := by rw [hff _ _ (by simp)]; go_simp
    have x2 : w1.frozen? ⟨w.heap.size, 2, none⟩ = false := by rw [hff _ _ (by simp)]; go_simp
    clear hown hb hcc hff
    go_wp2
    refine bodyPost_ret (v := .tuple #[logV (s.take n) [] l.length, .int .i64 n, .bool true]) (by simp [results, Tryd.results32, go_sem, z0, z1, z2]) rfl ⟨by rw [HF.out], ?_⟩
    exact (((((Below.refl _ _).alloc (Nat.le_refl _) _).trans (HB.out.mono (by simp))).setCell (Nat.le_refl _) _).setCell (Nat.le_refl _) _).setCell (Nat.le_refl _) _
  · have HF := Lib.hid (show P.recover s = _ by unfold P.recover; rw [if_neg h])
    have h0 : (30000 : Int) < (s.length : Int) := by omega
    go_enter Tryd.func32, Tryd.ntmps32
    go_wp2
    refine bodyPost_ret (v := .tuple #[logV [] [] 0, .int .i64 0, .bool false]) (by simp [results, Tryd.results32, go_sem]) rfl ⟨by rw [HF.out], ?_⟩
    exact (Below.refl w.heap.size w).alloc (Nat.le_refl _) _
theorem impl_recover (s : Str) (w : World) (hs : s.length ≤ 2 ^ 27) (hE : Env w) :
    Calls Tryd.prog 31 #[.string (S s)] w (RvrPost s w) := by
  have HE := Lib.hid hE; clear hE
  by_cases h : s.length ≤ 30000
  · have HF := Lib.hid (show P.recover s = _ by unfold P.recover; rw [if_pos h])
    obtain ⟨j0, ji, jz0, jz1, jz2⟩ := info_parts info_int
    obtain ⟨hl1, hl2⟩ := P.openLog_le s
    have h0 : ¬ (30000 : Int) < (s.length : Int) := by omega
    rw [P.openLog_eq] at HF hl1 hl2
    have hlast : (P.starts s)[(P.readAll s).2.1.length]?.getD 0 = ((P.readAll s).2.2 : Int) := by
      have h1 := P.readAll_pos s
      have h2 := P.last_cons_map (P.pos s 60 0 0) 0
      have h3 : (P.readAll s).2.1.length = (P.pos s 60 0 0).length := by
        have := congrArg List.length h1.1
        simpa [P.starts] using this
      rw [h1.1, h1.2, h3]
      simpa using h2
    have hrl := (P.readAll_len s).2
    unfold P.starts at hlast
    generalize hR : P.readAll s = R at *
    have HR := Lib.hid hR; clear hR
    have HL := Lib.hid hlast; clear hlast
    go_enter Tryd.func31, Tryd.ntmps31
    go_wp2_with fail
    refine (read _ _ (by omega) (HE.out.alloc _)).mono ?_
    rintro e w1 ⟨v, u, rfl, hown, howi, hb⟩
    rw [HR.out] at hown howi
    obtain ⟨ad, cp, rfl⟩ := own_len hown
    obtain ⟨hcc, hff⟩ := bcell hb
    have hz := grew0 hb
    have HOWI := Lib.hid howi; have HB := Lib.hid hb
    clear hown howi hb
    have hrl3 : R.2.1.length ≤ 60 := by omega
    have z0 : w1.cell? ⟨w.heap.size, 0, none⟩ = some (.string (S [])) := by rw [hcc _ _ (by simp)]; go_simp
    have z1 : w1.cell? ⟨w.heap.size, 1, none⟩ = some (.string (S [])) := by rw [hcc _ _ (by simp)]; go_simp
    have z2 : w1.cell? ⟨w.heap.size, 2, none⟩ = some (.int .i64 0) := by rw [hcc _ _ (by simp)]; go_simp
    have x0 : w1.frozen? ⟨w.heap.size, 0, none⟩ = false := by rw [hff _ _ (by simp)]; go_simp
    have x1 : w1.frozen? ⟨w.heap.size, 1, none⟩ = false := by rw [hff _ _ (by simp)]; go_simp
    have x2 : w1.frozen? ⟨w.heap.size, 2, none⟩ = false := by rw [hff _ _ (by simp)]; go_simp
    clear hcc hff
    go_wp2_with (at_builtin; refine wpList_append_src rfl (.tmp 17) (.tmp 18) 72 rfl w.heap.size 3 j0 (.int .i64 0) 1 8 Tryd.underlying72 ji jz0 jz1 jz2 rfl (by decide) _ _ _ rfl (own_one w1 w.heap.size (Nat.le_of_lt hz) 0) _ _ _ rfl (own_srcI (World.ownsRow.alloc HOWI.out _)) ?c3 ?c4 ?c5 ?_)
    case c3 => unfold maxLen; simp; omega
    case c4 => simp; omega
    case c5 => simp; omega
    intro v' w2 hown' hgrow _
    rw [show (Value.slice (some ⟨w1.heap.size, 0, none⟩) 1 1).ownBlock = some w1.heap.size from rfl] at hgrow
    obtain ⟨st, hst⟩ : ∃ st : List Int, st = 0 :: R.2.1 := ⟨_, rfl⟩
    have hstl : st.length = R.1.length + 1 := by rw [hst]; simp; omega
    have hstn : st ≠ [] := by rw [hst]; simp
    have hS : OwnInts w.heap.size w2 v' st := by rw [hst]; unfold OwnInts; rw [List.length_cons, Nat.add_comm]; simpa [intVals, hrl] using hown'
    obtain ⟨g, cp2, rfl, hg, hgl, hcell⟩ := own_cellI hS hstn
    have keep : ∀ o x, w1.cell? ⟨w.heap.size, o, none⟩ = some x → w2.cell? ⟨w.heap.size, o, none⟩ = some x := fun o x hx => hgrow.cell (cell_alloc hx _) (by show some w.heap.size ≠ some w1.heap.size; intro e; injection e with e; omega)
    obtain ⟨ad2, cp3, hu⟩ := own_lenI HOWI.out
    subst hu
    have keepf : ∀ o, w2.frozen? ⟨w.heap.size, o, none⟩ = w1.frozen? ⟨w.heap.size, o, none⟩ := fun o => (World.frozen?_of_block (w := w1.alloc (.cells #[.int .i64 0] 3)) (a := ⟨w.heap.size, o, none⟩) (hgrow.block w.heap.size (by simp; omega) (by show some w.heap.size ≠ some w1.heap.size; intro e; injection e with e; omega))).trans (by go_simp)
    have h0 := (keepf 0).trans x0
    have h1 := (keepf 1).trans x1
    have h2 := (keepf 2).trans x2
    have k0 := keep 0 _ z0
    have k1 := keep 1 _ z1
    have k2 := keep 2 _ z2
    have hcl := hcell R.1.length (by omega)
    have hv : st[R.1.length]'(by omega) = (R.2.2 : Int) := by
      rw [← HL.out, hrl, ← hst, List.getElem?_eq_getElem (by omega)]; rfl
    rw [hv] at hcl
    have hB : Below w.heap.size w w2 := (((((Below.refl _ _).alloc (Nat.le_refl _) _).trans (HB.out.mono (by simp))).alloc (Nat.le_of_lt hz) _).grown hgrow (by simp; omega) (fun k hk => by injection hk with hk; omega))
    have HBB := Lib.hid hB
    have hlt2 : R.1.length < st.length := by omega
    rw [hrl]
    clear hB hcell hS hown' hgrow keep keepf HOWI HB z0 z1 z2 x0 x1 x2 hst hv HL
    go_wp2
    refine bodyPost_ret (v := .tuple #[logV (s.take R.2.2) [] R.1.length, .int .i64 R.2.2, .bool true]) (by simp [results, Tryd.results31, go_sem, k0, k1, k2]) rfl ⟨by rw [HF.out], ?_⟩
    exact ((HBB.out.setCell (Nat.le_refl _) _).setCell (Nat.le_refl _) _).setCell (Nat.le_refl _) _
  · have HF := Lib.hid (show P.recover s = _ by unfold P.recover; rw [if_neg h])
    have h0 : (30000 : Int) < (s.length : Int) := by omega
    go_enter Tryd.func31, Tryd.ntmps31
    go_wp2
    refine bodyPost_ret (v := .tuple #[logV [] [] 0, .int .i64 0, .bool false]) (by simp [results, Tryd.results31, go_sem]) rfl ⟨by rw [HF.out], ?_⟩
    exact (Below.refl w.heap.size w).alloc (Nat.le_refl _) _
end Go.Proofs.YtbjfpceoamiaoaaDoor
