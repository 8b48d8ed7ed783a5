/- Walks: atoms, translations and entries that the cursor draws. -/
import Derived.Test.YtmlklnimoknojaaGreatDoorCurE1
import Derived.Test.YtmlklnimoknojaaGreatDoorTransD
import Derived.Test.YtmlklnimoknojaaGreatDoorOutD
namespace Go.Proofs.YtmlklnimoknojaaGreatDoor
open Go Go.RowKit
set_option maxHeartbeats 4000000
set_option maxRecDepth 100000
def TextDrawn (B C K m : Nat) (w : World) (e : Ending) (w' : World) : Prop := ∃ s : Str, e = .returned (.string (S s)) ∧ s.length ≤ m ∧ CurPost B C K w w'
theorem cur_wordText (B C K : Nat) (w : World) (hK : K < 2 ^ 38) (h : IsCur B C K w) :
    Calls Tryz.prog 215 #[.pointer (some ⟨C, 0, none⟩)] w (TextDrawn B C (K + 2) 20 w) := by
  have hlt := h.lt
  have HC := Lib.hid ((CurPost.refl h (Nat.le_refl K)).alloc (.cells #[.string (S [99, 97, 116]), .string (S [104, 97, 112, 112, 121]), .string (S [109, 97, 107, 101]), .string (S [114, 117, 110]), .string (S [116, 114, 121]), .string (S [98, 111, 120]), .string (S [100, 105, 101]), .string (S [97]), .string (S [71, 111]), .string (S [52, 50]), .string (S [100, 111, 110, 39, 116]), .string (S [98, 101, 101]), .string (S [115]), .string (S [105, 110, 103]), .string (S [99, 104, 117, 114, 99, 104]), .string (S [112, 108, 97, 121])] 9))
  have HL := Lib.hid (lit_strs [[99, 97, 116], [104, 97, 112, 112, 121], [109, 97, 107, 101], [114, 117, 110], [116, 114, 121], [98, 111, 120], [100, 105, 101], [97], [71, 111], [52, 50], [100, 111, 110, 39, 116], [98, 101, 101], [115], [105, 110, 103], [99, 104, 117, 114, 99, 104], [112, 108, 97, 121]] w 9)
  clear h
  go_enter Tryz.func215, Tryz.ntmps215
  go_wp2_with fail
  refine (cur_of B C K w.heap.size 16 [[99, 97, 116], [104, 97, 112, 112, 121], [109, 97, 107, 101], [114, 117, 110], [116, 114, 121], [98, 111, 120], [100, 105, 101], [97], [71, 111], [52, 50], [100, 111, 110, 39, 116], [98, 101, 101], [115], [105, 110, 103], [99, 104, 117, 114, 99, 104], [112, 108, 97, 121]] _ (by omega) (by decide) (by decide) (by simp) (by omega) HL.out HC.out.1).mono ?_
  rintro e w1 ⟨s, hs, rfl, hc⟩
  have H1 := Lib.hid (HC.out.trans hc)
  have HS := Lib.hid (show s.length ≤ 20 from (by decide : ∀ s ∈ ([[99, 97, 116], [104, 97, 112, 112, 121], [109, 97, 107, 101], [114, 117, 110], [116, 114, 121], [98, 111, 120], [100, 105, 101], [97], [71, 111], [52, 50], [100, 111, 110, 39, 116], [98, 101, 101], [115], [105, 110, 103], [99, 104, 117, 114, 99, 104], [112, 108, 97, 121]] : List Str), s.length ≤ 20) s hs)
  clear hc hs
  go_wp2
  go_ret
  exact ⟨s, rfl, HS.out, H1.out⟩
def ABox (b : Nat) (v : World) : Prop := v.cell? ⟨b, 0, none⟩ = some (.int .i64 0) ∧ v.cell? ⟨b, 1, none⟩ = some (.string (S [])) ∧ v.frozen? ⟨b, 0, none⟩ = false ∧ v.frozen? ⟨b, 1, none⟩ = false ∧ b < v.heap.size
theorem ABox.stand {b : Nat} {v v' : World} {X : Blk} (h : ABox b v) (hc : Chg X v v') (hX : ¬ X b) : ABox b v' :=
  ⟨(hc.cell (p := ⟨b, 0, none⟩) h.2.2.2.2 hX).trans h.1, (hc.cell (p := ⟨b, 1, none⟩) h.2.2.2.2 hX).trans h.2.1, (hc.frozen (p := ⟨b, 0, none⟩) h.2.2.2.2 hX).trans h.2.2.1, (hc.frozen (p := ⟨b, 1, none⟩) h.2.2.2.2 hX).trans h.2.2.2.1, Nat.lt_of_lt_of_le h.2.2.2.2 hc.size⟩
theorem ABox.alloc {b : Nat} {v : World} (h : ABox b v) (o : Obj) : ABox b (v.alloc o) := h.stand (Below.chg ((Below.refl _ _).alloc (Nat.le_refl _) o) fun _ => False) fun h => h
theorem ABox.new (v : World) : ABox v.heap.size (v.alloc (.cells #[.int .i64 0, .string (S [])] 153)) := by
  refine ⟨?_, ?_, ?_, ?_, ?_⟩ <;> go_simp
def AtomDrawn (B C K : Nat) (w : World) (e : Ending) (w' : World) : Prop := ∃ (k : Int) (s : Str), e = .returned (atomV k s) ∧ s.length ≤ 20 ∧ CurPost B C K w w'
theorem cur_atom (B C K : Nat) (w : World) (hK : K < 2 ^ 37) (h : IsCur B C K w) :
    Calls Tryz.prog 181 #[.pointer (some ⟨C, 0, none⟩)] w (AtomDrawn B C (K + 4) w) := by
  have hlt := h.lt
  have HC := Lib.hid ((CurPost.refl h (Nat.le_refl K)).alloc (.cells #[.int .i64 0, .string (S [])] 153))
  have HA := Lib.hid (ABox.new w)
  clear h
  go_enter Tryz.func181, Tryz.ntmps181
  go_wp2_with fail
  refine (cur_pick B C K 14 _ (by omega) (by decide) HC.out.1).mono ?_
  rintro e w1 ⟨x, hx, rfl, hc⟩
  have H1 := Lib.hid (HC.out.trans hc)
  have HA1 := Lib.hid (HA.out.stand hc.2 (by omega))
  have hz1 : w.heap.size < w1.heap.size := HA1.out.2.2.2.2
  clear hc hx HC HA
  by_cases h0 : x = 0
  · subst h0
    have HC2 := Lib.hid (H1.out.alloc (.cells #[.string (S [105, 110, 103]), .string (S [115]), .string (S [101, 100]), .string (S [110, 101, 115, 115]), .string (S [101, 114]), .string (S [108, 121])] 9))
    have HL := Lib.hid (lit_strs [[105, 110, 103], [115], [101, 100], [110, 101, 115, 115], [101, 114], [108, 121]] w1 9)
    have HA2 := Lib.hid (HA1.out.alloc (.cells #[.string (S [105, 110, 103]), .string (S [115]), .string (S [101, 100]), .string (S [110, 101, 115, 115]), .string (S [101, 114]), .string (S [108, 121])] 9))
    clear HA1
    go_wp2_with fail
    refine (cur_of B C (K + 2) w1.heap.size 6 [[105, 110, 103], [115], [101, 100], [110, 101, 115, 115], [101, 114], [108, 121]] _ (by omega) (by decide) (by decide) (by simp) (by omega) HL.out HC2.out.1).mono ?_
    rintro e w2 ⟨s, hs, rfl, hc⟩
    have H2 := Lib.hid (HC2.out.trans hc)
    have HS := Lib.hid (show s.length ≤ 20 from (by decide : ∀ s ∈ ([[105, 110, 103], [115], [101, 100], [110, 101, 115, 115], [101, 114], [108, 121]] : List Str), s.length ≤ 20) s hs)
    have HA3 := Lib.hid (HA2.out.stand hc.2 (by omega))
    clear hc hs HA2 HC2 H1 HL
    obtain ⟨b0, b1, f0, f1, _⟩ := HA3.out
    go_wp2
    refine bodyPost_ret (v := atomV 2 s) (by simp [results, Tryz.results181, go_sem, b0, b1]) rfl ⟨2, s, rfl, HS.out, ?_⟩
    exact ((H2.out.set (g := w.heap.size) (i := 0) (Nat.le_refl _) hlt.2 (by omega) _).set (g := w.heap.size) (i := 1) (Nat.le_refl _) hlt.2 (by omega) _).mono (by omega)
  have h0' : ¬ (x : Int) = 0 := by omega
  clear h0
  by_cases h1 : x = 1
  · subst h1
    have HC2 := Lib.hid (H1.out.alloc (.cells #[.string (S [105, 110, 103]), .string (S [115]), .string (S [101, 100]), .string (S [110, 101, 115, 115]), .string (S [101, 114]), .string (S [108, 121])] 9))
    have HL := Lib.hid (lit_strs [[105, 110, 103], [115], [101, 100], [110, 101, 115, 115], [101, 114], [108, 121]] w1 9)
    have HA2 := Lib.hid (HA1.out.alloc (.cells #[.string (S [105, 110, 103]), .string (S [115]), .string (S [101, 100]), .string (S [110, 101, 115, 115]), .string (S [101, 114]), .string (S [108, 121])] 9))
    clear HA1
    go_wp2_with fail
    refine (cur_of B C (K + 2) w1.heap.size 6 [[105, 110, 103], [115], [101, 100], [110, 101, 115, 115], [101, 114], [108, 121]] _ (by omega) (by decide) (by decide) (by simp) (by omega) HL.out HC2.out.1).mono ?_
    rintro e w2 ⟨s, hs, rfl, hc⟩
    have H2 := Lib.hid (HC2.out.trans hc)
    have HS := Lib.hid (show s.length ≤ 20 from (by decide : ∀ s ∈ ([[105, 110, 103], [115], [101, 100], [110, 101, 115, 115], [101, 114], [108, 121]] : List Str), s.length ≤ 20) s hs)
    have HA3 := Lib.hid (HA2.out.stand hc.2 (by omega))
    clear hc hs HA2 HC2 H1 HL
    obtain ⟨b0, b1, f0, f1, _⟩ := HA3.out
    go_wp2
    refine bodyPost_ret (v := atomV 2 s) (by simp [results, Tryz.results181, go_sem, b0, b1]) rfl ⟨2, s, rfl, HS.out, ?_⟩
    exact ((H2.out.set (g := w.heap.size) (i := 0) (Nat.le_refl _) hlt.2 (by omega) _).set (g := w.heap.size) (i := 1) (Nat.le_refl _) hlt.2 (by omega) _).mono (by omega)
  have h1' : ¬ (x : Int) = 1 := by omega
  clear h1
  by_cases h2 : x = 2
  · subst h2
    have HC2 := Lib.hid (H1.out.alloc (.cells #[.string (S [117, 110]), .string (S [114, 101]), .string (S [40])] 9))
    have HL := Lib.hid (lit_strs [[117, 110], [114, 101], [40]] w1 9)
    have HA2 := Lib.hid (HA1.out.alloc (.cells #[.string (S [117, 110]), .string (S [114, 101]), .string (S [40])] 9))
    clear HA1
    go_wp2_with fail
    refine (cur_of B C (K + 2) w1.heap.size 3 [[117, 110], [114, 101], [40]] _ (by omega) (by decide) (by decide) (by simp) (by omega) HL.out HC2.out.1).mono ?_
    rintro e w2 ⟨s, hs, rfl, hc⟩
    have H2 := Lib.hid (HC2.out.trans hc)
    have HS := Lib.hid (show s.length ≤ 20 from (by decide : ∀ s ∈ ([[117, 110], [114, 101], [40]] : List Str), s.length ≤ 20) s hs)
    have HA3 := Lib.hid (HA2.out.stand hc.2 (by omega))
    clear hc hs HA2 HC2 H1 HL
    obtain ⟨b0, b1, f0, f1, _⟩ := HA3.out
    go_wp2
    refine bodyPost_ret (v := atomV 3 s) (by simp [results, Tryz.results181, go_sem, b0, b1]) rfl ⟨3, s, rfl, HS.out, ?_⟩
    exact ((H2.out.set (g := w.heap.size) (i := 0) (Nat.le_refl _) hlt.2 (by omega) _).set (g := w.heap.size) (i := 1) (Nat.le_refl _) hlt.2 (by omega) _).mono (by omega)
  have h2' : ¬ (x : Int) = 2 := by omega
  clear h2
  by_cases h3 : x = 3
  · subst h3
    have HC2 := Lib.hid (H1.out.alloc (.cells #[.string (S [45]), .string (S [47]), .string (S [39])] 9))
    have HL := Lib.hid (lit_strs [[45], [47], [39]] w1 9)
    have HA2 := Lib.hid (HA1.out.alloc (.cells #[.string (S [45]), .string (S [47]), .string (S [39])] 9))
    clear HA1
    go_wp2_with fail
    refine (cur_of B C (K + 2) w1.heap.size 3 [[45], [47], [39]] _ (by omega) (by decide) (by decide) (by simp) (by omega) HL.out HC2.out.1).mono ?_
    rintro e w2 ⟨s, hs, rfl, hc⟩
    have H2 := Lib.hid (HC2.out.trans hc)
    have HS := Lib.hid (show s.length ≤ 20 from (by decide : ∀ s ∈ ([[45], [47], [39]] : List Str), s.length ≤ 20) s hs)
    have HA3 := Lib.hid (HA2.out.stand hc.2 (by omega))
    clear hc hs HA2 HC2 H1 HL
    obtain ⟨b0, b1, f0, f1, _⟩ := HA3.out
    go_wp2
    refine bodyPost_ret (v := atomV 4 s) (by simp [results, Tryz.results181, go_sem, b0, b1]) rfl ⟨4, s, rfl, HS.out, ?_⟩
    exact ((H2.out.set (g := w.heap.size) (i := 0) (Nat.le_refl _) hlt.2 (by omega) _).set (g := w.heap.size) (i := 1) (Nat.le_refl _) hlt.2 (by omega) _).mono (by omega)
  have h3' : ¬ (x : Int) = 3 := by omega
  clear h3
  by_cases h4 : x = 4
  · subst h4
    have HC2 := Lib.hid (H1.out.alloc (.cells #[.string (S [97]), .string (S [98]), .string (S [55])] 9))
    have HL := Lib.hid (lit_strs [[97], [98], [55]] w1 9)
    have HA2 := Lib.hid (HA1.out.alloc (.cells #[.string (S [97]), .string (S [98]), .string (S [55])] 9))
    clear HA1
    go_wp2_with fail
    refine (cur_of B C (K + 2) w1.heap.size 3 [[97], [98], [55]] _ (by omega) (by decide) (by decide) (by simp) (by omega) HL.out HC2.out.1).mono ?_
    rintro e w2 ⟨s, hs, rfl, hc⟩
    have H2 := Lib.hid (HC2.out.trans hc)
    have HS := Lib.hid (show s.length ≤ 20 from (by decide : ∀ s ∈ ([[97], [98], [55]] : List Str), s.length ≤ 20) s hs)
    have HA3 := Lib.hid (HA2.out.stand hc.2 (by omega))
    clear hc hs HA2 HC2 H1 HL
    obtain ⟨b0, b1, f0, f1, _⟩ := HA3.out
    go_wp2
    refine bodyPost_ret (v := atomV 5 s) (by simp [results, Tryz.results181, go_sem, b0, b1]) rfl ⟨5, s, rfl, HS.out, ?_⟩
    exact ((H2.out.set (g := w.heap.size) (i := 0) (Nat.le_refl _) hlt.2 (by omega) _).set (g := w.heap.size) (i := 1) (Nat.le_refl _) hlt.2 (by omega) _).mono (by omega)
  have h4' : ¬ (x : Int) = 4 := by omega
  clear h4
  by_cases h5 : x = 5
  · subst h5
    have HC2 := Lib.hid (H1.out.alloc (.cells #[.string (S [46]), .string (S [33]), .string (S [63])] 9))
    have HL := Lib.hid (lit_strs [[46], [33], [63]] w1 9)
    have HA2 := Lib.hid (HA1.out.alloc (.cells #[.string (S [46]), .string (S [33]), .string (S [63])] 9))
    clear HA1
    go_wp2_with fail
    refine (cur_of B C (K + 2) w1.heap.size 3 [[46], [33], [63]] _ (by omega) (by decide) (by decide) (by simp) (by omega) HL.out HC2.out.1).mono ?_
    rintro e w2 ⟨s, hs, rfl, hc⟩
    have H2 := Lib.hid (HC2.out.trans hc)
    have HS := Lib.hid (show s.length ≤ 20 from (by decide : ∀ s ∈ ([[46], [33], [63]] : List Str), s.length ≤ 20) s hs)
    have HA3 := Lib.hid (HA2.out.stand hc.2 (by omega))
    clear hc hs HA2 HC2 H1 HL
    obtain ⟨b0, b1, f0, f1, _⟩ := HA3.out
    go_wp2
    refine bodyPost_ret (v := atomV 6 s) (by simp [results, Tryz.results181, go_sem, b0, b1]) rfl ⟨6, s, rfl, HS.out, ?_⟩
    exact ((H2.out.set (g := w.heap.size) (i := 0) (Nat.le_refl _) hlt.2 (by omega) _).set (g := w.heap.size) (i := 1) (Nat.le_refl _) hlt.2 (by omega) _).mono (by omega)
  have h5' : ¬ (x : Int) = 5 := by omega
  clear h5
  by_cases h6 : x = 6
  · subst h6
    have HC2 := Lib.hid (H1.out.alloc (.cells #[.string (S [44]), .string (S [59]), .string (S [58])] 9))
    have HL := Lib.hid (lit_strs [[44], [59], [58]] w1 9)
    have HA2 := Lib.hid (HA1.out.alloc (.cells #[.string (S [44]), .string (S [59]), .string (S [58])] 9))
    clear HA1
    go_wp2_with fail
    refine (cur_of B C (K + 2) w1.heap.size 3 [[44], [59], [58]] _ (by omega) (by decide) (by decide) (by simp) (by omega) HL.out HC2.out.1).mono ?_
    rintro e w2 ⟨s, hs, rfl, hc⟩
    have H2 := Lib.hid (HC2.out.trans hc)
    have HS := Lib.hid (show s.length ≤ 20 from (by decide : ∀ s ∈ ([[44], [59], [58]] : List Str), s.length ≤ 20) s hs)
    have HA3 := Lib.hid (HA2.out.stand hc.2 (by omega))
    clear hc hs HA2 HC2 H1 HL
    obtain ⟨b0, b1, f0, f1, _⟩ := HA3.out
    go_wp2
    refine bodyPost_ret (v := atomV 7 s) (by simp [results, Tryz.results181, go_sem, b0, b1]) rfl ⟨7, s, rfl, HS.out, ?_⟩
    exact ((H2.out.set (g := w.heap.size) (i := 0) (Nat.le_refl _) hlt.2 (by omega) _).set (g := w.heap.size) (i := 1) (Nat.le_refl _) hlt.2 (by omega) _).mono (by omega)
  have h6' : ¬ (x : Int) = 6 := by omega
  clear h6
  by_cases h7 : x = 7
  · subst h7
    go_wp2_with fail
    refine (cur_pick B C (K + 2) 3 _ (by omega) (by decide) H1.out.1).mono ?_
    rintro e w2 ⟨z, hz, rfl, hc⟩
    have hz3 : z < 3 := by omega
    have H2 := Lib.hid (H1.out.trans hc)
    have HA3 := Lib.hid (HA1.out.stand hc.2 (by omega))
    clear hc hz H1 HA1
    obtain ⟨b0, b1, f0, f1, _⟩ := HA3.out
    go_wp2
    refine bodyPost_ret (v := atomV (8 + (z : Int)) []) (by simp [results, Tryz.results181, go_sem, b0, b1]) rfl ⟨(8 + (z : Int)), [], rfl, Nat.zero_le _, ?_⟩
    exact ((H2.out.set (g := w.heap.size) (i := 0) (Nat.le_refl _) hlt.2 (by omega) _).set (g := w.heap.size) (i := 1) (Nat.le_refl _) hlt.2 (by omega) _).mono (by omega)
  have h7' : ¬ (x : Int) = 7 := by omega
  clear h7
  go_wp2_with fail
  refine (cur_wordText B C (K + 2) _ (by omega) H1.out.1).mono ?_
  rintro e w2 ⟨s, rfl, hs, hc⟩
  have H2 := Lib.hid (H1.out.trans hc)
  have HA3 := Lib.hid (HA1.out.stand hc.2 (by omega))
  have HS := Lib.hid hs
  clear hc hs H1 HA1
  obtain ⟨b0, b1, f0, f1, _⟩ := HA3.out
  go_wp2
  refine bodyPost_ret (v := atomV 1 s) (by simp [results, Tryz.results181, go_sem, b0, b1]) rfl ⟨1, s, rfl, HS.out, ?_⟩
  exact ((H2.out.set (g := w.heap.size) (i := 0) (Nat.le_refl _) hlt.2 (by omega) _).set (g := w.heap.size) (i := 1) (Nat.le_refl _) hlt.2 (by omega) _).mono (by omega)
def AtomsDrawn (B C K : Nat) (w : World) (e : Ending) (w' : World) : Prop := ∃ (l : List (Int × Str)) (u : Value), e = .returned u ∧ l.length ≤ 4 ∧ (∀ a ∈ l, a.2.length ≤ 20) ∧ OwnAtoms w.heap.size w' u l ∧ CurPost B C K w w'
def AtomRun (B C K : Nat) (w v : World) (u : Value) (l : List (Int × Str)) : Prop := (∃ a n c, u = .slice a n c) ∧ OwnAtoms w.heap.size v u l ∧ CurPost B C K w v
theorem AtomRun.cur {B C K K' : Nat} {w v v' : World} {u : Value} {l : List (Int × Str)} (h : AtomRun B C K w v u l) (hw : C < w.heap.size) (hc : CurPost B C K' v v') : AtomRun B C K' w v' u l :=
  ⟨h.1, owns_stand h.2.1 hc.2 fun k hk e => by have := (World.ownsRow.lt h.2.1 k hk).1; omega, h.2.2.trans hc⟩
theorem info_atomC : (Tryz.prog.info? 153).map (fun i => (i.zero, i.size, i.bytes)) = some (some (.agg #[.int .i64 0, .string ⟨#[]⟩]), 2, 24) := by kernel_rfl
theorem cur_atoms (B C K : Nat) (w : World) (hK : K < 2 ^ 36) (h : IsCur B C K w) :
    Calls Tryz.prog 131 #[.pointer (some ⟨C, 0, none⟩)] w (AtomsDrawn B C (K + 30) w) := by
  obtain ⟨i0, hi, hz0, hz1, hz2⟩ := info_parts info_atomC
  have hlt := h.lt
  have HC := Lib.hid ((CurPost.refl h (Nat.le_refl K)).alloc (.cells #[] 153))
  have HOW := Lib.hid (show OwnAtoms w.heap.size (w.alloc (.cells #[] 153)) (.slice (some ⟨w.heap.size, 0, none⟩) 0 0) [] by have h := World.ownsRow_lit (base := w.heap.size) (e := 153) (size := 2) w #[] 0 (Nat.le_refl _) (Nat.zero_le _) (by simp); exact h)
  clear h
  go_enter Tryz.func131, Tryz.ntmps131
  go_wp2_with fail
  refine (cur_pick B C K 4 _ (by omega) (by decide) HC.out.1).mono ?_
  rintro e w1 ⟨x, hx, rfl, hc⟩
  have hx4 : x < 4 := by omega
  have HR := Lib.hid (show AtomRun B C (K + 2) w w1 (.slice (some ⟨w.heap.size, 0, none⟩) 0 0) [] from AtomRun.cur (K := K) ⟨⟨_, _, _, rfl⟩, HOW.out, HC.out⟩ hlt.2 hc)
  clear hc hx HOW
  go_wp2_with fail
  go_loopw [3, 4] (fun s n wr => ∃ (l : List (Int × Str)) (k : Nat), l.length + k ≤ 4 ∧ (∀ a ∈ l, a.2.length ≤ 20) ∧ n = .int .i64 k ∧ AtomRun B C (K + 30 - 4 * k) w wr s l) (fun _ n _ => (intOf n).toNat)
  case atStart => exact ⟨[], x + 1, by simp; omega, (fun a h => by cases h), by go_num, HR.out.1, HR.out.2.1, HR.out.2.2.mono (by omega)⟩
  case round =>
    obtain ⟨l, k, hk, hall, rfl, hr⟩ := hrel
    have H3 := Lib.hid hr; have HALL := Lib.hid hall
    obtain ⟨⟨ua, un, uc, rfl⟩, _⟩ := hr
    clear hall
    by_cases hp : 0 < k
    · go_wp2_with fail
      refine (cur_atom B C (K + 30 - 4 * k) _ (by omega) H3.out.2.2.1).mono ?_
      rintro e w3 ⟨kk, s, rfl, hs, hc⟩
      have H5 := Lib.hid ((H3.out.cur hlt.2 hc))
      have HS := Lib.hid hs
      have HOW2 := Lib.hid (show (w3.alloc (.cells #[.int .i64 kk, .string (S s)] 153)).ownsRow w.heap.size 153 2 (.slice ua un uc) l.length (atomVals l) from World.ownsRow.alloc H5.out.2.1 _)
      have HZ3 := Lib.hid H5.out.2.2.2.size
      clear hc hs
      go_wp2_with (at_builtin; refine wpList_append_own _ rfl _ _ 146 rfl w.heap.size 153 i0 (.agg #[.int .i64 0, .string ⟨#[]⟩]) 2 24 Tryz.underlying146 hi hz0 hz1 hz2 rfl (by decide) (.slice ua un uc) l.length (atomVals l) rfl HOW2.out ⟨w3.heap.size, 0, none⟩ 1 1 [.int .i64 kk, .string (S s)] rfl rfl ?_ ?_ ?_ ?_ ?_ ?_)
      all_goals first | exact ⟨rfl, rfl⟩ | (intro z hz; simp only [List.mem_cons, List.not_mem_nil, or_false] at hz; rcases hz with rfl | rfl <;> rfl) | (unfold maxLen; omega) | omega | (have h1 := HZ3.out; simp; omega) | (intro i z hz; rcases i with _ | _ | i; (injection hz with hz; subst hz; rw [add0]; go_simp); (injection hz with hz; subst hz; rw [add0]; go_simp); cases hz) | skip
      intro u4 w4 hown hgr _
      have HOW4 := Lib.hid (show OwnAtoms w.heap.size w4 u4 (l ++ [(kk, s)]) by unfold OwnAtoms; rw [atomVals_snoc, List.length_append]; exact hown)
      have HC4 := Lib.hid ((H5.out.2.2.alloc (.cells #[.int .i64 kk, .string (S s)] 153)).new (Chg.grown hgr) (fun b hb => (World.ownsRow.lt H5.out.2.1 b hb).1) hlt.2 (by omega))
      clear hown hgr
      go_wp2
      go_roundw
      case rel => exact ⟨_, k - 1, by rw [List.length_append]; simp; omega, (fun a ha => by rcases List.mem_append.1 ha with ha | ha; exact HALL.out a ha; simp at ha; subst ha; exact HS.out), by go_num, ⟨by obtain ⟨a, c, e⟩ := own_lenA HOW4.out; exact ⟨_, _, _, e⟩, HOW4.out, HC4.out.mono (by omega)⟩⟩
      case measure => simp [intOf]; omega
    · go_wp2
      go_ret
      exact ⟨l, _, rfl, by omega, HALL.out, H3.out.2.1, H3.out.2.2.mono (by omega)⟩
theorem l5Text (u : Value) (l : List (Int × Str)) (w : World) (hu : AtomR w u l) (hl : l.length ≤ 100) (hw : ∀ a ∈ l, a.2.length ≤ 60) :
    Calls Tryz.prog 133 #[u] w fun e w' => ∃ s : Str, e = .returned (.string (S s)) ∧ s.length ≤ 66 * l.length ∧ Below w.heap.size w w' := by
  obtain ⟨ad, cap, rfl, hr⟩ := hu
  have HR := Lib.hid hr; clear hr
  have HW := Lib.hid hw; clear hw
  go_enter Tryz.func133, Tryz.ntmps133
  go_wp2_with fail
  go_loopw [3, 4] (fun z i wr => ∃ (j : Nat) (s : Str), j ≤ l.length ∧ i = .int .i64 j ∧ z = .string (S s) ∧ s.length ≤ 66 * j ∧ Below w.heap.size w wr) (fun _ i _ => l.length - (intOf i).toNat)
  case atStart => exact ⟨0, [], Nat.zero_le _, rfl, rfl, by simp, Below.refl _ _⟩
  case round =>
    obtain ⟨j, s, hj, rfl, rfl, hs, hb⟩ := hrel
    have HB := Lib.hid hb
    by_cases hlt : j < l.length
    · obtain ⟨g, rfl, hg, hat⟩ : ∃ g, ad = some ⟨g, 0, none⟩ ∧ g < w.heap.size ∧ AtomAt g l w := by
        rcases HR.out with h | h
        · rw [h] at hlt; exact absurd hlt (Nat.not_lt_zero _)
        · exact h
      obtain ⟨c0, c1⟩ := hat j hlt
      have c0' := (hb.cell (p := ⟨g, j * 2, none⟩) hg).trans c0
      have c1' := (hb.cell (p := ⟨g, j * 2 + 1, none⟩) hg).trans c1
      have hwl := HW.out _ (List.getElem_mem hlt)
      generalize l[j] = a at *
      obtain ⟨k, t⟩ := a
      simp only at c0' c1' hwl
      have HNL := Lib.hid (P.note_len k t)
      have i1 : (j : Int) < (l.length : Int) := by omega
      have hsz := hb.size
      clear c0 c1 hat hb
      have ho1 : ¬ 9223372036854775807 < s.length + 1 := by omega
      have hnl : (P.note k t).length ≤ 65 := by have := HNL.out; omega
      have ho2 : ¬ 9223372036854775807 < s.length + (P.note k t).length := by omega
      have ho3 : ¬ 9223372036854775807 < s.length + 1 + (P.note k t).length := by omega
      have HNN := Lib.hid hnl
      clear hnl
      by_cases hp : 0 < j
      all_goals
        go_wp2_with fail
        refine (l5Format k t _ (by omega)).mono ?_
        rintro e v ⟨rfl, hb⟩
        have HB2 := Lib.hid (HB.out.trans (hb.mono hsz)); clear hb
        have hlen := HNN.out
        generalize P.note k t = q at *
        clear HNL
        go_wp2
        go_roundw
        case rel =>
          repeat apply Exists.intro
          refine ⟨?_, rfl⟩
          exact ⟨j + 1, _, by omega, by go_num, rfl, by simp; omega, HB2.out⟩
        case measure => simp [intOf]; omega
    · clear hb
      go_wp2
      go_ret
      exact ⟨s, rfl, by omega, HB.out⟩
theorem cur_translation (B C K : Nat) (w : World) (hK : K < 2 ^ 35) (h : IsCur B C K w) :
    Calls Tryz.prog 65 #[.pointer (some ⟨C, 0, none⟩)] w (TextDrawn B C (K + 30) 300 w) := by
  have HC := Lib.hid h
  clear h
  go_enter Tryz.func65, Tryz.ntmps65
  go_wp2_with fail
  refine (cur_atoms B C K _ (by omega) HC.out).mono ?_
  rintro e w1 ⟨l, u, rfl, hl, hall, ho, hc⟩
  have H1 := Lib.hid hc; have HR := Lib.hid (own_atoms ho); have HALL := Lib.hid (fun a ha => Nat.le_trans (hall a ha) (by decide : 20 ≤ 60))
  obtain ⟨ua, uc, rfl⟩ := own_lenA ho
  clear hc ho hall
  go_wp2_with fail
  refine (l5List _ l _ HR.out (by omega) HALL.out).mono ?_
  rintro e w2 ⟨rfl, hb⟩
  have H2 := Lib.hid (H1.out.below hb)
  have HR2 := Lib.hid (show AtomR w2 (.slice ua l.length uc) l by
    obtain ⟨ad, cap, e, h⟩ := HR.out
    refine ⟨ad, cap, e, h.imp id ?_⟩
    rintro ⟨g, h1, h2, h3⟩
    exact ⟨g, h1, Nat.lt_of_lt_of_le h2 hb.size, fun j hj => ⟨(hb.cell (p := ⟨g, _, none⟩) h2).trans (h3 j hj).1, (hb.cell (p := ⟨g, _, none⟩) h2).trans (h3 j hj).2⟩⟩)
  clear hb
  cases hq : P.listS l
  · clear hq
    go_wp2
    go_ret
    exact ⟨[119, 111, 114, 100], rfl, by simp, H2.out⟩
  · clear hq
    go_wp2_with fail
    refine (l5Text _ l _ HR2.out (by omega) HALL.out).mono ?_
    rintro e w3 ⟨s, rfl, hs, hb⟩
    have H3 := Lib.hid (H2.out.below hb)
    clear hb
    go_wp2
    go_ret
    exact ⟨s, rfl, by omega, H3.out⟩
def EBoxN (b : Nat) (v : World) : Prop := v.cell? ⟨b, 0, none⟩ = some (.slice none 0 0) ∧ v.cell? ⟨b, 1, none⟩ = some (.string (S [])) ∧ v.frozen? ⟨b, 0, none⟩ = false ∧ v.frozen? ⟨b, 1, none⟩ = false ∧ b < v.heap.size
theorem EBoxN.stand {b : Nat} {v v' : World} {X : Blk} (h : EBoxN b v) (hc : Chg X v v') (hX : ¬ X b) : EBoxN b v' :=
  ⟨(hc.cell (p := ⟨b, 0, none⟩) h.2.2.2.2 hX).trans h.1, (hc.cell (p := ⟨b, 1, none⟩) h.2.2.2.2 hX).trans h.2.1, (hc.frozen (p := ⟨b, 0, none⟩) h.2.2.2.2 hX).trans h.2.2.1, (hc.frozen (p := ⟨b, 1, none⟩) h.2.2.2.2 hX).trans h.2.2.2.1, Nat.lt_of_lt_of_le h.2.2.2.2 hc.size⟩
theorem EBoxN.new (v : World) : EBoxN v.heap.size (v.alloc (.cells #[.slice none 0 0, .string (S [])] 47)) := by
  refine ⟨?_, ?_, ?_, ?_, ?_⟩ <;> go_simp
def EntDrawn (B C K : Nat) (w : World) (e : Ending) (w' : World) : Prop := ∃ (o : List Int) (t : Str) (x : Value), e = .returned (.agg #[x, .string (S t)]) ∧ o.length ≤ 3 ∧ t.length ≤ 300 ∧ Ints w' (fun b => Bet (w.heap.size + 1) w'.heap.size b) x o ∧ CurPost B C K w w'
theorem cur_entry (B C K : Nat) (w : World) (hK : K < 2 ^ 34) (h : IsCur B C K w) :
    Calls Tryz.prog 114 #[.pointer (some ⟨C, 0, none⟩)] w (EntDrawn B C (K + 100) w) := by
  have hlt := h.lt
  have HC := Lib.hid ((CurPost.refl h (Nat.le_refl K)).alloc (.cells #[.slice none 0 0, .string (S [])] 47))
  have HA := Lib.hid (EBoxN.new w)
  clear h
  go_enter Tryz.func114, Tryz.ntmps114
  go_wp2_with fail
  refine (cur_outline B C K _ (by omega) HC.out.1).mono ?_
  rintro e w1 ⟨o, u, rfl, ho, hown, hc⟩
  have H1 := Lib.hid (HC.out.trans hc)
  have HA1 := Lib.hid (HA.out.stand hc.2 (by omega))
  have HI := Lib.hid (show Ints w1 (Bet (w.heap.size + 1) w1.heap.size) u o by have h := ints_of_owns hown (by omega); simpa using h)
  clear hc hown HC HA
  obtain ⟨ud, uc, rfl, _, _⟩ := id HI.out
  go_wp2_with fail
  refine (cur_translation B C (K + 60) _ (by omega) H1.out.1).mono ?_
  rintro e w2 ⟨t, rfl, ht, hc⟩
  have H2 := Lib.hid (H1.out.trans hc)
  have HA2 := Lib.hid (HA1.out.stand hc.2 (by omega))
  have HI2 := Lib.hid (HI.out.stand intE_ok hc.2 (fun b hb e => by have h1 := hb.1; omega))
  have HZ := Lib.hid (show w1.heap.size ≤ w2.heap.size from hc.2.size)
  clear hc HA1 HI H1
  obtain ⟨b0, b1, f0, f1, bz⟩ := HA2.out
  go_wp2
  refine bodyPost_ret (v := .agg #[.slice ud o.length uc, .string (S t)]) (by simp [results, Tryz.results114, go_sem, b0, b1]) rfl ⟨o, t, _, rfl, ho, ht, ?_, ?_⟩
  · refine (HI2.out.stand (X := fun b => b = w.heap.size) intE_ok ((((Chg.refl (fun b => b = w.heap.size) w2).setCell (p := ⟨w.heap.size, 0, none⟩) rfl _).setCell (p := ⟨w.heap.size, 1, none⟩) rfl _)) (fun b hb e => by have h1 := hb.1; omega)).wide ?_ ?_
    · intro b hb
      have h1 := hb.1; have h2 := hb.2; have h3 := HZ.out
      exact ⟨h1, by simp [World.setCell]; omega⟩
    · exact fun b hb => hb.2
  · exact ((H2.out.set (g := w.heap.size) (i := 0) (Nat.le_refl _) hlt.2 (by omega) _).set (g := w.heap.size) (i := 1) (Nat.le_refl _) hlt.2 (by omega) _).mono (by omega)
end Go.Proofs.YtmlklnimoknojaaGreatDoor
