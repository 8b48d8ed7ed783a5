/- Walks: strokes and outlines that the cursor draws. -/
import Derived.Test.YtmlklnimoknojaaGreatDoorCurD
import Derived.Test.YtmlklnimoknojaaGreatDoorMemE
namespace Go.Proofs.YtmlklnimoknojaaGreatDoor
open Go Go.RowKit
set_option maxHeartbeats 2000000
set_option maxRecDepth 100000
theorem Chg.grown {v v' : World} {row : Option Nat} (h : v.grownBy v' row) : Chg (fun b => row = some b) v v' :=
  ⟨h.os, h.tape, h.output, h.size, fun b hb hf => h.block b hb fun e => hf e.symm⟩
theorem owns_stand {B : Nat} {e : TypeId} {z : Nat} {v v' : World} {u : Value} {n : Nat} {xs : List Value} {X : Blk} (h : v.ownsRow B e z u n xs) (hc : Chg X v v') (hX : ∀ k, u.ownBlock = some k → ¬ X k) : v'.ownsRow B e z u n xs := by
  refine ⟨h.1, h.2.imp id ?_⟩
  rintro ⟨g, cap, cur, e, hg, hh, r⟩
  have hk : u.ownBlock = some g := by rw [e]; rfl
  exact ⟨g, cap, cur, e, hg, (hc.block g (World.ownsRow.lt h g hk).2 (hX g hk)).trans hh, r⟩
theorem owns_base {B B' : Nat} {e : TypeId} {z : Nat} {v : World} {u : Value} {n : Nat} {xs : List Value} (h : v.ownsRow B e z u n xs) (hB : B' ≤ B) : v.ownsRow B' e z u n xs :=
  ⟨h.1, h.2.imp id fun ⟨g, cap, cur, e, hg, r⟩ => ⟨g, cap, cur, e, Nat.le_trans hB hg, r⟩⟩
theorem lit_ints (l : List Int) (v : World) (t : TypeId) (j : Nat) (h : j < l.length) : (v.alloc (.cells (l.map (Value.int .i64)).toArray t)).cell? ⟨v.heap.size, j, none⟩ = some (.int .i64 (l[j]'h)) := by
  rw [World.cell?_alloc_new]
  simp [h]
theorem lit_strs (l : List Str) (v : World) (t : TypeId) (j : Nat) (h : j < l.length) : (v.alloc (.cells (l.map fun s => Value.string (S s)).toArray t)).cell? ⟨v.heap.size, j, none⟩ = some (.string (S (l[j]'h))) := by
  rw [World.cell?_alloc_new]
  simp [h]
def IntDrawn (B C K : Nat) (w : World) (e : Ending) (w' : World) : Prop := ∃ s : Int, e = .returned (.int .i64 s) ∧ CurPost B C K w w'
theorem cur_few (B C K : Nat) (w : World) (hK : K < 2 ^ 38) (h : IsCur B C K w) :
    Calls Tryz.prog 50 #[.pointer (some ⟨C, 0, none⟩)] w (IntDrawn B C (K + 2) w) := by
  have hlt := h.lt
  have HC := Lib.hid ((CurPost.refl h (Nat.le_refl K)).alloc (.cells #[.int .i64 524552, .int .i64 260, .int .i64 1048576, .int .i64 262144] 3))
  have HL := Lib.hid (lit_ints [524552, 260, 1048576, 262144] w 3)
  clear h
  go_enter Tryz.func50, Tryz.ntmps50
  go_wp2_with fail
  refine (cur_among B C K w.heap.size 4 [524552, 260, 1048576, 262144] _ (by omega) (by decide) (by decide) (by simp) (by omega) HL.out HC.out.1).mono ?_
  rintro e w1 ⟨s, _, rfl, hc⟩
  have H1 := Lib.hid (HC.out.trans hc)
  clear hc
  go_wp2
  go_ret
  exact ⟨s, rfl, H1.out⟩
theorem cur_stroke (B C K : Nat) (w : World) (hK : K < 2 ^ 38) (h : IsCur B C K w) :
    Calls Tryz.prog 119 #[.pointer (some ⟨C, 0, none⟩)] w (IntDrawn B C (K + 12) w) := by
  have hlt := h.lt
  have HC := Lib.hid h
  clear h
  go_enter Tryz.func119, Tryz.ntmps119
  go_wp2_with fail
  refine (cur_one B C K 2 _ (by omega) (by decide) HC.out).mono ?_
  rintro e w1 ⟨b, rfl, hc⟩
  have H1 := Lib.hid hc
  have hz1 : w.heap.size ≤ w1.heap.size := hc.2.size
  clear hc
  cases b
  · go_wp2_with fail
    refine (cur_pick B C (K + 2) 4 _ (by omega) (by decide) H1.out.1).mono ?_
    rintro e w2 ⟨x, hx, rfl, hc⟩
    have hx4 : x < 4 := by omega
    have H2 := Lib.hid (H1.out.trans hc)
    clear hc hx
    go_wp2_with fail
    go_loopw [3, 4] (fun s n wr => ∃ (y : Int) (k : Nat), k ≤ 4 ∧ s = .int .i64 y ∧ n = .int .i64 k ∧ CurPost B C (K + 12 - 2 * k) w wr) (fun _ n _ => (intOf n).toNat)
    case atStart => exact ⟨0, x + 1, by omega, rfl, by go_num, H2.out.mono (by omega)⟩
    case round =>
      obtain ⟨y, k, hk, rfl, rfl, hc⟩ := hrel
      have H3 := Lib.hid hc
      clear hc
      by_cases hp : 0 < k
      · go_wp2_with fail
        refine (cur_pick B C (K + 12 - 2 * k) 23 _ (by omega) (by decide) H3.out.1).mono ?_
        rintro e w3 ⟨z, hz, rfl, hc⟩
        have hz23 : z < 23 := by omega
        have H4 := Lib.hid (H3.out.trans hc)
        clear hc hz
        go_wp2
        go_roundw
        case rel => exact ⟨_, k - 1, by omega, rfl, by go_num, H4.out.mono (by omega)⟩
        case measure => simp [intOf]; omega
      · go_wp2
        go_ret
        exact ⟨y, rfl, H3.out.mono (by omega)⟩
  · have HC2 := Lib.hid (H1.out.alloc (.cells #[.int .i64 524552, .int .i64 260, .int .i64 1048576, .int .i64 262144, .int .i64 4194304, .int .i64 514, .int .i64 8, .int .i64 2064, .int .i64 2097152] 3))
    have HL := Lib.hid (lit_ints [524552, 260, 1048576, 262144, 4194304, 514, 8, 2064, 2097152] w1 3)
    go_wp2_with fail
    refine (cur_among B C (K + 2) w1.heap.size 9 [524552, 260, 1048576, 262144, 4194304, 514, 8, 2064, 2097152] _ (by omega) (by decide) (by decide) (by simp) (by omega) HL.out HC2.out.1).mono ?_
    rintro e w2 ⟨s, _, rfl, hc⟩
    have H2 := Lib.hid (HC2.out.trans hc)
    clear hc
    go_wp2
    go_ret
    exact ⟨s, rfl, H2.out.mono (by omega)⟩
theorem cur_anyStroke (B C K : Nat) (w : World) (hK : K < 2 ^ 37) (h : IsCur B C K w) :
    Calls Tryz.prog 53 #[.pointer (some ⟨C, 0, none⟩)] w (IntDrawn B C (K + 14) w) := by
  have hlt := h.lt
  have HC := Lib.hid h
  clear h
  go_enter Tryz.func53, Tryz.ntmps53
  go_wp2_with fail
  refine (cur_one B C K 12 _ (by omega) (by decide) HC.out).mono ?_
  rintro e w1 ⟨b, rfl, hc⟩
  have H1 := Lib.hid hc
  have hz1 : w.heap.size ≤ w1.heap.size := hc.2.size
  clear hc
  cases b
  · go_wp2_with fail
    refine (cur_stroke B C (K + 2) _ (by omega) H1.out.1).mono ?_
    rintro e w2 ⟨s, rfl, hc⟩
    have H2 := Lib.hid (H1.out.trans hc)
    clear hc
    go_wp2
    go_ret
    exact ⟨s, rfl, H2.out.mono (by omega)⟩
  · have HC2 := Lib.hid (H1.out.alloc (.cells #[.int .i64 0, .int .i64 (-1), .int .i64 8388608, .int .i64 8388607, .int .i64 1, .int .i64 1099511627776] 3))
    have HL := Lib.hid (lit_ints [0, -1, 8388608, 8388607, 1, 1099511627776] w1 3)
    go_wp2_with fail
    refine (cur_among B C (K + 2) w1.heap.size 6 [0, -1, 8388608, 8388607, 1, 1099511627776] _ (by omega) (by decide) (by decide) (by simp) (by omega) HL.out HC2.out.1).mono ?_
    rintro e w2 ⟨s, _, rfl, hc⟩
    have H2 := Lib.hid (HC2.out.trans hc)
    clear hc
    go_wp2
    go_ret
    exact ⟨s, rfl, H2.out.mono (by omega)⟩
def OutDrawn (B C K m : Nat) (w : World) (e : Ending) (w' : World) : Prop := ∃ (l : List Int) (u : Value), e = .returned u ∧ l.length ≤ m ∧ w'.ownsRow w.heap.size 3 1 u l.length (ints l) ∧ CurPost B C K w w'
def OutRun (B C K : Nat) (w v : World) (u : Value) (l : List Int) : Prop := (∃ a n c, u = .slice a n c) ∧ v.ownsRow w.heap.size 3 1 u l.length (ints l) ∧ CurPost B C K w v
theorem OutRun.cur {B C K K' : Nat} {w v v' : World} {u : Value} {l : List Int} (h : OutRun B C K w v u l) (hw : C < w.heap.size) (hc : CurPost B C K' v v') : OutRun B C K' w v' u l :=
  ⟨h.1, owns_stand h.2.1 hc.2 fun k hk e => by have := (World.ownsRow.lt h.2.1 k hk).1; omega, h.2.2.trans hc⟩
theorem OutRun.app {B C K m : Nat} {w v v' : World} {u u' : Value} {l : List Int} {x : Int} (h : OutRun B C K w v u l) (hw : IsCur B C m w) (t : TypeId)
    (hown : v'.ownsRow w.heap.size 3 1 u' (l.length + 1) (ints l ++ [.int .i64 x])) (hgr : (v.alloc (.cells #[.int .i64 x] t)).grownBy v' u.ownBlock) : OutRun B C K w v' u' (l ++ [x]) := by
  have hlt := hw.lt
  refine ⟨?_, by simpa [ints] using hown, ?_⟩
  · rcases hown.2 with ⟨rfl, _⟩ | ⟨g, cap, cur, rfl, _⟩
    · exact ⟨_, _, _, rfl⟩
    · exact ⟨_, _, _, rfl⟩
  · exact (h.2.2.alloc _).new (Chg.grown hgr) (fun b hb => (World.ownsRow.lt h.2.1 b hb).1) (by omega) (by omega)
theorem cur_outline (B C K : Nat) (w : World) (hK : K < 2 ^ 37) (h : IsCur B C K w) :
    Calls Tryz.prog 173 #[.pointer (some ⟨C, 0, none⟩)] w (OutDrawn B C (K + 60) 3 w) := by
  obtain ⟨i0, hi, hz0, hz1, hz2⟩ := info_parts info_int
  have hlt := h.lt
  have HC0 := Lib.hid h
  have HC := Lib.hid ((CurPost.refl h (Nat.le_refl K)).alloc (.cells #[] 3))
  have HOW := Lib.hid (show (w.alloc (.cells #[] 3)).ownsRow w.heap.size 3 1 (.slice (some ⟨w.heap.size, 0, none⟩) 0 0) 0 [] by have h := World.ownsRow_lit (base := w.heap.size) (e := 3) (size := 1) w #[] 0 (Nat.le_refl _) (Nat.zero_le _) (by simp); simpa using h)
  clear h
  go_enter Tryz.func173, Tryz.ntmps173
  go_wp2_with fail
  refine (cur_pick B C K 3 _ (by omega) (by decide) HC.out.1).mono ?_
  rintro e w1 ⟨x, hx, rfl, hc⟩
  have hx3 : x < 3 := by omega
  have HR := Lib.hid (show OutRun B C (K + 2) w w1 (.slice (some ⟨w.heap.size, 0, none⟩) 0 0) [] from OutRun.cur (K := K) ⟨⟨_, _, _, rfl⟩, HOW.out, HC.out⟩ hlt.2 hc)
  clear hc hx
  go_wp2_with fail
  go_loopw [3, 4] (fun s n wr => ∃ (l : List Int) (k : Nat), l.length + k ≤ 3 ∧ n = .int .i64 k ∧ OutRun B C (K + 50 - 14 * k) w wr s l) (fun _ n _ => (intOf n).toNat)
  case atStart => exact ⟨[], x + 1, by simp; omega, by go_num, HR.out.1, HR.out.2.1, HR.out.2.2.mono (by omega)⟩
  case round =>
    obtain ⟨l, k, hk, rfl, hr⟩ := hrel
    have H3 := Lib.hid hr
    obtain ⟨⟨ua, un, uc, rfl⟩, _⟩ := hr
    by_cases hp : 0 < k
    · go_wp2_with fail
      refine (cur_one B C (K + 50 - 14 * k) 5 _ (by omega) (by decide) H3.out.2.2.1).mono ?_
      rintro e w2 ⟨b, rfl, hc⟩
      have H4 := Lib.hid (H3.out.cur hlt.2 hc)
      clear hc
      cases b
      all_goals
        go_wp2_with fail
        first
          | (refine (cur_few B C (K + 50 - 14 * k + 2) _ (by omega) H4.out.2.2.1).mono ?_)
          | (refine (cur_stroke B C (K + 50 - 14 * k + 2) _ (by omega) H4.out.2.2.1).mono ?_)
        rintro e w3 ⟨y, rfl, hc⟩
        have H5 := Lib.hid ((H4.out.cur hlt.2 hc))
        have HOW2 := Lib.hid (H5.out.2.1.alloc (.cells #[.int .i64 y] 3))
        have hz3 := H5.out.2.2.2.size
        have HZ3 := Lib.hid hz3
        clear hc hz3
        go_wp2_with (at_builtin; refine wpList_append_own _ rfl _ _ 27 rfl w.heap.size 3 i0 (.int .i64 0) 1 8 Tryz.underlying27 hi hz0 hz1 hz2 rfl (by decide) (.slice ua un uc) l.length (ints l) rfl HOW2.out ⟨w3.heap.size, 0, none⟩ 1 1 [.int .i64 y] rfl rfl ?_ ?_ ?_ ?_ ?_ ?_)
        all_goals first | exact ⟨rfl, rfl⟩ | (intro z hz; simp only [List.mem_cons, List.not_mem_nil, or_false] at hz; subst hz; rfl) | (unfold maxLen; omega) | omega | (have h1 := HZ3.out; simp; omega) | (intro i z hz; rcases i with _ | i; (injection hz with hz; subst hz; rw [add0]; go_simp); cases hz) | skip
        intro u4 w4 hown hgr _
        have H6 := Lib.hid (H5.out.app HC0.out 3 hown hgr)
        clear hown hgr
        go_wp2
        go_roundw
        case rel => exact ⟨_, k - 1, by rw [List.length_append]; simp; omega, by go_num, H6.out.1, H6.out.2.1, H6.out.2.2.mono (by omega)⟩
        case measure => simp [intOf]; omega
    · go_wp2
      go_ret
      exact ⟨l, _, rfl, by omega, H3.out.2.1, H3.out.2.2.mono (by omega)⟩
theorem cur_anyOutline (B C K : Nat) (w : World) (hK : K < 2 ^ 36) (h : IsCur B C K w) :
    Calls Tryz.prog 116 #[.pointer (some ⟨C, 0, none⟩)] w (OutDrawn B C (K + 100) 8 w) := by
  obtain ⟨i0, hi, hz0, hz1, hz2⟩ := info_parts info_int
  have hlt := h.lt
  have HC0 := Lib.hid h
  clear h
  go_enter Tryz.func116, Tryz.ntmps116
  go_wp2_with fail
  refine (cur_pick B C K 16 _ (by omega) (by decide) HC0.out).mono ?_
  rintro e w1 ⟨x, hx, rfl, hc⟩
  have H1 := Lib.hid hc
  have hz1' : w.heap.size ≤ w1.heap.size := hc.2.size
  have HOW := Lib.hid (show (w1.alloc (.cells #[] 3)).ownsRow w.heap.size 3 1 (.slice (some ⟨w1.heap.size, 0, none⟩) 0 0) 0 [] by have h := World.ownsRow_lit (base := w.heap.size) (e := 3) (size := 1) w1 #[] 0 hz1' (Nat.zero_le _) (by simp); simpa using h)
  have HCA := Lib.hid (H1.out.alloc (.cells #[] 3))
  clear hc hx
  by_cases h0 : x = 0
  · subst h0
    go_wp2
    go_ret
    exact ⟨[], _, rfl, by simp, HOW.out, HCA.out.mono (by omega)⟩
  by_cases h1 : x = 1
  · subst h1
    go_wp2_with fail
    refine (cur_pick B C (K + 2) 2 _ (by omega) (by decide) HCA.out.1).mono ?_
    rintro e w2 ⟨z, hz, rfl, hc⟩
    have hz2' : z < 2 := by omega
    have HR := Lib.hid (show OutRun B C (K + 4) w w2 (.slice (some ⟨w1.heap.size, 0, none⟩) 0 0) [] from OutRun.cur (K := K + 2) ⟨⟨_, _, _, rfl⟩, HOW.out, HCA.out⟩ hlt.2 hc)
    clear hc hz
    go_wp2_with fail
    go_loopw [3, 4] (fun s n wr => ∃ (l : List Int) (k : Nat), l.length + k ≤ 7 ∧ n = .int .i64 k ∧ OutRun B C (K + 50 - 2 * k) w wr s l) (fun _ n _ => (intOf n).toNat)
    case atStart => exact ⟨[], z + 6, by simp; omega, by go_num, HR.out.1, HR.out.2.1, HR.out.2.2.mono (by omega)⟩
    case round =>
      obtain ⟨l, k, hk, rfl, hr⟩ := hrel
      have H3 := Lib.hid hr
      obtain ⟨⟨ua, un, uc, rfl⟩, _⟩ := hr
      by_cases hp : 0 < k
      · go_wp2_with fail
        refine (cur_few B C (K + 50 - 2 * k) _ (by omega) H3.out.2.2.1).mono ?_
        rintro e w3 ⟨y, rfl, hc⟩
        have H5 := Lib.hid ((H3.out.cur hlt.2 hc))
        have HOW2 := Lib.hid (H5.out.2.1.alloc (.cells #[.int .i64 y] 3))
        have hz3 := H5.out.2.2.2.size
        have HZ3 := Lib.hid hz3
        clear hc hz3
        go_wp2_with (at_builtin; refine wpList_append_own _ rfl _ _ 27 rfl w.heap.size 3 i0 (.int .i64 0) 1 8 Tryz.underlying27 hi hz0 hz1 hz2 rfl (by decide) (.slice ua un uc) l.length (ints l) rfl HOW2.out ⟨w3.heap.size, 0, none⟩ 1 1 [.int .i64 y] rfl rfl ?_ ?_ ?_ ?_ ?_ ?_)
        all_goals first | exact ⟨rfl, rfl⟩ | (intro z hz; simp only [List.mem_cons, List.not_mem_nil, or_false] at hz; subst hz; rfl) | (unfold maxLen; omega) | omega | (have h1 := HZ3.out; simp; omega) | (intro i z hz; rcases i with _ | i; (injection hz with hz; subst hz; rw [add0]; go_simp); cases hz) | skip
        intro u4 w4 hown hgr _
        have H6 := Lib.hid (H5.out.app HC0.out 3 hown hgr)
        clear hown hgr
        go_wp2
        go_roundw
        case rel => exact ⟨_, k - 1, by rw [List.length_append]; simp; omega, by go_num, H6.out.1, H6.out.2.1, H6.out.2.2.mono (by omega)⟩
        case measure => simp [intOf]; omega
      · go_wp2
        go_ret
        exact ⟨l, _, rfl, by omega, H3.out.2.1, H3.out.2.2.mono (by omega)⟩
  have h0' : ¬ (x : Int) = 0 := by omega
  have h1' : ¬ (x : Int) = 1 := by omega
  by_cases h2 : x = 2
  · subst h2
    clear HOW HCA
    go_wp2_with fail
    refine (cur_outline B C (K + 2) _ (by omega) H1.out.1).mono ?_
    rintro e w2 ⟨l, u, rfl, hl, ho, hc⟩
    have HR := Lib.hid (show OutRun B C (K + 62) w w2 u l from ⟨by
      rcases ho.2 with ⟨rfl, _⟩ | ⟨g, cap, cur, rfl, _⟩
      · exact ⟨_, _, _, rfl⟩
      · exact ⟨_, _, _, rfl⟩, owns_base ho hz1', H1.out.trans hc⟩)
    obtain ⟨⟨ua, un, uc, rfl⟩, _⟩ := id HR.out
    clear ho hc
    have H3 := HR
    have hk := hl
    skip
    go_wp2_with fail
    refine (cur_anyStroke B C (K + 62) _ (by omega) HR.out.2.2.1).mono ?_
    rintro e w3 ⟨y, rfl, hc⟩
    have H5 := Lib.hid ((H3.out.cur hlt.2 hc))
    have HOW2 := Lib.hid (H5.out.2.1.alloc (.cells #[.int .i64 y] 3))
    have hz3 := H5.out.2.2.2.size
    have HZ3 := Lib.hid hz3
    clear hc hz3
    go_wp2_with (at_builtin; refine wpList_append_own _ rfl _ _ 27 rfl w.heap.size 3 i0 (.int .i64 0) 1 8 Tryz.underlying27 hi hz0 hz1 hz2 rfl (by decide) (.slice ua un uc) l.length (ints l) rfl HOW2.out ⟨w3.heap.size, 0, none⟩ 1 1 [.int .i64 y] rfl rfl ?_ ?_ ?_ ?_ ?_ ?_)
    all_goals first | exact ⟨rfl, rfl⟩ | (intro z hz; simp only [List.mem_cons, List.not_mem_nil, or_false] at hz; subst hz; rfl) | (unfold maxLen; omega) | omega | (have h1 := HZ3.out; simp; omega) | (intro i z hz; rcases i with _ | i; (injection hz with hz; subst hz; rw [add0]; go_simp); cases hz) | skip
    intro u4 w4 hown hgr _
    have H6 := Lib.hid (H5.out.app HC0.out 3 hown hgr)
    clear hown hgr
    go_wp2
    go_ret
    exact ⟨_, _, rfl, by rw [List.length_append]; simp; omega, H6.out.2.1, H6.out.2.2.mono (by omega)⟩
  have h2' : ¬ (x : Int) = 2 := by omega
  clear HOW HCA
  go_wp2_with fail
  refine (cur_outline B C (K + 2) _ (by omega) H1.out.1).mono ?_
  rintro e w2 ⟨l, u, rfl, hl, ho, hc⟩
  have H2 := Lib.hid (H1.out.trans hc)
  have HO := Lib.hid (owns_base ho hz1')
  clear hc ho
  go_wp2
  go_ret
  exact ⟨l, _, rfl, by omega, HO.out, H2.out.mono (by omega)⟩
end Go.Proofs.YtmlklnimoknojaaGreatDoor
