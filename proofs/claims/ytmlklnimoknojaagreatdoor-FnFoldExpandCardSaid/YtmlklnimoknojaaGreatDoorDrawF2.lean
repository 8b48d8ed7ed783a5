/- Walk: the reference's drawing of folds. -/
import Derived.Deep.DeepCutAuto
import Derived.Deep.RegionHeld
import Derived.ArgAppend
import Derived.Test.YtmlklnimoknojaaGreatDoorFmtS3
import Derived.Test.YtmlklnimoknojaaGreatDoorEItems
import Derived.Test.YtmlklnimoknojaaGreatDoorCurE4
namespace Go.Proofs.YtmlklnimoknojaaGreatDoor
open Go Go.RowKit
set_option maxHeartbeats 4000000
set_option maxRecDepth 100000
/-- a row of folds in new memory (from lo on), at any place of its block, that may be written -/
def FoC (lo : Nat) (v : World) (u : Value) (l : P.Folds) : Prop :=
  ∃ g o cap, u = .slice (some ⟨g, o, none⟩) l.length cap ∧ l.length ≤ cap ∧ lo ≤ g ∧ g < v.heap.size ∧ ∀ j (hj : j < l.length), (v.cell? ⟨g, o + j * 2, none⟩ = some (.int .i64 (l[j]'hj).1) ∧ v.cell? ⟨g, o + j * 2 + 1, none⟩ = some (.string (S (l[j]'hj).2))) ∧ v.frozen? ⟨g, o + j * 2, none⟩ = false ∧ v.frozen? ⟨g, o + j * 2 + 1, none⟩ = false
theorem FoC.chg {lo : Nat} {v v' : World} {u : Value} {l : P.Folds} {X : Blk} (h : FoC lo v u l) (hc : Chg X v v') (hX : ∀ b, X b → b < lo ∨ v.heap.size ≤ b) : FoC lo v' u l := by
  obtain ⟨g, o, cap, h1, h2, h3, h4, h5⟩ := h
  have hn : ¬ X g := fun h => by have := hX g h; omega
  exact ⟨g, o, cap, h1, h2, h3, Nat.lt_of_lt_of_le h4 hc.size, fun j hj => ⟨⟨(hc.cell (p := ⟨g, _, none⟩) h4 hn).trans (h5 j hj).1.1, (hc.cell (p := ⟨g, _, none⟩) h4 hn).trans (h5 j hj).1.2⟩, (hc.frozen (p := ⟨g, _, none⟩) h4 hn).trans (h5 j hj).2.1, (hc.frozen (p := ⟨g, _, none⟩) h4 hn).trans (h5 j hj).2.2⟩⟩
theorem FoC.below {lo : Nat} {v v' : World} {u : Value} {l : P.Folds} (h : FoC lo v u l) (hb : Below v.heap.size v v') : FoC lo v' u l := h.chg (Below.chg hb fun _ => False) fun _ h => h.elim
theorem FoC.read {lo : Nat} {v : World} {u : Value} {l : P.Folds} (h : FoC lo v u l) (hl : l.length ≤ 1000) : FldR v u l := by
  obtain ⟨g, o, cap, h1, h2, h3, h4, h5⟩ := h
  exact ⟨_, cap, h1, ⟨by omega, h2⟩, (fun h => by cases h), .inr ⟨g, o, rfl, h4, fun j hj => (h5 j hj).1⟩⟩
theorem FoC.src {lo : Nat} {v : World} {u : Value} {l : P.Folds} (h : FoC lo v u l) : SrcIs v 2 u l.length (atomVals l) := by
  obtain ⟨g, o, cap, h1, h2, h3, h4, h5⟩ := h
  refine ⟨atomVals_len l, fun x hx => atomVals_one hx, .inr ⟨_, cap, h1, fun j x hx => ?_⟩⟩
  have hjl : j < (atomVals l).length := by
    rcases Nat.lt_or_ge j (atomVals l).length with h | h
    · exact h
    · rw [List.getElem?_eq_none h] at hx; cases hx
  rw [atomVals_len] at hjl
  have hk : j / 2 < l.length := by omega
  obtain ⟨e1, e2⟩ := getElem_atomVals l (j / 2) hk
  rw [Addr.add_lit]
  rcases Nat.mod_two_eq_zero_or_one j with hm | hm
  · have hj : j = j / 2 * 2 := by omega
    rw [hj, e1] at hx
    injection hx with hx
    subst hx
    have := (h5 (j / 2) hk).1.1
    rwa [← hj] at this
  · have hj : j = j / 2 * 2 + 1 := by omega
    rw [hj, e2] at hx
    injection hx with hx
    subst hx
    have := (h5 (j / 2) hk).1.2
    rw [show o + j / 2 * 2 + 1 = o + j by omega] at this
    exact this
theorem FoC.take {lo n cap m : Nat} {v : World} {a : Option Addr} {l : P.Folds} (h : FoC lo v (.slice a n cap) l) (hm : m ≤ l.length) : FoC lo v (.slice a m cap) (l.take m) := by
  obtain ⟨g, o, cap', h1, h2, h3, h4, h5⟩ := h
  injection h1 with e1 e2 e3
  subst e1 e3
  have hml : (l.take m).length = m := by rw [List.length_take]; omega
  refine ⟨g, o, cap, by rw [hml], by omega, h3, h4, fun j hj => ?_⟩
  rw [hml] at hj
  have := h5 j (by omega)
  rw [List.getElem_take]
  exact this
theorem FoC.drop {lo k : Nat} {v : World} {g o cap n : Nat} {l : P.Folds} (h : FoC lo v (.slice (some ⟨g, o, none⟩) n cap) l) (hk : k ≤ l.length) : FoC lo v (.slice (some ⟨g, o + k * 2, none⟩) (l.length - k) (cap - k)) (l.drop k) := by
  obtain ⟨g', o', cap', h1, h2, h3, h4, h5⟩ := h
  injection h1 with e1 e2 e3
  injection e1 with e1
  injection e1 with e4 e5 _
  subst e3 e4 e5
  refine ⟨g, o + k * 2, cap - k, by rw [List.length_drop], by rw [List.length_drop]; omega, h3, h4, fun j hj => ?_⟩
  rw [List.length_drop] at hj
  have := h5 (k + j) (by omega)
  rw [List.getElem_drop, show o + k * 2 + j * 2 = o + (k + j) * 2 by omega]
  exact this
/-- a number of a fold is written -/
theorem FoC.put0 {lo : Nat} {v : World} {g o cap n j : Nat} {l : P.Folds} {x : Int} (h : FoC lo v (.slice (some ⟨g, o, none⟩) n cap) l) (hj : j < l.length) : FoC lo (v.setCell ⟨g, o + j * 2, none⟩ (.int .i64 x)) (.slice (some ⟨g, o, none⟩) n cap) (l.set j (x, l[j].2)) := by
  obtain ⟨g', o', cap', h1, h2, h3, h4, h5⟩ := h
  injection h1 with e1 e2 e3
  injection e1 with e1
  injection e1 with e4 e5 _
  subst e2 e3 e4 e5
  refine ⟨g, o, cap, by rw [List.length_set], by rw [List.length_set]; exact h2, h3, by simpa [World.setCell] using h4, fun i hi => ?_⟩
  rw [List.length_set] at hi
  obtain ⟨⟨c0, c1⟩, f0, f1⟩ := h5 i hi
  refine ⟨⟨?_, ?_⟩, by simpa using f0, by simpa using f1⟩
  · by_cases hij : j = i
    · subst hij
      rw [List.getElem_set_self]
      exact World.cell?_setCell_same _ _ _ c0
    · rw [List.getElem_set_ne hij, World.cell?_setCell_other _ _ _ _ (by intro e; injection e; omega)]
      exact c0
  · rw [World.cell?_setCell_other _ _ _ _ (by intro e; injection e; omega)]
    by_cases hij : j = i
    · subst hij
      rw [List.getElem_set_self]
      exact c1
    · rw [List.getElem_set_ne hij]
      exact c1
/-- a text of a fold is written -/
theorem FoC.put1 {lo : Nat} {v : World} {g o cap n j : Nat} {l : P.Folds} {x : Str} (h : FoC lo v (.slice (some ⟨g, o, none⟩) n cap) l) (hj : j < l.length) : FoC lo (v.setCell ⟨g, o + j * 2 + 1, none⟩ (.string (S x))) (.slice (some ⟨g, o, none⟩) n cap) (l.set j (l[j].1, x)) := by
  obtain ⟨g', o', cap', h1, h2, h3, h4, h5⟩ := h
  injection h1 with e1 e2 e3
  injection e1 with e1
  injection e1 with e4 e5 _
  subst e2 e3 e4 e5
  refine ⟨g, o, cap, by rw [List.length_set], by rw [List.length_set]; exact h2, h3, by simpa [World.setCell] using h4, fun i hi => ?_⟩
  rw [List.length_set] at hi
  obtain ⟨⟨c0, c1⟩, f0, f1⟩ := h5 i hi
  refine ⟨⟨?_, ?_⟩, by simpa using f0, by simpa using f1⟩
  · rw [World.cell?_setCell_other _ _ _ _ (by intro e; injection e; omega)]
    by_cases hij : j = i
    · subst hij
      rw [List.getElem_set_self]
      exact c0
    · rw [List.getElem_set_ne hij]
      exact c0
  · by_cases hij : j = i
    · subst hij
      rw [List.getElem_set_self]
      exact World.cell?_setCell_same _ _ _ c1
    · rw [List.getElem_set_ne hij, World.cell?_setCell_other _ _ _ _ (by intro e; injection e; omega)]
      exact c1
theorem FoC.dflt (w : World) : FoC w.heap.size (w.alloc (.cells #[.int .i64 18, .string (S [105, 110, 103]), .int .i64 21, .string (S [101, 100]), .int .i64 20, .string (S [115]), .int .i64 22, .string (S [115])] 115)) (.slice (some ⟨w.heap.size, 0, none⟩) 4 4) P.dflt := by
  refine ⟨w.heap.size, 0, 4, rfl, by decide, Nat.le_refl _, by simp, fun j hj => ?_⟩
  have hj' : j < 4 := hj
  refine ⟨⟨(World.cell?_alloc_new w _ _ _).trans ?_, (World.cell?_alloc_new w _ _ _).trans ?_⟩, World.frozen?_alloc_new _ _ _ _, World.frozen?_alloc_new _ _ _ _⟩
  · match j, hj' with
    | 0, _ => rfl
    | 1, _ => rfl
    | 2, _ => rfl
    | 3, _ => rfl
  · match j, hj' with
    | 0, _ => rfl
    | 1, _ => rfl
    | 2, _ => rfl
    | 3, _ => rfl
theorem FoC.own {B : Nat} {v : World} {u : Value} {l : P.Folds} (h : v.ownsRow B 115 2 u l.length (atomVals l)) (hl : l ≠ []) : FoC B v u l ∧ ∃ g cap, u = .slice (some ⟨g, 0, none⟩) l.length cap := by
  rcases id h.2 with ⟨_, hn⟩ | ⟨g, cap, cur, hv, hg, _, hnc, _⟩
  · exact absurd (List.eq_nil_of_length_eq_zero hn) hl
  · have hob : u.ownBlock = some g := by rw [hv]; rfl
    have hlt := (World.ownsRow.lt h g hob).2
    refine ⟨⟨g, 0, cap, hv, hnc, hg, hlt, fun j hj => ?_⟩, g, cap, hv⟩
    subst hv
    rw [Nat.zero_add]
    obtain ⟨e1, e2⟩ := getElem_atomVals l j hj
    exact ⟨⟨(World.ownsRow.cellAt h (j * 2) (by omega)).trans e1, (World.ownsRow.cellAt h (j * 2 + 1) (by omega)).trans e2⟩, World.ownsRow.frozenAt h _, World.ownsRow.frozenAt h _⟩
/-- a row of folds that may grow: full, or the call's own -/
def FoS (lo : Nat) (v : World) (u : Value) (l : P.Folds) : Prop := FoC lo v u l ∧ ((∃ a, u = .slice a l.length l.length) ∨ v.ownsRow lo 115 2 u l.length (atomVals l))
theorem FoS.chg {lo : Nat} {v v' : World} {u : Value} {l : P.Folds} {X : Blk} (h : FoS lo v u l) (hc : Chg X v v') (hX : ∀ b, X b → b < lo ∨ v.heap.size ≤ b) : FoS lo v' u l :=
  ⟨h.1.chg hc hX, h.2.imp id fun h => owns_stand h hc fun k hk e => by have h1 := World.ownsRow.lt h k hk; have := hX k e; omega⟩
theorem FoS.below {lo : Nat} {v v' : World} {u : Value} {l : P.Folds} (h : FoS lo v u l) (hb : Below v.heap.size v v') : FoS lo v' u l := h.chg (Below.chg hb fun _ => False) fun _ h => h.elim
theorem FoS.grew {lo : Nat} {v w' : World} {u' : Value} {l : P.Folds} {x : P.Fold} {o : Obj} (hlo : lo ≤ v.heap.size)
    (hown : w'.ownsRow (v.heap.size + 1) 115 2 u' (l.length + 1) (atomVals l ++ [.int .i64 x.1, .string (S x.2)])) (hgr : (v.alloc o).grownBy w' none) : FoS lo w' u' (l ++ [x]) ∧ Chg (fun b => lo ≤ b) v w' := by
  have e : atomVals l ++ [.int .i64 x.1, .string (S x.2)] = atomVals (l ++ [x]) := by rw [atomVals_append]; rfl
  rw [e] at hown
  have hown2 : w'.ownsRow lo 115 2 u' (l ++ [x]).length (atomVals (l ++ [x])) := by
    rw [List.length_append]
    exact owns_base hown (by omega)
  refine ⟨⟨(FoC.own hown2 (by simp)).1, .inr hown2⟩, ?_⟩
  have h1 : Chg (fun b => lo ≤ b) v (v.alloc o) := Below.chg ((Below.refl _ _).alloc (Nat.le_refl _) o) _
  exact h1.trans ⟨hgr.os, hgr.tape, hgr.output, hgr.size, fun b hb hf => hgr.block b hb (by simp)⟩
theorem FoS.owned {lo : Nat} {v w' : World} {u u' : Value} {l : P.Folds} {x : P.Fold} {o : Obj} (ho : v.ownsRow lo 115 2 u l.length (atomVals l))
    (hown : w'.ownsRow lo 115 2 u' (l.length + 1) (atomVals l ++ [.int .i64 x.1, .string (S x.2)])) (hgr : (v.alloc o).grownBy w' u.ownBlock) : FoS lo w' u' (l ++ [x]) ∧ Chg (fun b => lo ≤ b) v w' := by
  have e : atomVals l ++ [.int .i64 x.1, .string (S x.2)] = atomVals (l ++ [x]) := by rw [atomVals_append]; rfl
  rw [e] at hown
  have hown2 : w'.ownsRow lo 115 2 u' (l ++ [x]).length (atomVals (l ++ [x])) := by
    rw [List.length_append]
    exact hown
  refine ⟨⟨(FoC.own hown2 (by simp)).1, .inr hown2⟩, ?_⟩
  have h1 : Chg (fun b => lo ≤ b) v (v.alloc o) := Below.chg ((Below.refl _ _).alloc (Nat.le_refl _) o) _
  exact h1.trans ⟨hgr.os, hgr.tape, hgr.output, hgr.size, fun b hb hf => hgr.block b hb fun e => hf (World.ownsRow.lt ho b e.symm).1⟩
def FoldsDrawn (B C K : Nat) (w : World) (e : Ending) (w' : World) : Prop :=
  ∃ (l : P.Folds) (u : Value), e = .returned u ∧ 1 ≤ l.length ∧ l.length ≤ 12 ∧ (∀ f ∈ l, f.2.length ≤ 20) ∧ FoC w.heap.size w' u l ∧ CurPost B C K w w'
theorem mem_set_text {l : P.Folds} {j : Nat} {x : P.Fold} (h : ∀ f ∈ l, f.2.length ≤ 20) (hx : x.2.length ≤ 20) : ∀ f ∈ l.set j x, f.2.length ≤ 20 := by
  intro f hf
  rcases List.mem_or_eq_of_mem_set hf with h1 | h1
  · exact h f h1
  · rw [h1]; exact hx
theorem dflt_texts : ∀ f ∈ P.dflt, f.2.length ≤ 20 := by decide
theorem l10DrawFolds (B C N : Nat) (w : World) (hN : N < 2 ^ 30) (h : IsCur B C N w) :
    Calls Tryz.prog 140 #[.pointer (some ⟨C, 0, none⟩)] w (FoldsDrawn B C (N + 100) w) := by
  obtain ⟨i0, hi, hy0, hy1, hy2⟩ := info_parts info_fold
  have hlt := h.lt
  have HC := Lib.hid h; clear h
  go_enter Tryz.func140, Tryz.ntmps140
  go_upto_region 1 with fail
  go_cut [3] (fun s wx => ∃ (l : P.Folds), 2 ≤ l.length ∧ l.length ≤ 4 ∧ (∀ f ∈ l, f.2.length ≤ 20) ∧ FoS w.heap.size wx s l ∧ CurPost B C (N + 2) w wx)
  case first =>
    go_wp2_with fail
    refine (defaultFolds _).mono ?_
    rintro e w1 ⟨rfl, rfl⟩
    have HF := Lib.hid (FoC.dflt w)
    have HC1 := Lib.hid ((CurPost.refl HC.out (Nat.le_refl N)).alloc (.cells #[.int .i64 18, .string (S [105, 110, 103]), .int .i64 21, .string (S [101, 100]), .int .i64 20, .string (S [115]), .int .i64 22, .string (S [115])] 115))
    generalize w.alloc (.cells #[.int .i64 18, .string (S [105, 110, 103]), .int .i64 21, .string (S [101, 100]), .int .i64 20, .string (S [115]), .int .i64 22, .string (S [115])] 115) = w1 at *
    go_wp2_with fail
    refine (cur_pick B C N 3 _ (by omega) (by decide) HC1.out.1).mono ?_
    rintro e w2 ⟨k, hk, rfl, hc⟩
    have HC2 := Lib.hid (HC1.out.trans hc); have HF2 := Lib.hid (HF.out.chg hc.2 (fun b (e : b = C) => .inl (by omega)))
    clear hc HC1 HF
    have hk3 : k < 3 := by omega
    clear hk
    rcases (by omega : k = 0 ∨ k = 1 ∨ k = 2) with rfl | rfl | rfl
    · go_wp2
      go_meet
      exact ⟨P.dflt, by decide, by decide, dflt_texts, ⟨HF2.out, .inl ⟨_, rfl⟩⟩, HC2.out⟩
    · go_wp2
      go_meet
      exact ⟨P.dflt.drop 1, by decide, by decide, by decide, ⟨HF2.out.drop (k := 1) (by decide), .inl ⟨_, rfl⟩⟩, HC2.out⟩
    · go_wp2
      go_meet
      exact ⟨P.dflt.drop 2, by decide, by decide, by decide, ⟨HF2.out.drop (k := 2) (by decide), .inl ⟨_, rfl⟩⟩, HC2.out⟩
  case rest =>
    obtain ⟨l, hl2, hl4, htx, hfs, hcu⟩ := hcut
    obtain ⟨g, o, cap, rfl, hcap, _⟩ := id hfs.1
    have HF := Lib.hid hfs; have HCU := Lib.hid hcu; have HTX := Lib.hid htx
    clear hfs hcu htx HC
    go_wp2_with fail
    refine (cur_one B C (N + 2) 4 _ (by omega) (by decide) HCU.out.1).mono ?_
    rintro e w2 ⟨b, rfl, hc⟩
    have HF2 := Lib.hid (HF.out.chg hc.2 (fun b (e : b = C) => .inl (by omega))); have HC2 := Lib.hid (HCU.out.trans hc)
    clear hc HF HCU
    go_upto_if 11 with fail
    go_cut [3] (fun s wx => ∃ (l : P.Folds), 1 ≤ l.length ∧ l.length ≤ 5 ∧ (∀ f ∈ l, f.2.length ≤ 20) ∧ FoS w.heap.size wx s l ∧ CurPost B C (N + 20) w wx)
    case first =>
      cases b
      · go_wp2
        go_meet
        exact ⟨l, by omega, by omega, HTX.out, HF2.out, HC2.out.mono (by omega)⟩
      · go_wp2_with fail
        refine (cur_pick B C (N + 4) 10 _ (by omega) (by decide) HC2.out.1).mono ?_
        rintro e w3 ⟨p, hp, rfl, hc⟩
        have HF3 := Lib.hid (HF2.out.chg hc.2 (fun b (e : b = C) => .inl (by omega))); have HC3 := Lib.hid (HC2.out.trans hc)
        have hz3 := HC3.out.2.size
        clear hc HF2 HC2
        have hp10 : p < 10 := by omega
        have j0 : IntKind.i64.wrap (13 + (p : Int)) = 13 + (p : Int) := by rw [IntKind.wrap_i64]; omega
        have hbl : Below w3.heap.size w3 (w3.alloc (.cells #[.string (S [101, 114]), .string (S [108, 121]), .string (S [105, 110, 103])] 9)) := (Below.refl _ _).alloc (Nat.le_refl _) _
        have HL := Lib.hid (lit_strs [[101, 114], [108, 121], [105, 110, 103]] w3 9)
        have HF4 := Lib.hid (HF3.out.below hbl); have HC4 := Lib.hid (HC3.out.below hbl)
        clear hbl HF3 HC3
        go_wp2_with fail
        refine (cur_of B C (N + 6) w3.heap.size 3 [[101, 114], [108, 121], [105, 110, 103]] _ (by omega) (by decide) (by decide) (by simp) (by omega) HL.out HC4.out.1).mono ?_
        rintro e w4 ⟨s, hs, rfl, hc⟩
        have HSL := Lib.hid (show s.length ≤ 20 from Nat.le_trans ((by decide : ∀ s ∈ ([[101, 114], [108, 121], [105, 110, 103]] : List Str), s.length ≤ 4) s hs) (by decide))
        have HF5 := Lib.hid (HF4.out.chg hc.2 (fun b (e : b = C) => .inl (by omega))); have HC5 := Lib.hid (HC4.out.trans hc)
        clear hc hs HF4 HC4 HL
        have HOW := Lib.hid (show (w4.alloc (.cells #[.int .i64 (13 + (p : Int)), .string (S s)] 115)).ownsRow w.heap.size 115 2 (.slice (some ⟨w4.heap.size, 0, none⟩) 1 1) 1 [.int .i64 (13 + (p : Int)), .string (S s)] from by have h := World.ownsRow_lit (base := w.heap.size) (e := 115) (size := 2) w4 #[.int .i64 (13 + (p : Int)), .string (S s)] 1 HC5.out.2.size (by decide) (by simp); simpa using h)
        have hba := (Below.refl w4.heap.size w4).alloc (Nat.le_refl _) (.cells #[.int .i64 (13 + (p : Int)), .string (S s)] 115)
        have HF6 := Lib.hid (HF5.out.below hba); have HC6 := Lib.hid (HC5.out.below hba)
        have hz4 : w.heap.size ≤ w4.heap.size := HC5.out.2.size
        clear hba HF5 HC5
        have j1 : IntKind.i64.wrap ((l.length : Int) + 1) = (l.length : Int) + 1 := by rw [IntKind.wrap_i64]; omega
        go_wp2_with fail
        refine (cur_pick B C (N + 8) ((l.length : Int) + 1) _ (by omega) (by omega) HC6.out.1).mono ?_
        rintro e w5 ⟨m, hm, rfl, hc⟩
        have HF7 := Lib.hid (HF6.out.chg hc.2 (fun b (e : b = C) => .inl (by omega))); have HC7 := Lib.hid (HC6.out.trans hc)
        have HOW7 := Lib.hid (owns_stand HOW.out hc.2 (fun k hk (e : k = C) => by have := (World.ownsRow.lt HOW.out k hk).1; omega))
        clear hc HF6 HC6 HOW
        have hml : m ≤ l.length := by omega
        have hmc : m ≤ cap := by omega
        have j2 : (m : Int) ≤ (cap : Int) := by omega
        have hlm : (l.take m).length = m := by rw [List.length_take]; omega
        have HSRC := Lib.hid (show SrcIs w5 2 (.slice (some ⟨g, o, none⟩) m cap) m (atomVals (l.take m)) from by have h := (HF7.out.1.take hml).src; rwa [hlm] at h)
        have HZ7 := Lib.hid (show w.heap.size ≤ w5.heap.size from HC7.out.2.size)
        have HLM := Lib.hid hlm
        clear hm hlm
        go_wp2_with (at_builtin; refine wpList_append_src rfl _ _ 54 rfl w.heap.size 115 i0 (.agg #[.int .i64 0, .string ⟨#[]⟩]) 2 24 Tryz.underlying54 hi hy0 hy1 hy2 rfl (by decide) (.slice (some ⟨w4.heap.size, 0, none⟩) 1 1) 1 [.int .i64 (13 + (p : Int)), .string (S s)] rfl HOW7.out (.slice (some ⟨g, o, none⟩) m cap) m (atomVals (l.take m)) rfl HSRC.out ?_ ?_ ?_ ?_)
        · unfold maxLen; omega
        · omega
        · exact HZ7.out
        intro u8 w8 hown hgr _
        have hown2 : w8.ownsRow w.heap.size 115 2 u8 ((13 + (p : Int), s) :: l.take m).length (atomVals ((13 + (p : Int), s) :: l.take m)) := by
          rw [List.length_cons, HLM.out, Nat.add_comm]
          exact hown
        have HF8 := Lib.hid (show FoS w.heap.size w8 u8 ((13 + (p : Int), s) :: l.take m) from ⟨(FoC.own hown2 (by simp)).1, .inr hown2⟩)
        have HC8 := Lib.hid (HC7.out.new (Chg.grown hgr) (fun b hb => (World.ownsRow.lt HOW7.out b hb).1) (by omega) (by omega))
        clear hown hown2 hgr HSRC HOW7 HF7
        go_wp2
        go_meet
        exact ⟨_, by simp, by rw [List.length_cons, HLM.out]; omega, fun f hf => by
          rcases List.mem_cons.1 hf with rfl | hf
          · exact HSL.out
          · exact HTX.out f (List.mem_of_mem_take hf), HF8.out, HC8.out.mono (by omega)⟩
    case rest =>
      clear hl2 hl4 hcap HF2 HC2 HTX
      obtain ⟨l, hl1, hl5, htx, hfs, hcu⟩ := hcut
      obtain ⟨g, o, cap, rfl, hcap, _⟩ := id hfs.1
      have HF := Lib.hid hfs; have HCU := Lib.hid hcu; have HTX := Lib.hid htx
      clear hfs hcu htx
      go_wp2_with fail
      refine (cur_one B C (N + 20) 15 _ (by omega) (by decide) HCU.out.1).mono ?_
      rintro e w2 ⟨b, rfl, hc⟩
      have HF2 := Lib.hid (HF.out.chg hc.2 (fun b (e : b = C) => .inl (by omega))); have HC2 := Lib.hid (HCU.out.trans hc)
      clear hc HF HCU
      cases b
      · go_wp2
        go_ret
        exact ⟨l, _, rfl, by omega, by omega, HTX.out, HF2.out.1, HC2.out.mono (by omega)⟩
      · go_wp2_with fail
        refine (cur_pick B C (N + 22) (l.length : Int) _ (by omega) (by omega) HC2.out.1).mono ?_
        rintro e w3 ⟨i, hip, rfl, hc⟩
        have HF3 := Lib.hid (HF2.out.chg hc.2 (fun b (e : b = C) => .inl (by omega))); have HC3 := Lib.hid (HC2.out.trans hc)
        have hil : i < l.length := by omega
        clear hc hip HF2 HC2
        go_wp2_with fail
        refine (cur_pick B C (N + 24) 3 _ (by omega) (by decide) HC3.out.1).mono ?_
        rintro e w4 ⟨q, hq, rfl, hc⟩
        have HF4 := Lib.hid (HF3.out.chg hc.2 (fun b (e : b = C) => .inl (by omega))); have HC4 := Lib.hid (HC3.out.trans hc)
        have hz4 : w.heap.size ≤ w4.heap.size := HC4.out.2.size
        have hq3 : q < 3 := by omega
        clear hc hq HF3 HC3
        have i1 : (i : Int) < (l.length : Int) := by omega
        rcases (by omega : q = 0 ∨ q = 1 ∨ q = 2) with rfl | rfl | rfl
        · have hbl : Below w4.heap.size w4 (w4.alloc (.cells #[.int .i64 12, .int .i64 23, .int .i64 (-1), .int .i64 20] 3)) := (Below.refl _ _).alloc (Nat.le_refl _) _
          have HL := Lib.hid (lit_ints [12, 23, -1, 20] w4 3)
          have HF5 := Lib.hid (HF4.out.below hbl); have HC5 := Lib.hid (HC4.out.below hbl)
          clear hbl HF4 HC4
          go_wp2_with fail
          refine (cur_among B C (N + 26) w4.heap.size 4 [12, 23, -1, 20] _ (by omega) (by decide) (by decide) (by simp) (by omega) HL.out HC5.out.1).mono ?_
          rintro e w5 ⟨s, _, rfl, hc⟩
          have HF6 := Lib.hid (HF5.out.chg hc.2 (fun b (e : b = C) => .inl (by omega))); have HC6 := Lib.hid (HC5.out.trans hc)
          clear hc HF5 HC5 HL
          obtain ⟨g', o', cap', he, _, hgw, _, hcel⟩ := id HF6.out.1
          injection he with e1 _ e3
          injection e1 with e1
          injection e1 with e4 e5 _
          subst e3 e4 e5
          obtain ⟨⟨c0, c1⟩, f0, f1⟩ := hcel i hil
          have HF7 := Lib.hid (HF6.out.1.put0 (x := s) hil)
          have HC7 := Lib.hid (HC6.out.set (g := g) (i := o + i * 2) hgw (by omega) (by omega) (.int .i64 s))
          go_wp2
          go_ret
          exact ⟨l.set i (s, l[i].2), _, rfl, by rw [List.length_set]; omega, by rw [List.length_set]; omega, mem_set_text HTX.out (show l[i].2.length ≤ 20 from HTX.out _ (List.getElem_mem hil)), HF7.out, HC7.out.mono (by omega)⟩
        · have hbl : Below w4.heap.size w4 (w4.alloc (.cells #[.string (S []), .string (S [73, 110, 103]), .string (S [97, 98, 99, 100, 101, 102, 103, 104, 105]), .string (S [97, 98, 99, 100, 101, 102, 103, 104])] 9)) := (Below.refl _ _).alloc (Nat.le_refl _) _
          have HL := Lib.hid (lit_strs [[], [73, 110, 103], [97, 98, 99, 100, 101, 102, 103, 104, 105], [97, 98, 99, 100, 101, 102, 103, 104]] w4 9)
          have HF5 := Lib.hid (HF4.out.below hbl); have HC5 := Lib.hid (HC4.out.below hbl)
          clear hbl HF4 HC4
          go_wp2_with fail
          refine (cur_of B C (N + 26) w4.heap.size 4 [[], [73, 110, 103], [97, 98, 99, 100, 101, 102, 103, 104, 105], [97, 98, 99, 100, 101, 102, 103, 104]] _ (by omega) (by decide) (by decide) (by simp) (by omega) HL.out HC5.out.1).mono ?_
          rintro e w5 ⟨s, hs, rfl, hc⟩
          have HSL := Lib.hid (show s.length ≤ 20 from Nat.le_trans ((by decide : ∀ s ∈ ([[], [73, 110, 103], [97, 98, 99, 100, 101, 102, 103, 104, 105], [97, 98, 99, 100, 101, 102, 103, 104]] : List Str), s.length ≤ 9) s hs) (by decide))
          have HF6 := Lib.hid (HF5.out.chg hc.2 (fun b (e : b = C) => .inl (by omega))); have HC6 := Lib.hid (HC5.out.trans hc)
          clear hc hs HF5 HC5 HL
          obtain ⟨g', o', cap', he, _, hgw, _, hcel⟩ := id HF6.out.1
          injection he with e1 _ e3
          injection e1 with e1
          injection e1 with e4 e5 _
          subst e3 e4 e5
          obtain ⟨⟨c0, c1⟩, f0, f1⟩ := hcel i hil
          have HF7 := Lib.hid (HF6.out.1.put1 (x := s) hil)
          have HC7 := Lib.hid (HC6.out.set (g := g) (i := o + i * 2 + 1) hgw (by omega) (by omega) (.string (S s)))
          go_wp2
          go_ret
          exact ⟨l.set i (l[i].1, s), _, rfl, by rw [List.length_set]; omega, by rw [List.length_set]; omega, mem_set_text HTX.out HSL.out, HF7.out, HC7.out.mono (by omega)⟩
        · go_wp2
          go_loopw [3, 5] (fun s k wr => ∃ (l : P.Folds) (kk : Nat), 1 ≤ l.length ∧ 13 ≤ kk ∧ kk ≤ 18 ∧ l.length + (18 - kk) ≤ 10 ∧ k = .int .i64 kk ∧ (∀ f ∈ l, f.2.length ≤ 20) ∧ FoS w.heap.size wr s l ∧ CurPost B C (N + 26 + 4 * (kk - 13)) w wr) (fun _ k _ => 18 - (intOf k).toNat)
          case atStart => exact ⟨l, 13, by omega, by omega, by omega, by omega, rfl, HTX.out, HF4.out, HC4.out.mono (by omega)⟩
          case round =>
            clear HF4 HC4 HTX hil i1 hcap hz4
            obtain ⟨l, kk, hl1, hk1, hk2, hlk, rfl, htx, hfs, hcu⟩ := hrel
            obtain ⟨g, o, cap, rfl, hcap, _⟩ := id hfs.1
            have HF := Lib.hid hfs; have HCU := Lib.hid hcu; have HTX := Lib.hid htx
            clear hfs hcu htx
            go_wp2_with fail
            refine (cur_pick B C (N + 26 + 4 * (kk - 13)) 2 _ (by omega) (by decide) HCU.out.1).mono ?_
            rintro e w5 ⟨q, hq, rfl, hc⟩
            have HF5 := Lib.hid (HF.out.chg hc.2 (fun b (e : b = C) => .inl (by omega))); have HC5 := Lib.hid (HCU.out.trans hc)
            have hq2 : q < 2 := by omega
            clear hc hq HF HCU
            have j0 : IntKind.i64.wrap (6 + (q : Int)) = 6 + (q : Int) := by rw [IntKind.wrap_i64]; omega
            by_cases h1 : l.length < 6 + q
            · have i1 : (l.length : Int) < 6 + (q : Int) := by omega
              by_cases h2 : kk < 18
              · have i2 : (kk : Int) < 18 := by omega
                have hne : l ≠ [] := by intro e; rw [e] at hl1; simp at hl1
                have HZ5 := Lib.hid (show w.heap.size ≤ w5.heap.size from HC5.out.2.size)
                rcases HF5.out.2 with ⟨a, hfull⟩ | hown0
                · injection hfull with ha _ hcapl
                  subst ha hcapl
                  have hcel := HF5.out.1.src
                  have HSR := Lib.hid hcel.2.2
                  clear hcel
                  go_wp2_with (at_builtin; refine wpList_append_grows _ rfl _ _ 54 rfl 115 i0 (.agg #[.int .i64 0, .string ⟨#[]⟩]) 2 24 Tryz.underlying54 hi hy0 hy1 hy2 rfl (by decide) (some ⟨g, o, none⟩) l.length l.length (atomVals l) rfl (fun h => by cases h) (atomVals_len l) ?c0 ⟨w5.heap.size, 0, none⟩ 1 1 [.int .i64 kk, .string (S [120])] rfl rfl ?c1 ?c2 ?c3 ?c4 ?c5 ?_)
                  case c0 =>
                    intro b hb j u hu
                    injection hb with hb
                    subst hb
                    rcases HSR.out with ⟨h, _⟩ | ⟨ad, c, h, hc⟩
                    · cases h
                    · injection h with h _ _
                      injection h with h
                      subst h
                      have h8 := hc j u hu
                      exact (World.cell?_alloc_lt _ _ _ (World.block_lt_of_cell? _ _ h8)).trans h8
                  case c1 => intro j u hj; rcases j with _ | _ | j; (injection hj with hj; subst hj; rw [add0]; go_simp); (injection hj with hj; subst hj; rw [add0]; go_simp); cases hj
                  case c2 => intro u hu; simp only [List.mem_cons, List.not_mem_nil, or_false] at hu; rcases hu with rfl | rfl <;> rfl
                  case c3 => omega
                  case c4 => unfold maxLen; omega
                  case c5 => omega
                  intro u6 w6 hown hgr
                  obtain ⟨hf6, hc6⟩ := FoS.grew (x := ((kk : Int), [120])) HZ5.out hown hgr
                  have HF6 := Lib.hid hf6; have HC6 := Lib.hid (HC5.out.new hc6 (fun b hb => hb) (by omega) (by omega))
                  clear hown hgr hf6 hc6 HSR
                  go_wp2
                  go_roundw
                  case rel => exact ⟨_, kk + 1, by simp, by omega, by omega, by simp only [List.length_append, List.length_cons, List.length_nil]; omega, by go_num, fun f hf => by
                    rcases List.mem_append.1 hf with hf | hf
                    · exact HTX.out f hf
                    · rw [List.mem_singleton.1 hf]; simp, HF6.out, HC6.out.mono (by omega)⟩
                  case measure => simp [intOf]; omega
                · have HOW0 := Lib.hid hown0
                  have HOW := Lib.hid (hown0.alloc (.cells #[.int .i64 kk, .string (S [120])] 115))
                  clear hown0
                  go_wp2_with (at_builtin; refine wpList_append_own _ rfl _ _ 54 rfl w.heap.size 115 i0 (.agg #[.int .i64 0, .string ⟨#[]⟩]) 2 24 Tryz.underlying54 hi hy0 hy1 hy2 rfl (by decide) _ l.length (atomVals l) rfl HOW.out ⟨w5.heap.size, 0, none⟩ 1 1 [.int .i64 kk, .string (S [120])] rfl rfl ?c1 ?c2 ?c3 ?c4 ?c5 ?_)
                  case c1 => intro j u hj; rcases j with _ | _ | j; (injection hj with hj; subst hj; rw [add0]; go_simp); (injection hj with hj; subst hj; rw [add0]; go_simp); cases hj
                  case c2 => intro u hu; simp only [List.mem_cons, List.not_mem_nil, or_false] at hu; rcases hu with rfl | rfl <;> rfl
                  case c3 => unfold maxLen; omega
                  case c4 => omega
                  case c5 => have := HZ5.out; simp; omega
                  intro u6 w6 hown hgr _
                  obtain ⟨hf6, hc6⟩ := FoS.owned (x := ((kk : Int), [120])) HOW0.out hown hgr
                  have HF6 := Lib.hid hf6; have HC6 := Lib.hid (HC5.out.new hc6 (fun b hb => hb) (by omega) (by omega))
                  clear hown hgr hf6 hc6 HOW
                  go_wp2
                  go_roundw
                  case rel => exact ⟨_, kk + 1, by simp, by omega, by omega, by simp only [List.length_append, List.length_cons, List.length_nil]; omega, by go_num, fun f hf => by
                    rcases List.mem_append.1 hf with hf | hf
                    · exact HTX.out f hf
                    · rw [List.mem_singleton.1 hf]; simp, HF6.out, HC6.out.mono (by omega)⟩
                  case measure => simp [intOf]; omega
              · have i2 : ¬ (kk : Int) < 18 := by omega
                go_wp2
                go_ret
                exact ⟨l, _, rfl, hl1, by omega, HTX.out, HF5.out.1, HC5.out.mono (by omega)⟩
            · have i1 : ¬ (l.length : Int) < 6 + (q : Int) := by omega
              go_wp2
              go_ret
              exact ⟨l, _, rfl, hl1, by omega, HTX.out, HF5.out.1, HC5.out.mono (by omega)⟩
end Go.Proofs.YtmlklnimoknojaaGreatDoor
