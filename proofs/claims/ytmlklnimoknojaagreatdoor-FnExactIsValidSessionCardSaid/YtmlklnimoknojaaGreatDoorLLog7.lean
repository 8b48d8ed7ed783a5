/- Walks: the records of a log (reference). -/
import Derived.Test.YtmlklnimoknojaaGreatDoorLLog3
namespace Go.Proofs.YtmlklnimoknojaaGreatDoor.L
open Go Go.RowKit
set_option maxHeartbeats 400000
set_option maxRecDepth 100000
def recVals (l : List (Str × Str)) : List Value := l.flatMap fun x => [.string (S x.1), .string (S x.2)]
theorem recVals_snoc (l : List (Str × Str)) (x : Str × Str) : recVals (l ++ [x]) = recVals l ++ [.string (S x.1), .string (S x.2)] := by simp [recVals]
/-- a slice of records of the call's own -/
def OwnRecs (B : Nat) (w : World) (v : Value) (l : List (Str × Str)) : Prop := w.ownsRow B 226 2 v l.length (recVals l)
theorem info_rec : (Tryz.prog.info? 226).map (fun i => (i.zero, i.size, i.bytes)) = some (some (.agg #[.string ⟨#[]⟩, .string ⟨#[]⟩]), 2, 32) := by kernel_rfl
def OpenPost (s : Str) (w : World) (e : Ending) (w' : World) : Prop := ∃ v, e = .returned (.tuple #[v, .int .i64 (P.openLog s).2]) ∧ OwnRecs w.heap.size w' v (P.openLog s).1 ∧ Below w.heap.size w w'
theorem own_len {B : Nat} {w : World} {v : Value} {l : List (Str × Str)} (h : OwnRecs B w v l) : ∃ a cap, v = .slice a l.length cap := by
  rcases h.2 with ⟨rfl, h0⟩ | ⟨g, cap, cur, hv, _⟩
  · exact ⟨none, 0, by rw [h0]⟩
  · exact ⟨_, cap, hv⟩
theorem recs_rel {w w1 w2 : World} {v v' : Value} {l : List (Str × Str)} {x : Str × Str} {o : Obj} (hsz : w.heap.size ≤ w1.heap.size) (hown : OwnRecs w.heap.size w1 v l) (hb : Below w.heap.size w w1)
    (h : w2.ownsRow w.heap.size 226 2 v' (l.length + 1) (recVals l ++ [.string (S x.1), .string (S x.2)])) (hg : (w1.alloc o).grownBy w2 v.ownBlock) :
    OwnRecs w.heap.size w2 v' (l ++ [x]) ∧ Below w.heap.size w w2 := by
  refine ⟨?_, (hb.alloc hsz _).grown hg (by simp; omega) (fun k hk => (World.ownsRow.lt hown k hk).1)⟩
  unfold OwnRecs; rw [recVals_snoc, List.length_append]; exact h
theorem own_below {B C : Nat} {w w' : World} {e : TypeId} {size : Nat} {v : Value} {n : Nat} {xs : List Value} (h : w.ownsRow B e size v n xs) (hb : Below C w w') (hC : w.heap.size ≤ C) : w'.ownsRow B e size v n xs :=
  h.kept (row := none) ⟨hb.os, hb.tape, hb.output, hb.size, fun k hk _ => hb.block k (by omega)⟩ (by cases v.ownBlock <;> simp)
theorem l24Open (s : Str) (w : World) (hs : s.length ≤ 2 ^ 31) :
    Calls Tryz.prog 197 #[.string (S s)] w (OpenPost s w) := by
  obtain ⟨i0, hi, hz0, hz1, hz2⟩ := info_parts info_rec
  go_enter Tryz.func197, Tryz.ntmps197
  go_wp2
  go_loopw [4, 5] (fun v i wr => ∃ (out : List (Str × Str)) (a : Nat), a ≤ s.length ∧ i = .int .i64 a ∧ out.length ≤ 60 ∧ P.run s (60 - out.length) (out, a) = P.openLog s ∧ OwnRecs w.heap.size wr v out ∧ Below w.heap.size w wr)
    (fun _ i _ => s.length - (intOf i).toNat)
  case atStart => exact ⟨[], 0, Nat.zero_le _, rfl, Nat.zero_le _, rfl, World.ownsRow_made _ _ _ (Nat.le_refl _) (by decide) (by rfl), (Below.refl _ _).alloc (Nat.le_refl _) _⟩
  case round =>
    obtain ⟨out, a, ha, rfl, ho, hrun, hown, hbel⟩ := hrel
    obtain ⟨ad, cp, rfl⟩ := own_len hown
    have HRUN := Lib.hid hrun; clear hrun
    have HOWN := Lib.hid hown; clear hown
    have HBEL := Lib.hid hbel; clear hbel
    have hsz := HBEL.out.size
    by_cases h1 : a < s.length
    · by_cases h2 : out.length < 60
      · obtain ⟨rest, hrest⟩ : ∃ rest, rest = s.drop a := ⟨_, rfl⟩
        have hrl : rest.length + a = s.length := by rw [hrest]; simp; omega
        have hhl := P.head_len 10 rest
        have HREST := Lib.hid hrest; clear hrest
        by_cases h3 : 2 ≤ ((P.split 10 rest).length : Int)
        · cases h4 : (P.readRec out.length (P.head 10 rest)).2.2
          · have HST := Lib.hid (P.run_none (P.step_stop (st := (out, a)) (s := s) (.inr (by rw [← HREST.out]; exact h4))) (60 - out.length))
            go_wp2_with fail
            rw [← HREST.out]
            go_wp2_with (first | (go_at_call 208; refine (l1Split10 _ _ (by omega)).mono ?_; rintro e w1 ⟨v, rfl, hown1, hb1⟩; obtain ⟨g, cap, rfl, hg, hgl, hcell, hl1⟩ := own_head hown1; clear hown1; have hz1' := hb1.size; have HB1 := Lib.hid hb1; clear hb1) | (go_at_call 222; refine (l24Read _ _ _ (by omega) (by omega) (by omega)).mono ?_; rintro e w2 ⟨rfl, hb2⟩; rw [Int.toNat_natCast]; obtain ⟨hcc2, hff2⟩ := bcell hb2; have hz2' := hb2.size; have HB2 := Lib.hid hb2; clear hb2))
            go_ret2
            exact ⟨.slice ad out.length cp, by rw [← HRUN.out, HST.out]; rfl, by rw [← HRUN.out, HST.out]; exact (own_below (own_below HOWN.out HB1.out (Nat.le_refl _)) HB2.out (Nat.le_refl _)).alloc _, ((HBEL.out.trans (HB1.out.mono hsz)).trans (HB2.out.mono (by omega))).alloc (by omega) _⟩
          · have hht := P.head_lt 10 rest (by omega)
            have HST := Lib.hid (P.run_some (P.step_go (st := (out, a)) (s := s) h1 h2 (by rw [← HREST.out]; omega) (by rw [← HREST.out]; exact h4)) (59 - out.length))
            go_wp2_with fail
            rw [← HREST.out]
            go_wp2_with (first | (go_at_call 208; refine (l1Split10 _ _ (by omega)).mono ?_; rintro e w1 ⟨v, rfl, hown1, hb1⟩; obtain ⟨g, cap, rfl, hg, hgl, hcell, hl1⟩ := own_head hown1; clear hown1; have hz1' := hb1.size; have HB1 := Lib.hid hb1; clear hb1) | (go_at_call 222; refine (l24Read _ _ _ (by omega) (by omega) (by omega)).mono ?_; rintro e w2 ⟨rfl, hb2⟩; rw [Int.toNat_natCast]; obtain ⟨hcc2, hff2⟩ := bcell hb2; have hz2' := hb2.size; have HB2 := Lib.hid hb2; clear hb2) | (at_builtin; refine wpList_append_own _ rfl _ _ 179 rfl w.heap.size 226 i0 (.agg #[.string ⟨#[]⟩, .string ⟨#[]⟩]) 2 32 Tryz.underlying179 hi hz0 hz1 hz2 rfl (by decide) _ _ _ rfl (((own_below (own_below HOWN.out HB1.out (Nat.le_refl _)) HB2.out (Nat.le_refl _)).alloc _).alloc _) ⟨w2.heap.size + 1, 0, none⟩ 1 1 [.string (S (P.readRec out.length (P.head 10 rest)).1), .string (S (P.readRec out.length (P.head 10 rest)).2.1)] rfl rfl ?c1 ?c2 ?c3 ?c4 ?c5 ?_))
            case c1 => intro j u hj; match j, hj with | 0, hj => (simp at hj; subst hj; simp [Addr.add]) | 1, hj => (simp at hj; subst hj; simp [Addr.add])
            case c2 => intro u hu; simp at hu; rcases hu with rfl | rfl <;> rfl
            case c3 => unfold maxLen; omega
            case c4 => omega
            case c5 => simp; omega
            intro v' w3 hown' hgrow _
            have hcw2 : w2.cell? ⟨g, 0, none⟩ = some (.string (S (P.head 10 rest))) := (hcc2 g 0 hgl).trans hcell
            have hc3 : w3.cell? ⟨g, 0, none⟩ = some (.string (S (P.head 10 rest))) := hgrow.cell (cell_alloc (cell_alloc hcw2 _) _) (by intro e; have := (World.ownsRow.lt HOWN.out g e.symm).2; omega)
            have R := Lib.hid (recs_rel (x := ((P.readRec out.length (P.head 10 rest)).1, (P.readRec out.length (P.head 10 rest)).2.1)) (w1 := w2.alloc _) (by simp; omega) ((own_below (own_below HOWN.out HB1.out (Nat.le_refl _)) HB2.out (Nat.le_refl _)).alloc _) (((HBEL.out.trans (HB1.out.mono hsz)).trans (HB2.out.mono (by omega))).alloc (by omega) _) hown' hgrow)
            clear hown' hgrow HOWN HBEL HB1 HB2 hcell hcw2 hcc2 hff2
            go_wp2
            go_roundw
            case rel => exact ⟨out ++ [((P.readRec out.length (P.head 10 rest)).1, (P.readRec out.length (P.head 10 rest)).2.1)], a + (P.head 10 rest).length + 1, by omega, by go_num, by simp; omega, by rw [← HRUN.out, show 60 - out.length = 59 - out.length + 1 by omega, HST.out, ← HREST.out, List.length_append, List.length_cons, List.length_nil, show 60 - (out.length + (0 + 1)) = 59 - out.length by omega], R.out.1, R.out.2⟩
            case measure => simp [intOf]; omega
        · have HST := Lib.hid (P.run_none (P.step_stop (st := (out, a)) (s := s) (.inl (by rw [← HREST.out]; omega))) (60 - out.length))
          go_wp2_with fail
          rw [← HREST.out]
          go_wp2_with (first | (go_at_call 208; refine (l1Split10 _ _ (by omega)).mono ?_; rintro e w1 ⟨v, rfl, hown1, hb1⟩; obtain ⟨g, cap, rfl, hg, hgl, hcell, hl1⟩ := own_head hown1; clear hown1; have hz1' := hb1.size; have HB1 := Lib.hid hb1; clear hb1) | (go_at_call 222; refine (l24Read _ _ _ (by omega) (by omega) (by omega)).mono ?_; rintro e w2 ⟨rfl, hb2⟩; rw [Int.toNat_natCast]; obtain ⟨hcc2, hff2⟩ := bcell hb2; have hz2' := hb2.size; have HB2 := Lib.hid hb2; clear hb2))
          go_ret2
          exact ⟨.slice ad out.length cp, by rw [← HRUN.out, HST.out]; rfl, by rw [← HRUN.out, HST.out]; exact (own_below (own_below HOWN.out HB1.out (Nat.le_refl _)) HB2.out (Nat.le_refl _)).alloc _, ((HBEL.out.trans (HB1.out.mono hsz)).trans (HB2.out.mono (by omega))).alloc (by omega) _⟩
      · have HST := Lib.hid (P.run_none (P.step_end (st := (out, a)) (s := s) (.inr h2)) (60 - out.length))
        go_wp2
        go_ret2
        exact ⟨.slice ad out.length cp, by rw [← HRUN.out, HST.out]; rfl, by rw [← HRUN.out, HST.out]; exact HOWN.out, HBEL.out⟩
    · have HST := Lib.hid (P.run_none (P.step_end (st := (out, a)) (s := s) (.inl h1)) (60 - out.length))
      go_wp2
      go_ret2
      exact ⟨.slice ad out.length cp, by rw [← HRUN.out, HST.out]; rfl, by rw [← HRUN.out, HST.out]; exact HOWN.out, HBEL.out⟩
end Go.Proofs.YtmlklnimoknojaaGreatDoor.L

namespace Go.Proofs.YtmlklnimoknojaaGreatDoor.L
open Go Go.RowKit
set_option maxHeartbeats 400000
set_option maxRecDepth 100000
abbrev logV (d p : Str) (n : Int) : Value := .agg #[.string (S d), .string (S p), .int .i64 n]
theorem l24Log (d p : Str) (n : Int) (w : World) (hd : d.length ≤ 2 ^ 20) (hp : p.length ≤ 2 ^ 20) :
    Calls Tryz.prog 164 #[logV d p n] w fun e w' => e = .returned (.bool (P.validLog d p n)) ∧ Below w.heap.size w w' := by
  by_cases h1 : (d.length : Int) + p.length ≤ 30000
  · have hd1 : decide ((d.length : Int) + p.length ≤ 30000) = true := decide_eq_true h1
    have HD1 := Lib.hid hd1; clear hd1
    cases h2 : (((P.openLog (d ++ p)).2 : Int) == (d.length : Int) + p.length) <;> cases h3 : (((P.openLog d).2 : Int) == (d.length : Int)) <;> cases h4 : (((P.openLog (d ++ p)).1.length : Int) == n)
    all_goals
      have HF := Lib.hid (show P.validLog d p n = _ by unfold P.validLog; rw [HD1.out, h2, h3, h4])
      go_enter Tryz.func164, Tryz.ntmps164
      go_wp2_with fail
      refine (l24Open _ _ (by simp; omega)).mono ?_
      rintro e w1 ⟨v, rfl, hown, hb⟩
      obtain ⟨ad, cp, rfl⟩ := own_len hown
      obtain ⟨hcc, hff⟩ := bcell hb
      have hz := grew0 hb
      have HB := Lib.hid hb
      clear hown hb
      go_wp2_with fail
      refine (l24Open _ _ (by omega)).mono ?_
      rintro e w2 ⟨v2, rfl, hown2, hb2⟩
      obtain ⟨ad2, cp2, rfl⟩ := own_len hown2
      obtain ⟨hcc2, hff2⟩ := bcell hb2
      have HB2 := Lib.hid hb2
      clear hown2 hb2
      go_wp2
      go_ret
      exact ⟨by rw [HF.out]; rfl, (((Below.refl _ _).alloc (Nat.le_refl _) _).trans (HB.out.mono (by simp))).trans (HB2.out.mono (by omega))⟩
  · have HF := Lib.hid (show P.validLog d p n = false by unfold P.validLog; rw [decide_eq_false h1]; rfl)
    go_enter Tryz.func164, Tryz.ntmps164
    go_wp2
    go_ret
    exact ⟨by rw [HF.out]; rfl, (Below.refl _ _).alloc (Nat.le_refl _) _⟩
end Go.Proofs.YtmlklnimoknojaaGreatDoor.L

namespace Go.Proofs.YtmlklnimoknojaaGreatDoor.L
open Go Go.RowKit
set_option maxHeartbeats 400000
set_option maxRecDepth 100000
theorem cut_c (s : Str) (c : UInt8) (w : World) (hs : s.length ≤ 2 ^ 31) (hE : Env w) :
    Calls Tryz.prog 247 #[.string (S s), .string ⟨#[c]⟩] w fun e w' => e = .returned (.tuple #[.string (S (Lib.cut s [c]).1), .string (S (Lib.cut s [c]).2.1), .bool (Lib.cut s [c]).2.2]) ∧ ∃ n, w' = w.drewN n := cut_any s [c] w hs hE
def DecPost (k : Nat) (s : Str) (w : World) (e : Ending) (w' : World) : Prop :=
  e = .returned (.tuple #[.agg #[.string (S (P.decode k s).1.1), .string (S (P.decode k s).1.2)], .int .i64 (P.decode k s).2.1, .bool (P.decode k s).2.2]) ∧ Below w.heap.size w w'
theorem decode (k : Nat) (s : Str) (w : World) (_ : k < 2 ^ 40) (hs : s.length ≤ 2 ^ 28) (hE : Env w) :
    Calls Tryz.prog 223 #[.int .i64 k, .string (S s)] w (DecPost k s w) := by
  have HE := Lib.hid hE; clear hE
  have hl1 := (P.cut_len s [10]).1
  cases h1 : (Lib.cut s [10]).2.2
  · have HF := Lib.hid (show P.decode k s = (([], []), 0, false) by unfold P.decode; rw [h1]; rfl)
    go_enter Tryz.func223, Tryz.ntmps223
    go_wp2_with fail
    refine (cut_c _ 10 _ (by omega) (HE.out.alloc _)).mono ?_
    rintro e w1 ⟨rfl, n1, rfl⟩
    rw [h1]
    go_wp2
    refine bodyPost_ret (v := .tuple #[.agg #[.string (S []), .string (S [])], .int .i64 0, .bool false]) (by simp [results, Tryz.results223, go_sem]) rfl ⟨by rw [HF.out]; rfl, ?_⟩
    exact ((below_drewN ((Below.refl _ _).alloc (Nat.le_refl _) _) _).setCell (by simp) _).setCell (by simp) _
  · obtain ⟨line, hline⟩ : ∃ line, line = (Lib.cut s [10]).1 := ⟨_, rfl⟩
    rw [← hline] at hl1
    by_cases h2 : (line.length : Int) ≤ 4000
    · obtain ⟨tt, htt⟩ : ∃ tt, tt = (Lib.cut line [35]).1 := ⟨_, rfl⟩
      obtain ⟨both, hboth⟩ : ∃ both, both = (Lib.cut tt [32]).2.1 := ⟨_, rfl⟩
      obtain ⟨c, hc⟩ : ∃ c, c = (Lib.cut both [62]).1 := ⟨_, rfl⟩
      obtain ⟨r, hr⟩ : ∃ r, r = (Lib.cut both [62]).2.1 := ⟨_, rfl⟩
      have hl2 : tt.length ≤ line.length := by rw [htt]; exact (P.cut_len _ _).1
      have hl3 : both.length ≤ tt.length := by rw [hboth]; exact (P.cut_len _ _).2
      have hl4 : c.length ≤ both.length := by rw [hc]; exact (P.cut_len _ _).1
      have hl5 : r.length ≤ both.length := by rw [hr]; exact (P.cut_len _ _).2
      have hF : P.decode k s = if ((P.encode k c r).2 && ((P.encode k c r).1 == line ++ [10])) then ((c, r), line.length + 1, true) else (([], []), 0, false) := by
        unfold P.decode
        simp only [← hline, ← htt, ← hboth, ← hc, ← hr, h1, decide_eq_true h2, Bool.true_and]
      have HF0 := Lib.hid hF; clear hF
      have HLINE := Lib.hid hline; clear hline
      have HTT := Lib.hid htt; clear htt
      have HBOTH := Lib.hid hboth; clear hboth
      have HC := Lib.hid hc; clear hc
      have HR := Lib.hid hr; clear hr
      cases h3 : (P.encode k c r).2 <;> cases h4 : ((P.encode k c r).1 == line ++ [10])
      all_goals
        have HF := Lib.hid (show P.decode k s = _ by rw [HF0.out, h3, h4])
        go_enter Tryz.func223, Tryz.ntmps223
        go_wp2_with fail
        refine (cut_c _ 10 _ (by omega) (HE.out.alloc _)).mono ?_
        rintro e w1 ⟨rfl, n1, rfl⟩
        rw [h1, ← HLINE.out]
        go_wp2_with fail
        refine (cut_c _ 35 _ (by omega) ((HE.out.alloc _).drewN _)).mono ?_
        rintro e w1 ⟨rfl, n2, rfl⟩
        rw [← HTT.out]
        go_wp2_with fail
        refine (cut_c _ 32 _ (by omega) ((HE.out.alloc _).drewN _)).mono ?_
        rintro e w1 ⟨rfl, n3, rfl⟩
        rw [← HBOTH.out]
        go_wp2_with fail
        refine (cut_c _ 62 _ (by omega) ((HE.out.alloc _).drewN _)).mono ?_
        rintro e w1 ⟨rfl, n4, rfl⟩
        rw [← HC.out, ← HR.out]
        go_wp2_with fail
        refine (encodeRecord _ _ _ _ (by omega) (by omega) (((HE.out.alloc _).drewN _).alloc _)).mono ?_
        rintro e w1 ⟨rfl, hb⟩
        rw [h3]
        obtain ⟨hcc, hff⟩ := bcell hb
        have HB := Lib.hid hb; clear hb
        have hk0 : w1.cell? ⟨w.heap.size, 0, none⟩ = some (.string (S [])) := by rw [hcc _ _ (by simp; omega)]; go_simp
        have hk1 : w1.cell? ⟨w.heap.size, 1, none⟩ = some (.string (S [])) := by rw [hcc _ _ (by simp; omega)]; go_simp
        go_wp2
        first
          | refine bodyPost_ret (v := .tuple #[.agg #[.string (S []), .string (S [])], .int .i64 0, .bool false]) (by simp [results, Tryz.results223, go_sem, hk0, hk1]) rfl ⟨by rw [HF.out]; rfl, ?_⟩
          | refine bodyPost_ret (v := .tuple #[.agg #[.string (S c), .string (S r)], .int .i64 ((line.length : Int) + 1), .bool true]) (by simp [results, Tryz.results223, go_sem, hk0, hk1]) rfl ⟨by rw [HF.out]; rfl, ?_⟩
        exact ((((below_drewN ((Below.refl _ _).alloc (Nat.le_refl _) _) _).alloc (by simp) _).trans (HB.out.mono (by simp; omega))).setCell (by simp) _).setCell (by simp) _
    · have HF := Lib.hid (show P.decode k s = (([], []), 0, false) by unfold P.decode; simp only [← hline, h1, decide_eq_false h2]; rfl)
      have h2' := Int.not_le.1 h2
      have HLINE := Lib.hid hline; clear hline h2
      go_enter Tryz.func223, Tryz.ntmps223
      go_wp2_with fail
      refine (cut_c _ 10 _ (by omega) (HE.out.alloc _)).mono ?_
      rintro e w1 ⟨rfl, n1, rfl⟩
      rw [h1, ← HLINE.out]
      go_wp2
      refine bodyPost_ret (v := .tuple #[.agg #[.string (S []), .string (S [])], .int .i64 0, .bool false]) (by simp [results, Tryz.results223, go_sem]) rfl ⟨by rw [HF.out]; rfl, ?_⟩
      exact ((below_drewN ((Below.refl _ _).alloc (Nat.le_refl _) _) _).setCell (by simp) _).setCell (by simp) _
end Go.Proofs.YtmlklnimoknojaaGreatDoor.L
