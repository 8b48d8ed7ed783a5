/- Walks: the records of a log (program). -/
import Derived.Test.YtmlklnimoknojaaGreatDoorLAppend
namespace Go.Proofs.YtmlklnimoknojaaGreatDoor.L
open Go Go.RowKit
set_option maxHeartbeats 400000
set_option maxRecDepth 100000
theorem own_one (w : World) (B : Nat) (hB : B ≤ w.heap.size) (x : Int) : OwnInts B (w.alloc (.cells #[.int .i64 x] 3)) (.slice (some ⟨w.heap.size, 0, none⟩) 1 1) [x] :=
  ⟨by simp [intVals], .inr ⟨w.heap.size, 1, _, rfl, hB, heap_alloc_new w _, Nat.le_refl _, by decide, by simp, by simp [intVals]⟩⟩
theorem own_cellI {B : Nat} {w : World} {v : Value} {l : List Int} (h : OwnInts B w v l) (hl : l ≠ []) : ∃ g cap, v = .slice (some ⟨g, 0, none⟩) l.length cap ∧ B ≤ g ∧ g < w.heap.size ∧ ∀ j (hj : j < l.length), w.cell? ⟨g, j, none⟩ = some (.int .i64 l[j]) := by
  rcases h.2 with ⟨_, h0⟩ | ⟨g, cap, cur, hv, hg, hh, _⟩
  · exact absurd (List.eq_nil_of_length_eq_zero h0) hl
  · have hob : v.ownBlock = some g := by rw [hv]; rfl
    refine ⟨g, cap, hv, hg, (World.ownsRow.lt h g hob).2, fun j hj => ?_⟩
    have hc := World.ownsRow.cells h hob j (.int .i64 l[j]) (by simp [intVals, List.getElem?_eq_getElem hj])
    rwa [add0] at hc
theorem own_srcI {B : Nat} {w : World} {v : Value} {l : List Int} (h : OwnInts B w v l) : SrcIs w 1 v l.length (intVals l) := by
  refine ⟨by simp [intVals], by intro x hx; simp [intVals] at hx; obtain ⟨y, _, rfl⟩ := hx; rfl, ?_⟩
  rcases h.2 with ⟨hv, h0⟩ | ⟨g, cap, cur, hv, hg, hh, _⟩
  · exact .inl ⟨hv, h0⟩
  · have hob : v.ownBlock = some g := by rw [hv]; rfl
    exact .inr ⟨⟨g, 0, none⟩, cap, hv, World.ownsRow.cells h hob⟩
theorem own_base {B C : Nat} {w : World} {e : TypeId} {s : Nat} {v : Value} {n : Nat} {xs : List Value} (h : w.ownsRow B e s v n xs) (hC : C ≤ B) : w.ownsRow C e s v n xs := by
  refine ⟨h.1, ?_⟩
  rcases h.2 with h2 | ⟨g, cap, cur, hv, hg, r⟩
  · exact .inl h2
  · exact .inr ⟨g, cap, cur, hv, Nat.le_trans hC hg, r⟩
def RecsPost (d p : Str) (n : Int) (w : World) (e : Ending) (w' : World) : Prop := ∃ v, e = .returned (.tuple #[v, .bool (P.recordsOk d p n)]) ∧ OwnRecs w.heap.size w' v (P.readAll (d ++ p)).1 ∧ Below w.heap.size w w'
theorem records (d p : Str) (n : Int) (w : World) (hd : d.length ≤ 2 ^ 20) (hp : p.length ≤ 2 ^ 20) (hE : Env w) :
    Calls Tryz.prog 167 #[logV d p n] w (RecsPost d p n w) := by
  obtain ⟨j0, ji, jz0, jz1, jz2⟩ := info_parts info_int
  have HE := Lib.hid hE; clear hE
  go_enter Tryz.func167, Tryz.ntmps167
  go_wp2_with fail
  refine (read _ _ (by simp; omega) (HE.out.alloc _)).mono ?_
  rintro e w1 ⟨v, u, rfl, hown, howi, hb⟩
  obtain ⟨ad, cp, rfl⟩ := own_len hown
  obtain ⟨hcc, hff⟩ := bcell hb
  have hz := grew0 hb
  have hk0 : w1.cell? ⟨w.heap.size, 0, none⟩ = some (.string (S d)) := by rw [hcc _ _ (by simp)]; go_simp
  have hk2 : w1.cell? ⟨w.heap.size, 2, none⟩ = some (.int .i64 n) := by rw [hcc _ _ (by simp)]; go_simp
  have HOWN := Lib.hid hown; have HOWI := Lib.hid howi; have HB := Lib.hid hb
  clear hown howi hb hcc hff
  have hrl := P.readAll_len (d ++ p)
  generalize hR : P.readAll (d ++ p) = R at *
  obtain ⟨hrl1, hrl2⟩ := hrl
  have HRL2 := Lib.hid hrl2
  have hrl3 : R.2.1.length ≤ 60 := by omega
  clear hrl2
  have HRR := Lib.hid hR; clear hR
  go_wp2_with (at_builtin; refine wpList_append_src rfl (.tmp 21) (.tmp 22) 27 rfl w.heap.size 3 j0 (.int .i64 0) 1 8 Tryz.underlying27 ji jz0 jz1 jz2 rfl (by decide) _ _ _ rfl (own_one w1 w.heap.size (Nat.le_of_lt hz) 0) _ _ _ rfl (own_srcI (World.ownsRow.alloc HOWI.out _)) ?c3 ?c4 ?c5 ?_)
  case c3 => unfold maxLen; simp; omega
  case c4 => simp; omega
  case c5 => simp; omega
  intro v' w2 hown' hgrow _
  rw [show (Value.slice (some ⟨w1.heap.size, 0, none⟩) 1 1).ownBlock = some w1.heap.size from rfl] at hgrow
  obtain ⟨st, hst⟩ : ∃ st : List Int, st = 0 :: R.2.1 := ⟨_, rfl⟩
  have hstl : st.length ≤ 61 := by rw [hst]; simp; omega
  have hstn : st ≠ [] := by rw [hst]; simp
  have hS : OwnInts w.heap.size w2 v' st := by rw [hst]; unfold OwnInts; rw [List.length_cons, Nat.add_comm]; simpa [intVals] using hown'
  obtain ⟨g, cp2, rfl, hg, hgl, hcell⟩ := own_cellI hS hstn
  have hk0' : w2.cell? ⟨w.heap.size, 0, none⟩ = some (.string (S d)) := hgrow.cell (cell_alloc hk0 _) (by show some w.heap.size ≠ some w1.heap.size; intro e; injection e with e; omega)
  have hk2' : w2.cell? ⟨w.heap.size, 2, none⟩ = some (.int .i64 n) := hgrow.cell (cell_alloc hk2 _) (by show some w.heap.size ≠ some w1.heap.size; intro e; injection e with e; omega)
  have hO : OwnRecs w.heap.size w2 (.slice ad R.1.length cp) R.1 := World.ownsRow.kept (World.ownsRow.alloc (own_base HOWN.out (by simp)) _) hgrow (by
    cases hb : (Value.slice ad R.1.length cp).ownBlock with
    | none => exact .inl rfl
    | some k => exact .inr (by intro e; injection e with e; have := (World.ownsRow.lt HOWN.out k hb).2; omega))
  have hB : Below w.heap.size w w2 := (((((Below.refl _ _).alloc (Nat.le_refl _) _).trans (HB.out.mono (by simp))).alloc (Nat.le_of_lt hz) _).grown hgrow (by simp; omega) (fun k hk => by injection hk with hk; omega))
  have HO := Lib.hid hO; have HBB := Lib.hid hB; have HST := Lib.hid hst; have HCELL := Lib.hid hcell
  clear hO hB hst hcell hS HB HOWN HOWI hgrow hown' hk0 hk2 hrl1
  go_wp2
  go_loop [8, 10, 26] (fun dr _ i => ∃ k : Nat, k ≤ st.length ∧ i = .int .i64 k ∧ dr = .bool ((st.take k).any fun x => x == (d.length : Int))) (fun _ _ i => st.length - (intOf i).toNat)
  case atStart => exact ⟨0, Nat.zero_le _, rfl, by simp⟩
  case round =>
    obtain ⟨k, hk, rfl, rfl⟩ := hrel
    generalize hg0 : (st.take k).any (fun x => x == (d.length : Int)) = dr at *
    have HDR := Lib.hid hg0; clear hg0
    by_cases hlt : k < st.length
    · have hck := HCELL.out k hlt
      have HSN := Lib.hid (show (st.take (k + 1)).any (fun x => x == (d.length : Int)) = (dr || (st[k] == (d.length : Int))) by rw [take_snoc st k hlt, List.any_append, HDR.out]; simp only [List.any_cons, List.any_nil, Bool.or_false])
      cases dr
      · go_wp2
        go_round
        case rel => exact ⟨k + 1, by omega, by go_num, by rw [HSN.out]; rfl⟩
        case measure => simp [intOf]; omega
      · go_wp2
        go_round
        case rel => exact ⟨k + 1, by omega, by go_num, by rw [HSN.out]; rfl⟩
        case measure => simp [intOf]; omega
    · have hkk : k = st.length := by omega
      have HDR2 := Lib.hid (show st.any (fun x => x == (d.length : Int)) = dr by rw [← HDR.out, List.take_of_length_le (by omega)])
      clear hkk
      obtain ⟨m, hm⟩ : ∃ m, m = st.length - 1 := ⟨_, rfl⟩
      have hm1 : m < st.length := by have := List.length_pos_iff.2 hstn; omega
      have hcl := HCELL.out m hm1
      obtain ⟨x, hx⟩ : ∃ x, x = st[m] := ⟨_, rfl⟩
      rw [← hx] at hcl
      have hxx : st[st.length - 1]?.getD 0 = x := by rw [← hm, List.getElem?_eq_getElem hm1, hx]; rfl
      have hF : P.recordsOk d p n = (dr && ((x == (d.length : Int) + p.length) && (n == (R.1.length : Int)))) := by
        unfold P.recordsOk P.starts
        rw [HRR.out, ← HST.out, HDR2.out, hxx]; simp
      have HF0 := Lib.hid hF
      have i1 : IntKind.i64.wrap ((st.length : Int) - 1) = (st.length : Int) - 1 := IntWalk.i64_in _ (by omega)
      have i2 : 0 ≤ (st.length : Int) - 1 := by omega
      have i3 : ((st.length : Int) - 1).toNat = m := by omega
      have i4 : (st.length : Int) - 1 < (st.length : Int) := by omega
      clear hm hm1 hx hxx hF HCELL
      have finish : ∀ q b, P.recordsOk d p n = b → RecsPost d p n w (.returned (.tuple #[.slice ad R.1.length cp, .bool b])) (w2.drewN q) := by
        intro q b hb
        refine ⟨.slice ad R.1.length cp, by rw [hb], ?_, ?_⟩
        · rw [HRR.out]; exact own_below HO.out (below_drewN (Below.refl w2.heap.size _) _) (Nat.le_refl _)
        · exact below_drewN HBB.out _
      have FIN := Lib.hid finish; clear finish
      cases dr
      · have HF := Lib.hid (show P.recordsOk d p n = false by rw [HF0.out]; rfl)
        go_wp2_with fail
        go_quiet (fail)
        go_wp2
        go_ret2
        exact FIN.out _ _ HF.out
      · cases h5 : (x == (d.length : Int) + p.length)
        · have HF := Lib.hid (show P.recordsOk d p n = false by rw [HF0.out, h5]; rfl)
          go_wp2_with fail
          go_quiet (fail)
          go_wp2
          go_ret2
          exact FIN.out _ _ HF.out
        · cases h6 : (n == (R.1.length : Int))
          all_goals
            have HF := Lib.hid (show P.recordsOk d p n = _ by rw [HF0.out, h5, h6])
            go_wp2_with fail
            go_quiet (fail)
            go_wp2
            go_ret2
            exact FIN.out _ _ HF.out
end Go.Proofs.YtmlklnimoknojaaGreatDoor.L

namespace Go.Proofs.YtmlklnimoknojaaGreatDoor.L
open Go Go.RowKit
set_option maxHeartbeats 400000
set_option maxRecDepth 100000
theorem isValidLog (d p : Str) (n : Int) (w : World) (hd : d.length ≤ 2 ^ 20) (hp : p.length ≤ 2 ^ 20) (hE : Env w) :
    Calls Tryz.prog 106 #[logV d p n] w fun e w' => e = .returned (.bool (P.recordsOk d p n)) ∧ Below w.heap.size w w' := by
  have HE := Lib.hid hE; clear hE
  go_enter Tryz.func106, Tryz.ntmps106
  go_wp2_with fail
  refine (records _ _ _ _ hd hp (HE.out.alloc _)).mono ?_
  rintro e w1 ⟨v, rfl, _, hb⟩
  go_wp2
  go_ret
  exact ⟨rfl, ((Below.refl _ _).alloc (Nat.le_refl _) _).trans (hb.mono (by simp))⟩
theorem szLog (d p : Str) (n left : Int) (w : World) (hd : d.length ≤ maxLen) (hp : p.length ≤ maxLen) (hl0 : 0 ≤ left) (hl : left ≤ 1048576) :
    Calls Tryz.prog 101 #[logV d p n, .int .i64 left] w fun e w' => e = .returned (.int .i64 (P.sz2 d.length p.length left)) ∧ Below w.heap.size w w' := by
  unfold maxLen at hd hp
  rcases Int.lt_or_le (left - (d.length : Int)) 0 with h1 | h1
  · have HF := Lib.hid (show P.sz2 d.length p.length left = -1 by unfold P.sz2; rw [if_pos h1])
    go_enter Tryz.func101, Tryz.ntmps101
    go_wp2
    go_ret
    exact ⟨by rw [HF.out]; rfl, (Below.refl _ _).alloc (Nat.le_refl _) _⟩
  · rcases Int.lt_or_le (left - (d.length : Int) - (p.length : Int)) 0 with h2 | h2
    · have HF := Lib.hid (show P.sz2 d.length p.length left = -1 by unfold P.sz2; rw [if_neg (by omega), if_pos h2])
      go_enter Tryz.func101, Tryz.ntmps101
      go_wp2
      go_ret
      exact ⟨by rw [HF.out]; rfl, (Below.refl _ _).alloc (Nat.le_refl _) _⟩
    · have HF := Lib.hid (show P.sz2 d.length p.length left = left - (d.length : Int) - (p.length : Int) by unfold P.sz2; rw [if_neg (by omega), if_neg (by omega)])
      go_enter Tryz.func101, Tryz.ntmps101
      go_wp2
      go_ret
      exact ⟨by rw [HF.out]; rfl, (Below.refl _ _).alloc (Nat.le_refl _) _⟩
theorem toLog (d p : Str) (n : Int) (w : World) :
    Calls Tryz.prog 105 #[logV d p n] w fun e w' => e = .returned (logV d p n) ∧ Below w.heap.size w w' := by
  go_enter Tryz.func105, Tryz.ntmps105
  go_wp2
  refine bodyPost_ret (v := logV d p n) (by simp [results, Tryz.results105, go_sem]) rfl ⟨rfl, ?_⟩
  exact (((Below.refl _ _).alloc (Nat.le_refl _) _).alloc (by simp) _).alloc (by simp; omega) _
theorem eqLog (d p d' p' : Str) (n n' : Int) (w : World) :
    Calls Tryz.prog 109 #[logV d p n, logV d' p' n'] w fun e w' => e = .returned (.bool ((d == d') && ((p == p') && (n == n')))) ∧ Below w.heap.size w w' := by
  cases h1 : (d == d') <;> cases h2 : (p == p') <;> cases h3 : (n == n')
  all_goals
    go_enter Tryz.func109, Tryz.ntmps109
    go_wp2
    go_ret
    exact ⟨rfl, ((Below.refl _ _).alloc (Nat.le_refl _) _).alloc (by simp) _⟩
end Go.Proofs.YtmlklnimoknojaaGreatDoor.L
