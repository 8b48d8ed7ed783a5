/- Walks: splitting. -/
import Derived.Test.YtbjfpceoamiaoaaDoorLog2
import Derived.Test.YtbjfpceoamiaoaaDoorPlainSplit
namespace Go.Proofs.YtbjfpceoamiaoaaDoor
open Go Go.RowKit
set_option maxHeartbeats 400000
set_option maxRecDepth 100000
theorem info_str : (Tryd.prog.info? 9).map (fun i => (i.zero, i.size, i.bytes)) = some (some (.string ⟨#[]⟩), 1, 16) := by kernel_rfl
theorem strVals_len (l : List Str) : (strVals l).length = l.length := by simp [strVals]
theorem OwnStrs.snoc {B : Nat} {w : World} {v : Value} {l : List Str} {x : Str} (h : w.ownsRow B 9 1 v (l.length + 1) (strVals l ++ [.string (S x)])) : OwnStrs B w v (l ++ [x]) := by
  unfold OwnStrs; rw [List.length_append]; simpa [strVals] using h
theorem split_rel {w w1 w2 : World} {v v' : Value} {l : List Str} {x : Str} {o : Obj} (hsz : w.heap.size ≤ w1.heap.size) (hown : OwnStrs w.heap.size w1 v l) (hb : Below w.heap.size w w1)
    (h : w2.ownsRow w.heap.size 9 1 v' (l.length + 1) (strVals l ++ [.string (S x)])) (hg : (w1.alloc o).grownBy w2 v.ownBlock) :
    OwnStrs w.heap.size w2 v' (l ++ [x]) ∧ Below w.heap.size w w2 :=
  ⟨OwnStrs.snoc h, (hb.alloc hsz _).grown hg (by simp; omega) (fun k hk => (World.ownsRow.lt hown k hk).1)⟩
theorem l1Split (s : Str) (c : UInt8) (w : World) (hs : s.length ≤ 2 ^ 40) :
    Calls Tryd.prog 65 #[.string (S s), .int .u8 c.toNat] w (SplitPost c s w) := by
  obtain ⟨i0, hi, hz0, hz1, hz2⟩ := info_parts info_str
  go_enter Tryd.func65, Tryd.ntmps65
  go_wp2
  go_loopw [5, 6, 7] (fun v fr i wr => ∃ (k f : Nat) (init : List Str), k ≤ s.length ∧ f ≤ k ∧ i = .int .i64 k ∧ fr = .int .i64 f ∧ init.length ≤ k ∧ P.split c (s.take k) = init ++ [(s.drop f).take (k - f)] ∧ OwnStrs w.heap.size wr v init ∧ Below w.heap.size w wr)
    (fun _ _ i _ => s.length - (intOf i).toNat)
  case atStart => exact ⟨0, 0, [], Nat.zero_le _, Nat.le_refl _, rfl, rfl, Nat.le_refl _, by simp [P.split], World.ownsRow_made _ _ _ (Nat.le_refl _) (by decide) (by rfl), (Below.refl _ _).alloc (Nat.le_refl _) _⟩
  case round =>
    obtain ⟨k, f, init, hk, hf, rfl, rfl, hil, hsp, hown, hbel⟩ := hrel
    have HSP := Lib.hid hsp; clear hsp
    have HOWN := Lib.hid hown; clear hown
    have HBEL := Lib.hid hbel; clear hbel
    have hsz := HBEL.out.size
    by_cases hlt : k < s.length
    · by_cases he : (s[k] == c) = true
      · have HH := Lib.hid (P.split_hit c s f k init hlt he HSP.out)
        clear HSP
        go_wp2_with (at_builtin; refine wpList_append_own _ rfl _ _ 86 rfl w.heap.size 9 i0 (.string ⟨#[]⟩) 1 16 Tryd.underlying86 hi hz0 hz1 hz2 rfl (by decide) _ _ _ rfl (HOWN.out.alloc _) ⟨wr.heap.size, 0, none⟩ 1 1 [.string (S ((s.drop f).take (k - f)))] rfl rfl ?c1 ?c2 ?c3 ?c4 ?c5 ?_)
        case c1 => intro j u hj; match j, hj with | 0, hj => (simp at hj; subst hj; simp [Addr.add])
        case c2 => intro u hu; simp at hu; subst hu; rfl
        case c3 => unfold maxLen; omega
        case c4 => omega
        case c5 => simp; omega
        intro v' w1 hown' hgrow _
        have R := Lib.hid (split_rel hsz HOWN.out HBEL.out hown' hgrow)
        clear hown' hgrow HOWN HBEL
        go_wp2
        go_roundw
        case rel => exact ⟨k + 1, k + 1, init ++ [(s.drop f).take (k - f)], by omega, by omega, by go_num, by go_num, by simp; omega, HH.out, R.out.1, R.out.2⟩
        case measure => simp [intOf]; omega
      · have he' : (s[k] == c) = false := by simpa using he
        clear he
        have HH := Lib.hid (P.split_miss c s f k init hlt hf he' HSP.out)
        clear HSP
        go_wp2
        go_roundw
        case rel => exact ⟨k + 1, f, init, by omega, by omega, by go_num, rfl, by omega, HH.out, HOWN.out, HBEL.out⟩
        case measure => simp [intOf]; omega
    · have HH := Lib.hid (P.split_end c s f k init (by omega) HSP.out)
      clear HSP
      go_wp2_with (at_builtin; refine wpList_append_own _ rfl _ _ 86 rfl w.heap.size 9 i0 (.string ⟨#[]⟩) 1 16 Tryd.underlying86 hi hz0 hz1 hz2 rfl (by decide) _ _ _ rfl (HOWN.out.alloc _) ⟨wr.heap.size, 0, none⟩ 1 1 [.string (S (s.drop f))] rfl rfl ?d1 ?d2 ?d3 ?d4 ?d5 ?_)
      case d1 => intro j u hj; match j, hj with | 0, hj => (simp at hj; subst hj; simp [Addr.add])
      case d2 => intro u hu; simp at hu; subst hu; rfl
      case d3 => unfold maxLen; omega
      case d4 => omega
      case d5 => simp; omega
      intro v' w1 hown' hgrow _
      have R := Lib.hid (split_rel hsz HOWN.out HBEL.out hown' hgrow)
      clear hown' hgrow HOWN HBEL
      go_wp2
      go_ret
      exact ⟨v', rfl, by rw [HH.out]; exact R.out.1, R.out.2⟩
theorem l1Split35 (s : Str) (w : World) (hs : s.length ≤ 2 ^ 40) :
    Calls Tryd.prog 65 #[.string (S s), .int .u8 35] w (SplitPost 35 s w) := l1Split s 35 w hs
theorem l1Split62 (s : Str) (w : World) (hs : s.length ≤ 2 ^ 40) :
    Calls Tryd.prog 65 #[.string (S s), .int .u8 62] w (SplitPost 62 s w) := l1Split s 62 w hs
theorem l1Split10 (s : Str) (w : World) (hs : s.length ≤ 2 ^ 40) :
    Calls Tryd.prog 65 #[.string (S s), .int .u8 10] w (SplitPost 10 s w) := l1Split s 10 w hs
end Go.Proofs.YtbjfpceoamiaoaaDoor
