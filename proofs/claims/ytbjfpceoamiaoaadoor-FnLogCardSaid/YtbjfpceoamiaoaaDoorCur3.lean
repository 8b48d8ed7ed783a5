/- Walks: the cursor spoils a text. -/
import Derived.Test.YtbjfpceoamiaoaaDoorCur2
namespace Go.Proofs.YtbjfpceoamiaoaaDoor
open Go Go.RowKit
set_option maxHeartbeats 1000000
set_option maxRecDepth 100000
theorem CurPost.drewN {B C K : Nat} {u v : World} (h : CurPost B C K u v) (n : Nat) : CurPost B C K u (v.drewN n) := by
  obtain ⟨⟨ad, m, cap, a, s, c0, c1, c2, f1, f2, ha, hn, hs0, hs1, hBC, hC, hcode⟩, h2, h3⟩ := h
  refine ⟨⟨ad, m, cap, a, s, by simpa using c0, by simpa using c1, by simpa using c2, by simpa using f1, by simpa using f2, ha, hn, hs0, hs1, hBC, by simpa using hC, by simpa using hcode⟩, ⟨fun b o x1 x2 => by simpa using h2.1 b o x1 x2, fun b o x1 x2 => by simpa using h2.2.1 b o x1 x2, by simpa using h2.2.2⟩, below_drewN h3 n⟩
theorem cur_spoilt (B C K : Nat) (t u : Str) (w : World) (hK : K < 2 ^ 38) (ht : t.length ≤ 2 ^ 30) (hu : u.length ≤ 2 ^ 20) (hu0 : 0 < u.length) (h : IsCur B C K w) :
    Calls Tryd.prog 54 #[.pointer (some ⟨C, 0, none⟩), .string (S t), .string (S u)] w fun e w' => ∃ s : Str, s.length ≤ t.length + 1 ∧ e = .returned (.string (S s)) ∧ CurPost B C (K + 6) w w' := by
  have HC := Lib.hid h; clear h
  cases t with
  | nil =>
    go_enter Tryd.func54, Tryd.ntmps54
    go_wp2
    go_ret
    exact ⟨u.take 1, by simp; omega, rfl, CurPost.refl HC.out (by omega)⟩
  | cons a t' =>
    obtain ⟨t, htt⟩ : ∃ t, t = a :: t' := ⟨_, rfl⟩
    rw [← htt] at ht ⊢
    have ht0 : 0 < t.length := by rw [htt]; simp
    have hbe : (t == []) = false := by rw [htt]; rfl
    clear htt
    go_enter Tryd.func54, Tryd.ntmps54
    go_wp2_with fail
    refine (cur_pick B C K t.length w (by omega) (by omega) HC.out).mono ?_
    rintro e w1 ⟨i, hi, rfl, hc⟩
    have hil : i < t.length := by omega
    have H1 := Lib.hid hc; clear hc hi
    go_wp2_with fail
    refine (cur_pick B C (K + 2) u.length w1 (by omega) (by omega) H1.out.1).mono ?_
    rintro e w2 ⟨j, hj, rfl, hc⟩
    have hjl : j < u.length := by omega
    have H2 := Lib.hid (H1.out.trans hc); clear hc hj H1
    go_wp2_with fail
    refine (cur_pick B C (K + 4) 3 w2 (by omega) (by omega) H2.out.1).mono ?_
    rintro e w3 ⟨k, hk, rfl, hc⟩
    have hkl : k < 3 := by omega
    have H3 := Lib.hid (H2.out.trans hc); clear hc hk H2
    have hi1 : i + 1 ≤ t.length := hil
    have hmin : min i t.length = i := Nat.min_eq_left (by omega)
    obtain ⟨c, hc⟩ : ∃ c, c = List.take 1 (List.drop j u) := ⟨_, rfl⟩
    have hcl : c.length ≤ 1 := by rw [hc]; simp; omega
    have f1 : ¬ 9223372036854775807 < i + c.length := by omega
    have f2 : ¬ 9223372036854775807 < i + c.length + (t.length - i) := by omega
    have f3 : ¬ 9223372036854775807 < i + c.length + (t.length - (i + 1)) := by omega
    have f4 : ¬ 9223372036854775807 < i + (t.length - (i + 1)) := by omega
    match k, hkl with
    | 0, _ =>
      go_wp2
      rw [← hc]
      go_quiet (fail)
      go_wp2
      go_ret
      exact ⟨List.take i t ++ (List.take 1 (List.drop j u) ++ List.drop i t), by simp; omega, rfl, H3.out.drewN _⟩
    | 1, _ => 
      go_wp2
      rw [← hc]
      go_quiet (fail)
      go_wp2
      go_ret
      exact ⟨List.take i t ++ (List.take 1 (List.drop j u) ++ List.drop (i + 1) t), by simp; omega, rfl, H3.out.drewN _⟩
    | 2, _ =>
      go_wp2
      go_quiet (fail)
      go_wp2
      go_ret
      exact ⟨List.take i t ++ List.drop (i + 1) t, by simp; omega, rfl, H3.out.drewN _⟩
end Go.Proofs.YtbjfpceoamiaoaaDoor
