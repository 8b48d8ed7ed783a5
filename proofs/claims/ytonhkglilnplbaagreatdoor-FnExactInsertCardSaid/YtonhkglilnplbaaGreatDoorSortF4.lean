/- Plain: items moved by a map of places; two blocks exchanged, two blocks turned. Walks: swapRange. -/
import Derived.Deep.DeepCutAuto
import Derived.BigRegion
import Derived.IntWalk
import Derived.Test.YtonhkglilnplbaaGreatDoorSortF3
namespace Go.Proofs.YtonhkglilnplbaaGreatDoor
/-- each place k holds what stood at f k -/
structure Moved (l l' : List It) (f : Nat → Nat) : Prop where
  perm : l'.Perm l
  get : ∀ k, l'[k]? = l[f k]?
theorem Moved.refl (l : List It) : Moved l l id := ⟨List.Perm.refl _, fun _ => rfl⟩
theorem Moved.len {l l' : List It} {f : Nat → Nat} (h : Moved l l' f) : l'.length = l.length := h.perm.length_eq
theorem Moved.trans {l m n : List It} {f h : Nat → Nat} (a : Moved l m f) (b : Moved m n h) : Moved l n (fun k => f (h k)) :=
  ⟨b.perm.trans a.perm, fun k => by rw [b.get, a.get]⟩
theorem Moved.congr {l m : List It} {f h : Nat → Nat} (a : Moved l m f) (e : ∀ k, f k = h k) : Moved l m h := ⟨a.perm, fun k => by rw [← e k]; exact a.get k⟩
def trIx (i j k : Nat) : Nat := if k = j then i else if k = i then j else k
def swIx (a b n k : Nat) : Nat := if a ≤ k ∧ k < a + n then k + (b - a) else if b ≤ k ∧ k < b + n then k - (b - a) else k
def roIx (a m b k : Nat) : Nat := if k < a ∨ b ≤ k then k else if k < a + (b - m) then k + (m - a) else k - (b - m)
theorem Moved.swap (l : List It) (i j : Nat) (hi : i < l.length) (hj : j < l.length) : Moved l (swapI l i j hi hj) (trIx i j) := by
  refine ⟨List.set_set_perm hi hj, fun k => ?_⟩
  rw [swapI_get]
  unfold trIx
  split
  · exact (List.getElem?_eq_getElem hi).symm
  · split
    · exact (List.getElem?_eq_getElem hj).symm
    · rfl
theorem swIx_step {a b n : Nat} (h : a + n < b) (k : Nat) : swIx a b n (trIx (a + n) (b + n) k) = swIx a b (n + 1) k := by
  unfold swIx trIx
  repeat' split
  all_goals omega
theorem swIx_zero (a b k : Nat) : swIx a b 0 k = k := by
  unfold swIx
  repeat' split
  all_goals omega
/-- two blocks of one length are turned -/
theorem roIx_even {a m b : Nat} (h1 : a ≤ m) (h2 : m - a = b - m) (h3 : m ≤ b) (k : Nat) : swIx a m (m - a) k = roIx a m b k := by
  unfold swIx roIx
  repeat' split
  all_goals omega
theorem roIx_left {m i j : Nat} (h : j < i) (hi : i ≤ m) (k : Nat) : swIx (m - i) m j (roIx (m - (i - j)) m (m + j) k) = roIx (m - i) m (m + j) k := by
  unfold swIx roIx
  repeat' split
  all_goals omega
theorem roIx_right {m i j : Nat} (h : i < j) (hi : i ≤ m) (k : Nat) : swIx (m - i) (m + j - i) i (roIx (m - i) m (m + (j - i)) k) = roIx (m - i) m (m + j) k := by
  unfold swIx roIx
  repeat' split
  all_goals omega
open Go Go.RowKit
set_option maxHeartbeats 4000000
set_option maxRecDepth 100000
theorem swapRange_full (its : List It) (F : Blk) (g o cap a b n : Nat) (w : World) (h : RowI w F g o its) (hl : its.length ≤ 2 ^ 30) (hab : a + n ≤ b) (hb : b + n ≤ its.length) :
    Calls Tryz.prog 225 #[.slice (some ⟨g, o, none⟩) its.length cap, .int .i64 a, .int .i64 b, .int .i64 n, byF] w fun e w' => e = .returned (.tuple #[]) ∧ ∃ its', Moved its its' (swIx a b n) ∧ RowI w' F g o its' ∧ Chg (fun b => b = g) w w' := by
  have HH := Lib.hid h; clear h
  go_enter Tryz.func225, Tryz.ntmps225
  go_wp2
  go_loopw [10] (fun i wr => ∃ (t : Nat) (m : List It), t ≤ n ∧ i = .int .i64 t ∧ Moved its m (swIx a b t) ∧ RowI wr F g o m ∧ Chg (fun b => b = g) w wr) (fun i _ => n - (intOf i).toNat)
  case atStart => exact ⟨0, its, Nat.zero_le _, rfl, (Moved.refl its).congr fun k => (swIx_zero a b k).symm, HH.out, Chg.refl _ _⟩
  case round =>
    obtain ⟨t, m, ht, rfl, hm, hr, hc⟩ := hrel
    have HM := Lib.hid hm; have HR := Lib.hid hr; have HC := Lib.hid hc
    have hlm : m.length = its.length := hm.len
    by_cases hlt : t < n
    · have h1 : (t : Int) < (n : Int) := by omega
      have hi1 : a + t < m.length := by omega
      have hi2 : b + t < m.length := by omega
      obtain ⟨f1, f2⟩ := hr.soft (a + t) hi1
      obtain ⟨f3, f4⟩ := hr.soft (b + t) hi2
      obtain ⟨xd, xc, yd, yc, hx, hy, hkc⟩ := hr.two (a + t) (b + t) hi1 hi2
      have HSW := Lib.hid (hr.swap (a + t) (b + t) hi1 hi2 (by omega))
      have HMS := Lib.hid ((hm.trans (Moved.swap m (a + t) (b + t) hi1 hi2)).congr (swIx_step (by omega)))
      clear hm hr hc
      generalize m[a + t] = en at *
      generalize m[b + t] = fn at *
      obtain ⟨x, Gx, eo, et⟩ := en
      obtain ⟨y, Gy, fo, ft⟩ := fn
      simp only at hx hy hkc HSW
      subst hx hy
      obtain ⟨c1, c2, c3, c4, c5, _⟩ := hkc
      have hw1 : IntKind.i64.wrap ((a : Int) + (t : Int)) = ((a + t : Nat) : Int) := by rw [IntWalk.i64_in _ (by omega)]; omega
      have hw2 : IntKind.i64.wrap ((b : Int) + (t : Int)) = ((b + t : Nat) : Int) := by rw [IntWalk.i64_in _ (by omega)]; omega
      have hn1 : ((a + t : Nat) : Int) < (its.length : Int) := by omega
      have hn2 : ((b + t : Nat) : Int) < (its.length : Int) := by omega
      clear HR
      generalize HVV : wr = vv at *
      go_upto_region 3 with fail
      go_region
      obtain ⟨hr3, hc3⟩ := HSW.out
      have hd := (Below.refl (swapW vv g o (a + t) (b + t) ⟨.slice xd eo.length xc, Gx, (eo, et)⟩ ⟨.slice yd fo.length yc, Gy, (fo, ft)⟩).heap.size (swapW vv g o (a + t) (b + t) ⟨.slice xd eo.length xc, Gx, (eo, et)⟩ ⟨.slice yd fo.length yc, Gy, (fo, ft)⟩)).drew
      have HR3 := Lib.hid (hr3.below hd)
      have HC3 := Lib.hid ((HC.out.trans hc3).trans (Below.chg hd _))
      clear hr3 hc3 hd HSW HM HC c1 c2 c3 c4 c5 f1 f2 f3 f4
      change Exit.inBlock _ _ _ _ (swapW vv g o (a + t) (b + t) ⟨.slice xd eo.length xc, Gx, (eo, et)⟩ ⟨.slice yd fo.length yc, Gy, (fo, ft)⟩).drew
      generalize (swapW vv g o (a + t) (b + t) ⟨.slice xd eo.length xc, Gx, (eo, et)⟩ ⟨.slice yd fo.length yc, Gy, (fo, ft)⟩).drew = v3 at *
      generalize swapI m (a + t) (b + t) _ _ = m3 at *
      go_wp2
      go_roundw
      case rel => exact ⟨t + 1, m3, by omega, by go_num, HMS.out, HR3.out, HC3.out⟩
      case measure => simp [intOf]; omega
    · have htn : t = n := by omega
      subst htn
      clear hm hr hc
      go_wp2
      go_end0
      exact ⟨rfl, m, HM.out, HR.out, HC.out⟩
end Go.Proofs.YtonhkglilnplbaaGreatDoor
