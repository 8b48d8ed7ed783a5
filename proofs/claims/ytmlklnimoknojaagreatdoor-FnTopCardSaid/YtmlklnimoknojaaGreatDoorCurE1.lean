/- Walks: the library's stable sort, on a row that is in order: insertion. Walks: the library's stable sort, on a row that is in order: a merge. Walks: the library's stable sort, on a row that is in order. -/
import Derived.Deep.DeepCutAuto
import Derived.IntWalk
import Derived.Test.YtmlklnimoknojaaGreatDoorMemD
import Derived.Test.YtmlklnimoknojaaGreatDoorValD
import Derived.BigQuiet
import Derived.Laws.Bits64b
import Derived.Test.YtmlklnimoknojaaGreatDoorMemE
namespace Go.Proofs.YtmlklnimoknojaaGreatDoor
section
namespace P
end P
open Go Go.RowKit
set_option maxHeartbeats 1000000
set_option maxRecDepth 100000
/-- two entries of a row, as a comparison reads them -/
def KC (B : Nat) (w : World) (g p : Nat) (x : Value) (eo : List Int) (et : Str) (q : Nat) (y : Value) (fo : List Int) (ft : Str) (v : World) : Prop :=
  v.cell? ⟨g, p, none⟩ = some x ∧ v.cell? ⟨g, p + 1, none⟩ = some (.string (S et)) ∧ v.cell? ⟨g, q, none⟩ = some y ∧ v.cell? ⟨g, q + 1, none⟩ = some (.string (S ft)) ∧ g < v.heap.size ∧ IntR v x eo ∧ IntR v y fo ∧ B ≤ v.heap.size ∧ Below B w v
theorem KC.step {B : Nat} {w v v' : World} {g p q : Nat} {x y : Value} {eo fo : List Int} {et ft : Str} (h : KC B w g p x eo et q y fo ft v) (hb : Below v.heap.size v v') : KC B w g p x eo et q y fo ft v' := by
  obtain ⟨h1, h2, h3, h4, h5, h6, h7, h8, h9⟩ := h
  exact ⟨(hb.cell (p := ⟨g, p, none⟩) h5).trans h1, (hb.cell (p := ⟨g, p + 1, none⟩) h5).trans h2, (hb.cell (p := ⟨g, q, none⟩) h5).trans h3, (hb.cell (p := ⟨g, q + 1, none⟩) h5).trans h4,
    Nat.lt_of_lt_of_le h5 hb.size, h6.below hb, h7.below hb, Nat.le_trans h8 hb.size, h9.trans (hb.mono h8)⟩
/-- how two entries of a row read -/
theorem EntR.two {w v : World} {B g o cap : Nat} {l : P.Dic} (h : EntR w (.slice (some ⟨g, o, none⟩) l.length cap) l) (hz : w.heap.size ≤ B) (hb : Below B w v) (hB : B ≤ v.heap.size) (i j : Nat) (hi : i < l.length) (hj : j < l.length) :
    ∃ x xd xc y yd yc, x = .slice xd (l[i]'hi).1.length xc ∧ y = .slice yd (l[j]'hj).1.length yc ∧ KC B w g (o + i * 2) x (l[i]'hi).1 (l[i]'hi).2 (o + j * 2) y (l[j]'hj).1 (l[j]'hj).2 v := by
  have h' := h.below (hb.mono hz)
  obtain ⟨g1, o1, e1, hg, x, a0, a1, hx⟩ := h'.at i hi
  obtain ⟨g2, o2, e2, _, y, b0, b1, hy⟩ := h'.at j hj
  injection e1 with e1; injection e1 with e1 e1' _
  injection e2 with e2; injection e2 with e2 e2' _
  subst e1 e1' e2 e2'
  obtain ⟨xd, xc, hxe, _⟩ := id hx
  obtain ⟨yd, yc, hye, _⟩ := id hy
  exact ⟨x, xd, xc, y, yd, yc, hxe, hye, a0, a1, b0, b1, hg, hx, hy, hB, hb⟩
end
section
open Go Go.RowKit
set_option maxHeartbeats 2000000
set_option maxRecDepth 100000
end
section
open Go Go.RowKit
set_option maxHeartbeats 2000000
set_option maxRecDepth 100000
end
end Go.Proofs.YtmlklnimoknojaaGreatDoor

namespace Go.Proofs.YtmlklnimoknojaaGreatDoor
section
open Go Go.RowKit
set_option maxHeartbeats 400000
set_option maxRecDepth 100000
theorem Chg.drewN {F : Blk} {a w : World} (h : Chg F a w) (k : Nat) : Chg F a (w.drewN k) := h.trans (Below.chg (below_drewN (Below.refl w.heap.size w) k) F)
/-- the cursor in block C over bytes below B, read at most K times -/
def IsCur (B C K : Nat) (v : World) : Prop :=
  ∃ (ad : Option Addr) (n cap a : Nat) (s : Int), v.cell? ⟨C, 0, none⟩ = some (.slice ad n cap) ∧ v.cell? ⟨C, 1, none⟩ = some (.int .i64 a) ∧ v.cell? ⟨C, 2, none⟩ = some (.int .u64 s) ∧
    v.frozen? ⟨C, 1, none⟩ = false ∧ v.frozen? ⟨C, 2, none⟩ = false ∧ a ≤ K ∧ n ≤ 65536 ∧ 0 ≤ s ∧ s < 18446744073709551616 ∧ B ≤ C ∧ C < v.heap.size ∧
    (n = 0 ∨ ∃ g o, ad = some ⟨g, o, none⟩ ∧ g < B ∧ ∀ j, j < n → ∃ b : Nat, b < 256 ∧ v.cell? ⟨g, o + j, none⟩ = some (.int .u8 b))
/-- what a draw leaves: the cursor, all other blocks -/
def CurPost (B C K : Nat) (v v' : World) : Prop := IsCur B C K v' ∧ Chg (fun b => b = C) v v'
theorem u64_lo (x : Int) : 0 ≤ IntKind.u64.wrap x ∧ IntKind.u64.wrap x < 18446744073709551616 := by
  simp only [IntKind.wrap]
  constructor
  · exact Int.emod_nonneg _ (by decide)
  · exact Int.emod_lt_of_pos _ (by decide)
theorem and_byte (x : Int) : ∃ m : Nat, m < 256 ∧ wrap64 (bits .and .u64 (IntKind.u64.wrap x / 1099511627776) 255) = (m : Int) := by
  obtain ⟨h0, h1⟩ := u64_lo x
  obtain ⟨y, hy⟩ := Int.eq_ofNat_of_zero_le h0
  rw [hy] at h1 ⊢
  have e : ((y : Nat) : Int) / 1099511627776 = ((y / 1099511627776 : Nat) : Int) := by omega
  rw [e, show (255 : Int) = ((255 : Nat) : Int) from rfl, bits_and_u64_nat _ _ (by omega) (by decide)]
  have hm : (y / 1099511627776) &&& 255 < 256 := Nat.lt_of_le_of_lt Nat.and_le_right (by decide)
  refine ⟨_, hm, ?_⟩
  simp only [wrap64]; omega
theorem cur_step {B C K n cap a : Nat} {ad : Option Addr} {w : World} (x s' : Int) (i j : Nat) (c0 : w.cell? ⟨C, 0, none⟩ = some (.slice ad n cap)) (c1 : w.cell? ⟨C, 1, none⟩ = some (.int .i64 a)) (s : Value) (c2 : w.cell? ⟨C, 2, none⟩ = some s)
    (f1 : w.frozen? ⟨C, 1, none⟩ = false) (f2 : w.frozen? ⟨C, 2, none⟩ = false) (ha : a ≤ K) (hn : n ≤ 65536) (hs0 : 0 ≤ s') (hs1 : s' < 18446744073709551616) (hBC : B ≤ C) (hC : C < w.heap.size) (hx : x = ((a + 1 : Nat) : Int))
    (hcode : n = 0 ∨ ∃ g o, ad = some ⟨g, o, none⟩ ∧ g < B ∧ ∀ j, j < n → ∃ b : Nat, b < 256 ∧ w.cell? ⟨g, o + j, none⟩ = some (.int .u8 b)) :
    CurPost B C (K + 1) w ((((w.drewN i).setCell ⟨C, 1, none⟩ (.int .i64 x)).setCell ⟨C, 2, none⟩ (.int .u64 s')).drewN j) := by
  subst hx
  have hsz : ((((w.drewN i).setCell ⟨C, 1, none⟩ (.int .i64 ((a + 1 : Nat) : Int))).setCell ⟨C, 2, none⟩ (.int .u64 s')).drewN j).heap.size = w.heap.size := by simp
  have ho : ∀ g o, g ≠ C → ((((w.drewN i).setCell ⟨C, 1, none⟩ (.int .i64 ((a + 1 : Nat) : Int))).setCell ⟨C, 2, none⟩ (.int .u64 s')).drewN j).cell? ⟨g, o, none⟩ = w.cell? ⟨g, o, none⟩ := by
    intro g o hg
    simp only [World.cell?_drewN]
    rw [World.cell?_setCell_other _ _ _ _ (by intro e; injection e; omega), World.cell?_setCell_other _ _ _ _ (by intro e; injection e; omega)]
    simp
  refine ⟨⟨ad, n, cap, a + 1, s', ?_, ?_, ?_, by simpa using f1, by simpa using f2, by omega, hn, hs0, hs1, hBC, by rw [hsz]; exact hC, ?_⟩, ?_⟩
  · go_simp
  · go_simp
  · go_simp
  · rcases hcode with h | ⟨g, o, h1, h2, h3⟩
    · exact .inl h
    · refine .inr ⟨g, o, h1, h2, fun j hj => ?_⟩
      obtain ⟨b, hb, hc⟩ := h3 j hj
      exact ⟨b, hb, (ho _ _ (by omega)).trans hc⟩
  · exact (((((Chg.refl (fun b => b = C) w).drewN i).setCell (p := ⟨C, 1, none⟩) rfl _).setCell (p := ⟨C, 2, none⟩) rfl _).drewN j)
theorem cur_next (B C K : Nat) (w : World) (hK : K < 2 ^ 40) (h : IsCur B C K w) :
    Calls Tryz.prog 117 #[.pointer (some ⟨C, 0, none⟩)] w fun e w' => ∃ x : Nat, x < 256 ∧ e = .returned (.int .i64 x) ∧ CurPost B C (K + 1) w w' := by
  obtain ⟨ad, n, cap, a, s, c0, c1, c2, f1, f2, ha, hn, hs0, hs1, hBC, hC, hcode⟩ := h
  by_cases hlt : a < n
  · have hcd : ∃ g o, ad = some ⟨g, o, none⟩ ∧ g < B ∧ ∀ j, j < n → ∃ b : Nat, b < 256 ∧ w.cell? ⟨g, o + j, none⟩ = some (.int .u8 b) := by
      rcases hcode with h | h
      · omega
      · exact h
    obtain ⟨g, o, rfl, hg, hby⟩ := hcd
    obtain ⟨b, hb, hcb⟩ := hby a hlt
    have HBY := Lib.hid hby; clear hby hcode
    have hb1 : (b : Int) < 256 := by omega
    have hne : g ≠ C := by omega
    go_enter Tryz.func117, Tryz.ntmps117
    go_wp2
    go_quiet (fail)
    go_wp2
    go_quiet (fail)
    go_wp2
    go_quiet (fail)
    go_wp2
    go_ret
    exact ⟨b, hb, rfl, cur_step _ _ _ _ c0 c1 _ c2 f1 f2 ha hn (u64_lo _).1 (u64_lo _).2 hBC hC (by omega) (.inr ⟨g, o, rfl, hg, HBY.out⟩)⟩
  · have hge : (n : Int) ≤ a := by omega
    have hcd := Lib.hid hcode; clear hcode
    go_enter Tryz.func117, Tryz.ntmps117
    go_wp2
    go_quiet (fail)
    go_wp2
    go_quiet (fail)
    go_wp2
    go_ret
    obtain ⟨m, hm, e⟩ := and_byte (IntKind.u64.wrap (IntKind.u64.wrap (s * 6364136223846793005)) + 882882)
    refine ⟨m, hm, ?_, cur_step _ _ _ _ c0 c1 _ c2 f1 f2 ha hn (u64_lo _).1 (u64_lo _).2 hBC hC (by omega) hcd.out⟩
    rw [← e]; rfl
theorem IsCur.mono {B C K K' : Nat} {v : World} (h : IsCur B C K v) (hK : K ≤ K') : IsCur B C K' v := by
  obtain ⟨ad, n, cap, a, s, c0, c1, c2, f1, f2, ha, r⟩ := h
  exact ⟨ad, n, cap, a, s, c0, c1, c2, f1, f2, Nat.le_trans ha hK, r⟩
theorem CurPost.refl {B C K K' : Nat} {v : World} (h : IsCur B C K v) (hK : K ≤ K') : CurPost B C K' v v := ⟨h.mono hK, Chg.refl _ _⟩
theorem CurPost.trans {B C K K' : Nat} {u v w : World} (h : CurPost B C K u v) (k : CurPost B C K' v w) : CurPost B C K' u w := ⟨k.1, h.2.trans k.2⟩
theorem CurPost.mono {B C K K' : Nat} {u v : World} (h : CurPost B C K u v) (hK : K ≤ K') : CurPost B C K' u v := ⟨h.1.mono hK, h.2⟩
/-- a step that leaves the cursor's block and the bytes below B as they are keeps the cursor -/
theorem IsCur.stand {B C K : Nat} {v v' : World} {X : Blk} (h : IsCur B C K v) (hc : Chg X v v') (hX : ∀ b, X b → B ≤ b ∧ b ≠ C) : IsCur B C K v' := by
  obtain ⟨ad, m, cap, a, s, c0, c1, c2, f1, f2, ha, hn, hs0, hs1, hBC, hC, hcode⟩ := h
  have hXC : ¬ X C := fun h => (hX C h).2 rfl
  refine ⟨ad, m, cap, a, s, (hc.cell (p := ⟨C, 0, none⟩) hC hXC).trans c0, (hc.cell (p := ⟨C, 1, none⟩) hC hXC).trans c1, (hc.cell (p := ⟨C, 2, none⟩) hC hXC).trans c2, (hc.frozen (p := ⟨C, 1, none⟩) hC hXC).trans f1, (hc.frozen (p := ⟨C, 2, none⟩) hC hXC).trans f2, ha, hn, hs0, hs1, hBC, Nat.lt_of_lt_of_le hC hc.size, ?_⟩
  rcases hcode with h | ⟨g, o, h1, h2, h3⟩
  · exact .inl h
  · refine .inr ⟨g, o, h1, h2, fun j hj => ?_⟩
    obtain ⟨b, hb, hcb⟩ := h3 j hj
    exact ⟨b, hb, (hc.cell (p := ⟨g, _, none⟩) (by show g < v.heap.size; omega) (fun h => by have := (hX g h).1; omega)).trans hcb⟩
theorem IsCur.below {B C K : Nat} {v v' : World} (h : IsCur B C K v) (hb : Below v.heap.size v v') : IsCur B C K v' := h.stand (Below.chg hb fun _ => False) fun _ h => h.elim
theorem IsCur.lt {B C K : Nat} {v : World} (h : IsCur B C K v) : B ≤ C ∧ C < v.heap.size := by
  obtain ⟨ad, m, cap, a, s, c0, c1, c2, f1, f2, ha, hn, hs0, hs1, hBC, hC, hcode⟩ := h
  exact ⟨hBC, hC⟩
theorem IsCur.set {B C K g i : Nat} {v : World} (h : IsCur B C K v) (hgC : g ≠ C) (hgB : B ≤ g) (x : Value) : IsCur B C K (v.setCell ⟨g, i, none⟩ x) :=
  h.stand ((Chg.refl (fun b => b = g) v).setCell (p := ⟨g, i, none⟩) rfl x) (by rintro b rfl; exact ⟨hgB, hgC⟩)
theorem CurPost.below {B C K : Nat} {u v v' : World} (h : CurPost B C K u v) (hb : Below v.heap.size v v') : CurPost B C K u v' := ⟨h.1.below hb, h.2.trans (Below.chg hb _)⟩
theorem CurPost.alloc {B C K : Nat} {u v : World} (h : CurPost B C K u v) (o : Obj) : CurPost B C K u (v.alloc o) := h.below ((Below.refl _ _).alloc (Nat.le_refl _) o)
theorem CurPost.drewN {B C K : Nat} {u v : World} (h : CurPost B C K u v) (n : Nat) : CurPost B C K u (v.drewN n) := h.below (below_drewN (Below.refl _ _) n)
theorem CurPost.drew {B C K : Nat} {u v : World} (h : CurPost B C K u v) : CurPost B C K u v.drew := h.below (Below.refl _ _).drew
/-- new memory turns -/
theorem CurPost.new {B C K : Nat} {u v v' : World} {X : Blk} (h : CurPost B C K u v) (hc : Chg X v v') (hX : ∀ b, X b → u.heap.size ≤ b) (hl : C < u.heap.size) (hB : B ≤ u.heap.size) : CurPost B C K u v' :=
  ⟨h.1.stand hc fun b hb => ⟨Nat.le_trans hB (hX b hb), fun e => by have := hX b hb; omega⟩,
   ⟨hc.os.trans h.2.os, hc.tape.trans h.2.tape, hc.output.trans h.2.output, Nat.le_trans h.2.size hc.size, fun b hb hf => (hc.block b (Nat.lt_of_lt_of_le hb h.2.size) fun hx => by have := hX b hx; omega).trans (h.2.block b hb hf)⟩⟩
theorem CurPost.set {B C K g i : Nat} {u v : World} (h : CurPost B C K u v) (hg : u.heap.size ≤ g) (hl : C < u.heap.size) (hB : B ≤ u.heap.size) (x : Value) : CurPost B C K u (v.setCell ⟨g, i, none⟩ x) :=
  h.new ((Chg.refl (fun b => b = g) v).setCell (p := ⟨g, i, none⟩) rfl x) (by rintro b rfl; exact hg) hl hB
theorem cur_pick (B C K : Nat) (n : Int) (w : World) (hK : K < 2 ^ 39) (hn : n < 2 ^ 40) (h : IsCur B C K w) :
    Calls Tryz.prog 49 #[.pointer (some ⟨C, 0, none⟩), .int .i64 n] w fun e w' => ∃ x : Nat, ((x : Int) < n ∨ x = 0) ∧ e = .returned (.int .i64 x) ∧ CurPost B C (K + 2) w w' := by
  have HC := Lib.hid h; clear h
  rcases Int.lt_or_le 1 n with h1 | h1
  · obtain ⟨m, rfl⟩ := Int.eq_ofNat_of_zero_le (show 0 ≤ n by omega)
    have hp : ¬ (m : Int) ≤ 1 := by omega
    have hm1 : (m : Int) ≤ 1099511627776 := by omega
    clear hn
    by_cases h2 : (200 : Int) < m
    · go_enter Tryz.func49, Tryz.ntmps49
      go_wp2_with fail
      refine (cur_next B C K w (by omega) HC.out).mono ?_
      rintro e w1 ⟨x, hx, rfl, hc⟩
      have H1 := Lib.hid hc; clear hc
      have hx1 : (x : Int) < 256 := by omega
      go_wp2_with fail
      refine (cur_next B C (K + 1) w1 (by omega) H1.out.1).mono ?_
      rintro e w2 ⟨y, hy, rfl, hc⟩
      have H2 := Lib.hid (H1.out.trans hc); clear hc H1
      have hy1 : (y : Int) < 256 := by omega
      go_wp2
      go_ret
      exact ⟨(x * 256 + y) % m, .inl (by have := Nat.mod_lt (x * 256 + y) (show 0 < m by omega); omega), by simp, H2.out⟩
    · go_enter Tryz.func49, Tryz.ntmps49
      go_wp2_with fail
      refine (cur_next B C K w (by omega) HC.out).mono ?_
      rintro e w1 ⟨x, hx, rfl, hc⟩
      have H1 := Lib.hid hc; clear hc
      have hx1 : (x : Int) < 256 := by omega
      go_wp2
      go_ret
      exact ⟨x % m, .inl (by have := Nat.mod_lt x (show 0 < m by omega); omega), by simp, H1.out.mono (by omega)⟩
  · clear hn
    go_enter Tryz.func49, Tryz.ntmps49
    go_wp2
    go_ret
    exact ⟨0, .inr rfl, rfl, CurPost.refl HC.out (by omega)⟩
theorem cur_one (B C K : Nat) (n : Int) (w : World) (hK : K < 2 ^ 39) (hn : n < 2 ^ 40) (h : IsCur B C K w) :
    Calls Tryz.prog 52 #[.pointer (some ⟨C, 0, none⟩), .int .i64 n] w fun e w' => ∃ b : Bool, e = .returned (.bool b) ∧ CurPost B C (K + 2) w w' := by
  have HC := Lib.hid h; clear h
  go_enter Tryz.func52, Tryz.ntmps52
  go_wp2_with fail
  refine (cur_pick B C K n w hK hn HC.out).mono ?_
  rintro e w1 ⟨x, hx, rfl, hc⟩
  have H1 := Lib.hid hc; clear hc
  clear hx
  go_wp2
  go_ret
  exact ⟨_, rfl, H1.out⟩
theorem cur_of (B C K g cap : Nat) (l : List Str) (w : World) (hK : K < 2 ^ 39) (hl : l.length < 2 ^ 30) (hl0 : 0 < l.length) (hg : g < w.heap.size) (hgC : g ≠ C)
    (hcell : ∀ (j : Nat) (h : j < l.length), w.cell? ⟨g, j, none⟩ = some (.string (S (l[j]'h)))) (h : IsCur B C K w) :
    Calls Tryz.prog 115 #[.pointer (some ⟨C, 0, none⟩), .slice (some ⟨g, 0, none⟩) l.length cap] w fun e w' => ∃ s, s ∈ l ∧ e = .returned (.string (S s)) ∧ CurPost B C (K + 2) w w' := by
  have HC := Lib.hid h; clear h
  have HCELL := Lib.hid hcell; clear hcell
  go_enter Tryz.func115, Tryz.ntmps115
  go_wp2_with fail
  refine (cur_pick B C K l.length w hK (by omega) HC.out).mono ?_
  rintro e w1 ⟨x, hx, rfl, hc⟩
  have hxl : x < l.length := by omega
  clear hx
  have hk : w1.cell? ⟨g, x, none⟩ = some (.string (S l[x])) := (hc.2.cell (p := ⟨g, x, none⟩) hg hgC).trans (HCELL.out x hxl)
  have H1 := Lib.hid hc; clear hc
  obtain ⟨s, hs⟩ : ∃ s, s = l[x] := ⟨_, rfl⟩
  rw [← hs] at hk
  have HM := Lib.hid (show s ∈ l by rw [hs]; exact List.getElem_mem hxl)
  clear hs
  go_wp2
  go_ret
  exact ⟨s, HM.out, rfl, H1.out⟩
theorem cur_among (B C K g cap : Nat) (l : List Int) (w : World) (hK : K < 2 ^ 39) (hl : l.length < 2 ^ 30) (hl0 : 0 < l.length) (hg : g < w.heap.size) (hgC : g ≠ C)
    (hcell : ∀ (j : Nat) (h : j < l.length), w.cell? ⟨g, j, none⟩ = some (.int .i64 (l[j]'h))) (h : IsCur B C K w) :
    Calls Tryz.prog 118 #[.pointer (some ⟨C, 0, none⟩), .slice (some ⟨g, 0, none⟩) l.length cap] w fun e w' => ∃ s, s ∈ l ∧ e = .returned (.int .i64 s) ∧ CurPost B C (K + 2) w w' := by
  have HC := Lib.hid h; clear h
  have HCELL := Lib.hid hcell; clear hcell
  go_enter Tryz.func118, Tryz.ntmps118
  go_wp2_with fail
  refine (cur_pick B C K l.length w hK (by omega) HC.out).mono ?_
  rintro e w1 ⟨x, hx, rfl, hc⟩
  have hxl : x < l.length := by omega
  clear hx
  have hk : w1.cell? ⟨g, x, none⟩ = some (.int .i64 l[x]) := (hc.2.cell (p := ⟨g, x, none⟩) hg hgC).trans (HCELL.out x hxl)
  have H1 := Lib.hid hc; clear hc
  obtain ⟨s, hs⟩ : ∃ s, s = l[x] := ⟨_, rfl⟩
  rw [← hs] at hk
  have HM := Lib.hid (show s ∈ l by rw [hs]; exact List.getElem_mem hxl)
  clear hs
  go_wp2
  go_ret
  exact ⟨s, HM.out, rfl, H1.out⟩
end
end Go.Proofs.YtmlklnimoknojaaGreatDoor

namespace Go.Proofs.YtmlklnimoknojaaGreatDoor
open Go Go.RowKit
set_option maxHeartbeats 2000000
set_option maxRecDepth 100000
theorem Chg.grown {v v' : World} {row : Option Nat} (h : v.grownBy v' row) : Chg (fun b => row = some b) v v' :=
  ⟨h.os, h.tape, h.output, h.size, fun b hb hf => h.block b hb fun e => hf e.symm⟩
theorem owns_stand {B : Nat} {e : TypeId} {z : Nat} {v v' : World} {u : Value} {n : Nat} {xs : List Value} {X : Blk} (h : v.ownsRow B e z u n xs) (hc : Chg X v v') (hX : ∀ k, u.ownBlock = some k → ¬ X k) : v'.ownsRow B e z u n xs := by
  refine ⟨h.1, h.2.imp id ?_⟩
  rintro ⟨g, cap, cur, e, hg, hh, r⟩
  have hk : u.ownBlock = some g := by rw [e]; rfl
  exact ⟨g, cap, cur, e, hg, (hc.block g (World.ownsRow.lt h g hk).2 (hX g hk)).trans hh, r⟩
theorem owns_base {B B' : Nat} {e : TypeId} {z : Nat} {v : World} {u : Value} {n : Nat} {xs : List Value} (h : v.ownsRow B e z u n xs) (hB : B' ≤ B) : v.ownsRow B' e z u n xs :=
  ⟨h.1, h.2.imp id fun ⟨g, cap, cur, e, hg, r⟩ => ⟨g, cap, cur, e, Nat.le_trans hB hg, r⟩⟩
theorem lit_ints (l : List Int) (v : World) (t : TypeId) (j : Nat) (h : j < l.length) : (v.alloc (.cells (l.map (Value.int .i64)).toArray t)).cell? ⟨v.heap.size, j, none⟩ = some (.int .i64 (l[j]'h)) := by
  rw [World.cell?_alloc_new]
  simp [h]
theorem lit_strs (l : List Str) (v : World) (t : TypeId) (j : Nat) (h : j < l.length) : (v.alloc (.cells (l.map fun s => Value.string (S s)).toArray t)).cell? ⟨v.heap.size, j, none⟩ = some (.string (S (l[j]'h))) := by
  rw [World.cell?_alloc_new]
  simp [h]
/-- a drawn number -/
def IntDrawn (B C K : Nat) (w : World) (e : Ending) (w' : World) : Prop := ∃ s : Int, e = .returned (.int .i64 s) ∧ CurPost B C K w w'
theorem cur_few (B C K : Nat) (w : World) (hK : K < 2 ^ 38) (h : IsCur B C K w) :
    Calls Tryz.prog 50 #[.pointer (some ⟨C, 0, none⟩)] w (IntDrawn B C (K + 2) w) := by
  have hlt := h.lt
  have HC := Lib.hid ((CurPost.refl h (Nat.le_refl K)).alloc (.cells #[.int .i64 524552, .int .i64 260, .int .i64 1048576, .int .i64 262144] 3))
  have HL := Lib.hid (lit_ints [524552, 260, 1048576, 262144] w 3)
  clear h
  go_enter Tryz.func50, Tryz.ntmps50
  go_wp2_with fail
  refine (cur_among B C K w.heap.size 4 [524552, 260, 1048576, 262144] _ (by omega) (by decide) (by decide) (by simp) (by omega) HL.out HC.out.1).mono ?_
  rintro e w1 ⟨s, _, rfl, hc⟩
  have H1 := Lib.hid (HC.out.trans hc)
  clear hc
  go_wp2
  go_ret
  exact ⟨s, rfl, H1.out⟩
theorem cur_stroke (B C K : Nat) (w : World) (hK : K < 2 ^ 38) (h : IsCur B C K w) :
    Calls Tryz.prog 119 #[.pointer (some ⟨C, 0, none⟩)] w (IntDrawn B C (K + 12) w) := by
  have hlt := h.lt
  have HC := Lib.hid h
  clear h
  go_enter Tryz.func119, Tryz.ntmps119
  go_wp2_with fail
  refine (cur_one B C K 2 _ (by omega) (by decide) HC.out).mono ?_
  rintro e w1 ⟨b, rfl, hc⟩
  have H1 := Lib.hid hc
  have hz1 : w.heap.size ≤ w1.heap.size := hc.2.size
  clear hc
  cases b
  · go_wp2_with fail
    refine (cur_pick B C (K + 2) 4 _ (by omega) (by decide) H1.out.1).mono ?_
    rintro e w2 ⟨x, hx, rfl, hc⟩
    have hx4 : x < 4 := by omega
    have H2 := Lib.hid (H1.out.trans hc)
    clear hc hx
    go_wp2_with fail
    go_loopw [3, 4] (fun s n wr => ∃ (y : Int) (k : Nat), k ≤ 4 ∧ s = .int .i64 y ∧ n = .int .i64 k ∧ CurPost B C (K + 12 - 2 * k) w wr) (fun _ n _ => (intOf n).toNat)
    case atStart => exact ⟨0, x + 1, by omega, rfl, by go_num, H2.out.mono (by omega)⟩
    case round =>
      obtain ⟨y, k, hk, rfl, rfl, hc⟩ := hrel
      have H3 := Lib.hid hc
      clear hc
      by_cases hp : 0 < k
      · go_wp2_with fail
        refine (cur_pick B C (K + 12 - 2 * k) 23 _ (by omega) (by decide) H3.out.1).mono ?_
        rintro e w3 ⟨z, hz, rfl, hc⟩
        have hz23 : z < 23 := by omega
        have H4 := Lib.hid (H3.out.trans hc)
        clear hc hz
        go_wp2
        go_roundw
        case rel => exact ⟨_, k - 1, by omega, rfl, by go_num, H4.out.mono (by omega)⟩
        case measure => simp [intOf]; omega
      · go_wp2
        go_ret
        exact ⟨y, rfl, H3.out.mono (by omega)⟩
  · have HC2 := Lib.hid (H1.out.alloc (.cells #[.int .i64 524552, .int .i64 260, .int .i64 1048576, .int .i64 262144, .int .i64 4194304, .int .i64 514, .int .i64 8, .int .i64 2064, .int .i64 2097152] 3))
    have HL := Lib.hid (lit_ints [524552, 260, 1048576, 262144, 4194304, 514, 8, 2064, 2097152] w1 3)
    go_wp2_with fail
    refine (cur_among B C (K + 2) w1.heap.size 9 [524552, 260, 1048576, 262144, 4194304, 514, 8, 2064, 2097152] _ (by omega) (by decide) (by decide) (by simp) (by omega) HL.out HC2.out.1).mono ?_
    rintro e w2 ⟨s, _, rfl, hc⟩
    have H2 := Lib.hid (HC2.out.trans hc)
    clear hc
    go_wp2
    go_ret
    exact ⟨s, rfl, H2.out.mono (by omega)⟩
theorem cur_anyStroke (B C K : Nat) (w : World) (hK : K < 2 ^ 37) (h : IsCur B C K w) :
    Calls Tryz.prog 53 #[.pointer (some ⟨C, 0, none⟩)] w (IntDrawn B C (K + 14) w) := by
  have hlt := h.lt
  have HC := Lib.hid h
  clear h
  go_enter Tryz.func53, Tryz.ntmps53
  go_wp2_with fail
  refine (cur_one B C K 12 _ (by omega) (by decide) HC.out).mono ?_
  rintro e w1 ⟨b, rfl, hc⟩
  have H1 := Lib.hid hc
  have hz1 : w.heap.size ≤ w1.heap.size := hc.2.size
  clear hc
  cases b
  · go_wp2_with fail
    refine (cur_stroke B C (K + 2) _ (by omega) H1.out.1).mono ?_
    rintro e w2 ⟨s, rfl, hc⟩
    have H2 := Lib.hid (H1.out.trans hc)
    clear hc
    go_wp2
    go_ret
    exact ⟨s, rfl, H2.out.mono (by omega)⟩
  · have HC2 := Lib.hid (H1.out.alloc (.cells #[.int .i64 0, .int .i64 (-1), .int .i64 8388608, .int .i64 8388607, .int .i64 1, .int .i64 1099511627776] 3))
    have HL := Lib.hid (lit_ints [0, -1, 8388608, 8388607, 1, 1099511627776] w1 3)
    go_wp2_with fail
    refine (cur_among B C (K + 2) w1.heap.size 6 [0, -1, 8388608, 8388607, 1, 1099511627776] _ (by omega) (by decide) (by decide) (by simp) (by omega) HL.out HC2.out.1).mono ?_
    rintro e w2 ⟨s, _, rfl, hc⟩
    have H2 := Lib.hid (HC2.out.trans hc)
    clear hc
    go_wp2
    go_ret
    exact ⟨s, rfl, H2.out.mono (by omega)⟩
/-- drawn ints, in a slice of the call's own -/
def OutDrawn (B C K m : Nat) (w : World) (e : Ending) (w' : World) : Prop := ∃ (l : List Int) (u : Value), e = .returned u ∧ l.length ≤ m ∧ w'.ownsRow w.heap.size 3 1 u l.length (ints l) ∧ CurPost B C K w w'
/-- how a loop that appends drawn ints stands -/
def OutRun (B C K : Nat) (w v : World) (u : Value) (l : List Int) : Prop := (∃ a n c, u = .slice a n c) ∧ v.ownsRow w.heap.size 3 1 u l.length (ints l) ∧ CurPost B C K w v
theorem OutRun.cur {B C K K' : Nat} {w v v' : World} {u : Value} {l : List Int} (h : OutRun B C K w v u l) (hw : C < w.heap.size) (hc : CurPost B C K' v v') : OutRun B C K' w v' u l :=
  ⟨h.1, owns_stand h.2.1 hc.2 fun k hk e => by have := (World.ownsRow.lt h.2.1 k hk).1; omega, h.2.2.trans hc⟩
theorem OutRun.app {B C K m : Nat} {w v v' : World} {u u' : Value} {l : List Int} {x : Int} (h : OutRun B C K w v u l) (hw : IsCur B C m w) (t : TypeId)
    (hown : v'.ownsRow w.heap.size 3 1 u' (l.length + 1) (ints l ++ [.int .i64 x])) (hgr : (v.alloc (.cells #[.int .i64 x] t)).grownBy v' u.ownBlock) : OutRun B C K w v' u' (l ++ [x]) := by
  have hlt := hw.lt
  refine ⟨?_, by simpa [ints] using hown, ?_⟩
  · rcases hown.2 with ⟨rfl, _⟩ | ⟨g, cap, cur, rfl, _⟩
    · exact ⟨_, _, _, rfl⟩
    · exact ⟨_, _, _, rfl⟩
  · exact (h.2.2.alloc _).new (Chg.grown hgr) (fun b hb => (World.ownsRow.lt h.2.1 b hb).1) (by omega) (by omega)
theorem cur_outline (B C K : Nat) (w : World) (hK : K < 2 ^ 37) (h : IsCur B C K w) :
    Calls Tryz.prog 173 #[.pointer (some ⟨C, 0, none⟩)] w (OutDrawn B C (K + 60) 3 w) := by
  obtain ⟨i0, hi, hz0, hz1, hz2⟩ := info_parts info_int
  have hlt := h.lt
  have HC0 := Lib.hid h
  have HC := Lib.hid ((CurPost.refl h (Nat.le_refl K)).alloc (.cells #[] 3))
  have HOW := Lib.hid (show (w.alloc (.cells #[] 3)).ownsRow w.heap.size 3 1 (.slice (some ⟨w.heap.size, 0, none⟩) 0 0) 0 [] by have h := World.ownsRow_lit (base := w.heap.size) (e := 3) (size := 1) w #[] 0 (Nat.le_refl _) (Nat.zero_le _) (by simp); simpa using h)
  clear h
  go_enter Tryz.func173, Tryz.ntmps173
  go_wp2_with fail
  refine (cur_pick B C K 3 _ (by omega) (by decide) HC.out.1).mono ?_
  rintro e w1 ⟨x, hx, rfl, hc⟩
  have hx3 : x < 3 := by omega
  have HR := Lib.hid (show OutRun B C (K + 2) w w1 (.slice (some ⟨w.heap.size, 0, none⟩) 0 0) [] from OutRun.cur (K := K) ⟨⟨_, _, _, rfl⟩, HOW.out, HC.out⟩ hlt.2 hc)
  clear hc hx
  go_wp2_with fail
  go_loopw [3, 4] (fun s n wr => ∃ (l : List Int) (k : Nat), l.length + k ≤ 3 ∧ n = .int .i64 k ∧ OutRun B C (K + 50 - 14 * k) w wr s l) (fun _ n _ => (intOf n).toNat)
  case atStart => exact ⟨[], x + 1, by simp; omega, by go_num, HR.out.1, HR.out.2.1, HR.out.2.2.mono (by omega)⟩
  case round =>
    obtain ⟨l, k, hk, rfl, hr⟩ := hrel
    have H3 := Lib.hid hr
    obtain ⟨⟨ua, un, uc, rfl⟩, _⟩ := hr
    by_cases hp : 0 < k
    · go_wp2_with fail
      refine (cur_one B C (K + 50 - 14 * k) 5 _ (by omega) (by decide) H3.out.2.2.1).mono ?_
      rintro e w2 ⟨b, rfl, hc⟩
      have H4 := Lib.hid (H3.out.cur hlt.2 hc)
      clear hc
      cases b
      all_goals
        go_wp2_with fail
        first
          | (refine (cur_few B C (K + 50 - 14 * k + 2) _ (by omega) H4.out.2.2.1).mono ?_)
          | (refine (cur_stroke B C (K + 50 - 14 * k + 2) _ (by omega) H4.out.2.2.1).mono ?_)
        rintro e w3 ⟨y, rfl, hc⟩
        have H5 := Lib.hid ((H4.out.cur hlt.2 hc))
        have HOW2 := Lib.hid (H5.out.2.1.alloc (.cells #[.int .i64 y] 3))
        have hz3 := H5.out.2.2.2.size
        have HZ3 := Lib.hid hz3
        clear hc hz3
        go_wp2_with (at_builtin; refine wpList_append_own _ rfl _ _ 27 rfl w.heap.size 3 i0 (.int .i64 0) 1 8 Tryz.underlying27 hi hz0 hz1 hz2 rfl (by decide) (.slice ua un uc) l.length (ints l) rfl HOW2.out ⟨w3.heap.size, 0, none⟩ 1 1 [.int .i64 y] rfl rfl ?_ ?_ ?_ ?_ ?_ ?_)
        all_goals first | exact ⟨rfl, rfl⟩ | (intro z hz; simp only [List.mem_cons, List.not_mem_nil, or_false] at hz; subst hz; rfl) | (unfold maxLen; omega) | omega | (have h1 := HZ3.out; simp; omega) | (intro i z hz; rcases i with _ | i; (injection hz with hz; subst hz; rw [add0]; go_simp); cases hz) | skip
        intro u4 w4 hown hgr _
        have H6 := Lib.hid (H5.out.app HC0.out 3 hown hgr)
        clear hown hgr
        go_wp2
        go_roundw
        case rel => exact ⟨_, k - 1, by rw [List.length_append]; simp; omega, by go_num, H6.out.1, H6.out.2.1, H6.out.2.2.mono (by omega)⟩
        case measure => simp [intOf]; omega
    · go_wp2
      go_ret
      exact ⟨l, _, rfl, by omega, H3.out.2.1, H3.out.2.2.mono (by omega)⟩
theorem cur_anyOutline (B C K : Nat) (w : World) (hK : K < 2 ^ 36) (h : IsCur B C K w) :
    Calls Tryz.prog 116 #[.pointer (some ⟨C, 0, none⟩)] w (OutDrawn B C (K + 100) 8 w) := by
  obtain ⟨i0, hi, hz0, hz1, hz2⟩ := info_parts info_int
  have hlt := h.lt
  have HC0 := Lib.hid h
  clear h
  go_enter Tryz.func116, Tryz.ntmps116
  go_wp2_with fail
  refine (cur_pick B C K 16 _ (by omega) (by decide) HC0.out).mono ?_
  rintro e w1 ⟨x, hx, rfl, hc⟩
  have H1 := Lib.hid hc
  have hz1' : w.heap.size ≤ w1.heap.size := hc.2.size
  have HOW := Lib.hid (show (w1.alloc (.cells #[] 3)).ownsRow w.heap.size 3 1 (.slice (some ⟨w1.heap.size, 0, none⟩) 0 0) 0 [] by have h := World.ownsRow_lit (base := w.heap.size) (e := 3) (size := 1) w1 #[] 0 hz1' (Nat.zero_le _) (by simp); simpa using h)
  have HCA := Lib.hid (H1.out.alloc (.cells #[] 3))
  clear hc hx
  by_cases h0 : x = 0
  · subst h0
    go_wp2
    go_ret
    exact ⟨[], _, rfl, by simp, HOW.out, HCA.out.mono (by omega)⟩
  by_cases h1 : x = 1
  · subst h1
    go_wp2_with fail
    refine (cur_pick B C (K + 2) 2 _ (by omega) (by decide) HCA.out.1).mono ?_
    rintro e w2 ⟨z, hz, rfl, hc⟩
    have hz2' : z < 2 := by omega
    have HR := Lib.hid (show OutRun B C (K + 4) w w2 (.slice (some ⟨w1.heap.size, 0, none⟩) 0 0) [] from OutRun.cur (K := K + 2) ⟨⟨_, _, _, rfl⟩, HOW.out, HCA.out⟩ hlt.2 hc)
    clear hc hz
    go_wp2_with fail
    go_loopw [3, 4] (fun s n wr => ∃ (l : List Int) (k : Nat), l.length + k ≤ 7 ∧ n = .int .i64 k ∧ OutRun B C (K + 50 - 2 * k) w wr s l) (fun _ n _ => (intOf n).toNat)
    case atStart => exact ⟨[], z + 6, by simp; omega, by go_num, HR.out.1, HR.out.2.1, HR.out.2.2.mono (by omega)⟩
    case round =>
      obtain ⟨l, k, hk, rfl, hr⟩ := hrel
      have H3 := Lib.hid hr
      obtain ⟨⟨ua, un, uc, rfl⟩, _⟩ := hr
      by_cases hp : 0 < k
      · go_wp2_with fail
        refine (cur_few B C (K + 50 - 2 * k) _ (by omega) H3.out.2.2.1).mono ?_
        rintro e w3 ⟨y, rfl, hc⟩
        have H5 := Lib.hid ((H3.out.cur hlt.2 hc))
        have HOW2 := Lib.hid (H5.out.2.1.alloc (.cells #[.int .i64 y] 3))
        have hz3 := H5.out.2.2.2.size
        have HZ3 := Lib.hid hz3
        clear hc hz3
        go_wp2_with (at_builtin; refine wpList_append_own _ rfl _ _ 27 rfl w.heap.size 3 i0 (.int .i64 0) 1 8 Tryz.underlying27 hi hz0 hz1 hz2 rfl (by decide) (.slice ua un uc) l.length (ints l) rfl HOW2.out ⟨w3.heap.size, 0, none⟩ 1 1 [.int .i64 y] rfl rfl ?_ ?_ ?_ ?_ ?_ ?_)
        all_goals first | exact ⟨rfl, rfl⟩ | (intro z hz; simp only [List.mem_cons, List.not_mem_nil, or_false] at hz; subst hz; rfl) | (unfold maxLen; omega) | omega | (have h1 := HZ3.out; simp; omega) | (intro i z hz; rcases i with _ | i; (injection hz with hz; subst hz; rw [add0]; go_simp); cases hz) | skip
        intro u4 w4 hown hgr _
        have H6 := Lib.hid (H5.out.app HC0.out 3 hown hgr)
        clear hown hgr
        go_wp2
        go_roundw
        case rel => exact ⟨_, k - 1, by rw [List.length_append]; simp; omega, by go_num, H6.out.1, H6.out.2.1, H6.out.2.2.mono (by omega)⟩
        case measure => simp [intOf]; omega
      · go_wp2
        go_ret
        exact ⟨l, _, rfl, by omega, H3.out.2.1, H3.out.2.2.mono (by omega)⟩
  have h0' : ¬ (x : Int) = 0 := by omega
  have h1' : ¬ (x : Int) = 1 := by omega
  by_cases h2 : x = 2
  · subst h2
    clear HOW HCA
    go_wp2_with fail
    refine (cur_outline B C (K + 2) _ (by omega) H1.out.1).mono ?_
    rintro e w2 ⟨l, u, rfl, hl, ho, hc⟩
    have HR := Lib.hid (show OutRun B C (K + 62) w w2 u l from ⟨by
      rcases ho.2 with ⟨rfl, _⟩ | ⟨g, cap, cur, rfl, _⟩
      · exact ⟨_, _, _, rfl⟩
      · exact ⟨_, _, _, rfl⟩, owns_base ho hz1', H1.out.trans hc⟩)
    obtain ⟨⟨ua, un, uc, rfl⟩, _⟩ := id HR.out
    clear ho hc
    have H3 := HR
    have hk := hl
    skip
    go_wp2_with fail
    refine (cur_anyStroke B C (K + 62) _ (by omega) HR.out.2.2.1).mono ?_
    rintro e w3 ⟨y, rfl, hc⟩
    have H5 := Lib.hid ((H3.out.cur hlt.2 hc))
    have HOW2 := Lib.hid (H5.out.2.1.alloc (.cells #[.int .i64 y] 3))
    have hz3 := H5.out.2.2.2.size
    have HZ3 := Lib.hid hz3
    clear hc hz3
    go_wp2_with (at_builtin; refine wpList_append_own _ rfl _ _ 27 rfl w.heap.size 3 i0 (.int .i64 0) 1 8 Tryz.underlying27 hi hz0 hz1 hz2 rfl (by decide) (.slice ua un uc) l.length (ints l) rfl HOW2.out ⟨w3.heap.size, 0, none⟩ 1 1 [.int .i64 y] rfl rfl ?_ ?_ ?_ ?_ ?_ ?_)
    all_goals first | exact ⟨rfl, rfl⟩ | (intro z hz; simp only [List.mem_cons, List.not_mem_nil, or_false] at hz; subst hz; rfl) | (unfold maxLen; omega) | omega | (have h1 := HZ3.out; simp; omega) | (intro i z hz; rcases i with _ | i; (injection hz with hz; subst hz; rw [add0]; go_simp); cases hz) | skip
    intro u4 w4 hown hgr _
    have H6 := Lib.hid (H5.out.app HC0.out 3 hown hgr)
    clear hown hgr
    go_wp2
    go_ret
    exact ⟨_, _, rfl, by rw [List.length_append]; simp; omega, H6.out.2.1, H6.out.2.2.mono (by omega)⟩
  have h2' : ¬ (x : Int) = 2 := by omega
  clear HOW HCA
  go_wp2_with fail
  refine (cur_outline B C (K + 2) _ (by omega) H1.out.1).mono ?_
  rintro e w2 ⟨l, u, rfl, hl, ho, hc⟩
  have H2 := Lib.hid (H1.out.trans hc)
  have HO := Lib.hid (owns_base ho hz1')
  clear hc ho
  go_wp2
  go_ret
  exact ⟨l, _, rfl, by omega, HO.out, H2.out.mono (by omega)⟩
end Go.Proofs.YtmlklnimoknojaaGreatDoor
