/- Walks: the cursor that draws arguments from bytes, for the dictionary seats. -/
import Derived.BigQuiet
import Derived.Laws.Bits64b
import Derived.Deep.DeepCutAuto
import Derived.Test.YtmlklnimoknojaaGreatDoorLawD
namespace Go.Proofs.YtmlklnimoknojaaGreatDoor
section
open Go Go.RowKit
set_option maxHeartbeats 400000
set_option maxRecDepth 100000
theorem Chg.drewN {F : Blk} {a w : World} (h : Chg F a w) (k : Nat) : Chg F a (w.drewN k) := h.trans (Below.chg (below_drewN (Below.refl w.heap.size w) k) F)
/-- the cursor in block C over bytes below B, read at most K times -/
def IsCur (B C K : Nat) (v : World) : Prop :=
  ∃ (ad : Option Addr) (n cap a : Nat) (s : Int), v.cell? ⟨C, 0, none⟩ = some (.slice ad n cap) ∧ v.cell? ⟨C, 1, none⟩ = some (.int .i64 a) ∧ v.cell? ⟨C, 2, none⟩ = some (.int .u64 s) ∧
    v.frozen? ⟨C, 1, none⟩ = false ∧ v.frozen? ⟨C, 2, none⟩ = false ∧ a ≤ K ∧ n ≤ 65536 ∧ 0 ≤ s ∧ s < 18446744073709551616 ∧ B ≤ C ∧ C < v.heap.size ∧
    (n = 0 ∨ ∃ g o, ad = some ⟨g, o, none⟩ ∧ g < B ∧ ∀ j, j < n → ∃ b : Nat, b < 256 ∧ v.cell? ⟨g, o + j, none⟩ = some (.int .u8 b))
/-- what a draw leaves: the cursor, all other blocks -/
def CurPost (B C K : Nat) (v v' : World) : Prop := IsCur B C K v' ∧ Chg (fun b => b = C) v v'
theorem u64_lo (x : Int) : 0 ≤ IntKind.u64.wrap x ∧ IntKind.u64.wrap x < 18446744073709551616 := by
  simp only [IntKind.wrap]
  constructor
  · exact Int.emod_nonneg _ (by decide)
  · exact Int.emod_lt_of_pos _ (by decide)
theorem and_byte (x : Int) : ∃ m : Nat, m < 256 ∧ wrap64 (bits .and .u64 (IntKind.u64.wrap x / 1099511627776) 255) = (m : Int) := by
  obtain ⟨h0, h1⟩ := u64_lo x
  obtain ⟨y, hy⟩ := Int.eq_ofNat_of_zero_le h0
  rw [hy] at h1 ⊢
  have e : ((y : Nat) : Int) / 1099511627776 = ((y / 1099511627776 : Nat) : Int) := by omega
  rw [e, show (255 : Int) = ((255 : Nat) : Int) from rfl, bits_and_u64_nat _ _ (by omega) (by decide)]
  have hm : (y / 1099511627776) &&& 255 < 256 := Nat.lt_of_le_of_lt Nat.and_le_right (by decide)
  refine ⟨_, hm, ?_⟩
  simp only [wrap64]; omega
theorem cur_step {B C K n cap a : Nat} {ad : Option Addr} {w : World} (x s' : Int) (i j : Nat) (c0 : w.cell? ⟨C, 0, none⟩ = some (.slice ad n cap)) (c1 : w.cell? ⟨C, 1, none⟩ = some (.int .i64 a)) (s : Value) (c2 : w.cell? ⟨C, 2, none⟩ = some s)
    (f1 : w.frozen? ⟨C, 1, none⟩ = false) (f2 : w.frozen? ⟨C, 2, none⟩ = false) (ha : a ≤ K) (hn : n ≤ 65536) (hs0 : 0 ≤ s') (hs1 : s' < 18446744073709551616) (hBC : B ≤ C) (hC : C < w.heap.size) (hx : x = ((a + 1 : Nat) : Int))
    (hcode : n = 0 ∨ ∃ g o, ad = some ⟨g, o, none⟩ ∧ g < B ∧ ∀ j, j < n → ∃ b : Nat, b < 256 ∧ w.cell? ⟨g, o + j, none⟩ = some (.int .u8 b)) :
    CurPost B C (K + 1) w ((((w.drewN i).setCell ⟨C, 1, none⟩ (.int .i64 x)).setCell ⟨C, 2, none⟩ (.int .u64 s')).drewN j) := by
  subst hx
  have hsz : ((((w.drewN i).setCell ⟨C, 1, none⟩ (.int .i64 ((a + 1 : Nat) : Int))).setCell ⟨C, 2, none⟩ (.int .u64 s')).drewN j).heap.size = w.heap.size := by simp
  have ho : ∀ g o, g ≠ C → ((((w.drewN i).setCell ⟨C, 1, none⟩ (.int .i64 ((a + 1 : Nat) : Int))).setCell ⟨C, 2, none⟩ (.int .u64 s')).drewN j).cell? ⟨g, o, none⟩ = w.cell? ⟨g, o, none⟩ := by
    intro g o hg
    simp only [World.cell?_drewN]
    rw [World.cell?_setCell_other _ _ _ _ (by intro e; injection e; omega), World.cell?_setCell_other _ _ _ _ (by intro e; injection e; omega)]
    simp
  refine ⟨⟨ad, n, cap, a + 1, s', ?_, ?_, ?_, by simpa using f1, by simpa using f2, by omega, hn, hs0, hs1, hBC, by rw [hsz]; exact hC, ?_⟩, ?_⟩
  · go_simp
  · go_simp
  · go_simp
  · rcases hcode with h | ⟨g, o, h1, h2, h3⟩
    · exact .inl h
    · refine .inr ⟨g, o, h1, h2, fun j hj => ?_⟩
      obtain ⟨b, hb, hc⟩ := h3 j hj
      exact ⟨b, hb, (ho _ _ (by omega)).trans hc⟩
  · exact (((((Chg.refl (fun b => b = C) w).drewN i).setCell (p := ⟨C, 1, none⟩) rfl _).setCell (p := ⟨C, 2, none⟩) rfl _).drewN j)
theorem cur_next (B C K : Nat) (w : World) (hK : K < 2 ^ 40) (h : IsCur B C K w) :
    Calls Tryz.prog 117 #[.pointer (some ⟨C, 0, none⟩)] w fun e w' => ∃ x : Nat, x < 256 ∧ e = .returned (.int .i64 x) ∧ CurPost B C (K + 1) w w' := by
  obtain ⟨ad, n, cap, a, s, c0, c1, c2, f1, f2, ha, hn, hs0, hs1, hBC, hC, hcode⟩ := h
  by_cases hlt : a < n
  · have hcd : ∃ g o, ad = some ⟨g, o, none⟩ ∧ g < B ∧ ∀ j, j < n → ∃ b : Nat, b < 256 ∧ w.cell? ⟨g, o + j, none⟩ = some (.int .u8 b) := by
      rcases hcode with h | h
      · omega
      · exact h
    obtain ⟨g, o, rfl, hg, hby⟩ := hcd
    obtain ⟨b, hb, hcb⟩ := hby a hlt
    have HBY := Lib.hid hby; clear hby hcode
    have hb1 : (b : Int) < 256 := by omega
    have hne : g ≠ C := by omega
    go_enter Tryz.func117, Tryz.ntmps117
    go_wp2
    go_quiet (fail)
    go_wp2
    go_quiet (fail)
    go_wp2
    go_quiet (fail)
    go_wp2
    go_ret
    exact ⟨b, hb, rfl, cur_step _ _ _ _ c0 c1 _ c2 f1 f2 ha hn (u64_lo _).1 (u64_lo _).2 hBC hC (by omega) (.inr ⟨g, o, rfl, hg, HBY.out⟩)⟩
  · have hge : (n : Int) ≤ a := by omega
    have hcd := Lib.hid hcode; clear hcode
    go_enter Tryz.func117, Tryz.ntmps117
    go_wp2
    go_quiet (fail)
    go_wp2
    go_quiet (fail)
    go_wp2
    go_ret
    obtain ⟨m, hm, e⟩ := and_byte (IntKind.u64.wrap (IntKind.u64.wrap (s * 6364136223846793005)) + 882882)
    refine ⟨m, hm, ?_, cur_step _ _ _ _ c0 c1 _ c2 f1 f2 ha hn (u64_lo _).1 (u64_lo _).2 hBC hC (by omega) hcd.out⟩
    rw [← e]; rfl
theorem IsCur.mono {B C K K' : Nat} {v : World} (h : IsCur B C K v) (hK : K ≤ K') : IsCur B C K' v := by
  obtain ⟨ad, n, cap, a, s, c0, c1, c2, f1, f2, ha, r⟩ := h
  exact ⟨ad, n, cap, a, s, c0, c1, c2, f1, f2, Nat.le_trans ha hK, r⟩
theorem CurPost.refl {B C K K' : Nat} {v : World} (h : IsCur B C K v) (hK : K ≤ K') : CurPost B C K' v v := ⟨h.mono hK, Chg.refl _ _⟩
theorem CurPost.trans {B C K K' : Nat} {u v w : World} (h : CurPost B C K u v) (k : CurPost B C K' v w) : CurPost B C K' u w := ⟨k.1, h.2.trans k.2⟩
theorem CurPost.mono {B C K K' : Nat} {u v : World} (h : CurPost B C K u v) (hK : K ≤ K') : CurPost B C K' u v := ⟨h.1.mono hK, h.2⟩
/-- a step that leaves the cursor's block and the bytes below B as they are keeps the cursor -/
theorem IsCur.stand {B C K : Nat} {v v' : World} {X : Blk} (h : IsCur B C K v) (hc : Chg X v v') (hX : ∀ b, X b → B ≤ b ∧ b ≠ C) : IsCur B C K v' := by
  obtain ⟨ad, m, cap, a, s, c0, c1, c2, f1, f2, ha, hn, hs0, hs1, hBC, hC, hcode⟩ := h
  have hXC : ¬ X C := fun h => (hX C h).2 rfl
  refine ⟨ad, m, cap, a, s, (hc.cell (p := ⟨C, 0, none⟩) hC hXC).trans c0, (hc.cell (p := ⟨C, 1, none⟩) hC hXC).trans c1, (hc.cell (p := ⟨C, 2, none⟩) hC hXC).trans c2, (hc.frozen (p := ⟨C, 1, none⟩) hC hXC).trans f1, (hc.frozen (p := ⟨C, 2, none⟩) hC hXC).trans f2, ha, hn, hs0, hs1, hBC, Nat.lt_of_lt_of_le hC hc.size, ?_⟩
  rcases hcode with h | ⟨g, o, h1, h2, h3⟩
  · exact .inl h
  · refine .inr ⟨g, o, h1, h2, fun j hj => ?_⟩
    obtain ⟨b, hb, hcb⟩ := h3 j hj
    exact ⟨b, hb, (hc.cell (p := ⟨g, _, none⟩) (by show g < v.heap.size; omega) (fun h => by have := (hX g h).1; omega)).trans hcb⟩
theorem IsCur.below {B C K : Nat} {v v' : World} (h : IsCur B C K v) (hb : Below v.heap.size v v') : IsCur B C K v' := h.stand (Below.chg hb fun _ => False) fun _ h => h.elim
theorem IsCur.lt {B C K : Nat} {v : World} (h : IsCur B C K v) : B ≤ C ∧ C < v.heap.size := by
  obtain ⟨ad, m, cap, a, s, c0, c1, c2, f1, f2, ha, hn, hs0, hs1, hBC, hC, hcode⟩ := h
  exact ⟨hBC, hC⟩
theorem IsCur.set {B C K g i : Nat} {v : World} (h : IsCur B C K v) (hgC : g ≠ C) (hgB : B ≤ g) (x : Value) : IsCur B C K (v.setCell ⟨g, i, none⟩ x) :=
  h.stand ((Chg.refl (fun b => b = g) v).setCell (p := ⟨g, i, none⟩) rfl x) (by rintro b rfl; exact ⟨hgB, hgC⟩)
theorem CurPost.below {B C K : Nat} {u v v' : World} (h : CurPost B C K u v) (hb : Below v.heap.size v v') : CurPost B C K u v' := ⟨h.1.below hb, h.2.trans (Below.chg hb _)⟩
theorem CurPost.alloc {B C K : Nat} {u v : World} (h : CurPost B C K u v) (o : Obj) : CurPost B C K u (v.alloc o) := h.below ((Below.refl _ _).alloc (Nat.le_refl _) o)
theorem CurPost.drewN {B C K : Nat} {u v : World} (h : CurPost B C K u v) (n : Nat) : CurPost B C K u (v.drewN n) := h.below (below_drewN (Below.refl _ _) n)
theorem CurPost.drew {B C K : Nat} {u v : World} (h : CurPost B C K u v) : CurPost B C K u v.drew := h.below (Below.refl _ _).drew
/-- new memory turns -/
theorem CurPost.new {B C K : Nat} {u v v' : World} {X : Blk} (h : CurPost B C K u v) (hc : Chg X v v') (hX : ∀ b, X b → u.heap.size ≤ b) (hl : C < u.heap.size) (hB : B ≤ u.heap.size) : CurPost B C K u v' :=
  ⟨h.1.stand hc fun b hb => ⟨Nat.le_trans hB (hX b hb), fun e => by have := hX b hb; omega⟩,
   ⟨hc.os.trans h.2.os, hc.tape.trans h.2.tape, hc.output.trans h.2.output, Nat.le_trans h.2.size hc.size, fun b hb hf => (hc.block b (Nat.lt_of_lt_of_le hb h.2.size) fun hx => by have := hX b hx; omega).trans (h.2.block b hb hf)⟩⟩
theorem CurPost.set {B C K g i : Nat} {u v : World} (h : CurPost B C K u v) (hg : u.heap.size ≤ g) (hl : C < u.heap.size) (hB : B ≤ u.heap.size) (x : Value) : CurPost B C K u (v.setCell ⟨g, i, none⟩ x) :=
  h.new ((Chg.refl (fun b => b = g) v).setCell (p := ⟨g, i, none⟩) rfl x) (by rintro b rfl; exact hg) hl hB
theorem cur_pick (B C K : Nat) (n : Int) (w : World) (hK : K < 2 ^ 39) (hn : n < 2 ^ 40) (h : IsCur B C K w) :
    Calls Tryz.prog 49 #[.pointer (some ⟨C, 0, none⟩), .int .i64 n] w fun e w' => ∃ x : Nat, ((x : Int) < n ∨ x = 0) ∧ e = .returned (.int .i64 x) ∧ CurPost B C (K + 2) w w' := by
  have HC := Lib.hid h; clear h
  rcases Int.lt_or_le 1 n with h1 | h1
  · obtain ⟨m, rfl⟩ := Int.eq_ofNat_of_zero_le (show 0 ≤ n by omega)
    have hp : ¬ (m : Int) ≤ 1 := by omega
    have hm1 : (m : Int) ≤ 1099511627776 := by omega
    clear hn
    by_cases h2 : (200 : Int) < m
    · go_enter Tryz.func49, Tryz.ntmps49
      go_wp2_with fail
      refine (cur_next B C K w (by omega) HC.out).mono ?_
      rintro e w1 ⟨x, hx, rfl, hc⟩
      have H1 := Lib.hid hc; clear hc
      have hx1 : (x : Int) < 256 := by omega
      go_wp2_with fail
      refine (cur_next B C (K + 1) w1 (by omega) H1.out.1).mono ?_
      rintro e w2 ⟨y, hy, rfl, hc⟩
      have H2 := Lib.hid (H1.out.trans hc); clear hc H1
      have hy1 : (y : Int) < 256 := by omega
      go_wp2
      go_ret
      exact ⟨(x * 256 + y) % m, .inl (by have := Nat.mod_lt (x * 256 + y) (show 0 < m by omega); omega), by simp, H2.out⟩
    · go_enter Tryz.func49, Tryz.ntmps49
      go_wp2_with fail
      refine (cur_next B C K w (by omega) HC.out).mono ?_
      rintro e w1 ⟨x, hx, rfl, hc⟩
      have H1 := Lib.hid hc; clear hc
      have hx1 : (x : Int) < 256 := by omega
      go_wp2
      go_ret
      exact ⟨x % m, .inl (by have := Nat.mod_lt x (show 0 < m by omega); omega), by simp, H1.out.mono (by omega)⟩
  · clear hn
    go_enter Tryz.func49, Tryz.ntmps49
    go_wp2
    go_ret
    exact ⟨0, .inr rfl, rfl, CurPost.refl HC.out (by omega)⟩
theorem cur_one (B C K : Nat) (n : Int) (w : World) (hK : K < 2 ^ 39) (hn : n < 2 ^ 40) (h : IsCur B C K w) :
    Calls Tryz.prog 52 #[.pointer (some ⟨C, 0, none⟩), .int .i64 n] w fun e w' => ∃ b : Bool, e = .returned (.bool b) ∧ CurPost B C (K + 2) w w' := by
  have HC := Lib.hid h; clear h
  go_enter Tryz.func52, Tryz.ntmps52
  go_wp2_with fail
  refine (cur_pick B C K n w hK hn HC.out).mono ?_
  rintro e w1 ⟨x, hx, rfl, hc⟩
  have H1 := Lib.hid hc; clear hc
  clear hx
  go_wp2
  go_ret
  exact ⟨_, rfl, H1.out⟩
theorem cur_of (B C K g cap : Nat) (l : List Str) (w : World) (hK : K < 2 ^ 39) (hl : l.length < 2 ^ 30) (hl0 : 0 < l.length) (hg : g < w.heap.size) (hgC : g ≠ C)
    (hcell : ∀ (j : Nat) (h : j < l.length), w.cell? ⟨g, j, none⟩ = some (.string (S (l[j]'h)))) (h : IsCur B C K w) :
    Calls Tryz.prog 115 #[.pointer (some ⟨C, 0, none⟩), .slice (some ⟨g, 0, none⟩) l.length cap] w fun e w' => ∃ s, s ∈ l ∧ e = .returned (.string (S s)) ∧ CurPost B C (K + 2) w w' := by
  have HC := Lib.hid h; clear h
  have HCELL := Lib.hid hcell; clear hcell
  go_enter Tryz.func115, Tryz.ntmps115
  go_wp2_with fail
  refine (cur_pick B C K l.length w hK (by omega) HC.out).mono ?_
  rintro e w1 ⟨x, hx, rfl, hc⟩
  have hxl : x < l.length := by omega
  clear hx
  have hk : w1.cell? ⟨g, x, none⟩ = some (.string (S l[x])) := (hc.2.cell (p := ⟨g, x, none⟩) hg hgC).trans (HCELL.out x hxl)
  have H1 := Lib.hid hc; clear hc
  obtain ⟨s, hs⟩ : ∃ s, s = l[x] := ⟨_, rfl⟩
  rw [← hs] at hk
  have HM := Lib.hid (show s ∈ l by rw [hs]; exact List.getElem_mem hxl)
  clear hs
  go_wp2
  go_ret
  exact ⟨s, HM.out, rfl, H1.out⟩
theorem cur_among (B C K g cap : Nat) (l : List Int) (w : World) (hK : K < 2 ^ 39) (hl : l.length < 2 ^ 30) (hl0 : 0 < l.length) (hg : g < w.heap.size) (hgC : g ≠ C)
    (hcell : ∀ (j : Nat) (h : j < l.length), w.cell? ⟨g, j, none⟩ = some (.int .i64 (l[j]'h))) (h : IsCur B C K w) :
    Calls Tryz.prog 118 #[.pointer (some ⟨C, 0, none⟩), .slice (some ⟨g, 0, none⟩) l.length cap] w fun e w' => ∃ s, s ∈ l ∧ e = .returned (.int .i64 s) ∧ CurPost B C (K + 2) w w' := by
  have HC := Lib.hid h; clear h
  have HCELL := Lib.hid hcell; clear hcell
  go_enter Tryz.func118, Tryz.ntmps118
  go_wp2_with fail
  refine (cur_pick B C K l.length w hK (by omega) HC.out).mono ?_
  rintro e w1 ⟨x, hx, rfl, hc⟩
  have hxl : x < l.length := by omega
  clear hx
  have hk : w1.cell? ⟨g, x, none⟩ = some (.int .i64 l[x]) := (hc.2.cell (p := ⟨g, x, none⟩) hg hgC).trans (HCELL.out x hxl)
  have H1 := Lib.hid hc; clear hc
  obtain ⟨s, hs⟩ : ∃ s, s = l[x] := ⟨_, rfl⟩
  rw [← hs] at hk
  have HM := Lib.hid (show s ∈ l by rw [hs]; exact List.getElem_mem hxl)
  clear hs
  go_wp2
  go_ret
  exact ⟨s, HM.out, rfl, H1.out⟩
end
end Go.Proofs.YtmlklnimoknojaaGreatDoor
