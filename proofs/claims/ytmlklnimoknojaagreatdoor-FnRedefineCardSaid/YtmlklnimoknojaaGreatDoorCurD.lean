/- Walks: the program's copy of an entry, and of a dictionary that is in order. -/
import Derived.Deep.DeepCutAuto
import Derived.Test.YtmlklnimoknojaaGreatDoorMemE
import Derived.Test.YtmlklnimoknojaaGreatDoorSortD
import Derived.BigQuiet
import Derived.Laws.Bits64b
namespace Go.Proofs.YtmlklnimoknojaaGreatDoor
section
open Go Go.RowKit
set_option maxHeartbeats 2000000
set_option maxRecDepth 100000
def KP (W : Nat) (x : Value) (t : Str) (v : World) : Prop :=
  v.cell? ⟨W, 0, none⟩ = some x ∧ v.cell? ⟨W, 1, none⟩ = some (.string (S t)) ∧ v.cell? ⟨W + 1, 0, none⟩ = some (.slice none 0 0) ∧ v.cell? ⟨W + 1, 1, none⟩ = some (.string (S [])) ∧ v.frozen? ⟨W + 1, 0, none⟩ = false ∧ v.frozen? ⟨W + 1, 1, none⟩ = false
theorem KP.step {W : Nat} {x : Value} {t : Str} {v v' : World} (h : KP W x t v) (hb : Below (W + 2) v v') : KP W x t v' := by
  obtain ⟨h1, h2, h3, h4, h5, h6⟩ := h
  exact ⟨(hb.cell (p := ⟨W, 0, none⟩) (by show W < W + 2; omega)).trans h1, (hb.cell (p := ⟨W, 1, none⟩) (by show W < W + 2; omega)).trans h2, (hb.cell (p := ⟨W + 1, 0, none⟩) (by show W + 1 < W + 2; omega)).trans h3, (hb.cell (p := ⟨W + 1, 1, none⟩) (by show W + 1 < W + 2; omega)).trans h4,
    (hb.frozen (p := ⟨W + 1, 0, none⟩) (by show W + 1 < W + 2; omega)).trans h5, (hb.frozen (p := ⟨W + 1, 1, none⟩) (by show W + 1 < W + 2; omega)).trans h6⟩
theorem copied (u : Value) (l : List Int) (t : Str) (w : World) (hu : IntR w u l) (hl : l.length ≤ 2 ^ 30) :
    Calls Tryz.prog 142 #[.agg #[u, .string (S t)]] w (EntPost l t w) := by
  have hb0 : Below w.heap.size w ((w.alloc (.cells #[u, .string (S t)] 47)).alloc (.cells #[.slice none 0 0, .string (S [])] 47)) :=
    ((Below.refl w.heap.size w).alloc (Nat.le_refl _) _).alloc (by simp) _
  have HU := Lib.hid ((hu.below hb0).below (Below.refl _ _).drew)
  have HB0 := Lib.hid hb0; clear hb0
  obtain ⟨ad, cap, rfl, _, _⟩ := hu
  have HS := Lib.hid (show KP w.heap.size (.slice ad l.length cap) t (((w.alloc (.cells #[.slice ad l.length cap, .string (S t)] 47)).alloc (.cells #[.slice none 0 0, .string (S [])] 47)).drew) from
    KP.step (show KP w.heap.size (.slice ad l.length cap) t ((w.alloc (.cells #[.slice ad l.length cap, .string (S t)] 47)).alloc (.cells #[.slice none 0 0, .string (S [])] 47)) by refine ⟨?_, ?_, ?_, ?_, ?_, ?_⟩ <;> go_simp) (Below.refl _ _).drew)
  go_enter Tryz.func142, Tryz.ntmps142
  go_upto_region 1 with fail
  refine Left.region [6] (S := KP w.heap.size (.slice ad l.length cap) t) (by kernel_rfl) HS.out (fun hS0 => ?_)
  refine Left.take (i := 0) (v := .pointer (some ⟨w.heap.size, 0, none⟩)) rfl (by kernel_rfl) (by kernel_rfl) (by kernel_rfl) (by kernel_rfl) (fun _ _ _ h => h) (Or.inl ⟨by rfl, fun z hz => ?_⟩) hS0 ?_
  · obtain ⟨z1, z2, z3, z4, z5, z6⟩ := hz
    go_simp
  try simp only [qA, qB, Act.put, qD, qE, qF]
  refine Left.take (i := 1) (v := .slice ad l.length cap) rfl (by kernel_rfl) (by kernel_rfl) (by kernel_rfl) (by kernel_rfl) (fun _ _ _ h => h) (Or.inl ⟨by rfl, fun z hz => ?_⟩) hS0 ?_
  · obtain ⟨z1, z2, z3, z4, z5, z6⟩ := hz
    go_simp
  try simp only [qA, qB, qC, Act.put, qD, qE, qF]
  refine Left.take (i := 3) (v := .pointer (some ⟨w.heap.size, 1, none⟩)) rfl (by kernel_rfl) (by kernel_rfl) (by kernel_rfl) (by kernel_rfl) (fun _ _ _ h => h) (Or.inl ⟨by rfl, fun z hz => ?_⟩) hS0 ?_
  · obtain ⟨z1, z2, z3, z4, z5, z6⟩ := hz
    go_simp
  try simp only [qA, qB, qC, Act.put, qD, qE, qF]
  refine Left.take (i := 4) (v := .string (S t)) rfl (by kernel_rfl) (by kernel_rfl) (by kernel_rfl) (by kernel_rfl) (fun _ _ _ h => h) (Or.inl ⟨by rfl, fun z hz => ?_⟩) hS0 ?_
  · obtain ⟨z1, z2, z3, z4, z5, z6⟩ := hz
    go_simp
  try simp only [qA, qB, qC, Act.put, qD, qE, qF]
  refine Left.ready (rs := [2]) (by kernel_rfl) (by simp) ?_
  refine Nexts.cons rfl (fun K hK => ?_) Nexts.nil
  go_simp
  refine (copyOf _ l _ HU.out hl).mono ?_
  rintro e v1 ⟨x1, rfl, hI, hb1⟩
  have HI := Lib.hid hI
  have HZ1 := Lib.hid (show w.heap.size + 2 ≤ v1.heap.size by have := hb1.size; simp at this; omega)
  have HB1 := Lib.hid (show Below w.heap.size w v1 from HB0.out.trans ((Below.refl _ _).drew.trans (hb1.mono (by simp; omega))))
  obtain ⟨xd, xc, rfl, _, _⟩ := hI
  refine on_held hK (by decide) (hS0.step (hb1.mono (by simp))) (fun hS1 => ?_)
  clear hK K hb1
  try simp only [qA, qB, qC, Act.put, qD, qE, qF]
  refine Left.take (i := 5) (v := .agg #[.slice xd l.length xc, .string (S t)]) rfl (by kernel_rfl) (by kernel_rfl) (by kernel_rfl) (by kernel_rfl) (fun _ _ _ h => h) (Or.inl ⟨by rfl, fun z hz => ?_⟩) hS1 ?_
  · obtain ⟨z1, z2, z3, z4, z5, z6⟩ := hz
    go_simp
  try simp only [qA, qB, qC, Act.put, qD, qE, qF]
  refine Left.ready (rs := [6]) (by kernel_rfl) (by simp) ?_
  refine Nexts.cons rfl (fun K hK => ?_) Nexts.nil
  obtain ⟨k1, k2, k3, k4, k5, k6⟩ := hS1
  go_simp
  refine on_last hK (by decide) ?_
  clear hK K
  try simp only [qA, qB, qC, Act.put, qD, qE, qF]
  refine Left.done (by kernel_rfl) ?_ _
  clear hS0 HS HU
  go_wp2
  refine bodyPost_ret (v := .agg #[.slice xd l.length xc, .string (S t)]) (by simp [results, Tryz.results142, go_sem, k3, k4]) rfl ⟨_, rfl, ?_, ?_⟩
  · refine (HI.out.stand (X := fun b => b < w.heap.size + 2) intE_ok (((Chg.refl _ v1).setCell ?_ _).setCell ?_ _) ?_).wide ?_ ?_
    · simp
    · simp
    · intro b hb; simp [Bet] at hb ⊢; omega
    · intro b hb; simp [Bet, World.setCell] at hb ⊢; omega
    · intro b hb; exact hb.2
  · exact (HB1.out.setCell (by simp) _).setCell (by simp) _
end
end Go.Proofs.YtmlklnimoknojaaGreatDoor
namespace Go.Proofs.YtmlklnimoknojaaGreatDoor
section
open Go Go.RowKit
set_option maxHeartbeats 400000
set_option maxRecDepth 100000
theorem Chg.drewN {F : Blk} {a w : World} (h : Chg F a w) (k : Nat) : Chg F a (w.drewN k) := h.trans (Below.chg (below_drewN (Below.refl w.heap.size w) k) F)
def IsCur (B C K : Nat) (v : World) : Prop :=
  ∃ (ad : Option Addr) (n cap a : Nat) (s : Int), v.cell? ⟨C, 0, none⟩ = some (.slice ad n cap) ∧ v.cell? ⟨C, 1, none⟩ = some (.int .i64 a) ∧ v.cell? ⟨C, 2, none⟩ = some (.int .u64 s) ∧
    v.frozen? ⟨C, 1, none⟩ = false ∧ v.frozen? ⟨C, 2, none⟩ = false ∧ a ≤ K ∧ n ≤ 65536 ∧ 0 ≤ s ∧ s < 18446744073709551616 ∧ B ≤ C ∧ C < v.heap.size ∧
    (n = 0 ∨ ∃ g o, ad = some ⟨g, o, none⟩ ∧ g < B ∧ ∀ j, j < n → ∃ b : Nat, b < 256 ∧ v.cell? ⟨g, o + j, none⟩ = some (.int .u8 b))
def CurPost (B C K : Nat) (v v' : World) : Prop := IsCur B C K v' ∧ Chg (fun b => b = C) v v'
theorem u64_lo (x : Int) : 0 ≤ IntKind.u64.wrap x ∧ IntKind.u64.wrap x < 18446744073709551616 := by
  simp only [IntKind.wrap]
  constructor
  · exact Int.emod_nonneg _ (by decide)
  · exact Int.emod_lt_of_pos _ (by decide)
theorem and_byte (x : Int) : ∃ m : Nat, m < 256 ∧ wrap64 (bits .and .u64 (IntKind.u64.wrap x / 1099511627776) 255) = (m : Int) := by
  obtain ⟨h0, h1⟩ := u64_lo x
  obtain ⟨y, hy⟩ := Int.eq_ofNat_of_zero_le h0
  rw [hy] at h1 ⊢
  have e : ((y : Nat) : Int) / 1099511627776 = ((y / 1099511627776 : Nat) : Int) := by omega
  rw [e, show (255 : Int) = ((255 : Nat) : Int) from rfl, bits_and_u64_nat _ _ (by omega) (by decide)]
  have hm : (y / 1099511627776) &&& 255 < 256 := Nat.lt_of_le_of_lt Nat.and_le_right (by decide)
  refine ⟨_, hm, ?_⟩
  simp only [wrap64]; omega
theorem cur_step {B C K n cap a : Nat} {ad : Option Addr} {w : World} (x s' : Int) (i j : Nat) (c0 : w.cell? ⟨C, 0, none⟩ = some (.slice ad n cap)) (c1 : w.cell? ⟨C, 1, none⟩ = some (.int .i64 a)) (s : Value) (c2 : w.cell? ⟨C, 2, none⟩ = some s)
    (f1 : w.frozen? ⟨C, 1, none⟩ = false) (f2 : w.frozen? ⟨C, 2, none⟩ = false) (ha : a ≤ K) (hn : n ≤ 65536) (hs0 : 0 ≤ s') (hs1 : s' < 18446744073709551616) (hBC : B ≤ C) (hC : C < w.heap.size) (hx : x = ((a + 1 : Nat) : Int))
    (hcode : n = 0 ∨ ∃ g o, ad = some ⟨g, o, none⟩ ∧ g < B ∧ ∀ j, j < n → ∃ b : Nat, b < 256 ∧ w.cell? ⟨g, o + j, none⟩ = some (.int .u8 b)) :
    CurPost B C (K + 1) w ((((w.drewN i).setCell ⟨C, 1, none⟩ (.int .i64 x)).setCell ⟨C, 2, none⟩ (.int .u64 s')).drewN j) := by
  subst hx
  have hsz : ((((w.drewN i).setCell ⟨C, 1, none⟩ (.int .i64 ((a + 1 : Nat) : Int))).setCell ⟨C, 2, none⟩ (.int .u64 s')).drewN j).heap.size = w.heap.size := by simp
  have ho : ∀ g o, g ≠ C → ((((w.drewN i).setCell ⟨C, 1, none⟩ (.int .i64 ((a + 1 : Nat) : Int))).setCell ⟨C, 2, none⟩ (.int .u64 s')).drewN j).cell? ⟨g, o, none⟩ = w.cell? ⟨g, o, none⟩ := by
    intro g o hg
    simp only [World.cell?_drewN]
    rw [World.cell?_setCell_other _ _ _ _ (by intro e; injection e; omega), World.cell?_setCell_other _ _ _ _ (by intro e; injection e; omega)]
    simp
  refine ⟨⟨ad, n, cap, a + 1, s', ?_, ?_, ?_, by simpa using f1, by simpa using f2, by omega, hn, hs0, hs1, hBC, by rw [hsz]; exact hC, ?_⟩, ?_⟩
  · go_simp
  · go_simp
  · go_simp
  · rcases hcode with h | ⟨g, o, h1, h2, h3⟩
    · exact .inl h
    · refine .inr ⟨g, o, h1, h2, fun j hj => ?_⟩
      obtain ⟨b, hb, hc⟩ := h3 j hj
      exact ⟨b, hb, (ho _ _ (by omega)).trans hc⟩
  · exact (((((Chg.refl (fun b => b = C) w).drewN i).setCell (p := ⟨C, 1, none⟩) rfl _).setCell (p := ⟨C, 2, none⟩) rfl _).drewN j)
theorem cur_next (B C K : Nat) (w : World) (hK : K < 2 ^ 40) (h : IsCur B C K w) :
    Calls Tryz.prog 117 #[.pointer (some ⟨C, 0, none⟩)] w fun e w' => ∃ x : Nat, x < 256 ∧ e = .returned (.int .i64 x) ∧ CurPost B C (K + 1) w w' := by
  obtain ⟨ad, n, cap, a, s, c0, c1, c2, f1, f2, ha, hn, hs0, hs1, hBC, hC, hcode⟩ := h
  by_cases hlt : a < n
  · have hcd : ∃ g o, ad = some ⟨g, o, none⟩ ∧ g < B ∧ ∀ j, j < n → ∃ b : Nat, b < 256 ∧ w.cell? ⟨g, o + j, none⟩ = some (.int .u8 b) := by
      rcases hcode with h | h
      · omega
      · exact h
    obtain ⟨g, o, rfl, hg, hby⟩ := hcd
    obtain ⟨b, hb, hcb⟩ := hby a hlt
    have HBY := Lib.hid hby; clear hby hcode
    have hb1 : (b : Int) < 256 := by omega
    have hne : g ≠ C := by omega
    go_enter Tryz.func117, Tryz.ntmps117
    go_wp2
    go_quiet (fail)
    go_wp2
    go_quiet (fail)
    go_wp2
    go_quiet (fail)
    go_wp2
    go_ret
    exact ⟨b, hb, rfl, cur_step _ _ _ _ c0 c1 _ c2 f1 f2 ha hn (u64_lo _).1 (u64_lo _).2 hBC hC (by omega) (.inr ⟨g, o, rfl, hg, HBY.out⟩)⟩
  · have hge : (n : Int) ≤ a := by omega
    have hcd := Lib.hid hcode; clear hcode
    go_enter Tryz.func117, Tryz.ntmps117
    go_wp2
    go_quiet (fail)
    go_wp2
    go_quiet (fail)
    go_wp2
    go_ret
    obtain ⟨m, hm, e⟩ := and_byte (IntKind.u64.wrap (IntKind.u64.wrap (s * 6364136223846793005)) + 882882)
    refine ⟨m, hm, ?_, cur_step _ _ _ _ c0 c1 _ c2 f1 f2 ha hn (u64_lo _).1 (u64_lo _).2 hBC hC (by omega) hcd.out⟩
    rw [← e]; rfl
theorem IsCur.mono {B C K K' : Nat} {v : World} (h : IsCur B C K v) (hK : K ≤ K') : IsCur B C K' v := by
  obtain ⟨ad, n, cap, a, s, c0, c1, c2, f1, f2, ha, r⟩ := h
  exact ⟨ad, n, cap, a, s, c0, c1, c2, f1, f2, Nat.le_trans ha hK, r⟩
theorem CurPost.refl {B C K K' : Nat} {v : World} (h : IsCur B C K v) (hK : K ≤ K') : CurPost B C K' v v := ⟨h.mono hK, Chg.refl _ _⟩
theorem CurPost.trans {B C K K' : Nat} {u v w : World} (h : CurPost B C K u v) (k : CurPost B C K' v w) : CurPost B C K' u w := ⟨k.1, h.2.trans k.2⟩
theorem CurPost.mono {B C K K' : Nat} {u v : World} (h : CurPost B C K u v) (hK : K ≤ K') : CurPost B C K' u v := ⟨h.1.mono hK, h.2⟩
theorem IsCur.stand {B C K : Nat} {v v' : World} {X : Blk} (h : IsCur B C K v) (hc : Chg X v v') (hX : ∀ b, X b → B ≤ b ∧ b ≠ C) : IsCur B C K v' := by
  obtain ⟨ad, m, cap, a, s, c0, c1, c2, f1, f2, ha, hn, hs0, hs1, hBC, hC, hcode⟩ := h
  have hXC : ¬ X C := fun h => (hX C h).2 rfl
  refine ⟨ad, m, cap, a, s, (hc.cell (p := ⟨C, 0, none⟩) hC hXC).trans c0, (hc.cell (p := ⟨C, 1, none⟩) hC hXC).trans c1, (hc.cell (p := ⟨C, 2, none⟩) hC hXC).trans c2, (hc.frozen (p := ⟨C, 1, none⟩) hC hXC).trans f1, (hc.frozen (p := ⟨C, 2, none⟩) hC hXC).trans f2, ha, hn, hs0, hs1, hBC, Nat.lt_of_lt_of_le hC hc.size, ?_⟩
  rcases hcode with h | ⟨g, o, h1, h2, h3⟩
  · exact .inl h
  · refine .inr ⟨g, o, h1, h2, fun j hj => ?_⟩
    obtain ⟨b, hb, hcb⟩ := h3 j hj
    exact ⟨b, hb, (hc.cell (p := ⟨g, _, none⟩) (by show g < v.heap.size; omega) (fun h => by have := (hX g h).1; omega)).trans hcb⟩
theorem IsCur.below {B C K : Nat} {v v' : World} (h : IsCur B C K v) (hb : Below v.heap.size v v') : IsCur B C K v' := h.stand (Below.chg hb fun _ => False) fun _ h => h.elim
theorem IsCur.lt {B C K : Nat} {v : World} (h : IsCur B C K v) : B ≤ C ∧ C < v.heap.size := by
  obtain ⟨ad, m, cap, a, s, c0, c1, c2, f1, f2, ha, hn, hs0, hs1, hBC, hC, hcode⟩ := h
  exact ⟨hBC, hC⟩
theorem IsCur.set {B C K g i : Nat} {v : World} (h : IsCur B C K v) (hgC : g ≠ C) (hgB : B ≤ g) (x : Value) : IsCur B C K (v.setCell ⟨g, i, none⟩ x) :=
  h.stand ((Chg.refl (fun b => b = g) v).setCell (p := ⟨g, i, none⟩) rfl x) (by rintro b rfl; exact ⟨hgB, hgC⟩)
theorem CurPost.below {B C K : Nat} {u v v' : World} (h : CurPost B C K u v) (hb : Below v.heap.size v v') : CurPost B C K u v' := ⟨h.1.below hb, h.2.trans (Below.chg hb _)⟩
theorem CurPost.alloc {B C K : Nat} {u v : World} (h : CurPost B C K u v) (o : Obj) : CurPost B C K u (v.alloc o) := h.below ((Below.refl _ _).alloc (Nat.le_refl _) o)
theorem CurPost.drewN {B C K : Nat} {u v : World} (h : CurPost B C K u v) (n : Nat) : CurPost B C K u (v.drewN n) := h.below (below_drewN (Below.refl _ _) n)
theorem CurPost.drew {B C K : Nat} {u v : World} (h : CurPost B C K u v) : CurPost B C K u v.drew := h.below (Below.refl _ _).drew
theorem CurPost.new {B C K : Nat} {u v v' : World} {X : Blk} (h : CurPost B C K u v) (hc : Chg X v v') (hX : ∀ b, X b → u.heap.size ≤ b) (hl : C < u.heap.size) (hB : B ≤ u.heap.size) : CurPost B C K u v' :=
  ⟨h.1.stand hc fun b hb => ⟨Nat.le_trans hB (hX b hb), fun e => by have := hX b hb; omega⟩,
   ⟨hc.os.trans h.2.os, hc.tape.trans h.2.tape, hc.output.trans h.2.output, Nat.le_trans h.2.size hc.size, fun b hb hf => (hc.block b (Nat.lt_of_lt_of_le hb h.2.size) fun hx => by have := hX b hx; omega).trans (h.2.block b hb hf)⟩⟩
theorem CurPost.set {B C K g i : Nat} {u v : World} (h : CurPost B C K u v) (hg : u.heap.size ≤ g) (hl : C < u.heap.size) (hB : B ≤ u.heap.size) (x : Value) : CurPost B C K u (v.setCell ⟨g, i, none⟩ x) :=
  h.new ((Chg.refl (fun b => b = g) v).setCell (p := ⟨g, i, none⟩) rfl x) (by rintro b rfl; exact hg) hl hB
theorem cur_pick (B C K : Nat) (n : Int) (w : World) (hK : K < 2 ^ 39) (hn : n < 2 ^ 40) (h : IsCur B C K w) :
    Calls Tryz.prog 49 #[.pointer (some ⟨C, 0, none⟩), .int .i64 n] w fun e w' => ∃ x : Nat, ((x : Int) < n ∨ x = 0) ∧ e = .returned (.int .i64 x) ∧ CurPost B C (K + 2) w w' := by
  have HC := Lib.hid h; clear h
  rcases Int.lt_or_le 1 n with h1 | h1
  · obtain ⟨m, rfl⟩ := Int.eq_ofNat_of_zero_le (show 0 ≤ n by omega)
    have hp : ¬ (m : Int) ≤ 1 := by omega
    have hm1 : (m : Int) ≤ 1099511627776 := by omega
    clear hn
    by_cases h2 : (200 : Int) < m
    · go_enter Tryz.func49, Tryz.ntmps49
      go_wp2_with fail
      refine (cur_next B C K w (by omega) HC.out).mono ?_
      rintro e w1 ⟨x, hx, rfl, hc⟩
      have H1 := Lib.hid hc; clear hc
      have hx1 : (x : Int) < 256 := by omega
      go_wp2_with fail
      refine (cur_next B C (K + 1) w1 (by omega) H1.out.1).mono ?_
      rintro e w2 ⟨y, hy, rfl, hc⟩
      have H2 := Lib.hid (H1.out.trans hc); clear hc H1
      have hy1 : (y : Int) < 256 := by omega
      go_wp2
      go_ret
      exact ⟨(x * 256 + y) % m, .inl (by have := Nat.mod_lt (x * 256 + y) (show 0 < m by omega); omega), by simp, H2.out⟩
    · go_enter Tryz.func49, Tryz.ntmps49
      go_wp2_with fail
      refine (cur_next B C K w (by omega) HC.out).mono ?_
      rintro e w1 ⟨x, hx, rfl, hc⟩
      have H1 := Lib.hid hc; clear hc
      have hx1 : (x : Int) < 256 := by omega
      go_wp2
      go_ret
      exact ⟨x % m, .inl (by have := Nat.mod_lt x (show 0 < m by omega); omega), by simp, H1.out.mono (by omega)⟩
  · clear hn
    go_enter Tryz.func49, Tryz.ntmps49
    go_wp2
    go_ret
    exact ⟨0, .inr rfl, rfl, CurPost.refl HC.out (by omega)⟩
theorem cur_one (B C K : Nat) (n : Int) (w : World) (hK : K < 2 ^ 39) (hn : n < 2 ^ 40) (h : IsCur B C K w) :
    Calls Tryz.prog 52 #[.pointer (some ⟨C, 0, none⟩), .int .i64 n] w fun e w' => ∃ b : Bool, e = .returned (.bool b) ∧ CurPost B C (K + 2) w w' := by
  have HC := Lib.hid h; clear h
  go_enter Tryz.func52, Tryz.ntmps52
  go_wp2_with fail
  refine (cur_pick B C K n w hK hn HC.out).mono ?_
  rintro e w1 ⟨x, hx, rfl, hc⟩
  have H1 := Lib.hid hc; clear hc
  clear hx
  go_wp2
  go_ret
  exact ⟨_, rfl, H1.out⟩
theorem cur_of (B C K g cap : Nat) (l : List Str) (w : World) (hK : K < 2 ^ 39) (hl : l.length < 2 ^ 30) (hl0 : 0 < l.length) (hg : g < w.heap.size) (hgC : g ≠ C)
    (hcell : ∀ (j : Nat) (h : j < l.length), w.cell? ⟨g, j, none⟩ = some (.string (S (l[j]'h)))) (h : IsCur B C K w) :
    Calls Tryz.prog 115 #[.pointer (some ⟨C, 0, none⟩), .slice (some ⟨g, 0, none⟩) l.length cap] w fun e w' => ∃ s, s ∈ l ∧ e = .returned (.string (S s)) ∧ CurPost B C (K + 2) w w' := by
  have HC := Lib.hid h; clear h
  have HCELL := Lib.hid hcell; clear hcell
  go_enter Tryz.func115, Tryz.ntmps115
  go_wp2_with fail
  refine (cur_pick B C K l.length w hK (by omega) HC.out).mono ?_
  rintro e w1 ⟨x, hx, rfl, hc⟩
  have hxl : x < l.length := by omega
  clear hx
  have hk : w1.cell? ⟨g, x, none⟩ = some (.string (S l[x])) := (hc.2.cell (p := ⟨g, x, none⟩) hg hgC).trans (HCELL.out x hxl)
  have H1 := Lib.hid hc; clear hc
  obtain ⟨s, hs⟩ : ∃ s, s = l[x] := ⟨_, rfl⟩
  rw [← hs] at hk
  have HM := Lib.hid (show s ∈ l by rw [hs]; exact List.getElem_mem hxl)
  clear hs
  go_wp2
  go_ret
  exact ⟨s, HM.out, rfl, H1.out⟩
theorem cur_among (B C K g cap : Nat) (l : List Int) (w : World) (hK : K < 2 ^ 39) (hl : l.length < 2 ^ 30) (hl0 : 0 < l.length) (hg : g < w.heap.size) (hgC : g ≠ C)
    (hcell : ∀ (j : Nat) (h : j < l.length), w.cell? ⟨g, j, none⟩ = some (.int .i64 (l[j]'h))) (h : IsCur B C K w) :
    Calls Tryz.prog 118 #[.pointer (some ⟨C, 0, none⟩), .slice (some ⟨g, 0, none⟩) l.length cap] w fun e w' => ∃ s, s ∈ l ∧ e = .returned (.int .i64 s) ∧ CurPost B C (K + 2) w w' := by
  have HC := Lib.hid h; clear h
  have HCELL := Lib.hid hcell; clear hcell
  go_enter Tryz.func118, Tryz.ntmps118
  go_wp2_with fail
  refine (cur_pick B C K l.length w hK (by omega) HC.out).mono ?_
  rintro e w1 ⟨x, hx, rfl, hc⟩
  have hxl : x < l.length := by omega
  clear hx
  have hk : w1.cell? ⟨g, x, none⟩ = some (.int .i64 l[x]) := (hc.2.cell (p := ⟨g, x, none⟩) hg hgC).trans (HCELL.out x hxl)
  have H1 := Lib.hid hc; clear hc
  obtain ⟨s, hs⟩ : ∃ s, s = l[x] := ⟨_, rfl⟩
  rw [← hs] at hk
  have HM := Lib.hid (show s ∈ l by rw [hs]; exact List.getElem_mem hxl)
  clear hs
  go_wp2
  go_ret
  exact ⟨s, HM.out, rfl, H1.out⟩
end
end Go.Proofs.YtmlklnimoknojaaGreatDoor
