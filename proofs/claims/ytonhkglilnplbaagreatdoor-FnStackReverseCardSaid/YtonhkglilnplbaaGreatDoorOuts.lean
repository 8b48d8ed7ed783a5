/- Rows of rows of ints: as they are read, of the call's own. Walks: the law's own functions on them: they are equal, a mark, what is held. -/
import Derived.Deep.DeepCutAuto
import Derived.Test.YtonhkglilnplbaaGreatDoorMemE
set_option linter.all false
namespace Go.Proofs.YtonhkglilnplbaaGreatDoor
namespace P
abbrev Outs := List (List Int)
/-- the mark behind rows of ints -/
def kAtO (k : Int) : Outs → Int
  | [] => k
  | o :: l => kAtO (k + o.length) l
/-- rows of ints marked -/
def markO (k : Int) : Outs → Outs
  | [] => []
  | o :: l => marks k o.length :: markO (k + o.length) l
theorem markO_len (k : Int) : ∀ l : Outs, (markO k l).length = l.length
  | [] => rfl
  | o :: l => by simp [markO, markO_len (k + o.length) l]
theorem kAtO_snoc (k : Int) (o : List Int) : ∀ l : Outs, kAtO k (l ++ [o]) = kAtO k l + o.length
  | [] => rfl
  | x :: l => by simp only [List.cons_append, kAtO]; exact kAtO_snoc _ o l
theorem markO_snoc (k : Int) (o : List Int) : ∀ l : Outs, markO k (l ++ [o]) = markO k l ++ [marks (kAtO k l) o.length]
  | [] => rfl
  | x :: l => by simp only [List.cons_append, kAtO, markO]; rw [markO_snoc _ o l]
theorem kAtO_ge (k : Int) : ∀ l : Outs, k ≤ kAtO k l
  | [] => Int.le_refl _
  | o :: l => by have := kAtO_ge (k + o.length) l; simp only [kAtO]; omega
theorem kAtO_app (k : Int) : ∀ a b : Outs, kAtO k (a ++ b) = kAtO (kAtO k a) b
  | [], _ => rfl
  | o :: a, b => by simp only [List.cons_append, kAtO]; exact kAtO_app _ a b
theorem kAtO_take (k : Int) (l : Outs) (j : Nat) : kAtO k (l.take j) ≤ kAtO k l := by
  have h := kAtO_app k (l.take j) (l.drop j)
  rw [List.take_append_drop] at h
  rw [h]
  exact kAtO_ge _ _
theorem markO_get (k : Int) (l : Outs) (j : Nat) (h : j < l.length) (h' : j < (markO k l).length) : (markO k l)[j] = marks (kAtO k (l.take j)) l[j].length := by
  induction l generalizing k j with
  | nil => simp at h
  | cons o l ih =>
    cases j with
    | zero => simp [markO, kAtO]
    | succ j => simp only [markO, List.getElem_cons_succ, List.take_succ_cons, kAtO]; exact ih _ _ (by simpa using h) _
/-- how large rows of ints are -/
def sizeO : Outs → Int
  | [] => 0
  | o :: l => o.length + sizeO l
theorem kAtO_eq (k : Int) : ∀ l : Outs, kAtO k l = k + sizeO l
  | [] => by simp [kAtO, sizeO]
  | o :: l => by rw [kAtO, kAtO_eq _ l, sizeO]; omega
def keptO (ok : Bool) (l : Outs) : Outs := if ok then l else []
end P
open Go Go.RowKit
set_option maxHeartbeats 1000000
set_option maxRecDepth 100000
/-- a slice of slices of ints, as it is read -/
def ListR (v : World) (u : Value) (l : P.Outs) : Prop :=
  ∃ (ad : Option Addr) (cap : Nat), u = .slice ad l.length cap ∧ (l.length ≤ 2 ^ 45 ∧ l.length ≤ cap) ∧ (ad = none → cap = 0) ∧ (l = [] ∨ ∃ g o, ad = some ⟨g, o, none⟩ ∧ g < v.heap.size ∧ ∀ (j : Nat) (h : j < l.length), ∃ x, v.cell? ⟨g, o + j, none⟩ = some x ∧ IntR v x (l[j]'h))
theorem ListR.below {v v' : World} {u : Value} {l : P.Outs} (h : ListR v u l) (hb : Below v.heap.size v v') : ListR v' u l := by
  obtain ⟨ad, cap, h1, h2, hn, h3⟩ := h
  refine ⟨ad, cap, h1, h2, hn, h3.imp id ?_⟩
  rintro ⟨g, o, h4, h5, h6⟩
  refine ⟨g, o, h4, Nat.lt_of_lt_of_le h5 hb.size, fun j hj => ?_⟩
  obtain ⟨x, a, c⟩ := h6 j hj
  exact ⟨x, (hb.cell (p := ⟨g, _, none⟩) h5).trans a, c.below hb⟩
theorem ListR.at {v : World} {ad : Option Addr} {n cap : Nat} {l : P.Outs} (h : ListR v (.slice ad n cap) l) (j : Nat) (hj : j < l.length) : ∃ g o, ad = some ⟨g, o, none⟩ ∧ g < v.heap.size ∧ ∃ x, v.cell? ⟨g, o + j, none⟩ = some x ∧ IntR v x (l[j]'hj) := by
  obtain ⟨ad', cap', he, _, _, h3⟩ := h
  injection he with h1 h2 h4
  rcases h3 with h3 | ⟨g, o, h5, h6, h7⟩
  · rw [h3] at hj; exact absurd hj (Nat.not_lt_zero _)
  · exact ⟨g, o, h1.trans h5, h6, h7 j hj⟩
/-- a row of ints in its row -/
def outE : ElT (List Int) := fun v F cs o => ∃ x, cs = [x] ∧ RowO 1 intE v F x o
theorem outE_ok : ElOk outE :=
  ⟨fun ⟨x, h, k⟩ hk => ⟨x, h, k.keep intE_ok hk⟩, fun ⟨x, h, k⟩ hF hl => ⟨x, h, k.wide hF hl⟩⟩
abbrev OutsO := RowO 1 outE
theorem OutsO.read {v : World} {F : Blk} {u : Value} {l : P.Outs} (h : OutsO v F u l) : ListR v u l := by
  obtain ⟨ad, cap, h1, h2, hn, h3⟩ := h
  refine ⟨ad, cap, h1, by omega, hn.1, h3.imp id ?_⟩
  rintro ⟨g, o, G, C, h4, h5⟩
  refine ⟨g, o, h4, h5.lt _ h5.own, fun j hj => ?_⟩
  obtain ⟨x, he, hx⟩ := h5.el j hj
  have hc := (h5.cel j hj 0 (by rw [he]; simp)).1
  simp only [he, List.getElem_cons_zero, Nat.mul_one, Nat.add_zero] at hc
  exact ⟨x, hc, Ints.read hx⟩
/-- how a row of rows stands while it is marked -/
def MarkO (w : World) (F : Blk) (ad : Option Addr) (k : Int) (j : Nat) (l : P.Outs) (v : World) : Prop :=
  Chg F w v ∧ (l = [] ∨ ∃ g o G C, ad = some ⟨g, o, none⟩ ∧ RowC 1 outE v F g o G C (P.markO k (l.take j) ++ l.drop j))
theorem MarkO.start {w : World} {F : Blk} {ad : Option Addr} {k : Int} {l : P.Outs} (h : l = [] ∨ ∃ g o G C, ad = some ⟨g, o, none⟩ ∧ RowC 1 outE w F g o G C l) : MarkO w F ad k 0 l w :=
  ⟨Chg.refl _ _, h.imp id fun ⟨g, o, G, C, h1, h2⟩ => ⟨g, o, G, C, h1, by simpa [P.markO] using h2⟩⟩
theorem MarkO.cells {w v : World} {F : Blk} {ad : Option Addr} {k : Int} {j : Nat} {l : P.Outs} (h : MarkO w F ad k j l v) (hj : j < l.length) :
    ∃ g o x Gj, ad = some ⟨g, o, none⟩ ∧ g < v.heap.size ∧ v.cell? ⟨g, o + j, none⟩ = some x ∧ Ints v Gj x l[j] ∧
      ∀ v1, Ints v1 Gj x (P.marks (P.kAtO k (l.take j)) l[j].length) → Chg Gj v v1 → MarkO w F ad k (j + 1) l v1 := by
  obtain ⟨hc, h⟩ := h
  obtain ⟨g, o, G, C, hg, hr⟩ := h.resolve_left (by intro e; rw [e] at hj; simp at hj)
  have hA : (P.markO k (l.take j)).length = j := by rw [P.markO_len, List.length_take]; omega
  have hlen : (P.markO k (l.take j) ++ l.drop j).length = l.length := by rw [List.length_append, hA, List.length_drop]; omega
  have hj' : j < (P.markO k (l.take j) ++ l.drop j).length := by omega
  have hel : (P.markO k (l.take j) ++ l.drop j)[j] = l[j] := by
    rw [List.getElem_append_right (by omega)]
    simp [hA]
  obtain ⟨x, hC, hI⟩ := hr.el j hj'
  rw [hel] at hI
  have c0 := hr.cel j hj' 0 (by rw [hC]; simp)
  simp only [hC, List.getElem_cons_zero, Nat.mul_one, Nat.add_zero] at c0
  refine ⟨g, o, x, G j, hg, hr.lt _ hr.own, c0.1, hI, fun v1 hI1 hc1 => ?_⟩
  have hset : (P.markO k (l.take j) ++ l.drop j).set j (P.marks (P.kAtO k (l.take j)) l[j].length) = P.markO k (l.take (j + 1)) ++ l.drop (j + 1) := by
    rw [set_mid _ _ j _ hA (by rw [List.length_drop]; omega), take_snoc l j hj, P.markO_snoc, List.drop_drop]
  have hrow : v1.heap[g]? = v.heap[g]? := hc1.block g (hr.lt _ hr.own) fun h => (hr.sub j hj' _ h).2 rfl
  have hch : Chg F v v1 := hc1.mono fun b _ hb => (hr.sub j hj' b hb).1
  refine ⟨hc.trans hch, .inr ⟨g, o, _, _, hg, hset ▸ hr.put outE_ok j hj' F (G j) (C j) _ (fun _ h => h) (fun b hb => Nat.lt_of_lt_of_le (hr.lt b hb) hc1.size) hc1.size ((hr.cel j hj').keep hrow) (hr.wid j hj') ⟨x, hC, hI1⟩ (hr.sub j hj') ?_ ?_ ?_⟩⟩
  · intro i hi hij b h1 h2
    rcases Nat.lt_or_gt_of_ne hij with e | e
    · exact hr.apart i j e hj' b h1 h2
    · exact hr.apart j i e hi b h2 h1
  · exact fun i hi _ => (hr.cel i hi).keep hrow
  · intro i hi hij b hb
    refine hc1.block b (hr.lt _ (hr.sub i hi b hb).1) fun h2 => ?_
    rcases Nat.lt_or_gt_of_ne hij with e | e
    · exact hr.apart i j e hj' b hb h2
    · exact hr.apart j i e hi b h2 hb
theorem MarkO.last {w v : World} {F : Blk} {ad : Option Addr} {k : Int} {l : P.Outs} {cap : Nat} (h : MarkO w F ad k l.length l v) (hl : l.length ≤ 2 ^ 30) (hn : (ad = none → cap = 0) ∧ l.length ≤ cap) : OutsO v F (.slice ad l.length cap) (P.markO k l) := by
  obtain ⟨_, h⟩ := h
  refine ⟨ad, cap, by rw [P.markO_len], by rw [P.markO_len]; exact hl, ⟨hn.1, by rw [P.markO_len]; exact hn.2⟩, ?_⟩
  rcases h with rfl | ⟨g, o, G, C, hg, hr⟩
  · exact .inl rfl
  · rw [List.take_length, List.drop_length, List.append_nil] at hr
    exact .inr ⟨g, o, G, C, hg, hr⟩
theorem markIntSS (u : Value) (l : P.Outs) (k : Int) (F : Blk) (w : World) (hu : OutsO w F u l) (hk0 : 0 ≤ k) (hk : P.kAtO k l ≤ 2 ^ 40) :
    Calls Tryz.prog 62 #[u, .int .i64 k] w fun e w' => e = .returned (.int .i64 (P.kAtO k l)) ∧ OutsO w' F u (P.markO k l) ∧ Chg F w w' := by
  obtain ⟨ad, cap, rfl, hl, hnil, hc0⟩ := hu
  have HNIL := Lib.hid hnil; clear hnil
  have HC := Lib.hid hc0; clear hc0
  go_enter Tryz.func62, Tryz.ntmps62
  go_wp2
  go_loopw [1, 5] (fun kk i wr => ∃ j : Nat, j ≤ l.length ∧ i = .int .i64 j ∧ kk = .int .i64 (P.kAtO k (l.take j)) ∧ MarkO w F ad k j l wr) (fun _ i _ => l.length - (intOf i).toNat)
  case atStart => exact ⟨0, Nat.zero_le _, rfl, by simp [P.kAtO], MarkO.start HC.out⟩
  case round =>
    obtain ⟨j, hj, rfl, rfl, hm⟩ := hrel
    have HM := Lib.hid hm; clear hm
    have hb1 := P.kAtO_take k l j
    have hb0 := P.kAtO_ge k (l.take j)
    by_cases hlt : j < l.length
    · obtain ⟨g, o, x, Gj, rfl, hgs, c0, hx, hput⟩ := HM.out.cells hlt
      have HPUT := Lib.hid hput; clear hput
      have HKS := Lib.hid (show P.kAtO k (l.take (j + 1)) = P.kAtO k (l.take j) + l[j].length by rw [take_snoc l j hlt, P.kAtO_snoc])
      have hb2 : P.kAtO k (l.take j) + l[j].length ≤ 2 ^ 40 := by have := P.kAtO_take k l (j + 1); rw [HKS.out] at this; omega
      have HX := Lib.hid hx
      obtain ⟨xd, xc, rfl, hxl, _⟩ := hx
      generalize P.kAtO k (l.take j) = kk at *
      generalize l[j] = eo at *
      have i1 : (j : Int) < (l.length : Int) := by omega
      have k0 : 0 ≤ kk := by omega
      clear hb0 hb1
      go_wp2_with fail
      refine (markIntS _ eo kk Gj _ HX.out k0 (by omega)).mono ?_
      rintro e v1 ⟨rfl, hI, hc1, hs1⟩
      have HN := Lib.hid (HPUT.out v1 hI hc1)
      clear hc1 hI hs1 c0
      go_wp2
      go_roundw
      case rel => exact ⟨j + 1, by omega, by go_num, by rw [HKS.out], HN.out⟩
      case measure => simp [intOf]; omega
    · have hjl : j = l.length := by omega
      subst hjl
      clear hb0 hb1
      go_wp2
      go_ret
      exact ⟨ret_int (by first | rfl | rw [List.take_length]), HM.out.last hl HNIL.out, HM.out.1⟩
theorem heldIntSS (u : Value) (l : P.Outs) (k : Int) (w : World) (hu : ListR w u (P.markO k l)) (hk0 : 0 ≤ k) (hk : P.kAtO k l ≤ 2 ^ 40) (hl30 : l.length ≤ 2 ^ 30) (hle : ∀ o ∈ l, o.length ≤ 2 ^ 30) :
    Calls Tryz.prog 63 #[u, .int .i64 k] w fun e w' => e = .returned (.int .i64 (P.kAtO k l)) ∧ w = w' := by
  have HU := Lib.hid hu
  have HLE := Lib.hid hle; clear hle
  obtain ⟨ad, cap, rfl, hl, _⟩ := hu
  rw [P.markO_len] at *
  go_enter Tryz.func63, Tryz.ntmps63
  go_wp2
  go_loop [1, 5] (fun kk i => ∃ j : Nat, j ≤ l.length ∧ i = .int .i64 j ∧ kk = .int .i64 (P.kAtO k (l.take j))) (fun _ i => l.length - (intOf i).toNat)
  case atStart => exact ⟨0, Nat.zero_le _, rfl, by simp [P.kAtO]⟩
  case round =>
    obtain ⟨j, hj, rfl, rfl⟩ := hrel
    have hb1 := P.kAtO_take k l j
    have hb0 := P.kAtO_ge k (l.take j)
    by_cases hlt : j < l.length
    · obtain ⟨g, o, rfl, hgl, x, c0, hx⟩ := HU.out.at j (by rw [P.markO_len]; exact hlt)
      rw [P.markO_get k l j hlt] at hx
      have HKS := Lib.hid (show P.kAtO k (l.take (j + 1)) = P.kAtO k (l.take j) + l[j].length by rw [take_snoc l j hlt, P.kAtO_snoc])
      have hb2 : P.kAtO k (l.take j) + l[j].length ≤ 2 ^ 40 := by have := P.kAtO_take k l (j + 1); rw [HKS.out] at this; omega
      have hll := HLE.out _ (List.getElem_mem hlt)
      have HX := Lib.hid hx
      obtain ⟨xd, xc, rfl, _, _⟩ := hx
      rw [P.marks_len] at *
      generalize P.kAtO k (l.take j) = kk at *
      generalize l[j] = eo at *
      have i1 : (j : Int) < (l.length : Int) := by omega
      have k0 : 0 ≤ kk := by omega
      clear hb0 hb1
      go_wp2_with fail
      have hx' := HX.out
      refine (heldIntS _ eo.length kk _ hx' k0 (by omega) (by omega)).mono ?_
      rintro e w' ⟨rfl, rfl⟩
      have hn : ¬ kk + (eo.length : Int) < 0 := by omega
      go_wp2
      go_round
      case rel => exact ⟨j + 1, by omega, by go_num, by rw [HKS.out]⟩
      case measure => simp [intOf]; omega
    · have hjl : j = l.length := by omega
      subst hjl
      clear hb0 hb1
      go_wp2
      go_ret
      exact ⟨ret_int (by first | rfl | rw [List.take_length]), rfl⟩
theorem heldOuts (u : Value) (l : P.Outs) (k : Int) (w : World) (hu : ListR w u (P.markO k l)) (hk0 : 0 ≤ k) (hk : P.kAtO k l ≤ 2 ^ 40 ∧ l.length ≤ 2 ^ 30 ∧ ∀ o ∈ l, o.length ≤ 2 ^ 30) :
    Calls Tryz.prog 63 #[u, .int .i64 k] w fun e w' => e = .returned (.int .i64 (P.kAtO k l)) ∧ Below w.heap.size w w' :=
  (heldIntSS u l k w hu hk0 hk.1 hk.2.1 hk.2.2).mono fun _ _ ⟨h, e⟩ => ⟨h, e ▸ Below.refl _ _⟩
theorem markOuts (u : Value) (l : P.Outs) (k : Int) (F : Blk) (w : World) (hu : OutsO w F u l) (hk0 : 0 ≤ k) (hk : P.kAtO k l ≤ 2 ^ 40 ∧ l.length ≤ 2 ^ 30 ∧ ∀ o ∈ l, o.length ≤ 2 ^ 30) :
    Calls Tryz.prog 62 #[u, .int .i64 k] w fun e w' => e = .returned (.int .i64 (P.kAtO k l)) ∧ OutsO w' F u (P.markO k l) ∧ Chg F w w' :=
  markIntSS u l k F w hu hk0 hk.1
/-- what the drawn region of eqIntSS keeps -/
def KOO (w : World) (c p : Nat) (x : Value) (g q : Nat) (y : Value) (eo : List Int) (v : World) : Prop :=
  v.cell? ⟨c, p, none⟩ = some x ∧ v.cell? ⟨g, q, none⟩ = some y ∧ c < v.heap.size ∧ g < v.heap.size ∧ IntR v x eo ∧ IntR v y eo ∧ w.heap.size ≤ v.heap.size ∧ Below w.heap.size w v
theorem KOO.step {w v v' : World} {c p g q : Nat} {x y : Value} {eo : List Int} (h : KOO w c p x g q y eo v) (hb : Below v.heap.size v v') : KOO w c p x g q y eo v' := by
  obtain ⟨h1, h3, h5, h6, h7, h8, h9, h10⟩ := h
  exact ⟨(hb.cell (p := ⟨c, p, none⟩) h5).trans h1, (hb.cell (p := ⟨g, q, none⟩) h6).trans h3,
    Nat.lt_of_lt_of_le h5 hb.size, Nat.lt_of_lt_of_le h6 hb.size, h7.below hb, h8.below hb, Nat.le_trans h9 hb.size, h10.trans (hb.mono h9)⟩
theorem eqIntSS (u v : Value) (l : P.Outs) (w : World) (hu : ListR w u l) (hv : ListR w v l) :
    Calls Tryz.prog 61 #[u, v] w fun e w' => e = .returned (.bool true) ∧ Below w.heap.size w w' := by
  have HU := Lib.hid hu; have HV := Lib.hid hv
  obtain ⟨ad, cap, rfl, hla, _⟩ := hu
  obtain ⟨bd, dap, rfl, _, _⟩ := hv
  go_enter Tryz.func61, Tryz.ntmps61
  go_wp2
  go_loopw [5] (fun i wr => ∃ j : Nat, j ≤ l.length ∧ i = .int .i64 j ∧ Below w.heap.size w wr) (fun i _ => l.length - (intOf i).toNat)
  case atStart => exact ⟨0, Nat.zero_le _, rfl, Below.refl _ _⟩
  case round =>
    obtain ⟨j, hj, rfl, hb⟩ := hrel
    have HB := Lib.hid hb
    by_cases hlt : j < l.length
    · obtain ⟨c, p, hga, hgl, x, c0, hx⟩ := (HU.out.below hb).at j hlt
      obtain ⟨g, q, hgb, hgl', y, d0, hy⟩ := (HV.out.below hb).at j hlt
      subst hga hgb
      have HS := Lib.hid (show KOO w c (p + j) x g (q + j) y l[j] wr.drew from KOO.step ⟨c0, d0, hgl, hgl', hx, hy, hb.size, hb⟩ (Below.refl _ _).drew)
      obtain ⟨xd, xc, rfl, _, _⟩ := hx
      obtain ⟨yd, yc, rfl, _, _⟩ := hy
      generalize l[j] = eo at *
      clear hb
      have i1 : (j : Int) < (l.length : Int) := by omega
      go_upto_region 6 with fail
      refine wp_region_held_drew (S := KOO w c (p + j) (.slice xd eo.length xc) g (q + j) (.slice yd eo.length yc) eo) (by kernel_rfl) HS.out (fun hS0 => ?_)
      refine wpAnyH_take (i := 0) (v := .slice (some ⟨c, p, none⟩) l.length cap) rfl (by kernel_rfl) (by kernel_rfl) (by kernel_rfl) (fun _ _ _ h => h) (Or.inl ⟨by rfl, fun z hz => ?_⟩) hS0 ?_
      · obtain ⟨z1, z2, z3, z4⟩ := hz
        go_simp
      try simp only [List.getElem_toArray, List.getElem_cons_zero, Act.put, List.setIfInBounds_toArray, List.set_cons_zero, List.set_cons_succ]
      refine wpAnyH_take (i := 1) (v := .int .i64 j) rfl (by kernel_rfl) (by kernel_rfl) (by kernel_rfl) (fun _ _ _ h => h) (Or.inl ⟨by rfl, fun z hz => ?_⟩) hS0 ?_
      · obtain ⟨z1, z2, z3, z4⟩ := hz
        go_simp
      try simp only [List.getElem_toArray, List.getElem_cons_zero, List.getElem_cons_succ, Act.put, List.setIfInBounds_toArray, List.set_cons_zero, List.set_cons_succ]
      refine wpAnyH_take (i := 2) (v := .pointer (some ⟨c, p + j, none⟩)) rfl (by kernel_rfl) (by kernel_rfl) (by kernel_rfl) (fun _ _ _ h => h) (Or.inl ⟨by rfl, fun z hz => ?_⟩) hS0 ?_
      · obtain ⟨z1, z2, z3, z4⟩ := hz
        go_simp
      try simp only [List.getElem_toArray, List.getElem_cons_zero, List.getElem_cons_succ, Act.put, List.setIfInBounds_toArray, List.set_cons_zero, List.set_cons_succ]
      refine wpAnyH_take (i := 3) (v := .slice xd eo.length xc) rfl (by kernel_rfl) (by kernel_rfl) (by kernel_rfl) (fun _ _ _ h => h) (Or.inl ⟨by rfl, fun z hz => ?_⟩) hS0 ?_
      · obtain ⟨z1, z2, z3, z4⟩ := hz
        go_simp
      try simp only [List.getElem_toArray, List.getElem_cons_zero, List.getElem_cons_succ, Act.put, List.setIfInBounds_toArray, List.set_cons_zero, List.set_cons_succ]
      refine wpAnyH_take (i := 4) (v := .slice (some ⟨g, q, none⟩) l.length dap) rfl (by kernel_rfl) (by kernel_rfl) (by kernel_rfl) (fun _ _ _ h => h) (Or.inl ⟨by rfl, fun z hz => ?_⟩) hS0 ?_
      · obtain ⟨z1, z2, z3, z4⟩ := hz
        go_simp
      try simp only [List.getElem_toArray, List.getElem_cons_zero, List.getElem_cons_succ, Act.put, List.setIfInBounds_toArray, List.set_cons_zero, List.set_cons_succ]
      refine wpAnyH_take (i := 5) (v := .int .i64 j) rfl (by kernel_rfl) (by kernel_rfl) (by kernel_rfl) (fun _ _ _ h => h) (Or.inl ⟨by rfl, fun z hz => ?_⟩) hS0 ?_
      · obtain ⟨z1, z2, z3, z4⟩ := hz
        go_simp
      try simp only [List.getElem_toArray, List.getElem_cons_zero, List.getElem_cons_succ, Act.put, List.setIfInBounds_toArray, List.set_cons_zero, List.set_cons_succ]
      refine wpAnyH_take (i := 6) (v := .pointer (some ⟨g, q + j, none⟩)) rfl (by kernel_rfl) (by kernel_rfl) (by kernel_rfl) (fun _ _ _ h => h) (Or.inl ⟨by rfl, fun z hz => ?_⟩) hS0 ?_
      · obtain ⟨z1, z2, z3, z4⟩ := hz
        go_simp
      try simp only [List.getElem_toArray, List.getElem_cons_zero, List.getElem_cons_succ, Act.put, List.setIfInBounds_toArray, List.set_cons_zero, List.set_cons_succ]
      refine wpAnyH_take (i := 7) (v := .slice yd eo.length yc) rfl (by kernel_rfl) (by kernel_rfl) (by kernel_rfl) (fun _ _ _ h => h) (Or.inl ⟨by rfl, fun z hz => ?_⟩) hS0 ?_
      · obtain ⟨z1, z2, z3, z4⟩ := hz
        go_simp
      try simp only [List.getElem_toArray, List.getElem_cons_zero, List.getElem_cons_succ, Act.put, List.setIfInBounds_toArray, List.set_cons_zero, List.set_cons_succ]
      refine wpAnyH_ready (rs := [8]) (by kernel_rfl) (by simp) ?_
      refine AllReadyH.cons rfl (fun K hK => ?_) AllReadyH.nil
      have HS1 := Lib.hid hS0
      have HX := Lib.hid hS0.2.2.2.2.1
      have HY := Lib.hid hS0.2.2.2.2.2.1
      go_simp
      refine (eqIntS _ _ eo _ HX.out HY.out).mono ?_
      rintro e v ⟨rfl, hb⟩
      refine hK.out _ _ (HS1.out.step hb) (fun hS1 => ?_)
      clear hK K hb
      try simp only [List.getElem_toArray, List.getElem_cons_zero, List.getElem_cons_succ, Act.put, List.setIfInBounds_toArray, List.set_cons_zero, List.set_cons_succ]
      refine wpAnyH_take (i := 9) (v := .bool false) rfl (by kernel_rfl) (by kernel_rfl) (by kernel_rfl) (fun _ _ _ h => h) (Or.inl ⟨by rfl, fun z hz => ?_⟩) hS1 ?_
      · obtain ⟨z1, z2, z3, z4⟩ := hz
        go_simp
      try simp only [List.getElem_toArray, List.getElem_cons_zero, List.getElem_cons_succ, Act.put, List.setIfInBounds_toArray, List.set_cons_zero, List.set_cons_succ]
      refine wpAnyH_done (by kernel_rfl) ?_ _
      have HB2 := Lib.hid (hS1.2.2.2.2.2.2.2)
      clear hS0 hS1 HS1
      go_wp2
      go_roundw
      case rel => exact ⟨j + 1, by omega, by go_num, HB2.out⟩
      case measure => simp [intOf]; omega
    · clear hb
      go_wp2
      go_ret
      exact ⟨rfl, HB.out⟩
theorem info_sl : (Tryz.prog.info? 25).map (fun i => (i.zero, i.size, i.bytes)) = some (some (.slice none 0 0), 1, 24) := by kernel_rfl
end Go.Proofs.YtonhkglilnplbaaGreatDoor
