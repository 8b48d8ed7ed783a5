/- Walks: folds (program): an outline folded, a folded text, the look-up with folds. -/
import Derived.Deep.DeepCutAuto
import Derived.Deep.RegionHeld
import Derived.Test.YtmlklnimoknojaaGreatDoorFold3
import Derived.Test.YtmlklnimoknojaaGreatDoorOuts
import Derived.Test.YtmlklnimoknojaaGreatDoorCurE3
namespace Go.Proofs.YtmlklnimoknojaaGreatDoor
open Go Go.RowKit
set_option maxHeartbeats 4000000
set_option maxRecDepth 100000
/-- what a fold of an outline reads -/
def KFI (b : Nat) (k : Int) (s : Str) (g p : Nat) (m : Nat) (v : World) : Prop := FBx b k s v ∧ v.cell? ⟨g, p, none⟩ = some (.int .i64 (m : Int)) ∧ g < v.heap.size
theorem KFI.below {b : Nat} {k : Int} {s : Str} {g p m : Nat} {v v' : World} (h : KFI b k s g p m v) (hb : Below v.heap.size v v') : KFI b k s g p m v' :=
  ⟨h.1.below hb, (hb.cell (p := ⟨g, p, none⟩) h.2.2).trans h.2.1, Nat.lt_of_lt_of_le h.2.2 hb.size⟩
def IntoPost (r : Option (List Int)) (w : World) (e : Ending) (w' : World) : Prop := ∃ x, e = .returned (.tuple #[x, .bool r.isSome]) ∧ Ints w' (Bet w.heap.size w'.heap.size) x (r.getD []) ∧ Below w.heap.size w w'
theorem foldInto (k : Nat) (s : Str) (u : Value) (o : List Int) (w : World) (hu : IntR w u o) (ho : P.outline o = true) (hf : P.fold ((k : Int), s) = true) :
    Calls Tryz.prog 79 #[u, .agg #[.int .i64 (k : Int), .string (S s)]] w (IntoPost (P.into k o) w) := by
  obtain ⟨k', hkk, hk1, hk, hs8⟩ := P.fold_key hf
  obtain rfl : k = k' := by omega
  have hb0 : Below w.heap.size w (w.alloc (.cells #[.int .i64 (k : Int), .string (S s)] 115)) := (Below.refl _ _).alloc (Nat.le_refl _) _
  have HU := Lib.hid (hu.below hb0); have HB0 := Lib.hid hb0; clear hb0
  have HX := Lib.hid (FBx.new (k : Int) s 115 w)
  obtain ⟨h0, h6, m, hm, hm1, hm2, hgd⟩ := P.outline_last ho
  obtain ⟨ad, cap, rfl, ⟨hl45, hcap⟩, _, _⟩ := hu
  obtain ⟨n, hn⟩ : ∃ n, o.length = n + 1 := ⟨o.length - 1, by omega⟩
  obtain ⟨g, p, hga, hgl, c0⟩ := HU.out.at n (by omega)
  have hon : o[n]'(by omega) = (m : Int) := by
    rw [hn] at hgd
    rw [List.getD_eq_getElem?_getD, Nat.add_sub_cancel, List.getElem?_eq_getElem (by omega)] at hgd
    exact hgd
  rw [hon] at c0
  subst hga
  have hp := pow_k hk
  have E1 := and_one (m := m) (k := k) hm2
  have E2 := shl_k hk
  have E3 := or_bit_k (m := m) (k := k) hm2 hk
  have HUN := Lib.hid (P.into_nat (k := k) hm hn)
  have HIN := Lib.hid (show IntR (w.alloc (.cells #[.int .i64 (k : Int), .string (S s)] 115)) (.slice (some ⟨g, p, none⟩) (n + 1) cap) o by rw [← hn]; exact HU.out)
  have HN := Lib.hid hn; have HO := Lib.hid ho; have HF := Lib.hid hf
  have HS := Lib.hid (show KFI w.heap.size (k : Int) s g (p + n) m (w.alloc (.cells #[.int .i64 (k : Int), .string (S s)] 115)).drew from KFI.below ⟨HX.out, c0, hgl⟩ (Below.refl _ _).drew)
  have i1 : (o.length : Int) - 1 = (n : Int) := by omega
  have i2 : (n : Int) < (o.length : Int) := by omega
  have i3 : IntKind.i64.wrap ((n : Int) + 1 - 1) = (n : Int) := by rw [IntKind.wrap_i64]; omega
  have i4 : (n : Int) < (n : Int) + 1 := by omega
  have i5 : IntKind.i64.wrap (n : Int) = (n : Int) := by rw [IntKind.wrap_i64]; omega
  have E5 : IntKind.i64.wrap (2 ^ k) = ((2 ^ k : Nat) : Int) := by have h := E2; unfold wrap64 at h; rw [IntKind.wrap_i64]; exact h
  clear hgd hm hon c0 hgl ho hf
  generalize hq2 : 2 ^ k = q at *
  clear hq2
  go_enter Tryz.func79, Tryz.ntmps79
  go_upto_region 1 with fail
  have hdd := (Below.refl (w.alloc (.cells #[.int .i64 (k : Int), .string (S s)] 115)).heap.size (w.alloc (.cells #[.int .i64 (k : Int), .string (S s)] 115))).drew
  have HB1 := Lib.hid (HB0.out.trans (hdd.mono HB0.out.size)); have HI1 := Lib.hid (HIN.out.below hdd)
  clear hdd HU HX HIN HB0
  refine wp_region_held_drew (S := KFI w.heap.size (k : Int) s g (p + n) m) (by kernel_rfl) HS.out (fun hS0 => ?_)
  generalize (w.alloc (.cells #[.int .i64 (k : Int), .string (S s)] 115)).drew = v0 at *
  refine wpAnyH_take (i := 0) (v := .slice (some ⟨g, p, none⟩) (n + 1) cap) rfl (by kernel_rfl) (by kernel_rfl) (by kernel_rfl) (fun _ _ _ h => h) (Or.inl ⟨by rfl, fun z hz => ?_⟩) hS0 ?_
  · obtain ⟨⟨⟨z1, z2⟩, z3⟩, z4, z5⟩ := hz
    go_simp
  try simp only [qA, qB, Act.put, qD, qE, qF]
  refine wpAnyH_ready (rs := [1]) (by kernel_rfl) (by simp) ?_
  refine AllReadyH.cons rfl (fun K hK => ?_) AllReadyH.nil
  go_simp
  refine (isValidOutline _ o _ HI1.out).mono ?_
  rintro e v1 ⟨rfl, hb⟩
  rw [HO.out]
  have HB2 := Lib.hid (HB1.out.trans (hb.mono HB1.out.size)); have HI2 := Lib.hid (HI1.out.below hb)
  refine hK.out _ _ (hS0.below hb) (fun hS1 => ?_)
  clear hK K hb HB1 HI1
  try simp only [qA, qB, qC, Act.put, qD, qE, qF]
  refine wpAnyH_take (i := 2) (v := .bool false) rfl (by kernel_rfl) (by kernel_rfl) (by kernel_rfl) (fun _ _ _ h => h) (Or.inl ⟨by rfl, fun z hz => ?_⟩) hS1 ?_
  · obtain ⟨⟨⟨z1, z2⟩, z3⟩, z4, z5⟩ := hz
    go_simp
  try simp only [qA, qB, qC, Act.put, qD, qE, qF]
  refine wpAnyH_take (i := 3) (v := .bool false) rfl (by kernel_rfl) (by kernel_rfl) (by kernel_rfl) (fun _ _ _ h => h) (Or.inl ⟨by rfl, fun z hz => ?_⟩) hS1 ?_
  · obtain ⟨⟨⟨z1, z2⟩, z3⟩, z4, z5⟩ := hz
    go_simp
  try simp only [qA, qB, qC, Act.put, qD, qE, qF]
  refine wpAnyH_take (i := 4) (v := .agg #[.int .i64 (k : Int), .string (S s)]) rfl (by kernel_rfl) (by kernel_rfl) (by kernel_rfl) (fun _ _ _ h => h) (Or.inl ⟨by rfl, fun z hz => ?_⟩) hS1 ?_
  · obtain ⟨⟨⟨z1, z2⟩, z3⟩, z4, z5⟩ := hz
    go_simp
  try simp only [qA, qB, qC, Act.put, qD, qE, qF]
  refine wpAnyH_ready (rs := [5]) (by kernel_rfl) (by simp) ?_
  refine AllReadyH.cons rfl (fun K hK => ?_) AllReadyH.nil
  go_simp
  refine (isFold (k : Int) s _ (by omega)).mono ?_
  rintro e v2 ⟨rfl, hb⟩
  rw [HF.out]
  have HB3 := Lib.hid (HB2.out.trans (hb.mono HB2.out.size)); have HI3 := Lib.hid (HI2.out.below hb)
  refine hK.out _ _ (hS1.below hb) (fun hS2 => ?_)
  clear hK K hb HB2 HI2
  try simp only [qA, qB, qC, Act.put, qD, qE, qF]
  refine wpAnyH_take (i := 6) (v := .bool false) rfl (by kernel_rfl) (by kernel_rfl) (by kernel_rfl) (fun _ _ _ h => h) (Or.inl ⟨by rfl, fun z hz => ?_⟩) hS2 ?_
  · obtain ⟨⟨⟨z1, z2⟩, z3⟩, z4, z5⟩ := hz
    go_simp
  try simp only [qA, qB, qC, Act.put, qD, qE, qF]
  refine wpAnyH_take (i := 7) (v := .bool false) rfl (by kernel_rfl) (by kernel_rfl) (by kernel_rfl) (fun _ _ _ h => h) (Or.inl ⟨by rfl, fun z hz => ?_⟩) hS2 ?_
  · obtain ⟨⟨⟨z1, z2⟩, z3⟩, z4, z5⟩ := hz
    go_simp
  try simp only [qA, qB, qC, Act.put, qD, qE, qF]
  refine wpAnyH_take (i := 8) (v := .bool false) rfl (by kernel_rfl) (by kernel_rfl) (by kernel_rfl) (fun _ _ _ h => h) (Or.inl ⟨by rfl, fun z hz => ?_⟩) hS2 ?_
  · obtain ⟨⟨⟨z1, z2⟩, z3⟩, z4, z5⟩ := hz
    go_simp
  try simp only [qA, qB, qC, Act.put, qD, qE, qF]
  refine wpAnyH_take (i := 9) (v := .slice (some ⟨g, p, none⟩) (n + 1) cap) rfl (by kernel_rfl) (by kernel_rfl) (by kernel_rfl) (fun _ _ _ h => h) (Or.inl ⟨by rfl, fun z hz => ?_⟩) hS2 ?_
  · obtain ⟨⟨⟨z1, z2⟩, z3⟩, z4, z5⟩ := hz
    go_simp
  try simp only [qA, qB, qC, Act.put, qD, qE, qF]
  refine wpAnyH_take (i := 10) (v := .slice (some ⟨g, p, none⟩) (n + 1) cap) rfl (by kernel_rfl) (by kernel_rfl) (by kernel_rfl) (fun _ _ _ h => h) (Or.inl ⟨by rfl, fun z hz => ?_⟩) hS2 ?_
  · obtain ⟨⟨⟨z1, z2⟩, z3⟩, z4, z5⟩ := hz
    go_simp
  try simp only [qA, qB, qC, Act.put, qD, qE, qF]
  refine wpAnyH_take (i := 11) (v := .int .i64 ((n : Int) + 1)) rfl (by kernel_rfl) (by kernel_rfl) (by kernel_rfl) (fun _ _ _ h => h) (Or.inl ⟨by rfl, fun z hz => ?_⟩) hS2 ?_
  · obtain ⟨⟨⟨z1, z2⟩, z3⟩, z4, z5⟩ := hz
    go_simp
  try simp only [qA, qB, qC, Act.put, qD, qE, qF]
  refine wpAnyH_take (i := 12) (v := .int .i64 (n : Int)) rfl (by kernel_rfl) (by kernel_rfl) (by kernel_rfl) (fun _ _ _ h => h) (Or.inl ⟨by rfl, fun z hz => ?_⟩) hS2 ?_
  · obtain ⟨⟨⟨z1, z2⟩, z3⟩, z4, z5⟩ := hz
    go_simp
  try simp only [qA, qB, qC, Act.put, qD, qE, qF]
  refine wpAnyH_take (i := 13) (v := .pointer (some ⟨g, p + n, none⟩)) rfl (by kernel_rfl) (by kernel_rfl) (by kernel_rfl) (fun _ _ _ h => h) (Or.inl ⟨by rfl, fun z hz => ?_⟩) hS2 ?_
  · obtain ⟨⟨⟨z1, z2⟩, z3⟩, z4, z5⟩ := hz
    go_simp
  try simp only [qA, qB, qC, Act.put, qD, qE, qF]
  refine wpAnyH_take (i := 14) (v := .int .i64 (m : Int)) rfl (by kernel_rfl) (by kernel_rfl) (by kernel_rfl) (fun _ _ _ h => h) (Or.inl ⟨by rfl, fun z hz => ?_⟩) hS2 ?_
  · obtain ⟨⟨⟨z1, z2⟩, z3⟩, z4, z5⟩ := hz
    go_simp
  try simp only [qA, qB, qC, Act.put, qD, qE, qF]
  refine wpAnyH_take (i := 15) (v := .pointer (some ⟨w.heap.size, 0, none⟩)) rfl (by kernel_rfl) (by kernel_rfl) (by kernel_rfl) (fun _ _ _ h => h) (Or.inl ⟨by rfl, fun z hz => ?_⟩) hS2 ?_
  · obtain ⟨⟨⟨z1, z2⟩, z3⟩, z4, z5⟩ := hz
    go_simp
  try simp only [qA, qB, qC, Act.put, qD, qE, qF]
  refine wpAnyH_take (i := 16) (v := .int .i64 (k : Int)) rfl (by kernel_rfl) (by kernel_rfl) (by kernel_rfl) (fun _ _ _ h => h) (Or.inl ⟨by rfl, fun z hz => ?_⟩) hS2 ?_
  · obtain ⟨⟨⟨z1, z2⟩, z3⟩, z4, z5⟩ := hz
    go_simp
  try simp only [qA, qB, qC, Act.put, qD, qE, qF]
  refine wpAnyH_take (i := 17) (v := .int .i64 ((m : Int) / 2 ^ k)) rfl (by kernel_rfl) (by kernel_rfl) (by kernel_rfl) (fun _ _ _ h => h) (Or.inl ⟨by rfl, fun z hz => ?_⟩) hS2 ?_
  · obtain ⟨⟨⟨z1, z2⟩, z3⟩, z4, z5⟩ := hz
    go_simp
  try simp only [qA, qB, qC, Act.put, qD, qE, qF]
  cases hbk : m.testBit k
  · rw [hbk] at E1
    have E1' : bits .and .i64 ((m : Int) / 2 ^ k) 1 = 0 := E1
    have E4 := E3 hbk
    have hun : P.into (k : Int) o = some (o.take n ++ [(m : Int) + (q : Int)]) := by rw [HUN.out, hbk]; rfl
    have HUNN := Lib.hid hun
    clear E1 E3 hbk hun HUN
    refine wpAnyH_take (i := 18) (v := .int .i64 0) rfl (by kernel_rfl) (by kernel_rfl) (by kernel_rfl) (fun _ _ _ h => h) (Or.inl ⟨by rfl, fun z hz => ?_⟩) hS2 ?_
    · obtain ⟨⟨⟨z1, z2⟩, z3⟩, z4, z5⟩ := hz
      go_simp
    try simp only [qA, qB, qC, Act.put, qD, qE, qF]
    refine wpAnyH_take (i := 19) (v := .bool false) rfl (by kernel_rfl) (by kernel_rfl) (by kernel_rfl) (fun _ _ _ h => h) (Or.inl ⟨by rfl, fun z hz => ?_⟩) hS2 ?_
    · obtain ⟨⟨⟨z1, z2⟩, z3⟩, z4, z5⟩ := hz
      go_simp
    try simp only [qA, qB, qC, Act.put, qD, qE, qF]
    refine wpAnyH_take (i := 20) (v := .bool false) rfl (by kernel_rfl) (by kernel_rfl) (by kernel_rfl) (fun _ _ _ h => h) (Or.inl ⟨by rfl, fun z hz => ?_⟩) hS2 ?_
    · obtain ⟨⟨⟨z1, z2⟩, z3⟩, z4, z5⟩ := hz
      go_simp
    try simp only [qA, qB, qC, Act.put, qD, qE, qF]
    refine wpAnyH_done (by kernel_rfl) ?_ _
    clear hS0 hS1 HS
    have HS3 := Lib.hid (KFI.below hS2 (Below.refl _ _).drew)
    clear hS2
    have hdd := (Below.refl v2.heap.size v2).drew
    have HB4 := Lib.hid (HB3.out.trans (hdd.mono HB3.out.size)); have HI4 := Lib.hid (HI3.out.below hdd)
    clear hdd HB3 HI3
    go_upto_region 3 with fail
    refine wp_region_held_drew (S := KFI w.heap.size (k : Int) s g (p + n) m) (by kernel_rfl) HS3.out (fun hS0 => ?_)
    generalize v2.drew = v3 at *
    refine wpAnyH_take (i := 0) (v := .slice (some ⟨g, p, none⟩) (n + 1) cap) rfl (by kernel_rfl) (by kernel_rfl) (by kernel_rfl) (fun _ _ _ h => h) (Or.inl ⟨by rfl, fun z hz => ?_⟩) hS0 ?_
    · obtain ⟨⟨⟨z1, z2⟩, z3⟩, z4, z5⟩ := hz
      go_simp
    try simp only [qA, qB, Act.put, qD, qE, qF]
    refine wpAnyH_take (i := 1) (v := .slice (some ⟨g, p, none⟩) (n + 1) cap) rfl (by kernel_rfl) (by kernel_rfl) (by kernel_rfl) (fun _ _ _ h => h) (Or.inl ⟨by rfl, fun z hz => ?_⟩) hS0 ?_
    · obtain ⟨⟨⟨z1, z2⟩, z3⟩, z4, z5⟩ := hz
      go_simp
    try simp only [qA, qB, qC, Act.put, qD, qE, qF]
    refine wpAnyH_take (i := 2) (v := .slice (some ⟨g, p, none⟩) (n + 1) cap) rfl (by kernel_rfl) (by kernel_rfl) (by kernel_rfl) (fun _ _ _ h => h) (Or.inl ⟨by rfl, fun z hz => ?_⟩) hS0 ?_
    · obtain ⟨⟨⟨z1, z2⟩, z3⟩, z4, z5⟩ := hz
      go_simp
    try simp only [qA, qB, qC, Act.put, qD, qE, qF]
    refine wpAnyH_take (i := 3) (v := .int .i64 ((n : Int) + 1)) rfl (by kernel_rfl) (by kernel_rfl) (by kernel_rfl) (fun _ _ _ h => h) (Or.inl ⟨by rfl, fun z hz => ?_⟩) hS0 ?_
    · obtain ⟨⟨⟨z1, z2⟩, z3⟩, z4, z5⟩ := hz
      go_simp
    try simp only [qA, qB, qC, Act.put, qD, qE, qF]
    refine wpAnyH_take (i := 4) (v := .int .i64 (n : Int)) rfl (by kernel_rfl) (by kernel_rfl) (by kernel_rfl) (fun _ _ _ h => h) (Or.inl ⟨by rfl, fun z hz => ?_⟩) hS0 ?_
    · obtain ⟨⟨⟨z1, z2⟩, z3⟩, z4, z5⟩ := hz
      go_simp
    try simp only [qA, qB, qC, Act.put, qD, qE, qF]
    refine wpAnyH_take (i := 5) (v := .pointer (some ⟨g, p + n, none⟩)) rfl (by kernel_rfl) (by kernel_rfl) (by kernel_rfl) (fun _ _ _ h => h) (Or.inl ⟨by rfl, fun z hz => ?_⟩) hS0 ?_
    · obtain ⟨⟨⟨z1, z2⟩, z3⟩, z4, z5⟩ := hz
      go_simp
    try simp only [qA, qB, qC, Act.put, qD, qE, qF]
    refine wpAnyH_take (i := 6) (v := .int .i64 (m : Int)) rfl (by kernel_rfl) (by kernel_rfl) (by kernel_rfl) (fun _ _ _ h => h) (Or.inl ⟨by rfl, fun z hz => ?_⟩) hS0 ?_
    · obtain ⟨⟨⟨z1, z2⟩, z3⟩, z4, z5⟩ := hz
      go_simp
    try simp only [qA, qB, qC, Act.put, qD, qE, qF]
    refine wpAnyH_take (i := 7) (v := .pointer (some ⟨w.heap.size, 0, none⟩)) rfl (by kernel_rfl) (by kernel_rfl) (by kernel_rfl) (fun _ _ _ h => h) (Or.inl ⟨by rfl, fun z hz => ?_⟩) hS0 ?_
    · obtain ⟨⟨⟨z1, z2⟩, z3⟩, z4, z5⟩ := hz
      go_simp
    try simp only [qA, qB, qC, Act.put, qD, qE, qF]
    refine wpAnyH_take (i := 8) (v := .int .i64 (k : Int)) rfl (by kernel_rfl) (by kernel_rfl) (by kernel_rfl) (fun _ _ _ h => h) (Or.inl ⟨by rfl, fun z hz => ?_⟩) hS0 ?_
    · obtain ⟨⟨⟨z1, z2⟩, z3⟩, z4, z5⟩ := hz
      go_simp
    try simp only [qA, qB, qC, Act.put, qD, qE, qF]
    refine wpAnyH_take (i := 9) (v := .int .i64 (q : Int)) rfl (by kernel_rfl) (by kernel_rfl) (by kernel_rfl) (fun _ _ _ h => h) (Or.inl ⟨by rfl, fun z hz => ?_⟩) hS0 ?_
    · obtain ⟨⟨⟨z1, z2⟩, z3⟩, z4, z5⟩ := hz
      go_simp
    try simp only [qA, qB, qC, Act.put, qD, qE, qF]
    refine wpAnyH_take (i := 10) (v := .int .i64 ((m : Int) + (q : Int))) rfl (by kernel_rfl) (by kernel_rfl) (by kernel_rfl) (fun _ _ _ h => h) (Or.inl ⟨by rfl, fun z hz => ?_⟩) hS0 ?_
    · obtain ⟨⟨⟨z1, z2⟩, z3⟩, z4, z5⟩ := hz
      go_simp
    try simp only [qA, qB, qC, Act.put, qD, qE, qF]
    refine wpAnyH_ready (rs := [11]) (by kernel_rfl) (by simp) ?_
    refine AllReadyH.cons rfl (fun K hK => ?_) AllReadyH.nil
    go_simp
    refine (withLast _ o ((m : Int) + (q : Int)) _ HI4.out (by omega) (by omega)).mono ?_
    rintro e v4 ⟨x, rfl, hown, hb⟩
    rw [show o.length - 1 = n by have := HN.out; omega] at hown
    have hln : (o.take n ++ [(m : Int) + (q : Int)]).length = n + 1 := by rw [List.length_append, List.length_take]; simp; have := HN.out; omega
    have HI := Lib.hid (ints_of_owns hown (by rw [hln]; omega))
    have HB5 := Lib.hid (HB4.out.trans (hb.mono HB4.out.size))
    have HZ := Lib.hid HB4.out.size
    refine hK.out _ _ (hS0.below hb) (fun hS1 => ?_)
    clear hK K hown hb HI4 HB4
    obtain ⟨xa, xc, rfl, _, _⟩ := id HI.out
    have hw : Ints v4 (Bet w.heap.size v4.heap.size) (.slice xa (n + 1) xc) (o.take n ++ [(m : Int) + (q : Int)]) := by
      have h := RowO.wide (F' := Bet w.heap.size v4.heap.size) HI.out (fun b hb => ⟨by have := hb.1; have := HZ.out; omega, hb.2⟩) (fun b hb => hb.2)
      rwa [hln] at h
    have HW := Lib.hid hw
    rw [hln]
    clear hw HI hln
    try simp only [qA, qB, qC, Act.put, qD, qE, qF]
    refine wpAnyH_take (i := 12) (v := .slice xa (n + 1) xc) rfl (by kernel_rfl) (by kernel_rfl) (by kernel_rfl) (fun _ _ _ h => h) (Or.inl ⟨by rfl, fun z hz => ?_⟩) hS1 ?_
    · obtain ⟨⟨⟨z1, z2⟩, z3⟩, z4, z5⟩ := hz
      go_simp
    try simp only [qA, qB, qC, Act.put, qD, qE, qF]
    refine wpAnyH_take (i := 13) (v := .bool true) rfl (by kernel_rfl) (by kernel_rfl) (by kernel_rfl) (fun _ _ _ h => h) (Or.inl ⟨by rfl, fun z hz => ?_⟩) hS1 ?_
    · obtain ⟨⟨⟨z1, z2⟩, z3⟩, z4, z5⟩ := hz
      go_simp
    try simp only [qA, qB, qC, Act.put, qD, qE, qF]
    refine wpAnyH_done (by kernel_rfl) ?_ _
    clear hS0 hS1 HS3
    go_wp2
    go_ret2
    rw [HUNN.out]
    exact ⟨_, rfl, HW.out, HB5.out⟩
  · rw [hbk] at E1
    have E1' : bits .and .i64 ((m : Int) / 2 ^ k) 1 = 1 := E1
    have hun : P.into (k : Int) o = none := by rw [HUN.out, hbk]; rfl
    have HUNN := Lib.hid hun
    clear E1 E3 hbk hun HUN
    refine wpAnyH_take (i := 18) (v := .int .i64 1) rfl (by kernel_rfl) (by kernel_rfl) (by kernel_rfl) (fun _ _ _ h => h) (Or.inl ⟨by rfl, fun z hz => ?_⟩) hS2 ?_
    · obtain ⟨⟨⟨z1, z2⟩, z3⟩, z4, z5⟩ := hz
      go_simp
    try simp only [qA, qB, qC, Act.put, qD, qE, qF]
    refine wpAnyH_take (i := 19) (v := .bool true) rfl (by kernel_rfl) (by kernel_rfl) (by kernel_rfl) (fun _ _ _ h => h) (Or.inl ⟨by rfl, fun z hz => ?_⟩) hS2 ?_
    · obtain ⟨⟨⟨z1, z2⟩, z3⟩, z4, z5⟩ := hz
      go_simp
    try simp only [qA, qB, qC, Act.put, qD, qE, qF]
    refine wpAnyH_take (i := 20) (v := .bool true) rfl (by kernel_rfl) (by kernel_rfl) (by kernel_rfl) (fun _ _ _ h => h) (Or.inl ⟨by rfl, fun z hz => ?_⟩) hS2 ?_
    · obtain ⟨⟨⟨z1, z2⟩, z3⟩, z4, z5⟩ := hz
      go_simp
    try simp only [qA, qB, qC, Act.put, qD, qE, qF]
    refine wpAnyH_done (by kernel_rfl) ?_ _
    clear hS0 hS1 hS2 HS
    go_wp2
    go_ret2
    rw [HUNN.out]
    exact ⟨_, rfl, ints_nil _ _, HB3.out⟩
def TxtPost (r : Option Str) (w : World) (e : Ending) (w' : World) : Prop := e = .returned (.tuple #[.string (S (r.getD [])), .bool r.isSome]) ∧ Below w.heap.size w w'
theorem foldedText (t : Str) (k : Int) (s : Str) (w : World) (ht : t.length ≤ 2 ^ 29) (hf : P.fold (k, s) = true) (hE : Env w) :
    Calls Tryz.prog 148 #[.string (S t), .agg #[.int .i64 k, .string (S s)]] w (TxtPost (P.foldT t (k, s)) w) := by
  obtain ⟨k', rfl, hk1, hk, hs8⟩ := P.fold_key hf
  have hb0 : Below w.heap.size w (w.alloc (.cells #[.int .i64 (k' : Int), .string (S s)] 115)) := (Below.refl _ _).alloc (Nat.le_refl _) _
  have HB0 := Lib.hid hb0; have HE := Lib.hid (hE.below hb0 hE.size); clear hb0
  have HF := Lib.hid hf
  have n1 : ¬ 9223372036854775807 < t.length + 3 := by omega
  have n2 : ¬ 9223372036854775807 < t.length + 3 + s.length := by omega
  have n3 : ¬ 9223372036854775807 < t.length + 3 + s.length + 1 := by omega
  have HFT := Lib.hid (show P.foldT t ((k' : Int), s) = if (P.transS t).2 && (P.transS (P.foldTxt t ((k' : Int), s))).2 then some (P.foldTxt t ((k' : Int), s)) else none from rfl)
  have HTL := Lib.hid (show (P.foldTxt t ((k' : Int), s)).length ≤ 2 ^ 30 by unfold P.foldTxt; simp; omega)
  have hfx : t ++ 32 :: 123 :: 94 :: (s ++ [125]) = P.foldTxt t ((k' : Int), s) := by unfold P.foldTxt; simp
  have HFX := Lib.hid hfx
  clear hf hfx
  go_enter Tryz.func148, Tryz.ntmps148
  go_wp2_with fail
  rw [HFX.out]
  refine (isFold _ s _ (by omega)).mono ?_
  rintro e w1 ⟨rfl, hb⟩
  rw [HF.out]
  have HB1 := Lib.hid (HB0.out.trans (hb.mono HB0.out.size)); have HE1 := Lib.hid (HE.out.below hb HE.out.size)
  clear hb HB0 HE HFX
  generalize P.foldTxt t ((k' : Int), s) = x at *
  go_wp2_with fail
  refine (isTranslation t _ (by omega) HE1.out).mono ?_
  rintro e w2 ⟨rfl, hb⟩
  have HB2 := Lib.hid (HB1.out.trans (hb.mono HB1.out.size)); have HE2 := Lib.hid (HE1.out.below hb HE1.out.size)
  clear hb HB1 HE1
  obtain ⟨q1, hq1⟩ : ∃ q, (P.transS t).2 = q := ⟨_, rfl⟩
  have HQ1 := Lib.hid hq1
  rw [hq1]
  clear hq1
  cases q1
  · have hr : P.foldT t ((k' : Int), s) = none := by rw [HFT.out, HQ1.out]; rfl
    have HR := Lib.hid hr
    clear hr
    go_wp2
    go_ret2
    rw [HR.out]
    exact ⟨rfl, HB2.out⟩
  · go_wp2_with fail
    refine (isTranslation x _ HTL.out HE2.out).mono ?_
    rintro e w3 ⟨rfl, hb⟩
    have HB3 := Lib.hid (HB2.out.trans (hb.mono HB2.out.size))
    clear hb HB2 HE2
    obtain ⟨q2, hq2⟩ : ∃ q, (P.transS x).2 = q := ⟨_, rfl⟩
    have HQ2 := Lib.hid hq2
    rw [hq2]
    clear hq2
    cases q2
    · have hr : P.foldT t ((k' : Int), s) = none := by rw [HFT.out, HQ1.out, HQ2.out]; rfl
      have HR := Lib.hid hr
      clear hr
      go_wp2
      go_ret2
      rw [HR.out]
      exact ⟨rfl, HB3.out⟩
    · have hr : P.foldT t ((k' : Int), s) = some x := by rw [HFT.out, HQ1.out, HQ2.out]; rfl
      have HR := Lib.hid hr
      clear hr
      go_wp2
      go_ret2
      rw [HR.out]
      exact ⟨rfl, HB3.out⟩
/-- how the look-up with folds stands -/
def LkPost (r : Str × Int × Bool) (w : World) (e : Ending) (w' : World) : Prop := e = .returned (.tuple #[.string (S r.1), .int .i64 r.2.1, .bool r.2.2]) ∧ Below w.heap.size w w'
theorem textAt_len {o : List Int} {l : P.Dic} (h : ∀ e ∈ l, e.2.length ≤ 2 ^ 29) : (P.textAt o l).length ≤ 2 ^ 29 := by
  cases hh : P.hasE o l
  · rw [P.textAt_not hh]; simp
  · exact h _ (P.mem_textAt hh)
theorem lookupFolded (dv fv ov : Value) (d : P.Dic) (l : P.Folds) (o : List Int) (w : World) (hd : EntR w dv d) (hf : FldR w fv l) (ho : IntR w ov o) (hs : ∀ e ∈ d, e.2.length ≤ 2 ^ 29) (hol : P.outline o = true) (hfo : P.foldsOk l = true) (hE : Env w) :
    Calls Tryz.prog 81 #[.agg #[dv], fv, ov] w (LkPost (P.lookF d l o) w) := by
  have hb0 : Below w.heap.size w (w.alloc (.cells #[dv] 26)) := (Below.refl _ _).alloc (Nat.le_refl _) _
  have HD := Lib.hid hd; have HFR := Lib.hid hf; have HO := Lib.hid ho; have HB0 := Lib.hid hb0; have HE := Lib.hid hE
  have HX := Lib.hid (DBx.new dv 26 w)
  have HOL := Lib.hid hol; have HS := Lib.hid hs
  have HFO := Lib.hid (show ∀ f ∈ l, P.fold f = true by unfold P.foldsOk at hfo; simp only [Bool.and_eq_true, List.all_eq_true] at hfo; exact hfo.2.1)
  clear hb0 hs hol hfo hE
  obtain ⟨ad, cap, rfl, _, _⟩ := hd
  obtain ⟨oa, oc, rfl, _, _⟩ := ho
  obtain ⟨fa, fc, rfl, ⟨hl45, _⟩, _, _⟩ := hf
  go_enter Tryz.func81, Tryz.ntmps81
  go_wp2_with fail
  refine (dicLookup _ _ d o _ (HD.out.below HB0.out) (HO.out.below HB0.out)).mono ?_
  rintro e w1 ⟨rfl, hb⟩
  have HB1 := Lib.hid (HB0.out.trans (hb.mono HB0.out.size)); have HX1 := Lib.hid (HX.out.below hb)
  clear hb HB0 HX
  have HLH := Lib.hid (fun h => P.lookF_has (d := d) (l := l) (o := o) h); have HLN := Lib.hid (fun h => P.lookF_not (d := d) (l := l) (o := o) h)
  obtain ⟨q, hq⟩ : ∃ q, P.hasE o d = q := ⟨_, rfl⟩
  have HQ := Lib.hid hq
  obtain ⟨tx, htx⟩ : ∃ tx, P.textAt o d = tx := ⟨_, rfl⟩
  rw [hq, htx]
  have HTX := Lib.hid htx
  clear hq htx
  cases q
  · have HL := Lib.hid (HLN.out HQ.out)
    clear HLH HLN HTX
    go_wp2_with fail
    go_loopw [29] (fun i wr => ∃ j : Nat, j ≤ l.length ∧ i = .int .i64 j ∧ P.lookG d o 0 l = P.lookG d o j (l.drop j) ∧ DBx w.heap.size (.slice ad d.length cap) wr ∧ Below w.heap.size w wr) (fun i _ => l.length - (intOf i).toNat)
    case atStart => exact ⟨0, by omega, rfl, rfl, HX1.out, HB1.out⟩
    case round =>
      clear HX1 HB1
      obtain ⟨j, hj, rfl, hlk, hbx, hb⟩ := hrel
      have HLK := Lib.hid hlk; have HBX := Lib.hid hbx; have HB := Lib.hid hb
      clear hlk hbx
      by_cases hlt : j < l.length
      · have i1 : (j : Int) < (l.length : Int) := by omega
        obtain ⟨g, p, hga, hgl, c0, c1⟩ := (HFR.out.below hb).at j hlt
        subst hga
        have HFJ := Lib.hid (HFO.out l[j] (List.getElem_mem hlt))
        have HHIT := Lib.hid (fun x (h : P.hit d o l[j] = some x) => P.lookG_hit hlt h)
        have HMIS := Lib.hid (fun (h : P.hit d o l[j] = none) => P.lookG_miss hlt h)
        have HHD := Lib.hid (show P.hit d o l[j] = (P.unf l[j].1 o).bind fun r => if P.hasE r d then P.foldT (P.textAt r d) l[j] else none from rfl)
        generalize l[j] = en at *
        obtain ⟨k, s⟩ := en
        obtain ⟨k, rfl, hk1, hk2, hs8⟩ := P.fold_key HFJ.out
        simp only at HHD c0 c1
        have hba : Below wr.heap.size wr (wr.alloc (.cells #[.int .i64 (k : Int), .string (S s)] 115)) := (Below.refl _ _).alloc (Nat.le_refl _) _
        have HB2 := Lib.hid (hb.trans (hba.mono hb.size)); have HX2 := Lib.hid (HBX.out.below hba)
        have HF2 := Lib.hid (FBx.new (k : Int) s 115 wr)
        clear hb hba
        go_wp2_with fail
        refine (unfoldF k s _ o _ (HO.out.below HB2.out) HOL.out hk2).mono ?_
        rintro e w2 ⟨x, rfl, hI, hb⟩
        have HB3 := Lib.hid (HB2.out.trans (hb.mono HB2.out.size)); have HX3 := Lib.hid (HX2.out.below hb); have HF3 := Lib.hid (HF2.out.below hb)
        have HI := Lib.hid (Ints.read hI)
        clear hI hb c0 c1 HB2 HX2 HF2
        obtain ⟨r, hr⟩ : ∃ r, P.unf (k : Int) o = r := ⟨_, rfl⟩
        have HR := Lib.hid hr
        rw [hr] at HI ⊢
        clear hr
        obtain ⟨xa, xc, rfl, _, _⟩ := HI.out
        cases r with
        | none =>
          have HM := Lib.hid (HMIS.out (by rw [HHD.out, HR.out]; rfl))
          go_wp2
          go_roundw
          case rel => exact ⟨j + 1, by omega, by go_num, by rw [HLK.out, HM.out], HX3.out, HB3.out⟩
          case measure => simp [intOf]; omega
        | some r =>
          simp only [Option.isSome_some, Option.getD_some] at HI ⊢
          obtain ⟨b0, _⟩ := HX3.out
          go_wp2_with fail
          refine (dicLookup _ _ d r _ (HD.out.below HB3.out) HI.out).mono ?_
          rintro e w3 ⟨rfl, hb⟩
          have HB4 := Lib.hid (HB3.out.trans (hb.mono HB3.out.size)); have HX4 := Lib.hid (HX3.out.below hb); have HF4 := Lib.hid (HF3.out.below hb)
          clear hb b0 HB3 HX3 HF3 HI
          have HTL := Lib.hid (textAt_len (o := r) HS.out)
          obtain ⟨q, hq⟩ : ∃ q, P.hasE r d = q := ⟨_, rfl⟩
          have HQ2 := Lib.hid hq
          obtain ⟨tx, htx⟩ : ∃ tx, P.textAt r d = tx := ⟨_, rfl⟩
          have HT2 := Lib.hid htx
          rw [htx] at HTL
          rw [hq, htx]
          clear hq htx
          obtain ⟨⟨b0, b1⟩, _⟩ := HF4.out
          go_wp2_with fail
          refine (foldedText tx (k : Int) s _ HTL.out HFJ.out (HE.out.below HB4.out HE.out.size)).mono ?_
          rintro e w4 ⟨rfl, hb⟩
          have HB5 := Lib.hid (HB4.out.trans (hb.mono HB4.out.size)); have HX5 := Lib.hid (HX4.out.below hb)
          clear hb b0 b1 HB4 HX4 HF4
          have hhit : P.hit d o ((k : Int), s) = if q then P.foldT tx ((k : Int), s) else none := by rw [HHD.out, HR.out]; show (if P.hasE r d then P.foldT (P.textAt r d) ((k : Int), s) else none) = _; rw [HQ2.out, HT2.out]
          have HHH := Lib.hid hhit
          clear hhit
          obtain ⟨y, hy⟩ : ∃ y, P.foldT tx ((k : Int), s) = y := ⟨_, rfl⟩
          rw [hy] at HHH
          rw [hy]
          clear hy
          cases q
          · have HM := Lib.hid (HMIS.out HHH.out)
            go_wp2
            go_roundw
            case rel => exact ⟨j + 1, by omega, by go_num, by rw [HLK.out, HM.out], HX5.out, HB5.out⟩
            case measure => simp [intOf]; omega
          · cases y with
            | none =>
              have HM := Lib.hid (HMIS.out HHH.out)
              go_wp2
              go_roundw
              case rel => exact ⟨j + 1, by omega, by go_num, by rw [HLK.out, HM.out], HX5.out, HB5.out⟩
              case measure => simp [intOf]; omega
            | some y =>
              have HM := Lib.hid (HHIT.out y HHH.out)
              simp only [Option.isSome_some, Option.getD_some]
              go_wp2
              go_ret3
              exact ⟨by rw [HL.out, HLK.out, HM.out]; rfl, HB5.out⟩
      · have HEND := Lib.hid (P.lookG_end (d := d) (o := o) (l := l) (j := j) (by omega))
        clear hb
        go_wp2
        go_ret3
        exact ⟨by rw [HL.out, HLK.out, HEND.out]; rfl, HB.out⟩
  · have HL := Lib.hid (HLH.out HQ.out)
    clear HLN
    go_wp2
    go_ret3
    exact ⟨by rw [HL.out, HTX.out]; rfl, HB1.out⟩
end Go.Proofs.YtmlklnimoknojaaGreatDoor
