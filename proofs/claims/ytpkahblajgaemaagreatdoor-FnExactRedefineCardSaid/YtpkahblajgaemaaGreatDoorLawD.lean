/- Walks: the program's copy of an entry, and of a dictionary that is in order. -/
import Derived.Deep.DeepCutAuto
import Derived.Test.YtpkahblajgaemaaGreatDoorMemE
import Derived.Test.YtpkahblajgaemaaGreatDoorSortD
import Derived.Test.YtpkahblajgaemaaGreatDoorMemD
import Derived.Test.YtpkahblajgaemaaGreatDoorOutD
import Derived.Test.YtpkahblajgaemaaGreatDoorValD
namespace Go.Proofs.YtpkahblajgaemaaGreatDoor
section
open Go Go.RowKit
set_option maxHeartbeats 2000000
set_option maxRecDepth 100000
def KP (W : Nat) (x : Value) (t : Str) (v : World) : Prop :=
  v.cell? ⟨W, 0, none⟩ = some x ∧ v.cell? ⟨W, 1, none⟩ = some (.string (S t)) ∧ v.cell? ⟨W + 1, 0, none⟩ = some (.slice none 0 0) ∧ v.cell? ⟨W + 1, 1, none⟩ = some (.string (S [])) ∧ v.frozen? ⟨W + 1, 0, none⟩ = false ∧ v.frozen? ⟨W + 1, 1, none⟩ = false
theorem KP.step {W : Nat} {x : Value} {t : Str} {v v' : World} (h : KP W x t v) (hb : Below (W + 2) v v') : KP W x t v' := by
  obtain ⟨h1, h2, h3, h4, h5, h6⟩ := h
  exact ⟨(hb.cell (p := ⟨W, 0, none⟩) (by show W < W + 2; omega)).trans h1, (hb.cell (p := ⟨W, 1, none⟩) (by show W < W + 2; omega)).trans h2, (hb.cell (p := ⟨W + 1, 0, none⟩) (by show W + 1 < W + 2; omega)).trans h3, (hb.cell (p := ⟨W + 1, 1, none⟩) (by show W + 1 < W + 2; omega)).trans h4,
    (hb.frozen (p := ⟨W + 1, 0, none⟩) (by show W + 1 < W + 2; omega)).trans h5, (hb.frozen (p := ⟨W + 1, 1, none⟩) (by show W + 1 < W + 2; omega)).trans h6⟩
theorem copied (u : Value) (l : List Int) (t : Str) (w : World) (hu : IntR w u l) (hl : l.length ≤ 2 ^ 30) :
    Calls Tryz.prog 147 #[.agg #[u, .string (S t)]] w (EntPost l t w) := by
  have hb0 : Below w.heap.size w ((w.alloc (.cells #[u, .string (S t)] 47)).alloc (.cells #[.slice none 0 0, .string (S [])] 47)) :=
    ((Below.refl w.heap.size w).alloc (Nat.le_refl _) _).alloc (by simp) _
  have HU := Lib.hid ((hu.below hb0).below (Below.refl _ _).drew)
  have HB0 := Lib.hid hb0; clear hb0
  obtain ⟨ad, cap, rfl, _, _⟩ := hu
  have HS := Lib.hid (show KP w.heap.size (.slice ad l.length cap) t (((w.alloc (.cells #[.slice ad l.length cap, .string (S t)] 47)).alloc (.cells #[.slice none 0 0, .string (S [])] 47)).drew) from
    KP.step (show KP w.heap.size (.slice ad l.length cap) t ((w.alloc (.cells #[.slice ad l.length cap, .string (S t)] 47)).alloc (.cells #[.slice none 0 0, .string (S [])] 47)) by refine ⟨?_, ?_, ?_, ?_, ?_, ?_⟩ <;> go_simp) (Below.refl _ _).drew)
  go_enter Tryz.func147, Tryz.ntmps147
  go_upto_region 1 with fail
  refine Left.region [6] (S := KP w.heap.size (.slice ad l.length cap) t) (by kernel_rfl) HS.out (fun hS0 => ?_)
  refine Left.take (i := 0) (v := .pointer (some ⟨w.heap.size, 0, none⟩)) rfl (by kernel_rfl) (by kernel_rfl) (by kernel_rfl) (by kernel_rfl) (fun _ _ _ h => h) (Or.inl ⟨by rfl, fun z hz => ?_⟩) hS0 ?_
  · obtain ⟨z1, z2, z3, z4, z5, z6⟩ := hz
    go_simp
  try simp only [qA, qB, Act.put, qD, qE, qF]
  refine Left.take (i := 1) (v := .slice ad l.length cap) rfl (by kernel_rfl) (by kernel_rfl) (by kernel_rfl) (by kernel_rfl) (fun _ _ _ h => h) (Or.inl ⟨by rfl, fun z hz => ?_⟩) hS0 ?_
  · obtain ⟨z1, z2, z3, z4, z5, z6⟩ := hz
    go_simp
  try simp only [qA, qB, qC, Act.put, qD, qE, qF]
  refine Left.take (i := 3) (v := .pointer (some ⟨w.heap.size, 1, none⟩)) rfl (by kernel_rfl) (by kernel_rfl) (by kernel_rfl) (by kernel_rfl) (fun _ _ _ h => h) (Or.inl ⟨by rfl, fun z hz => ?_⟩) hS0 ?_
  · obtain ⟨z1, z2, z3, z4, z5, z6⟩ := hz
    go_simp
  try simp only [qA, qB, qC, Act.put, qD, qE, qF]
  refine Left.take (i := 4) (v := .string (S t)) rfl (by kernel_rfl) (by kernel_rfl) (by kernel_rfl) (by kernel_rfl) (fun _ _ _ h => h) (Or.inl ⟨by rfl, fun z hz => ?_⟩) hS0 ?_
  · obtain ⟨z1, z2, z3, z4, z5, z6⟩ := hz
    go_simp
  try simp only [qA, qB, qC, Act.put, qD, qE, qF]
  refine Left.ready (rs := [2]) (by kernel_rfl) (by simp) ?_
  refine Nexts.cons rfl (fun K hK => ?_) Nexts.nil
  go_simp
  refine (copyOf _ l _ HU.out hl).mono ?_
  rintro e v1 ⟨x1, rfl, hI, hb1⟩
  have HI := Lib.hid hI
  have HZ1 := Lib.hid (show w.heap.size + 2 ≤ v1.heap.size by have := hb1.size; simp at this; omega)
  have HB1 := Lib.hid (show Below w.heap.size w v1 from HB0.out.trans ((Below.refl _ _).drew.trans (hb1.mono (by simp; omega))))
  obtain ⟨xd, xc, rfl, _, _⟩ := hI
  refine on_held hK (by decide) (hS0.step (hb1.mono (by simp))) (fun hS1 => ?_)
  clear hK K hb1
  try simp only [qA, qB, qC, Act.put, qD, qE, qF]
  refine Left.take (i := 5) (v := .agg #[.slice xd l.length xc, .string (S t)]) rfl (by kernel_rfl) (by kernel_rfl) (by kernel_rfl) (by kernel_rfl) (fun _ _ _ h => h) (Or.inl ⟨by rfl, fun z hz => ?_⟩) hS1 ?_
  · obtain ⟨z1, z2, z3, z4, z5, z6⟩ := hz
    go_simp
  try simp only [qA, qB, qC, Act.put, qD, qE, qF]
  refine Left.ready (rs := [6]) (by kernel_rfl) (by simp) ?_
  refine Nexts.cons rfl (fun K hK => ?_) Nexts.nil
  obtain ⟨k1, k2, k3, k4, k5, k6⟩ := hS1
  go_simp
  refine on_last hK (by decide) ?_
  clear hK K
  try simp only [qA, qB, qC, Act.put, qD, qE, qF]
  refine Left.done (by kernel_rfl) ?_ _
  clear hS0 HS HU
  go_wp2
  refine bodyPost_ret (v := .agg #[.slice xd l.length xc, .string (S t)]) (by simp [results, Tryz.results147, go_sem, k3, k4]) rfl ⟨_, rfl, ?_, ?_⟩
  · refine (HI.out.stand (X := fun b => b < w.heap.size + 2) intE_ok (((Chg.refl _ v1).setCell ?_ _).setCell ?_ _) ?_).wide ?_ ?_
    · simp
    · simp
    · intro b hb; simp [Bet] at hb ⊢; omega
    · intro b hb; simp [Bet, World.setCell] at hb ⊢; omega
    · intro b hb; exact hb.2
  · exact (HB1.out.setCell (by simp) _).setCell (by simp) _
end
end Go.Proofs.YtpkahblajgaemaaGreatDoor
namespace Go.Proofs.YtpkahblajgaemaaGreatDoor
open Go Go.RowKit
def P.kept (ok : Bool) (l : P.Dic) : P.Dic := if ok then l else []
structure Small (l : P.Dic) : Prop where
  len : l.length ≤ 2 ^ 20
  outs : ∀ e ∈ l, e.1.length ≤ 2 ^ 20
  texts : ∀ e ∈ l, e.2.length ≤ 2 ^ 30
def NBx (b : Nat) (v : World) : Prop := v.cell? ⟨b, 0, none⟩ = some (.slice none 0 0) ∧ v.frozen? ⟨b, 0, none⟩ = false ∧ b < v.heap.size
theorem NBx.stand {b : Nat} {v v' : World} {X : Blk} (h : NBx b v) (hc : Chg X v v') (hX : ¬ X b) : NBx b v' :=
  ⟨(hc.cell (p := ⟨b, 0, none⟩) h.2.2 hX).trans h.1, (hc.frozen (p := ⟨b, 0, none⟩) h.2.2 hX).trans h.2.1, Nat.lt_of_lt_of_le h.2.2 hc.size⟩
theorem NBx.below {b : Nat} {v v' : World} (h : NBx b v) (hb : Below v.heap.size v v') : NBx b v' := h.stand (Below.chg hb fun _ => False) fun h => h
theorem NBx.new (v : World) (t : TypeId) : NBx v.heap.size (v.alloc (.cells #[.slice none 0 0] t)) := by
  refine ⟨?_, ?_, ?_⟩ <;> go_simp
end Go.Proofs.YtpkahblajgaemaaGreatDoor
namespace Go.Proofs.YtpkahblajgaemaaGreatDoor
section
open Go Go.RowKit
set_option maxHeartbeats 1000000
set_option maxRecDepth 100000
def IntA (v : World) (u : Value) (l : List Int) : Prop :=
  ∃ (ad : Option Addr) (cap : Nat), u = .slice ad l.length cap ∧ (l.length ≤ 9223372036854775807 ∧ l.length ≤ cap) ∧ (ad = none → cap = 0) ∧ (l = [] ∨ ∃ g o, ad = some ⟨g, o, none⟩ ∧ g < v.heap.size ∧ ∀ (j : Nat) (h : j < l.length), v.cell? ⟨g, o + j, none⟩ = some (.int .i64 (l[j]'h)))
def EntA (v : World) (u : Value) (l : P.Dic) : Prop :=
  ∃ (ad : Option Addr) (cap : Nat), u = .slice ad l.length cap ∧ (l.length ≤ 9223372036854775807 ∧ l.length ≤ cap) ∧ (ad = none → cap = 0) ∧ (l = [] ∨ ∃ g o, ad = some ⟨g, o, none⟩ ∧ g < v.heap.size ∧ ∀ (j : Nat) (h : j < l.length), ∃ x, v.cell? ⟨g, o + j * 2, none⟩ = some x ∧ v.cell? ⟨g, o + j * 2 + 1, none⟩ = some (.string (S (l[j]'h).2)) ∧ IntA v x (l[j]'h).1)
theorem IntA.read {v : World} {u : Value} {l : List Int} (h : IntA v u l) (hl : l.length ≤ 2 ^ 20) : IntR v u l := by
  obtain ⟨ad, cap, h1, h0, h2, h3⟩ := h
  exact ⟨ad, cap, h1, by omega, h2, h3⟩
theorem EntA.read {v : World} {u : Value} {l : P.Dic} (h : EntA v u l) (hl : l.length ≤ 2 ^ 20) (ho : ∀ e ∈ l, e.1.length ≤ 2 ^ 20) : EntR v u l := by
  obtain ⟨ad, cap, h1, h0, h2, h3⟩ := h
  refine ⟨ad, cap, h1, by omega, h2, h3.imp id ?_⟩
  rintro ⟨g, o, h4, h5, h6⟩
  refine ⟨g, o, h4, h5, fun j hj => ?_⟩
  obtain ⟨x, a, b, c⟩ := h6 j hj
  exact ⟨x, a, b, c.read (ho _ (List.getElem_mem hj))⟩
theorem IntA.below {v v' : World} {u : Value} {l : List Int} (h : IntA v u l) (hb : Below v.heap.size v v') : IntA v' u l := by
  obtain ⟨ad, cap, h1, h2, hn, h3⟩ := h
  refine ⟨ad, cap, h1, h2, hn, h3.imp id ?_⟩
  rintro ⟨g, o, h4, h5, h6⟩
  exact ⟨g, o, h4, Nat.lt_of_lt_of_le h5 hb.size, fun j hj => (hb.cell (p := ⟨g, _, none⟩) h5).trans (h6 j hj)⟩
theorem EntA.below {v v' : World} {u : Value} {l : P.Dic} (h : EntA v u l) (hb : Below v.heap.size v v') : EntA v' u l := by
  obtain ⟨ad, cap, h1, h2, hn, h3⟩ := h
  refine ⟨ad, cap, h1, h2, hn, h3.imp id ?_⟩
  rintro ⟨g, o, h4, h5, h6⟩
  refine ⟨g, o, h4, Nat.lt_of_lt_of_le h5 hb.size, fun j hj => ?_⟩
  obtain ⟨x, a, b, c⟩ := h6 j hj
  exact ⟨x, (hb.cell (p := ⟨g, _, none⟩) h5).trans a, (hb.cell (p := ⟨g, _, none⟩) h5).trans b, c.below hb⟩
theorem EntA.at {v : World} {ad : Option Addr} {n cap : Nat} {l : P.Dic} (h : EntA v (.slice ad n cap) l) (j : Nat) (hj : j < l.length) : ∃ g o, ad = some ⟨g, o, none⟩ ∧ g < v.heap.size ∧ ∃ x, v.cell? ⟨g, o + j * 2, none⟩ = some x ∧ v.cell? ⟨g, o + j * 2 + 1, none⟩ = some (.string (S (l[j]'hj).2)) ∧ IntA v x (l[j]'hj).1 := by
  obtain ⟨ad', cap', he, _, _, h3⟩ := h
  injection he with h1 h2 h4
  rcases h3 with h3 | ⟨g, o, h5, h6, h7⟩
  · rw [h3] at hj; exact absurd hj (Nat.not_lt_zero _)
  · exact ⟨g, o, h1.trans h5, h6, h7 j hj⟩
def SzPost (left size : Int) (w : World) (e : Ending) (w' : World) : Prop := (∃ r : Int, e = .returned (.int .i64 r) ∧ -1 ≤ r ∧ (0 ≤ r → r = left - size)) ∧ Below w.heap.size w w'
theorem szIntS (u : Value) (l : List Int) (left : Int) (w : World) (hu : IntA w u l) (h0 : 0 ≤ left) (h1 : left ≤ 2 ^ 20) :
    Calls Tryz.prog 84 #[u, .int .i64 left] w (SzPost left l.length w) := by
  obtain ⟨ad, cap, rfl, hl, _⟩ := hu
  by_cases hlt : left - (l.length : Int) < 0
  · go_enter Tryz.func84, Tryz.ntmps84
    go_wp2
    go_ret
    exact ⟨⟨-1, rfl, by omega, by omega⟩, Below.refl _ _⟩
  · go_enter Tryz.func84, Tryz.ntmps84
    go_wp2
    go_ret
    exact ⟨⟨_, rfl, by omega, by omega⟩, Below.refl _ _⟩
theorem szEntry (u : Value) (l : List Int) (t : Str) (left : Int) (w : World) (hu : IntA w u l) (ht : t.length ≤ 9223372036854775807) (h0 : 0 ≤ left) (h1 : left ≤ 2 ^ 20) :
    Calls Tryz.prog 50 #[.agg #[u, .string (S t)], .int .i64 left] w (SzPost left (l.length + t.length) w) := by
  have hb0 := (Below.refl w.heap.size w).alloc (Nat.le_refl _) (.cells #[u, .string (S t)] 79)
  have HU := Lib.hid (hu.below hb0); have HB0 := Lib.hid hb0; clear hb0
  obtain ⟨ad, cap, rfl, hl, _⟩ := hu
  go_enter Tryz.func50, Tryz.ntmps50
  go_wp2_with fail
  refine (szIntS _ l left _ HU.out h0 h1).mono ?_
  rintro e w1 ⟨⟨r, rfl, hr1, hr2⟩, hb⟩
  have hz := grew0 hb
  obtain ⟨hcc, _⟩ := bcell hb
  have c1 : w1.cell? ⟨w.heap.size, 1, none⟩ = some (.string (S t)) := by rw [hcc _ _ (by simp)]; go_simp
  have HB1 := Lib.hid (HB0.out.trans (hb.mono (by simp)))
  clear hb hcc
  have HR := Lib.hid hr2; clear hr2
  by_cases hlt : r < 0
  · go_wp2
    go_ret
    exact ⟨⟨-1, rfl, by omega, by omega⟩, HB1.out⟩
  · have hr3 : r ≤ 2 ^ 20 := by have := HR.out (by omega); omega
    have hr0 : 0 ≤ r := by omega
    by_cases hlt2 : r - (t.length : Int) < 0
    · go_wp2
      go_ret
      exact ⟨⟨-1, rfl, by omega, by omega⟩, HB1.out⟩
    · go_wp2
      go_ret
      exact ⟨⟨_, rfl, by omega, fun _ => by have := HR.out hr0; omega⟩, HB1.out⟩
theorem szEntryS (u : Value) (l : P.Dic) (left : Int) (w : World) (hu : EntA w u l) (ht : ∀ e ∈ l, e.2.length ≤ 9223372036854775807) (h0 : 0 ≤ left) (h1 : left ≤ 2 ^ 20) :
    Calls Tryz.prog 83 #[u, .int .i64 left] w (SzPost left (l.length + P.sizeE l) w) := by
  have HU := Lib.hid hu
  have HT := Lib.hid ht; clear ht
  obtain ⟨ad, cap, rfl, hl, _⟩ := hu
  by_cases hlt : left - (l.length : Int) < 0
  · go_enter Tryz.func83, Tryz.ntmps83
    go_wp2
    go_ret
    exact ⟨⟨-1, rfl, by omega, by omega⟩, Below.refl _ _⟩
  · go_enter Tryz.func83, Tryz.ntmps83
    go_wp2
    go_loopw [1, 5] (fun kk i wr => ∃ (j : Nat) (r : Int), j ≤ l.length ∧ i = .int .i64 j ∧ kk = .int .i64 r ∧ 0 ≤ r ∧ r = left - l.length - P.sizeE (l.take j) ∧ Below w.heap.size w wr) (fun _ i _ => l.length - (intOf i).toNat)
    case atStart => exact ⟨0, _, Nat.zero_le _, rfl, rfl, by omega, by simp [P.sizeE], Below.refl _ _⟩
    case round =>
      obtain ⟨j, r, hj, rfl, rfl, hr0, hr, hb⟩ := hrel
      have HR := Lib.hid hr; have HB := Lib.hid hb
      have hsn := P.sizeE_nonneg (l.take j)
      have hr1 : r ≤ 2 ^ 20 := by omega
      clear hr hsn
      by_cases hlj : j < l.length
      · obtain ⟨g, o, rfl, hgs, x, c0, c1, hx⟩ := (HU.out.below hb).at j hlj
        have htl := HT.out _ (List.getElem_mem hlj)
        have HSN := Lib.hid (show P.sizeE (l.take (j + 1)) = P.sizeE (l.take j) + l[j].1.length + l[j].2.length by rw [take_snoc l j hlj, P.sizeE_snoc])
        have HX := Lib.hid hx
        obtain ⟨xd, xc, rfl, hxl, _⟩ := hx
        have hbz := hb.size
        generalize l[j] = en at *
        obtain ⟨eo, et⟩ := en
        simp only at hxl HX HSN c1 htl
        have i1 : (j : Int) < (l.length : Int) := by omega
        clear hb
        go_wp2_with fail
        refine (szEntry _ eo et r _ HX.out htl hr0 hr1).mono ?_
        rintro e w1 ⟨⟨r', rfl, hr2, hr3⟩, hb⟩
        have HR3 := Lib.hid hr3
        have HB2 := Lib.hid (HB.out.trans (hb.mono hbz))
        clear hr3 hb
        by_cases hneg : r' < 0
        · go_wp2
          go_ret
          exact ⟨⟨-1, rfl, by omega, by omega⟩, HB2.out⟩
        · go_wp2
          go_roundw
          case rel => exact ⟨j + 1, r', by omega, by go_num, rfl, by omega, by have := HR3.out (by omega); have := HR.out; have := HSN.out; omega, HB2.out⟩
          case measure => simp [intOf]; omega
      · have HE := Lib.hid (show r = left - (l.length + P.sizeE l) by have := HR.out; rw [List.take_of_length_le (by omega)] at this; omega)
        clear hb
        go_wp2
        go_ret
        exact ⟨⟨r, rfl, by omega, fun _ => HE.out⟩, HB.out⟩
theorem szDictionary (u : Value) (l : P.Dic) (left : Int) (w : World) (hu : EntA w u l) (ht : ∀ e ∈ l, e.2.length ≤ 9223372036854775807) (h0 : 0 ≤ left) (h1 : left ≤ 2 ^ 20) :
    Calls Tryz.prog 28 #[.agg #[u], .int .i64 left] w (SzPost left (l.length + P.sizeE l) w) := by
  have hb0 := (Below.refl w.heap.size w).alloc (Nat.le_refl _) (.cells #[u] 57)
  have HU := Lib.hid (hu.below hb0); have HB0 := Lib.hid hb0; clear hb0
  have HT := Lib.hid ht; clear ht
  obtain ⟨ad, cap, rfl, hl, _⟩ := hu
  go_enter Tryz.func28, Tryz.ntmps28
  go_wp2_with fail
  refine (szEntryS _ l left _ HU.out HT.out h0 h1).mono ?_
  rintro e w1 ⟨⟨r, rfl, hr1, hr2⟩, hb⟩
  have HB1 := Lib.hid (HB0.out.trans (hb.mono (by simp)))
  have HR := Lib.hid hr2; clear hr2 hb
  by_cases hlt : r < 0
  · go_wp2
    go_ret
    exact ⟨⟨-1, rfl, by omega, by omega⟩, HB1.out⟩
  · go_wp2
    go_ret
    exact ⟨⟨r, rfl, by omega, HR.out⟩, HB1.out⟩
end
section
open Go Go.RowKit
def Box1 (b : Nat) (x : Value) (v : World) : Prop := v.cell? ⟨b, 0, none⟩ = some x ∧ b < v.heap.size
theorem Box1.stand {b : Nat} {x : Value} {v v' : World} {X : Blk} (h : Box1 b x v) (hc : Chg X v v') (hX : ¬ X b) : Box1 b x v' :=
  ⟨(hc.cell (p := ⟨b, 0, none⟩) h.2 hX).trans h.1, Nat.lt_of_lt_of_le h.2 hc.size⟩
theorem Box1.below {b : Nat} {x : Value} {v v' : World} (h : Box1 b x v) (hb : Below v.heap.size v v') : Box1 b x v' := h.stand (Below.chg hb fun _ => False) fun h => h
theorem Box1.new (x : Value) (t : TypeId) (v : World) : Box1 v.heap.size x (v.alloc (.cells #[x] t)) := ⟨by go_simp, by simp⟩
theorem small_of {l : P.Dic} (h : (l.length : Int) + P.sizeE l ≤ 1048576) : Small l := by
  have h0 := P.sizeE_nonneg l
  refine ⟨by omega, fun e he => ?_, fun e he => ?_⟩
  · have := P.sizeE_mem he; omega
  · have := P.sizeE_mem he; omega
theorem Chg.belowB {X : Blk} {B : Nat} {a v v' : World} (h : Below B a v) (hc : Chg X v v') (hB : B ≤ v.heap.size) (hX : ∀ b, X b → B ≤ b) : Below B a v' := h.trans (hc.below hB hX)
end
end Go.Proofs.YtpkahblajgaemaaGreatDoor
