/- Walks: segmentation by longest match (program). -/
import Derived.Deep.DeepCutAuto
import Derived.Deep.RegionHeld
import Derived.BigQuiet
import Derived.IntWalk
import Derived.Test.YtmlklnimoknojaaGreatDoorPlainFmt
import Derived.Test.YtmlklnimoknojaaGreatDoorSpellI
import Derived.Test.YtmlklnimoknojaaGreatDoorWalkT
import Derived.Test.YtmlklnimoknojaaGreatDoorEItems
import Derived.Laws.BitsLemmas
namespace Go.Proofs.YtmlklnimoknojaaGreatDoor
open Go Go.RowKit
set_option maxHeartbeats 4000000
set_option maxRecDepth 100000
theorem IntR.cut {v : World} {g o cap : Nat} {l : List Int} (h : IntR v (.slice (some ⟨g, o, none⟩) l.length cap) l) {a k : Nat} (hk : a + k ≤ l.length) (c : Nat) (hc : k ≤ c) : IntR v (.slice (some ⟨g, o + a, none⟩) k c) ((l.drop a).take k) := by
  obtain ⟨ad', cap', he, h1, hn, h3⟩ := h
  injection he with e1 e2 e3
  subst e1 e3
  have hlk : ((l.drop a).take k).length = k := by rw [List.length_take, List.length_drop]; omega
  refine ⟨_, c, by rw [hlk], by omega, (fun h => by cases h), ?_⟩
  rcases h3 with h3 | ⟨g', o', h4, h5, h6⟩
  · left; rw [h3]; simp
  · injection h4 with h4
    injection h4 with h7 h8
    subst h7 h8
    refine .inr ⟨_, _, rfl, h5, fun j hj => ?_⟩
    have hj' : a + j < l.length := by omega
    rw [List.getElem_take, List.getElem_drop, Nat.add_assoc]
    exact h6 (a + j) hj'
def PcPost (p : P.Pc) (w : World) (e : Ending) (w' : World) : Prop := e = .returned (.agg #[.int .i64 p.1.1, .int .i64 p.1.2, .string (S p.2)]) ∧ Below w.heap.size w w'
def PcBx (b : Nat) (v : World) : Prop := v.cell? ⟨b, 0, none⟩ = some (.int .i64 0) ∧ v.cell? ⟨b, 1, none⟩ = some (.int .i64 0) ∧ v.cell? ⟨b, 2, none⟩ = some (.string (S [])) ∧ (v.frozen? ⟨b, 0, none⟩ = false ∧ v.frozen? ⟨b, 1, none⟩ = false ∧ v.frozen? ⟨b, 2, none⟩ = false) ∧ b < v.heap.size
theorem PcBx.below {b : Nat} {v v' : World} (h : PcBx b v) (hb : Below v.heap.size v v') : PcBx b v' := by
  obtain ⟨h1, h2, h3, ⟨h4, h5, h6⟩, h7⟩ := h
  have hc : Chg (fun _ => False) v v' := Below.chg hb _
  exact ⟨(hc.cell (p := ⟨b, 0, none⟩) h7 id).trans h1, (hc.cell (p := ⟨b, 1, none⟩) h7 id).trans h2, (hc.cell (p := ⟨b, 2, none⟩) h7 id).trans h3, ⟨(hc.frozen (p := ⟨b, 0, none⟩) h7 id).trans h4, (hc.frozen (p := ⟨b, 1, none⟩) h7 id).trans h5, (hc.frozen (p := ⟨b, 2, none⟩) h7 id).trans h6⟩, Nat.lt_of_lt_of_le h7 hb.size⟩
theorem matchAt (dv sv : Value) (l : P.Dic) (st : List Int) (a : Nat) (w : World) (hu : EntR w dv l) (hs : IntR w sv st) (ha : a < st.length) :
    Calls Tryz.prog 130 #[.agg #[dv], sv, .int .i64 a] w (PcPost (P.matchA l st a) w) := by
  have hb0 : Below w.heap.size w ((w.alloc (.cells #[dv] 26)).alloc (.cells #[.int .i64 0, .int .i64 0, .string (S [])] 148)) := ((Below.refl w.heap.size w).alloc (Nat.le_refl _) _).alloc (by simp) _
  have HB0 := Lib.hid hb0; have HU := Lib.hid hu; have HST := Lib.hid hs
  have HX := Lib.hid ((Box1.new dv 26 w).below ((Below.refl _ _).alloc (Nat.le_refl _) (.cells #[.int .i64 0, .int .i64 0, .string (S [])] 148)))
  have HR := Lib.hid (show PcBx (w.heap.size + 1) ((w.alloc (.cells #[dv] 26)).alloc (.cells #[.int .i64 0, .int .i64 0, .string (S [])] 148)) by refine ⟨?_, ?_, ?_, ⟨?_, ?_, ?_⟩, ?_⟩ <;> go_simp)
  clear hb0
  obtain ⟨ad, cap, rfl, _, _⟩ := hu
  obtain ⟨sd, sc, rfl, hsl, _⟩ := hs
  obtain ⟨g, o, hga, _⟩ := HST.out.at 0 (by omega)
  subst hga
  have i0 : (a : Int) < (st.length : Int) := by omega
  go_enter Tryz.func130, Tryz.ntmps130
  go_wp2_with fail
  go_loopw [7] (fun i wr => ∃ n : Nat, n ≤ 6 ∧ a + n ≤ st.length ∧ i = .int .i64 n ∧ P.matchA l st a = P.matchN l st a n ∧ Box1 w.heap.size (.slice ad l.length cap) wr ∧ PcBx (w.heap.size + 1) wr ∧ EntR wr (.slice ad l.length cap) l ∧ Below w.heap.size w wr) (fun i _ => (intOf i).toNat)
  case atStart => exact ⟨min 6 (st.length - a), Nat.min_le_left _ _, by omega, by congr 1; omega, rfl, HX.out, HR.out, HU.out.below HB0.out, HB0.out⟩
  case round =>
    clear HX HR HB0
    obtain ⟨n, hn6, hns, rfl, hbs, hbx, hpb, hen, hb⟩ := hrel
    have HBS := Lib.hid hbs; have HBX := Lib.hid hbx; have HPB := Lib.hid hpb; have HEN := Lib.hid hen; have HB := Lib.hid hb
    clear hbs hen
    obtain ⟨k0, k1⟩ := hbx
    by_cases hn1 : 1 ≤ n
    · have i1 : (1 : Int) ≤ (n : Int) := by omega
      have i2 : (a : Int) + (n : Int) ≤ (sc : Int) := by omega
      have i3 : ¬ sc = a := by omega
      have i4 : IntKind.i64.wrap ((a : Int) + (n : Int)) = (a : Int) + (n : Int) := by rw [IntKind.wrap_i64]; omega
      have i5 : (0 : Int) ≤ (a : Int) + (n : Int) := by omega
      have i6 : a ≤ ((a : Int) + (n : Int)).toNat := by omega
      have i7 : ((a : Int) + (n : Int)).toNat - a = n := by omega
      have hbd := (Below.refl wr.heap.size wr).drew
      have HBD := Lib.hid (hb.trans (hbd.mono hb.size)); have HXD := Lib.hid (HBX.out.below hbd); have HPD := Lib.hid (HPB.out.below hbd); have HED := Lib.hid (HEN.out.below hbd)
      have HFR := Lib.hid (IntR.cut HST.out hns (sc - a) (by omega))
      clear hb hbd hpb
      go_upto_region 4 with fail
      refine wp_region_held_drew (S := Box1 w.heap.size (.slice ad l.length cap)) (by kernel_rfl) HXD.out (fun hS0 => ?_)
      generalize wr.drew = v0 at *
      refine wpAnyH_take (i := 0) (v := .agg #[.slice ad l.length cap]) rfl (by kernel_rfl) (by kernel_rfl) (by kernel_rfl) (fun _ _ _ h => h) (Or.inl ⟨by rfl, fun z hz => ?_⟩) hS0 ?_
      · obtain ⟨z1, z2⟩ := hz
        go_simp
      try simp only [qA, qB, Act.put, qD, qE, qF]
      refine wpAnyH_take (i := 1) (v := .slice (some ⟨g, o, none⟩) st.length sc) rfl (by kernel_rfl) (by kernel_rfl) (by kernel_rfl) (fun _ _ _ h => h) (Or.inl ⟨by rfl, fun z hz => ?_⟩) hS0 ?_
      · obtain ⟨z1, z2⟩ := hz
        go_simp
      try simp only [qA, qB, qC, Act.put, qD, qE, qF]
      refine wpAnyH_take (i := 2) (v := .int .i64 a) rfl (by kernel_rfl) (by kernel_rfl) (by kernel_rfl) (fun _ _ _ h => h) (Or.inl ⟨by rfl, fun z hz => ?_⟩) hS0 ?_
      · obtain ⟨z1, z2⟩ := hz
        go_simp
      try simp only [qA, qB, qC, Act.put, qD, qE, qF]
      refine wpAnyH_take (i := 3) (v := .int .i64 a) rfl (by kernel_rfl) (by kernel_rfl) (by kernel_rfl) (fun _ _ _ h => h) (Or.inl ⟨by rfl, fun z hz => ?_⟩) hS0 ?_
      · obtain ⟨z1, z2⟩ := hz
        go_simp
      try simp only [qA, qB, qC, Act.put, qD, qE, qF]
      refine wpAnyH_take (i := 4) (v := .int .i64 n) rfl (by kernel_rfl) (by kernel_rfl) (by kernel_rfl) (fun _ _ _ h => h) (Or.inl ⟨by rfl, fun z hz => ?_⟩) hS0 ?_
      · obtain ⟨z1, z2⟩ := hz
        go_simp
      try simp only [qA, qB, qC, Act.put, qD, qE, qF]
      refine wpAnyH_take (i := 5) (v := .int .i64 ((a : Int) + (n : Int))) rfl (by kernel_rfl) (by kernel_rfl) (by kernel_rfl) (fun _ _ _ h => h) (Or.inl ⟨by rfl, fun z hz => ?_⟩) hS0 ?_
      · obtain ⟨z1, z2⟩ := hz
        go_simp
      try simp only [qA, qB, qC, Act.put, qD, qE, qF]
      refine wpAnyH_take (i := 6) (v := .slice (some ⟨g, o + a, none⟩) n (sc - a)) rfl (by kernel_rfl) (by kernel_rfl) (by kernel_rfl) (fun _ _ _ h => h) (Or.inl ⟨by rfl, fun z hz => ?_⟩) hS0 ?_
      · obtain ⟨z1, z2⟩ := hz
        go_simp
      try simp only [qA, qB, qC, Act.put, qD, qE, qF]
      refine wpAnyH_ready (rs := [7]) (by kernel_rfl) (by simp) ?_
      refine AllReadyH.cons rfl (fun K hK => ?_) AllReadyH.nil
      go_simp
      refine (dicLookup _ _ l ((st.drop a).take n) _ HED.out (HFR.out.below HBD.out)).mono ?_
      rintro e v1 ⟨rfl, hb⟩
      have HB4 := Lib.hid (HBD.out.trans (hb.mono HBD.out.size)); have HX4 := Lib.hid (HXD.out.below hb); have HP4 := Lib.hid (HPD.out.below hb); have HE4 := Lib.hid (HED.out.below hb)
      refine hK.out _ _ (hS0.below hb) (fun hS1 => ?_)
      clear hK K hb hS0
      try simp only [qA, qB, qC, Act.put, qD, qE, qF]
      have HT := Lib.hid (show P.hasE ((st.drop a).take n) l = true → P.matchA l st a = (((a : Int), (n : Int)), P.textAt ((st.drop a).take n) l) from fun h => by
        obtain ⟨m, rfl⟩ : ∃ m, n = m + 1 := ⟨n - 1, by omega⟩
        rw [HBS.out]; unfold P.matchN; rw [if_pos h])
      have HN := Lib.hid (show P.hasE ((st.drop a).take n) l = false → P.matchA l st a = P.matchN l st a (n - 1) from fun h => by
        obtain ⟨m, rfl⟩ : ∃ m, n = m + 1 := ⟨n - 1, by omega⟩
        rw [HBS.out]; conv => lhs; unfold P.matchN
        rw [if_neg (by rw [h]; decide)]; rfl)
      generalize P.textAt ((st.drop a).take n) l = tx at *
      generalize P.hasE ((st.drop a).take n) l = q at *
      refine wpAnyH_take (i := 8) (v := .tuple #[.string (S tx), .bool q]) rfl (by kernel_rfl) (by kernel_rfl) (by kernel_rfl) (fun _ _ _ h => h) (Or.inl ⟨by rfl, fun z hz => ?_⟩) hS1 ?_
      · obtain ⟨z1, z2⟩ := hz
        go_simp
      try simp only [qA, qB, qC, Act.put, qD, qE, qF]
      refine wpAnyH_take (i := 9) (v := .string (S tx)) rfl (by kernel_rfl) (by kernel_rfl) (by kernel_rfl) (fun _ _ _ h => h) (Or.inl ⟨by rfl, fun z hz => ?_⟩) hS1 ?_
      · obtain ⟨z1, z2⟩ := hz
        go_simp
      try simp only [qA, qB, qC, Act.put, qD, qE, qF]
      refine wpAnyH_take (i := 10) (v := .bool q) rfl (by kernel_rfl) (by kernel_rfl) (by kernel_rfl) (fun _ _ _ h => h) (Or.inl ⟨by rfl, fun z hz => ?_⟩) hS1 ?_
      · obtain ⟨z1, z2⟩ := hz
        go_simp
      try simp only [qA, qB, qC, Act.put, qD, qE, qF]
      refine wpAnyH_take (i := 11) (v := .string (S tx)) rfl (by kernel_rfl) (by kernel_rfl) (by kernel_rfl) (fun _ _ _ h => h) (Or.inl ⟨by rfl, fun z hz => ?_⟩) hS1 ?_
      · obtain ⟨z1, z2⟩ := hz
        go_simp
      try simp only [qA, qB, qC, Act.put, qD, qE, qF]
      refine wpAnyH_take (i := 12) (v := .bool q) rfl (by kernel_rfl) (by kernel_rfl) (by kernel_rfl) (fun _ _ _ h => h) (Or.inl ⟨by rfl, fun z hz => ?_⟩) hS1 ?_
      · obtain ⟨z1, z2⟩ := hz
        go_simp
      try simp only [qA, qB, qC, Act.put, qD, qE, qF]
      refine wpAnyH_done (by kernel_rfl) ?_ _
      clear hS1
      cases q
      · have HNN := Lib.hid (HN.out rfl)
        clear HT HN
        go_wp2
        go_roundw
        case rel => exact ⟨n - 1, by omega, by omega, by congr 1; omega, HNN.out, HX4.out, HP4.out, HE4.out, HB4.out⟩
        case measure => simp [intOf]; omega
      · have HTT := Lib.hid (HT.out rfl)
        clear HT HN
        obtain ⟨p0, p1, p2, ⟨p3, p4, p5⟩, p6⟩ := HP4.out
        go_wp2
        refine bodyPost_ret (v := .agg #[.int .i64 a, .int .i64 n, .string (S tx)]) (by simp [results, Tryz.results130, go_sem, p0, p1, p2]) rfl ⟨by rw [HTT.out], ?_⟩
        exact ((HB4.out.setCell (by simp) _).setCell (by simp) _).setCell (by simp) _
    · have i1 : ¬ (1 : Int) ≤ (n : Int) := by omega
      have HTT := Lib.hid (show P.matchA l st a = (((a : Int), 1), []) by rw [HBS.out, show n = 0 by omega]; rfl)
      clear hb
      obtain ⟨p0, p1, p2, ⟨p3, p4, p5⟩, p6⟩ := HPB.out
      go_wp2
      refine bodyPost_ret (v := .agg #[.int .i64 a, .int .i64 1, .string (S [])]) (by simp [results, Tryz.results130, go_sem, p0, p1, p2]) rfl ⟨by rw [HTT.out], ?_⟩
      exact ((HB.out.setCell (by simp) _).setCell (by simp) _).setCell (by simp) _
def pcells (l : List P.Pc) : List Value := l.flatMap fun p => [.int .i64 p.1.1, .int .i64 p.1.2, .string (S p.2)]
theorem pcells_snoc (l : List P.Pc) (p : P.Pc) : pcells (l ++ [p]) = pcells l ++ [.int .i64 p.1.1, .int .i64 p.1.2, .string (S p.2)] := by unfold pcells; rw [List.flatMap_append]; rfl
theorem pcells_get : ∀ (l : List P.Pc) (j : Nat) (h : j < l.length), (pcells l)[j * 3]? = some (.int .i64 (l[j]'h).1.1) ∧ (pcells l)[j * 3 + 1]? = some (.int .i64 (l[j]'h).1.2) ∧ (pcells l)[j * 3 + 2]? = some (.string (S (l[j]'h).2))
  | a :: l, 0, _ => ⟨rfl, rfl, rfl⟩
  | a :: l, j + 1, h => by
    have ih := pcells_get l j (by simpa using h)
    have e : ∀ i, (pcells (a :: l))[(j + 1) * 3 + i]? = (pcells l)[j * 3 + i]? := fun i => by
      show ([Value.int .i64 a.1.1, .int .i64 a.1.2, .string (S a.2)] ++ pcells l)[(j + 1) * 3 + i]? = _
      rw [List.getElem?_append_right (by simp; omega)]
      congr 1
      simp; omega
    refine ⟨?_, ?_, ?_⟩
    · have := e 0; rw [Nat.add_zero, Nat.add_zero] at this; rw [this]; exact ih.1
    · rw [e 1]; exact ih.2.1
    · rw [e 2]; exact ih.2.2
def PcR (v : World) (u : Value) (l : List P.Pc) : Prop :=
  ∃ (ad : Option Addr) (cap : Nat), u = .slice ad l.length cap ∧ l.length ≤ 2 ^ 30 ∧ (l = [] ∨ ∃ g o, ad = some ⟨g, o, none⟩ ∧ g < v.heap.size ∧ ∀ (j : Nat) (h : j < l.length), v.cell? ⟨g, o + j * 3, none⟩ = some (.int .i64 (l[j]'h).1.1) ∧ v.cell? ⟨g, o + j * 3 + 1, none⟩ = some (.int .i64 (l[j]'h).1.2) ∧ v.cell? ⟨g, o + j * 3 + 2, none⟩ = some (.string (S (l[j]'h).2)))
theorem PcR.below {v v' : World} {u : Value} {l : List P.Pc} (h : PcR v u l) (hb : Below v.heap.size v v') : PcR v' u l := by
  obtain ⟨ad, cap, h1, h2, h3⟩ := h
  refine ⟨ad, cap, h1, h2, h3.imp id ?_⟩
  rintro ⟨g, o, h4, h5, h6⟩
  refine ⟨g, o, h4, Nat.lt_of_lt_of_le h5 hb.size, fun j hj => ?_⟩
  obtain ⟨a, b, c⟩ := h6 j hj
  exact ⟨(hb.cell (p := ⟨g, _, none⟩) h5).trans a, (hb.cell (p := ⟨g, _, none⟩) h5).trans b, (hb.cell (p := ⟨g, _, none⟩) h5).trans c⟩
theorem PcR.at {v : World} {ad : Option Addr} {n cap : Nat} {l : List P.Pc} (h : PcR v (.slice ad n cap) l) (j : Nat) (hj : j < l.length) : ∃ g o, ad = some ⟨g, o, none⟩ ∧ g < v.heap.size ∧ v.cell? ⟨g, o + j * 3, none⟩ = some (.int .i64 (l[j]'hj).1.1) ∧ v.cell? ⟨g, o + j * 3 + 1, none⟩ = some (.int .i64 (l[j]'hj).1.2) ∧ v.cell? ⟨g, o + j * 3 + 2, none⟩ = some (.string (S (l[j]'hj).2)) := by
  obtain ⟨ad', cap', he, _, h3⟩ := h
  injection he with h1 h2 h4
  rcases h3 with h3 | ⟨g, o, h5, h6, h7⟩
  · rw [h3] at hj; exact absurd hj (Nat.not_lt_zero _)
  · exact ⟨g, o, h1.trans h5, h6, h7 j hj⟩
def OwnP (B : Nat) (v : World) (u : Value) (l : List P.Pc) : Prop := v.ownsRow B 148 3 u l.length (pcells l)
theorem OwnP.form {B : Nat} {v : World} {u : Value} {l : List P.Pc} (h : OwnP B v u l) : ∃ ad cap, u = .slice ad l.length cap := by
  rcases h.2 with ⟨rfl, h0⟩ | ⟨g, cap, cur, hv, _⟩
  · exact ⟨none, 0, by rw [h0]⟩
  · exact ⟨_, cap, hv⟩
theorem OwnP.read {B : Nat} {v : World} {u : Value} {l : List P.Pc} (h : OwnP B v u l) (hl : l.length ≤ 2 ^ 30) : PcR v u l := by
  unfold OwnP at h
  rcases id h.2 with ⟨rfl, h0⟩ | ⟨g, cap, cur, rfl, hg, _⟩
  · have e : l = [] := List.eq_nil_of_length_eq_zero h0
    subst e
    exact ⟨none, 0, rfl, by simp, .inl rfl⟩
  · refine ⟨some ⟨g, 0, none⟩, cap, rfl, hl, .inr ⟨g, 0, rfl, (World.ownsRow.lt h g rfl).2, fun j hj => ?_⟩⟩
    obtain ⟨a, b, c⟩ := pcells_get l j hj
    have c1 := World.ownsRow.cellAt h (j * 3) (by omega)
    have c2 := World.ownsRow.cellAt h (j * 3 + 1) (by omega)
    have c3 := World.ownsRow.cellAt h (j * 3 + 2) (by omega)
    exact ⟨by rw [Nat.zero_add]; exact c1.trans a, by rw [Nat.zero_add]; exact c2.trans b, by rw [Nat.zero_add]; exact c3.trans c⟩
theorem info_pc : (Tryz.prog.info? 148).map (fun i => (i.zero, i.size, i.bytes)) = some (some (.agg #[.int .i64 0, .int .i64 0, .string ⟨#[]⟩]), 3, 32) := by kernel_rfl
structure SgR (w : World) (dv : Value) (l : P.Dic) (st : List Int) (s : Value) (row : List P.Pc) (a f : Nat) (v : World) : Prop where
  own : OwnP (w.heap.size + 1) v s row
  bx : DBx w.heap.size dv v
  bel : Below w.heap.size w v
  fuel : st.length - a ≤ f
  seg : P.segA l st = row ++ P.segs l st f a
  la : a ≤ st.length
  lr : row.length ≤ a
theorem SgR.app {w v v1 v' : World} {dv s u' : Value} {l : P.Dic} {st : List Int} {row : List P.Pc} {a f a' f' : Nat} {p : P.Pc} (h : SgR w dv l st s row a f v) (hb : Below v.heap.size v v1)
    (hown : v'.ownsRow (w.heap.size + 1) 148 3 u' (row.length + 1) (pcells row ++ [.int .i64 p.1.1, .int .i64 p.1.2, .string (S p.2)])) (hgr : v1.grownBy v' s.ownBlock)
    (h1 : st.length - a' ≤ f') (h2 : P.segs l st f a = p :: P.segs l st f' a') (h3 : a' ≤ st.length) (h4 : a < a') : SgR w dv l st u' (row ++ [p]) a' f' v' := by
  have hz := h.bel.size
  have hz1 := hb.size
  have hlt : ∀ k, s.ownBlock = some k → w.heap.size + 1 ≤ k := fun k hk => (World.ownsRow.lt h.own k hk).1
  have hc : Chg (fun b => s.ownBlock = some b) v1 v' := Chg.grown hgr
  refine ⟨?_, (h.bx.below hb).stand hc (fun e => by have := hlt _ e; omega), (h.bel.trans (hb.mono hz)).trans (hc.below (by omega) (fun b e => by have := hlt b e; omega)), h1, ?_, h3, ?_⟩
  · unfold OwnP
    rw [pcells_snoc, List.length_append]
    exact hown
  · rw [h.seg, h2, List.append_assoc]; rfl
  · rw [List.length_append]; have := h.lr; simp; omega
def SgPost (l : List P.Pc) (w : World) (e : Ending) (w' : World) : Prop := ∃ u, e = .returned u ∧ PcR w' u l ∧ Below w.heap.size w w'
theorem segment (dv sv : Value) (l : P.Dic) (st : List Int) (w : World) (hu : EntR w dv l) (hs : IntR w sv st) (hl60 : st.length ≤ 60) :
    Calls Tryz.prog 61 #[.agg #[dv], sv] w (SgPost (P.segA l st) w) := by
  obtain ⟨i0, hi, hz0, hz1, hz2⟩ := info_parts info_pc
  have hb0 : Below w.heap.size w ((w.alloc (.cells #[dv] 26)).alloc (.cells #[] 148)) := ((Below.refl w.heap.size w).alloc (Nat.le_refl _) _).alloc (by simp) _
  have HST := Lib.hid hs; have HU := Lib.hid hu
  have HG := Lib.hid (show SgR w dv l st (.slice (some ⟨w.heap.size + 1, 0, none⟩) 0 0) [] 0 st.length ((w.alloc (.cells #[dv] 26)).alloc (.cells #[] 148)) from
    ⟨by have h := World.ownsRow_lit (base := w.heap.size + 1) (e := 148) (size := 3) (w.alloc (.cells #[dv] 26)) #[] 0 (by simp) (Nat.zero_le _) (by simp); simp at h; exact h,
     (DBx.new dv 26 w).below ((Below.refl _ _).alloc (Nat.le_refl _) _), hb0, by omega, rfl, by omega, by simp⟩)
  clear hb0
  obtain ⟨ad, cap, rfl, _, _⟩ := hu
  obtain ⟨sd, sc, rfl, hsl, _⟩ := hs
  go_enter Tryz.func61, Tryz.ntmps61
  go_wp2_with fail
  go_loopw [5, 6] (fun s i wr => ∃ (row : List P.Pc) (a f : Nat), i = .int .i64 a ∧ SgR w (.slice ad l.length cap) l st s row a f wr) (fun _ i _ => st.length - (intOf i).toNat)
  case atStart => exact ⟨[], 0, st.length, rfl, HG.out⟩
  case round =>
    clear HG
    obtain ⟨row, a, f, rfl, hg⟩ := hrel
    have HG := Lib.hid hg
    obtain ⟨ua, uc, rfl⟩ := hg.own.form
    by_cases hlt : a < st.length
    · have i1 : (a : Int) < (st.length : Int) := by omega
      obtain ⟨k, hk, hk1, hk2⟩ := P.matchA_cnt (d := l) hlt
      have HK := Lib.hid (P.segs_step hlt hg.fuel hk hk1)
      have HKE := Lib.hid hk
      have hra := hg.lr
      obtain ⟨k0, _⟩ := hg.bx
      clear hg hk
      go_wp2_with fail
      refine (matchAt _ _ l st a _ (HU.out.below HG.out.bel) (HST.out.below HG.out.bel) hlt).mono ?_
      rintro e w1 ⟨rfl, hb⟩
      rw [HKE.out]
      obtain ⟨tx, htx⟩ : ∃ tx, (P.matchA l st a).2 = tx := ⟨_, rfl⟩
      rw [htx]
      have HPE := Lib.hid (show P.matchA l st a = (((a : Int), (k : Int)), tx) from Prod.ext HKE.out htx)
      clear htx k0
      have hbx : Below w1.heap.size w1 ((w1.alloc (.cells #[.int .i64 a, .int .i64 k, .string (S tx)] 148)).alloc (.cells #[.int .i64 a, .int .i64 k, .string (S tx)] 148)) := ((Below.refl _ _).alloc (Nat.le_refl _) _).alloc (by simp) _
      have HB1 := Lib.hid (hb.trans (hbx.mono hb.size))
      have HZ := Lib.hid (show w.heap.size + 1 ≤ w1.heap.size by have h1 := hb.size; have h2 := HG.out.bx.2.2; omega)
      have HOW := Lib.hid (show OwnP (w.heap.size + 1) ((w1.alloc (.cells #[.int .i64 a, .int .i64 k, .string (S tx)] 148)).alloc (.cells #[.int .i64 a, .int .i64 k, .string (S tx)] 148)) (.slice ua row.length uc) row from owns_stand HG.out.own (Below.chg HB1.out (fun _ => False)) (fun _ _ h => h))
      have HLT := Lib.hid (show ∀ j, (Value.slice ua row.length uc).ownBlock = some j → j < w1.heap.size from fun j hj => Nat.lt_of_lt_of_le (World.ownsRow.lt HG.out.own j hj).2 hb.size)
      clear hb hbx
      go_wp2_with (at_builtin; refine wpList_append_own _ rfl _ _ 103 rfl (w.heap.size + 1) 148 i0 (.agg #[.int .i64 0, .int .i64 0, .string ⟨#[]⟩]) 3 32 Tryz.underlying103 hi hz0 hz1 hz2 rfl (by decide) (.slice ua row.length uc) row.length (pcells row) rfl HOW.out ⟨w1.heap.size + 1, 0, none⟩ 1 1 [.int .i64 a, .int .i64 k, .string (S tx)] rfl rfl ?_ ?_ ?_ ?_ ?_ ?_)
      all_goals first | exact ⟨rfl, rfl⟩ | (intro z hz; simp only [List.mem_cons, List.not_mem_nil, or_false] at hz; rcases hz with rfl | rfl | rfl <;> rfl) | (unfold maxLen; omega) | omega | (have h1 := HZ.out; simp; omega) | (intro i z hz; rcases i with _ | _ | _ | i; (injection hz with hz; subst hz; rw [add0]; go_simp); (injection hz with hz; subst hz; go_simp); (injection hz with hz; subst hz; go_simp); cases hz) | skip
      intro u4 w4 hown hgr _
      obtain ⟨f', hf', hse⟩ := HK.out
      have HG4 := Lib.hid (HG.out.app (p := (((a : Int), (k : Int)), tx)) (a' := a + k) (f' := f') HB1.out hown hgr hf' (by rw [hse, HPE.out]) hk2 (by omega))
      have c1 : w4.cell? ⟨w1.heap.size, 1, none⟩ = some (.int .i64 k) := by
        rw [(Chg.grown hgr).cell (p := ⟨w1.heap.size, 1, none⟩) (by simp; omega) (fun e => absurd (HLT.out _ e) (Nat.lt_irrefl _))]
        go_simp
      obtain ⟨ub, uc4, rfl⟩ := HG4.out.own.form
      clear hown hgr hf' hse HOW HLT HK HKE HPE HG HB1
      go_wp2
      go_roundw
      case rel => exact ⟨_, a + k, f', by go_num, HG4.out⟩
      case measure => simp [intOf]; omega
    · have HE := Lib.hid (show P.segA l st = row by rw [hg.seg, P.segs_end (by omega), List.append_nil])
      have hra := hg.lr
      have hla := hg.la
      clear hg
      go_wp2
      go_ret
      exact ⟨_, rfl, by rw [HE.out]; exact HG.out.own.read (by omega), HG.out.bel⟩
theorem isMatched (dv sv : Value) (l : P.Dic) (st : List Int) (w : World) (hu : EntR w dv l) (hs : IntR w sv st) (hm : Small l) (hE : Env w) :
    Calls Tryz.prog 59 #[.agg #[dv], sv] w fun e w' => e = .returned (.bool (P.dic l && P.slist st)) ∧ Below w.heap.size w w' := by
  have hb0 : Below w.heap.size w (w.alloc (.cells #[dv] 26)) := (Below.refl _ _).alloc (Nat.le_refl _) _
  have HU := Lib.hid (hu.below hb0); have HST := Lib.hid (hs.below hb0); have HB0 := Lib.hid hb0; have HE := Lib.hid (hE.below hb0 hE.size)
  clear hb0
  obtain ⟨ad, cap, rfl, _, _⟩ := hu
  obtain ⟨sd, sc, rfl, _, _⟩ := hs
  go_enter Tryz.func59, Tryz.ntmps59
  go_wp2_with fail
  refine (isValidDictionary _ l _ HU.out hm.texts HE.out).mono ?_
  rintro e w1 ⟨rfl, hb⟩
  have HB1 := Lib.hid (HB0.out.trans (hb.mono HB0.out.size)); have HST1 := Lib.hid (HST.out.below hb)
  clear hb
  obtain ⟨q, hq⟩ : ∃ q, P.dic l = q := ⟨_, rfl⟩
  have HQ := Lib.hid hq
  rw [hq]
  clear hq
  cases q
  · go_wp2
    go_ret
    exact ⟨ret_bool (by rw [HQ.out]; rfl), HB1.out⟩
  · go_wp2_with fail
    refine (isStrokeList _ st _ HST1.out).mono ?_
    rintro e w2 ⟨rfl, hb⟩
    have HB2 := Lib.hid (HB1.out.trans (hb.mono HB1.out.size))
    clear hb
    obtain ⟨q, hq⟩ : ∃ q, P.slist st = q := ⟨_, rfl⟩
    have HQ2 := Lib.hid hq
    rw [hq]
    clear hq
    go_wp2
    go_ret
    exact ⟨ret_bool (by rw [HQ.out, HQ2.out]; rfl), HB2.out⟩
end Go.Proofs.YtmlklnimoknojaaGreatDoor
