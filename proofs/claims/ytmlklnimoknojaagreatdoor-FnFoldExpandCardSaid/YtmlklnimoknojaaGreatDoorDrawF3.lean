/- Walks: the reference's drawing of a dictionary and folds. -/
import Derived.Deep.DeepCutAuto
import Derived.Deep.RegionHeld
import Derived.Test.YtmlklnimoknojaaGreatDoorDrawF2
import Derived.Test.YtmlklnimoknojaaGreatDoorFoldS3
import Derived.Test.YtmlklnimoknojaaGreatDoorCurE4
import Derived.Test.YtmlklnimoknojaaGreatDoorCodeD
import Derived.Test.YtmlklnimoknojaaGreatDoorFold1
namespace Go.Proofs.YtmlklnimoknojaaGreatDoor
open Go Go.RowKit
set_option maxHeartbeats 4000000
set_option maxRecDepth 100000
theorem P.into_len {k : Int} {o : List Int} (h : P.outline o = true) : ((P.into k o).getD []).length ≤ 6 := by
  obtain ⟨h0, h6, _⟩ := P.outline_last h
  unfold P.into
  split
  · simp
  · simp only [Option.getD_some, List.length_append, List.length_take, List.length_cons, List.length_nil]
    omega
def IntoAny (w : World) (e : Ending) (w' : World) : Prop := ∃ (x : Value) (o : List Int) (ok : Bool), e = .returned (.tuple #[x, .bool ok]) ∧ Ints w' (Bet w.heap.size w'.heap.size) x o ∧ o.length ≤ 8 ∧ Below w.heap.size w w'
theorem foldIntoAny (k : Int) (s : Str) (u : Value) (o : List Int) (w : World) (hu : IntR w u o) (hs : s.length ≤ 2 ^ 30) :
    Calls Tryz.prog 84 #[u, .agg #[.int .i64 k, .string (S s)]] w (IntoAny w) := by
  cases ho : P.outline o
  · have hb0 : Below w.heap.size w (w.alloc (.cells #[.int .i64 k, .string (S s)] 115)) := (Below.refl _ _).alloc (Nat.le_refl _) _
    have HU := Lib.hid (hu.below hb0); have HB0 := Lib.hid hb0; have HO := Lib.hid ho
    obtain ⟨ad, cap, rfl, _, _⟩ := hu
    clear hb0 ho
    go_enter Tryz.func84, Tryz.ntmps84
    go_wp2_with fail
    refine (l4Good _ o _ HU.out).mono ?_
    rintro e w1 ⟨rfl, rfl⟩
    rw [HO.out]
    go_wp2
    go_ret2
    exact ⟨_, [], false, rfl, RowO.nil _ _, by simp, HB0.out⟩
  · cases hf : P.fold (k, s)
    · have hb0 : Below w.heap.size w (w.alloc (.cells #[.int .i64 k, .string (S s)] 115)) := (Below.refl _ _).alloc (Nat.le_refl _) _
      have HU := Lib.hid (hu.below hb0); have HB0 := Lib.hid hb0; have HO := Lib.hid ho; have HF := Lib.hid hf
      obtain ⟨ad, cap, rfl, _, _⟩ := hu
      clear hb0 ho hf
      go_enter Tryz.func84, Tryz.ntmps84
      go_wp2_with fail
      refine (l4Good _ o _ HU.out).mono ?_
      rintro e w1 ⟨rfl, rfl⟩
      rw [HO.out]
      go_wp2_with fail
      refine (l10Fold k s _ hs).mono ?_
      rintro e w1 ⟨rfl, hb⟩
      rw [HF.out]
      have HB1 := Lib.hid (HB0.out.trans (hb.mono HB0.out.size))
      clear hb
      go_wp2
      go_ret2
      exact ⟨_, [], false, rfl, RowO.nil _ _, by simp, HB1.out⟩
    · obtain ⟨k', hkk, _⟩ := P.fold_key hf
      subst hkk
      refine (spec_foldInto k' s u o w hu ho hf).mono ?_
      rintro e w' ⟨x, he, hI, hb⟩
      exact ⟨x, _, _, he, hI, Nat.le_trans (P.into_len ho) (by decide), hb⟩
theorem FoC.mono {lo lo' : Nat} {v : World} {u : Value} {l : P.Folds} (h : FoC lo v u l) (hl : lo' ≤ lo) : FoC lo' v u l := by
  obtain ⟨g, o, cap, h1, h2, h3, h4, h5⟩ := h
  exact ⟨g, o, cap, h1, h2, Nat.le_trans hl h3, h4, h5⟩
/-- how the drawing stands: the result's box at the bottom, the dictionary's box b, the cursor C -/
structure BSt (C K b : Nat) (w v : World) (u : Value) (l : P.Dic) (fu : Value) (fl : P.Folds) : Prop where
  d : DBx b u v
  rd : ∃ lo hi, C < lo ∧ (hi ≤ b ∨ b < lo) ∧ hi ≤ v.heap.size ∧ Ents v (Bet lo hi) u l
  dr : Drawn l
  fr : ∃ lo, b < lo ∧ FoC lo v fu fl
  r2 : NBx w.heap.size v
  cur : IsCur w.heap.size C K v
  bel : Below w.heap.size w v
theorem BSt.chg {C K K' b : Nat} {w v v' : World} {u fu : Value} {l : P.Dic} {fl : P.Folds} {X : Blk} (h : BSt C K b w v u l fu fl) (hc : Chg X v v') (hX : ∀ k, X k → k = C) (h1 : w.heap.size < C) (h2 : C < b) (hk : IsCur w.heap.size C K' v') : BSt C K' b w v' u l fu fl := by
  obtain ⟨lo, hi, hlo, hb, hh, hr⟩ := h.rd
  obtain ⟨flo, hfb, hf⟩ := h.fr
  exact ⟨h.d.stand hc (fun e => by have := hX _ e; omega), ⟨lo, hi, hlo, hb, Nat.le_trans hh hc.size, hr.stand entE_ok hc (fun k h3 e => by have := hX _ e; have := h3.1; omega)⟩, h.dr, ⟨flo, hfb, hf.chg hc (fun k e => by have := hX _ e; omega)⟩, h.r2.stand hc (fun e => by have := hX _ e; omega), hk, Chg.belowB h.bel hc h.bel.size (fun k e => by have := hX _ e; omega)⟩
theorem BSt.curs {C K K' b : Nat} {w v v' : World} {u fu : Value} {l : P.Dic} {fl : P.Folds} (h : BSt C K b w v u l fu fl) (h1 : w.heap.size < C) (h2 : C < b) (hc : CurPost w.heap.size C K' v v') : BSt C K' b w v' u l fu fl := h.chg hc.2 (fun _ e => e) h1 h2 hc.1
theorem BSt.below {C K b : Nat} {w v v' : World} {u fu : Value} {l : P.Dic} {fl : P.Folds} (h : BSt C K b w v u l fu fl) (h1 : w.heap.size < C) (h2 : C < b) (hb : Below v.heap.size v v') : BSt C K b w v' u l fu fl := h.chg (Below.chg hb fun _ => False) (fun _ e => e.elim) h1 h2 (h.cur.below hb)
theorem BSt.mono {C K K' b : Nat} {w v : World} {u fu : Value} {l : P.Dic} {fl : P.Folds} (h : BSt C K b w v u l fu fl) (hK : K ≤ K') : BSt C K' b w v u l fu fl := ⟨h.d, h.rd, h.dr, h.fr, h.r2, h.cur.mono hK, h.bel⟩
/-- the dictionary's box is written -/
theorem BSt.put {C K b : Nat} {w v : World} {u x fu : Value} {l m : P.Dic} {fl : P.Folds} (h : BSt C K b w v u l fu fl) (h1 : w.heap.size < C) (h2 : C < b) (hm : Drawn m) (hr : ∃ lo hi, C < lo ∧ (hi ≤ b ∨ b < lo) ∧ hi ≤ v.heap.size ∧ Ents v (Bet lo hi) x m) : BSt C K b w (v.setCell ⟨b, 0, none⟩ x) x m fu fl := by
  have hc : Chg (fun k => k = b) v (v.setCell ⟨b, 0, none⟩ x) := (Chg.refl (fun k => k = b) v).setCell (p := ⟨b, 0, none⟩) rfl _
  obtain ⟨lo, hi, hlo, hb, hh, hr⟩ := hr
  obtain ⟨flo, hfb, hf⟩ := h.fr
  exact ⟨h.d.put, ⟨lo, hi, hlo, hb, Nat.le_trans hh hc.size, hr.stand entE_ok hc (fun k h3 (e : k = b) => by have h4 := h3.1; have h5 := h3.2; omega)⟩, hm, ⟨flo, hfb, hf.chg hc (fun k (e : k = b) => by omega)⟩, h.r2.stand hc (by omega), h.cur.stand hc (fun k (e : k = b) => ⟨by omega, by omega⟩), Chg.belowB h.bel hc h.bel.size (fun k (e : k = b) => by omega)⟩
theorem Drawn.puts {l : P.Dic} {o : List Int} {t : Str} (h : Drawn l) (hl : l.length < 60) (ho : o.length ≤ 8) (ht : t.length ≤ 300) : Drawn (P.putF (o, t) false l) :=
  ⟨by have := P.put_len (o, t) l; omega, fun e he => (putF_sub he).elim (fun e' => by rw [e']; exact ho) (h.outs e), fun e he => (putF_sub he).elim (fun e' => by rw [e']; exact ht) (h.texts e)⟩
/-- what the drawing of a folded entry reads -/
def KBoth (C b : Nat) (u : Value) (g p n : Nat) (xs : Nat → Value) (fg fo : Nat) (fl : P.Folds) (z : World) : Prop :=
  DBx b u z ∧ (∀ j, j < n → z.cell? ⟨g, p + j * 2, none⟩ = some (xs j)) ∧ (∀ j (hj : j < fl.length), z.cell? ⟨fg, fo + j * 2, none⟩ = some (.int .i64 (fl[j]'hj).1) ∧ z.cell? ⟨fg, fo + j * 2 + 1, none⟩ = some (.string (S (fl[j]'hj).2))) ∧ (C < g ∧ g < z.heap.size) ∧ C < fg ∧ fg < z.heap.size
theorem KBoth.chg {C b g p n fg fo : Nat} {u : Value} {xs : Nat → Value} {fl : P.Folds} {z z' : World} {X : Blk} (h : KBoth C b u g p n xs fg fo fl z) (hc : Chg X z z') (hX : ∀ k, X k → k = C) (h2 : C < b) : KBoth C b u g p n xs fg fo fl z' := by
  obtain ⟨h3, h4, h5, ⟨h6, h7⟩, h8, h9⟩ := h
  have n1 : ¬ X g := fun e => by have := hX g e; omega
  have n2 : ¬ X fg := fun e => by have := hX fg e; omega
  exact ⟨h3.stand hc (fun e => by have := hX _ e; omega), fun j hj => (hc.cell (p := ⟨g, _, none⟩) h7 n1).trans (h4 j hj), fun j hj => ⟨(hc.cell (p := ⟨fg, _, none⟩) h9 n2).trans (h5 j hj).1, (hc.cell (p := ⟨fg, _, none⟩) h9 n2).trans (h5 j hj).2⟩, ⟨h6, Nat.lt_of_lt_of_le h7 hc.size⟩, h8, Nat.lt_of_lt_of_le h9 hc.size⟩
/-- what stands is what the drawing reads -/
theorem BSt.reads {C K b dc fc : Nat} {ua fa : Option Addr} {w v : World} {l : P.Dic} {fl : P.Folds} (h : BSt C K b w v (.slice ua l.length dc) l (.slice fa fl.length fc) fl) (h2 : C < b) (hl : 0 < l.length) : ∃ g p fg fo xs, ua = some ⟨g, p, none⟩ ∧ fa = some ⟨fg, fo, none⟩ ∧ KBoth C b (.slice (some ⟨g, p, none⟩) l.length dc) g p l.length xs fg fo fl v ∧ ∀ j (hj : j < l.length), ∃ xd xc, xs j = .slice xd (l[j]'hj).1.length xc := by
  have hbx := h.d
  obtain ⟨lo, hi, hlo, hb, hh, hr⟩ := h.rd
  obtain ⟨flo, hfb, hf⟩ := h.fr
  obtain ⟨fg, fo, fc', e, _, hfl, hfg, hcel⟩ := hf
  injection e with e1 _ e2
  subst e1 e2
  have hrr := Ents.read hr
  obtain ⟨ua', dc', e, _, _, hrow⟩ := hr
  injection e with e1 _ e2
  subst e1 e2
  rcases hrow with e | ⟨g, p, G, Cs, e, hrc⟩
  · rw [e] at hl; simp at hl
  · subst e
    have hg := hrc.own
    refine ⟨g, p, fg, fo, fun j => cellOf v ⟨g, p + j * 2, none⟩, rfl, rfl, ⟨hbx, fun j hj => ?_, fun j hj => (hcel j hj).1, ⟨by have h1 := hg.1; omega, hrc.lt g hg⟩, by omega, hfg⟩, fun j hj => ?_⟩
    · obtain ⟨g', p', e, _, x, c0, _⟩ := hrr.at j hj
      injection e with e
      injection e with e1 e2 _
      subst e1 e2
      exact cellOf_some c0
    · obtain ⟨g', p', e, _, x, c0, _, hx⟩ := hrr.at j hj
      injection e with e
      injection e with e1 e2 _
      subst e1 e2
      obtain ⟨xd, xc, rfl, _⟩ := hx
      have h9 := cellOf_some c0
      rw [c0] at h9
      injection h9 with h9
      exact ⟨xd, xc, h9.symm⟩
/-- the outline that was read -/
theorem BSt.outl {C K b dc g p : Nat} {u fu : Value} {w v : World} {l : P.Dic} {fl : P.Folds} {xs : Nat → Value} (h : BSt C K b w v u l fu fl) (hu : u = .slice (some ⟨g, p, none⟩) l.length dc) {i : Nat} (hi : i < l.length) (hx : v.cell? ⟨g, p + i * 2, none⟩ = some (xs i)) : IntR v (xs i) (l[i]'hi).1 := by
  subst hu
  obtain ⟨lo, hi', hlo, hb, hh, hr⟩ := h.rd
  obtain ⟨g', p', e, _, x, c0, _, hxx⟩ := (Ents.read hr).at i hi
  injection e with e
  injection e with e1 e2 _
  subst e1 e2
  rw [c0] at hx
  injection hx with hx
  rw [← hx]
  exact hxx
theorem codeB {w w' : World} {v : Value} (h : CodeIs w v) (hb : Below w.heap.size w w') : CodeIs w' v := by
  obtain ⟨ad, n, cap, rfl, hn, hc⟩ := h
  refine ⟨ad, n, cap, rfl, hn, hc.imp id ?_⟩
  rintro ⟨g, o, h1, h2, h3⟩
  refine ⟨g, o, h1, Nat.lt_of_lt_of_le h2 hb.size, fun j hj => ?_⟩
  obtain ⟨b, hb1, hb2⟩ := h3 j hj
  exact ⟨b, hb1, (hb.cell (p := ⟨g, o + j, none⟩) h2).trans hb2⟩
def BothDrawn (w : World) (e : Ending) (w' : World) : Prop :=
  ∃ (l : P.Dic) (u : Value) (fl : P.Folds) (fu : Value), e = .returned (.tuple #[.agg #[u], fu]) ∧ Drawn l ∧ ReadE w.heap.size w'.heap.size w' u l ∧ FoC w.heap.size w' fu fl ∧ fl.length ≤ 12 ∧ (∀ f ∈ fl, f.2.length ≤ 20) ∧ Below w.heap.size w w'
theorem l10DrawBoth (v : Value) (w : World) (hv : CodeIs w v) :
    Calls Tryz.prog 76 #[v] w (BothDrawn w) := by
  have hv' := hv
  obtain ⟨ad, n, cap, rfl, _, _⟩ := hv'
  have hb0 : Below w.heap.size w (w.alloc (.cells #[.slice none 0 0] 26)) := (Below.refl w.heap.size w).alloc (Nat.le_refl _) _
  have hz0 : w.heap.size < (w.alloc (.cells #[.slice none 0 0] 26)).heap.size := by simp
  have HR2 := Lib.hid (NBx.new w 26)
  have HV := Lib.hid hv
  have HB0 := Lib.hid hb0
  clear hb0 hv
  go_enter Tryz.func76, Tryz.ntmps76
  go_upto_region 1 with fail
  generalize w.alloc (.cells #[.slice none 0 0] 26) = V0 at *
  have HC := Lib.hid (HV.out.fresh (t := 91) HB0.out)
  have hba := (Below.refl V0.heap.size V0).alloc (Nat.le_refl _) (.cells #[.slice ad n cap, .int .i64 0, .int .u64 0] 91)
  have HR2 := Lib.hid (HR2.out.below hba)
  have HB1 := Lib.hid (HB0.out.trans (hba.mono HB0.out.size))
  have hz1 : V0.heap.size < (V0.alloc (.cells #[.slice ad n cap, .int .i64 0, .int .u64 0] 91)).heap.size := by simp
  clear hba HB0 HV
  go_upto_region 2 with fail
  generalize V0.alloc (.cells #[.slice ad n cap, .int .i64 0, .int .u64 0] 91) = v1 at *
  generalize V0.heap.size = C at *
  go_wp2_with fail
  refine (cur_dictionary w.heap.size C 0 _ (by decide) HC.out).mono ?_
  rintro e w1 ⟨l, u, rfl, hdr, hl9, hl0, hen, _, hc⟩
  have hz2 : v1.heap.size ≤ w1.heap.size := hc.2.size
  obtain ⟨da, dc, rfl, _, _⟩ := id (Ents.read hen)
  have hba := (Below.refl w1.heap.size w1).alloc (Nat.le_refl _) (.cells #[(.slice da l.length dc)] 26)
  have HD := Lib.hid (DBx.new (.slice da l.length dc) 26 w1)
  have HEN := Lib.hid (hen.below entE_ok hba)
  have HDR := Lib.hid hdr
  have HR2 := Lib.hid ((HR2.out.stand hc.2 (by omega)).below hba)
  have HC := Lib.hid (hc.1.below hba)
  have HBL := Lib.hid (show Below w.heap.size w (w1.alloc (.cells #[(.slice da l.length dc)] 26)) from (Chg.belowB HB1.out hc.2 HB1.out.size (fun k (e : k = C) => by omega)).trans (hba.mono (Nat.le_trans HB1.out.size hz2)))
  have hz3 : w1.heap.size < (w1.alloc (.cells #[(.slice da l.length dc)] 26)).heap.size := by simp
  clear hc hen hba HB1 hdr
  go_upto_region 3 with fail
  generalize w1.alloc (.cells #[(.slice da l.length dc)] 26) = v2 at *
  go_wp2_with fail
  refine (l10DrawFolds w.heap.size C 1000 _ (by decide) HC.out).mono ?_
  rintro e w2 ⟨fl, fu, rfl, hf1, hf12, hft, hfr, hc⟩
  have hz4 : v2.heap.size ≤ w2.heap.size := hc.2.size
  have HFT := Lib.hid hft
  obtain ⟨fa, fc, rfl, _, _⟩ := id (hfr.read (by omega))
  have hCb : C < w1.heap.size := by omega
  have hRC : w.heap.size < C := by omega
  have HS := Lib.hid (show BSt C 1100 w1.heap.size w w2 (.slice da l.length dc) l (.slice fa fl.length fc) fl from ⟨HD.out.stand hc.2 (by omega), ⟨v1.heap.size, w1.heap.size, by omega, .inl (Nat.le_refl _), by omega, HEN.out.stand entE_ok hc.2 (fun k h3 (e : k = C) => by have h4 := h3.1; omega)⟩, HDR.out, ⟨v2.heap.size, by omega, hfr⟩, HR2.out.stand hc.2 (by omega), hc.1, Chg.belowB HBL.out hc.2 HBL.out.size (fun k (e : k = C) => by omega)⟩)
  clear hc hfr HD HEN HDR HR2 HC HBL hft
  generalize w1.heap.size = b at *
  go_wp2_with fail
  refine (cur_pick w.heap.size C 1100 3 _ (by decide) (by decide) HS.out.cur).mono ?_
  rintro e w3 ⟨x, hx, rfl, hc⟩
  have hx3 : x < 3 := by omega
  have HS := Lib.hid (HS.out.curs hRC hCb hc)
  clear hc hx
  go_wp2
  go_loopw [7] (fun n wr => ∃ (kk : Nat) (l : P.Dic) (u : Value), kk ≤ 2 ∧ 0 < l.length ∧ l.length + kk ≤ 11 ∧ n = .int .i64 kk ∧ BSt C (2000 - 100 * kk) b w wr u l (.slice fa fl.length fc) fl) (fun n _ => (intOf n).toNat)
  case atStart =>
    exact ⟨x, l, _, by omega, hl0, by omega, rfl, HS.out.mono (by omega)⟩
  case round =>
    clear HS hl9 hl0
    obtain ⟨kk, l, u, hk2, hl0, hlk, rfl, hst⟩ := hrel
    have HS := Lib.hid hst
    obtain ⟨ua, uc, rfl⟩ : ∃ ua uc, u = .slice ua l.length uc := by
      obtain ⟨lo, hi, _, _, _, hr⟩ := hst.rd
      obtain ⟨ua, uc, h, _⟩ := hr
      exact ⟨ua, uc, h⟩
    obtain ⟨g, p, fg, fo, xs, rfl, rfl, hkb, hxs⟩ := hst.reads hCb hl0
    have HXS := Lib.hid hxs
    clear hst hxs
    obtain ⟨b0, b1, b2⟩ := HS.out.d
    by_cases hp : 0 < kk
    · have i1 : (0 : Int) < (kk : Int) := by omega
      have i2 : (0 : Int) < (l.length : Int) := by omega
      have i3 : (l.length : Int) < 40 := by omega
      have hdd : Below wr.heap.size wr wr.drew := (Below.refl _ _).drew
      have HS := Lib.hid (HS.out.below hRC hCb hdd)
      have HKB := Lib.hid (hkb.chg (Below.chg hdd fun _ => False) (fun _ e => e.elim) hCb)
      clear hkb hdd
      go_upto_region 7 with fail
      refine wp_region_held_drew (S := KBoth C b (.slice (some ⟨g, p, none⟩) l.length uc) g p l.length xs fg fo fl) (by kernel_rfl) HKB.out (fun hS0 => ?_)
      clear b0 b1 b2 HKB
      generalize wr.drew = v0 at *
      refine wpAnyH_take (i := 0) (v := .pointer (some ⟨b, 0, none⟩)) rfl (by kernel_rfl) (by kernel_rfl) (by kernel_rfl) (fun _ _ _ h => h) (Or.inl ⟨by rfl, fun z hz => ?_⟩) hS0 ?_
      · obtain ⟨⟨z1, z2, z3⟩, z4, z5, z6, z7⟩ := hz
        go_simp
        try simp only [qA, qB, Act.put, qD, qE, qF]
      refine wpAnyH_take (i := 1) (v := (.slice (some ⟨g, p, none⟩) l.length uc)) rfl (by kernel_rfl) (by kernel_rfl) (by kernel_rfl) (fun _ _ _ h => h) (Or.inl ⟨by rfl, fun z hz => ?_⟩) hS0 ?_
      · obtain ⟨⟨z1, z2, z3⟩, z4, z5, z6, z7⟩ := hz
        go_simp
        try simp only [qA, qB, qC, Act.put, qD, qE, qF]
      refine wpAnyH_take (i := 2) (v := .pointer (some ⟨C, 0, none⟩)) rfl (by kernel_rfl) (by kernel_rfl) (by kernel_rfl) (fun _ _ _ h => h) (Or.inl ⟨by rfl, fun z hz => ?_⟩) hS0 ?_
      · obtain ⟨⟨z1, z2, z3⟩, z4, z5, z6, z7⟩ := hz
        go_simp
        try simp only [qA, qB, qC, Act.put, qD, qE, qF]
      refine wpAnyH_take (i := 3) (v := .pointer (some ⟨b, 0, none⟩)) rfl (by kernel_rfl) (by kernel_rfl) (by kernel_rfl) (fun _ _ _ h => h) (Or.inl ⟨by rfl, fun z hz => ?_⟩) hS0 ?_
      · obtain ⟨⟨z1, z2, z3⟩, z4, z5, z6, z7⟩ := hz
        go_simp
        try simp only [qA, qB, qC, Act.put, qD, qE, qF]
      refine wpAnyH_take (i := 4) (v := (.slice (some ⟨g, p, none⟩) l.length uc)) rfl (by kernel_rfl) (by kernel_rfl) (by kernel_rfl) (fun _ _ _ h => h) (Or.inl ⟨by rfl, fun z hz => ?_⟩) hS0 ?_
      · obtain ⟨⟨z1, z2, z3⟩, z4, z5, z6, z7⟩ := hz
        go_simp
        try simp only [qA, qB, qC, Act.put, qD, qE, qF]
      refine wpAnyH_take (i := 5) (v := .int .i64 (l.length : Int)) rfl (by kernel_rfl) (by kernel_rfl) (by kernel_rfl) (fun _ _ _ h => h) (Or.inl ⟨by rfl, fun z hz => ?_⟩) hS0 ?_
      · obtain ⟨⟨z1, z2, z3⟩, z4, z5, z6, z7⟩ := hz
        go_simp
        try simp only [qA, qB, qC, Act.put, qD, qE, qF]
      refine wpAnyH_take (i := 10) (v := (.slice (some ⟨fg, fo, none⟩) fl.length fc)) rfl (by kernel_rfl) (by kernel_rfl) (by kernel_rfl) (fun _ _ _ h => h) (Or.inl ⟨by rfl, fun z hz => ?_⟩) hS0 ?_
      · obtain ⟨⟨z1, z2, z3⟩, z4, z5, z6, z7⟩ := hz
        go_simp
        try simp only [qA, qB, qC, Act.put, qD, qE, qF]
      refine wpAnyH_take (i := 11) (v := .pointer (some ⟨C, 0, none⟩)) rfl (by kernel_rfl) (by kernel_rfl) (by kernel_rfl) (fun _ _ _ h => h) (Or.inl ⟨by rfl, fun z hz => ?_⟩) hS0 ?_
      · obtain ⟨⟨z1, z2, z3⟩, z4, z5, z6, z7⟩ := hz
        go_simp
        try simp only [qA, qB, qC, Act.put, qD, qE, qF]
      refine wpAnyH_take (i := 12) (v := (.slice (some ⟨fg, fo, none⟩) fl.length fc)) rfl (by kernel_rfl) (by kernel_rfl) (by kernel_rfl) (fun _ _ _ h => h) (Or.inl ⟨by rfl, fun z hz => ?_⟩) hS0 ?_
      · obtain ⟨⟨z1, z2, z3⟩, z4, z5, z6, z7⟩ := hz
        go_simp
        try simp only [qA, qB, qC, Act.put, qD, qE, qF]
      refine wpAnyH_take (i := 13) (v := .int .i64 (fl.length : Int)) rfl (by kernel_rfl) (by kernel_rfl) (by kernel_rfl) (fun _ _ _ h => h) (Or.inl ⟨by rfl, fun z hz => ?_⟩) hS0 ?_
      · obtain ⟨⟨z1, z2, z3⟩, z4, z5, z6, z7⟩ := hz
        go_simp
        try simp only [qA, qB, qC, Act.put, qD, qE, qF]
      refine wpAnyH_ready (rs := [6]) (by kernel_rfl) (by simp) ?_
      refine AllReadyH.cons rfl (fun K hK => ?_) AllReadyH.nil
      go_simp
      refine (cur_pick w.heap.size C (2000 - 100 * kk) (l.length : Int) _ (by omega) (by omega) HS.out.cur).mono ?_
      rintro e v3 ⟨i, hip, rfl, hc⟩
      have hil : i < l.length := by omega
      have HS := Lib.hid (HS.out.curs hRC hCb hc)
      refine hK.out _ _ (hS0.chg hc.2 (fun _ e => e) hCb) (fun hS1 => ?_)
      clear hK K hc hS0 hip
      try simp only [qA, qB, qC, Act.put, qD, qE, qF]
      have k1 : (i : Int) < (l.length : Int) := by omega
      obtain ⟨xd, xc, hxe⟩ := HXS.out i hil
      refine wpAnyH_take (i := 7) (v := .pointer (some ⟨g, p + i * 2, none⟩)) rfl (by kernel_rfl) (by kernel_rfl) (by kernel_rfl) (fun _ _ _ h => h) (Or.inl ⟨by rfl, fun z hz => ?_⟩) hS1 ?_
      · obtain ⟨⟨z1, z2, z3⟩, z4, z5, z6, z7⟩ := hz
        go_simp
        try simp only [qA, qB, qC, Act.put, qD, qE, qF]
      refine wpAnyH_take (i := 8) (v := .pointer (some ⟨g, p + i * 2, none⟩)) rfl (by kernel_rfl) (by kernel_rfl) (by kernel_rfl) (fun _ _ _ h => h) (Or.inl ⟨by rfl, fun z hz => ?_⟩) hS1 ?_
      · obtain ⟨⟨z1, z2, z3⟩, z4, z5, z6, z7⟩ := hz
        go_simp
        try simp only [qA, qB, qC, Act.put, qD, qE, qF]
      refine wpAnyH_take (i := 9) (v := .slice xd l[i].1.length xc) rfl (by kernel_rfl) (by kernel_rfl) (by kernel_rfl) (fun _ _ _ h => h) (Or.inl ⟨by rfl, fun z hz => ?_⟩) hS1 ?_
      · obtain ⟨⟨z1, z2, z3⟩, z4, z5, z6, z7⟩ := hz
        have z8 := z4 i hil; rw [hxe] at z8
        go_simp
        try simp only [qA, qB, qC, Act.put, qD, qE, qF]
      refine wpAnyH_ready (rs := [14]) (by kernel_rfl) (by simp) ?_
      refine AllReadyH.cons rfl (fun K hK => ?_) AllReadyH.nil
      go_simp
      refine (cur_pick w.heap.size C (2000 - 100 * kk + 2) (fl.length : Int) _ (by omega) (by omega) HS.out.cur).mono ?_
      rintro e v4 ⟨j, hjp, rfl, hc⟩
      have hjl : j < fl.length := by omega
      have HS := Lib.hid (HS.out.curs hRC hCb hc)
      refine hK.out _ _ (hS1.chg hc.2 (fun _ e => e) hCb) (fun hS2 => ?_)
      clear hK K hc hS1 hjp
      try simp only [qA, qB, qC, Act.put, qD, qE, qF]
      have k2 : (j : Int) < (fl.length : Int) := by omega
      have hf20 := HFT.out _ (List.getElem_mem hjl)
      refine wpAnyH_take (i := 15) (v := .pointer (some ⟨fg, fo + j * 2, none⟩)) rfl (by kernel_rfl) (by kernel_rfl) (by kernel_rfl) (fun _ _ _ h => h) (Or.inl ⟨by rfl, fun z hz => ?_⟩) hS2 ?_
      · obtain ⟨⟨z1, z2, z3⟩, z4, z5, z6, z7⟩ := hz
        go_simp
        try simp only [qA, qB, qC, Act.put, qD, qE, qF]
      refine wpAnyH_take (i := 16) (v := .agg #[.int .i64 fl[j].1, .string (S fl[j].2)]) rfl (by kernel_rfl) (by kernel_rfl) (by kernel_rfl) (fun _ _ _ h => h) (Or.inl ⟨by rfl, fun z hz => ?_⟩) hS2 ?_
      · obtain ⟨⟨z1, z2, z3⟩, z4, z5, z6, z7⟩ := hz
        obtain ⟨z8, z9⟩ := z5 j hjl
        go_simp
        try simp only [qA, qB, qC, Act.put, qD, qE, qF]
      have HIX := Lib.hid (show IntR v4 (.slice xd l[i].1.length xc) l[i].1 from by have h := HS.out.outl rfl hil (hS2.2.1 i hil); rwa [hxe] at h)
      refine wpAnyH_ready (rs := [17]) (by kernel_rfl) (by simp) ?_
      refine AllReadyH.cons rfl (fun K hK => ?_) AllReadyH.nil
      go_simp
      refine (foldIntoAny fl[j].1 fl[j].2 _ l[i].1 _ HIX.out (by omega)).mono ?_
      rintro e v5 ⟨y, o2, ok, rfl, hI, ho8, hb⟩
      have HS := Lib.hid (HS.out.below hRC hCb hb)
      have HI := Lib.hid hI
      have hv45 : v4.heap.size ≤ v5.heap.size := hb.size
      have hv4 : b < v4.heap.size := hS2.1.2.2
      refine hK.out _ _ (hS2.chg (Below.chg hb fun _ => False) (fun _ e => e.elim) hCb) (fun hS3 => ?_)
      clear hK K hb hI hS2 HIX
      obtain ⟨ya, yc, rfl, _, _⟩ := id HI.out
      try simp only [qA, qB, qC, Act.put, qD, qE, qF]
      refine wpAnyH_take (i := 18) (v := .tuple #[.slice ya o2.length yc, .bool ok]) rfl (by kernel_rfl) (by kernel_rfl) (by kernel_rfl) (fun _ _ _ h => h) (Or.inl ⟨by rfl, fun z hz => ?_⟩) hS3 ?_
      · obtain ⟨⟨z1, z2, z3⟩, z4, z5, z6, z7⟩ := hz
        go_simp
        try simp only [qA, qB, qC, Act.put, qD, qE, qF]
      refine wpAnyH_take (i := 19) (v := .slice ya o2.length yc) rfl (by kernel_rfl) (by kernel_rfl) (by kernel_rfl) (fun _ _ _ h => h) (Or.inl ⟨by rfl, fun z hz => ?_⟩) hS3 ?_
      · obtain ⟨⟨z1, z2, z3⟩, z4, z5, z6, z7⟩ := hz
        go_simp
        try simp only [qA, qB, qC, Act.put, qD, qE, qF]
      refine wpAnyH_take (i := 20) (v := .bool ok) rfl (by kernel_rfl) (by kernel_rfl) (by kernel_rfl) (fun _ _ _ h => h) (Or.inl ⟨by rfl, fun z hz => ?_⟩) hS3 ?_
      · obtain ⟨⟨z1, z2, z3⟩, z4, z5, z6, z7⟩ := hz
        go_simp
        try simp only [qA, qB, qC, Act.put, qD, qE, qF]
      refine wpAnyH_ready (rs := [21]) (by kernel_rfl) (by simp) ?_
      refine AllReadyH.cons rfl (fun K hK => ?_) AllReadyH.nil
      go_simp
      refine hK.out _ _ hS3 (fun hS3 => ?_)
      clear hK K
      try simp only [qA, qB, qC, Act.put, qD, qE, qF]
      refine wpAnyH_ready (rs := [22]) (by kernel_rfl) (by simp) ?_
      refine AllReadyH.cons rfl (fun K hK => ?_) AllReadyH.nil
      go_simp
      refine hK.out _ _ hS3 (fun hS3 => ?_)
      clear hK K
      try simp only [qA, qB, qC, Act.put, qD, qE, qF]
      refine wpAnyH_done (by kernel_rfl) ?_ _
      clear hS3 HXS hxe
      cases ok
      · go_wp2
        go_roundw
        case rel => exact ⟨kk - 1, l, _, by omega, hl0, by omega, by go_num, HS.out.mono (by omega)⟩
        case measure => simp [intOf]; omega
      · have hdd : Below v5.heap.size v5 v5.drew := (Below.refl _ _).drew
        have HS := Lib.hid (HS.out.below hRC hCb hdd); have HI := Lib.hid (HI.out.below intE_ok hdd)
        have hv5 : v5.heap.size ≤ v5.drew.heap.size := Nat.le_refl _
        clear hdd
        go_upto_region 9 with fail
        refine Left.region [6] (S := fun v => v.cell? ⟨b, 0, none⟩ = some (.slice (some ⟨g, p, none⟩) l.length uc) ∧ v.frozen? ⟨b, 0, none⟩ = false) (by kernel_rfl) ⟨HS.out.d.1, HS.out.d.2.1⟩ (fun hS0 => ?_)
        generalize v5.drew = v6 at *
        refine Left.take (i := 0) (v := .agg #[(.slice (some ⟨g, p, none⟩) l.length uc)]) rfl (by kernel_rfl) (by kernel_rfl) (by kernel_rfl) (by kernel_rfl) (fun _ _ _ h => h) (Or.inl ⟨by rfl, fun z hz => ?_⟩) hS0 ?_
        · obtain ⟨z1, z2⟩ := hz
          go_simp
        try simp only [qA, qB, Act.put, qD, qE, qF]
        refine Left.take (i := 1) (v := .slice ya o2.length yc) rfl (by kernel_rfl) (by kernel_rfl) (by kernel_rfl) (by kernel_rfl) (fun _ _ _ h => h) (Or.inl ⟨by rfl, fun z hz => ?_⟩) hS0 ?_
        · obtain ⟨z1, z2⟩ := hz
          go_simp
        try simp only [qA, qB, qC, Act.put, qD, qE, qF]
        refine Left.take (i := 2) (v := .pointer (some ⟨C, 0, none⟩)) rfl (by kernel_rfl) (by kernel_rfl) (by kernel_rfl) (by kernel_rfl) (fun _ _ _ h => h) (Or.inl ⟨by rfl, fun z hz => ?_⟩) hS0 ?_
        · obtain ⟨z1, z2⟩ := hz
          go_simp
        try simp only [qA, qB, qC, Act.put, qD, qE, qF]
        refine Left.ready (rs := [3]) (by kernel_rfl) (by simp) ?_
        refine Nexts.cons rfl (fun K hK => ?_) Nexts.nil
        go_simp
        refine (cur_translation w.heap.size C (2000 - 100 * kk + 4) _ (by omega) HS.out.cur).mono ?_
        rintro e v7 ⟨t, rfl, ht, hc⟩
        have HS := Lib.hid (HS.out.curs hRC hCb hc); have HI := Lib.hid (HI.out.stand intE_ok hc.2 (fun k h3 (e : k = C) => by have h4 := h3.1; omega))
        have hv67 : v6.heap.size ≤ v7.heap.size := hc.2.size
        refine on_held hK (by decide) ⟨HS.out.d.1, HS.out.d.2.1⟩ (fun hS1 => ?_)
        clear hK K hc hS0
        try simp only [qA, qB, qC, Act.put, qD, qE, qF]
        refine Left.take (i := 4) (v := .agg #[.slice ya o2.length yc, .string (S t)]) rfl (by kernel_rfl) (by kernel_rfl) (by kernel_rfl) (by kernel_rfl) (fun _ _ _ h => h) (Or.inl ⟨by rfl, fun z hz => ?_⟩) hS1 ?_
        · obtain ⟨z1, z2⟩ := hz
          go_simp
        try simp only [qA, qB, qC, Act.put, qD, qE, qF]
        have HEN := Lib.hid (show EntR v7 (.slice (some ⟨g, p, none⟩) l.length uc) l from by obtain ⟨lo, hi, _, _, _, hr⟩ := HS.out.rd; exact Ents.read hr)
        refine Left.ready (rs := [5]) (by kernel_rfl) (by simp) ?_
        refine Nexts.cons rfl (fun K hK => ?_) Nexts.nil
        go_simp
        refine (l6PutO _ _ l o2 t _ HEN.out (Ints.read HI.out) HS.out.dr.small.len HS.out.dr.small.outs (by omega)).mono ?_
        rintro e v8 ⟨u2, rfl, hI2, _, hb⟩
        have HS := Lib.hid (HS.out.below hRC hCb hb)
        have HI2 := Lib.hid hI2
        refine on_held hK (by decide) ⟨HS.out.d.1, HS.out.d.2.1⟩ (fun hS2 => ?_)
        clear hK K hb hI2 hS1 HEN HI
        obtain ⟨u2d, u2c, rfl, _, _⟩ := id HI2.out
        try simp only [qA, qB, qC, Act.put, qD, qE, qF]
        refine Left.ready (rs := [6]) (by kernel_rfl) (by simp) ?_
        refine Nexts.cons rfl (fun K hK => ?_) Nexts.nil
        obtain ⟨k0, k3, _⟩ := HS.out.d
        go_simp
        have HS := Lib.hid (HS.out.put hRC hCb (HS.out.dr.puts (by omega) ho8 ht) ⟨v7.heap.size, v8.heap.size, by omega, .inr (by omega), Nat.le_refl _, HI2.out⟩)
        refine on_last hK (by decide) ?_
        clear hK K hS2 k0 k3 HI2
        try simp only [qA, qB, qC, Act.put, qD, qE, qF]
        refine Left.done (by kernel_rfl) ?_ _
        have hpl := P.put_len (o2, t) l
        have hpp := putF_pos (o2, t) l
        go_wp2
        go_roundw
        case rel => exact ⟨kk - 1, _, _, by omega, hpp, by omega, by go_num, HS.out.mono (by omega)⟩
        case measure => simp [intOf]; omega
    · have i1 : ¬ (0 : Int) < (kk : Int) := by omega
      clear hkb HXS
      go_wp2_with fail
      refine (cur_one w.heap.size C (2000 - 100 * kk) 20 _ (by omega) (by decide) HS.out.cur).mono ?_
      rintro e w4 ⟨q, rfl, hc⟩
      have HS := Lib.hid (HS.out.curs hRC hCb hc)
      clear hc b0 b1 b2
      obtain ⟨b0, b1, b2⟩ := HS.out.d
      obtain ⟨r0, r1, r2⟩ := HS.out.r2
      cases q
      · have hset : Chg (fun k => k = w.heap.size) w4 (w4.setCell ⟨w.heap.size, 0, none⟩ (.slice (some ⟨g, p, none⟩) l.length uc)) := (Chg.refl (fun k => k = w.heap.size) w4).setCell (p := ⟨w.heap.size, 0, none⟩) rfl _
        have e0 : (w4.setCell ⟨w.heap.size, 0, none⟩ (.slice (some ⟨g, p, none⟩) l.length uc)).cell? ⟨w.heap.size, 0, none⟩ = some (.slice (some ⟨g, p, none⟩) l.length uc) := by go_simp
        have HEN := Lib.hid (show ReadE w.heap.size (w4.setCell ⟨w.heap.size, 0, none⟩ (.slice (some ⟨g, p, none⟩) l.length uc)).heap.size (w4.setCell ⟨w.heap.size, 0, none⟩ (.slice (some ⟨g, p, none⟩) l.length uc)) (.slice (some ⟨g, p, none⟩) l.length uc) l from by
          obtain ⟨lo, hi, hlo, _, hh, hr⟩ := HS.out.rd
          exact Ents.readE (hr.stand entE_ok hset (fun k h3 (e : k = w.heap.size) => by have h4 := h3.1; omega)) (fun k h3 => ⟨by have h4 := h3.1; omega, Nat.lt_of_lt_of_le h3.2 (Nat.le_trans hh hset.size)⟩) (Nat.le_refl _))
        have HFL := Lib.hid (show FoC w.heap.size (w4.setCell ⟨w.heap.size, 0, none⟩ (.slice (some ⟨g, p, none⟩) l.length uc)) (.slice (some ⟨fg, fo, none⟩) fl.length fc) fl from by
          obtain ⟨flo, hfb, hf⟩ := HS.out.fr
          exact (hf.chg hset (fun k (e : k = w.heap.size) => by omega)).mono (by omega))
        have HBL := Lib.hid (Chg.belowB HS.out.bel hset HS.out.bel.size (fun k (e : k = w.heap.size) => by omega))
        have HDR := Lib.hid HS.out.dr
        clear hset HS
        go_wp2
        refine bodyPost_ret (v := .tuple #[.agg #[(.slice (some ⟨g, p, none⟩) l.length uc)], (.slice (some ⟨fg, fo, none⟩) fl.length fc)]) (by simp [e0, results, Tryz.results76, go_sem]) rfl ⟨l, _, fl, _, rfl, HDR.out, HEN.out, HFL.out, hf12, HFT.out, HBL.out⟩
      · go_wp2_with fail
        refine (cur_anyDictionary w.heap.size C (2000 - 100 * kk + 2) _ (by omega) HS.out.cur).mono ?_
        rintro e w5 ⟨m, u3, rfl, hdr, hrd, hc⟩
        have HS := Lib.hid (HS.out.curs hRC hCb hc)
        have HDR := Lib.hid hdr
        have hz9 : b < w4.heap.size := b2
        obtain ⟨ma, mc, rfl, _, _⟩ := id hrd.now
        clear hc hdr b0 b1 b2 r0 r1 r2
        obtain ⟨b0, b1, b2⟩ := HS.out.d
        obtain ⟨r0, r1, r2⟩ := HS.out.r2
        have hset : Chg (fun k => k = b ∨ k = w.heap.size) w5 ((w5.setCell ⟨b, 0, none⟩ (.slice ma m.length mc)).setCell ⟨w.heap.size, 0, none⟩ (.slice ma m.length mc)) := ((Chg.refl (fun k => k = b ∨ k = w.heap.size) w5).setCell (p := ⟨b, 0, none⟩) (.inl rfl) _).setCell (p := ⟨w.heap.size, 0, none⟩) (.inr rfl) _
        have e0 : ((w5.setCell ⟨b, 0, none⟩ (.slice ma m.length mc)).setCell ⟨w.heap.size, 0, none⟩ (.slice ma m.length mc)).cell? ⟨w.heap.size, 0, none⟩ = some (.slice ma m.length mc) := by go_simp
        have HEN := Lib.hid ((hrd.chg hset (fun k h3 h4 e => by rcases e with e | e <;> omega)).wide (lo' := w.heap.size) (by omega) hset.size (Nat.le_refl _))
        have HFL := Lib.hid (show FoC w.heap.size ((w5.setCell ⟨b, 0, none⟩ (.slice ma m.length mc)).setCell ⟨w.heap.size, 0, none⟩ (.slice ma m.length mc)) (.slice (some ⟨fg, fo, none⟩) fl.length fc) fl from by
          obtain ⟨flo, hfb, hf⟩ := HS.out.fr
          exact (hf.chg hset (fun k e => by rcases e with e | e <;> omega)).mono (by omega))
        have HBL := Lib.hid (Chg.belowB HS.out.bel hset HS.out.bel.size (fun k e => by rcases e with e | e <;> omega))
        clear hset HS hrd
        go_wp2
        refine bodyPost_ret (v := .tuple #[.agg #[.slice ma m.length mc], (.slice (some ⟨fg, fo, none⟩) fl.length fc)]) (by simp [e0, results, Tryz.results76, go_sem]) rfl ⟨m, _, fl, _, rfl, HDR.out, HEN.out, HFL.out, hf12, HFT.out, HBL.out⟩
theorem drawExpandFolds (v : Value) (w : World) (hv : CodeIs w v) :
    Calls Tryz.prog 27 #[v] w (BothDrawn w) := by
  have hv' := hv
  obtain ⟨ad, n, cap, rfl, _, _⟩ := hv'
  have hb0 : Below w.heap.size w (w.alloc (.cells #[.slice none 0 0] 26)) := (Below.refl w.heap.size w).alloc (Nat.le_refl _) _
  have hz0 : w.heap.size < (w.alloc (.cells #[.slice none 0 0] 26)).heap.size := by simp
  have HR2 := Lib.hid (NBx.new w 26)
  have HV := Lib.hid (codeB hv hb0)
  have HB0 := Lib.hid hb0
  clear hb0 hv
  go_enter Tryz.func27, Tryz.ntmps27
  go_upto_region 1 with fail
  generalize w.alloc (.cells #[.slice none 0 0] 26) = V0 at *
  go_wp2_with fail
  refine (l10DrawBoth _ _ HV.out).mono ?_
  rintro e w1 ⟨l, u, fl, fu, rfl, hdr, hen, hfl, hf12, hft, hb⟩
  have HR2 := Lib.hid (HR2.out.below hb)
  obtain ⟨r0, r1, r2⟩ := HR2.out
  obtain ⟨ua, uc, rfl, _, _⟩ := id hen.now
  obtain ⟨fa, fc, rfl, _, _⟩ := id (hfl.read (by omega))
  have hset : Chg (fun k => k = w.heap.size) w1 (w1.setCell ⟨w.heap.size, 0, none⟩ (.slice ua l.length uc)) := (Chg.refl (fun k => k = w.heap.size) w1).setCell (p := ⟨w.heap.size, 0, none⟩) rfl _
  have e0 : (w1.setCell ⟨w.heap.size, 0, none⟩ (.slice ua l.length uc)).cell? ⟨w.heap.size, 0, none⟩ = some (.slice ua l.length uc) := by go_simp
  have HB1 := Lib.hid (HB0.out.trans (hb.mono HB0.out.size))
  have HBL := Lib.hid (Chg.belowB HB1.out hset HB1.out.size (fun k (e : k = w.heap.size) => by omega))
  have HEN := Lib.hid ((hen.chg hset (fun k h3 h4 (e : k = w.heap.size) => by omega)).wide (lo' := w.heap.size) (by omega) hset.size (Nat.le_refl _))
  have HFL := Lib.hid ((hfl.chg hset (fun k (e : k = w.heap.size) => by omega)).mono (lo' := w.heap.size) (by omega))
  have HDR := Lib.hid hdr; have HFT := Lib.hid hft
  clear hset hb hen hfl hdr hft
  go_wp2
  refine bodyPost_ret (v := .tuple #[.agg #[.slice ua l.length uc], .slice fa fl.length fc]) (by simp [e0, results, Tryz.results27, go_sem]) rfl ⟨l, _, fl, _, rfl, HDR.out, HEN.out, HFL.out, hf12, HFT.out, HBL.out⟩
end Go.Proofs.YtmlklnimoknojaaGreatDoor
