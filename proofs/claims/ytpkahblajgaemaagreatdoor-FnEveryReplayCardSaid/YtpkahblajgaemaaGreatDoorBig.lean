/- Walks: a dictionary of any size checked, on both sides. -/
import Derived.Test.YtpkahblajgaemaaGreatDoorOutD
import Derived.Test.YtpkahblajgaemaaGreatDoorValD
import Derived.Test.YtpkahblajgaemaaGreatDoorMemE
namespace Go.Proofs.YtpkahblajgaemaaGreatDoor.Big
open Go Go.RowKit
set_option maxHeartbeats 4000000
set_option maxRecDepth 100000
/-- a slice of ints, as it is read -/
def IntR (v : World) (u : Value) (l : List Int) : Prop :=
  ∃ (ad : Option Addr) (cap : Nat), u = .slice ad l.length cap ∧ (l.length ≤ 9223372036854775807 ∧ l.length ≤ cap) ∧ (ad = none → cap = 0) ∧ (l = [] ∨ ∃ g o, ad = some ⟨g, o, none⟩ ∧ g < v.heap.size ∧ ∀ (j : Nat) (h : j < l.length), v.cell? ⟨g, o + j, none⟩ = some (.int .i64 (l[j]'h)))
/-- a slice of entries, as it is read -/
def EntR (v : World) (u : Value) (l : P.Dic) : Prop :=
  ∃ (ad : Option Addr) (cap : Nat), u = .slice ad l.length cap ∧ (l.length ≤ 9223372036854775807 ∧ l.length ≤ cap) ∧ (ad = none → cap = 0) ∧ (l = [] ∨ ∃ g o, ad = some ⟨g, o, none⟩ ∧ g < v.heap.size ∧ ∀ (j : Nat) (h : j < l.length), ∃ x, v.cell? ⟨g, o + j * 2, none⟩ = some x ∧ v.cell? ⟨g, o + j * 2 + 1, none⟩ = some (.string (S (l[j]'h).2)) ∧ IntR v x (l[j]'h).1)
theorem IntR.below {v v' : World} {u : Value} {l : List Int} (h : IntR v u l) (hb : Below v.heap.size v v') : IntR v' u l := by
  obtain ⟨ad, cap, h1, h2, hn, h3⟩ := h
  refine ⟨ad, cap, h1, h2, hn, h3.imp id ?_⟩
  rintro ⟨g, o, h4, h5, h6⟩
  exact ⟨g, o, h4, Nat.lt_of_lt_of_le h5 hb.size, fun j hj => (hb.cell (p := ⟨g, _, none⟩) h5).trans (h6 j hj)⟩
theorem EntR.below {v v' : World} {u : Value} {l : P.Dic} (h : EntR v u l) (hb : Below v.heap.size v v') : EntR v' u l := by
  obtain ⟨ad, cap, h1, h2, hn, h3⟩ := h
  refine ⟨ad, cap, h1, h2, hn, h3.imp id ?_⟩
  rintro ⟨g, o, h4, h5, h6⟩
  refine ⟨g, o, h4, Nat.lt_of_lt_of_le h5 hb.size, fun j hj => ?_⟩
  obtain ⟨x, a, b, c⟩ := h6 j hj
  exact ⟨x, (hb.cell (p := ⟨g, _, none⟩) h5).trans a, (hb.cell (p := ⟨g, _, none⟩) h5).trans b, c.below hb⟩
theorem IntR.whole {v : World} {u : Value} {l : List Int} (h : IntR v u l) : Whole u := by
  obtain ⟨ad, cap, h1, _, hn, h3⟩ := h
  cases ad with
  | none =>
    left
    rcases h3 with rfl | ⟨_, _, h, _⟩
    · rw [h1, hn rfl]; rfl
    · cases h
  | some a => exact .inr ⟨a, _, _, h1⟩
theorem EntR.whole {v : World} {u : Value} {l : P.Dic} (h : EntR v u l) : Whole u := by
  obtain ⟨ad, cap, h1, _, hn, h3⟩ := h
  cases ad with
  | none =>
    left
    rcases h3 with rfl | ⟨_, _, h, _⟩
    · rw [h1, hn rfl]; rfl
    · cases h
  | some a => exact .inr ⟨a, _, _, h1⟩
/-- one int of a row -/
theorem IntR.at {v : World} {ad : Option Addr} {n cap : Nat} {l : List Int} (h : IntR v (.slice ad n cap) l) (j : Nat) (hj : j < l.length) : ∃ g o, ad = some ⟨g, o, none⟩ ∧ g < v.heap.size ∧ v.cell? ⟨g, o + j, none⟩ = some (.int .i64 (l[j]'hj)) := by
  obtain ⟨ad', cap', he, _, _, h3⟩ := h
  injection he with h1 h2 h4
  rcases h3 with h3 | ⟨g, o, h5, h6, h7⟩
  · rw [h3] at hj; exact absurd hj (Nat.not_lt_zero _)
  · exact ⟨g, o, h1.trans h5, h6, h7 j hj⟩
/-- one entry of a row -/
theorem EntR.at {v : World} {ad : Option Addr} {n cap : Nat} {l : P.Dic} (h : EntR v (.slice ad n cap) l) (j : Nat) (hj : j < l.length) : ∃ g o, ad = some ⟨g, o, none⟩ ∧ g < v.heap.size ∧ ∃ x, v.cell? ⟨g, o + j * 2, none⟩ = some x ∧ v.cell? ⟨g, o + j * 2 + 1, none⟩ = some (.string (S (l[j]'hj).2)) ∧ IntR v x (l[j]'hj).1 := by
  obtain ⟨ad', cap', he, _, _, h3⟩ := h
  injection he with h1 h2 h4
  rcases h3 with h3 | ⟨g, o, h5, h6, h7⟩
  · rw [h3] at hj; exact absurd hj (Nat.not_lt_zero _)
  · exact ⟨g, o, h1.trans h5, h6, h7 j hj⟩
theorem impl_parseTranslation (s : Str) (w : World) (hs : s.length ≤ 9223372036854775807) (hE : Env w) :
    Calls Tryz.prog 110 #[.string (S s)] w (TransPost s w) := by
  obtain ⟨i0, hi, hz0, hz1, hz2⟩ := info_parts info_atom
  have HE := Lib.hid hE; clear hE
  by_cases h60 : 60 < s.length
  · have HF := Lib.hid (P.trans_long h60)
    have h60' : (60 : Int) < (s.length : Int) := by omega
    go_enter Tryz.func110, Tryz.ntmps110
    go_wp2
    go_ret2
    exact ⟨.slice none 0 0, by rw [HF.out]; rfl, fun h => by (rw [HF.out] at h; cases h), Below.refl _ _⟩
  · have h60' : ¬ (60 : Int) < (s.length : Int) := by omega
    have HBAD := Lib.hid (fun w hw hb => P.trans_bad (s := s) h60 (w := w) hw hb)
    have HMANY := Lib.hid (fun ha => P.trans_many (s := s) h60 ha)
    have HWL := Lib.hid (fun w hw => P.word_len (s := s) (w := w) hw)
    obtain ⟨hw1, hw2⟩ := P.words_len s
    go_enter Tryz.func110, Tryz.ntmps110
    go_wp2_with fail
    refine (split_any _ _ (by omega) (HE.out.alloc _)).mono ?_
    rintro e w1 ⟨rfl, hst, hb⟩
    rw [World.size_alloc] at hst
    generalize hws : P.split 32 s = ws at *
    clear hws
    have hown0 : OwnAtoms w.heap.size w1 (.slice (some ⟨w.heap.size, 0, none⟩) 0 0) [] := own_kept (World.ownsRow_made _ _ _ (Nat.le_refl _) (by decide) (by rfl)) hb (Nat.le_refl _)
    have hbel0 : Below w.heap.size w w1 := ((Below.refl _ _).alloc (Nat.le_refl _) _).trans (hb.mono (by simp))
    clear hb
    go_wp2_with fail
    go_loopw [4, 16] (fun v i wr => ∃ j : Nat, j ≤ ws.length ∧ i = .int .i64 j ∧ (∀ x ∈ ws.take j, (P.parseS x).2 = true) ∧ OwnAtoms w.heap.size wr v ((ws.take j).map fun x => (P.parseS x).1) ∧ StrAt (w.heap.size + 1) ws wr ∧ Below w.heap.size w wr) (fun _ i _ => ws.length - (intOf i).toNat)
    case atStart => exact ⟨0, Nat.zero_le _, rfl, by simp, hown0, hst, hbel0⟩
    case round =>
      obtain ⟨j, hj, rfl, hall, hown, hstr, hbel⟩ := hrel
      clear hown0 hst hbel0
      obtain ⟨out, hout⟩ : ∃ out, out = (ws.take j).map fun x => (P.parseS x).1 := ⟨_, rfl⟩
      have hoj : out.length = j := by rw [hout, List.length_map, List.length_take]; omega
      rw [← hout] at hown
      have HOUT := Lib.hid hout; clear hout
      obtain ⟨ad, cp, rfl⟩ := own_lenA hown
      have HALL := Lib.hid hall
      have HOWN := Lib.hid hown
      have HST := Lib.hid hstr
      have HBEL := Lib.hid hbel
      have hsz := hbel.size
      clear hall hown hbel
      by_cases hlt : j < ws.length
      · have hcell := hstr.2 j hlt
        have hmem : ws[j] ∈ ws := List.getElem_mem hlt
        have hxl := HWL.out _ hmem
        have hsn : ws.take (j + 1) = ws.take j ++ [ws[j]] := take_snoc ws j hlt
        have HSN := Lib.hid hsn
        have HMEM := Lib.hid hmem
        generalize hx : ws[j] = x at *
        clear hstr hsn hmem
        cases hok : (P.parseS x).2
        · have HF := Lib.hid (HBAD.out x HMEM.out hok)
          go_wp2_with fail
          refine (impl_parseAtom x _ (by omega)).mono ?_
          rintro e v ⟨rfl, hb⟩
          rw [hok]
          have HB := Lib.hid (HBEL.out.trans (hb.mono hsz))
          have hvz : w.heap.size ≤ v.heap.size := Nat.le_trans hsz hb.size
          clear hb
          go_wp2
          go_ret2
          exact ⟨.slice none 0 0, by rw [HF.out]; rfl, fun h => by (rw [HF.out] at h; cases h), HB.out.alloc hvz _⟩
        · go_wp2_with fail
          refine (impl_parseAtom x _ (by omega)).mono ?_
          rintro e v ⟨rfl, hb⟩
          rw [hok]
          generalize hpa : (P.parseS x).1 = pa at *
          obtain ⟨pk, pt⟩ := pa
          have HO := Lib.hid (own_kept HOWN.out hb (Nat.le_refl _))
          have HS2 := Lib.hid (HST.out.below hb)
          have HB := Lib.hid (HBEL.out.trans (hb.mono hsz))
          have hvz : w.heap.size ≤ v.heap.size := Nat.le_trans hsz hb.size
          have hjj : j ≤ 100 := by omega
          clear hb
          simp only
          go_wp2_with (at_builtin; refine wpList_append_own _ rfl _ _ 122 rfl w.heap.size 130 i0 (.agg #[.int .i64 0, .string ⟨#[]⟩]) 2 24 Tryz.underlying122 hi hz0 hz1 hz2 rfl (by decide) _ _ _ rfl ((HO.out.alloc _).alloc _) ⟨v.heap.size + 1, 0, none⟩ 1 1 [.int .i64 pk, .string (S pt)] rfl rfl ?c1 ?c2 ?c3 ?c4 ?c5 ?_)
          case c1 => intro j u hj; match j, hj with | 0, hj => (simp at hj; subst hj; simp [Addr.add]) | 1, hj => (simp at hj; subst hj; simp [Addr.add])
          case c2 => intro u hu; simp at hu; rcases hu with rfl | rfl <;> rfl
          case c3 => unfold maxLen; omega
          case c4 => omega
          case c5 => simp; omega
          intro v' w3 hown' hgrow _
          have R := Lib.hid (atoms_rel (x := (pk, pt)) (w1 := v.alloc (.cells #[.int .i64 pk, .string (S pt)] 130)) (o := (.cells #[.int .i64 pk, .string (S pt)] 130)) (v := .slice ad out.length cp) (by simp; omega) (HO.out.alloc _) (HB.out.alloc hvz _) (by first | exact hown' | (rw [hoj]; exact hown')) (by rw [hoj]; exact hgrow))
          have hS2a := (HS2.out.below ((Below.refl _ _).alloc (Nat.le_refl _) (.cells #[.int .i64 pk, .string (S pt)] 130))).below ((Below.refl _ _).alloc (Nat.le_refl _) (.cells #[.int .i64 pk, .string (S pt)] 130))
          have hap := atoms_apart ((HO.out.alloc (.cells #[.int .i64 pk, .string (S pt)] 130)).alloc (.cells #[.int .i64 pk, .string (S pt)] 130)) hS2a
          rw [hoj] at hap
          have hS3 := hS2a.grown hgrow hap
          have HS3 := Lib.hid hS3
          have HPA := Lib.hid hpa; have HOK := Lib.hid hok
          clear hown' hgrow HOWN HBEL HO HB hS3 hS2a hap hpa hok
          go_wp2
          go_roundw
          case rel =>
            refine ⟨j + 1, by omega, by go_num, ?_, ?_, HS3.out, R.out.2⟩
            · rw [HSN.out]
              intro y hy
              rcases List.mem_append.1 hy with hy | hy
              · exact HALL.out y hy
              · rw [List.mem_singleton] at hy; rw [hy]; exact HOK.out
            · rw [HSN.out, List.map_append, ← HOUT.out, List.map_cons, List.map_nil, HPA.out]; exact R.out.1
          case measure => simp [intOf]; omega
      · obtain rfl : j = ws.length := by omega
        have HA := Lib.hid (HMANY.out (by have := HALL.out; rwa [List.take_length] at this))
        by_cases h10 : 10 < ws.length
        · have HF := Lib.hid (show P.transS s = ([], false) by rw [HA.out, if_pos h10])
          have h10' : (10 : Int) < (out.length : Int) := by omega
          go_wp2
          go_ret2
          exact ⟨.slice none 0 0, by rw [HF.out]; rfl, fun h => by (rw [HF.out] at h; cases h), HBEL.out⟩
        · have HF := Lib.hid (show P.transS s = (out, true) by rw [HA.out, if_neg h10, HOUT.out, List.take_length])
          have h10' : ¬ (10 : Int) < (out.length : Int) := by omega
          go_wp2
          go_ret2
          exact ⟨.slice ad ws.length cp, by rw [HF.out]; rfl, fun _ => by (rw [HF.out]; have := HOWN.out; rwa [hoj] at this), HBEL.out⟩
theorem l5Parse (s : Str) (w : World) (hs : s.length ≤ 9223372036854775807) :
    Calls Tryz.prog 137 #[.string (S s)] w (TransPost s w) := by
  obtain ⟨i0, hi, hz0, hz1, hz2⟩ := info_parts info_atom
  by_cases h60 : 60 < s.length
  · have HF := Lib.hid (P.trans_long h60)
    have h60' : (60 : Int) < (s.length : Int) := by omega
    go_enter Tryz.func137, Tryz.ntmps137
    go_wp2
    go_ret2
    exact ⟨.slice (some ⟨w.heap.size, 0, none⟩) 0 0, by rw [HF.out]; rfl, fun h => by (rw [HF.out] at h; cases h), (Below.refl _ _).alloc (Nat.le_refl _) _⟩
  · have h60' : ¬ (60 : Int) < (s.length : Int) := by omega
    have HBAD := Lib.hid (fun w hw hb => P.trans_bad (s := s) h60 (w := w) hw hb)
    have HLIST := Lib.hid (fun ha => P.trans_list (s := s) h60 ha)
    have HWL := Lib.hid (fun w hw => P.word_len (s := s) (w := w) hw)
    obtain ⟨hw1, hw2⟩ := P.words_len s
    go_enter Tryz.func137, Tryz.ntmps137
    go_wp2_with fail
    refine (l1Split32 _ _ (by omega)).mono ?_
    rintro e w1 ⟨vs, rfl, hows, hb⟩
    generalize hws : P.split 32 s = ws at *
    clear hws
    obtain ⟨gs, cs, rfl, _, hst⟩ := own_words hows (by intro e; rw [e] at hw2; exact absurd hw2 (by decide))
    have hown0 : OwnAtoms w.heap.size w1 (.slice (some ⟨w.heap.size, 0, none⟩) 0 0) [] := own_kept (World.ownsRow_made _ _ _ (Nat.le_refl _) (by decide) (by rfl)) hb (Nat.le_refl _)
    have hbel0 : Below w.heap.size w w1 := ((Below.refl _ _).alloc (Nat.le_refl _) _).trans (hb.mono (by simp))
    clear hb hows
    go_wp2_with fail
    go_loopw [4, 6] (fun v i wr => ∃ j : Nat, j ≤ ws.length ∧ i = .int .i64 j ∧ (∀ x ∈ ws.take j, (P.parseS x).2 = true) ∧ OwnAtoms w.heap.size wr v ((ws.take j).map fun x => (P.parseS x).1) ∧ StrAt gs ws wr ∧ Below w.heap.size w wr) (fun _ i _ => ws.length - (intOf i).toNat)
    case atStart => exact ⟨0, Nat.zero_le _, rfl, by simp, hown0, hst, hbel0⟩
    case round =>
      obtain ⟨j, hj, rfl, hall, hown, hstr, hbel⟩ := hrel
      clear hown0 hst hbel0
      obtain ⟨out, hout⟩ : ∃ out, out = (ws.take j).map fun x => (P.parseS x).1 := ⟨_, rfl⟩
      have hoj : out.length = j := by rw [hout, List.length_map, List.length_take]; omega
      rw [← hout] at hown
      have HOUT := Lib.hid hout; clear hout
      obtain ⟨ad, cp, rfl⟩ := own_lenA hown
      have HALL := Lib.hid hall
      have HOWN := Lib.hid hown
      have HST := Lib.hid hstr
      have HBEL := Lib.hid hbel
      have hsz := hbel.size
      clear hall hown hbel
      by_cases hlt : j < ws.length
      · have hcell := hstr.2 j hlt
        have hmem : ws[j] ∈ ws := List.getElem_mem hlt
        have hxl := HWL.out _ hmem
        have hsn : ws.take (j + 1) = ws.take j ++ [ws[j]] := take_snoc ws j hlt
        have HSN := Lib.hid hsn
        have HMEM := Lib.hid hmem
        generalize hx : ws[j] = x at *
        clear hstr hsn hmem
        cases hok : (P.parseS x).2
        · have HF := Lib.hid (HBAD.out x HMEM.out hok)
          go_wp2_with fail
          refine (spec_parseAtom x _ (by omega)).mono ?_
          rintro e v ⟨rfl, hb⟩
          rw [hok]
          have HB := Lib.hid (HBEL.out.trans (hb.mono hsz))
          have hvz : w.heap.size ≤ v.heap.size := Nat.le_trans hsz hb.size
          clear hb
          go_wp2
          go_ret2
          exact ⟨.slice (some ⟨v.heap.size + 1, 0, none⟩) 0 0, by rw [HF.out]; rfl, fun h => by (rw [HF.out] at h; cases h), (HB.out.alloc hvz _).alloc (by simp; omega) _⟩
        · go_wp2_with fail
          refine (spec_parseAtom x _ (by omega)).mono ?_
          rintro e v ⟨rfl, hb⟩
          rw [hok]
          generalize hpa : (P.parseS x).1 = pa at *
          obtain ⟨pk, pt⟩ := pa
          have HO := Lib.hid (own_kept HOWN.out hb (Nat.le_refl _))
          have HS2 := Lib.hid (HST.out.below hb)
          have HB := Lib.hid (HBEL.out.trans (hb.mono hsz))
          have hvz : w.heap.size ≤ v.heap.size := Nat.le_trans hsz hb.size
          have hjj : j ≤ 100 := by omega
          clear hb
          simp only
          go_wp2_with (at_builtin; refine wpList_append_own _ rfl _ _ 122 rfl w.heap.size 130 i0 (.agg #[.int .i64 0, .string ⟨#[]⟩]) 2 24 Tryz.underlying122 hi hz0 hz1 hz2 rfl (by decide) _ _ _ rfl ((HO.out.alloc _).alloc _) ⟨v.heap.size + 1, 0, none⟩ 1 1 [.int .i64 pk, .string (S pt)] rfl rfl ?c1 ?c2 ?c3 ?c4 ?c5 ?_)
          case c1 => intro j u hj; match j, hj with | 0, hj => (simp at hj; subst hj; simp [Addr.add]) | 1, hj => (simp at hj; subst hj; simp [Addr.add])
          case c2 => intro u hu; simp at hu; rcases hu with rfl | rfl <;> rfl
          case c3 => unfold maxLen; omega
          case c4 => omega
          case c5 => simp; omega
          intro v' w3 hown' hgrow _
          have R := Lib.hid (atoms_rel (x := (pk, pt)) (w1 := v.alloc (.cells #[.int .i64 pk, .string (S pt)] 130)) (o := (.cells #[.int .i64 pk, .string (S pt)] 130)) (v := .slice ad out.length cp) (by simp; omega) (HO.out.alloc _) (HB.out.alloc hvz _) (by first | exact hown' | (rw [hoj]; exact hown')) (by rw [hoj]; exact hgrow))
          have hS2a := (HS2.out.below ((Below.refl _ _).alloc (Nat.le_refl _) (.cells #[.int .i64 pk, .string (S pt)] 130))).below ((Below.refl _ _).alloc (Nat.le_refl _) (.cells #[.int .i64 pk, .string (S pt)] 130))
          have hap := atoms_apart ((HO.out.alloc (.cells #[.int .i64 pk, .string (S pt)] 130)).alloc (.cells #[.int .i64 pk, .string (S pt)] 130)) hS2a
          rw [hoj] at hap
          have hS3 := hS2a.grown hgrow hap
          have HS3 := Lib.hid hS3
          have HPA := Lib.hid hpa; have HOK := Lib.hid hok
          clear hown' hgrow HOWN HBEL HO HB hS3 hS2a hap hpa hok
          go_wp2
          go_roundw
          case rel =>
            refine ⟨j + 1, by omega, by go_num, ?_, ?_, HS3.out, R.out.2⟩
            · rw [HSN.out]
              intro y hy
              rcases List.mem_append.1 hy with hy | hy
              · exact HALL.out y hy
              · rw [List.mem_singleton] at hy; rw [hy]; exact HOK.out
            · rw [HSN.out, List.map_append, ← HOUT.out, List.map_cons, List.map_nil, HPA.out]; exact R.out.1
          case measure => simp [intOf]; omega
      · obtain rfl : j = ws.length := by omega
        have HA := Lib.hid (HLIST.out (by have := HALL.out; rwa [List.take_length] at this))
        have HAT := Lib.hid (own_atoms HOWN.out)
        have hol : ∀ a ∈ out, a.2.length ≤ 60 := by
          intro a ha
          rw [HOUT.out, List.take_length, List.mem_map] at ha
          obtain ⟨y, hy, rfl⟩ := ha
          have h1 := P.parse_len y
          have h2 := HWL.out y hy
          omega
        have HOL := Lib.hid hol; clear hol hstr
        have HX := Lib.hid (show P.transS s = if P.listS out then (out, true) else ([], false) by rw [HA.out, HOUT.out, List.take_length])
        have hat : AtomR wr (.slice ad ws.length cp) out := by have := HAT.out; rwa [hoj] at this
        have hown2 : OwnAtoms w.heap.size wr (.slice ad ws.length cp) out := by have := HOWN.out; rwa [hoj] at this
        have HOWN2 := Lib.hid hown2; have HAT2 := Lib.hid hat
        clear hat hown2 HOWN HAT
        go_wp2_with fail
        refine (l5List _ out _ HAT2.out (by omega) HOL.out).mono ?_
        rintro e v ⟨rfl, hb⟩
        have HO2 := Lib.hid (own_kept HOWN2.out hb (Nat.le_refl _))
        have HB := Lib.hid (HBEL.out.trans (hb.mono hsz))
        have hvz : w.heap.size ≤ v.heap.size := Nat.le_trans hsz hb.size
        clear hb
        cases hls : P.listS out
        · have HF := Lib.hid (show P.transS s = ([], false) by rw [HX.out, hls]; rfl)
          go_wp2
          go_ret2
          exact ⟨.slice (some ⟨v.heap.size, 0, none⟩) 0 0, by rw [HF.out]; rfl, fun h => by (rw [HF.out] at h; cases h), HB.out.alloc hvz _⟩
        · have HF := Lib.hid (show P.transS s = (out, true) by rw [HX.out, hls]; rfl)
          go_wp2
          go_ret2
          exact ⟨.slice ad ws.length cp, by rw [HF.out]; rfl, fun _ => by (rw [HF.out]; exact HO2.out), HB.out⟩
theorem src_of_ints {v : World} {u : Value} {l : List Int} (h : IntR v u l) : SrcIs v 1 u l.length (ints l) := by
  have hn := h.whole
  obtain ⟨ad, cap, rfl, _, _, hr⟩ := h
  refine ⟨by simp, by intro x hx; obtain ⟨n, _, rfl⟩ := List.mem_map.1 hx; rfl, ?_⟩
  rcases hn with hn | ⟨ad', n, c, hn⟩
  · injection hn with h1 h2 h3
    subst h1 h3
    exact .inl ⟨by rw [h2], h2⟩
  · injection hn with h1 h2 h3
    subst h1
    refine .inr ⟨ad', cap, rfl, fun j x hx => ?_⟩
    rcases hr with rfl | ⟨g, o, hg, _, hc⟩
    · simp at hx
    · injection hg with hg
      subst hg
      have hj : j < l.length := by
        rcases Nat.lt_or_ge j l.length with h | h
        · exact h
        · rw [List.getElem?_eq_none (by simpa using h)] at hx; cases hx
      rw [List.getElem?_map, List.getElem?_eq_getElem hj] at hx
      simp only [Option.map_some, Option.some.injEq] at hx
      subst hx
      have e : (⟨g, o, none⟩ : Addr).add j = ⟨g, o + j, none⟩ := by unfold Addr.add; split <;> simp_all
      rw [e]
      exact hc j hj
theorem l4Good (u : Value) (l : List Int) (w : World) (hu : IntR w u l) :
    Calls Tryz.prog 138 #[u] w fun e w' => e = .returned (.bool (P.outline l)) ∧ w = w' := by
  obtain ⟨ad, cap, rfl, hl, _, hr⟩ := hu
  have HR := Lib.hid hr; clear hr
  cases h1 : decide (1 ≤ (l.length : Int) ∧ (l.length : Int) ≤ 6)
  · have HF := Lib.hid (show P.outline l = false by unfold P.outline; rw [h1]; rfl)
    go_enter Tryz.func138, Tryz.ntmps138
    go_wp2_with (go_at_call 127; refine (l1In _ _ _ _).mono ?_; rintro e w' ⟨rfl, rfl⟩)
    go_ret
    exact ⟨ret_bool HF.out.symm, rfl⟩
  · have hle := of_decide_eq_true h1
    obtain ⟨hle1, hle2⟩ := hle
    have HF := Lib.hid (show P.outline l = l.all P.stroke by unfold P.outline; rw [h1]; rfl)
    obtain ⟨g, o, rfl, hg, hat⟩ : ∃ g o, ad = some ⟨g, o, none⟩ ∧ g < w.heap.size ∧ ∀ (j : Nat) (h : j < l.length), w.cell? ⟨g, o + j, none⟩ = some (.int .i64 (l[j]'h)) := by
      rcases HR.out with h | h
      · rw [h] at hle1; exact absurd hle1 (by decide)
      · exact h
    have HAT := Lib.hid hat
    clear hat HR
    go_enter Tryz.func138, Tryz.ntmps138
    go_wp2_with (go_at_call 127; refine (l1In _ _ _ _).mono ?_; rintro e w' ⟨rfl, rfl⟩)
    go_loop [3] (fun i => ∃ j : Nat, j ≤ l.length ∧ i = .int .i64 j ∧ (l.take j).all P.stroke = true) (fun i => l.length - (intOf i).toNat)
    case atStart => exact ⟨0, Nat.zero_le _, rfl, by simp⟩
    case round =>
      obtain ⟨j, hj, rfl, ha⟩ := hrel
      have HA := Lib.hid ha; clear ha
      by_cases hlt : j < l.length
      · have hc := HAT.out j hlt
        have HSN := Lib.hid (take_snoc l j hlt)
        generalize l[j] = x at *
        cases hx : P.stroke x
        · have HNO := Lib.hid (show l.all P.stroke = false by
            rw [← List.take_append_drop (j + 1) l, HSN.out, List.all_append, List.all_append]
            simp [hx])
          go_wp2_with (go_at_call 85; refine (l2Good _ _).mono ?_; rintro e w' ⟨rfl, rfl⟩)
          go_ret
          exact ⟨ret_bool (by rw [HF.out, HNO.out]), rfl⟩
        · have HX := Lib.hid hx
          go_wp2_with (go_at_call 85; refine (l2Good _ _).mono ?_; rintro e w' ⟨rfl, rfl⟩)
          go_round
          case rel => exact ⟨j + 1, by omega, by go_num, by rw [HSN.out, List.all_append, HA.out]; simp [HX.out]⟩
          case measure => simp [intOf]; omega
      · have HT := Lib.hid (show l.all P.stroke = true by have := HA.out; rwa [List.take_of_length_le (by omega)] at this)
        go_wp2
        go_ret
        exact ⟨ret_bool (by rw [HF.out, HT.out]), rfl⟩
theorem l4Compare (u v : Value) (a b : List Int) (w : World) (hu : IntR w u a) (hv : IntR w v b) :
    Calls Tryz.prog 106 #[u, v] w fun e w' => e = .returned (.int .i64 (P.cmp a b)) ∧ Below w.heap.size w w' := by
  have HU := Lib.hid hu; have HV := Lib.hid hv
  obtain ⟨ad, cap, rfl, hla, _⟩ := hu
  obtain ⟨bd, dap, rfl, hlb, _⟩ := hv
  go_enter Tryz.func106, Tryz.ntmps106
  go_wp2
  go_loopw [5] (fun i wr => ∃ j : Nat, j ≤ a.length ∧ j ≤ b.length ∧ i = .int .i64 j ∧ P.cmp a b = P.cmp (a.drop j) (b.drop j) ∧ Below w.heap.size w wr) (fun i _ => a.length - (intOf i).toNat)
  case atStart => exact ⟨0, Nat.zero_le _, Nat.zero_le _, rfl, rfl, Below.refl _ _⟩
  case round =>
    obtain ⟨j, hja, hjb, rfl, hc, hb⟩ := hrel
    have HC := Lib.hid hc; clear hc
    have HB := Lib.hid hb
    by_cases h1 : j < a.length
    · by_cases h2 : j < b.length
      · obtain ⟨g, o, hga, hgl, c0⟩ := (HU.out.below hb).at j h1
        obtain ⟨g', o', hgb, hgl', d0⟩ := (HV.out.below hb).at j h2
        have HST := Lib.hid (P.cmp_step h1 h2)
        subst hga hgb
        generalize a[j] = x at *
        generalize b[j] = y at *
        clear hb
        have i1 : (j : Int) < (a.length : Int) := by omega
        have i2 : (j : Int) < (b.length : Int) := by omega
        rcases Int.lt_trichotomy x y with h | h | h
        · have HF := Lib.hid (show P.cmp a b = -1 by rw [HC.out, HST.out, if_pos h])
          go_wp2_with fail
          go_quiet (fail)
          go_wp2
          go_ret
          exact ⟨(by first | (rw [HF.out]; done) | (rw [HF.out]; rfl)), below_drewN HB.out _⟩
        · have n1 : ¬ x < y := by omega
          have n2 : ¬ y < x := by omega
          have HN := Lib.hid (show P.cmp a b = P.cmp (a.drop (j + 1)) (b.drop (j + 1)) by rw [HC.out, HST.out, if_neg n1, if_neg n2])
          clear h
          go_wp2_with fail
          go_quiet (fail)
          go_wp2_with fail
          go_quiet (fail)
          go_wp2
          go_roundw
          case rel => exact ⟨j + 1, by omega, by omega, by go_num, HN.out, by first | exact below_drewN (below_drewN HB.out _) _ | exact below_drewN HB.out _⟩
          case measure => simp [intOf]; omega
        · have n1 : ¬ x < y := by omega
          have HF := Lib.hid (show P.cmp a b = 1 by rw [HC.out, HST.out, if_neg n1, if_pos h])
          go_wp2_with fail
          go_quiet (fail)
          go_wp2_with fail
          go_quiet (fail)
          go_wp2
          go_ret
          exact ⟨(by first | (rw [HF.out]; done) | (rw [HF.out]; rfl)), by first | exact below_drewN (below_drewN HB.out _) _ | exact below_drewN HB.out _⟩
      · have hbl : b.length = j := by omega
        have HF := Lib.hid (show P.cmp a b = 1 by
          rw [HC.out, List.drop_eq_getElem_cons h1, List.drop_of_length_le (l := b) (by omega)]; rfl)
        have k1 : ¬ (j : Int) < (b.length : Int) := by omega
        have k2 : ¬ (a.length : Int) < (b.length : Int) := by omega
        have k3 : (b.length : Int) < (a.length : Int) := by omega
        clear hb
        go_wp2
        go_ret
        exact ⟨(by first | (rw [HF.out]; done) | (rw [HF.out]; rfl)), HB.out⟩
    · have k0 : ¬ (j : Int) < (a.length : Int) := by omega
      clear hb
      by_cases h2 : j < b.length
      · have HF := Lib.hid (show P.cmp a b = -1 by
          rw [HC.out, List.drop_eq_getElem_cons h2, List.drop_of_length_le (l := a) (by omega)]; rfl)
        have k2 : (a.length : Int) < (b.length : Int) := by omega
        go_wp2
        go_ret
        exact ⟨(by first | (rw [HF.out]; done) | (rw [HF.out]; rfl)), HB.out⟩
      · have HF := Lib.hid (show P.cmp a b = 0 by
          rw [HC.out, List.drop_of_length_le (l := a) (by omega), List.drop_of_length_le (l := b) (by omega)]; rfl)
        have k2 : ¬ (a.length : Int) < (b.length : Int) := by omega
        have k3 : ¬ (b.length : Int) < (a.length : Int) := by omega
        go_wp2
        go_ret
        exact ⟨(by first | (rw [HF.out]; done) | (rw [HF.out]; rfl)), HB.out⟩
theorem l6Entry (u : Value) (l : List Int) (t : Str) (w : World) (hu : IntR w u l) (ht : t.length ≤ 9223372036854775807) :
    Calls Tryz.prog 105 #[.agg #[u, .string (S t)]] w fun e w' => e = .returned (.bool (P.entry (l, t))) ∧ Below w.heap.size w w' := by
  have HU := Lib.hid (hu.below ((Below.refl _ _).alloc (Nat.le_refl _) (.cells #[u, .string (S t)] 47)))
  obtain ⟨ad, cap, rfl, _, _⟩ := hu
  have HF := Lib.hid (show P.entry (l, t) = (P.outline l && (P.transS t).2) from rfl)
  go_enter Tryz.func105, Tryz.ntmps105
  go_wp2_with fail
  refine (l5Parse _ _ ht).mono ?_
  rintro e w1 ⟨v, rfl, _, hb⟩
  have HU1 := Lib.hid (HU.out.below hb)
  obtain ⟨hcc, _⟩ := bcell hb
  have hz := grew0 hb
  have c0 : w1.cell? ⟨w.heap.size, 0, none⟩ = some (.slice ad l.length cap) := by rw [hcc _ _ (by simp)]; go_simp
  have HB := Lib.hid (((Below.refl w.heap.size w).alloc (Nat.le_refl _) (.cells #[.slice ad l.length cap, .string (S t)] 47)).trans (hb.mono (by simp)))
  clear hb hcc HU
  generalize (P.transS t).2 = ok at *
  go_wp2_with fail
  refine (l4Good _ l _ HU1.out).mono ?_
  rintro e w2 ⟨rfl, rfl⟩
  generalize P.outline l = o at *
  cases o
  · go_wp2
    go_ret
    exact ⟨ret_bool (by rw [HF.out]; rfl), HB.out⟩
  · go_wp2
    go_ret
    exact ⟨ret_bool (by rw [HF.out]; rfl), HB.out⟩
/-- the dictionary's box, its row and the world, as a walk keeps them -/
def KD (w : World) (u : Value) (l : P.Dic) (v : World) : Prop :=
  v.cell? ⟨w.heap.size, 0, none⟩ = some u ∧ w.heap.size < v.heap.size ∧ EntR v u l ∧ Below w.heap.size w v
theorem KD.step {w v v' : World} {u : Value} {l : P.Dic} (h : KD w u l v) (hb : Below v.heap.size v v') : KD w u l v' := by
  obtain ⟨h1, h2, h3, h4⟩ := h
  exact ⟨(hb.cell (p := ⟨w.heap.size, 0, none⟩) h2).trans h1, Nat.lt_of_lt_of_le h2 hb.size, h3.below hb, h4.trans (hb.mono (by omega))⟩
theorem KD.drew {w v : World} {u : Value} {l : P.Dic} (h : KD w u l v) : KD w u l v.drew := h.step (Below.refl _ _).drew
/-- what region 6 of l6Good keeps: the box, the entry's cells -/
def K6 (w : World) (u : Value) (l : P.Dic) (g p : Nat) (x : Value) (eo : List Int) (et : Str) (v : World) : Prop :=
  v.cell? ⟨w.heap.size, 0, none⟩ = some u ∧ v.cell? ⟨g, p, none⟩ = some x ∧ v.cell? ⟨g, p + 1, none⟩ = some (.string (S et)) ∧ g < v.heap.size ∧ IntR v x eo ∧ KD w u l v
theorem K6.step {w v v' : World} {u : Value} {l : P.Dic} {g p : Nat} {x : Value} {eo : List Int} {et : Str} (h : K6 w u l g p x eo et v) (hb : Below v.heap.size v v') : K6 w u l g p x eo et v' := by
  obtain ⟨h1, h2, h3, h4, h5, h6⟩ := h
  exact ⟨(h6.step hb).1, (hb.cell (p := ⟨g, p, none⟩) h4).trans h2, (hb.cell (p := ⟨g, p + 1, none⟩) h4).trans h3, Nat.lt_of_lt_of_le h4 hb.size, h5.below hb, h6.step hb⟩
def K7 (w : World) (u : Value) (l : P.Dic) (g p : Nat) (x : Value) (eo : List Int) (et : Str) (q : Nat) (y : Value) (po : List Int) (v : World) : Prop :=
  v.cell? ⟨w.heap.size, 0, none⟩ = some u ∧ v.cell? ⟨g, p, none⟩ = some x ∧ v.cell? ⟨g, p + 1, none⟩ = some (.string (S et)) ∧ v.cell? ⟨g, q, none⟩ = some y ∧ IntR v y po ∧ K6 w u l g p x eo et v
theorem K7.step {w v v' : World} {u : Value} {l : P.Dic} {g p : Nat} {x : Value} {eo : List Int} {et : Str} {q : Nat} {y : Value} {po : List Int} (h : K7 w u l g p x eo et q y po v) (hb : Below v.heap.size v v') : K7 w u l g p x eo et q y po v' := by
  obtain ⟨h1, h2, h3, h4, h5, h6⟩ := h
  exact ⟨(h6.step hb).1, (h6.step hb).2.1, (h6.step hb).2.2.1, (hb.cell (p := ⟨g, q, none⟩) h6.2.2.2.1).trans h4, h5.below hb, h6.step hb⟩
theorem l6Good (u : Value) (l : P.Dic) (w : World) (hu : EntR w u l) (ht : ∀ e ∈ l, e.2.length ≤ 9223372036854775807) :
    Calls Tryz.prog 62 #[.agg #[u]] w fun e w' => e = .returned (.bool (P.dic l)) ∧ Below w.heap.size w w' := by
  have K0 : KD w u l (w.alloc (.cells #[u] 26)) := ⟨by go_simp, by simp, hu.below ((Below.refl _ _).alloc (Nat.le_refl _) _), (Below.refl _ _).alloc (Nat.le_refl _) _⟩
  have HT := Lib.hid ht; clear ht
  obtain ⟨ad, cap, rfl, hl, _⟩ := hu
  by_cases h40 : 40 < l.length
  · have HF := Lib.hid (show P.dic l = false by unfold P.dic; rw [decide_eq_false (by omega)]; rfl)
    have h40' : (40 : Int) < (l.length : Int) := by omega
    go_enter Tryz.func62, Tryz.ntmps62
    go_wp2
    go_ret
    exact ⟨ret_bool HF.out.symm, K0.2.2.2⟩
  · have HF := Lib.hid (show P.dic l = (l.all P.entry && P.rising l) by unfold P.dic; rw [decide_eq_true (by omega)]; rfl)
    have h40' : ¬ (40 : Int) < (l.length : Int) := by omega
    go_enter Tryz.func62, Tryz.ntmps62
    go_wp2_with fail
    go_loopw [3] (fun i wr => ∃ j : Nat, j ≤ l.length ∧ i = .int .i64 j ∧ (l.take j).all P.entry = true ∧ P.rising (l.take j) = true ∧ KD w (.slice ad l.length cap) l wr) (fun i _ => l.length - (intOf i).toNat)
    case atStart => exact ⟨0, Nat.zero_le _, rfl, by simp, rfl, K0⟩
    case round =>
      obtain ⟨j, hj, rfl, ha, hr, K1⟩ := hrel
      clear K0
      have HA := Lib.hid ha; have HR := Lib.hid hr
      clear ha hr
      have HK := Lib.hid K1
      obtain ⟨d0, dz, hent, hbel⟩ := K1
      by_cases hlt : j < l.length
      · obtain ⟨g, o, rfl, hg, x, c0, c1, hx⟩ := hent.at j hlt
        have htl := HT.out _ (List.getElem_mem hlt)
        have HSN := Lib.hid (take_snoc l j hlt)
        have i1 : (j : Int) < (l.length : Int) := by omega
        have HS := Lib.hid (show K6 w (.slice (some ⟨g, o, none⟩) l.length cap) l g (o + j * 2) x l[j].1 l[j].2 wr.drew from K6.step ⟨d0, c0, c1, hg, hx, HK.out⟩ (Below.refl _ _).drew)
        cases hok : P.entry l[j]
        · have HNO := Lib.hid (show l.all P.entry = false by
            rw [← List.take_append_drop (j + 1) l, HSN.out, List.all_append, List.all_append]
            simp [hok])
          clear hent hbel hx
          generalize l[j] = en at *
          obtain ⟨eo, et⟩ := en
          simp only at c1 htl HS
          go_upto_region 6 with fail
          refine wp_region_held_drew (S := K6 w (.slice (some ⟨g, o, none⟩) l.length cap) l g (o + j * 2) x eo et) (by kernel_rfl) HS.out (fun hS0 => ?_)
          refine wpAnyH_take (i := 0) (v := .pointer (some ⟨w.heap.size, 0, none⟩)) rfl (by kernel_rfl) (by kernel_rfl) (by kernel_rfl) (fun _ _ _ h => h) (Or.inl ⟨by rfl, fun z hz => ?_⟩) hS0 ?_
          · obtain ⟨z1, z2, z3, z4, z5, z6⟩ := hz
            go_simp
          try simp only [List.getElem_toArray, List.getElem_cons_zero, Act.put, List.setIfInBounds_toArray, List.set_cons_zero, List.set_cons_succ]
          refine wpAnyH_take (i := 1) (v := .slice (some ⟨g, o, none⟩) l.length cap) rfl (by kernel_rfl) (by kernel_rfl) (by kernel_rfl) (fun _ _ _ h => h) (Or.inl ⟨by rfl, fun z hz => ?_⟩) hS0 ?_
          · obtain ⟨z1, z2, z3, z4, z5, z6⟩ := hz
            go_simp
          try simp only [List.getElem_toArray, List.getElem_cons_zero, List.getElem_cons_succ, Act.put, List.setIfInBounds_toArray, List.set_cons_zero, List.set_cons_succ]
          refine wpAnyH_take (i := 2) (v := .int .i64 j) rfl (by kernel_rfl) (by kernel_rfl) (by kernel_rfl) (fun _ _ _ h => h) (Or.inl ⟨by rfl, fun z hz => ?_⟩) hS0 ?_
          · obtain ⟨z1, z2, z3, z4, z5, z6⟩ := hz
            go_simp
          try simp only [List.getElem_toArray, List.getElem_cons_zero, List.getElem_cons_succ, Act.put, List.setIfInBounds_toArray, List.set_cons_zero, List.set_cons_succ]
          refine wpAnyH_take (i := 3) (v := .pointer (some ⟨g, o + j * 2, none⟩)) rfl (by kernel_rfl) (by kernel_rfl) (by kernel_rfl) (fun _ _ _ h => h) (Or.inl ⟨by rfl, fun z hz => ?_⟩) hS0 ?_
          · obtain ⟨z1, z2, z3, z4, z5, z6⟩ := hz
            go_simp
          try simp only [List.getElem_toArray, List.getElem_cons_zero, List.getElem_cons_succ, Act.put, List.setIfInBounds_toArray, List.set_cons_zero, List.set_cons_succ]
          refine wpAnyH_take (i := 4) (v := .agg #[x, .string (S et)]) rfl (by kernel_rfl) (by kernel_rfl) (by kernel_rfl) (fun _ _ _ h => h) (Or.inl ⟨by rfl, fun z hz => ?_⟩) hS0 ?_
          · obtain ⟨z1, z2, z3, z4, z5, z6⟩ := hz
            go_simp
          try simp only [List.getElem_toArray, List.getElem_cons_zero, List.getElem_cons_succ, Act.put, List.setIfInBounds_toArray, List.set_cons_zero, List.set_cons_succ]
          refine wpAnyH_ready (rs := [5]) (by kernel_rfl) (by simp) ?_
          refine AllReadyH.cons rfl (fun K hK => ?_) AllReadyH.nil
          have HS1 := Lib.hid hS0
          have HX := Lib.hid (hS0.2.2.2.2.1)
          go_simp
          refine (l6Entry x eo et _ HX.out htl).mono ?_
          rintro e v ⟨rfl, hb⟩
          rw [hok]
          refine hK.out _ _ (HS1.out.step hb) (fun hS1 => ?_)
          clear hK K hb
          try simp only [List.getElem_toArray, List.getElem_cons_zero, List.getElem_cons_succ, Act.put, List.setIfInBounds_toArray, List.set_cons_zero, List.set_cons_succ]
          refine wpAnyH_take (i := 6) (v := .bool true) rfl (by kernel_rfl) (by kernel_rfl) (by kernel_rfl) (fun _ _ _ h => h) (Or.inl ⟨by rfl, fun z hz => ?_⟩) hS1 ?_
          · obtain ⟨z1, z2, z3, z4, z5, z6⟩ := hz
            go_simp
          try simp only [List.getElem_toArray, List.getElem_cons_zero, List.getElem_cons_succ, Act.put, List.setIfInBounds_toArray, List.set_cons_zero, List.set_cons_succ]
          refine wpAnyH_take (i := 7) (v := .bool true) rfl (by kernel_rfl) (by kernel_rfl) (by kernel_rfl) (fun _ _ _ h => h) (Or.inl ⟨by rfl, fun z hz => ?_⟩) hS1 ?_
          · obtain ⟨z1, z2, z3, z4, z5, z6⟩ := hz
            go_simp
          try simp only [List.getElem_toArray, List.getElem_cons_zero, List.getElem_cons_succ, Act.put, List.setIfInBounds_toArray, List.set_cons_zero, List.set_cons_succ]
          refine wpAnyH_take (i := 8) rfl (by kernel_rfl) (by kernel_rfl) (by kernel_rfl) (fun _ _ _ h => h) (Or.inr ⟨by rfl, rfl⟩) hS1 ?_
          try simp only [List.getElem_toArray, List.getElem_cons_zero, List.getElem_cons_succ, Act.put, List.setIfInBounds_toArray, List.set_cons_zero, List.set_cons_succ]
          refine wpAnyH_take (i := 9) rfl (by kernel_rfl) (by kernel_rfl) (by kernel_rfl) (fun _ _ _ h => h) (Or.inr ⟨by rfl, rfl⟩) hS1 ?_
          try simp only [List.getElem_toArray, List.getElem_cons_zero, List.getElem_cons_succ, Act.put, List.setIfInBounds_toArray, List.set_cons_zero, List.set_cons_succ]
          refine wpAnyH_take (i := 10) rfl (by kernel_rfl) (by kernel_rfl) (by kernel_rfl) (fun _ _ _ h => h) (Or.inr ⟨by rfl, rfl⟩) hS1 ?_
          try simp only [List.getElem_toArray, List.getElem_cons_zero, List.getElem_cons_succ, Act.put, List.setIfInBounds_toArray, List.set_cons_zero, List.set_cons_succ]
          refine wpAnyH_take (i := 11) rfl (by kernel_rfl) (by kernel_rfl) (by kernel_rfl) (fun _ _ _ h => h) (Or.inr ⟨by rfl, rfl⟩) hS1 ?_
          try simp only [List.getElem_toArray, List.getElem_cons_zero, List.getElem_cons_succ, Act.put, List.setIfInBounds_toArray, List.set_cons_zero, List.set_cons_succ]
          refine wpAnyH_take (i := 12) rfl (by kernel_rfl) (by kernel_rfl) (by kernel_rfl) (fun _ _ _ h => h) (Or.inr ⟨by rfl, rfl⟩) hS1 ?_
          try simp only [List.getElem_toArray, List.getElem_cons_zero, List.getElem_cons_succ, Act.put, List.setIfInBounds_toArray, List.set_cons_zero, List.set_cons_succ]
          refine wpAnyH_take (i := 13) rfl (by kernel_rfl) (by kernel_rfl) (by kernel_rfl) (fun _ _ _ h => h) (Or.inr ⟨by rfl, rfl⟩) hS1 ?_
          try simp only [List.getElem_toArray, List.getElem_cons_zero, List.getElem_cons_succ, Act.put, List.setIfInBounds_toArray, List.set_cons_zero, List.set_cons_succ]
          refine wpAnyH_take (i := 14) rfl (by kernel_rfl) (by kernel_rfl) (by kernel_rfl) (fun _ _ _ h => h) (Or.inr ⟨by rfl, rfl⟩) hS1 ?_
          try simp only [List.getElem_toArray, List.getElem_cons_zero, List.getElem_cons_succ, Act.put, List.setIfInBounds_toArray, List.set_cons_zero, List.set_cons_succ]
          refine wpAnyH_take (i := 15) rfl (by kernel_rfl) (by kernel_rfl) (by kernel_rfl) (fun _ _ _ h => h) (Or.inr ⟨by rfl, rfl⟩) hS1 ?_
          try simp only [List.getElem_toArray, List.getElem_cons_zero, List.getElem_cons_succ, Act.put, List.setIfInBounds_toArray, List.set_cons_zero, List.set_cons_succ]
          refine wpAnyH_take (i := 16) rfl (by kernel_rfl) (by kernel_rfl) (by kernel_rfl) (fun _ _ _ h => h) (Or.inr ⟨by rfl, rfl⟩) hS1 ?_
          try simp only [List.getElem_toArray, List.getElem_cons_zero, List.getElem_cons_succ, Act.put, List.setIfInBounds_toArray, List.set_cons_zero, List.set_cons_succ]
          refine wpAnyH_take (i := 17) rfl (by kernel_rfl) (by kernel_rfl) (by kernel_rfl) (fun _ _ _ h => h) (Or.inr ⟨by rfl, rfl⟩) hS1 ?_
          try simp only [List.getElem_toArray, List.getElem_cons_zero, List.getElem_cons_succ, Act.put, List.setIfInBounds_toArray, List.set_cons_zero, List.set_cons_succ]
          refine wpAnyH_take (i := 18) rfl (by kernel_rfl) (by kernel_rfl) (by kernel_rfl) (fun _ _ _ h => h) (Or.inr ⟨by rfl, rfl⟩) hS1 ?_
          try simp only [List.getElem_toArray, List.getElem_cons_zero, List.getElem_cons_succ, Act.put, List.setIfInBounds_toArray, List.set_cons_zero, List.set_cons_succ]
          refine wpAnyH_take (i := 19) rfl (by kernel_rfl) (by kernel_rfl) (by kernel_rfl) (fun _ _ _ h => h) (Or.inr ⟨by rfl, rfl⟩) hS1 ?_
          try simp only [List.getElem_toArray, List.getElem_cons_zero, List.getElem_cons_succ, Act.put, List.setIfInBounds_toArray, List.set_cons_zero, List.set_cons_succ]
          refine wpAnyH_take (i := 20) rfl (by kernel_rfl) (by kernel_rfl) (by kernel_rfl) (fun _ _ _ h => h) (Or.inr ⟨by rfl, rfl⟩) hS1 ?_
          try simp only [List.getElem_toArray, List.getElem_cons_zero, List.getElem_cons_succ, Act.put, List.setIfInBounds_toArray, List.set_cons_zero, List.set_cons_succ]
          refine wpAnyH_take (i := 21) rfl (by kernel_rfl) (by kernel_rfl) (by kernel_rfl) (fun _ _ _ h => h) (Or.inr ⟨by rfl, rfl⟩) hS1 ?_
          try simp only [List.getElem_toArray, List.getElem_cons_zero, List.getElem_cons_succ, Act.put, List.setIfInBounds_toArray, List.set_cons_zero, List.set_cons_succ]
          refine wpAnyH_take (i := 22) rfl (by kernel_rfl) (by kernel_rfl) (by kernel_rfl) (fun _ _ _ h => h) (Or.inr ⟨by rfl, rfl⟩) hS1 ?_
          try simp only [List.getElem_toArray, List.getElem_cons_zero, List.getElem_cons_succ, Act.put, List.setIfInBounds_toArray, List.set_cons_zero, List.set_cons_succ]
          refine wpAnyH_take (i := 23) rfl (by kernel_rfl) (by kernel_rfl) (by kernel_rfl) (fun _ _ _ h => h) (Or.inr ⟨by rfl, rfl⟩) hS1 ?_
          try simp only [List.getElem_toArray, List.getElem_cons_zero, List.getElem_cons_succ, Act.put, List.setIfInBounds_toArray, List.set_cons_zero, List.set_cons_succ]
          refine wpAnyH_take (i := 24) rfl (by kernel_rfl) (by kernel_rfl) (by kernel_rfl) (fun _ _ _ h => h) (Or.inr ⟨by rfl, rfl⟩) hS1 ?_
          try simp only [List.getElem_toArray, List.getElem_cons_zero, List.getElem_cons_succ, Act.put, List.setIfInBounds_toArray, List.set_cons_zero, List.set_cons_succ]
          refine wpAnyH_take (i := 25) rfl (by kernel_rfl) (by kernel_rfl) (by kernel_rfl) (fun _ _ _ h => h) (Or.inr ⟨by rfl, rfl⟩) hS1 ?_
          try simp only [List.getElem_toArray, List.getElem_cons_zero, List.getElem_cons_succ, Act.put, List.setIfInBounds_toArray, List.set_cons_zero, List.set_cons_succ]
          refine wpAnyH_take (i := 26) rfl (by kernel_rfl) (by kernel_rfl) (by kernel_rfl) (fun _ _ _ h => h) (Or.inr ⟨by rfl, rfl⟩) hS1 ?_
          try simp only [List.getElem_toArray, List.getElem_cons_zero, List.getElem_cons_succ, Act.put, List.setIfInBounds_toArray, List.set_cons_zero, List.set_cons_succ]
          refine wpAnyH_take (i := 27) (v := .bool true) rfl (by kernel_rfl) (by kernel_rfl) (by kernel_rfl) (fun _ _ _ h => h) (Or.inl ⟨by rfl, fun z hz => ?_⟩) hS1 ?_
          · obtain ⟨z1, z2, z3, z4, z5, z6⟩ := hz
            go_simp
          try simp only [List.getElem_toArray, List.getElem_cons_zero, List.getElem_cons_succ, Act.put, List.setIfInBounds_toArray, List.set_cons_zero, List.set_cons_succ]
          refine wpAnyH_done (by kernel_rfl) ?_ _
          have HB := Lib.hid (hS1.2.2.2.2.2.2.2.2)
          clear hS0 hS1 HS1
          go_wp2
          go_ret
          exact ⟨ret_bool (by rw [HF.out, HNO.out]; rfl), HB.out⟩
        · have HALL2 := Lib.hid (show (l.take (j + 1)).all P.entry = true by rw [HSN.out, List.all_append, HA.out]; simp [hok])
          by_cases hj0 : j = 0
          · have HR2 := Lib.hid (show P.rising (l.take (j + 1)) = true by rw [HSN.out]; subst hj0; rfl)
            subst hj0
            clear hent hbel hx
            generalize l[0] = en at *
            obtain ⟨eo, et⟩ := en
            simp only [Nat.zero_mul, Nat.add_zero] at c0 c1 htl HS
            go_upto_region 6 with fail
            refine wp_region_held_drew (S := K6 w (.slice (some ⟨g, o, none⟩) l.length cap) l g (o) x eo et) (by kernel_rfl) HS.out (fun hS0 => ?_)
            refine wpAnyH_take (i := 0) (v := .pointer (some ⟨w.heap.size, 0, none⟩)) rfl (by kernel_rfl) (by kernel_rfl) (by kernel_rfl) (fun _ _ _ h => h) (Or.inl ⟨by rfl, fun z hz => ?_⟩) hS0 ?_
            · obtain ⟨z1, z2, z3, z4, z5, z6⟩ := hz
              go_simp
            try simp only [List.getElem_toArray, List.getElem_cons_zero, Act.put, List.setIfInBounds_toArray, List.set_cons_zero, List.set_cons_succ]
            refine wpAnyH_take (i := 1) (v := .slice (some ⟨g, o, none⟩) l.length cap) rfl (by kernel_rfl) (by kernel_rfl) (by kernel_rfl) (fun _ _ _ h => h) (Or.inl ⟨by rfl, fun z hz => ?_⟩) hS0 ?_
            · obtain ⟨z1, z2, z3, z4, z5, z6⟩ := hz
              go_simp
            try simp only [List.getElem_toArray, List.getElem_cons_zero, List.getElem_cons_succ, Act.put, List.setIfInBounds_toArray, List.set_cons_zero, List.set_cons_succ]
            refine wpAnyH_take (i := 2) (v := .int .i64 0) rfl (by kernel_rfl) (by kernel_rfl) (by kernel_rfl) (fun _ _ _ h => h) (Or.inl ⟨by rfl, fun z hz => ?_⟩) hS0 ?_
            · obtain ⟨z1, z2, z3, z4, z5, z6⟩ := hz
              go_simp
            try simp only [List.getElem_toArray, List.getElem_cons_zero, List.getElem_cons_succ, Act.put, List.setIfInBounds_toArray, List.set_cons_zero, List.set_cons_succ]
            refine wpAnyH_take (i := 3) (v := .pointer (some ⟨g, o, none⟩)) rfl (by kernel_rfl) (by kernel_rfl) (by kernel_rfl) (fun _ _ _ h => h) (Or.inl ⟨by rfl, fun z hz => ?_⟩) hS0 ?_
            · obtain ⟨z1, z2, z3, z4, z5, z6⟩ := hz
              go_simp
            try simp only [List.getElem_toArray, List.getElem_cons_zero, List.getElem_cons_succ, Act.put, List.setIfInBounds_toArray, List.set_cons_zero, List.set_cons_succ]
            refine wpAnyH_take (i := 4) (v := .agg #[x, .string (S et)]) rfl (by kernel_rfl) (by kernel_rfl) (by kernel_rfl) (fun _ _ _ h => h) (Or.inl ⟨by rfl, fun z hz => ?_⟩) hS0 ?_
            · obtain ⟨z1, z2, z3, z4, z5, z6⟩ := hz
              go_simp
            try simp only [List.getElem_toArray, List.getElem_cons_zero, List.getElem_cons_succ, Act.put, List.setIfInBounds_toArray, List.set_cons_zero, List.set_cons_succ]
            refine wpAnyH_ready (rs := [5]) (by kernel_rfl) (by simp) ?_
            refine AllReadyH.cons rfl (fun K hK => ?_) AllReadyH.nil
            have HS1 := Lib.hid hS0
            have HX := Lib.hid (hS0.2.2.2.2.1)
            go_simp
            refine (l6Entry x eo et _ HX.out htl).mono ?_
            rintro e v ⟨rfl, hb⟩
            rw [hok]
            refine hK.out _ _ (HS1.out.step hb) (fun hS1 => ?_)
            clear hK K hb
            try simp only [List.getElem_toArray, List.getElem_cons_zero, List.getElem_cons_succ, Act.put, List.setIfInBounds_toArray, List.set_cons_zero, List.set_cons_succ]
            refine wpAnyH_take (i := 6) (v := .bool false) rfl (by kernel_rfl) (by kernel_rfl) (by kernel_rfl) (fun _ _ _ h => h) (Or.inl ⟨by rfl, fun z hz => ?_⟩) hS1 ?_
            · obtain ⟨z1, z2, z3, z4, z5, z6⟩ := hz
              go_simp
            try simp only [List.getElem_toArray, List.getElem_cons_zero, List.getElem_cons_succ, Act.put, List.setIfInBounds_toArray, List.set_cons_zero, List.set_cons_succ]
            refine wpAnyH_take (i := 7) (v := .bool false) rfl (by kernel_rfl) (by kernel_rfl) (by kernel_rfl) (fun _ _ _ h => h) (Or.inl ⟨by rfl, fun z hz => ?_⟩) hS1 ?_
            · obtain ⟨z1, z2, z3, z4, z5, z6⟩ := hz
              go_simp
            try simp only [List.getElem_toArray, List.getElem_cons_zero, List.getElem_cons_succ, Act.put, List.setIfInBounds_toArray, List.set_cons_zero, List.set_cons_succ]
            refine wpAnyH_take (i := 8) (v := .int .i64 0) rfl (by kernel_rfl) (by kernel_rfl) (by kernel_rfl) (fun _ _ _ h => h) (Or.inl ⟨by rfl, fun z hz => ?_⟩) hS1 ?_
            · obtain ⟨z1, z2, z3, z4, z5, z6⟩ := hz
              go_simp
            try simp only [List.getElem_toArray, List.getElem_cons_zero, List.getElem_cons_succ, Act.put, List.setIfInBounds_toArray, List.set_cons_zero, List.set_cons_succ]
            refine wpAnyH_take (i := 9) (v := .bool false) rfl (by kernel_rfl) (by kernel_rfl) (by kernel_rfl) (fun _ _ _ h => h) (Or.inl ⟨by rfl, fun z hz => ?_⟩) hS1 ?_
            · obtain ⟨z1, z2, z3, z4, z5, z6⟩ := hz
              go_simp
            try simp only [List.getElem_toArray, List.getElem_cons_zero, List.getElem_cons_succ, Act.put, List.setIfInBounds_toArray, List.set_cons_zero, List.set_cons_succ]
            refine wpAnyH_take (i := 10) (v := .bool false) rfl (by kernel_rfl) (by kernel_rfl) (by kernel_rfl) (fun _ _ _ h => h) (Or.inl ⟨by rfl, fun z hz => ?_⟩) hS1 ?_
            · obtain ⟨z1, z2, z3, z4, z5, z6⟩ := hz
              go_simp
            try simp only [List.getElem_toArray, List.getElem_cons_zero, List.getElem_cons_succ, Act.put, List.setIfInBounds_toArray, List.set_cons_zero, List.set_cons_succ]
            refine wpAnyH_take (i := 11) rfl (by kernel_rfl) (by kernel_rfl) (by kernel_rfl) (fun _ _ _ h => h) (Or.inr ⟨by rfl, rfl⟩) hS1 ?_
            try simp only [List.getElem_toArray, List.getElem_cons_zero, List.getElem_cons_succ, Act.put, List.setIfInBounds_toArray, List.set_cons_zero, List.set_cons_succ]
            refine wpAnyH_take (i := 12) rfl (by kernel_rfl) (by kernel_rfl) (by kernel_rfl) (fun _ _ _ h => h) (Or.inr ⟨by rfl, rfl⟩) hS1 ?_
            try simp only [List.getElem_toArray, List.getElem_cons_zero, List.getElem_cons_succ, Act.put, List.setIfInBounds_toArray, List.set_cons_zero, List.set_cons_succ]
            refine wpAnyH_take (i := 13) rfl (by kernel_rfl) (by kernel_rfl) (by kernel_rfl) (fun _ _ _ h => h) (Or.inr ⟨by rfl, rfl⟩) hS1 ?_
            try simp only [List.getElem_toArray, List.getElem_cons_zero, List.getElem_cons_succ, Act.put, List.setIfInBounds_toArray, List.set_cons_zero, List.set_cons_succ]
            refine wpAnyH_take (i := 14) rfl (by kernel_rfl) (by kernel_rfl) (by kernel_rfl) (fun _ _ _ h => h) (Or.inr ⟨by rfl, rfl⟩) hS1 ?_
            try simp only [List.getElem_toArray, List.getElem_cons_zero, List.getElem_cons_succ, Act.put, List.setIfInBounds_toArray, List.set_cons_zero, List.set_cons_succ]
            refine wpAnyH_take (i := 15) rfl (by kernel_rfl) (by kernel_rfl) (by kernel_rfl) (fun _ _ _ h => h) (Or.inr ⟨by rfl, rfl⟩) hS1 ?_
            try simp only [List.getElem_toArray, List.getElem_cons_zero, List.getElem_cons_succ, Act.put, List.setIfInBounds_toArray, List.set_cons_zero, List.set_cons_succ]
            refine wpAnyH_take (i := 16) rfl (by kernel_rfl) (by kernel_rfl) (by kernel_rfl) (fun _ _ _ h => h) (Or.inr ⟨by rfl, rfl⟩) hS1 ?_
            try simp only [List.getElem_toArray, List.getElem_cons_zero, List.getElem_cons_succ, Act.put, List.setIfInBounds_toArray, List.set_cons_zero, List.set_cons_succ]
            refine wpAnyH_take (i := 17) rfl (by kernel_rfl) (by kernel_rfl) (by kernel_rfl) (fun _ _ _ h => h) (Or.inr ⟨by rfl, rfl⟩) hS1 ?_
            try simp only [List.getElem_toArray, List.getElem_cons_zero, List.getElem_cons_succ, Act.put, List.setIfInBounds_toArray, List.set_cons_zero, List.set_cons_succ]
            refine wpAnyH_take (i := 18) rfl (by kernel_rfl) (by kernel_rfl) (by kernel_rfl) (fun _ _ _ h => h) (Or.inr ⟨by rfl, rfl⟩) hS1 ?_
            try simp only [List.getElem_toArray, List.getElem_cons_zero, List.getElem_cons_succ, Act.put, List.setIfInBounds_toArray, List.set_cons_zero, List.set_cons_succ]
            refine wpAnyH_take (i := 19) rfl (by kernel_rfl) (by kernel_rfl) (by kernel_rfl) (fun _ _ _ h => h) (Or.inr ⟨by rfl, rfl⟩) hS1 ?_
            try simp only [List.getElem_toArray, List.getElem_cons_zero, List.getElem_cons_succ, Act.put, List.setIfInBounds_toArray, List.set_cons_zero, List.set_cons_succ]
            refine wpAnyH_take (i := 20) rfl (by kernel_rfl) (by kernel_rfl) (by kernel_rfl) (fun _ _ _ h => h) (Or.inr ⟨by rfl, rfl⟩) hS1 ?_
            try simp only [List.getElem_toArray, List.getElem_cons_zero, List.getElem_cons_succ, Act.put, List.setIfInBounds_toArray, List.set_cons_zero, List.set_cons_succ]
            refine wpAnyH_take (i := 21) rfl (by kernel_rfl) (by kernel_rfl) (by kernel_rfl) (fun _ _ _ h => h) (Or.inr ⟨by rfl, rfl⟩) hS1 ?_
            try simp only [List.getElem_toArray, List.getElem_cons_zero, List.getElem_cons_succ, Act.put, List.setIfInBounds_toArray, List.set_cons_zero, List.set_cons_succ]
            refine wpAnyH_take (i := 22) rfl (by kernel_rfl) (by kernel_rfl) (by kernel_rfl) (fun _ _ _ h => h) (Or.inr ⟨by rfl, rfl⟩) hS1 ?_
            try simp only [List.getElem_toArray, List.getElem_cons_zero, List.getElem_cons_succ, Act.put, List.setIfInBounds_toArray, List.set_cons_zero, List.set_cons_succ]
            refine wpAnyH_take (i := 23) rfl (by kernel_rfl) (by kernel_rfl) (by kernel_rfl) (fun _ _ _ h => h) (Or.inr ⟨by rfl, rfl⟩) hS1 ?_
            try simp only [List.getElem_toArray, List.getElem_cons_zero, List.getElem_cons_succ, Act.put, List.setIfInBounds_toArray, List.set_cons_zero, List.set_cons_succ]
            refine wpAnyH_take (i := 24) rfl (by kernel_rfl) (by kernel_rfl) (by kernel_rfl) (fun _ _ _ h => h) (Or.inr ⟨by rfl, rfl⟩) hS1 ?_
            try simp only [List.getElem_toArray, List.getElem_cons_zero, List.getElem_cons_succ, Act.put, List.setIfInBounds_toArray, List.set_cons_zero, List.set_cons_succ]
            refine wpAnyH_take (i := 25) rfl (by kernel_rfl) (by kernel_rfl) (by kernel_rfl) (fun _ _ _ h => h) (Or.inr ⟨by rfl, rfl⟩) hS1 ?_
            try simp only [List.getElem_toArray, List.getElem_cons_zero, List.getElem_cons_succ, Act.put, List.setIfInBounds_toArray, List.set_cons_zero, List.set_cons_succ]
            refine wpAnyH_take (i := 26) (v := .bool false) rfl (by kernel_rfl) (by kernel_rfl) (by kernel_rfl) (fun _ _ _ h => h) (Or.inl ⟨by rfl, fun z hz => ?_⟩) hS1 ?_
            · obtain ⟨z1, z2, z3, z4, z5, z6⟩ := hz
              go_simp
            try simp only [List.getElem_toArray, List.getElem_cons_zero, List.getElem_cons_succ, Act.put, List.setIfInBounds_toArray, List.set_cons_zero, List.set_cons_succ]
            refine wpAnyH_take (i := 27) (v := .bool false) rfl (by kernel_rfl) (by kernel_rfl) (by kernel_rfl) (fun _ _ _ h => h) (Or.inl ⟨by rfl, fun z hz => ?_⟩) hS1 ?_
            · obtain ⟨z1, z2, z3, z4, z5, z6⟩ := hz
              go_simp
            try simp only [List.getElem_toArray, List.getElem_cons_zero, List.getElem_cons_succ, Act.put, List.setIfInBounds_toArray, List.set_cons_zero, List.set_cons_succ]
            refine wpAnyH_done (by kernel_rfl) ?_ _
            have HK2 := Lib.hid (hS1.2.2.2.2.2)
            clear hS0 hS1 HS1
            go_wp2
            go_roundw
            case rel => exact ⟨0 + 1, by omega, by go_num, HALL2.out, HR2.out, HK2.out⟩
            case measure => simp [intOf]; omega
          · obtain ⟨g', o', hgg, _, y, p0, _, hy⟩ := hent.at (j - 1) (by omega)
            injection hgg with hgg
            injection hgg with hg1 hg2 _
            subst hg1 hg2
            have HS' := Lib.hid (show K7 w (.slice (some ⟨g, o, none⟩) l.length cap) l g (o + j * 2) x l[j].1 l[j].2 (o + (j - 1) * 2) y (l[j - 1]'(by omega)).1 wr.drew from K7.step ⟨d0, c0, c1, p0, hy, K6.step ⟨d0, c0, c1, hg, hx, HK.out⟩ (Below.refl _ _)⟩ (Below.refl _ _).drew)
            have HCM := Lib.hid (show P.rising (l.take (j + 1)) = true ∨ ¬ P.cmp (l[j - 1]'(by omega)).1 l[j].1 < 0 from by
              by_cases hc : P.cmp (l[j - 1]'(by omega)).1 l[j].1 < 0
              · left
                have := P.rising_take (l := l) (j := j - 1) (by omega) (by rw [show j - 1 + 1 = j by omega]; exact HR.out) (by simpa [show j - 1 + 1 = j by omega] using hc)
                rwa [show j - 1 + 2 = j + 1 by omega] at this
              · exact .inr hc)
            have HCN := Lib.hid (show ¬ P.cmp (l[j - 1]'(by omega)).1 l[j].1 < 0 → P.rising l = false from by
              intro hc
              cases hr : P.rising l
              · rfl
              · exfalso
                have := P.rising_at hr (j := j - 1) (by omega)
                exact hc (by simpa [show j - 1 + 1 = j by omega] using this))
            have hj1 : 0 < (j : Int) := by omega
            have hj2 : 1 ≤ (j : Int) := by omega
            have hj3 : 0 < j := by omega
            have hw1 : IntKind.i64.wrap ((j : Int) - 1) = (j : Int) - 1 := IntWalk.i64_in _ (by omega)
            have hn3 : ¬ (l.length : Int) ≤ (j : Int) - 1 := by omega
            clear hent hbel hx hy HS
            generalize (l[j - 1]'(by omega)).1 = po at *
            generalize l[j] = en at *
            obtain ⟨eo, et⟩ := en
            simp only at c1 htl HS' HCM HCN
            rcases Int.lt_or_le (P.cmp po eo) 0 with hc | hc
            · have HR2 := Lib.hid (HCM.out.resolve_right fun h => h hc)
              go_upto_region 6 with fail
              refine wp_region_held_drew (S := K7 w (.slice (some ⟨g, o, none⟩) l.length cap) l g (o + j * 2) x eo et (o + (j - 1) * 2) y po) (by kernel_rfl) HS'.out (fun hS0 => ?_)
              refine wpAnyH_take (i := 0) (v := .pointer (some ⟨w.heap.size, 0, none⟩)) rfl (by kernel_rfl) (by kernel_rfl) (by kernel_rfl) (fun _ _ _ h => h) (Or.inl ⟨by rfl, fun z hz => ?_⟩) hS0 ?_
              · obtain ⟨z1, z2, z3, z4, z5, z6⟩ := hz
                go_simp
              try simp only [List.getElem_toArray, List.getElem_cons_zero, Act.put, List.setIfInBounds_toArray, List.set_cons_zero, List.set_cons_succ]
              refine wpAnyH_take (i := 1) (v := .slice (some ⟨g, o, none⟩) l.length cap) rfl (by kernel_rfl) (by kernel_rfl) (by kernel_rfl) (fun _ _ _ h => h) (Or.inl ⟨by rfl, fun z hz => ?_⟩) hS0 ?_
              · obtain ⟨z1, z2, z3, z4, z5, z6⟩ := hz
                go_simp
              try simp only [List.getElem_toArray, List.getElem_cons_zero, List.getElem_cons_succ, Act.put, List.setIfInBounds_toArray, List.set_cons_zero, List.set_cons_succ]
              refine wpAnyH_take (i := 2) (v := .int .i64 j) rfl (by kernel_rfl) (by kernel_rfl) (by kernel_rfl) (fun _ _ _ h => h) (Or.inl ⟨by rfl, fun z hz => ?_⟩) hS0 ?_
              · obtain ⟨z1, z2, z3, z4, z5, z6⟩ := hz
                go_simp
              try simp only [List.getElem_toArray, List.getElem_cons_zero, List.getElem_cons_succ, Act.put, List.setIfInBounds_toArray, List.set_cons_zero, List.set_cons_succ]
              refine wpAnyH_take (i := 3) (v := .pointer (some ⟨g, o + j * 2, none⟩)) rfl (by kernel_rfl) (by kernel_rfl) (by kernel_rfl) (fun _ _ _ h => h) (Or.inl ⟨by rfl, fun z hz => ?_⟩) hS0 ?_
              · obtain ⟨z1, z2, z3, z4, z5, z6⟩ := hz
                go_simp
              try simp only [List.getElem_toArray, List.getElem_cons_zero, List.getElem_cons_succ, Act.put, List.setIfInBounds_toArray, List.set_cons_zero, List.set_cons_succ]
              refine wpAnyH_take (i := 4) (v := .agg #[x, .string (S et)]) rfl (by kernel_rfl) (by kernel_rfl) (by kernel_rfl) (fun _ _ _ h => h) (Or.inl ⟨by rfl, fun z hz => ?_⟩) hS0 ?_
              · obtain ⟨z1, z2, z3, z4, z5, z6⟩ := hz
                go_simp
              try simp only [List.getElem_toArray, List.getElem_cons_zero, List.getElem_cons_succ, Act.put, List.setIfInBounds_toArray, List.set_cons_zero, List.set_cons_succ]
              refine wpAnyH_ready (rs := [5]) (by kernel_rfl) (by simp) ?_
              refine AllReadyH.cons rfl (fun K hK => ?_) AllReadyH.nil
              have HS1 := Lib.hid hS0
              have HX := Lib.hid (hS0.2.2.2.2.2.2.2.2.2.1)
              go_simp
              refine (l6Entry x eo et _ HX.out htl).mono ?_
              rintro e v ⟨rfl, hb⟩
              rw [hok]
              refine hK.out _ _ (HS1.out.step hb) (fun hS1 => ?_)
              clear hK K hb
              try simp only [List.getElem_toArray, List.getElem_cons_zero, List.getElem_cons_succ, Act.put, List.setIfInBounds_toArray, List.set_cons_zero, List.set_cons_succ]
              refine wpAnyH_take (i := 6) (v := .bool false) rfl (by kernel_rfl) (by kernel_rfl) (by kernel_rfl) (fun _ _ _ h => h) (Or.inl ⟨by rfl, fun z hz => ?_⟩) hS1 ?_
              · obtain ⟨z1, z2, z3, z4, z5, z6⟩ := hz
                go_simp
              try simp only [List.getElem_toArray, List.getElem_cons_zero, List.getElem_cons_succ, Act.put, List.setIfInBounds_toArray, List.set_cons_zero, List.set_cons_succ]
              refine wpAnyH_take (i := 7) (v := .bool false) rfl (by kernel_rfl) (by kernel_rfl) (by kernel_rfl) (fun _ _ _ h => h) (Or.inl ⟨by rfl, fun z hz => ?_⟩) hS1 ?_
              · obtain ⟨z1, z2, z3, z4, z5, z6⟩ := hz
                go_simp
              try simp only [List.getElem_toArray, List.getElem_cons_zero, List.getElem_cons_succ, Act.put, List.setIfInBounds_toArray, List.set_cons_zero, List.set_cons_succ]
              refine wpAnyH_take (i := 8) (v := .int .i64 j) rfl (by kernel_rfl) (by kernel_rfl) (by kernel_rfl) (fun _ _ _ h => h) (Or.inl ⟨by rfl, fun z hz => ?_⟩) hS1 ?_
              · obtain ⟨z1, z2, z3, z4, z5, z6⟩ := hz
                go_simp
              try simp only [List.getElem_toArray, List.getElem_cons_zero, List.getElem_cons_succ, Act.put, List.setIfInBounds_toArray, List.set_cons_zero, List.set_cons_succ]
              refine wpAnyH_take (i := 9) (v := .bool true) rfl (by kernel_rfl) (by kernel_rfl) (by kernel_rfl) (fun _ _ _ h => h) (Or.inl ⟨by rfl, fun z hz => ?_⟩) hS1 ?_
              · obtain ⟨z1, z2, z3, z4, z5, z6⟩ := hz
                go_simp
              try simp only [List.getElem_toArray, List.getElem_cons_zero, List.getElem_cons_succ, Act.put, List.setIfInBounds_toArray, List.set_cons_zero, List.set_cons_succ]
              refine wpAnyH_take (i := 10) (v := .bool true) rfl (by kernel_rfl) (by kernel_rfl) (by kernel_rfl) (fun _ _ _ h => h) (Or.inl ⟨by rfl, fun z hz => ?_⟩) hS1 ?_
              · obtain ⟨z1, z2, z3, z4, z5, z6⟩ := hz
                go_simp
              try simp only [List.getElem_toArray, List.getElem_cons_zero, List.getElem_cons_succ, Act.put, List.setIfInBounds_toArray, List.set_cons_zero, List.set_cons_succ]
              refine wpAnyH_take (i := 11) (v := .pointer (some ⟨w.heap.size, 0, none⟩)) rfl (by kernel_rfl) (by kernel_rfl) (by kernel_rfl) (fun _ _ _ h => h) (Or.inl ⟨by rfl, fun z hz => ?_⟩) hS1 ?_
              · obtain ⟨z1, z2, z3, z4, z5, z6⟩ := hz
                go_simp
              try simp only [List.getElem_toArray, List.getElem_cons_zero, List.getElem_cons_succ, Act.put, List.setIfInBounds_toArray, List.set_cons_zero, List.set_cons_succ]
              refine wpAnyH_take (i := 12) (v := .slice (some ⟨g, o, none⟩) l.length cap) rfl (by kernel_rfl) (by kernel_rfl) (by kernel_rfl) (fun _ _ _ h => h) (Or.inl ⟨by rfl, fun z hz => ?_⟩) hS1 ?_
              · obtain ⟨z1, z2, z3, z4, z5, z6⟩ := hz
                go_simp
              try simp only [List.getElem_toArray, List.getElem_cons_zero, List.getElem_cons_succ, Act.put, List.setIfInBounds_toArray, List.set_cons_zero, List.set_cons_succ]
              refine wpAnyH_take (i := 13) (v := .int .i64 j) rfl (by kernel_rfl) (by kernel_rfl) (by kernel_rfl) (fun _ _ _ h => h) (Or.inl ⟨by rfl, fun z hz => ?_⟩) hS1 ?_
              · obtain ⟨z1, z2, z3, z4, z5, z6⟩ := hz
                go_simp
              try simp only [List.getElem_toArray, List.getElem_cons_zero, List.getElem_cons_succ, Act.put, List.setIfInBounds_toArray, List.set_cons_zero, List.set_cons_succ]
              refine wpAnyH_take (i := 14) (v := .int .i64 ((j : Int) - 1)) rfl (by kernel_rfl) (by kernel_rfl) (by kernel_rfl) (fun _ _ _ h => h) (Or.inl ⟨by rfl, fun z hz => ?_⟩) hS1 ?_
              · obtain ⟨z1, z2, z3, z4, z5, z6⟩ := hz
                go_simp
              try simp only [List.getElem_toArray, List.getElem_cons_zero, List.getElem_cons_succ, Act.put, List.setIfInBounds_toArray, List.set_cons_zero, List.set_cons_succ]
              refine wpAnyH_take (i := 15) (v := .pointer (some ⟨g, o + (j - 1) * 2, none⟩)) rfl (by kernel_rfl) (by kernel_rfl) (by kernel_rfl) (fun _ _ _ h => h) (Or.inl ⟨by rfl, fun z hz => ?_⟩) hS1 ?_
              · obtain ⟨z1, z2, z3, z4, z5, z6⟩ := hz
                go_simp
              try simp only [List.getElem_toArray, List.getElem_cons_zero, List.getElem_cons_succ, Act.put, List.setIfInBounds_toArray, List.set_cons_zero, List.set_cons_succ]
              refine wpAnyH_take (i := 16) (v := .pointer (some ⟨g, o + (j - 1) * 2, none⟩)) rfl (by kernel_rfl) (by kernel_rfl) (by kernel_rfl) (fun _ _ _ h => h) (Or.inl ⟨by rfl, fun z hz => ?_⟩) hS1 ?_
              · obtain ⟨z1, z2, z3, z4, z5, z6⟩ := hz
                go_simp
              try simp only [List.getElem_toArray, List.getElem_cons_zero, List.getElem_cons_succ, Act.put, List.setIfInBounds_toArray, List.set_cons_zero, List.set_cons_succ]
              refine wpAnyH_take (i := 17) (v := y) rfl (by kernel_rfl) (by kernel_rfl) (by kernel_rfl) (fun _ _ _ h => h) (Or.inl ⟨by rfl, fun z hz => ?_⟩) hS1 ?_
              · obtain ⟨z1, z2, z3, z4, z5, z6⟩ := hz
                go_simp
              try simp only [List.getElem_toArray, List.getElem_cons_zero, List.getElem_cons_succ, Act.put, List.setIfInBounds_toArray, List.set_cons_zero, List.set_cons_succ]
              refine wpAnyH_take (i := 18) (v := .pointer (some ⟨w.heap.size, 0, none⟩)) rfl (by kernel_rfl) (by kernel_rfl) (by kernel_rfl) (fun _ _ _ h => h) (Or.inl ⟨by rfl, fun z hz => ?_⟩) hS1 ?_
              · obtain ⟨z1, z2, z3, z4, z5, z6⟩ := hz
                go_simp
              try simp only [List.getElem_toArray, List.getElem_cons_zero, List.getElem_cons_succ, Act.put, List.setIfInBounds_toArray, List.set_cons_zero, List.set_cons_succ]
              refine wpAnyH_take (i := 19) (v := .slice (some ⟨g, o, none⟩) l.length cap) rfl (by kernel_rfl) (by kernel_rfl) (by kernel_rfl) (fun _ _ _ h => h) (Or.inl ⟨by rfl, fun z hz => ?_⟩) hS1 ?_
              · obtain ⟨z1, z2, z3, z4, z5, z6⟩ := hz
                go_simp
              try simp only [List.getElem_toArray, List.getElem_cons_zero, List.getElem_cons_succ, Act.put, List.setIfInBounds_toArray, List.set_cons_zero, List.set_cons_succ]
              refine wpAnyH_take (i := 20) (v := .int .i64 j) rfl (by kernel_rfl) (by kernel_rfl) (by kernel_rfl) (fun _ _ _ h => h) (Or.inl ⟨by rfl, fun z hz => ?_⟩) hS1 ?_
              · obtain ⟨z1, z2, z3, z4, z5, z6⟩ := hz
                go_simp
              try simp only [List.getElem_toArray, List.getElem_cons_zero, List.getElem_cons_succ, Act.put, List.setIfInBounds_toArray, List.set_cons_zero, List.set_cons_succ]
              refine wpAnyH_take (i := 21) (v := .pointer (some ⟨g, o + j * 2, none⟩)) rfl (by kernel_rfl) (by kernel_rfl) (by kernel_rfl) (fun _ _ _ h => h) (Or.inl ⟨by rfl, fun z hz => ?_⟩) hS1 ?_
              · obtain ⟨z1, z2, z3, z4, z5, z6⟩ := hz
                go_simp
              try simp only [List.getElem_toArray, List.getElem_cons_zero, List.getElem_cons_succ, Act.put, List.setIfInBounds_toArray, List.set_cons_zero, List.set_cons_succ]
              refine wpAnyH_take (i := 22) (v := .pointer (some ⟨g, o + j * 2, none⟩)) rfl (by kernel_rfl) (by kernel_rfl) (by kernel_rfl) (fun _ _ _ h => h) (Or.inl ⟨by rfl, fun z hz => ?_⟩) hS1 ?_
              · obtain ⟨z1, z2, z3, z4, z5, z6⟩ := hz
                go_simp
              try simp only [List.getElem_toArray, List.getElem_cons_zero, List.getElem_cons_succ, Act.put, List.setIfInBounds_toArray, List.set_cons_zero, List.set_cons_succ]
              refine wpAnyH_take (i := 23) (v := x) rfl (by kernel_rfl) (by kernel_rfl) (by kernel_rfl) (fun _ _ _ h => h) (Or.inl ⟨by rfl, fun z hz => ?_⟩) hS1 ?_
              · obtain ⟨z1, z2, z3, z4, z5, z6⟩ := hz
                go_simp
              try simp only [List.getElem_toArray, List.getElem_cons_zero, List.getElem_cons_succ, Act.put, List.setIfInBounds_toArray, List.set_cons_zero, List.set_cons_succ]
              refine wpAnyH_ready (rs := [24]) (by kernel_rfl) (by simp) ?_
              refine AllReadyH.cons rfl (fun K hK => ?_) AllReadyH.nil
              have HS2 := Lib.hid hS1
              have HY := Lib.hid hS1.2.2.2.2.1
              have HX2 := Lib.hid hS1.2.2.2.2.2.2.2.2.2.1
              go_simp
              refine (l4Compare y x po eo _ HY.out HX2.out).mono ?_
              rintro e v2 ⟨rfl, hb⟩
              refine hK.out _ _ (HS2.out.step hb) (fun hS2 => ?_)
              clear hK K hb
              try simp only [List.getElem_toArray, List.getElem_cons_zero, List.getElem_cons_succ, Act.put, List.setIfInBounds_toArray, List.set_cons_zero, List.set_cons_succ]
              refine wpAnyH_take (i := 25) (v := .bool false) rfl (by kernel_rfl) (by kernel_rfl) (by kernel_rfl) (fun _ _ _ h => h) (Or.inl ⟨by rfl, fun z hz => ?_⟩) hS2 ?_
              · obtain ⟨z1, z2, z3, z4, z5, z6⟩ := hz
                go_simp
              try simp only [List.getElem_toArray, List.getElem_cons_zero, List.getElem_cons_succ, Act.put, List.setIfInBounds_toArray, List.set_cons_zero, List.set_cons_succ]
              refine wpAnyH_take (i := 26) (v := .bool false) rfl (by kernel_rfl) (by kernel_rfl) (by kernel_rfl) (fun _ _ _ h => h) (Or.inl ⟨by rfl, fun z hz => ?_⟩) hS2 ?_
              · obtain ⟨z1, z2, z3, z4, z5, z6⟩ := hz
                go_simp
              try simp only [List.getElem_toArray, List.getElem_cons_zero, List.getElem_cons_succ, Act.put, List.setIfInBounds_toArray, List.set_cons_zero, List.set_cons_succ]
              refine wpAnyH_take (i := 27) (v := .bool false) rfl (by kernel_rfl) (by kernel_rfl) (by kernel_rfl) (fun _ _ _ h => h) (Or.inl ⟨by rfl, fun z hz => ?_⟩) hS2 ?_
              · obtain ⟨z1, z2, z3, z4, z5, z6⟩ := hz
                go_simp
              try simp only [List.getElem_toArray, List.getElem_cons_zero, List.getElem_cons_succ, Act.put, List.setIfInBounds_toArray, List.set_cons_zero, List.set_cons_succ]
              refine wpAnyH_done (by kernel_rfl) ?_ _
              have HK2 := Lib.hid (hS2.2.2.2.2.2.2.2.2.2.2)
              clear hS0 hS1 hS2 HS1 HS2
              go_wp2
              go_roundw
              case rel => exact ⟨j + 1, by omega, by go_num, HALL2.out, HR2.out, HK2.out⟩
              case measure => simp [intOf]; omega
            · have HNO := Lib.hid (HCN.out (by omega))
              go_upto_region 6 with fail
              refine wp_region_held_drew (S := K7 w (.slice (some ⟨g, o, none⟩) l.length cap) l g (o + j * 2) x eo et (o + (j - 1) * 2) y po) (by kernel_rfl) HS'.out (fun hS0 => ?_)
              refine wpAnyH_take (i := 0) (v := .pointer (some ⟨w.heap.size, 0, none⟩)) rfl (by kernel_rfl) (by kernel_rfl) (by kernel_rfl) (fun _ _ _ h => h) (Or.inl ⟨by rfl, fun z hz => ?_⟩) hS0 ?_
              · obtain ⟨z1, z2, z3, z4, z5, z6⟩ := hz
                go_simp
              try simp only [List.getElem_toArray, List.getElem_cons_zero, Act.put, List.setIfInBounds_toArray, List.set_cons_zero, List.set_cons_succ]
              refine wpAnyH_take (i := 1) (v := .slice (some ⟨g, o, none⟩) l.length cap) rfl (by kernel_rfl) (by kernel_rfl) (by kernel_rfl) (fun _ _ _ h => h) (Or.inl ⟨by rfl, fun z hz => ?_⟩) hS0 ?_
              · obtain ⟨z1, z2, z3, z4, z5, z6⟩ := hz
                go_simp
              try simp only [List.getElem_toArray, List.getElem_cons_zero, List.getElem_cons_succ, Act.put, List.setIfInBounds_toArray, List.set_cons_zero, List.set_cons_succ]
              refine wpAnyH_take (i := 2) (v := .int .i64 j) rfl (by kernel_rfl) (by kernel_rfl) (by kernel_rfl) (fun _ _ _ h => h) (Or.inl ⟨by rfl, fun z hz => ?_⟩) hS0 ?_
              · obtain ⟨z1, z2, z3, z4, z5, z6⟩ := hz
                go_simp
              try simp only [List.getElem_toArray, List.getElem_cons_zero, List.getElem_cons_succ, Act.put, List.setIfInBounds_toArray, List.set_cons_zero, List.set_cons_succ]
              refine wpAnyH_take (i := 3) (v := .pointer (some ⟨g, o + j * 2, none⟩)) rfl (by kernel_rfl) (by kernel_rfl) (by kernel_rfl) (fun _ _ _ h => h) (Or.inl ⟨by rfl, fun z hz => ?_⟩) hS0 ?_
              · obtain ⟨z1, z2, z3, z4, z5, z6⟩ := hz
                go_simp
              try simp only [List.getElem_toArray, List.getElem_cons_zero, List.getElem_cons_succ, Act.put, List.setIfInBounds_toArray, List.set_cons_zero, List.set_cons_succ]
              refine wpAnyH_take (i := 4) (v := .agg #[x, .string (S et)]) rfl (by kernel_rfl) (by kernel_rfl) (by kernel_rfl) (fun _ _ _ h => h) (Or.inl ⟨by rfl, fun z hz => ?_⟩) hS0 ?_
              · obtain ⟨z1, z2, z3, z4, z5, z6⟩ := hz
                go_simp
              try simp only [List.getElem_toArray, List.getElem_cons_zero, List.getElem_cons_succ, Act.put, List.setIfInBounds_toArray, List.set_cons_zero, List.set_cons_succ]
              refine wpAnyH_ready (rs := [5]) (by kernel_rfl) (by simp) ?_
              refine AllReadyH.cons rfl (fun K hK => ?_) AllReadyH.nil
              have HS1 := Lib.hid hS0
              have HX := Lib.hid (hS0.2.2.2.2.2.2.2.2.2.1)
              go_simp
              refine (l6Entry x eo et _ HX.out htl).mono ?_
              rintro e v ⟨rfl, hb⟩
              rw [hok]
              refine hK.out _ _ (HS1.out.step hb) (fun hS1 => ?_)
              clear hK K hb
              try simp only [List.getElem_toArray, List.getElem_cons_zero, List.getElem_cons_succ, Act.put, List.setIfInBounds_toArray, List.set_cons_zero, List.set_cons_succ]
              refine wpAnyH_take (i := 6) (v := .bool false) rfl (by kernel_rfl) (by kernel_rfl) (by kernel_rfl) (fun _ _ _ h => h) (Or.inl ⟨by rfl, fun z hz => ?_⟩) hS1 ?_
              · obtain ⟨z1, z2, z3, z4, z5, z6⟩ := hz
                go_simp
              try simp only [List.getElem_toArray, List.getElem_cons_zero, List.getElem_cons_succ, Act.put, List.setIfInBounds_toArray, List.set_cons_zero, List.set_cons_succ]
              refine wpAnyH_take (i := 7) (v := .bool false) rfl (by kernel_rfl) (by kernel_rfl) (by kernel_rfl) (fun _ _ _ h => h) (Or.inl ⟨by rfl, fun z hz => ?_⟩) hS1 ?_
              · obtain ⟨z1, z2, z3, z4, z5, z6⟩ := hz
                go_simp
              try simp only [List.getElem_toArray, List.getElem_cons_zero, List.getElem_cons_succ, Act.put, List.setIfInBounds_toArray, List.set_cons_zero, List.set_cons_succ]
              refine wpAnyH_take (i := 8) (v := .int .i64 j) rfl (by kernel_rfl) (by kernel_rfl) (by kernel_rfl) (fun _ _ _ h => h) (Or.inl ⟨by rfl, fun z hz => ?_⟩) hS1 ?_
              · obtain ⟨z1, z2, z3, z4, z5, z6⟩ := hz
                go_simp
              try simp only [List.getElem_toArray, List.getElem_cons_zero, List.getElem_cons_succ, Act.put, List.setIfInBounds_toArray, List.set_cons_zero, List.set_cons_succ]
              refine wpAnyH_take (i := 9) (v := .bool true) rfl (by kernel_rfl) (by kernel_rfl) (by kernel_rfl) (fun _ _ _ h => h) (Or.inl ⟨by rfl, fun z hz => ?_⟩) hS1 ?_
              · obtain ⟨z1, z2, z3, z4, z5, z6⟩ := hz
                go_simp
              try simp only [List.getElem_toArray, List.getElem_cons_zero, List.getElem_cons_succ, Act.put, List.setIfInBounds_toArray, List.set_cons_zero, List.set_cons_succ]
              refine wpAnyH_take (i := 10) (v := .bool true) rfl (by kernel_rfl) (by kernel_rfl) (by kernel_rfl) (fun _ _ _ h => h) (Or.inl ⟨by rfl, fun z hz => ?_⟩) hS1 ?_
              · obtain ⟨z1, z2, z3, z4, z5, z6⟩ := hz
                go_simp
              try simp only [List.getElem_toArray, List.getElem_cons_zero, List.getElem_cons_succ, Act.put, List.setIfInBounds_toArray, List.set_cons_zero, List.set_cons_succ]
              refine wpAnyH_take (i := 11) (v := .pointer (some ⟨w.heap.size, 0, none⟩)) rfl (by kernel_rfl) (by kernel_rfl) (by kernel_rfl) (fun _ _ _ h => h) (Or.inl ⟨by rfl, fun z hz => ?_⟩) hS1 ?_
              · obtain ⟨z1, z2, z3, z4, z5, z6⟩ := hz
                go_simp
              try simp only [List.getElem_toArray, List.getElem_cons_zero, List.getElem_cons_succ, Act.put, List.setIfInBounds_toArray, List.set_cons_zero, List.set_cons_succ]
              refine wpAnyH_take (i := 12) (v := .slice (some ⟨g, o, none⟩) l.length cap) rfl (by kernel_rfl) (by kernel_rfl) (by kernel_rfl) (fun _ _ _ h => h) (Or.inl ⟨by rfl, fun z hz => ?_⟩) hS1 ?_
              · obtain ⟨z1, z2, z3, z4, z5, z6⟩ := hz
                go_simp
              try simp only [List.getElem_toArray, List.getElem_cons_zero, List.getElem_cons_succ, Act.put, List.setIfInBounds_toArray, List.set_cons_zero, List.set_cons_succ]
              refine wpAnyH_take (i := 13) (v := .int .i64 j) rfl (by kernel_rfl) (by kernel_rfl) (by kernel_rfl) (fun _ _ _ h => h) (Or.inl ⟨by rfl, fun z hz => ?_⟩) hS1 ?_
              · obtain ⟨z1, z2, z3, z4, z5, z6⟩ := hz
                go_simp
              try simp only [List.getElem_toArray, List.getElem_cons_zero, List.getElem_cons_succ, Act.put, List.setIfInBounds_toArray, List.set_cons_zero, List.set_cons_succ]
              refine wpAnyH_take (i := 14) (v := .int .i64 ((j : Int) - 1)) rfl (by kernel_rfl) (by kernel_rfl) (by kernel_rfl) (fun _ _ _ h => h) (Or.inl ⟨by rfl, fun z hz => ?_⟩) hS1 ?_
              · obtain ⟨z1, z2, z3, z4, z5, z6⟩ := hz
                go_simp
              try simp only [List.getElem_toArray, List.getElem_cons_zero, List.getElem_cons_succ, Act.put, List.setIfInBounds_toArray, List.set_cons_zero, List.set_cons_succ]
              refine wpAnyH_take (i := 15) (v := .pointer (some ⟨g, o + (j - 1) * 2, none⟩)) rfl (by kernel_rfl) (by kernel_rfl) (by kernel_rfl) (fun _ _ _ h => h) (Or.inl ⟨by rfl, fun z hz => ?_⟩) hS1 ?_
              · obtain ⟨z1, z2, z3, z4, z5, z6⟩ := hz
                go_simp
              try simp only [List.getElem_toArray, List.getElem_cons_zero, List.getElem_cons_succ, Act.put, List.setIfInBounds_toArray, List.set_cons_zero, List.set_cons_succ]
              refine wpAnyH_take (i := 16) (v := .pointer (some ⟨g, o + (j - 1) * 2, none⟩)) rfl (by kernel_rfl) (by kernel_rfl) (by kernel_rfl) (fun _ _ _ h => h) (Or.inl ⟨by rfl, fun z hz => ?_⟩) hS1 ?_
              · obtain ⟨z1, z2, z3, z4, z5, z6⟩ := hz
                go_simp
              try simp only [List.getElem_toArray, List.getElem_cons_zero, List.getElem_cons_succ, Act.put, List.setIfInBounds_toArray, List.set_cons_zero, List.set_cons_succ]
              refine wpAnyH_take (i := 17) (v := y) rfl (by kernel_rfl) (by kernel_rfl) (by kernel_rfl) (fun _ _ _ h => h) (Or.inl ⟨by rfl, fun z hz => ?_⟩) hS1 ?_
              · obtain ⟨z1, z2, z3, z4, z5, z6⟩ := hz
                go_simp
              try simp only [List.getElem_toArray, List.getElem_cons_zero, List.getElem_cons_succ, Act.put, List.setIfInBounds_toArray, List.set_cons_zero, List.set_cons_succ]
              refine wpAnyH_take (i := 18) (v := .pointer (some ⟨w.heap.size, 0, none⟩)) rfl (by kernel_rfl) (by kernel_rfl) (by kernel_rfl) (fun _ _ _ h => h) (Or.inl ⟨by rfl, fun z hz => ?_⟩) hS1 ?_
              · obtain ⟨z1, z2, z3, z4, z5, z6⟩ := hz
                go_simp
              try simp only [List.getElem_toArray, List.getElem_cons_zero, List.getElem_cons_succ, Act.put, List.setIfInBounds_toArray, List.set_cons_zero, List.set_cons_succ]
              refine wpAnyH_take (i := 19) (v := .slice (some ⟨g, o, none⟩) l.length cap) rfl (by kernel_rfl) (by kernel_rfl) (by kernel_rfl) (fun _ _ _ h => h) (Or.inl ⟨by rfl, fun z hz => ?_⟩) hS1 ?_
              · obtain ⟨z1, z2, z3, z4, z5, z6⟩ := hz
                go_simp
              try simp only [List.getElem_toArray, List.getElem_cons_zero, List.getElem_cons_succ, Act.put, List.setIfInBounds_toArray, List.set_cons_zero, List.set_cons_succ]
              refine wpAnyH_take (i := 20) (v := .int .i64 j) rfl (by kernel_rfl) (by kernel_rfl) (by kernel_rfl) (fun _ _ _ h => h) (Or.inl ⟨by rfl, fun z hz => ?_⟩) hS1 ?_
              · obtain ⟨z1, z2, z3, z4, z5, z6⟩ := hz
                go_simp
              try simp only [List.getElem_toArray, List.getElem_cons_zero, List.getElem_cons_succ, Act.put, List.setIfInBounds_toArray, List.set_cons_zero, List.set_cons_succ]
              refine wpAnyH_take (i := 21) (v := .pointer (some ⟨g, o + j * 2, none⟩)) rfl (by kernel_rfl) (by kernel_rfl) (by kernel_rfl) (fun _ _ _ h => h) (Or.inl ⟨by rfl, fun z hz => ?_⟩) hS1 ?_
              · obtain ⟨z1, z2, z3, z4, z5, z6⟩ := hz
                go_simp
              try simp only [List.getElem_toArray, List.getElem_cons_zero, List.getElem_cons_succ, Act.put, List.setIfInBounds_toArray, List.set_cons_zero, List.set_cons_succ]
              refine wpAnyH_take (i := 22) (v := .pointer (some ⟨g, o + j * 2, none⟩)) rfl (by kernel_rfl) (by kernel_rfl) (by kernel_rfl) (fun _ _ _ h => h) (Or.inl ⟨by rfl, fun z hz => ?_⟩) hS1 ?_
              · obtain ⟨z1, z2, z3, z4, z5, z6⟩ := hz
                go_simp
              try simp only [List.getElem_toArray, List.getElem_cons_zero, List.getElem_cons_succ, Act.put, List.setIfInBounds_toArray, List.set_cons_zero, List.set_cons_succ]
              refine wpAnyH_take (i := 23) (v := x) rfl (by kernel_rfl) (by kernel_rfl) (by kernel_rfl) (fun _ _ _ h => h) (Or.inl ⟨by rfl, fun z hz => ?_⟩) hS1 ?_
              · obtain ⟨z1, z2, z3, z4, z5, z6⟩ := hz
                go_simp
              try simp only [List.getElem_toArray, List.getElem_cons_zero, List.getElem_cons_succ, Act.put, List.setIfInBounds_toArray, List.set_cons_zero, List.set_cons_succ]
              refine wpAnyH_ready (rs := [24]) (by kernel_rfl) (by simp) ?_
              refine AllReadyH.cons rfl (fun K hK => ?_) AllReadyH.nil
              have HS2 := Lib.hid hS1
              have HY := Lib.hid hS1.2.2.2.2.1
              have HX2 := Lib.hid hS1.2.2.2.2.2.2.2.2.2.1
              go_simp
              refine (l4Compare y x po eo _ HY.out HX2.out).mono ?_
              rintro e v2 ⟨rfl, hb⟩
              refine hK.out _ _ (HS2.out.step hb) (fun hS2 => ?_)
              clear hK K hb
              try simp only [List.getElem_toArray, List.getElem_cons_zero, List.getElem_cons_succ, Act.put, List.setIfInBounds_toArray, List.set_cons_zero, List.set_cons_succ]
              refine wpAnyH_take (i := 25) (v := .bool true) rfl (by kernel_rfl) (by kernel_rfl) (by kernel_rfl) (fun _ _ _ h => h) (Or.inl ⟨by rfl, fun z hz => ?_⟩) hS2 ?_
              · obtain ⟨z1, z2, z3, z4, z5, z6⟩ := hz
                go_simp
              try simp only [List.getElem_toArray, List.getElem_cons_zero, List.getElem_cons_succ, Act.put, List.setIfInBounds_toArray, List.set_cons_zero, List.set_cons_succ]
              refine wpAnyH_take (i := 26) (v := .bool true) rfl (by kernel_rfl) (by kernel_rfl) (by kernel_rfl) (fun _ _ _ h => h) (Or.inl ⟨by rfl, fun z hz => ?_⟩) hS2 ?_
              · obtain ⟨z1, z2, z3, z4, z5, z6⟩ := hz
                go_simp
              try simp only [List.getElem_toArray, List.getElem_cons_zero, List.getElem_cons_succ, Act.put, List.setIfInBounds_toArray, List.set_cons_zero, List.set_cons_succ]
              refine wpAnyH_take (i := 27) (v := .bool true) rfl (by kernel_rfl) (by kernel_rfl) (by kernel_rfl) (fun _ _ _ h => h) (Or.inl ⟨by rfl, fun z hz => ?_⟩) hS2 ?_
              · obtain ⟨z1, z2, z3, z4, z5, z6⟩ := hz
                go_simp
              try simp only [List.getElem_toArray, List.getElem_cons_zero, List.getElem_cons_succ, Act.put, List.setIfInBounds_toArray, List.set_cons_zero, List.set_cons_succ]
              refine wpAnyH_done (by kernel_rfl) ?_ _
              have HK2 := Lib.hid (hS2.2.2.2.2.2.2.2.2.2.2)
              clear hS0 hS1 hS2 HS1 HS2
              go_wp2
              go_ret
              exact ⟨ret_bool (by rw [HF.out, HNO.out]; simp), HK2.out.2.2.2⟩
      · have hjl : j = l.length := by omega
        subst hjl
        have h1 := HA.out; have h2 := HR.out
        rw [List.take_length] at h1 h2
        have HD := Lib.hid (show P.dic l = true by rw [HF.out, h1, h2]; rfl)
        clear h1 h2 hent
        go_wp2
        go_ret
        exact ⟨ret_bool HD.out.symm, hbel⟩
theorem indexFunc (u : Value) (l : List Int) (C : Nat) (w : World) (hu : IntR w u l) (hf : w.cell? ⟨C, 0, none⟩ = some strokeF) :
    Calls Tryz.prog 183 #[u, notF C] w fun e w' => (∃ n : Int, e = .returned (.int .i64 n) ∧ decide (0 ≤ n) = !(l.all P.stroke)) ∧ w = w' := by
  have HU := Lib.hid hu
  obtain ⟨ad, cap, rfl, hl, _⟩ := hu
  go_enter Tryz.func183, Tryz.ntmps183
  go_wp2
  go_loop [5, 8] (fun _ i => ∃ j : Nat, j ≤ l.length ∧ i = .int .i64 j ∧ (l.take j).all P.stroke = true) (fun _ i => l.length - (intOf i).toNat)
  case atStart => exact ⟨0, Nat.zero_le _, rfl, by simp⟩
  case round =>
    obtain ⟨j, hj, rfl, ha⟩ := hrel
    have HA := Lib.hid ha; clear ha
    by_cases hlt : j < l.length
    · obtain ⟨g, o, rfl, hg, c0⟩ := HU.out.at j hlt
      have HSN := Lib.hid (take_snoc l j hlt)
      generalize l[j] = x at *
      cases hx : P.stroke x
      · have HNO := Lib.hid (show l.all P.stroke = false by
          rw [← List.take_append_drop (j + 1) l, HSN.out, List.all_append, List.all_append]
          simp [hx])
        go_wp2_with fail
        refine (all_step _ _ _ hf).mono ?_
        rintro e w' ⟨rfl, rfl⟩
        rw [hx]
        go_wp2
        go_ret
        exact ⟨⟨(j : Int), rfl, by rw [HNO.out]; simp⟩, rfl⟩
      · have HX := Lib.hid hx
        go_wp2_with fail
        refine (all_step _ _ _ hf).mono ?_
        rintro e w' ⟨rfl, rfl⟩
        rw [hx]
        go_wp2
        go_round
        case rel => exact ⟨j + 1, by omega, by go_num, by rw [HSN.out, List.all_append, HA.out]; simp [HX.out]⟩
        case measure => simp [intOf]; omega
    · have HT := Lib.hid (show l.all P.stroke = true by have := HA.out; rwa [List.take_of_length_le (by omega)] at this)
      go_wp2
      go_ret
      exact ⟨⟨-1, rfl, by rw [HT.out]; rfl⟩, rfl⟩
theorem containsFunc (u : Value) (l : List Int) (C : Nat) (w : World) (hu : IntR w u l) (hf : w.cell? ⟨C, 0, none⟩ = some strokeF) :
    Calls Tryz.prog 163 #[u, notF C] w fun e w' => e = .returned (.bool (!(l.all P.stroke))) ∧ w = w' := by
  have HU := Lib.hid hu
  obtain ⟨ad, cap, rfl, hl, _⟩ := hu
  go_enter Tryz.func163, Tryz.ntmps163
  go_wp2_with fail
  refine (indexFunc _ l _ _ HU.out hf).mono ?_
  rintro e w' ⟨⟨n, rfl, hn⟩, rfl⟩
  have HN := Lib.hid hn; clear hn
  go_wp2
  go_ret
  exact ⟨ret_bool HN.out, rfl⟩
theorem allStrokes (u : Value) (l : List Int) (w : World) (hu : IntR w u l) :
    Calls Tryz.prog 139 #[u, strokeF] w fun e w' => e = .returned (.bool (l.all P.stroke)) ∧ Below w.heap.size w w' := by
  have HU := Lib.hid (hu.below ((Below.refl _ _).alloc (Nat.le_refl _) (.cells #[strokeF] 93)))
  obtain ⟨ad, cap, rfl, hl, _⟩ := hu
  go_enter Tryz.func139, Tryz.ntmps139
  go_wp2_with fail
  refine (containsFunc _ l _ _ HU.out (by go_simp)).mono ?_
  rintro e w' ⟨rfl, rfl⟩
  go_wp2
  go_ret
  exact ⟨ret_bool (by simp), (Below.refl _ _).alloc (Nat.le_refl _) _⟩
theorem isValidOutline (u : Value) (l : List Int) (w : World) (hu : IntR w u l) :
    Calls Tryz.prog 134 #[u] w fun e w' => e = .returned (.bool (P.outline l)) ∧ Below w.heap.size w w' := by
  have HU := Lib.hid hu
  obtain ⟨ad, cap, rfl, hl, _⟩ := hu
  cases h1 : decide (1 ≤ (l.length : Int) ∧ (l.length : Int) ≤ 6)
  · have HF := Lib.hid (show P.outline l = false by unfold P.outline; rw [h1]; rfl)
    go_enter Tryz.func134, Tryz.ntmps134
    go_wp2_with (go_at_call 108; refine (impl_in _ _ _ _).mono ?_; rintro e w' ⟨rfl, rfl⟩)
    go_ret
    exact ⟨ret_bool HF.out.symm, Below.refl _ _⟩
  · have HF := Lib.hid (show P.outline l = l.all P.stroke by unfold P.outline; rw [h1]; rfl)
    go_enter Tryz.func134, Tryz.ntmps134
    go_wp2_with (go_at_call 108; refine (impl_in _ _ _ _).mono ?_; rintro e w' ⟨rfl, rfl⟩)
    refine (allStrokes _ l _ HU.out).mono ?_
    rintro e w1 ⟨rfl, hb⟩
    have HB := Lib.hid hb; clear hb
    go_wp2
    go_ret
    exact ⟨ret_bool HF.out.symm, HB.out⟩
theorem isTranslation (t : Str) (w : World) (ht : t.length ≤ 9223372036854775807) (hE : Env w) :
    Calls Tryz.prog 135 #[.string (S t)] w fun e w' => e = .returned (.bool (P.transS t).2) ∧ Below w.heap.size w w' := by
  go_enter Tryz.func135, Tryz.ntmps135
  go_wp2_with fail
  refine (impl_parseTranslation _ _ ht hE).mono ?_
  rintro e w1 ⟨v, rfl, _, hb⟩
  have HB := Lib.hid hb; clear hb
  generalize hok : (P.transS t).2 = ok at *
  have HK := Lib.hid hok; clear hok
  go_wp2
  go_ret
  exact ⟨ret_bool HK.out.symm, HB.out⟩
theorem isValidEntry (u : Value) (l : List Int) (t : Str) (w : World) (hu : IntR w u l) (ht : t.length ≤ 9223372036854775807) (hE : Env w) :
    Calls Tryz.prog 103 #[.agg #[u, .string (S t)]] w fun e w' => e = .returned (.bool (P.entry (l, t))) ∧ Below w.heap.size w w' := by
  have HU := Lib.hid (hu.below ((Below.refl _ _).alloc (Nat.le_refl _) (.cells #[u, .string (S t)] 47)))
  obtain ⟨ad, cap, rfl, _, _⟩ := hu
  have HE := Lib.hid hE; clear hE
  have HF := Lib.hid (show P.entry (l, t) = (P.outline l && (P.transS t).2) from rfl)
  go_enter Tryz.func103, Tryz.ntmps103
  go_wp2_with fail
  refine (isValidOutline _ l _ HU.out).mono ?_
  rintro e w1 ⟨rfl, hb⟩
  obtain ⟨hcc, _⟩ := bcell hb
  have hz := grew0 hb
  have c1 : w1.cell? ⟨w.heap.size, 1, none⟩ = some (.string (S t)) := by rw [hcc _ _ (by simp)]; go_simp
  have HE1 := Lib.hid ((HE.out.alloc (.cells #[.slice ad l.length cap, .string (S t)] 47)).below hb (HE.out.alloc _).size)
  have HB := Lib.hid (((Below.refl w.heap.size w).alloc (Nat.le_refl _) (.cells #[.slice ad l.length cap, .string (S t)] 47)).trans (hb.mono (by simp)))
  clear hb hcc HU
  generalize P.outline l = o at *
  cases o
  · go_wp2
    go_ret
    exact ⟨ret_bool (by rw [HF.out]; rfl), HB.out⟩
  · go_wp2_with fail
    refine (isTranslation _ _ ht HE1.out).mono ?_
    rintro e w2 ⟨rfl, hb⟩
    have HB2 := Lib.hid (HB.out.trans (hb.mono HB.out.size)); clear hb
    go_wp2
    go_ret
    exact ⟨ret_bool (by rw [HF.out]; rfl), HB2.out⟩
theorem slicesCompare (u v : Value) (a b : List Int) (w : World) (hu : IntR w u a) (hv : IntR w v b) :
    Calls Tryz.prog 104 #[u, v] w fun e w' => e = .returned (.int .i64 (P.cmp a b)) ∧ w = w' := by
  have HU := Lib.hid hu; have HV := Lib.hid hv
  obtain ⟨ad, cap, rfl, hla, _⟩ := hu
  obtain ⟨bd, dap, rfl, hlb, _⟩ := hv
  go_enter Tryz.func104, Tryz.ntmps104
  go_wp2
  go_loop [11] (fun i => ∃ j : Nat, j ≤ a.length ∧ j ≤ b.length ∧ i = .int .i64 j ∧ P.cmp a b = P.cmp (a.drop j) (b.drop j)) (fun i => a.length - (intOf i).toNat)
  case atStart => exact ⟨0, Nat.zero_le _, Nat.zero_le _, rfl, rfl⟩
  case round =>
    obtain ⟨j, hja, hjb, rfl, hc⟩ := hrel
    have HC := Lib.hid hc; clear hc
    by_cases h1 : j < a.length
    · obtain ⟨g, o, hga, hgl, c0⟩ := HU.out.at j h1
      by_cases h2 : j < b.length
      · obtain ⟨g', o', hgb, hgl', d0⟩ := HV.out.at j h2
        have HST := Lib.hid (P.cmp_step h1 h2)
        subst hga hgb
        generalize a[j] = x at *
        generalize b[j] = y at *
        have i2 : ¬ (b.length : Int) ≤ (j : Int) := by omega
        rcases Int.lt_trichotomy x y with h | h | h
        · have HF := Lib.hid (show P.cmp a b = -1 by rw [HC.out, HST.out, if_pos h])
          go_wp2_with (go_at_call 136; refine (cmpInt _ _ _).mono ?_; rintro e w' ⟨rfl, rfl⟩; rw [if_pos h])
          go_ret
          exact ⟨(by first | (rw [HF.out]; done) | (rw [HF.out]; rfl)), rfl⟩
        · have n1 : ¬ x < y := by omega
          have n2 : ¬ y < x := by omega
          have HN := Lib.hid (show P.cmp a b = P.cmp (a.drop (j + 1)) (b.drop (j + 1)) by rw [HC.out, HST.out, if_neg n1, if_neg n2])
          clear h
          go_wp2_with (go_at_call 136; refine (cmpInt _ _ _).mono ?_; rintro e w' ⟨rfl, rfl⟩; rw [if_neg n1, if_neg n2])
          go_round
          case rel => exact ⟨j + 1, by omega, by omega, by go_num, HN.out⟩
          case measure => simp [intOf]; omega
        · have n1 : ¬ x < y := by omega
          have HF := Lib.hid (show P.cmp a b = 1 by rw [HC.out, HST.out, if_neg n1, if_pos h])
          go_wp2_with (go_at_call 136; refine (cmpInt _ _ _).mono ?_; rintro e w' ⟨rfl, rfl⟩; rw [if_neg n1, if_pos h])
          go_ret
          exact ⟨(by first | (rw [HF.out]; done) | (rw [HF.out]; rfl)), rfl⟩
      · have HF := Lib.hid (show P.cmp a b = 1 by
          rw [HC.out, List.drop_eq_getElem_cons h1, List.drop_of_length_le (l := b) (by omega)]; rfl)
        have i2 : (b.length : Int) ≤ (j : Int) := by omega
        subst hga
        go_wp2
        go_ret
        exact ⟨(by first | (rw [HF.out]; done) | (rw [HF.out]; rfl)), rfl⟩
    · have k0 : ¬ (j : Int) < (a.length : Int) := by omega
      by_cases h2 : j < b.length
      · have HF := Lib.hid (show P.cmp a b = -1 by
          rw [HC.out, List.drop_eq_getElem_cons h2, List.drop_of_length_le (l := a) (by omega)]; rfl)
        have k2 : (a.length : Int) < (b.length : Int) := by omega
        go_wp2
        go_ret
        exact ⟨(by first | (rw [HF.out]; done) | (rw [HF.out]; rfl)), rfl⟩
      · have HF := Lib.hid (show P.cmp a b = 0 by
          rw [HC.out, List.drop_of_length_le (l := a) (by omega), List.drop_of_length_le (l := b) (by omega)]; rfl)
        have k2 : ¬ (a.length : Int) < (b.length : Int) := by omega
        go_wp2
        go_ret
        exact ⟨(by first | (rw [HF.out]; done) | (rw [HF.out]; rfl)), rfl⟩
/-- what region 4 of IsValidDictionary keeps: the box, the entry's own cells -/
def K8 (w : World) (u : Value) (l : P.Dic) (c : Nat) (x : Value) (eo : List Int) (et : Str) (v : World) : Prop :=
  v.cell? ⟨w.heap.size, 0, none⟩ = some u ∧ v.cell? ⟨c, 0, none⟩ = some x ∧ v.cell? ⟨c, 1, none⟩ = some (.string (S et)) ∧ c < v.heap.size ∧ IntR v x eo ∧ Env v ∧ KD w u l v
theorem K8.step {w v v' : World} {u : Value} {l : P.Dic} {c : Nat} {x : Value} {eo : List Int} {et : Str} (h : K8 w u l c x eo et v) (hb : Below v.heap.size v v') : K8 w u l c x eo et v' := by
  obtain ⟨h1, h2, h3, h4, h5, h6, h7⟩ := h
  exact ⟨(h7.step hb).1, (hb.cell (p := ⟨c, 0, none⟩) h4).trans h2, (hb.cell (p := ⟨c, 1, none⟩) h4).trans h3, Nat.lt_of_lt_of_le h4 hb.size, h5.below hb, h6.below hb h6.size, h7.step hb⟩
def K9 (w : World) (u : Value) (l : P.Dic) (c : Nat) (x : Value) (eo : List Int) (et : Str) (g q : Nat) (y : Value) (po : List Int) (v : World) : Prop :=
  v.cell? ⟨w.heap.size, 0, none⟩ = some u ∧ v.cell? ⟨c, 0, none⟩ = some x ∧ v.cell? ⟨c, 1, none⟩ = some (.string (S et)) ∧ v.cell? ⟨g, q, none⟩ = some y ∧ g < v.heap.size ∧ IntR v y po ∧ K8 w u l c x eo et v
theorem K9.step {w v v' : World} {u : Value} {l : P.Dic} {c : Nat} {x : Value} {eo : List Int} {et : Str} {g q : Nat} {y : Value} {po : List Int} (h : K9 w u l c x eo et g q y po v) (hb : Below v.heap.size v v') : K9 w u l c x eo et g q y po v' := by
  obtain ⟨h1, h2, h3, h4, h5, h6, h7⟩ := h
  exact ⟨(h7.step hb).1, (h7.step hb).2.1, (h7.step hb).2.2.1, (hb.cell (p := ⟨g, q, none⟩) h5).trans h4, Nat.lt_of_lt_of_le h5 hb.size, h6.below hb, h7.step hb⟩
theorem isValidDictionary (u : Value) (l : P.Dic) (w : World) (hu : EntR w u l) (ht : ∀ e ∈ l, e.2.length ≤ 9223372036854775807) (hE : Env w) :
    Calls Tryz.prog 61 #[.agg #[u]] w fun e w' => e = .returned (.bool (P.dic l)) ∧ Below w.heap.size w w' := by
  have K0 : KD w u l (w.alloc (.cells #[u] 26)) := ⟨by go_simp, by simp, hu.below ((Below.refl _ _).alloc (Nat.le_refl _) _), (Below.refl _ _).alloc (Nat.le_refl _) _⟩
  have HT := Lib.hid ht; clear ht
  have HE0 := Lib.hid (hE.alloc (.cells #[u] 26)); clear hE
  obtain ⟨ad, cap, rfl, hl, _⟩ := hu
  go_enter Tryz.func61, Tryz.ntmps61
  go_wp2_with fail
  go_loopw [8] (fun i wr => ∃ j : Nat, j ≤ l.length ∧ i = .int .i64 j ∧ (l.take j).all P.entry = true ∧ P.rising (l.take j) = true ∧ KD w (.slice ad l.length cap) l wr ∧ Env wr) (fun i _ => l.length - (intOf i).toNat)
  case atStart => exact ⟨0, Nat.zero_le _, rfl, by simp, rfl, K0, HE0.out⟩
  case round =>
    obtain ⟨j, hj, rfl, ha, hr, K1, hE⟩ := hrel
    clear K0 HE0
    have HA := Lib.hid ha; have HR := Lib.hid hr
    clear ha hr
    have HK := Lib.hid K1
    obtain ⟨d0, dz, hent, hbel⟩ := K1
    by_cases hlt : j < l.length
    · obtain ⟨g, o, rfl, hg, x, c0, c1, hx⟩ := hent.at j hlt
      have htl := HT.out _ (List.getElem_mem hlt)
      have HSN := Lib.hid (take_snoc l j hlt)
      have i1 : (j : Int) < (l.length : Int) := by omega
      have HS0 := Lib.hid (show ∀ t : TypeId, K8 w (.slice (some ⟨g, o, none⟩) l.length cap) l wr.heap.size x l[j].1 l[j].2 (wr.alloc (.cells #[x, .string (S l[j].2)] t)) from fun t =>
        have hbb : Below wr.heap.size wr (wr.alloc (.cells #[x, .string (S l[j].2)] t)) := (Below.refl _ _).alloc (Nat.le_refl _) _
        ⟨(HK.out.step hbb).1, by go_simp, by go_simp, by simp, hx.below hbb, hE.alloc _, HK.out.step hbb⟩)
      have HS := Lib.hid (show K8 w (.slice (some ⟨g, o, none⟩) l.length cap) l wr.heap.size x l[j].1 l[j].2 (wr.alloc (.cells #[x, .string (S l[j].2)] 47)).drew from (HS0.out _).step (Below.refl _ _).drew)
      have HBX := Lib.hid ((Below.refl wr.heap.size wr).alloc (Nat.le_refl _) (.cells #[x, .string (S l[j].2)] 47))
      obtain ⟨xd, xc, rfl, hxl, _⟩ := id hx
      cases hok : P.entry l[j]
      · have HNO := Lib.hid (show l.all P.entry = false by
          rw [← List.take_append_drop (j + 1) l, HSN.out, List.all_append, List.all_append]
          simp [hok])
        have HND := Lib.hid (show P.dic l = false by unfold P.dic; rw [HNO.out]; simp)
        clear hent hbel hx hE HS0 HBX
        generalize l[j] = en at *
        obtain ⟨eo, et⟩ := en
        simp only at c1 htl HS
        go_upto_region 4 with fail
        refine wp_region_held_drew (S := K8 w (.slice (some ⟨g, o, none⟩) l.length cap) l wr.heap.size (.slice xd eo.length xc) eo et) (by kernel_rfl) HS.out (fun hS0 => ?_)
        refine wpAnyH_take (i := 0) (v := .agg #[(.slice xd eo.length xc), .string (S et)]) rfl (by kernel_rfl) (by kernel_rfl) (by kernel_rfl) (fun _ _ _ h => h) (Or.inl ⟨by rfl, fun z hz => ?_⟩) hS0 ?_
        · obtain ⟨z1, z2, z3, z4, z5, z6⟩ := hz
          go_simp
        try simp only [List.getElem_toArray, List.getElem_cons_zero, Act.put, List.setIfInBounds_toArray, List.set_cons_zero, List.set_cons_succ]
        refine wpAnyH_ready (rs := [1]) (by kernel_rfl) (by simp) ?_
        refine AllReadyH.cons rfl (fun K hK => ?_) AllReadyH.nil
        have HS1 := Lib.hid hS0
        have HX := Lib.hid (hS0.2.2.2.2.1)
        have HE := Lib.hid (hS0.2.2.2.2.2.1)
        go_simp
        refine (isValidEntry (.slice xd eo.length xc) eo et _ HX.out htl HE.out).mono ?_
        rintro e v ⟨rfl, hb⟩
        rw [hok]
        refine hK.out _ _ (HS1.out.step hb) (fun hS1 => ?_)
        clear hK K hb
        try simp only [List.getElem_toArray, List.getElem_cons_zero, List.getElem_cons_succ, Act.put, List.setIfInBounds_toArray, List.set_cons_zero, List.set_cons_succ]
        refine wpAnyH_take (i := 2) (v := .bool true) rfl (by kernel_rfl) (by kernel_rfl) (by kernel_rfl) (fun _ _ _ h => h) (Or.inl ⟨by rfl, fun z hz => ?_⟩) hS1 ?_
        · obtain ⟨z1, z2, z3, z4, z5, z6⟩ := hz
          go_simp
        try simp only [List.getElem_toArray, List.getElem_cons_zero, List.getElem_cons_succ, Act.put, List.setIfInBounds_toArray, List.set_cons_zero, List.set_cons_succ]
        refine wpAnyH_take (i := 3) (v := .bool true) rfl (by kernel_rfl) (by kernel_rfl) (by kernel_rfl) (fun _ _ _ h => h) (Or.inl ⟨by rfl, fun z hz => ?_⟩) hS1 ?_
        · obtain ⟨z1, z2, z3, z4, z5, z6⟩ := hz
          go_simp
        try simp only [List.getElem_toArray, List.getElem_cons_zero, List.getElem_cons_succ, Act.put, List.setIfInBounds_toArray, List.set_cons_zero, List.set_cons_succ]
        refine wpAnyH_take (i := 4) rfl (by kernel_rfl) (by kernel_rfl) (by kernel_rfl) (fun _ _ _ h => h) (Or.inr ⟨by rfl, rfl⟩) hS1 ?_
        try simp only [List.getElem_toArray, List.getElem_cons_zero, List.getElem_cons_succ, Act.put, List.setIfInBounds_toArray, List.set_cons_zero, List.set_cons_succ]
        refine wpAnyH_take (i := 5) rfl (by kernel_rfl) (by kernel_rfl) (by kernel_rfl) (fun _ _ _ h => h) (Or.inr ⟨by rfl, rfl⟩) hS1 ?_
        try simp only [List.getElem_toArray, List.getElem_cons_zero, List.getElem_cons_succ, Act.put, List.setIfInBounds_toArray, List.set_cons_zero, List.set_cons_succ]
        refine wpAnyH_take (i := 6) rfl (by kernel_rfl) (by kernel_rfl) (by kernel_rfl) (fun _ _ _ h => h) (Or.inr ⟨by rfl, rfl⟩) hS1 ?_
        try simp only [List.getElem_toArray, List.getElem_cons_zero, List.getElem_cons_succ, Act.put, List.setIfInBounds_toArray, List.set_cons_zero, List.set_cons_succ]
        refine wpAnyH_take (i := 7) rfl (by kernel_rfl) (by kernel_rfl) (by kernel_rfl) (fun _ _ _ h => h) (Or.inr ⟨by rfl, rfl⟩) hS1 ?_
        try simp only [List.getElem_toArray, List.getElem_cons_zero, List.getElem_cons_succ, Act.put, List.setIfInBounds_toArray, List.set_cons_zero, List.set_cons_succ]
        refine wpAnyH_take (i := 8) rfl (by kernel_rfl) (by kernel_rfl) (by kernel_rfl) (fun _ _ _ h => h) (Or.inr ⟨by rfl, rfl⟩) hS1 ?_
        try simp only [List.getElem_toArray, List.getElem_cons_zero, List.getElem_cons_succ, Act.put, List.setIfInBounds_toArray, List.set_cons_zero, List.set_cons_succ]
        refine wpAnyH_take (i := 9) rfl (by kernel_rfl) (by kernel_rfl) (by kernel_rfl) (fun _ _ _ h => h) (Or.inr ⟨by rfl, rfl⟩) hS1 ?_
        try simp only [List.getElem_toArray, List.getElem_cons_zero, List.getElem_cons_succ, Act.put, List.setIfInBounds_toArray, List.set_cons_zero, List.set_cons_succ]
        refine wpAnyH_take (i := 10) rfl (by kernel_rfl) (by kernel_rfl) (by kernel_rfl) (fun _ _ _ h => h) (Or.inr ⟨by rfl, rfl⟩) hS1 ?_
        try simp only [List.getElem_toArray, List.getElem_cons_zero, List.getElem_cons_succ, Act.put, List.setIfInBounds_toArray, List.set_cons_zero, List.set_cons_succ]
        refine wpAnyH_take (i := 11) rfl (by kernel_rfl) (by kernel_rfl) (by kernel_rfl) (fun _ _ _ h => h) (Or.inr ⟨by rfl, rfl⟩) hS1 ?_
        try simp only [List.getElem_toArray, List.getElem_cons_zero, List.getElem_cons_succ, Act.put, List.setIfInBounds_toArray, List.set_cons_zero, List.set_cons_succ]
        refine wpAnyH_take (i := 12) rfl (by kernel_rfl) (by kernel_rfl) (by kernel_rfl) (fun _ _ _ h => h) (Or.inr ⟨by rfl, rfl⟩) hS1 ?_
        try simp only [List.getElem_toArray, List.getElem_cons_zero, List.getElem_cons_succ, Act.put, List.setIfInBounds_toArray, List.set_cons_zero, List.set_cons_succ]
        refine wpAnyH_take (i := 13) rfl (by kernel_rfl) (by kernel_rfl) (by kernel_rfl) (fun _ _ _ h => h) (Or.inr ⟨by rfl, rfl⟩) hS1 ?_
        try simp only [List.getElem_toArray, List.getElem_cons_zero, List.getElem_cons_succ, Act.put, List.setIfInBounds_toArray, List.set_cons_zero, List.set_cons_succ]
        refine wpAnyH_take (i := 14) rfl (by kernel_rfl) (by kernel_rfl) (by kernel_rfl) (fun _ _ _ h => h) (Or.inr ⟨by rfl, rfl⟩) hS1 ?_
        try simp only [List.getElem_toArray, List.getElem_cons_zero, List.getElem_cons_succ, Act.put, List.setIfInBounds_toArray, List.set_cons_zero, List.set_cons_succ]
        refine wpAnyH_take (i := 15) rfl (by kernel_rfl) (by kernel_rfl) (by kernel_rfl) (fun _ _ _ h => h) (Or.inr ⟨by rfl, rfl⟩) hS1 ?_
        try simp only [List.getElem_toArray, List.getElem_cons_zero, List.getElem_cons_succ, Act.put, List.setIfInBounds_toArray, List.set_cons_zero, List.set_cons_succ]
        refine wpAnyH_take (i := 16) rfl (by kernel_rfl) (by kernel_rfl) (by kernel_rfl) (fun _ _ _ h => h) (Or.inr ⟨by rfl, rfl⟩) hS1 ?_
        try simp only [List.getElem_toArray, List.getElem_cons_zero, List.getElem_cons_succ, Act.put, List.setIfInBounds_toArray, List.set_cons_zero, List.set_cons_succ]
        refine wpAnyH_take (i := 17) rfl (by kernel_rfl) (by kernel_rfl) (by kernel_rfl) (fun _ _ _ h => h) (Or.inr ⟨by rfl, rfl⟩) hS1 ?_
        try simp only [List.getElem_toArray, List.getElem_cons_zero, List.getElem_cons_succ, Act.put, List.setIfInBounds_toArray, List.set_cons_zero, List.set_cons_succ]
        refine wpAnyH_take (i := 18) rfl (by kernel_rfl) (by kernel_rfl) (by kernel_rfl) (fun _ _ _ h => h) (Or.inr ⟨by rfl, rfl⟩) hS1 ?_
        try simp only [List.getElem_toArray, List.getElem_cons_zero, List.getElem_cons_succ, Act.put, List.setIfInBounds_toArray, List.set_cons_zero, List.set_cons_succ]
        refine wpAnyH_take (i := 19) (v := .bool true) rfl (by kernel_rfl) (by kernel_rfl) (by kernel_rfl) (fun _ _ _ h => h) (Or.inl ⟨by rfl, fun z hz => ?_⟩) hS1 ?_
        · obtain ⟨z1, z2, z3, z4, z5, z6⟩ := hz
          go_simp
        try simp only [List.getElem_toArray, List.getElem_cons_zero, List.getElem_cons_succ, Act.put, List.setIfInBounds_toArray, List.set_cons_zero, List.set_cons_succ]
        refine wpAnyH_done (by kernel_rfl) ?_ _
        have HB := Lib.hid (hS1.2.2.2.2.2.2.2.2.2)
        clear hS0 hS1 HS1
        go_wp2
        go_ret
        exact ⟨ret_bool (by rw [HND.out]), HB.out⟩
      · have HALL2 := Lib.hid (show (l.take (j + 1)).all P.entry = true by rw [HSN.out, List.all_append, HA.out]; simp [hok])
        by_cases hj0 : j = 0
        · have HR2 := Lib.hid (show P.rising (l.take (j + 1)) = true by rw [HSN.out]; subst hj0; rfl)
          subst hj0
          clear hent hbel hx hE HS0 HBX
          generalize l[0] = en at *
          obtain ⟨eo, et⟩ := en
          simp only [Nat.zero_mul, Nat.add_zero] at c0 c1 htl HS
          go_upto_region 4 with fail
          refine wp_region_held_drew (S := K8 w (.slice (some ⟨g, o, none⟩) l.length cap) l wr.heap.size (.slice xd eo.length xc) eo et) (by kernel_rfl) HS.out (fun hS0 => ?_)
          refine wpAnyH_take (i := 0) (v := .agg #[(.slice xd eo.length xc), .string (S et)]) rfl (by kernel_rfl) (by kernel_rfl) (by kernel_rfl) (fun _ _ _ h => h) (Or.inl ⟨by rfl, fun z hz => ?_⟩) hS0 ?_
          · obtain ⟨z1, z2, z3, z4, z5, z6⟩ := hz
            go_simp
          try simp only [List.getElem_toArray, List.getElem_cons_zero, Act.put, List.setIfInBounds_toArray, List.set_cons_zero, List.set_cons_succ]
          refine wpAnyH_ready (rs := [1]) (by kernel_rfl) (by simp) ?_
          refine AllReadyH.cons rfl (fun K hK => ?_) AllReadyH.nil
          have HS1 := Lib.hid hS0
          have HX := Lib.hid (hS0.2.2.2.2.1)
          have HE := Lib.hid (hS0.2.2.2.2.2.1)
          go_simp
          refine (isValidEntry (.slice xd eo.length xc) eo et _ HX.out htl HE.out).mono ?_
          rintro e v ⟨rfl, hb⟩
          rw [hok]
          refine hK.out _ _ (HS1.out.step hb) (fun hS1 => ?_)
          clear hK K hb
          try simp only [List.getElem_toArray, List.getElem_cons_zero, List.getElem_cons_succ, Act.put, List.setIfInBounds_toArray, List.set_cons_zero, List.set_cons_succ]
          refine wpAnyH_take (i := 2) (v := .bool false) rfl (by kernel_rfl) (by kernel_rfl) (by kernel_rfl) (fun _ _ _ h => h) (Or.inl ⟨by rfl, fun z hz => ?_⟩) hS1 ?_
          · obtain ⟨z1, z2, z3, z4, z5, z6⟩ := hz
            go_simp
          try simp only [List.getElem_toArray, List.getElem_cons_zero, List.getElem_cons_succ, Act.put, List.setIfInBounds_toArray, List.set_cons_zero, List.set_cons_succ]
          refine wpAnyH_take (i := 3) (v := .bool false) rfl (by kernel_rfl) (by kernel_rfl) (by kernel_rfl) (fun _ _ _ h => h) (Or.inl ⟨by rfl, fun z hz => ?_⟩) hS1 ?_
          · obtain ⟨z1, z2, z3, z4, z5, z6⟩ := hz
            go_simp
          try simp only [List.getElem_toArray, List.getElem_cons_zero, List.getElem_cons_succ, Act.put, List.setIfInBounds_toArray, List.set_cons_zero, List.set_cons_succ]
          refine wpAnyH_take (i := 4) (v := .int .i64 0) rfl (by kernel_rfl) (by kernel_rfl) (by kernel_rfl) (fun _ _ _ h => h) (Or.inl ⟨by rfl, fun z hz => ?_⟩) hS1 ?_
          · obtain ⟨z1, z2, z3, z4, z5, z6⟩ := hz
            go_simp
          try simp only [List.getElem_toArray, List.getElem_cons_zero, List.getElem_cons_succ, Act.put, List.setIfInBounds_toArray, List.set_cons_zero, List.set_cons_succ]
          refine wpAnyH_take (i := 5) (v := .bool false) rfl (by kernel_rfl) (by kernel_rfl) (by kernel_rfl) (fun _ _ _ h => h) (Or.inl ⟨by rfl, fun z hz => ?_⟩) hS1 ?_
          · obtain ⟨z1, z2, z3, z4, z5, z6⟩ := hz
            go_simp
          try simp only [List.getElem_toArray, List.getElem_cons_zero, List.getElem_cons_succ, Act.put, List.setIfInBounds_toArray, List.set_cons_zero, List.set_cons_succ]
          refine wpAnyH_take (i := 6) (v := .bool false) rfl (by kernel_rfl) (by kernel_rfl) (by kernel_rfl) (fun _ _ _ h => h) (Or.inl ⟨by rfl, fun z hz => ?_⟩) hS1 ?_
          · obtain ⟨z1, z2, z3, z4, z5, z6⟩ := hz
            go_simp
          try simp only [List.getElem_toArray, List.getElem_cons_zero, List.getElem_cons_succ, Act.put, List.setIfInBounds_toArray, List.set_cons_zero, List.set_cons_succ]
          refine wpAnyH_take (i := 7) rfl (by kernel_rfl) (by kernel_rfl) (by kernel_rfl) (fun _ _ _ h => h) (Or.inr ⟨by rfl, rfl⟩) hS1 ?_
          try simp only [List.getElem_toArray, List.getElem_cons_zero, List.getElem_cons_succ, Act.put, List.setIfInBounds_toArray, List.set_cons_zero, List.set_cons_succ]
          refine wpAnyH_take (i := 8) rfl (by kernel_rfl) (by kernel_rfl) (by kernel_rfl) (fun _ _ _ h => h) (Or.inr ⟨by rfl, rfl⟩) hS1 ?_
          try simp only [List.getElem_toArray, List.getElem_cons_zero, List.getElem_cons_succ, Act.put, List.setIfInBounds_toArray, List.set_cons_zero, List.set_cons_succ]
          refine wpAnyH_take (i := 9) rfl (by kernel_rfl) (by kernel_rfl) (by kernel_rfl) (fun _ _ _ h => h) (Or.inr ⟨by rfl, rfl⟩) hS1 ?_
          try simp only [List.getElem_toArray, List.getElem_cons_zero, List.getElem_cons_succ, Act.put, List.setIfInBounds_toArray, List.set_cons_zero, List.set_cons_succ]
          refine wpAnyH_take (i := 10) rfl (by kernel_rfl) (by kernel_rfl) (by kernel_rfl) (fun _ _ _ h => h) (Or.inr ⟨by rfl, rfl⟩) hS1 ?_
          try simp only [List.getElem_toArray, List.getElem_cons_zero, List.getElem_cons_succ, Act.put, List.setIfInBounds_toArray, List.set_cons_zero, List.set_cons_succ]
          refine wpAnyH_take (i := 11) rfl (by kernel_rfl) (by kernel_rfl) (by kernel_rfl) (fun _ _ _ h => h) (Or.inr ⟨by rfl, rfl⟩) hS1 ?_
          try simp only [List.getElem_toArray, List.getElem_cons_zero, List.getElem_cons_succ, Act.put, List.setIfInBounds_toArray, List.set_cons_zero, List.set_cons_succ]
          refine wpAnyH_take (i := 12) rfl (by kernel_rfl) (by kernel_rfl) (by kernel_rfl) (fun _ _ _ h => h) (Or.inr ⟨by rfl, rfl⟩) hS1 ?_
          try simp only [List.getElem_toArray, List.getElem_cons_zero, List.getElem_cons_succ, Act.put, List.setIfInBounds_toArray, List.set_cons_zero, List.set_cons_succ]
          refine wpAnyH_take (i := 13) rfl (by kernel_rfl) (by kernel_rfl) (by kernel_rfl) (fun _ _ _ h => h) (Or.inr ⟨by rfl, rfl⟩) hS1 ?_
          try simp only [List.getElem_toArray, List.getElem_cons_zero, List.getElem_cons_succ, Act.put, List.setIfInBounds_toArray, List.set_cons_zero, List.set_cons_succ]
          refine wpAnyH_take (i := 14) rfl (by kernel_rfl) (by kernel_rfl) (by kernel_rfl) (fun _ _ _ h => h) (Or.inr ⟨by rfl, rfl⟩) hS1 ?_
          try simp only [List.getElem_toArray, List.getElem_cons_zero, List.getElem_cons_succ, Act.put, List.setIfInBounds_toArray, List.set_cons_zero, List.set_cons_succ]
          refine wpAnyH_take (i := 15) rfl (by kernel_rfl) (by kernel_rfl) (by kernel_rfl) (fun _ _ _ h => h) (Or.inr ⟨by rfl, rfl⟩) hS1 ?_
          try simp only [List.getElem_toArray, List.getElem_cons_zero, List.getElem_cons_succ, Act.put, List.setIfInBounds_toArray, List.set_cons_zero, List.set_cons_succ]
          refine wpAnyH_take (i := 16) rfl (by kernel_rfl) (by kernel_rfl) (by kernel_rfl) (fun _ _ _ h => h) (Or.inr ⟨by rfl, rfl⟩) hS1 ?_
          try simp only [List.getElem_toArray, List.getElem_cons_zero, List.getElem_cons_succ, Act.put, List.setIfInBounds_toArray, List.set_cons_zero, List.set_cons_succ]
          refine wpAnyH_take (i := 17) rfl (by kernel_rfl) (by kernel_rfl) (by kernel_rfl) (fun _ _ _ h => h) (Or.inr ⟨by rfl, rfl⟩) hS1 ?_
          try simp only [List.getElem_toArray, List.getElem_cons_zero, List.getElem_cons_succ, Act.put, List.setIfInBounds_toArray, List.set_cons_zero, List.set_cons_succ]
          refine wpAnyH_take (i := 18) (v := .bool false) rfl (by kernel_rfl) (by kernel_rfl) (by kernel_rfl) (fun _ _ _ h => h) (Or.inl ⟨by rfl, fun z hz => ?_⟩) hS1 ?_
          · obtain ⟨z1, z2, z3, z4, z5, z6⟩ := hz
            go_simp
          try simp only [List.getElem_toArray, List.getElem_cons_zero, List.getElem_cons_succ, Act.put, List.setIfInBounds_toArray, List.set_cons_zero, List.set_cons_succ]
          refine wpAnyH_take (i := 19) (v := .bool false) rfl (by kernel_rfl) (by kernel_rfl) (by kernel_rfl) (fun _ _ _ h => h) (Or.inl ⟨by rfl, fun z hz => ?_⟩) hS1 ?_
          · obtain ⟨z1, z2, z3, z4, z5, z6⟩ := hz
            go_simp
          try simp only [List.getElem_toArray, List.getElem_cons_zero, List.getElem_cons_succ, Act.put, List.setIfInBounds_toArray, List.set_cons_zero, List.set_cons_succ]
          refine wpAnyH_done (by kernel_rfl) ?_ _
          have HK2 := Lib.hid (hS1.2.2.2.2.2)
          clear hS0 hS1 HS1
          go_wp2
          go_roundw
          case rel => exact ⟨0 + 1, by omega, by go_num, HALL2.out, HR2.out, HK2.out.2, HK2.out.1⟩
          case measure => simp [intOf]; omega
        · obtain ⟨g', o', hgg, _, y, p0, _, hy⟩ := hent.at (j - 1) (by omega)
          injection hgg with hgg
          injection hgg with hg1 hg2 _
          subst hg1 hg2
          have HS' := Lib.hid (show K9 w (.slice (some ⟨g, o, none⟩) l.length cap) l wr.heap.size (.slice xd l[j].1.length xc) l[j].1 l[j].2 g (o + (j - 1) * 2) y (l[j - 1]'(by omega)).1 (wr.alloc (.cells #[.slice xd l[j].1.length xc, .string (S l[j].2)] 47)).drew from
            K9.step ⟨(HS0.out _).1, (HS0.out _).2.1, (HS0.out _).2.2.1, (HBX.out.cell (p := ⟨g, _, none⟩) hg).trans p0, Nat.lt_of_lt_of_le hg HBX.out.size, hy.below HBX.out, HS0.out _⟩ (Below.refl _ _).drew)
          have HCM := Lib.hid (show P.rising (l.take (j + 1)) = true ∨ ¬ P.cmp (l[j - 1]'(by omega)).1 l[j].1 < 0 from by
            by_cases hc : P.cmp (l[j - 1]'(by omega)).1 l[j].1 < 0
            · left
              have := P.rising_take (l := l) (j := j - 1) (by omega) (by rw [show j - 1 + 1 = j by omega]; exact HR.out) (by simpa [show j - 1 + 1 = j by omega] using hc)
              rwa [show j - 1 + 2 = j + 1 by omega] at this
            · exact .inr hc)
          have HCN := Lib.hid (show ¬ P.cmp (l[j - 1]'(by omega)).1 l[j].1 < 0 → P.dic l = false from by
            intro hc
            cases hr : P.rising l
            · unfold P.dic; rw [hr]; simp
            · exfalso
              have := P.rising_at hr (j := j - 1) (by omega)
              exact hc (by simpa [show j - 1 + 1 = j by omega] using this))
          have hj1 : 0 < (j : Int) := by omega
          have hj2 : 1 ≤ (j : Int) := by omega
          have hj3 : 0 < j := by omega
          have hw1 : IntKind.i64.wrap ((j : Int) - 1) = (j : Int) - 1 := IntWalk.i64_in _ (by omega)
          have hn3 : ¬ (l.length : Int) ≤ (j : Int) - 1 := by omega
          clear hent hbel hx hy HS hE HS0 HBX
          generalize (l[j - 1]'(by omega)).1 = po at *
          generalize l[j] = en at *
          obtain ⟨eo, et⟩ := en
          simp only at c1 htl HS' HCM HCN
          rcases Int.lt_or_le (P.cmp po eo) 0 with hc | hc
          · have HR2 := Lib.hid (HCM.out.resolve_right fun h => h hc)
            go_upto_region 4 with fail
            refine wp_region_held_drew (S := K9 w (.slice (some ⟨g, o, none⟩) l.length cap) l wr.heap.size (.slice xd eo.length xc) eo et g (o + (j - 1) * 2) y po) (by kernel_rfl) HS'.out (fun hS0 => ?_)
            refine wpAnyH_take (i := 0) (v := .agg #[(.slice xd eo.length xc), .string (S et)]) rfl (by kernel_rfl) (by kernel_rfl) (by kernel_rfl) (fun _ _ _ h => h) (Or.inl ⟨by rfl, fun z hz => ?_⟩) hS0 ?_
            · obtain ⟨z1, z2, z3, z4, z5, z6⟩ := hz
              go_simp
            try simp only [List.getElem_toArray, List.getElem_cons_zero, Act.put, List.setIfInBounds_toArray, List.set_cons_zero, List.set_cons_succ]
            refine wpAnyH_ready (rs := [1]) (by kernel_rfl) (by simp) ?_
            refine AllReadyH.cons rfl (fun K hK => ?_) AllReadyH.nil
            have HS1 := Lib.hid hS0
            have HX := Lib.hid (hS0.2.2.2.2.2.2.2.2.2.2.1)
            have HE := Lib.hid (hS0.2.2.2.2.2.2.2.2.2.2.2.1)
            go_simp
            refine (isValidEntry (.slice xd eo.length xc) eo et _ HX.out htl HE.out).mono ?_
            rintro e v ⟨rfl, hb⟩
            rw [hok]
            refine hK.out _ _ (HS1.out.step hb) (fun hS1 => ?_)
            clear hK K hb
            try simp only [List.getElem_toArray, List.getElem_cons_zero, List.getElem_cons_succ, Act.put, List.setIfInBounds_toArray, List.set_cons_zero, List.set_cons_succ]
            refine wpAnyH_take (i := 2) (v := .bool false) rfl (by kernel_rfl) (by kernel_rfl) (by kernel_rfl) (fun _ _ _ h => h) (Or.inl ⟨by rfl, fun z hz => ?_⟩) hS1 ?_
            · obtain ⟨z1, z2, z3, z4, z5, z6⟩ := hz
              go_simp
            try simp only [List.getElem_toArray, List.getElem_cons_zero, List.getElem_cons_succ, Act.put, List.setIfInBounds_toArray, List.set_cons_zero, List.set_cons_succ]
            refine wpAnyH_take (i := 3) (v := .bool false) rfl (by kernel_rfl) (by kernel_rfl) (by kernel_rfl) (fun _ _ _ h => h) (Or.inl ⟨by rfl, fun z hz => ?_⟩) hS1 ?_
            · obtain ⟨z1, z2, z3, z4, z5, z6⟩ := hz
              go_simp
            try simp only [List.getElem_toArray, List.getElem_cons_zero, List.getElem_cons_succ, Act.put, List.setIfInBounds_toArray, List.set_cons_zero, List.set_cons_succ]
            refine wpAnyH_take (i := 4) (v := .int .i64 j) rfl (by kernel_rfl) (by kernel_rfl) (by kernel_rfl) (fun _ _ _ h => h) (Or.inl ⟨by rfl, fun z hz => ?_⟩) hS1 ?_
            · obtain ⟨z1, z2, z3, z4, z5, z6⟩ := hz
              go_simp
            try simp only [List.getElem_toArray, List.getElem_cons_zero, List.getElem_cons_succ, Act.put, List.setIfInBounds_toArray, List.set_cons_zero, List.set_cons_succ]
            refine wpAnyH_take (i := 5) (v := .bool true) rfl (by kernel_rfl) (by kernel_rfl) (by kernel_rfl) (fun _ _ _ h => h) (Or.inl ⟨by rfl, fun z hz => ?_⟩) hS1 ?_
            · obtain ⟨z1, z2, z3, z4, z5, z6⟩ := hz
              go_simp
            try simp only [List.getElem_toArray, List.getElem_cons_zero, List.getElem_cons_succ, Act.put, List.setIfInBounds_toArray, List.set_cons_zero, List.set_cons_succ]
            refine wpAnyH_take (i := 6) (v := .bool true) rfl (by kernel_rfl) (by kernel_rfl) (by kernel_rfl) (fun _ _ _ h => h) (Or.inl ⟨by rfl, fun z hz => ?_⟩) hS1 ?_
            · obtain ⟨z1, z2, z3, z4, z5, z6⟩ := hz
              go_simp
            try simp only [List.getElem_toArray, List.getElem_cons_zero, List.getElem_cons_succ, Act.put, List.setIfInBounds_toArray, List.set_cons_zero, List.set_cons_succ]
            refine wpAnyH_take (i := 7) (v := .pointer (some ⟨w.heap.size, 0, none⟩)) rfl (by kernel_rfl) (by kernel_rfl) (by kernel_rfl) (fun _ _ _ h => h) (Or.inl ⟨by rfl, fun z hz => ?_⟩) hS1 ?_
            · obtain ⟨z1, z2, z3, z4, z5, z6⟩ := hz
              go_simp
            try simp only [List.getElem_toArray, List.getElem_cons_zero, List.getElem_cons_succ, Act.put, List.setIfInBounds_toArray, List.set_cons_zero, List.set_cons_succ]
            refine wpAnyH_take (i := 8) (v := .slice (some ⟨g, o, none⟩) l.length cap) rfl (by kernel_rfl) (by kernel_rfl) (by kernel_rfl) (fun _ _ _ h => h) (Or.inl ⟨by rfl, fun z hz => ?_⟩) hS1 ?_
            · obtain ⟨z1, z2, z3, z4, z5, z6⟩ := hz
              go_simp
            try simp only [List.getElem_toArray, List.getElem_cons_zero, List.getElem_cons_succ, Act.put, List.setIfInBounds_toArray, List.set_cons_zero, List.set_cons_succ]
            refine wpAnyH_take (i := 9) (v := .int .i64 j) rfl (by kernel_rfl) (by kernel_rfl) (by kernel_rfl) (fun _ _ _ h => h) (Or.inl ⟨by rfl, fun z hz => ?_⟩) hS1 ?_
            · obtain ⟨z1, z2, z3, z4, z5, z6⟩ := hz
              go_simp
            try simp only [List.getElem_toArray, List.getElem_cons_zero, List.getElem_cons_succ, Act.put, List.setIfInBounds_toArray, List.set_cons_zero, List.set_cons_succ]
            refine wpAnyH_take (i := 10) (v := .int .i64 ((j : Int) - 1)) rfl (by kernel_rfl) (by kernel_rfl) (by kernel_rfl) (fun _ _ _ h => h) (Or.inl ⟨by rfl, fun z hz => ?_⟩) hS1 ?_
            · obtain ⟨z1, z2, z3, z4, z5, z6⟩ := hz
              go_simp
            try simp only [List.getElem_toArray, List.getElem_cons_zero, List.getElem_cons_succ, Act.put, List.setIfInBounds_toArray, List.set_cons_zero, List.set_cons_succ]
            refine wpAnyH_take (i := 11) (v := .pointer (some ⟨g, o + (j - 1) * 2, none⟩)) rfl (by kernel_rfl) (by kernel_rfl) (by kernel_rfl) (fun _ _ _ h => h) (Or.inl ⟨by rfl, fun z hz => ?_⟩) hS1 ?_
            · obtain ⟨z1, z2, z3, z4, z5, z6⟩ := hz
              go_simp
            try simp only [List.getElem_toArray, List.getElem_cons_zero, List.getElem_cons_succ, Act.put, List.setIfInBounds_toArray, List.set_cons_zero, List.set_cons_succ]
            refine wpAnyH_take (i := 12) (v := .pointer (some ⟨g, o + (j - 1) * 2, none⟩)) rfl (by kernel_rfl) (by kernel_rfl) (by kernel_rfl) (fun _ _ _ h => h) (Or.inl ⟨by rfl, fun z hz => ?_⟩) hS1 ?_
            · obtain ⟨z1, z2, z3, z4, z5, z6⟩ := hz
              go_simp
            try simp only [List.getElem_toArray, List.getElem_cons_zero, List.getElem_cons_succ, Act.put, List.setIfInBounds_toArray, List.set_cons_zero, List.set_cons_succ]
            refine wpAnyH_take (i := 13) (v := y) rfl (by kernel_rfl) (by kernel_rfl) (by kernel_rfl) (fun _ _ _ h => h) (Or.inl ⟨by rfl, fun z hz => ?_⟩) hS1 ?_
            · obtain ⟨z1, z2, z3, z4, z5, z6⟩ := hz
              go_simp
            try simp only [List.getElem_toArray, List.getElem_cons_zero, List.getElem_cons_succ, Act.put, List.setIfInBounds_toArray, List.set_cons_zero, List.set_cons_succ]
            refine wpAnyH_take (i := 14) (v := .pointer (some ⟨wr.heap.size, 0, none⟩)) rfl (by kernel_rfl) (by kernel_rfl) (by kernel_rfl) (fun _ _ _ h => h) (Or.inl ⟨by rfl, fun z hz => ?_⟩) hS1 ?_
            · obtain ⟨z1, z2, z3, z4, z5, z6⟩ := hz
              go_simp
            try simp only [List.getElem_toArray, List.getElem_cons_zero, List.getElem_cons_succ, Act.put, List.setIfInBounds_toArray, List.set_cons_zero, List.set_cons_succ]
            refine wpAnyH_take (i := 15) (v := (.slice xd eo.length xc)) rfl (by kernel_rfl) (by kernel_rfl) (by kernel_rfl) (fun _ _ _ h => h) (Or.inl ⟨by rfl, fun z hz => ?_⟩) hS1 ?_
            · obtain ⟨z1, z2, z3, z4, z5, z6⟩ := hz
              go_simp
            try simp only [List.getElem_toArray, List.getElem_cons_zero, List.getElem_cons_succ, Act.put, List.setIfInBounds_toArray, List.set_cons_zero, List.set_cons_succ]
            refine wpAnyH_ready (rs := [16]) (by kernel_rfl) (by simp) ?_
            refine AllReadyH.cons rfl (fun K hK => ?_) AllReadyH.nil
            have HS2 := Lib.hid hS1
            have HY := Lib.hid hS1.2.2.2.2.2.1
            have HX2 := Lib.hid hS1.2.2.2.2.2.2.2.2.2.2.1
            go_simp
            refine (slicesCompare y (.slice xd eo.length xc) po eo _ HY.out HX2.out).mono ?_
            rintro e v2 ⟨rfl, rfl⟩
            refine hK.out _ _ HS2.out (fun hS2 => ?_)
            clear hK K
            try simp only [List.getElem_toArray, List.getElem_cons_zero, List.getElem_cons_succ, Act.put, List.setIfInBounds_toArray, List.set_cons_zero, List.set_cons_succ]
            refine wpAnyH_take (i := 17) (v := .bool false) rfl (by kernel_rfl) (by kernel_rfl) (by kernel_rfl) (fun _ _ _ h => h) (Or.inl ⟨by rfl, fun z hz => ?_⟩) hS2 ?_
            · obtain ⟨z1, z2, z3, z4, z5, z6⟩ := hz
              go_simp
            try simp only [List.getElem_toArray, List.getElem_cons_zero, List.getElem_cons_succ, Act.put, List.setIfInBounds_toArray, List.set_cons_zero, List.set_cons_succ]
            refine wpAnyH_take (i := 18) (v := .bool false) rfl (by kernel_rfl) (by kernel_rfl) (by kernel_rfl) (fun _ _ _ h => h) (Or.inl ⟨by rfl, fun z hz => ?_⟩) hS2 ?_
            · obtain ⟨z1, z2, z3, z4, z5, z6⟩ := hz
              go_simp
            try simp only [List.getElem_toArray, List.getElem_cons_zero, List.getElem_cons_succ, Act.put, List.setIfInBounds_toArray, List.set_cons_zero, List.set_cons_succ]
            refine wpAnyH_take (i := 19) (v := .bool false) rfl (by kernel_rfl) (by kernel_rfl) (by kernel_rfl) (fun _ _ _ h => h) (Or.inl ⟨by rfl, fun z hz => ?_⟩) hS2 ?_
            · obtain ⟨z1, z2, z3, z4, z5, z6⟩ := hz
              go_simp
            try simp only [List.getElem_toArray, List.getElem_cons_zero, List.getElem_cons_succ, Act.put, List.setIfInBounds_toArray, List.set_cons_zero, List.set_cons_succ]
            refine wpAnyH_done (by kernel_rfl) ?_ _
            have HK2 := Lib.hid (hS2.2.2.2.2.2.2.2.2.2.2.2)
            clear hS0 hS1 hS2 HS1 HS2
            go_wp2
            go_roundw
            case rel => exact ⟨j + 1, by omega, by go_num, HALL2.out, HR2.out, HK2.out.2, HK2.out.1⟩
            case measure => simp [intOf]; omega
          · have HNO := Lib.hid (HCN.out (by omega))
            go_upto_region 4 with fail
            refine wp_region_held_drew (S := K9 w (.slice (some ⟨g, o, none⟩) l.length cap) l wr.heap.size (.slice xd eo.length xc) eo et g (o + (j - 1) * 2) y po) (by kernel_rfl) HS'.out (fun hS0 => ?_)
            refine wpAnyH_take (i := 0) (v := .agg #[(.slice xd eo.length xc), .string (S et)]) rfl (by kernel_rfl) (by kernel_rfl) (by kernel_rfl) (fun _ _ _ h => h) (Or.inl ⟨by rfl, fun z hz => ?_⟩) hS0 ?_
            · obtain ⟨z1, z2, z3, z4, z5, z6⟩ := hz
              go_simp
            try simp only [List.getElem_toArray, List.getElem_cons_zero, Act.put, List.setIfInBounds_toArray, List.set_cons_zero, List.set_cons_succ]
            refine wpAnyH_ready (rs := [1]) (by kernel_rfl) (by simp) ?_
            refine AllReadyH.cons rfl (fun K hK => ?_) AllReadyH.nil
            have HS1 := Lib.hid hS0
            have HX := Lib.hid (hS0.2.2.2.2.2.2.2.2.2.2.1)
            have HE := Lib.hid (hS0.2.2.2.2.2.2.2.2.2.2.2.1)
            go_simp
            refine (isValidEntry (.slice xd eo.length xc) eo et _ HX.out htl HE.out).mono ?_
            rintro e v ⟨rfl, hb⟩
            rw [hok]
            refine hK.out _ _ (HS1.out.step hb) (fun hS1 => ?_)
            clear hK K hb
            try simp only [List.getElem_toArray, List.getElem_cons_zero, List.getElem_cons_succ, Act.put, List.setIfInBounds_toArray, List.set_cons_zero, List.set_cons_succ]
            refine wpAnyH_take (i := 2) (v := .bool false) rfl (by kernel_rfl) (by kernel_rfl) (by kernel_rfl) (fun _ _ _ h => h) (Or.inl ⟨by rfl, fun z hz => ?_⟩) hS1 ?_
            · obtain ⟨z1, z2, z3, z4, z5, z6⟩ := hz
              go_simp
            try simp only [List.getElem_toArray, List.getElem_cons_zero, List.getElem_cons_succ, Act.put, List.setIfInBounds_toArray, List.set_cons_zero, List.set_cons_succ]
            refine wpAnyH_take (i := 3) (v := .bool false) rfl (by kernel_rfl) (by kernel_rfl) (by kernel_rfl) (fun _ _ _ h => h) (Or.inl ⟨by rfl, fun z hz => ?_⟩) hS1 ?_
            · obtain ⟨z1, z2, z3, z4, z5, z6⟩ := hz
              go_simp
            try simp only [List.getElem_toArray, List.getElem_cons_zero, List.getElem_cons_succ, Act.put, List.setIfInBounds_toArray, List.set_cons_zero, List.set_cons_succ]
            refine wpAnyH_take (i := 4) (v := .int .i64 j) rfl (by kernel_rfl) (by kernel_rfl) (by kernel_rfl) (fun _ _ _ h => h) (Or.inl ⟨by rfl, fun z hz => ?_⟩) hS1 ?_
            · obtain ⟨z1, z2, z3, z4, z5, z6⟩ := hz
              go_simp
            try simp only [List.getElem_toArray, List.getElem_cons_zero, List.getElem_cons_succ, Act.put, List.setIfInBounds_toArray, List.set_cons_zero, List.set_cons_succ]
            refine wpAnyH_take (i := 5) (v := .bool true) rfl (by kernel_rfl) (by kernel_rfl) (by kernel_rfl) (fun _ _ _ h => h) (Or.inl ⟨by rfl, fun z hz => ?_⟩) hS1 ?_
            · obtain ⟨z1, z2, z3, z4, z5, z6⟩ := hz
              go_simp
            try simp only [List.getElem_toArray, List.getElem_cons_zero, List.getElem_cons_succ, Act.put, List.setIfInBounds_toArray, List.set_cons_zero, List.set_cons_succ]
            refine wpAnyH_take (i := 6) (v := .bool true) rfl (by kernel_rfl) (by kernel_rfl) (by kernel_rfl) (fun _ _ _ h => h) (Or.inl ⟨by rfl, fun z hz => ?_⟩) hS1 ?_
            · obtain ⟨z1, z2, z3, z4, z5, z6⟩ := hz
              go_simp
            try simp only [List.getElem_toArray, List.getElem_cons_zero, List.getElem_cons_succ, Act.put, List.setIfInBounds_toArray, List.set_cons_zero, List.set_cons_succ]
            refine wpAnyH_take (i := 7) (v := .pointer (some ⟨w.heap.size, 0, none⟩)) rfl (by kernel_rfl) (by kernel_rfl) (by kernel_rfl) (fun _ _ _ h => h) (Or.inl ⟨by rfl, fun z hz => ?_⟩) hS1 ?_
            · obtain ⟨z1, z2, z3, z4, z5, z6⟩ := hz
              go_simp
            try simp only [List.getElem_toArray, List.getElem_cons_zero, List.getElem_cons_succ, Act.put, List.setIfInBounds_toArray, List.set_cons_zero, List.set_cons_succ]
            refine wpAnyH_take (i := 8) (v := .slice (some ⟨g, o, none⟩) l.length cap) rfl (by kernel_rfl) (by kernel_rfl) (by kernel_rfl) (fun _ _ _ h => h) (Or.inl ⟨by rfl, fun z hz => ?_⟩) hS1 ?_
            · obtain ⟨z1, z2, z3, z4, z5, z6⟩ := hz
              go_simp
            try simp only [List.getElem_toArray, List.getElem_cons_zero, List.getElem_cons_succ, Act.put, List.setIfInBounds_toArray, List.set_cons_zero, List.set_cons_succ]
            refine wpAnyH_take (i := 9) (v := .int .i64 j) rfl (by kernel_rfl) (by kernel_rfl) (by kernel_rfl) (fun _ _ _ h => h) (Or.inl ⟨by rfl, fun z hz => ?_⟩) hS1 ?_
            · obtain ⟨z1, z2, z3, z4, z5, z6⟩ := hz
              go_simp
            try simp only [List.getElem_toArray, List.getElem_cons_zero, List.getElem_cons_succ, Act.put, List.setIfInBounds_toArray, List.set_cons_zero, List.set_cons_succ]
            refine wpAnyH_take (i := 10) (v := .int .i64 ((j : Int) - 1)) rfl (by kernel_rfl) (by kernel_rfl) (by kernel_rfl) (fun _ _ _ h => h) (Or.inl ⟨by rfl, fun z hz => ?_⟩) hS1 ?_
            · obtain ⟨z1, z2, z3, z4, z5, z6⟩ := hz
              go_simp
            try simp only [List.getElem_toArray, List.getElem_cons_zero, List.getElem_cons_succ, Act.put, List.setIfInBounds_toArray, List.set_cons_zero, List.set_cons_succ]
            refine wpAnyH_take (i := 11) (v := .pointer (some ⟨g, o + (j - 1) * 2, none⟩)) rfl (by kernel_rfl) (by kernel_rfl) (by kernel_rfl) (fun _ _ _ h => h) (Or.inl ⟨by rfl, fun z hz => ?_⟩) hS1 ?_
            · obtain ⟨z1, z2, z3, z4, z5, z6⟩ := hz
              go_simp
            try simp only [List.getElem_toArray, List.getElem_cons_zero, List.getElem_cons_succ, Act.put, List.setIfInBounds_toArray, List.set_cons_zero, List.set_cons_succ]
            refine wpAnyH_take (i := 12) (v := .pointer (some ⟨g, o + (j - 1) * 2, none⟩)) rfl (by kernel_rfl) (by kernel_rfl) (by kernel_rfl) (fun _ _ _ h => h) (Or.inl ⟨by rfl, fun z hz => ?_⟩) hS1 ?_
            · obtain ⟨z1, z2, z3, z4, z5, z6⟩ := hz
              go_simp
            try simp only [List.getElem_toArray, List.getElem_cons_zero, List.getElem_cons_succ, Act.put, List.setIfInBounds_toArray, List.set_cons_zero, List.set_cons_succ]
            refine wpAnyH_take (i := 13) (v := y) rfl (by kernel_rfl) (by kernel_rfl) (by kernel_rfl) (fun _ _ _ h => h) (Or.inl ⟨by rfl, fun z hz => ?_⟩) hS1 ?_
            · obtain ⟨z1, z2, z3, z4, z5, z6⟩ := hz
              go_simp
            try simp only [List.getElem_toArray, List.getElem_cons_zero, List.getElem_cons_succ, Act.put, List.setIfInBounds_toArray, List.set_cons_zero, List.set_cons_succ]
            refine wpAnyH_take (i := 14) (v := .pointer (some ⟨wr.heap.size, 0, none⟩)) rfl (by kernel_rfl) (by kernel_rfl) (by kernel_rfl) (fun _ _ _ h => h) (Or.inl ⟨by rfl, fun z hz => ?_⟩) hS1 ?_
            · obtain ⟨z1, z2, z3, z4, z5, z6⟩ := hz
              go_simp
            try simp only [List.getElem_toArray, List.getElem_cons_zero, List.getElem_cons_succ, Act.put, List.setIfInBounds_toArray, List.set_cons_zero, List.set_cons_succ]
            refine wpAnyH_take (i := 15) (v := (.slice xd eo.length xc)) rfl (by kernel_rfl) (by kernel_rfl) (by kernel_rfl) (fun _ _ _ h => h) (Or.inl ⟨by rfl, fun z hz => ?_⟩) hS1 ?_
            · obtain ⟨z1, z2, z3, z4, z5, z6⟩ := hz
              go_simp
            try simp only [List.getElem_toArray, List.getElem_cons_zero, List.getElem_cons_succ, Act.put, List.setIfInBounds_toArray, List.set_cons_zero, List.set_cons_succ]
            refine wpAnyH_ready (rs := [16]) (by kernel_rfl) (by simp) ?_
            refine AllReadyH.cons rfl (fun K hK => ?_) AllReadyH.nil
            have HS2 := Lib.hid hS1
            have HY := Lib.hid hS1.2.2.2.2.2.1
            have HX2 := Lib.hid hS1.2.2.2.2.2.2.2.2.2.2.1
            go_simp
            refine (slicesCompare y (.slice xd eo.length xc) po eo _ HY.out HX2.out).mono ?_
            rintro e v2 ⟨rfl, rfl⟩
            refine hK.out _ _ HS2.out (fun hS2 => ?_)
            clear hK K
            try simp only [List.getElem_toArray, List.getElem_cons_zero, List.getElem_cons_succ, Act.put, List.setIfInBounds_toArray, List.set_cons_zero, List.set_cons_succ]
            refine wpAnyH_take (i := 17) (v := .bool true) rfl (by kernel_rfl) (by kernel_rfl) (by kernel_rfl) (fun _ _ _ h => h) (Or.inl ⟨by rfl, fun z hz => ?_⟩) hS2 ?_
            · obtain ⟨z1, z2, z3, z4, z5, z6⟩ := hz
              go_simp
            try simp only [List.getElem_toArray, List.getElem_cons_zero, List.getElem_cons_succ, Act.put, List.setIfInBounds_toArray, List.set_cons_zero, List.set_cons_succ]
            refine wpAnyH_take (i := 18) (v := .bool true) rfl (by kernel_rfl) (by kernel_rfl) (by kernel_rfl) (fun _ _ _ h => h) (Or.inl ⟨by rfl, fun z hz => ?_⟩) hS2 ?_
            · obtain ⟨z1, z2, z3, z4, z5, z6⟩ := hz
              go_simp
            try simp only [List.getElem_toArray, List.getElem_cons_zero, List.getElem_cons_succ, Act.put, List.setIfInBounds_toArray, List.set_cons_zero, List.set_cons_succ]
            refine wpAnyH_take (i := 19) (v := .bool true) rfl (by kernel_rfl) (by kernel_rfl) (by kernel_rfl) (fun _ _ _ h => h) (Or.inl ⟨by rfl, fun z hz => ?_⟩) hS2 ?_
            · obtain ⟨z1, z2, z3, z4, z5, z6⟩ := hz
              go_simp
            try simp only [List.getElem_toArray, List.getElem_cons_zero, List.getElem_cons_succ, Act.put, List.setIfInBounds_toArray, List.set_cons_zero, List.set_cons_succ]
            refine wpAnyH_done (by kernel_rfl) ?_ _
            have HK2 := Lib.hid (hS2.2.2.2.2.2.2.2.2.2.2.2)
            clear hS0 hS1 hS2 HS1 HS2
            go_wp2
            go_ret
            exact ⟨ret_bool (by rw [HNO.out]), HK2.out.2.2.2.2⟩
    · have hjl : j = l.length := by omega
      subst hjl
      have h1 := HA.out; have h2 := HR.out
      rw [List.take_length] at h1 h2
      have HD := Lib.hid (show P.dic l = decide (l.length ≤ 40) by unfold P.dic; rw [h1, h2]; simp)
      clear h1 h2 hent
      by_cases h40 : l.length ≤ 40
      · have h40' : (l.length : Int) ≤ 40 := by omega
        go_wp2
        go_ret
        exact ⟨ret_bool (by rw [HD.out, decide_eq_true h40]), hbel⟩
      · have h40' : ¬ (l.length : Int) ≤ 40 := by omega
        go_wp2
        go_ret
        exact ⟨ret_bool (by rw [HD.out, decide_eq_false h40]), hbel⟩
end Go.Proofs.YtpkahblajgaemaaGreatDoor.Big
