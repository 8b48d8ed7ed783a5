/- Walks: the draws of a brief: a dictionary, an outline that is near to one of its own, a text. -/
import Derived.Deep.DeepCutAuto
import Derived.RegionTactic
import Derived.BigRegion
import Derived.Test.YtngbkdlicknmhaaGreatDoorCurE5
import Derived.Test.YtngbkdlicknmhaaGreatDoorCurE8
import Derived.Test.YtngbkdlicknmhaaGreatDoorBrief1
namespace Go.Proofs.YtngbkdlicknmhaaGreatDoor
open Go Go.RowKit
set_option maxHeartbeats 4000000
set_option maxRecDepth 100000
/-- a list that is read as long as some blocks stand -/
def ReadI (lo hi : Nat) (v : World) (u : Value) (l : List Int) : Prop := hi ≤ v.heap.size ∧ ∀ v', Kept (Bet lo hi) v v' → IntR v' u l
theorem ReadI.now {lo hi : Nat} {v : World} {u : Value} {l : List Int} (h : ReadI lo hi v u l) : IntR v u l := h.2 v ⟨Nat.le_refl _, fun _ _ => rfl⟩
theorem ReadI.chg {lo hi : Nat} {v v' : World} {u : Value} {l : List Int} {X : Blk} (h : ReadI lo hi v u l) (hc : Chg X v v') (hX : ∀ b, lo ≤ b → b < hi → ¬ X b) : ReadI lo hi v' u l :=
  ⟨Nat.le_trans h.1 hc.size, fun v2 hk => h.2 v2 ⟨Nat.le_trans hc.size hk.1, fun b hb => (hk.2 b hb).trans (hc.block b (Nat.lt_of_lt_of_le hb.2 h.1) (hX b hb.1 hb.2))⟩⟩
theorem ReadI.wide {lo hi lo' hi' : Nat} {v : World} {u : Value} {l : List Int} (h : ReadI lo hi v u l) (h1 : lo' ≤ lo) (h2 : hi ≤ hi') (h3 : hi' ≤ v.heap.size) : ReadI lo' hi' v u l :=
  ⟨h3, fun v2 hk => h.2 v2 (hk.mono fun _ hb => ⟨Nat.le_trans h1 hb.1, Nat.lt_of_lt_of_le hb.2 h2⟩)⟩
theorem Ints.readI {lo hi : Nat} {v : World} {F : Blk} {u : Value} {l : List Int} (h : Ints v F u l) (hF : ∀ b, F b → lo ≤ b ∧ b < hi) (hh : hi ≤ v.heap.size) : ReadI lo hi v u l :=
  ⟨hh, fun _ hk => Ints.read (h.keep intE_ok (hk.mono hF))⟩
theorem ReadI.first {lo hi : Nat} {v : World} {ad : Option Addr} {cap k : Nat} {l : List Int} (h : ReadI lo hi v (.slice ad l.length cap) l) (hk : k ≤ l.length) : ReadI lo hi v (.slice ad k cap) (l.take k) :=
  ⟨h.1, fun v2 h2 => IntR.take (h.2 v2 h2) hk⟩
/-- how the draw stands: the dictionary in block D, readable while the blocks up to H stand -/
structure BSt (K D H : Nat) (w : World) (u : Value) (l : P.Dic) (v : World) : Prop where
  low : w.heap.size + 2 ≤ D
  r0 : DBx w.heap.size (.slice none 0 0) v
  bx : DBx D u v
  dr : Drawn l
  ds : ReadE (w.heap.size + 2) H v u l
  cur : IsCur w.heap.size (w.heap.size + 1) K v
  bel : Below w.heap.size w v
theorem BSt.new {K D H : Nat} {w v v' : World} {u : Value} {l : P.Dic} {X : Blk} (h : BSt K D H w u l v) (hc : Chg X v v') (hX : ∀ b, X b → D < b ∧ H ≤ b) : BSt K D H w u l v' := by
  obtain ⟨h0, h1, h2, h3, h4, h5, h6⟩ := h
  exact ⟨h0, h1.stand hc (fun e => by have := hX _ e; omega), h2.stand hc (fun e => by have := hX _ e; omega), h3, h4.chg hc (fun b _ h2 e => by have := hX b e; omega), h5.stand hc (fun b e => by have := hX b e; omega), h6.trans (hc.below h6.size (fun b e => by have := hX b e; omega))⟩
theorem BSt.below {K D H : Nat} {w v v' : World} {u : Value} {l : P.Dic} (h : BSt K D H w u l v) (hb : Below v.heap.size v v') : BSt K D H w u l v' :=
  h.new (Below.chg hb fun _ => False) (fun _ h => h.elim)
theorem BSt.stand {K K' D H : Nat} {w v v' : World} {u : Value} {l : P.Dic} (h : BSt K D H w u l v) (hc : CurPost w.heap.size (w.heap.size + 1) K' v v') : BSt K' D H w u l v' := by
  obtain ⟨h0, h1, h2, h3, h4, h5, h6⟩ := h
  exact ⟨h0, h1.stand hc.2 (by omega), h2.stand hc.2 (by omega), h3, h4.chg hc.2 (fun b h1 h2 e => by omega), hc.1, h6.trans (hc.2.below h6.size (by rintro b rfl; omega))⟩
theorem BSt.mono {K K' D H : Nat} {w v : World} {u : Value} {l : P.Dic} (h : BSt K D H w u l v) (hK : K ≤ K') : BSt K' D H w u l v := { h with cur := h.cur.mono hK }
theorem BSt.put {K D H H' lo : Nat} {w v : World} {u u' : Value} {l l' : P.Dic} (h : BSt K D H w u l v) (hd : Drawn l') (hlo : D < lo) (hr : ReadE lo H' v u' l') : BSt K D H' w u' l' (v.setCell ⟨D, 0, none⟩ u') := by
  obtain ⟨h0, h1, h2, h3, _, h5, h6⟩ := h
  have hc : Chg (fun b => b = D) v (v.setCell ⟨D, 0, none⟩ u') := (Chg.refl (fun b => b = D) v).setCell (p := ⟨D, 0, none⟩) rfl _
  exact ⟨h0, h1.stand hc (by omega), h2.put, hd, (hr.chg hc (fun b h1 h2 e => by omega)).wide (by omega) (Nat.le_refl _) (by have := hr.1; simpa [World.setCell] using this), h5.stand hc (fun b e => by omega), h6.trans (hc.below h6.size (by rintro b rfl; omega))⟩
def BriefDrawn (w : World) (e : Ending) (w' : World) : Prop := ∃ (l : P.Dic) (o : List Int) (u ov : Value) (hi : Nat), e = .returned (.tuple #[.pointer (some ⟨w.heap.size + 1, 0, none⟩), .agg #[u], ov]) ∧ Drawn l ∧ o.length ≤ 20 ∧ ReadE (w.heap.size + 2) hi w' u l ∧ ReadI (w.heap.size + 2) w'.heap.size w' ov o ∧ IsCur w.heap.size (w.heap.size + 1) 10000 w' ∧ Below w.heap.size w w'
theorem l17Draw (cv : Value) (w : World) (hc : CodeIs w cv) :
    Calls Tryz.prog 121 #[cv] w (BriefDrawn w) := by
  obtain ⟨i0, hi, hz0, hz1, hz2⟩ := info_parts info_int
  have hba0 : Below w.heap.size w (w.alloc (.cells #[.slice none 0 0] 26)) := (Below.refl _ _).alloc (Nat.le_refl _) _
  have H1 := Lib.hid (CodeIs.fresh (t := 132) hc hba0)
  have hbc : Below (w.alloc (.cells #[.slice none 0 0] 26)).heap.size (w.alloc (.cells #[.slice none 0 0] 26)) ((w.alloc (.cells #[.slice none 0 0] 26)).alloc (.cells #[cv, .int .i64 0, .int .u64 0] 132)) := (Below.refl _ _).alloc (Nat.le_refl _) _
  have HB0 := Lib.hid (hba0.trans (hbc.mono (by simp)))
  have HR0 := Lib.hid ((DBx.new (.slice none 0 0) 26 w).below hbc)
  obtain ⟨ad, n, cap, rfl, _, _⟩ := hc
  clear hba0 hbc
  go_enter Tryz.func121, Tryz.ntmps121
  go_wp2_with fail
  refine (cur_dictionary w.heap.size (w.heap.size + 1) 0 _ (by decide) (by simpa using H1.out)).mono ?_
  rintro e w1 ⟨l, u, rfl, hdr, hl9, hpos, hen, hwh, hc⟩
  have hz1' : w.heap.size + 2 ≤ w1.heap.size := by have := hc.2.size; simp at this; omega
  have hba : Below w1.heap.size w1 ((w1.alloc (.cells #[u] 26)).alloc (.cells #[] 3)) := ((Below.refl _ _).alloc (Nat.le_refl _) _).alloc (by simp) _
  have hbb : Below (w1.alloc (.cells #[u] 26)).heap.size (w1.alloc (.cells #[u] 26)) ((w1.alloc (.cells #[u] 26)).alloc (.cells #[] 3)) := (Below.refl _ _).alloc (Nat.le_refl _) _
  have hre : ReadE (w.heap.size + 2) w1.heap.size w1 u l := Ents.readE hen (fun b hb => ⟨by have h := hb.1; simp at h; omega, hb.2⟩) (Nat.le_refl _)
  have HB := Lib.hid (show BSt 1000 w1.heap.size w1.heap.size w u l ((w1.alloc (.cells #[u] 26)).alloc (.cells #[] 3)) from
    ⟨hz1', (HR0.out.stand hc.2 (by omega)).below hba, (DBx.new _ _ _).below hbb, hdr, hre.chg (Below.chg hba (fun _ => False)) (fun _ _ _ h => h), (hc.1.mono (by omega)).below hba, (HB0.out.trans (hc.2.below (B := w.heap.size) (by simp; omega) (by rintro b rfl; omega))).trans (hba.mono (by omega))⟩)
  have HOWN := Lib.hid (show ((w1.alloc (.cells #[u] 26)).alloc (.cells #[] 3)).ownsRow (w1.heap.size + 1) 3 1 (.slice (some ⟨w1.heap.size + 1, 0, none⟩) 0 0) 0 [] by
    have h := World.ownsRow_lit (base := w1.heap.size + 1) (e := 3) (size := 1) (w1.alloc (.cells #[u] 26)) #[] 0 (by simp) (Nat.zero_le _) (by simp)
    simpa using h)
  obtain ⟨ua, uc, rfl, _, _⟩ := hre.now
  clear hdr hen hwh hc H1 HB0 HR0 hba hbb hre
  obtain ⟨k0, _⟩ := HB.out.bx
  go_wp2_with fail
  refine (cur_known w.heap.size (w.heap.size + 1) 1000 (w.heap.size + 2) w1.heap.size _ l _ (by decide) HB.out.cur HB.out.ds (by omega) HB.out.dr).mono ?_
  rintro e w3 ⟨o, ov, rfl, ho, hI, hc⟩
  have HB3 := Lib.hid (HB.out.stand hc)
  have HOWN3 := Lib.hid (owns_stand HOWN.out hc.2 fun k hk e => by have := (World.ownsRow.lt HOWN.out k hk).1; omega)
  have HSRC := Lib.hid (src_of_ints (Ints.read hI))
  have HO := Lib.hid ho
  have hz3 : w1.heap.size + 2 ≤ w3.heap.size := by have := hc.2.size; simp at this; omega
  obtain ⟨oa, oc, rfl, _, _⟩ := id hI
  clear hc hI HB HOWN k0
  go_wp2_with (at_builtin; refine wpList_append_src rfl _ _ 27 rfl (w1.heap.size + 1) 3 i0 (.int .i64 0) 1 8 Tryz.underlying27 hi hz0 hz1 hz2 rfl (by decide) _ 0 [] rfl HOWN3.out _ o.length (ints o) rfl HSRC.out ?_ ?_ ?_ ?_)
  · unfold maxLen; omega
  · omega
  · omega
  intro s0 w4 hown hgr _
  have HB4 := Lib.hid (HB3.out.new (Chg.grown hgr) (fun b hb => by have := (World.ownsRow.lt HOWN3.out b hb).1; omega))
  have HOW4 := Lib.hid hown
  clear hown hgr HB3 HOWN3 HSRC
  obtain ⟨sa, sc, rfl⟩ : ∃ a c, s0 = .slice a o.length c := by
    rcases HOW4.out.2 with ⟨rfl, h0⟩ | ⟨g, cap, cur, hv, _⟩
    · exact ⟨none, 0, by rw [h0]⟩
    · exact ⟨_, cap, hv⟩
  go_wp2_with fail
  refine (cur_pick w.heap.size (w.heap.size + 1) (1000 + 200) 5 _ (by decide) (by decide) HB4.out.cur).mono ?_
  rintro e w5 ⟨x, hx, rfl, hc⟩
  have HB5 := Lib.hid (HB4.out.stand hc)
  have HOW5 := Lib.hid (owns_stand HOW4.out hc.2 fun k hk e => by have := (World.ownsRow.lt HOW4.out k hk).1; omega)
  clear hc hx HB4 HOW4
  go_upto_block 0 with fail
  go_cut [7] (fun s wx => ∃ (o' : List Int) (a : Option Addr) (c : Nat), s = .slice a o'.length c ∧ o'.length ≤ 20 ∧ ReadI (w1.heap.size + 1) wx.heap.size wx (.slice a o'.length c) o' ∧ BSt 1400 w1.heap.size w1.heap.size w (.slice ua l.length uc) l wx)
  case first =>
    by_cases h0 : x = 0
    · subst h0
      go_wp2_with fail
      refine (cur_anyOutline w.heap.size (w.heap.size + 1) 1202 _ (by decide) HB5.out.cur).mono ?_
      rintro e w6 ⟨q, y, rfl, hq, hown, hc⟩
      have hz5 : w1.heap.size < w5.heap.size := HB5.out.bx.2.2
      have HI6 := Lib.hid (Ints.readI (lo := w1.heap.size + 1) (ints_of_owns hown (by omega)) (fun b hb => ⟨by have := hb.1; omega, hb.2⟩) (Nat.le_refl _))
      have HB6 := Lib.hid (HB5.out.stand hc)
      obtain ⟨ya, yc, rfl, _, _⟩ := HI6.out.now
      clear hown hc HB5 HOW5
      go_wp2
      go_meet
      exact ⟨q, ya, yc, rfl, by omega, HI6.out, HB6.out.mono (by omega)⟩
    have i0' : ¬ (x : Int) = 0 := by omega
    by_cases h1 : x = 1
    · subst h1
      go_wp2_with fail
      refine (cur_few w.heap.size (w.heap.size + 1) 1202 _ (by decide) HB5.out.cur).mono ?_
      rintro e w6 ⟨y, rfl, hc⟩
      have HB6 := Lib.hid (HB5.out.stand hc)
      have hw6 : w1.heap.size + 1 ≤ w6.heap.size := HB6.out.bx.2.2
      have HOW6 := Lib.hid ((owns_stand HOW5.out hc.2 fun k hk e => by have := (World.ownsRow.lt HOW5.out k hk).1; omega).alloc (.cells #[.int .i64 y] 3))
      clear hc HB5 HOW5
      go_wp2_with (at_builtin; refine wpList_append_own _ rfl _ _ 27 rfl (w1.heap.size + 1) 3 i0 (.int .i64 0) 1 8 Tryz.underlying27 hi hz0 hz1 hz2 rfl (by decide) (.slice sa o.length sc) o.length (ints o) rfl HOW6.out ⟨w6.heap.size, 0, none⟩ 1 1 [.int .i64 y] rfl rfl ?_ ?_ ?_ ?_ ?_ ?_)
      all_goals first | exact ⟨rfl, rfl⟩ | (intro z hz; simp only [List.mem_cons, List.not_mem_nil, or_false] at hz; subst hz; rfl) | (unfold maxLen; omega) | omega | (simp; omega) | (intro i z hz; rcases i with _ | i; (injection hz with hz; subst hz; rw [add0]; go_simp); cases hz) | skip
      intro u4 w7 hown hgr _
      have hown2 : w7.ownsRow (w1.heap.size + 1) 3 1 u4 (o ++ [y]).length (ints (o ++ [y])) := by simpa [ints] using hown
      have HI7 := Lib.hid (Ints.readI (lo := w1.heap.size + 1) (ints_of_owns hown2 (by rw [List.length_append]; simp; omega)) (fun b hb => ⟨by have := hb.1; omega, hb.2⟩) (Nat.le_refl _))
      have HB7 := Lib.hid ((HB6.out.below ((Below.refl _ _).alloc (Nat.le_refl _) (.cells #[.int .i64 y] 3))).new (Chg.grown hgr) (fun b hb => by have := (World.ownsRow.lt HOW6.out b hb).1; omega))
      obtain ⟨ya, yc, rfl, _, _⟩ := HI7.out.now
      clear hown hown2 hgr HB6 HOW6
      go_wp2
      go_meet
      exact ⟨o ++ [y], ya, yc, by first | rfl | simp, by rw [List.length_append]; simp; omega, HI7.out, HB7.out.mono (by omega)⟩
    have i1' : ¬ (x : Int) = 1 := by omega
    have HI5 := Lib.hid (Ints.readI (lo := w1.heap.size + 1) (ints_of_owns HOW5.out (by omega)) (fun b hb => ⟨by have := hb.1; omega, hb.2⟩) (Nat.le_refl _))
    clear HOW5
    by_cases h2 : x = 2
    · subst h2
      by_cases hp : 1 < o.length
      · have i2 : (1 : Int) < (o.length : Int) := by omega
        obtain ⟨k, hk⟩ : ∃ k, o.length = k + 1 := ⟨o.length - 1, by omega⟩
        have HF := Lib.hid (HI5.out.first (k := k) (by omega))
        have hsc : k + 1 ≤ sc := by
          obtain ⟨_, _, he, hh, _⟩ := HI5.out.now
          injection he with _ _ he
          omega
        have hki : (o.length : Int) - 1 = (k : Int) := by omega
        go_wp2
        go_meet
        exact ⟨o.take k, sa, sc, by rw [List.length_take]; congr 1; omega, by rw [List.length_take]; omega, by have h := HF.out; rw [show (o.take k).length = k by rw [List.length_take]; omega]; exact h, HB5.out.mono (by omega)⟩
      · have i2 : ¬ (1 : Int) < (o.length : Int) := by omega
        go_wp2
        go_meet
        exact ⟨o, sa, sc, rfl, by omega, HI5.out, HB5.out.mono (by omega)⟩
    have i2' : ¬ (x : Int) = 2 := by omega
    go_wp2
    go_meet
    exact ⟨o, sa, sc, rfl, by omega, HI5.out, HB5.out.mono (by omega)⟩
  case rest =>
    clear HB5 HOW5
    obtain ⟨o', a, c, rfl, ho', hio, hbs⟩ := hcut
    have HI6 := Lib.hid hio; have HB6 := Lib.hid hbs
    clear hio hbs
    go_wp2_with fail
    refine (cur_one w.heap.size (w.heap.size + 1) 1400 20 _ (by decide) (by decide) HB6.out.cur).mono ?_
    rintro e w7 ⟨b, rfl, hc⟩
    have HB7 := Lib.hid (HB6.out.stand hc)
    have HI7 := Lib.hid ((HI6.out.chg hc.2 (fun b h1 h2 e => by omega)).wide (Nat.le_refl _) hc.2.size (Nat.le_refl _))
    clear hc HB6 HI6
    go_upto_if 42 with fail
    go_cut [] (fun wx => ∃ (ua : Option Addr) (uc H : Nat) (l' : P.Dic), ReadI (w1.heap.size + 1) wx.heap.size wx (.slice a o'.length c) o' ∧ BSt 9000 w1.heap.size H w (.slice ua l'.length uc) l' wx)
    case first =>
      cases b
      · go_wp2
        go_meet
        exact ⟨_, _, _, _, HI7.out, HB7.out.mono (by omega)⟩
      · go_wp2_with fail
        refine (cur_anyDictionary w.heap.size (w.heap.size + 1) 1402 _ (by decide) HB7.out.cur).mono ?_
        rintro e w8 ⟨d', v', rfl, hd, hr, hc⟩
        have hsz : w1.heap.size < w7.heap.size := HB7.out.bx.2.2
        have HB8 := Lib.hid ((HB7.out.stand hc).put hd hsz hr)
        have hst : Chg (fun b => b = w1.heap.size) w8 (w8.setCell ⟨w1.heap.size, 0, none⟩ v') := (Chg.refl (fun b => b = w1.heap.size) w8).setCell (p := ⟨w1.heap.size, 0, none⟩) rfl _
        have HI8 := Lib.hid (((HI7.out.chg hc.2 (fun b h1 h2 e => by omega)).chg hst (fun b h1 h2 e => by omega)).wide (Nat.le_refl _) (Nat.le_trans hc.2.size hst.size) (Nat.le_refl _))
        obtain ⟨b0, b1, b2⟩ := (HB7.out.stand hc).bx
        obtain ⟨va, vc, rfl, _, _⟩ := hr.now
        clear hd hr hc hst HB7 HI7
        go_wp2
        go_meet
        exact ⟨va, vc, _, d', HI8.out, HB8.out.mono (by omega)⟩
    case rest =>
      clear HB7 HI7
      obtain ⟨ua, uc, H, l', hio, hbs⟩ := hcut
      have HI8 := Lib.hid hio; have HB8 := Lib.hid hbs
      obtain ⟨x0, x1, x2⟩ := hbs.bx
      obtain ⟨k0, k1, k2⟩ := hbs.r0
      clear hio hbs
      go_wp2
      go_region
      have hc : Chg (fun b => b = w.heap.size) wc (wc.setCell ⟨w.heap.size, 0, none⟩ (.slice ua l'.length uc)).drew := ((Chg.refl (fun b => b = w.heap.size) wc).setCell (p := ⟨w.heap.size, 0, none⟩) rfl _).drew
      have HC := Lib.hid hc
      clear hc
      have hlow := HB8.out.low
      go_wp2
      refine bodyPost_ret (v := .tuple #[.pointer (some ⟨w.heap.size + 1, 0, none⟩), .agg #[.slice ua l'.length uc], .slice a o'.length c]) (by simp [results, Tryz.results121, go_sem, k0]) rfl ⟨l', o', _, _, H, rfl, HB8.out.dr, ho', HB8.out.ds.chg HC.out (fun b h1 h2 e => by omega), ?_, ?_, HB8.out.bel.trans (HC.out.below HB8.out.bel.size (by rintro b rfl; omega))⟩
      · exact (HI8.out.chg HC.out (fun b h1 h2 e => by omega)).wide (by omega) HC.out.size (Nat.le_refl _)
      · exact (HB8.out.mono (by omega : 9000 ≤ 10000)).cur.stand HC.out (fun b e => by omega)
def AddBDrawn (w : World) (e : Ending) (w' : World) : Prop := ∃ (l : P.Dic) (o : List Int) (t : Str) (u ov : Value), e = .returned (.tuple #[.agg #[u], ov, .string (S t)]) ∧ Drawn l ∧ o.length ≤ 20 ∧ t.length ≤ 300 ∧ EntR w' u l ∧ IntR w' ov o ∧ Below w.heap.size w w'
/-- behind l17Draw: the dictionary in block D, the outline -/
structure BSu (K D H : Nat) (w : World) (u : Value) (l : P.Dic) (a : Option Addr) (c : Nat) (o : List Int) (v : World) : Prop where
  low : w.heap.size + 3 ≤ D
  r0 : DBx w.heap.size (.slice none 0 0) v
  bx : DBx D u v
  dr : Drawn l
  ds : ReadE (w.heap.size + 3) H v u l
  os : ReadI (w.heap.size + 3) v.heap.size v (.slice a o.length c) o
  cur : IsCur (w.heap.size + 1) (w.heap.size + 2) K v
  bel : Below w.heap.size w v
theorem BSu.below {K D H : Nat} {w v v' : World} {u : Value} {l : P.Dic} {a : Option Addr} {c : Nat} {o : List Int} (h : BSu K D H w u l a c o v) (hb : Below v.heap.size v v') : BSu K D H w u l a c o v' := by
  obtain ⟨h0, h1, h2, h3, h4, h5, h6, h7⟩ := h
  have hc : Chg (fun _ => False) v v' := Below.chg hb _
  exact ⟨h0, h1.below hb, h2.below hb, h3, h4.chg hc (fun _ _ _ h => h), (h5.chg hc (fun _ _ _ h => h)).wide (Nat.le_refl _) hc.size (Nat.le_refl _), h6.below hb, h7.trans (hb.mono h7.size)⟩
theorem BSu.stand {K K' D H : Nat} {w v v' : World} {u : Value} {l : P.Dic} {a : Option Addr} {c : Nat} {o : List Int} (h : BSu K D H w u l a c o v) (hc : CurPost (w.heap.size + 1) (w.heap.size + 2) K' v v') : BSu K' D H w u l a c o v' := by
  obtain ⟨h0, h1, h2, h3, h4, h5, h6, h7⟩ := h
  exact ⟨h0, h1.stand hc.2 (by omega), h2.stand hc.2 (by omega), h3, h4.chg hc.2 (fun b h1 h2 e => by omega), (h5.chg hc.2 (fun b h1 h2 e => by omega)).wide (Nat.le_refl _) hc.2.size (Nat.le_refl _), hc.1, h7.trans (hc.2.below h7.size (by rintro b rfl; omega))⟩
theorem BSu.mono {K K' D H : Nat} {w v : World} {u : Value} {l : P.Dic} {a : Option Addr} {c : Nat} {o : List Int} (h : BSu K D H w u l a c o v) (hK : K ≤ K') : BSu K' D H w u l a c o v := { h with cur := h.cur.mono hK }
theorem BSu.out {K D H : Nat} {w v : World} {u : Value} {l : P.Dic} {a a' : Option Addr} {c c' : Nat} {o o' : List Int} (h : BSu K D H w u l a c o v) (hr : ReadI (w.heap.size + 3) v.heap.size v (.slice a' o'.length c') o') : BSu K D H w u l a' c' o' v := { h with os := hr }
theorem drawAddBrief (cv : Value) (w : World) (hc : CodeIs w cv) :
    Calls Tryz.prog 33 #[cv] w (AddBDrawn w) := by
  have hba0 : Below w.heap.size w (w.alloc (.cells #[.slice none 0 0] 26)) := (Below.refl _ _).alloc (Nat.le_refl _) _
  have HC := Lib.hid (show CodeIs (w.alloc (.cells #[.slice none 0 0] 26)) cv by
    obtain ⟨ad, n, cap, rfl, hn, hc⟩ := hc
    refine ⟨ad, n, cap, rfl, hn, hc.imp id ?_⟩
    rintro ⟨g, o, h1, h2, h3⟩
    refine ⟨g, o, h1, Nat.lt_of_lt_of_le h2 hba0.size, fun j hj => ?_⟩
    obtain ⟨b, hb1, hb2⟩ := h3 j hj
    exact ⟨b, hb1, (hba0.cell (p := ⟨g, o + j, none⟩) h2).trans hb2⟩)
  have HB0 := Lib.hid hba0; have HX := Lib.hid (DBx.new (.slice none 0 0) 26 w)
  obtain ⟨ad, n, cap, rfl, _, _⟩ := hc
  clear hba0
  go_enter Tryz.func33, Tryz.ntmps33
  go_wp2_with fail
  refine (l17Draw _ _ HC.out).mono ?_
  rintro e w1 ⟨l, o, u, ov, H, rfl, hd, ho, hr, hi, hcu, hb⟩
  have hz0 : (w.alloc (.cells #[.slice none 0 0] 26)).heap.size = w.heap.size + 1 := by simp
  rw [hz0] at hr hi hcu ⊢
  obtain ⟨oa, oc, rfl, _, _⟩ := hi.now
  obtain ⟨ua, uc, rfl, _, _⟩ := hr.now
  have hz1 : w.heap.size + 3 ≤ w1.heap.size := by have := hcu.lt; omega
  have hba := (Below.refl w1.heap.size w1).alloc (Nat.le_refl _) (.cells #[.slice ua l.length uc] 26)
  have HS := Lib.hid (show BSu 10000 w1.heap.size H w (.slice ua l.length uc) l oa oc o (w1.alloc (.cells #[.slice ua l.length uc] 26)) from
    ⟨hz1, (HX.out.below hb).below hba, DBx.new _ _ _, hd, hr.chg (Below.chg hba fun _ => False) (fun _ _ _ h => h), (hi.chg (Below.chg hba fun _ => False) (fun _ _ _ h => h)).wide (Nat.le_refl _) hba.size (Nat.le_refl _), hcu.below hba, (HB0.out.trans (hb.mono HB0.out.size)).trans (hba.mono (by omega))⟩)
  clear hz0 hr hi hcu hb hba HX HB0 HC hd
  go_wp2_with fail
  refine (cur_one (w.heap.size + 1) (w.heap.size + 2) 10000 2 _ (by decide) (by decide) HS.out.cur).mono ?_
  rintro e w2 ⟨b, rfl, hc⟩
  have HS2 := Lib.hid (HS.out.stand hc)
  clear hc HS
  go_upto_if 16 with fail
  go_cut [7] (fun s wx => ∃ (o' : List Int) (a : Option Addr) (c : Nat), s = .slice a o'.length c ∧ o'.length ≤ 20 ∧ BSu 10004 w1.heap.size H w (.slice ua l.length uc) l a c o' wx)
  case first =>
    cases b
    · go_wp2
      go_meet
      exact ⟨o, oa, oc, rfl, ho, HS2.out.mono (by omega)⟩
    · go_wp2_with fail
      refine (cur_pick (w.heap.size + 1) (w.heap.size + 2) 10002 3 _ (by decide) (by decide) HS2.out.cur).mono ?_
      rintro e w3 ⟨x, hx, rfl, hc⟩
      have hx3 : x < 3 := by omega
      have HS3 := Lib.hid (HS2.out.stand hc)
      have hba := (Below.refl w3.heap.size w3).alloc (Nat.le_refl _) (.cells #[.int .i64 (1048576 + (x : Int))] 3)
      have HS4 := Lib.hid ((HS3.out.below hba).out (a' := some ⟨w3.heap.size, 0, none⟩) (c' := 1) (o' := [1048576 + (x : Int)]) ⟨Nat.le_refl _, fun v' hk => by
        refine ⟨_, _, rfl, by simp, (fun h => by cases h), .inr ⟨_, _, rfl, ?_, fun j hj => ?_⟩⟩
        · have := hk.1; simp at this; omega
        · have hz3 : w.heap.size + 3 ≤ w3.heap.size := by have h1 := HS3.out.low; have h2 := HS3.out.bx.2.2; omega
          rw [World.cell?_of_block (w := w3.alloc (.cells #[.int .i64 (1048576 + (x : Int))] 3)) (a := ⟨w3.heap.size, 0 + j, none⟩) (hk.2 _ ⟨hz3, by simp⟩)]
          obtain rfl : j = 0 := by simpa using hj
          go_simp⟩)
      clear hc hx hba HS2 HS3
      go_wp2
      go_meet
      exact ⟨[1048576 + (x : Int)], _, 1, rfl, by simp, HS4.out⟩
  case rest =>
    clear HS2
    obtain ⟨o', a, c, rfl, ho', hs⟩ := hcut
    have HS3 := Lib.hid hs
    clear hs
    go_wp2_with fail
    refine (cur_translation (w.heap.size + 1) (w.heap.size + 2) 10004 _ (by decide) HS3.out.cur).mono ?_
    rintro e w4 ⟨t, rfl, ht, hc⟩
    have HS4 := Lib.hid (HS3.out.stand hc)
    clear hc HS3
    go_wp2_with fail
    refine (cur_one (w.heap.size + 1) (w.heap.size + 2) 10034 12 _ (by decide) (by decide) HS4.out.cur).mono ?_
    rintro e w5 ⟨b, rfl, hc⟩
    have HS5 := Lib.hid (HS4.out.stand hc)
    clear hc HS4
    go_upto_if 24 with fail
    go_cut [8] (fun s wx => ∃ t' : Str, s = .string (S t') ∧ t'.length ≤ 300 ∧ BSu 10040 w1.heap.size H w (.slice ua l.length uc) l a c o' wx)
    case first =>
      cases b
      · go_wp2
        go_meet
        exact ⟨t, rfl, ht, HS5.out.mono (by omega)⟩
      · have hbl : Below w5.heap.size w5 (w5.alloc (.cells #[.string (S []), .string (S [123, 94])] 9)) := (Below.refl _ _).alloc (Nat.le_refl _) _
        have HL := Lib.hid (lit_strs [[], [123, 94]] w5 9)
        have HS6 := Lib.hid (HS5.out.below hbl)
        have hlt5 : w.heap.size + 2 < w5.heap.size := by have h1 := HS5.out.low; have h2 := HS5.out.bx.2.2; omega
        clear hbl HS5
        go_wp2_with fail
        refine (cur_of (w.heap.size + 1) (w.heap.size + 2) 10036 w5.heap.size 2 [[], [123, 94]] _ (by decide) (by decide) (by decide) (by simp) (by omega) HL.out HS6.out.cur).mono ?_
        rintro e w6 ⟨s, hs, rfl, hc⟩
        have HSL := Lib.hid (show s.length ≤ 300 from Nat.le_trans ((by decide : ∀ s ∈ ([[], [123, 94]] : List Str), s.length ≤ 4) s hs) (by decide))
        have HS7 := Lib.hid (HS6.out.stand hc)
        clear hc hs HS6 HL
        go_wp2
        go_meet
        exact ⟨s, rfl, HSL.out, HS7.out.mono (by omega)⟩
    case rest =>
      clear HS5
      obtain ⟨t', rfl, ht', hs⟩ := hcut
      have HS6 := Lib.hid hs
      obtain ⟨x0, x1, x2⟩ := hs.bx
      obtain ⟨k0, k1, k2⟩ := hs.r0
      have hlow := hs.low
      clear hs
      have hc : Chg (fun b => b = w.heap.size) wc (wc.setCell ⟨w.heap.size, 0, none⟩ (.slice ua l.length uc)) := (Chg.refl (fun b => b = w.heap.size) wc).setCell (p := ⟨w.heap.size, 0, none⟩) rfl _
      have HC := Lib.hid hc
      clear hc
      go_wp2
      refine bodyPost_ret (v := .tuple #[.agg #[.slice ua l.length uc], .slice a o'.length c, .string (S t')]) (by simp [results, Tryz.results33, go_sem, k0]) rfl ⟨l, o', t', _, _, rfl, HS6.out.dr, ho', ht', (HS6.out.ds.chg HC.out (fun b h1 h2 e => by omega)).now, (HS6.out.os.chg HC.out (fun b h1 h2 e => by omega)).now, HS6.out.bel.trans (HC.out.below HS6.out.bel.size (by rintro b rfl; omega))⟩
end Go.Proofs.YtngbkdlicknmhaaGreatDoor
