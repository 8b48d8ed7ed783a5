/- Walks: the draws of a trie and strokes. -/
import Derived.Deep.DeepCutAuto
import Derived.RegionTactic
import Derived.BigRegion
import Derived.Test.YtojcfpjoikmgcaaGreatDoorDrawT
import Derived.Test.YtojcfpjoikmgcaaGreatDoorCurE5
import Derived.Test.YtojcfpjoikmgcaaGreatDoorCodeD
namespace Go.Proofs.YtojcfpjoikmgcaaGreatDoor
open Go Go.RowKit
set_option maxHeartbeats 4000000
set_option maxRecDepth 100000
/-- how a draw from bytes stands: the trie in block S, its dictionary in the next one -/
structure SSt (K S : Nat) (w : World) (u : Value) (t : P.Tri) (vd : Value) (d : P.Dic) (v : World) : Prop where
  low : w.heap.size + 2 ≤ S
  ls : ReadT (w.heap.size + 2) S v u t
  ds : ReadE (w.heap.size + 2) S v vd d
  r0 : DBx w.heap.size (.slice none 0 0) v
  bs : DBx S u v
  bd : DBx (S + 1) vd v
  cur : IsCur w.heap.size (w.heap.size + 1) K v
  bel : Below w.heap.size w v
theorem SSt.new {K S : Nat} {w v v' : World} {u vd : Value} {t : P.Tri} {d : P.Dic} {X : Blk} (h : SSt K S w u t vd d v) (hc : Chg X v v') (hX : ∀ b, X b → S + 2 ≤ b) : SSt K S w u t vd d v' := by
  obtain ⟨h0, h1, h3, h4, h5, h6, h7, h8⟩ := h
  exact ⟨h0, h1.chg hc (fun b _ h2 e => by have := hX b e; omega), h3.chg hc (fun b _ h2 e => by have := hX b e; omega), h4.stand hc (fun e => by have := hX _ e; omega), h5.stand hc (fun e => by have := hX _ e; omega), h6.stand hc (fun e => by have := hX _ e; omega), h7.stand hc (fun b e => by have := hX b e; omega), h8.trans (hc.below h8.size (fun b e => by have := hX b e; omega))⟩
theorem SSt.below {K S : Nat} {w v v' : World} {u vd : Value} {t : P.Tri} {d : P.Dic} (h : SSt K S w u t vd d v) (hb : Below v.heap.size v v') : SSt K S w u t vd d v' := h.new (Below.chg hb fun _ => False) (fun _ h => h.elim)
theorem SSt.stand {K K' S : Nat} {w v v' : World} {u vd : Value} {t : P.Tri} {d : P.Dic} (h : SSt K S w u t vd d v) (hc : CurPost w.heap.size (w.heap.size + 1) K' v v') : SSt K' S w u t vd d v' := by
  obtain ⟨h0, h1, h3, h4, h5, h6, h7, h8⟩ := h
  exact ⟨h0, h1.chg hc.2 (fun b h1 h2 e => by omega), h3.chg hc.2 (fun b h1 h2 e => by omega), h4.stand hc.2 (by omega), h5.stand hc.2 (by omega), h6.stand hc.2 (by omega), hc.1, h8.trans (hc.2.below h8.size (by rintro b rfl; omega))⟩
theorem SSt.mono {K K' S : Nat} {w v : World} {u vd : Value} {t : P.Tri} {d : P.Dic} (h : SSt K S w u t vd d v) (hK : K ≤ K') : SSt K' S w u t vd d v := { h with cur := h.cur.mono hK }
theorem SSt.start {K : Nat} {w w1 : World} {l : P.Tri} {d : P.Dic} {u ud : Value} {t : TypeId} (t1 t2 : TypeId) {c : Value} (hl : ReadT (((w.alloc (.cells #[.slice none 0 0] t)).alloc (.cells #[c, .int .i64 0, .int .u64 0] 92)).heap.size) w1.heap.size w1 u l)
    (hdr : ReadE (((w.alloc (.cells #[.slice none 0 0] t)).alloc (.cells #[c, .int .i64 0, .int .u64 0] 92)).heap.size) w1.heap.size w1 ud d)
    (hc : CurPost w.heap.size (w.heap.size + 1) K ((w.alloc (.cells #[.slice none 0 0] t)).alloc (.cells #[c, .int .i64 0, .int .u64 0] 92)) w1) :
    SSt K w1.heap.size w u l ud d ((w1.alloc (.cells #[u] t1)).alloc (.cells #[ud] t2)) := by
  have hz := hc.2.size
  have hz2 : w.heap.size + 2 ≤ w1.heap.size := by simp at hz; omega
  have hb0 : Below w.heap.size w ((w.alloc (.cells #[.slice none 0 0] t)).alloc (.cells #[c, .int .i64 0, .int .u64 0] 92)) := ((Below.refl _ _).alloc (Nat.le_refl _) _).alloc (by simp) _
  have hb1 : Below w1.heap.size w1 (w1.alloc (.cells #[u] t1)) := (Below.refl _ _).alloc (Nat.le_refl _) _
  have hb2 : Below w1.heap.size w1 ((w1.alloc (.cells #[u] t1)).alloc (.cells #[ud] t2)) := hb1.alloc (by simp) _
  have hb3 : Below (w1.alloc (.cells #[u] t1)).heap.size (w1.alloc (.cells #[u] t1)) ((w1.alloc (.cells #[u] t1)).alloc (.cells #[ud] t2)) := (Below.refl _ _).alloc (Nat.le_refl _) _
  have hcf : Chg (fun _ => False) w1 ((w1.alloc (.cells #[u] t1)).alloc (.cells #[ud] t2)) := Below.chg hb2 _
  refine ⟨hz2, ?_, ?_, ?_, (DBx.new _ _ _).below hb3, ?_, (hc.1.below hb2), (hb0.trans (hc.2.below (by simp; omega) (by rintro b rfl; omega))).trans (hb2.mono (by omega))⟩
  · refine ReadT.chg ?_ hcf (fun _ _ _ h => h)
    have h := hl; simp at h; exact h
  · refine ReadE.chg ?_ hcf (fun _ _ _ h => h)
    have h := hdr; simp at h; exact h
  · exact (((DBx.new (.slice none 0 0) t w).below ((Below.refl _ _).alloc (Nat.le_refl _) _)).stand hc.2 (by omega)).below hb2
  · have h := DBx.new ud t2 (w1.alloc (.cells #[u] t1)); simpa using h
/-- a trie and strokes are drawn -/
def StrDrawn (w : World) (e : Ending) (w' : World) : Prop := ∃ (t : P.Tri) (o : List Int) (u ov : Value), e = .returned (.tuple #[.agg #[u], ov]) ∧ P.DrawnT t ∧ o.length ≤ 20 ∧ ReadT w.heap.size w'.heap.size w' u t ∧ Ints w' (Bet w.heap.size w'.heap.size) ov o ∧ Below w.heap.size w w'
/-- the strokes that are drawn, as they grow -/
def SRn (K S : Nat) (w : World) (u : Value) (t : P.Tri) (vd : Value) (d : P.Dic) (v : World) (s : Value) (o : List Int) : Prop := (∃ a n c, s = .slice a n c) ∧ v.ownsRow (S + 2) 3 1 s o.length (ints o) ∧ SSt K S w u t vd d v
theorem SRn.cur {K K' S : Nat} {w v v' : World} {u vd s : Value} {t : P.Tri} {d : P.Dic} {o : List Int} (h : SRn K S w u t vd d v s o) (hc : CurPost w.heap.size (w.heap.size + 1) K' v v') : SRn K' S w u t vd d v' s o :=
  ⟨h.1, owns_stand h.2.1 hc.2 fun k hk e => by have := (World.ownsRow.lt h.2.1 k hk).1; have := h.2.2.low; omega, h.2.2.stand hc⟩
theorem SRn.app {K S : Nat} {w v v' : World} {u vd s s' : Value} {t : P.Tri} {d : P.Dic} {o : List Int} {x : Int} (h : SRn K S w u t vd d v s o) (ty : TypeId)
    (hown : v'.ownsRow (S + 2) 3 1 s' (o.length + 1) (ints o ++ [.int .i64 x])) (hgr : (v.alloc (.cells #[.int .i64 x] ty)).grownBy v' s.ownBlock) : SRn K S w u t vd d v' s' (o ++ [x]) := by
  refine ⟨?_, by simpa [ints] using hown, ?_⟩
  · rcases hown.2 with ⟨rfl, _⟩ | ⟨g, cap, cur, rfl, _⟩
    · exact ⟨_, _, _, rfl⟩
    · exact ⟨_, _, _, rfl⟩
  · exact (h.2.2.below ((Below.refl _ _).alloc (Nat.le_refl _) _)).new (Chg.grown hgr) (fun b hb => (World.ownsRow.lt h.2.1 b hb).1)
theorem CodeIs.on {w w' : World} {v : Value} (h : CodeIs w v) (hb : Below w.heap.size w w') : CodeIs w' v := by
  obtain ⟨ad, n, cap, rfl, hn, hc⟩ := h
  refine ⟨ad, n, cap, rfl, hn, hc.imp id ?_⟩
  rintro ⟨g, o, h1, h2, h3⟩
  refine ⟨g, o, h1, Nat.lt_of_lt_of_le h2 hb.size, fun j hj => ?_⟩
  obtain ⟨b, hb1, hb2⟩ := h3 j hj
  exact ⟨b, hb1, (hb.cell (p := ⟨g, o + j, none⟩) h2).trans hb2⟩
theorem drawStrokes (cv : Value) (w : World) (hc : CodeIs w cv) :
    Calls Tryz.prog 88 #[cv] w (StrDrawn w) := by
  have H1 := Lib.hid (CodeIs.fresh (t := 92) hc ((Below.refl w.heap.size w).alloc (Nat.le_refl _) (.cells #[.slice none 0 0] 30)))
  obtain ⟨i0, hi, hz0, hz1, hz2⟩ := info_parts info_int
  obtain ⟨ad, n, cap, rfl, _, _⟩ := hc
  go_enter Tryz.func88, Tryz.ntmps88
  go_wp2_with fail
  refine (l7Draw w.heap.size (w.heap.size + 1) 0 _ (by decide) (by simpa using H1.out)).mono ?_
  rintro e w1 ⟨t, u, l, ud, rfl, hdt, hdl, hrt, hrd, hc⟩
  have HS := Lib.hid (SSt.start 30 26 hrt hrd hc)
  have HDT := Lib.hid hdt; have HDL := Lib.hid hdl
  obtain ⟨ta, tc, rfl, _, _⟩ := hrt.now
  obtain ⟨da, dc, rfl, _, _⟩ := hrd.now
  clear hdt hdl hrt hrd hc H1
  have hz2' : w1.heap.size + 2 ≤ ((w1.alloc (.cells #[.slice ta t.length tc] 30)).alloc (.cells #[.slice da l.length dc] 26)).heap.size := by simp
  have hba := (Below.refl ((w1.alloc (.cells #[.slice ta t.length tc] 30)).alloc (.cells #[.slice da l.length dc] 26)).heap.size ((w1.alloc (.cells #[.slice ta t.length tc] 30)).alloc (.cells #[.slice da l.length dc] 26))).alloc (Nat.le_refl _) (.cells #[] 3)
  have HS2 := Lib.hid (HS.out.below hba)
  have HOWN := Lib.hid (show (((w1.alloc (.cells #[.slice ta t.length tc] 30)).alloc (.cells #[.slice da l.length dc] 26)).alloc (.cells #[] 3)).ownsRow (w1.heap.size + 2) 3 1 (.slice (some ⟨w1.heap.size + 1 + 1, 0, none⟩) 0 0) 0 [] by
    have h := World.ownsRow_lit (base := w1.heap.size + 2) (e := 3) (size := 1) ((w1.alloc (.cells #[.slice ta t.length tc] 30)).alloc (.cells #[.slice da l.length dc] 26)) #[] 0 hz2' (Nat.zero_le _) (by simp)
    simpa using h)
  obtain ⟨k0, k1, k2⟩ := HS.out.bd
  clear hba hz2'
  go_wp2_with fail
  refine (cur_known w.heap.size (w.heap.size + 1) (0 + 1200) (w.heap.size + 2) w1.heap.size _ l _ (by decide) HS2.out.cur HS2.out.ds (by omega) HDL.out).mono ?_
  rintro e w3 ⟨o, ov, rfl, ho, hI, hc⟩
  have HS3 := Lib.hid (HS2.out.stand hc)
  have HOWN3 := Lib.hid (owns_stand HOWN.out hc.2 fun k hk e => by have := (World.ownsRow.lt HOWN.out k hk).1; have := HS2.out.low; omega)
  have HSRC := Lib.hid (src_of_ints (Ints.read hI))
  have HO := Lib.hid ho
  have hz3 : w1.heap.size + 2 ≤ w3.heap.size := by have := hc.2.size; simp at this; omega
  obtain ⟨oa, oc, rfl, _, _⟩ := id hI
  clear hc hI HS HS2 HOWN k0 k1 k2
  go_wp2_with (at_builtin; refine wpList_append_src rfl _ _ 41 rfl (w1.heap.size + 2) 3 i0 (.int .i64 0) 1 8 Tryz.underlying41 hi hz0 hz1 hz2 rfl (by decide) _ 0 [] rfl HOWN3.out _ o.length (ints o) rfl HSRC.out ?_ ?_ ?_ ?_)
  · unfold maxLen; omega
  · omega
  · omega
  intro s0 w4 hown hgr _
  have HR := Lib.hid (show SRn (0 + 1200 + 200) w1.heap.size w (.slice ta t.length tc) t (.slice da l.length dc) l w4 s0 o from by
    refine ⟨?_, hown, HS3.out.new (Chg.grown hgr) (fun b hb => (World.ownsRow.lt HOWN3.out b hb).1)⟩
    rcases hown.2 with ⟨rfl, _⟩ | ⟨g, cap, cur, rfl, _⟩
    · exact ⟨_, _, _, rfl⟩
    · exact ⟨_, _, _, rfl⟩)
  clear hown hgr HS3 HOWN3 HSRC
  obtain ⟨⟨sa, sn, sc, rfl⟩, _⟩ := HR.out
  go_wp2_with fail
  refine (cur_pick w.heap.size (w.heap.size + 1) (0 + 1200 + 200) 3 _ (by decide) (by decide) HR.out.2.2.cur).mono ?_
  rintro e w5 ⟨x, hx, rfl, hc⟩
  have hx3 : x < 3 := by omega
  have HR5 := Lib.hid (HR.out.cur hc)
  clear hc hx HR
  go_wp2_with fail
  go_loopw [7, 8] (fun s n wr => ∃ (o' : List Int) (k : Nat), o'.length + k ≤ 10 ∧ k ≤ 2 ∧ n = .int .i64 k ∧ SRn (1500 - 10 * k) w1.heap.size w (.slice ta t.length tc) t (.slice da l.length dc) l wr s o') (fun _ n _ => (intOf n).toNat)
  case atStart => exact ⟨o, x, by omega, by omega, rfl, HR5.out.1, HR5.out.2.1, HR5.out.2.2.mono (by omega)⟩
  case round =>
    clear HR5
    obtain ⟨o', k, hk, hk2, rfl, hr⟩ := hrel
    have H3 := Lib.hid hr
    obtain ⟨⟨ua, un, uc, rfl⟩, _⟩ := hr
    by_cases hp : 0 < k
    · go_wp2_with fail
      refine (cur_few w.heap.size (w.heap.size + 1) (1500 - 10 * k) _ (by omega) H3.out.2.2.cur).mono ?_
      rintro e w6 ⟨y, rfl, hc⟩
      have H5 := Lib.hid (H3.out.cur hc)
      have HOW2 := Lib.hid (H5.out.2.1.alloc (.cells #[.int .i64 y] 3))
      have HZ3 := Lib.hid (show w1.heap.size + 2 ≤ w6.heap.size by have := H5.out.2.2.bd.2.2; omega)
      clear hc
      go_wp2_with (at_builtin; refine wpList_append_own _ rfl _ _ 41 rfl (w1.heap.size + 2) 3 i0 (.int .i64 0) 1 8 Tryz.underlying41 hi hz0 hz1 hz2 rfl (by decide) (.slice ua un uc) o'.length (ints o') rfl HOW2.out ⟨w6.heap.size, 0, none⟩ 1 1 [.int .i64 y] rfl rfl ?_ ?_ ?_ ?_ ?_ ?_)
      all_goals first | exact ⟨rfl, rfl⟩ | (intro z hz; simp only [List.mem_cons, List.not_mem_nil, or_false] at hz; subst hz; rfl) | (unfold maxLen; omega) | omega | (have h1 := HZ3.out; simp; omega) | (intro i z hz; rcases i with _ | i; (injection hz with hz; subst hz; rw [add0]; go_simp); cases hz) | skip
      intro u4 w7 hown hgr _
      have H6 := Lib.hid (H5.out.app 3 hown hgr)
      clear hown hgr
      go_wp2
      go_roundw
      case rel => exact ⟨_, k - 1, by rw [List.length_append]; simp; omega, by omega, by go_num, H6.out.1, H6.out.2.1, H6.out.2.2.mono (by omega)⟩
      case measure => simp [intOf]; omega
    · go_wp2_with fail
      refine (cur_one w.heap.size (w.heap.size + 1) (1500 - 10 * k) 20 _ (by omega) (by decide) H3.out.2.2.cur).mono ?_
      rintro e w6 ⟨b, rfl, hc⟩
      have H4 := Lib.hid (H3.out.cur hc)
      clear hc H3
      go_upto_if 34 with fail
      go_cut [7] (fun s wx => ∃ o2 : List Int, o2.length ≤ 20 ∧ SRn 2000 w1.heap.size w (.slice ta t.length tc) t (.slice da l.length dc) l wx s o2)
      case first =>
        cases b
        · go_wp2
          go_meet
          exact ⟨o', by omega, H4.out.1, H4.out.2.1, H4.out.2.2.mono (by omega)⟩
        · go_wp2_with fail
          refine (cur_anyStroke w.heap.size (w.heap.size + 1) (1500 - 10 * k + 2) _ (by omega) H4.out.2.2.cur).mono ?_
          rintro e w7 ⟨y, rfl, hc⟩
          have H5 := Lib.hid (H4.out.cur hc)
          have HOW2 := Lib.hid (H5.out.2.1.alloc (.cells #[.int .i64 y] 3))
          have HZ3 := Lib.hid (show w1.heap.size + 2 ≤ w7.heap.size by have := H5.out.2.2.bd.2.2; omega)
          clear hc
          go_wp2_with (at_builtin; refine wpList_append_own _ rfl _ _ 41 rfl (w1.heap.size + 2) 3 i0 (.int .i64 0) 1 8 Tryz.underlying41 hi hz0 hz1 hz2 rfl (by decide) (.slice ua un uc) o'.length (ints o') rfl HOW2.out ⟨w7.heap.size, 0, none⟩ 1 1 [.int .i64 y] rfl rfl ?_ ?_ ?_ ?_ ?_ ?_)
          all_goals first | exact ⟨rfl, rfl⟩ | (intro z hz; simp only [List.mem_cons, List.not_mem_nil, or_false] at hz; subst hz; rfl) | (unfold maxLen; omega) | omega | (have h1 := HZ3.out; simp; omega) | (intro i z hz; rcases i with _ | i; (injection hz with hz; subst hz; rw [add0]; go_simp); cases hz) | skip
          intro u4 w8 hown hgr _
          have H6 := Lib.hid (H5.out.app 3 hown hgr)
          clear hown hgr
          go_wp2
          go_meet
          exact ⟨_, by rw [List.length_append]; simp; omega, H6.out.1, H6.out.2.1, H6.out.2.2.mono (by omega)⟩
      case rest =>
        obtain ⟨o2, ho2, hr⟩ := hcut
        have HF := Lib.hid hr; have HO2 := Lib.hid ho2
        obtain ⟨ua2, uc2, rfl⟩ := own_form hr.2.1
        obtain ⟨q0, q1, q2⟩ := hr.2.2.bs
        obtain ⟨q3, q4, q5⟩ := hr.2.2.r0
        clear hr ho2 H4
        go_wp2
        refine bodyPost_ret (v := .tuple #[.agg #[.slice ta t.length tc], .slice ua2 o2.length uc2]) (by simp [results, Tryz.results88, go_sem, q3]) rfl ⟨t, o2, _, _, rfl, HDT.out, HO2.out, ?_⟩
        have hset : Chg (fun b => b = w.heap.size) wc (wc.setCell ⟨w.heap.size, 0, none⟩ (.slice ta t.length tc)) := (Chg.refl (fun b => b = w.heap.size) wc).setCell (p := ⟨w.heap.size, 0, none⟩) rfl _
        have hzs : (wc.setCell ⟨w.heap.size, 0, none⟩ (.slice ta t.length tc)).heap.size = wc.heap.size := by simp [World.setCell]
        have hlw := HF.out.2.2.low
        have hbz := HF.out.2.2.bd.2.2
        refine ⟨?_, ?_, ?_⟩
        · exact (HF.out.2.2.ls.chg hset (fun b h1 _ e => by omega)).wide (by omega) (by rw [hzs]; omega) (Nat.le_refl _)
        · have hi := ints_of_owns HF.out.2.1 (by have := HO2.out; omega)
          exact (hi.stand intE_ok hset (fun b hb e => by have := hb.1; omega)).wide (fun b hb => ⟨by have := hb.1; omega, by rw [hzs]; exact hb.2⟩) (fun b hb => hb.2)
        · exact HF.out.2.2.bel.setCell (Nat.le_refl _) _
theorem drawLongest (cv : Value) (w : World) (hc : CodeIs w cv) :
    Calls Tryz.prog 43 #[cv] w (StrDrawn w) := by
  have hba := (Below.refl w.heap.size w).alloc (Nat.le_refl _) (.cells #[.slice none 0 0] 30)
  have HC := Lib.hid (CodeIs.on hc hba)
  have HB0 := Lib.hid hba; have HX := Lib.hid (DBx.new (.slice none 0 0) 30 w)
  obtain ⟨ad, n, cap, rfl, _, _⟩ := hc
  clear hba
  go_enter Tryz.func43, Tryz.ntmps43
  go_wp2_with fail
  refine (drawStrokes _ _ HC.out).mono ?_
  rintro e w1 ⟨t, o, u, ov, rfl, hdt, ho, hu, hov, hb⟩
  have HDT := Lib.hid hdt; have HO := Lib.hid ho; have HU := Lib.hid hu; have HV := Lib.hid hov; have HB := Lib.hid (HB0.out.trans (hb.mono HB0.out.size)); have HX1 := Lib.hid (HX.out.below hb)
  obtain ⟨ta, tc, rfl, _, _⟩ := hu.now
  obtain ⟨oa, oc, rfl, _, _⟩ := id hov
  clear hdt ho hb hu hov HX
  obtain ⟨k0, k1, k2⟩ := HX1.out
  go_wp2
  refine bodyPost_ret (v := .tuple #[.agg #[.slice ta t.length tc], .slice oa o.length oc]) (by simp [results, Tryz.results43, go_sem, k0]) rfl ⟨t, o, _, _, rfl, HDT.out, HO.out, ?_⟩
  have hset : Chg (fun b => b = w.heap.size) w1 (w1.setCell ⟨w.heap.size, 0, none⟩ (.slice ta t.length tc)) := (Chg.refl (fun b => b = w.heap.size) w1).setCell (p := ⟨w.heap.size, 0, none⟩) rfl _
  have hzs : (w1.setCell ⟨w.heap.size, 0, none⟩ (.slice ta t.length tc)).heap.size = w1.heap.size := by simp [World.setCell]
  have hz0 : (w.alloc (.cells #[.slice none 0 0] 30)).heap.size = w.heap.size + 1 := by simp
  refine ⟨(HU.out.chg hset (fun b h1 _ e => by omega)).wide (by omega) (by rw [hzs]; exact Nat.le_refl _) (Nat.le_refl _), (HV.out.stand intE_ok hset (fun b hb e => by have := hb.1; omega)).wide (fun b hb => ⟨by have := hb.1; omega, by rw [hzs]; exact hb.2⟩) (fun b hb => hb.2), HB.out.setCell (Nat.le_refl _) _⟩
theorem drawLookupTrie (cv : Value) (w : World) (hc : CodeIs w cv) :
    Calls Tryz.prog 45 #[cv] w (StrDrawn w) := by
  have H1 := Lib.hid (CodeIs.fresh (t := 92) hc ((Below.refl w.heap.size w).alloc (Nat.le_refl _) (.cells #[.slice none 0 0] 30)))
  obtain ⟨ad, n, cap, rfl, _, _⟩ := hc
  go_enter Tryz.func45, Tryz.ntmps45
  go_wp2_with fail
  refine (l7Draw w.heap.size (w.heap.size + 1) 0 _ (by decide) (by simpa using H1.out)).mono ?_
  rintro e w1 ⟨t, u, l, ud, rfl, hdt, hdl, hrt, hrd, hc⟩
  have HS := Lib.hid (SSt.start 30 26 hrt hrd hc)
  have HDT := Lib.hid hdt; have HDL := Lib.hid hdl
  obtain ⟨ta, tc, rfl, _, _⟩ := hrt.now
  obtain ⟨da, dc, rfl, _, _⟩ := hrd.now
  clear hdt hdl hrt hrd hc H1
  go_upto_region 3 with fail
  have HS1 := Lib.hid (HS.out.below (Below.refl _ _).drew)
  generalize hw2 : (w1.alloc (.cells #[.slice ta t.length tc] 30)).alloc (.cells #[.slice da l.length dc] 26) = w2 at *
  have HSS := Lib.hid (show w2.drew.cell? ⟨w1.heap.size, 0, none⟩ = some (.slice ta t.length tc) ∧ w2.drew.cell? ⟨w1.heap.size + 1, 0, none⟩ = some (.slice da l.length dc) from ⟨HS1.out.bs.1, HS1.out.bd.1⟩)
  clear hw2 HS
  refine Left.region [] (S := fun v => v.cell? ⟨w1.heap.size, 0, none⟩ = some (.slice ta t.length tc) ∧ v.cell? ⟨w1.heap.size + 1, 0, none⟩ = some (.slice da l.length dc)) (by kernel_rfl) HSS.out (fun hS0 => ?_)
  generalize w2.drew = v0 at *
  refine Left.take (i := 0) (v := .agg #[.slice ta t.length tc]) rfl (by kernel_rfl) (by kernel_rfl) (by kernel_rfl) (by kernel_rfl) (fun _ _ _ h => h) (Or.inl ⟨by rfl, fun z hz => ?_⟩) hS0 ?_
  · obtain ⟨z1, z2⟩ := hz
    go_simp
  try simp only [List.getElem_toArray, List.getElem_cons_zero, Act.put, List.setIfInBounds_toArray, List.set_cons_zero, List.set_cons_succ]
  refine Left.take (i := 1) (v := .pointer (some ⟨w.heap.size + 1, 0, none⟩)) rfl (by kernel_rfl) (by kernel_rfl) (by kernel_rfl) (by kernel_rfl) (fun _ _ _ h => h) (Or.inl ⟨by rfl, fun z hz => ?_⟩) hS0 ?_
  · obtain ⟨z1, z2⟩ := hz
    go_simp
  try simp only [List.getElem_toArray, List.getElem_cons_zero, List.getElem_cons_succ, Act.put, List.setIfInBounds_toArray, List.set_cons_zero, List.set_cons_succ]
  refine Left.take (i := 2) (v := .agg #[.slice da l.length dc]) rfl (by kernel_rfl) (by kernel_rfl) (by kernel_rfl) (by kernel_rfl) (fun _ _ _ h => h) (Or.inl ⟨by rfl, fun z hz => ?_⟩) hS0 ?_
  · obtain ⟨z1, z2⟩ := hz
    go_simp
  try simp only [List.getElem_toArray, List.getElem_cons_zero, List.getElem_cons_succ, Act.put, List.setIfInBounds_toArray, List.set_cons_zero, List.set_cons_succ]
  refine Left.ready (rs := [3]) (by kernel_rfl) (by simp) ?_
  refine Nexts.cons rfl (fun K hK => ?_) Nexts.nil
  go_simp
  refine (cur_known w.heap.size (w.heap.size + 1) (0 + 1200) (w.heap.size + 2) w1.heap.size _ l _ (by decide) HS1.out.cur HS1.out.ds (by omega) HDL.out).mono ?_
  rintro e v1 ⟨o, ov, rfl, ho, hI, hc⟩
  have HS3 := Lib.hid (HS1.out.stand hc)
  have HI := Lib.hid hI; have HO := Lib.hid ho
  have HZ := Lib.hid (show w1.heap.size + 2 ≤ v0.heap.size by have := HS1.out.bd.2.2; omega)
  obtain ⟨oa, oc, rfl, _, _⟩ := hI
  refine on_held hK (by decide) ⟨HS3.out.bs.1, HS3.out.bd.1⟩ (fun hS1 => ?_)
  clear hK K hc ho HS1
  try simp only [List.getElem_toArray, List.getElem_cons_zero, List.getElem_cons_succ, Act.put, List.setIfInBounds_toArray, List.set_cons_zero, List.set_cons_succ]
  refine Left.ready (rs := [4]) (by kernel_rfl) (by simp) ?_
  refine Nexts.cons rfl (fun K hK => ?_) Nexts.nil
  obtain ⟨k0, k1, k2⟩ := HS3.out.r0
  go_simp
  have hset0 : Chg (fun b => b = w.heap.size) v1 (v1.setCell ⟨w.heap.size, 0, none⟩ (.slice ta t.length tc)) := (Chg.refl (fun b => b = w.heap.size) v1).setCell (p := ⟨w.heap.size, 0, none⟩) rfl _
  refine on_held hK (by decide) ⟨(HS3.out.bs.stand hset0 (by have := HS3.out.low; omega)).1, (HS3.out.bd.stand hset0 (by have := HS3.out.low; omega)).1⟩ (fun hS2 => ?_)
  clear hK K hset0
  try simp only [List.getElem_toArray, List.getElem_cons_zero, List.getElem_cons_succ, Act.put, List.setIfInBounds_toArray, List.set_cons_zero, List.set_cons_succ]
  refine Left.take (i := 5) (v := .slice oa o.length oc) rfl (by kernel_rfl) (by kernel_rfl) (by kernel_rfl) (by kernel_rfl) (fun _ _ _ h => h) (Or.inl ⟨by rfl, fun z hz => ?_⟩) hS2 ?_
  · obtain ⟨z1, z2⟩ := hz
    go_simp
  try simp only [List.getElem_toArray, List.getElem_cons_zero, List.getElem_cons_succ, Act.put, List.setIfInBounds_toArray, List.set_cons_zero, List.set_cons_succ]
  refine Left.done (by kernel_rfl) ?_ _
  clear hS0 hS1 hS2
  go_wp2
  refine bodyPost_ret (v := .tuple #[.agg #[.slice ta t.length tc], .slice oa o.length oc]) (by simp [results, Tryz.results45, go_sem, k0]) rfl ⟨t, o, _, _, rfl, HDT.out, by have := HO.out; omega, ?_⟩
  have hset : Chg (fun b => b = w.heap.size) v1 (v1.setCell ⟨w.heap.size, 0, none⟩ (.slice ta t.length tc)) := (Chg.refl (fun b => b = w.heap.size) v1).setCell (p := ⟨w.heap.size, 0, none⟩) rfl _
  have hzs : (v1.setCell ⟨w.heap.size, 0, none⟩ (.slice ta t.length tc)).heap.size = v1.heap.size := by simp [World.setCell]
  have hlw := HS3.out.low
  have hbz := HS3.out.bd.2.2
  refine ⟨?_, ?_, ?_⟩
  · exact (HS3.out.ls.chg hset (fun b h1 _ e => by omega)).wide (by omega) (by rw [hzs]; omega) (Nat.le_refl _)
  · exact (HI.out.stand intE_ok hset (fun b hb e => by have := hb.1; have := HZ.out; omega)).wide (fun b hb => ⟨by have := hb.1; have := HZ.out; omega, by rw [hzs]; exact hb.2⟩) (fun b hb => hb.2)
  · exact HS3.out.bel.setCell (Nat.le_refl _) _
end Go.Proofs.YtojcfpjoikmgcaaGreatDoor
