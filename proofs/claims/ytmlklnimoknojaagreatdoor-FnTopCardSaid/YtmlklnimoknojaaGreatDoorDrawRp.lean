/- Walk: the reference's drawing of a dictionary and strokes to replay. -/
import Derived.Test.YtmlklnimoknojaaGreatDoorLayB
import Derived.Test.YtmlklnimoknojaaGreatDoorVBig
import Derived.Test.YtmlklnimoknojaaGreatDoorScrI5
import Derived.Test.YtmlklnimoknojaaGreatDoorSpellI2
namespace Go.Proofs.YtmlklnimoknojaaGreatDoor
open Go Go.RowKit
set_option maxHeartbeats 4000000
set_option maxRecDepth 100000
def RpDrawn (w : World) (e : Ending) (w' : World) : Prop :=
  ∃ (l : P.Dic) (u : Value) (st : List Int) (us : Value), e = .returned (.tuple #[.agg #[u], us]) ∧ Drawn l ∧ EntR w' u l ∧ IntR w' us st ∧ st.length ≤ 40 ∧ Below w.heap.size w w'
/-- what stands beside the drawn strokes: the dictionary's box and row, the result's box -/
structure RSt (R b c : Nat) (u : Value) (l : P.Dic) (v : World) : Prop where
  d : DBx b u v
  rd : ReadE c b v u l
  r2 : NBx R v
theorem RSt.chg {R b c : Nat} {u : Value} {l : P.Dic} {v v' : World} {X : Blk} (h : RSt R b c u l v) (hc : Chg X v v') (hX : ∀ k, X k → k ≠ b ∧ k ≠ R ∧ (k < c ∨ b ≤ k)) : RSt R b c u l v' :=
  ⟨h.d.stand hc (fun e => (hX _ e).1 rfl), h.rd.chg hc (fun k h1 h2 e => by have := (hX k e).2.2; omega), h.r2.stand hc (fun e => (hX _ e).2.1 rfl)⟩
theorem drawReplay (v : Value) (w : World) (hv : CodeIs w v) :
    Calls Tryz.prog 11 #[v] w (RpDrawn w) := by
  obtain ⟨i0, hi', hy0, hy1, hy2⟩ := info_parts info_int
  have hv' := hv
  obtain ⟨ad, n, cap, rfl, _, _⟩ := hv'
  have hb0 : Below w.heap.size w (w.alloc (.cells #[.slice none 0 0] 26)) := (Below.refl w.heap.size w).alloc (Nat.le_refl _) _
  have hz0 : w.heap.size + 1 ≤ (w.alloc (.cells #[.slice none 0 0] 26)).heap.size := by simp
  have HR2 := Lib.hid (NBx.new w 26)
  have HV := Lib.hid hv
  have HB0 := Lib.hid hb0
  clear hb0 hv
  go_enter Tryz.func11, Tryz.ntmps11
  go_upto_region 1 with fail
  generalize w.alloc (.cells #[.slice none 0 0] 26) = V0 at *
  have HC := Lib.hid (HV.out.fresh (t := 91) HB0.out)
  have hba := (Below.refl V0.heap.size V0).alloc (Nat.le_refl _) (.cells #[.slice ad n cap, .int .i64 0, .int .u64 0] 91)
  have HR2 := Lib.hid (HR2.out.below hba)
  have HB1 := Lib.hid (HB0.out.trans (hba.mono HB0.out.size))
  have hz1 : V0.heap.size < (V0.alloc (.cells #[.slice ad n cap, .int .i64 0, .int .u64 0] 91)).heap.size := by simp
  clear hba HB0 HV
  go_upto_region 2 with fail
  generalize V0.alloc (.cells #[.slice ad n cap, .int .i64 0, .int .u64 0] 91) = v1 at *
  generalize V0.heap.size = C at *
  go_wp2_with fail
  refine (cur_anyDictionary w.heap.size C 0 _ (by decide) HC.out).mono ?_
  rintro e w1 ⟨l, u, rfl, hdr, hrd, hc⟩
  have HDR := Lib.hid hdr
  obtain ⟨da, dc, rfl, _, _⟩ := hrd.now
  have hba := (Below.refl w1.heap.size w1).alloc (Nat.le_refl _) (.cells #[(.slice da l.length dc)] 26)
  have HB2 := Lib.hid ((Chg.belowB HB1.out hc.2 HB1.out.size (fun b h => by omega)).trans (hba.mono (Nat.le_trans HB1.out.size hc.2.size)))
  have HS0 := Lib.hid (show RSt w.heap.size w1.heap.size v1.heap.size (.slice da l.length dc) l (w1.alloc (.cells #[(.slice da l.length dc)] 26)) from ⟨DBx.new _ _ _, hrd.chg (Below.chg hba (fun _ => False)) (fun _ _ _ h => h), (HR2.out.stand hc.2 (by omega)).below hba⟩)
  have HC0 := Lib.hid (hc.1.below hba)
  have hz3 : w1.heap.size < (w1.alloc (.cells #[(.slice da l.length dc)] 26)).heap.size := by simp
  have hz4 : v1.heap.size ≤ w1.heap.size := hc.2.size
  clear hc hrd hba hdr HC HR2 HB1
  go_upto_region 3 with fail
  generalize w1.alloc (.cells #[(.slice da l.length dc)] 26) = W0 at *
  generalize w1.heap.size = b at *
  generalize v1.heap.size = c at *
  have hz5 : C < W0.heap.size := by omega
  have HC := Lib.hid ((CurPost.refl HC0.out (Nat.le_refl _)).alloc (.cells #[] 3))
  have HOW := Lib.hid (show (W0.alloc (.cells #[] 3)).ownsRow W0.heap.size 3 1 (.slice (some ⟨W0.heap.size, 0, none⟩) 0 0) 0 [] by have h := World.ownsRow_lit (base := W0.heap.size) (e := 3) (size := 1) W0 #[] 0 (Nat.le_refl _) (Nat.zero_le _) (by simp); simpa using h)
  have HS1 := Lib.hid (HS0.out.chg (Below.chg ((Below.refl W0.heap.size W0).alloc (Nat.le_refl _) (.cells #[] 3)) (fun _ => False)) (fun _ h => h.elim))
  clear HS0
  go_wp2_with fail
  refine (cur_pick w.heap.size C 2000 10 _ (by decide) (by decide) HC.out.1).mono ?_
  rintro e w3 ⟨x, hx, rfl, hc⟩
  have hx3 : x < 10 := by omega
  have HRN := Lib.hid (show OutRun w.heap.size C 2002 W0 w3 (.slice (some ⟨W0.heap.size, 0, none⟩) 0 0) [] from OutRun.cur (K := 2000) ⟨⟨_, _, _, rfl⟩, HOW.out, HC.out⟩ hz5 hc)
  have HS2 := Lib.hid (HS1.out.chg hc.2 (fun k e => by have e : k = C := e; omega))
  clear hc hx HC HOW HS1
  go_wp2
  go_loopw [6, 7] (fun s n wr => ∃ (o : List Int) (k : Nat), o.length + 40 * k ≤ 400 ∧ k ≤ 9 ∧ n = .int .i64 k ∧ OutRun w.heap.size C (7000 - 200 * k) W0 wr s o ∧ RSt w.heap.size b c (.slice da l.length dc) l wr) (fun _ n _ => (intOf n).toNat)
  case atStart => exact ⟨[], x, by simp; omega, by omega, rfl, ⟨HRN.out.1, HRN.out.2.1, HRN.out.2.2.mono (by omega)⟩, HS2.out⟩
  case round =>
    obtain ⟨o, k, hk, hk9, rfl, hrn, hst⟩ := hrel
    have H3 := Lib.hid hrn; have HS3 := Lib.hid hst
    obtain ⟨⟨ua, un, uc, rfl⟩, _⟩ := hrn
    clear hst HRN HS2
    by_cases hp : 0 < k
    · have hpk : (0 : Int) < (k : Int) := by omega
      go_wp2_with fail
      refine (cur_pick w.heap.size C (7000 - 200 * k) 5 _ (by omega) (by decide) H3.out.2.2.1).mono ?_
      rintro e w4 ⟨p, hp5, rfl, hc⟩
      have H4 := Lib.hid (H3.out.cur hz5 hc)
      have HS4 := Lib.hid (HS3.out.chg hc.2 (fun k e => by have e : k = C := e; omega))
      clear hc hp5 H3 HS3
      by_cases p0 : p = 0
      · subst p0
        have HOW2 := Lib.hid (H4.out.2.1.alloc (.cells #[.int .i64 1024] 3))
        have HZ3 := Lib.hid H4.out.2.2.2.size
        go_wp2_with (at_builtin; refine wpList_append_own _ rfl _ _ 27 rfl W0.heap.size 3 i0 (.int .i64 0) 1 8 Tryz.underlying27 hi' hy0 hy1 hy2 rfl (by decide) (.slice ua un uc) o.length (ints o) rfl HOW2.out ⟨w4.heap.size, 0, none⟩ 1 1 [.int .i64 1024] rfl rfl ?_ ?_ ?_ ?_ ?_ ?_)
        all_goals first | exact ⟨rfl, rfl⟩ | (intro z hz; simp only [List.mem_cons, List.not_mem_nil, or_false] at hz; subst hz; rfl) | (unfold maxLen; omega) | omega | (have h1 := HZ3.out; simp; omega) | (intro i z hz; rcases i with _ | i; (injection hz with hz; subst hz; rw [add0]; go_simp); cases hz) | skip
        intro u4 v4 hown hgr _
        have H6 := Lib.hid (H4.out.app HC0.out 3 hown hgr)
        have hlo4 : ∀ k, (Value.slice ua un uc).ownBlock = some k → W0.heap.size ≤ k := fun k hk => (World.ownsRow.lt H4.out.2.1 k hk).1
        have hba := (Below.refl w4.heap.size w4).alloc (Nat.le_refl _) (.cells #[.int .i64 1024] 3)
        have HS6 := Lib.hid ((HS4.out.chg (Below.chg hba (fun _ => False)) (fun _ h => h.elim)).chg (Chg.grown hgr) (fun k e => by have := hlo4 k e; omega))
        clear hown hgr hlo4 hba HOW2 HZ3 H4 HS4
        go_wp2
        go_roundw
        case rel => exact ⟨_, k - 1, by simp only [List.length_append, List.length_cons, List.length_nil]; omega, by omega, by go_num, ⟨H6.out.1, H6.out.2.1, H6.out.2.2.mono (by omega)⟩, HS6.out⟩
        case measure => simp [intOf]; omega
      · have n0 : ¬ (p : Int) = 0 := by omega
        by_cases p1 : p = 1
        · subst p1
          go_wp2_with fail
          refine (cur_few w.heap.size C (7000 - 200 * k + 2) _ (by omega) H4.out.2.2.1).mono ?_
          rintro e w5 ⟨y, rfl, hc⟩
          have H5 := Lib.hid (H4.out.cur hz5 hc)
          have HS5 := Lib.hid (HS4.out.chg hc.2 (fun k e => by have e : k = C := e; omega))
          clear hc H4 HS4
          have HOW2 := Lib.hid (H5.out.2.1.alloc (.cells #[.int .i64 y] 3))
          have HZ3 := Lib.hid H5.out.2.2.2.size
          go_wp2_with (at_builtin; refine wpList_append_own _ rfl _ _ 27 rfl W0.heap.size 3 i0 (.int .i64 0) 1 8 Tryz.underlying27 hi' hy0 hy1 hy2 rfl (by decide) (.slice ua un uc) o.length (ints o) rfl HOW2.out ⟨w5.heap.size, 0, none⟩ 1 1 [.int .i64 y] rfl rfl ?_ ?_ ?_ ?_ ?_ ?_)
          all_goals first | exact ⟨rfl, rfl⟩ | (intro z hz; simp only [List.mem_cons, List.not_mem_nil, or_false] at hz; subst hz; rfl) | (unfold maxLen; omega) | omega | (have h1 := HZ3.out; simp; omega) | (intro i z hz; rcases i with _ | i; (injection hz with hz; subst hz; rw [add0]; go_simp); cases hz) | skip
          intro u4 v4 hown hgr _
          have H6 := Lib.hid (H5.out.app HC0.out 3 hown hgr)
          have hlo4 : ∀ k, (Value.slice ua un uc).ownBlock = some k → W0.heap.size ≤ k := fun k hk => (World.ownsRow.lt H5.out.2.1 k hk).1
          have hba := (Below.refl w5.heap.size w5).alloc (Nat.le_refl _) (.cells #[.int .i64 y] 3)
          have HS6 := Lib.hid ((HS5.out.chg (Below.chg hba (fun _ => False)) (fun _ h => h.elim)).chg (Chg.grown hgr) (fun k e => by have := hlo4 k e; omega))
          clear hown hgr hlo4 hba HOW2 HZ3 H5 HS5
          go_wp2
          go_roundw
          case rel => exact ⟨_, k - 1, by simp only [List.length_append, List.length_cons, List.length_nil]; omega, by omega, by go_num, ⟨H6.out.1, H6.out.2.1, H6.out.2.2.mono (by omega)⟩, HS6.out⟩
          case measure => simp [intOf]; omega
        · have n1 : ¬ (p : Int) = 1 := by omega
          obtain ⟨b0, _⟩ := HS4.out.d
          go_wp2_with fail
          refine (cur_strokes w.heap.size C (7000 - 200 * k + 2) c b (.slice da l.length dc) l _ (by omega) H4.out.2.2.1 HS4.out.rd (by omega) HDR.out).mono ?_
          rintro e w5 ⟨o2, u2, rfl, ho2, hown2, hc⟩
          have H5 := Lib.hid (H4.out.cur hz5 hc)
          have HS5 := Lib.hid (HS4.out.chg hc.2 (fun k e => by have e : k = C := e; omega))
          have HX := Lib.hid (show IntR w5 u2 o2 from ownK_read hown2 (by omega))
          obtain ⟨xd, xc, rfl⟩ := own_form hown2
          have HSRC := Lib.hid (src_of_ints HX.out)
          have HZ3 := Lib.hid H5.out.2.2.2.size
          clear hc hown2 H4 HS4 b0
          go_wp2_with (at_builtin; refine wpList_append_src rfl _ _ 27 rfl W0.heap.size 3 i0 (.int .i64 0) 1 8 Tryz.underlying27 hi' hy0 hy1 hy2 rfl (by decide) (.slice ua un uc) o.length (ints o) rfl H5.out.2.1 (.slice xd o2.length xc) o2.length (ints o2) rfl HSRC.out ?_ ?_ ?_ ?_)
          · unfold maxLen; omega
          · omega
          · exact HZ3.out
          intro u4 v4 hown hgr _
          have hlo4 : ∀ k, (Value.slice ua un uc).ownBlock = some k → W0.heap.size ≤ k := fun k hk => (World.ownsRow.lt H5.out.2.1 k hk).1
          have hf4 := own_form hown
          have H6 := Lib.hid (show OutRun w.heap.size C (7000 - 200 * k + 102) W0 v4 u4 (o ++ o2) from ⟨hf4.elim fun a h => h.elim fun c h => ⟨a, _, c, h⟩, by rw [List.length_append, show ints (o ++ o2) = ints o ++ ints o2 by simp [ints]]; exact hown, H5.out.2.2.new (Chg.grown hgr) (fun b hb => hlo4 b hb) (by omega) (by omega)⟩)
          have HS6 := Lib.hid (HS5.out.chg (Chg.grown hgr) (fun k e => by have := hlo4 k e; omega))
          clear hown hgr hlo4 hf4 HSRC HX HZ3 H5 HS5
          go_wp2
          go_roundw
          case rel => exact ⟨_, k - 1, by simp only [List.length_append]; omega, by omega, by go_num, ⟨H6.out.1, H6.out.2.1, H6.out.2.2.mono (by omega)⟩, HS6.out⟩
          case measure => simp [intOf]; omega
    · have hpk : ¬ (0 : Int) < (k : Int) := by omega
      have hk0 : k = 0 := by omega
      subst hk0
      go_wp2_with fail
      refine (cur_one w.heap.size C 7000 24 _ (by decide) (by decide) H3.out.2.2.1).mono ?_
      rintro e w4 ⟨q, rfl, hc⟩
      have H4 := Lib.hid (H3.out.cur hz5 hc)
      have HS4 := Lib.hid (HS3.out.chg hc.2 (fun k e => by have e : k = C := e; omega))
      clear hc H3 HS3
      cases q
      · have HLO := Lib.hid (show o.length ≤ 400 by omega)
        obtain ⟨b0, _⟩ := HS4.out.d
        obtain ⟨r0, r1, r2⟩ := HS4.out.r2
        have hset : Chg (fun k => k = w.heap.size) w4 (w4.setCell ⟨w.heap.size, 0, none⟩ (.slice da l.length dc)) := (Chg.refl (fun k => k = w.heap.size) w4).setCell (p := ⟨w.heap.size, 0, none⟩) rfl _
        have HEN := Lib.hid (show EntR (w4.setCell ⟨w.heap.size, 0, none⟩ (.slice da l.length dc)) (.slice da l.length dc) l from (HS4.out.rd.chg hset (fun k h1 h2 (e : k = w.heap.size) => by omega)).now)
        have hun : un = (o).length := by
          rcases H4.out.2.1.2 with ⟨e1, e2⟩ | ⟨_, _, _, e1, _⟩
          · injection e1 with _ e3 _; omega
          · injection e1
        have HIN := Lib.hid (show IntR (w4.setCell ⟨w.heap.size, 0, none⟩ (.slice da l.length dc)) (.slice ua (o).length uc) (o) from by
          have h9 := owns_stand H4.out.2.1 hset (fun k hk (e : k = w.heap.size) => by have := (World.ownsRow.lt H4.out.2.1 k hk).1; omega)
          rw [hun] at h9
          exact ownK_read h9 (by have := HLO.out; omega))
        have HBL := Lib.hid (show Below w.heap.size w (w4.setCell ⟨w.heap.size, 0, none⟩ (.slice da l.length dc)) from Chg.belowB (Chg.belowB HB2.out H4.out.2.2.2 HB2.out.size (fun k (e : k = C) => by omega)) hset (Nat.le_trans HB2.out.size H4.out.2.2.2.size) (fun k (e : k = w.heap.size) => by omega))
        have e0 : (w4.setCell ⟨w.heap.size, 0, none⟩ (.slice da l.length dc)).cell? ⟨w.heap.size, 0, none⟩ = some (.slice da l.length dc) := by go_simp
        clear hset HS4
        have hcp := HIN.out.cap
        have hlo := HLO.out
        by_cases h40 : 40 < (o).length
        · have j1 : (40 : Int) < (un : Int) := by omega
          have j2 : (40 : Int) ≤ (uc : Int) := by omega
          go_wp2
          refine bodyPost_ret (v := .tuple #[.agg #[(.slice da l.length dc)], .slice ua 40 uc]) (by simp [e0, results, Tryz.results11, go_sem]) rfl ⟨l, _, (o).take 40, _, rfl, HDR.out, HEN.out, HIN.out.take (by omega), by rw [List.length_take]; omega, HBL.out⟩
        · have j1 : ¬ (40 : Int) < (un : Int) := by omega
          subst hun
          go_wp2
          refine bodyPost_ret (v := .tuple #[.agg #[(.slice da l.length dc)], .slice ua (o).length uc]) (by simp [e0, results, Tryz.results11, go_sem]) rfl ⟨l, _, o, _, rfl, HDR.out, HEN.out, HIN.out, by omega, HBL.out⟩
      · go_wp2_with fail
        refine (cur_anyStroke w.heap.size C 7002 _ (by decide) H4.out.2.2.1).mono ?_
        rintro e w5 ⟨y, rfl, hc⟩
        have H5 := Lib.hid (H4.out.cur hz5 hc)
        have HS5 := Lib.hid (HS4.out.chg hc.2 (fun k e => by have e : k = C := e; omega))
        clear hc H4 HS4
        have HOW2 := Lib.hid (H5.out.2.1.alloc (.cells #[.int .i64 y] 3))
        have HZ3 := Lib.hid H5.out.2.2.2.size
        go_wp2_with (at_builtin; refine wpList_append_own _ rfl _ _ 27 rfl W0.heap.size 3 i0 (.int .i64 0) 1 8 Tryz.underlying27 hi' hy0 hy1 hy2 rfl (by decide) (.slice ua un uc) o.length (ints o) rfl HOW2.out ⟨w5.heap.size, 0, none⟩ 1 1 [.int .i64 y] rfl rfl ?_ ?_ ?_ ?_ ?_ ?_)
        all_goals first | exact ⟨rfl, rfl⟩ | (intro z hz; simp only [List.mem_cons, List.not_mem_nil, or_false] at hz; subst hz; rfl) | (unfold maxLen; omega) | omega | (have h1 := HZ3.out; simp; omega) | (intro i z hz; rcases i with _ | i; (injection hz with hz; subst hz; rw [add0]; go_simp); cases hz) | skip
        intro u4 v4 hown hgr _
        have H6 := Lib.hid (H5.out.app HC0.out 3 hown hgr)
        have hlo4 : ∀ k, (Value.slice ua un uc).ownBlock = some k → W0.heap.size ≤ k := fun k hk => (World.ownsRow.lt H5.out.2.1 k hk).1
        have hba := (Below.refl w5.heap.size w5).alloc (Nat.le_refl _) (.cells #[.int .i64 y] 3)
        have HS6 := Lib.hid ((HS5.out.chg (Below.chg hba (fun _ => False)) (fun _ h => h.elim)).chg (Chg.grown hgr) (fun k e => by have := hlo4 k e; omega))
        clear hown hgr hlo4 hba HOW2 HZ3 H5 HS5
        obtain ⟨⟨va, vn, vc, rfl⟩, _⟩ := id H6.out
        have HLO := Lib.hid (show (o ++ [y]).length ≤ 401 by simp; omega)
        obtain ⟨o6, ho6⟩ : ∃ o6, o ++ [y] = o6 := ⟨_, rfl⟩
        rw [ho6] at H6 HLO
        clear ho6
        obtain ⟨b0, _⟩ := HS6.out.d
        obtain ⟨r0, r1, r2⟩ := HS6.out.r2
        have hset : Chg (fun k => k = w.heap.size) v4 (v4.setCell ⟨w.heap.size, 0, none⟩ (.slice da l.length dc)) := (Chg.refl (fun k => k = w.heap.size) v4).setCell (p := ⟨w.heap.size, 0, none⟩) rfl _
        have HEN := Lib.hid (show EntR (v4.setCell ⟨w.heap.size, 0, none⟩ (.slice da l.length dc)) (.slice da l.length dc) l from (HS6.out.rd.chg hset (fun k h1 h2 (e : k = w.heap.size) => by omega)).now)
        have hun : vn = (o6).length := by
          rcases H6.out.2.1.2 with ⟨e1, e2⟩ | ⟨_, _, _, e1, _⟩
          · injection e1 with _ e3 _; omega
          · injection e1
        have HIN := Lib.hid (show IntR (v4.setCell ⟨w.heap.size, 0, none⟩ (.slice da l.length dc)) (.slice va (o6).length vc) (o6) from by
          have h9 := owns_stand H6.out.2.1 hset (fun k hk (e : k = w.heap.size) => by have := (World.ownsRow.lt H6.out.2.1 k hk).1; omega)
          rw [hun] at h9
          exact ownK_read h9 (by have := HLO.out; omega))
        have HBL := Lib.hid (show Below w.heap.size w (v4.setCell ⟨w.heap.size, 0, none⟩ (.slice da l.length dc)) from Chg.belowB (Chg.belowB HB2.out H6.out.2.2.2 HB2.out.size (fun k (e : k = C) => by omega)) hset (Nat.le_trans HB2.out.size H6.out.2.2.2.size) (fun k (e : k = w.heap.size) => by omega))
        have e0 : (v4.setCell ⟨w.heap.size, 0, none⟩ (.slice da l.length dc)).cell? ⟨w.heap.size, 0, none⟩ = some (.slice da l.length dc) := by go_simp
        clear hset HS6
        have hcp := HIN.out.cap
        have hlo := HLO.out
        by_cases h40 : 40 < (o6).length
        · have j1 : (40 : Int) < (vn : Int) := by omega
          have j2 : (40 : Int) ≤ (vc : Int) := by omega
          go_wp2
          refine bodyPost_ret (v := .tuple #[.agg #[(.slice da l.length dc)], .slice va 40 vc]) (by simp [e0, results, Tryz.results11, go_sem]) rfl ⟨l, _, (o6).take 40, _, rfl, HDR.out, HEN.out, HIN.out.take (by omega), by rw [List.length_take]; omega, HBL.out⟩
        · have j1 : ¬ (40 : Int) < (vn : Int) := by omega
          subst hun
          go_wp2
          refine bodyPost_ret (v := .tuple #[.agg #[(.slice da l.length dc)], .slice va (o6).length vc]) (by simp [e0, results, Tryz.results11, go_sem]) rfl ⟨l, _, o6, _, rfl, HDR.out, HEN.out, HIN.out, by omega, HBL.out⟩
end Go.Proofs.YtmlklnimoknojaaGreatDoor
