/- Walk: the reference's drawing of a dictionary, a translator and an entry. -/
import Derived.Test.YtmlklnimoknojaaGreatDoorFDict1
import Derived.Test.YtmlklnimoknojaaGreatDoorFDict3
import Derived.Test.YtmlklnimoknojaaGreatDoorTool3
import Derived.Test.YtmlklnimoknojaaGreatDoorValD
import Derived.Test.YtmlklnimoknojaaGreatDoorPlainScr2
namespace Go.Proofs.YtmlklnimoknojaaGreatDoor
open Go Go.RowKit
set_option maxHeartbeats 4000000
set_option maxRecDepth 100000
def RdDrawn (w : World) (e : Ending) (w' : World) : Prop :=
  ∃ (l : P.Dic) (u : Value) (st : List Int) (us : Value) (sc : Str) (o : List Int) (x : Value) (tx : Str), e = .returned (.tuple #[.agg #[u], transV us sc, .agg #[x, .string (S tx)]]) ∧ Drawn l ∧ EntR w' u l ∧ IntR w' us st ∧ IntR w' x o ∧ st.length ≤ 70 ∧ sc.length ≤ 2001 ∧ o.length ≤ 70 ∧ tx.length ≤ 300 ∧ Below w.heap.size w w'
theorem drawRedefine (v : Value) (w : World) (hv : CodeIs w v) :
    Calls Tryz.prog 20 #[v] w (RdDrawn w) := by
  have hv' := hv
  obtain ⟨ad, n, cap, rfl, _, _⟩ := hv'
  have hb0 : Below w.heap.size w (((w.alloc (.cells #[.slice none 0 0] 26)).alloc (.cells #[.slice none 0 0, .string (S [])] 32)).alloc (.cells #[.slice none 0 0, .string (S [])] 47)) := (((Below.refl w.heap.size w).alloc (Nat.le_refl _) _).alloc (by simp) _).alloc (by simp; omega) _
  have hz0 : w.heap.size + 3 ≤ (((w.alloc (.cells #[.slice none 0 0] 26)).alloc (.cells #[.slice none 0 0, .string (S [])] 32)).alloc (.cells #[.slice none 0 0, .string (S [])] 47)).heap.size := by simp
  have HR2 := Lib.hid (show NBx w.heap.size (((w.alloc (.cells #[.slice none 0 0] 26)).alloc (.cells #[.slice none 0 0, .string (S [])] 32)).alloc (.cells #[.slice none 0 0, .string (S [])] 47)) from ⟨by go_simp, by go_simp, by simp <;> omega⟩)
  have HR3 := Lib.hid (show TBx (w.heap.size + 1) (.slice none 0 0) [] (((w.alloc (.cells #[.slice none 0 0] 26)).alloc (.cells #[.slice none 0 0, .string (S [])] 32)).alloc (.cells #[.slice none 0 0, .string (S [])] 47)) from ⟨by simp <;> omega, by go_simp, by go_simp, by go_simp, by go_simp⟩)
  have HR4 := Lib.hid (show EnBx (w.heap.size + 2) (.slice none 0 0) [] (((w.alloc (.cells #[.slice none 0 0] 26)).alloc (.cells #[.slice none 0 0, .string (S [])] 32)).alloc (.cells #[.slice none 0 0, .string (S [])] 47)) from ⟨by go_simp, by go_simp, by go_simp, by go_simp, by simp⟩)
  have HV := Lib.hid hv
  have HB0 := Lib.hid hb0
  clear hb0 hv
  go_enter Tryz.func20, Tryz.ntmps20
  go_upto_region 1 with fail
  generalize (((w.alloc (.cells #[.slice none 0 0] 26)).alloc (.cells #[.slice none 0 0, .string (S [])] 32)).alloc (.cells #[.slice none 0 0, .string (S [])] 47)) = V0 at *
  have HC := Lib.hid (HV.out.fresh (t := 91) HB0.out)
  have hba := (Below.refl V0.heap.size V0).alloc (Nat.le_refl _) (.cells #[.slice ad n cap, .int .i64 0, .int .u64 0] 91)
  have HR2 := Lib.hid (HR2.out.below hba); have HR3 := Lib.hid (HR3.out.below hba); have HR4 := Lib.hid (HR4.out.below hba)
  have HB1 := Lib.hid (HB0.out.trans (hba.mono HB0.out.size))
  have hz1 : V0.heap.size < (V0.alloc (.cells #[.slice ad n cap, .int .i64 0, .int .u64 0] 91)).heap.size := by simp
  have hz2 : (V0.alloc (.cells #[.slice ad n cap, .int .i64 0, .int .u64 0] 91)).heap.size = V0.heap.size + 1 := by simp
  clear hba HB0 HV
  go_upto_region 2 with fail
  generalize V0.alloc (.cells #[.slice ad n cap, .int .i64 0, .int .u64 0] 91) = v1 at *
  generalize V0.heap.size = C at *
  go_wp2_with fail
  refine (cur_translator w.heap.size C 0 _ (by decide) HC.out).mono ?_
  rintro e w1 ⟨l, u, st, us, sc, rfl, hdr, hrd, hrow, hst, hsc, hc⟩
  have HDR := Lib.hid hdr; have HLN := Lib.hid (show st.length ≤ 70 ∧ sc.length ≤ 2001 from ⟨hst, hsc⟩)
  have HBW := Lib.hid (show Below w.heap.size w w1 from Chg.belowB HB1.out hc.2 HB1.out.size (fun b h => by omega))
  have HP := Lib.hid (PSt.new (sc := sc) (HR2.out.stand hc.2 (by omega)) (HR3.out.stand hc.2 (by omega)) hrd hrow hc hz2 (by omega) HBW.out)
  have HR4 := Lib.hid (HR4.out.stand hc.2 (by omega))
  obtain ⟨ua, uc, rfl, _, _⟩ := hrd.now
  obtain ⟨va, vc, rfl⟩ := ownK_form hrow
  have hba : Below w1.heap.size w1 ((w1.alloc (.cells #[(.slice ua l.length uc)] 26)).alloc (.cells #[(.slice va st.length vc), .string (S sc)] 32)) := ((Below.refl w1.heap.size w1).alloc (Nat.le_refl _) _).alloc (by simp) _
  have HR4 := Lib.hid (HR4.out.below hba)
  have hzb : w1.heap.size + 2 ≤ ((w1.alloc (.cells #[(.slice ua l.length uc)] 26)).alloc (.cells #[(.slice va st.length vc), .string (S sc)] 32)).heap.size := by simp
  have hCb : C < w1.heap.size := by have := HP.out.low; omega
  clear hc HC HB1 HR2 HR3 hrd hrow hst hsc hdr HBW hba hz2
  unfold transV
  go_upto_region 3 with fail
  generalize ((w1.alloc (.cells #[(.slice ua l.length uc)] 26)).alloc (.cells #[(.slice va st.length vc), .string (S sc)] 32)) = v2 at *
  generalize w1.heap.size = b at *
  obtain ⟨x0, x1, x2⟩ := HP.out.d
  go_wp2_with fail
  refine (cur_known w.heap.size C 5000 (C + 1) b (.slice ua l.length uc) l _ (by decide) HP.out.cur HP.out.rd (by omega) HDR.out).mono ?_
  rintro e w4 ⟨o, x, rfl, ho, hO, hc⟩
  clear x0 x1 x2
  have HO := Lib.hid hO
  have hz4 : v2.heap.size ≤ w4.heap.size := hc.2.size
  have HP := Lib.hid (HP.out.curs hc)
  have HR4 := Lib.hid (HR4.out.stand hc.2 (by omega))
  clear hc hO
  go_wp2_with fail
  refine (cur_translation w.heap.size C 5200 _ (by decide) HP.out.cur).mono ?_
  rintro e w5 ⟨tx, rfl, htx, hc⟩
  have HTX := Lib.hid htx
  have hz5 : w4.heap.size ≤ w5.heap.size := hc.2.size
  have HP := Lib.hid (HP.out.curs hc)
  have HR4 := Lib.hid (HR4.out.stand hc.2 (by omega))
  have HO := Lib.hid (HO.out.stand intE_ok hc.2 (fun k hb (e : k = C) => by have h1 := hb.1; omega))
  clear hc htx
  obtain ⟨xa, xc, rfl, _, _⟩ := id HO.out
  have hba := (Below.refl w5.heap.size w5).alloc (Nat.le_refl _) (.cells #[.slice xa o.length xc, .string (S tx)] 47)
  have HP := Lib.hid (HP.out.below (hba))
  have HR4 := Lib.hid (HR4.out.below (hba))
  have HO := Lib.hid (HO.out.below intE_ok (hba))
  have HE := Lib.hid (EnBx.new (.slice xa o.length xc) tx 47 w5)
  clear hba
  go_upto_region 4 with fail
  generalize w5.alloc (.cells #[.slice xa o.length xc, .string (S tx)] 47) = v5 at *
  generalize w5.heap.size = d at *
  generalize v2.heap.size = lo at *
  generalize w4.heap.size = hi at *
  obtain ⟨t0, t1, t2, t3, t4⟩ := HP.out.t
  by_cases hl1 : 1 < st.length
  · have i1 : (1 : Int) < (st.length : Int) := by omega
    go_wp2_with fail
    refine (cur_one w.heap.size C 5230 2 _ (by decide) (by decide) HP.out.cur).mono ?_
    rintro e w6 ⟨q, rfl, hc⟩
    clear t0 t1 t2 t3 t4
    have HP := Lib.hid (HP.out.curs hc)
    have HE := Lib.hid (HE.out.stand hc.2 (by omega))
    have HR4 := Lib.hid (HR4.out.stand hc.2 (by omega))
    have HO := Lib.hid (HO.out.stand intE_ok hc.2 (fun k hb (e : k = C) => by have h1 := hb.1; omega))
    clear hc
    cases q
    · skip
      obtain ⟨x0, x1, x2⟩ := HP.out.d
      obtain ⟨t0, t1, t2, t3, t4⟩ := HP.out.t
      obtain ⟨r0, r1, r2⟩ := HP.out.r2
      obtain ⟨q0, q1, q2, q3, q4⟩ := HP.out.r3
      obtain ⟨e0, e1, e2, e3, e4⟩ := HE.out
      obtain ⟨s0, s1, s2, s3, s4⟩ := HR4.out
      have hset : Chg (fun k => k = w.heap.size ∨ k = w.heap.size + 1 ∨ k = w.heap.size + 2) w6 (((((w6.setCell ⟨w.heap.size, 0, none⟩ (.slice ua l.length uc)).setCell ⟨w.heap.size + 1, 0, none⟩ (.slice va st.length vc)).setCell ⟨w.heap.size + 1, 1, none⟩ (.string (S sc))).setCell ⟨w.heap.size + 2, 0, none⟩ (.slice xa o.length xc)).setCell ⟨w.heap.size + 2, 1, none⟩ (.string (S tx))).drew := ((((((Chg.refl _ w6).setCell (p := ⟨w.heap.size, 0, none⟩) (.inl rfl) _).setCell (p := ⟨w.heap.size + 1, 0, none⟩) (.inr (.inl rfl)) _).setCell (p := ⟨w.heap.size + 1, 1, none⟩) (.inr (.inl rfl)) _).setCell (p := ⟨w.heap.size + 2, 0, none⟩) (.inr (.inr rfl)) _).setCell (p := ⟨w.heap.size + 2, 1, none⟩) (.inr (.inr rfl)) _).trans (Below.chg (Below.refl _ _).drew _)
      have HEN := Lib.hid (show EntR (((((w6.setCell ⟨w.heap.size, 0, none⟩ (.slice ua l.length uc)).setCell ⟨w.heap.size + 1, 0, none⟩ (.slice va st.length vc)).setCell ⟨w.heap.size + 1, 1, none⟩ (.string (S sc))).setCell ⟨w.heap.size + 2, 0, none⟩ (.slice xa o.length xc)).setCell ⟨w.heap.size + 2, 1, none⟩ (.string (S tx))).drew (.slice ua l.length uc) l from (HP.out.rd.chg hset (fun k h1 h2 e => by rcases e with e | e | e <;> omega)).now)
      have HIN := Lib.hid (show IntR (((((w6.setCell ⟨w.heap.size, 0, none⟩ (.slice ua l.length uc)).setCell ⟨w.heap.size + 1, 0, none⟩ (.slice va st.length vc)).setCell ⟨w.heap.size + 1, 1, none⟩ (.string (S sc))).setCell ⟨w.heap.size + 2, 0, none⟩ (.slice xa o.length xc)).setCell ⟨w.heap.size + 2, 1, none⟩ (.string (S tx))).drew (.slice va st.length vc) st from ownK_read (owns_stand HP.out.row hset (fun k hk e => by have := (World.ownsRow.lt HP.out.row k hk).1; rcases e with e | e | e <;> omega)) (by have := HLN.out.1; omega))
      have HON := Lib.hid (show IntR (((((w6.setCell ⟨w.heap.size, 0, none⟩ (.slice ua l.length uc)).setCell ⟨w.heap.size + 1, 0, none⟩ (.slice va st.length vc)).setCell ⟨w.heap.size + 1, 1, none⟩ (.string (S sc))).setCell ⟨w.heap.size + 2, 0, none⟩ (.slice xa o.length xc)).setCell ⟨w.heap.size + 2, 1, none⟩ (.string (S tx))).drew (.slice xa o.length xc) o from Ints.read (HO.out.stand intE_ok hset (fun k hb e => by have h1 := hb.1; rcases e with e | e | e <;> omega)))
      have HBL := Lib.hid (show Below w.heap.size w (((((w6.setCell ⟨w.heap.size, 0, none⟩ (.slice ua l.length uc)).setCell ⟨w.heap.size + 1, 0, none⟩ (.slice va st.length vc)).setCell ⟨w.heap.size + 1, 1, none⟩ (.string (S sc))).setCell ⟨w.heap.size + 2, 0, none⟩ (.slice xa o.length xc)).setCell ⟨w.heap.size + 2, 1, none⟩ (.string (S tx))).drew from Chg.belowB HP.out.bel hset HP.out.bel.size (fun k e => by rcases e with e | e | e <;> omega))
      clear hset
      go_wp2
      go_region
      go_wp2
      refine bodyPost_ret (v := .tuple #[.agg #[(.slice ua l.length uc)], transV (.slice va st.length vc) sc, .agg #[(.slice xa o.length xc), .string (S tx)]]) (by simp [transV, results, Tryz.results20, go_sem, r0, q1, q2, s0, s1]) rfl ⟨l, _, st, _, sc, o, _, tx, rfl, HDR.out, HEN.out, HIN.out, HON.out, HLN.out.1, HLN.out.2, by omega, HTX.out, HBL.out⟩
    · have hb := (Below.refl w6.heap.size w6).drew
      have HP := Lib.hid (HP.out.below (hb))
      have HE := Lib.hid (HE.out.below (hb))
      have HR4 := Lib.hid (HR4.out.below (hb))
      have HO := Lib.hid (HO.out.below intE_ok (hb))
      clear hb
      go_upto_region 5 with fail
      refine wp_region_held_drew (S := fun z => TBx (b + 1) (.slice va st.length vc) sc z ∧ ∃ y, EnBx d y tx z) (by kernel_rfl) ⟨HP.out.t, _, HE.out⟩ (fun hS0 => ?_)
      generalize w6.drew = v9 at *
      refine wpAnyH_take (i := 0) (v := .pointer (some ⟨b + 1, 0, none⟩)) rfl (by kernel_rfl) (by kernel_rfl) (by kernel_rfl) (fun _ _ _ h => h) (Or.inl ⟨by rfl, fun z hz => ?_⟩) hS0 ?_
      · obtain ⟨⟨z1, z2, z3, z4, z5⟩, y9, z6, z7, z8, z9, z10⟩ := hz
        go_simp
      try simp only [qA, qB, Act.put, qD, qE, qF]
      refine wpAnyH_take (i := 1) (v := .slice va st.length vc) rfl (by kernel_rfl) (by kernel_rfl) (by kernel_rfl) (fun _ _ _ h => h) (Or.inl ⟨by rfl, fun z hz => ?_⟩) hS0 ?_
      · obtain ⟨⟨z1, z2, z3, z4, z5⟩, y9, z6, z7, z8, z9, z10⟩ := hz
        go_simp
      try simp only [qA, qB, qC, Act.put, qD, qE, qF]
      refine wpAnyH_take (i := 2) (v := .pointer (some ⟨C, 0, none⟩)) rfl (by kernel_rfl) (by kernel_rfl) (by kernel_rfl) (fun _ _ _ h => h) (Or.inl ⟨by rfl, fun z hz => ?_⟩) hS0 ?_
      · obtain ⟨⟨z1, z2, z3, z4, z5⟩, y9, z6, z7, z8, z9, z10⟩ := hz
        go_simp
      try simp only [qA, qB, qC, Act.put, qD, qE, qF]
      refine wpAnyH_ready (rs := [3]) (by kernel_rfl) (by simp) ?_
      refine AllReadyH.cons rfl (fun K hK => ?_) AllReadyH.nil
      go_simp
      refine (cur_pick w.heap.size C 5232 2 _ (by decide) (by decide) HP.out.cur).mono ?_
      rintro e v8 ⟨i, hi2, rfl, hc⟩
      have HP := Lib.hid (HP.out.curs hc)
      have HE := Lib.hid (HE.out.stand hc.2 (by omega))
      have HR4 := Lib.hid (HR4.out.stand hc.2 (by omega))
      have HO := Lib.hid (HO.out.stand intE_ok hc.2 (fun k hb (e : k = C) => by have h1 := hb.1; omega))
      have hd8 := HE.out.2.2.2.2
      refine hK.out _ _ ⟨HP.out.t, _, HE.out⟩ (fun hS1 => ?_)
      clear hK K hc hS0
      try simp only [qA, qB, qC, Act.put, qD, qE, qF]
      have hcp := (ownK_read HP.out.row (by have := HLN.out.1; omega)).cap
      have j0 : i < 2 := by omega
      have j1 : IntKind.i64.wrap (1 + (i : Int)) = ((1 + i : Nat) : Int) := by rw [IntKind.wrap_i64]; omega
      have j2 : ((1 + i : Nat) : Int) ≤ (vc : Int) := by omega
      have j3 : 1 + i ≤ st.length := by omega
      have j4 : 1 + i ≤ vc := by omega
      obtain ⟨m, hm⟩ : ∃ m, 1 + i = m := ⟨_, rfl⟩
      rw [hm] at j1 j2 j3 j4
      have hm2 : m ≤ 2 := by omega
      clear hm j0
      refine wpAnyH_take (i := 4) (v := .int .i64 (m : Int)) rfl (by kernel_rfl) (by kernel_rfl) (by kernel_rfl) (fun _ _ _ h => h) (Or.inl ⟨by rfl, fun z hz => ?_⟩) hS1 ?_
      · obtain ⟨⟨z1, z2, z3, z4, z5⟩, y9, z6, z7, z8, z9, z10⟩ := hz
        go_simp
      try simp only [qA, qB, qC, Act.put, qD, qE, qF]
      refine wpAnyH_take (i := 5) (v := .slice va m vc) rfl (by kernel_rfl) (by kernel_rfl) (by kernel_rfl) (fun _ _ _ h => h) (Or.inl ⟨by rfl, fun z hz => ?_⟩) hS1 ?_
      · obtain ⟨⟨z1, z2, z3, z4, z5⟩, y9, z6, z7, z8, z9, z10⟩ := hz
        go_simp
      try simp only [qA, qB, qC, Act.put, qD, qE, qF]
      refine wpAnyH_ready (rs := [6]) (by kernel_rfl) (by simp) ?_
      refine AllReadyH.cons rfl (fun K hK => ?_) AllReadyH.nil
      go_simp
      refine (l1Own _ (st.take m) _ (IntR.take (ownK_read HP.out.row (by have := HLN.out.1; omega)) j3) (by rw [List.length_take]; have := HLN.out.1; omega)).mono ?_
      rintro e v10 ⟨y, rfl, hY, hb⟩
      have HP := Lib.hid (HP.out.below (hb))
      have HE := Lib.hid (HE.out.below (hb))
      have HR4 := Lib.hid (HR4.out.below (hb))
      obtain ⟨ya, yc, rfl, _, _⟩ := id hY
      obtain ⟨tk, hto⟩ : ∃ tk, st.take m = tk := ⟨_, rfl⟩
      have hlm : tk.length = m := by rw [← hto, List.length_take]; omega
      have hmo : tk.length ≤ 70 := by omega
      rw [hto, hlm] at hY
      try rw [hto]
      try rw [hlm]
      have HY := Lib.hid hY
      have HMO := Lib.hid hmo
      clear hmo hlm
      refine hK.out _ _ ⟨HP.out.t, _, HE.out⟩ (fun hS2 => ?_)
      clear hK K hb hY hS1 HO
      try simp only [qA, qB, qC, Act.put, qD, qE, qF]
      refine wpAnyH_take (i := 7) (v := .pointer (some ⟨d, 0, none⟩)) rfl (by kernel_rfl) (by kernel_rfl) (by kernel_rfl) (fun _ _ _ h => h) (Or.inl ⟨by rfl, fun z hz => ?_⟩) hS2 ?_
      · obtain ⟨⟨z1, z2, z3, z4, z5⟩, y9, z6, z7, z8, z9, z10⟩ := hz
        go_simp
      try simp only [qA, qB, qC, Act.put, qD, qE, qF]
      obtain ⟨e0, e1, e2, e3, e4⟩ := HE.out
      refine wpAnyH_ready (rs := [8]) (by kernel_rfl) (by simp) ?_
      refine AllReadyH.cons rfl (fun K hK => ?_) AllReadyH.nil
      go_simp
      have hset : Chg (fun k => k = d) v10 (v10.setCell ⟨d, 0, none⟩ (.slice ya m yc)) := (Chg.refl (fun k => k = d) v10).setCell (p := ⟨d, 0, none⟩) rfl _
      have HP7 := Lib.hid (HP.out.chg hset (fun k (e : k = d) => ⟨by omega, by omega, by omega, by omega, .inr (by omega), fun e2 => by have := HP.out.rb k e2; omega, by omega⟩) (HP.out.cur.set (g := d) (i := 0) (by omega) (by omega) _))
      have HR7 := Lib.hid (HR4.out.stand hset (by omega))
      have HO := Lib.hid (HY.out.stand intE_ok hset (fun k hb (e : k = d) => by have h1 := hb.1; omega))
      have HE7 := Lib.hid (show EnBx d (.slice ya m yc) tx (v10.setCell ⟨d, 0, none⟩ (.slice ya m yc)) from by
        obtain ⟨e0, e1, e2, e3, e4⟩ := HE.out
        exact ⟨by go_simp, by go_simp, by go_simp, by go_simp, by simpa [World.setCell] using e4⟩)
      refine hK.out _ _ ⟨HP7.out.t, _, HE7.out⟩ (fun hS3 => ?_)
      clear hK K hS2 hset HP HR4 HE HY e0 e1 e2 e3 e4
      have HP := HP7; have HR4 := HR7; have HE := HE7
      clear HP7 HR7 HE7
      try simp only [qA, qB, qC, Act.put, qD, qE, qF]
      refine wpAnyH_done (by kernel_rfl) ?_ _
      clear hS3
      have hmo := HMO.out
      have hv8 : lo ≤ v8.heap.size := by omega
      generalize v10.setCell ⟨d, 0, none⟩ (.slice ya m yc) = v11 at *
      obtain ⟨x0, x1, x2⟩ := HP.out.d
      obtain ⟨t0, t1, t2, t3, t4⟩ := HP.out.t
      obtain ⟨r0, r1, r2⟩ := HP.out.r2
      obtain ⟨q0, q1, q2, q3, q4⟩ := HP.out.r3
      obtain ⟨e0, e1, e2, e3, e4⟩ := HE.out
      obtain ⟨s0, s1, s2, s3, s4⟩ := HR4.out
      have hset : Chg (fun k => k = w.heap.size ∨ k = w.heap.size + 1 ∨ k = w.heap.size + 2) v11 (((((v11.setCell ⟨w.heap.size, 0, none⟩ (.slice ua l.length uc)).setCell ⟨w.heap.size + 1, 0, none⟩ (.slice va st.length vc)).setCell ⟨w.heap.size + 1, 1, none⟩ (.string (S sc))).setCell ⟨w.heap.size + 2, 0, none⟩ (.slice ya m yc)).setCell ⟨w.heap.size + 2, 1, none⟩ (.string (S tx))).drew := ((((((Chg.refl _ v11).setCell (p := ⟨w.heap.size, 0, none⟩) (.inl rfl) _).setCell (p := ⟨w.heap.size + 1, 0, none⟩) (.inr (.inl rfl)) _).setCell (p := ⟨w.heap.size + 1, 1, none⟩) (.inr (.inl rfl)) _).setCell (p := ⟨w.heap.size + 2, 0, none⟩) (.inr (.inr rfl)) _).setCell (p := ⟨w.heap.size + 2, 1, none⟩) (.inr (.inr rfl)) _).trans (Below.chg (Below.refl _ _).drew _)
      have HEN := Lib.hid (show EntR (((((v11.setCell ⟨w.heap.size, 0, none⟩ (.slice ua l.length uc)).setCell ⟨w.heap.size + 1, 0, none⟩ (.slice va st.length vc)).setCell ⟨w.heap.size + 1, 1, none⟩ (.string (S sc))).setCell ⟨w.heap.size + 2, 0, none⟩ (.slice ya m yc)).setCell ⟨w.heap.size + 2, 1, none⟩ (.string (S tx))).drew (.slice ua l.length uc) l from (HP.out.rd.chg hset (fun k h1 h2 e => by rcases e with e | e | e <;> omega)).now)
      have HIN := Lib.hid (show IntR (((((v11.setCell ⟨w.heap.size, 0, none⟩ (.slice ua l.length uc)).setCell ⟨w.heap.size + 1, 0, none⟩ (.slice va st.length vc)).setCell ⟨w.heap.size + 1, 1, none⟩ (.string (S sc))).setCell ⟨w.heap.size + 2, 0, none⟩ (.slice ya m yc)).setCell ⟨w.heap.size + 2, 1, none⟩ (.string (S tx))).drew (.slice va st.length vc) st from ownK_read (owns_stand HP.out.row hset (fun k hk e => by have := (World.ownsRow.lt HP.out.row k hk).1; rcases e with e | e | e <;> omega)) (by have := HLN.out.1; omega))
      have HON := Lib.hid (show IntR (((((v11.setCell ⟨w.heap.size, 0, none⟩ (.slice ua l.length uc)).setCell ⟨w.heap.size + 1, 0, none⟩ (.slice va st.length vc)).setCell ⟨w.heap.size + 1, 1, none⟩ (.string (S sc))).setCell ⟨w.heap.size + 2, 0, none⟩ (.slice ya m yc)).setCell ⟨w.heap.size + 2, 1, none⟩ (.string (S tx))).drew (.slice ya m yc) tk from Ints.read (HO.out.stand intE_ok hset (fun k hb e => by have h1 := hb.1; rcases e with e | e | e <;> omega)))
      have HBL := Lib.hid (show Below w.heap.size w (((((v11.setCell ⟨w.heap.size, 0, none⟩ (.slice ua l.length uc)).setCell ⟨w.heap.size + 1, 0, none⟩ (.slice va st.length vc)).setCell ⟨w.heap.size + 1, 1, none⟩ (.string (S sc))).setCell ⟨w.heap.size + 2, 0, none⟩ (.slice ya m yc)).setCell ⟨w.heap.size + 2, 1, none⟩ (.string (S tx))).drew from Chg.belowB HP.out.bel hset HP.out.bel.size (fun k e => by rcases e with e | e | e <;> omega))
      clear hset
      go_wp2
      go_region
      go_wp2
      refine bodyPost_ret (v := .tuple #[.agg #[(.slice ua l.length uc)], transV (.slice va st.length vc) sc, .agg #[(.slice ya m yc), .string (S tx)]]) (by simp [transV, results, Tryz.results20, go_sem, r0, q1, q2, s0, s1]) rfl ⟨l, _, st, _, sc, tk, _, tx, rfl, HDR.out, HEN.out, HIN.out, HON.out, HLN.out.1, HLN.out.2, hmo, HTX.out, HBL.out⟩
  · have i1 : ¬ (1 : Int) < (st.length : Int) := by omega
    clear t0
    obtain ⟨x0, x1, x2⟩ := HP.out.d
    obtain ⟨t0, t1, t2, t3, t4⟩ := HP.out.t
    obtain ⟨r0, r1, r2⟩ := HP.out.r2
    obtain ⟨q0, q1, q2, q3, q4⟩ := HP.out.r3
    obtain ⟨e0, e1, e2, e3, e4⟩ := HE.out
    obtain ⟨s0, s1, s2, s3, s4⟩ := HR4.out
    have hset : Chg (fun k => k = w.heap.size ∨ k = w.heap.size + 1 ∨ k = w.heap.size + 2) v5 (((((v5.setCell ⟨w.heap.size, 0, none⟩ (.slice ua l.length uc)).setCell ⟨w.heap.size + 1, 0, none⟩ (.slice va st.length vc)).setCell ⟨w.heap.size + 1, 1, none⟩ (.string (S sc))).setCell ⟨w.heap.size + 2, 0, none⟩ (.slice xa o.length xc)).setCell ⟨w.heap.size + 2, 1, none⟩ (.string (S tx))).drew := ((((((Chg.refl _ v5).setCell (p := ⟨w.heap.size, 0, none⟩) (.inl rfl) _).setCell (p := ⟨w.heap.size + 1, 0, none⟩) (.inr (.inl rfl)) _).setCell (p := ⟨w.heap.size + 1, 1, none⟩) (.inr (.inl rfl)) _).setCell (p := ⟨w.heap.size + 2, 0, none⟩) (.inr (.inr rfl)) _).setCell (p := ⟨w.heap.size + 2, 1, none⟩) (.inr (.inr rfl)) _).trans (Below.chg (Below.refl _ _).drew _)
    have HEN := Lib.hid (show EntR (((((v5.setCell ⟨w.heap.size, 0, none⟩ (.slice ua l.length uc)).setCell ⟨w.heap.size + 1, 0, none⟩ (.slice va st.length vc)).setCell ⟨w.heap.size + 1, 1, none⟩ (.string (S sc))).setCell ⟨w.heap.size + 2, 0, none⟩ (.slice xa o.length xc)).setCell ⟨w.heap.size + 2, 1, none⟩ (.string (S tx))).drew (.slice ua l.length uc) l from (HP.out.rd.chg hset (fun k h1 h2 e => by rcases e with e | e | e <;> omega)).now)
    have HIN := Lib.hid (show IntR (((((v5.setCell ⟨w.heap.size, 0, none⟩ (.slice ua l.length uc)).setCell ⟨w.heap.size + 1, 0, none⟩ (.slice va st.length vc)).setCell ⟨w.heap.size + 1, 1, none⟩ (.string (S sc))).setCell ⟨w.heap.size + 2, 0, none⟩ (.slice xa o.length xc)).setCell ⟨w.heap.size + 2, 1, none⟩ (.string (S tx))).drew (.slice va st.length vc) st from ownK_read (owns_stand HP.out.row hset (fun k hk e => by have := (World.ownsRow.lt HP.out.row k hk).1; rcases e with e | e | e <;> omega)) (by have := HLN.out.1; omega))
    have HON := Lib.hid (show IntR (((((v5.setCell ⟨w.heap.size, 0, none⟩ (.slice ua l.length uc)).setCell ⟨w.heap.size + 1, 0, none⟩ (.slice va st.length vc)).setCell ⟨w.heap.size + 1, 1, none⟩ (.string (S sc))).setCell ⟨w.heap.size + 2, 0, none⟩ (.slice xa o.length xc)).setCell ⟨w.heap.size + 2, 1, none⟩ (.string (S tx))).drew (.slice xa o.length xc) o from Ints.read (HO.out.stand intE_ok hset (fun k hb e => by have h1 := hb.1; rcases e with e | e | e <;> omega)))
    have HBL := Lib.hid (show Below w.heap.size w (((((v5.setCell ⟨w.heap.size, 0, none⟩ (.slice ua l.length uc)).setCell ⟨w.heap.size + 1, 0, none⟩ (.slice va st.length vc)).setCell ⟨w.heap.size + 1, 1, none⟩ (.string (S sc))).setCell ⟨w.heap.size + 2, 0, none⟩ (.slice xa o.length xc)).setCell ⟨w.heap.size + 2, 1, none⟩ (.string (S tx))).drew from Chg.belowB HP.out.bel hset HP.out.bel.size (fun k e => by rcases e with e | e | e <;> omega))
    clear hset
    go_wp2
    go_region
    go_wp2
    refine bodyPost_ret (v := .tuple #[.agg #[(.slice ua l.length uc)], transV (.slice va st.length vc) sc, .agg #[(.slice xa o.length xc), .string (S tx)]]) (by simp [transV, results, Tryz.results20, go_sem, r0, q1, q2, s0, s1]) rfl ⟨l, _, st, _, sc, o, _, tx, rfl, HDR.out, HEN.out, HIN.out, HON.out, HLN.out.1, HLN.out.2, by omega, HTX.out, HBL.out⟩
end Go.Proofs.YtmlklnimoknojaaGreatDoor
namespace Go.Proofs.YtmlklnimoknojaaGreatDoor
open Go Go.RowKit
set_option maxRecDepth 100000
end Go.Proofs.YtmlklnimoknojaaGreatDoor
namespace Go.Proofs.YtmlklnimoknojaaGreatDoor
namespace P
theorem trans_len {d : Dic} {t : Tr} (h : trans d t = true) : t.1.length ≤ 60 ∧ t.2.length ≤ 2000 := by
  obtain ⟨h1, _, _⟩ := trans_parts h
  refine ⟨?_, screen_len (trans_screen h)⟩
  have h2 : slist t.1 = true := by
    unfold scr at h1
    cases hq : slist t.1
    · rw [hq] at h1
      simp at h1
    · rfl
  exact slist_len h2
end P
open Go Go.RowKit
set_option maxHeartbeats 4000000
set_option maxRecDepth 100000
end Go.Proofs.YtmlklnimoknojaaGreatDoor
