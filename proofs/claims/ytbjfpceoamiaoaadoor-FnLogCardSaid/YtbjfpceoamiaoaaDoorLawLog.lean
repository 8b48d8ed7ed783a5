/- Walk: the law of appended records. -/
import Derived.Deep.DeepCutAuto
import Derived.Deep.RegionLaw
import Derived.StillTailTactics
import Derived.Test.YtbjfpceoamiaoaaDoorLawRvr
namespace Go.Proofs.YtbjfpceoamiaoaaDoor
open Go Go.RowKit
set_option maxHeartbeats 4000000
set_option maxRecDepth 100000
/-- the law's boxes: the log, the record, and both new logs -/
def LG (w : World) (cv : Value) (L E M W : Nat) (d p x c r : Str) (m z : Int) (v : World) : Prop :=
  Go1 w cv v ∧ Box3 v L d p m ∧ Box2 v E c r ∧ Box3 v M d x z ∧ Box3 v W d x z
section
variable {w v v' : World} {cv : Value} {L E M W : Nat} {d p x c r : Str} {m z : Int}
theorem LG.step (h : LG w cv L E M W d p x c r m z v) (hb : Below v.heap.size v v') : LG w cv L E M W d p x c r m z v' :=
  ⟨h.1.step hb, h.2.1.below hb, h.2.2.1.below hb, h.2.2.2.1.below hb, h.2.2.2.2.below hb⟩
theorem LG.drew (h : LG w cv L E M W d p x c r m z v) : LG w cv L E M W d p x c r m z v.drew := h.step (Below.refl _ _).drew
theorem LG.parts (h : LG w cv L E M W d p x c r m z v) : Go1 w cv v ∧ Box3 v L d p m ∧ Box2 v E c r ∧ Box3 v M d x z ∧ Box3 v W d x z := h
theorem LG.env (h : LG w cv L E M W d p x c r m z v) : Env v := h.1.2.1
end
attribute [local irreducible] LG
theorem law_log (cv : Value) (w : World) (hc : CodeAny w cv) (hE : Env w) :
    Calls Tryd.prog 8 #[cv] w fun e w' => e = .returned (.bool true) ∧ Below w.heap.size w w' := by
  obtain ⟨ad, n, cap, rfl, hn, hcc⟩ := hc
  by_cases hbig : 65536 < n
  · go_enter Tryd.func8, Tryd.ntmps8
    go_wp2_with fail
    refine (vBig _ n ad cap rfl hn _).mono ?_
    rintro e w' ⟨rfl, rfl⟩
    rw [decide_eq_true hbig]
    go_wp2
    go_ret
    exact ⟨rfl, Below.refl _ _⟩
  · have G0 := Go1.start hE (cv := .slice ad n cap) ⟨ad, n, cap, rfl, by omega, hcc⟩
    clear hE hcc
    go_enter Tryd.func8, Tryd.ntmps8
    go_wp2_with fail
    refine (vBig _ n ad cap rfl hn _).mono ?_
    rintro e w' ⟨rfl, rfl⟩
    rw [decide_eq_false hbig]
    go_wp2_with fail
    refine (drawAppendRecord _ _ G0.2.2.1 G0.2.1).mono ?_
    rintro e w1 ⟨d, p, m, c, r, hd, hp, hcl, hrl, rfl, hb⟩
    have G1 := ((G0.step hb).alloc (.cells #[.string (S d), .string (S p), .int .i64 m] 27)).alloc (.cells #[.string (S c), .string (S r)] 39)
    have BL1 := (Box3.fresh w1 d p m 27).alloc (.cells #[.string (S c), .string (S r)] 39)
    have BE1 := Box2.fresh (w1.alloc (.cells #[.string (S d), .string (S p), .int .i64 m] 27)) c r 39
    simp only [World.size_alloc] at BE1
    clear G0 hb
    have hd2 : d.length ≤ 2 ^ 20 := by omega
    have hp2 : p.length ≤ 2 ^ 20 := by omega
    have hc2 : c.length ≤ 2 ^ 20 := by omega
    have hr2 : r.length ≤ 2 ^ 20 := by omega
    have HQ := Lib.hid (P.app_eq d p m c r)
    have HCO := Lib.hid (P.app_co d p m c r)
    have HN := Lib.hid (fun h => P.app_not (d := d) (p := p) (n := m) (c := c) (r := r) h)
    have HY := Lib.hid (fun h => P.app_law (d := d) (p := p) (n := m) (c := c) (r := r) h)
    go_wp2_with fail
    refine (impl_append _ _ _ _ _ _ hd2 hp2 hc2 hr2 G1.2.1).mono ?_
    rintro e w2 ⟨rfl, hb⟩
    rw [HQ.out]
    clear HQ
    generalize hX : P.appS d p m c r = X at *
    obtain ⟨x, z, co⟩ := X
    have HX := Lib.hid hX; clear hX
    have G2 := (G1.step hb).alloc (.cells #[.string (S d), .string (S x), .int .i64 z] 27)
    have BL2 := (BL1.below hb).alloc (.cells #[.string (S d), .string (S x), .int .i64 z] 27)
    have BE2 := (BE1.below hb).alloc (.cells #[.string (S d), .string (S x), .int .i64 z] 27)
    have BM2 := Box3.fresh w2 d x z 27
    clear hb G1 BL1 BE1
    have HBL := Lib.hid BL2; have HBE := Lib.hid BE2
    obtain ⟨y0, y1, y2, _, _, _, y6⟩ := BL2
    obtain ⟨q0, q1, _, _, q4⟩ := BE2
    go_wp2_with fail
    refine (spec_append _ _ _ _ _ _ hd2 hp2 hc2 hr2 G2.2.1).mono ?_
    rintro e w3 ⟨rfl, hb⟩
    rw [HX.out]
    clear HX
    have A0 : LG w (.slice ad n cap) w1.heap.size (w1.heap.size + 1) w2.heap.size w3.heap.size d p x c r m z (w3.alloc (.cells #[.string (S d), .string (S x), .int .i64 z] 27)) := by
      unfold LG
      exact ⟨(G2.step hb).alloc _, (HBL.out.below hb).alloc _, (HBE.out.below hb).alloc _, (BM2.below hb).alloc _, Box3.fresh _ _ _ _ _⟩
    clear hb G2 HBL HBE BM2 y0 y1 y2 y6 q0 q1 q4
    have hvv := P.records_valid d p m
    generalize hvb : P.validLog d p m = vb at *
    have HV2 := Lib.hid hvb; clear hvb
    have HV1 := Lib.hid hvv; clear hvv
    have HG := Lib.hid (P.vrec_good c r)
    go_upto_region 6 with fail
    go_cut [59] (fun b wx => b = .bool false ∧ LG w (.slice ad n cap) w1.heap.size (w1.heap.size + 1) w2.heap.size w3.heap.size d p x c r m z wx)
    case first =>
      have A1 := A0.drew
      obtain ⟨_, ⟨y0, y1, y2, _, _, _, y6⟩, ⟨q0, q1, _, _, q4⟩, ⟨m0, m1, m2, _, _, _, m6⟩, ⟨n0, n1, n2, _, _, _, n6⟩⟩ := A1.parts
      go_region_law ((go_simp; (first | (go_at_call 33; refine (isValidLog _ _ _ _ hd2 hp2 (LG.env (by assumption))).mono ?_; rintro e v ⟨rfl, hb⟩; rw [HV1.out]) | (go_at_call 35; refine (spec_isValidLog _ _ _ _ hd2 hp2).mono ?_; rintro e v ⟨rfl, hb⟩; rw [HV2.out]) | (go_at_call 36; refine (isValidRecord _ _ _ (by omega) (by omega)).mono ?_; rintro e v ⟨rfl, hb⟩; rw [HG.out]) | (go_at_call 37; refine (spec_isValidRecord _ _ _ hc2 hr2).mono ?_; rintro e v ⟨rfl, hb⟩)); have A5 := LG.step (by assumption) hb; clear hb y0 y1 y2 y6 q0 q1 q4 m0 m1 m2 m6 n0 n1 n2 n6; obtain ⟨_, ⟨y0, y1, y2, _, _, _, y6⟩, ⟨q0, q1, _, _, q4⟩, ⟨m0, m1, m2, _, _, _, m6⟩, ⟨n0, n1, n2, _, _, _, n6⟩⟩ := LG.parts A5))
      all_goals
        go_wp2_with fail
        go_meet
        exact ⟨rfl, by assumption⟩
    case rest =>
      obtain ⟨rfl, A2⟩ := hcut
      clear A0
      obtain ⟨G2, BL, BE, BM, BW⟩ := A2.parts
      clear A2
      have HBL := Lib.hid BL; have HBE := Lib.hid BE; have HBM := Lib.hid BM
      obtain ⟨y0, y1, y2, _, _, _, y6⟩ := BL
      obtain ⟨m0, m1, m2, _, _, _, m6⟩ := BM
      clear BE BW
      by_cases hco : co = 0
      · subst hco
        obtain ⟨hv, hv2, hrec, hz, hrecov, hsync⟩ := HY.out rfl
        have hv' : vb = true := hv
        subst hv'
        have hxl := (P.valid_n hv2).2.2
        have hx2 : x.length ≤ 30000 := by have h : d.length + x.length ≤ 30000 := hxl; omega
        have hol : (P.recsI d p m).length ≤ 59 := by
          have h1 : (P.recsI d x z).length ≤ 60 := by rw [P.recs_eq]; exact P.recs_len d x z
          rw [show P.recsI d x z = _ from hrec, List.length_append] at h1
          have h2 : ([(c, r)] : List (Str × Str)).length = 1 := rfl
          omega
        have HR := Lib.hid (show P.recsI d x z = P.recsI d p m ++ [(c, r)] from hrec)
        have hz' : z = ((P.recsI d p m).length : Int) + 1 := hz
        have HV2' := Lib.hid ((P.records_valid d x z).trans hv2)
        have HS := Lib.hid (show P.syncI d x z = (d ++ x, z, true) from hsync)
        have HRV := Lib.hid (show P.recover (d ++ x) = (d ++ x, z, ((d ++ x).length : Int), true) from hrecov)
        clear HY HN HCO hv hv2 hrec hz hrecov hsync hxl
        subst hz'
        generalize hold : P.recsI d p m = old at *
        have HO := Lib.hid hold; clear hold
        obtain ⟨al, hal⟩ : ∃ al, al = old ++ [(c, r)] := ⟨_, rfl⟩
        rw [← hal] at HR
        have hall : al.length = old.length + 1 := by rw [hal, List.length_append]; rfl
        have HAL := Lib.hid hal; clear hal
        go_wp2_with fail
        refine (impl_records _ _ _ _ hd2 (by omega) G2.2.1).mono ?_
        rintro e w5 ⟨u, rfl, hown, hb⟩
        rw [HV2'.out]
        rw [HR.out] at hown
        clear HR
        have G5 := G2.step hb
        have HBL5 := Lib.hid (HBL.out.below hb)
        have HBM5 := Lib.hid (HBM.out.below hb)
        have HBE5 := Lib.hid (HBE.out.below hb)
        clear hb G2 HBL HBM HBE y0 y1 y2 y6 m0 m1 m2 m6
        obtain ⟨g, hrow, _⟩ := own_row hown (by omega)
        clear hown
        obtain ⟨y0, y1, y2, _, _, _, y6⟩ := HBL5.out
        go_wp2_with fail
        refine (impl_records _ _ _ _ hd2 hp2 G5.2.1).mono ?_
        rintro e w6 ⟨u', rfl, hown, hb⟩
        rw [HV1.out]
        rw [HO.out] at hown
        clear HO
        have G6 := G5.step hb
        have HBM6 := Lib.hid (HBM5.out.below hb)
        have HBE6 := Lib.hid (HBE5.out.below hb)
        have HU6 := Lib.hid (hrow.carry hb)
        clear hb G5 HBL5 HBM5 HBE5 hrow y0 y1 y2 y6
        obtain ⟨g', hrow', _⟩ := own_row hown (by omega)
        clear hown
        have HW6 := Lib.hid hrow'
        clear hrow'
        obtain ⟨m0, m1, m2, _, _, _, m6⟩ := HBM6.out
        have f1 : ¬ 9223372036854775807 < d.length + x.length := by omega
        go_wp2_with fail
        refine (impl_recover _ _ (by simp; omega) G6.2.1).mono ?_
        rintro e w7 ⟨rfl, hb⟩
        rw [HRV.out]
        clear HRV
        have G7 := (G6.step hb).alloc (.cells #[.string (S (d ++ x)), .string (S []), .int .i64 ((old.length : Int) + 1)] 27)
        have HBM7 := Lib.hid ((HBM6.out.below hb).alloc (.cells #[.string (S (d ++ x)), .string (S []), .int .i64 ((old.length : Int) + 1)] 27))
        have HBE7 := Lib.hid ((HBE6.out.below hb).alloc (.cells #[.string (S (d ++ x)), .string (S []), .int .i64 ((old.length : Int) + 1)] 27))
        have HU7 := Lib.hid ((HU6.out.carry hb).carry ((Below.refl _ _).alloc (Nat.le_refl _) (.cells #[.string (S (d ++ x)), .string (S []), .int .i64 ((old.length : Int) + 1)] 27)))
        have HW7 := Lib.hid ((HW6.out.carry hb).carry ((Below.refl _ _).alloc (Nat.le_refl _) (.cells #[.string (S (d ++ x)), .string (S []), .int .i64 ((old.length : Int) + 1)] 27)))
        have HBK7 := Lib.hid (Box3.fresh w7 (d ++ x) [] ((old.length : Int) + 1) 27)
        clear hb G6 HBM6 HBE6 HU6 HW6 m0 m1 m2 m6
        obtain ⟨m0, m1, m2, _, _, _, m6⟩ := HBM7.out
        go_wp2_with fail
        refine (impl_syncLog _ _ _ _ hd2 (by omega) G7.2.1).mono ?_
        rintro e w8 ⟨rfl, hb⟩
        rw [HS.out]
        clear HS
        have hb2 := hb.trans ((Below.refl w8.heap.size w8).alloc (Nat.le_refl _) (.cells #[.string (S (d ++ x)), .string (S []), .int .i64 ((old.length : Int) + 1)] 27) |>.mono hb.size)
        have G8 := G7.step hb2
        have HBM8 := Lib.hid (HBM7.out.below hb2)
        have HBE8 := Lib.hid (HBE7.out.below hb2)
        have HBK8 := Lib.hid (HBK7.out.below hb2)
        have HU8 := Lib.hid (HU7.out.carry hb2)
        have HW8 := Lib.hid (HW7.out.carry hb2)
        have HBS8 := Lib.hid (Box3.fresh w8 (d ++ x) [] ((old.length : Int) + 1) 27)
        clear hb hb2 G7 HBM7 HBE7 HBK7 HU7 HW7 m0 m1 m2 m6
        obtain ⟨m0, m1, m2, _, _, _, m6⟩ := HBM8.out
        obtain ⟨a0, ca, rfl, hl1, hra⟩ := HU8.out
        obtain ⟨a1, cb, rfl, hl2, hrb⟩ := HW8.out
        clear hra hrb
        have c1 : (al.length : Int) = (old.length : Int) + 1 := by omega
        go_wp2_with fail
        go_loopw [18] (fun i wr => ∃ j : Nat, j ≤ old.length ∧ i = .int .i64 j ∧ Go1 w (.slice ad n cap) wr ∧ Box2 wr (w1.heap.size + 1) c r ∧ Box3 wr w2.heap.size d x ((old.length : Int) + 1) ∧ Box3 wr w7.heap.size (d ++ x) [] ((old.length : Int) + 1) ∧ Box3 wr w8.heap.size (d ++ x) [] ((old.length : Int) + 1) ∧ RowR (.slice a0 (old.length + 1) ca) g al wr ∧ RowR (.slice a1 old.length cb) g' old wr) (fun i _ => old.length - (intOf i).toNat)
        case atStart => exact ⟨0, Nat.zero_le _, rfl, G8, HBE8.out, HBM8.out, HBK8.out, HBS8.out, by have := HU8.out; rwa [hall] at this, HW8.out⟩
        case round =>
          obtain ⟨j, hj, rfl, G9, E9, M9, K9, S9, U9, W9⟩ := hrel
          clear G8 HBE8 HBM8 HBK8 HBS8 HU8 HW8 m0 m1 m2 m6
          have HE9 := Lib.hid E9; have HM9 := Lib.hid M9; have HK9 := Lib.hid K9; have HS9 := Lib.hid S9; have HU9 := Lib.hid U9; have HW9 := Lib.hid W9
          clear E9 M9 K9 S9 U9 W9
          by_cases hlt : j < old.length
          · obtain ⟨u1, u2, u3, u4⟩ := HU9.out.at j (by omega)
            obtain ⟨x1, x2, x3, x4⟩ := HW9.out.at j hlt
            have hget : al[j]'(by omega) = old[j] := by
              have hal := HAL.out
              subst hal
              exact List.getElem_append_left hlt
            rw [hget] at u3 u4
            clear hget
            generalize old[j] = en at *
            obtain ⟨ec, er⟩ := en
            subst u1 x1
            have i1 : (j : Int) < (old.length : Int) + 1 := by omega
            have i2 : (j : Int) < (old.length : Int) := by omega
            have i3 : j < old.length + 1 := by omega
            simp only at u3 u4 x3 x4
            go_wp2_with fail
            go_quiet (fail)
            go_wp2
            go_roundw
            case rel => exact ⟨j + 1, by omega, by go_num, G9.drewN _, HE9.out.below (below_drewN (Below.refl _ _) _), HM9.out.below (below_drewN (Below.refl _ _) _), HK9.out.below (below_drewN (Below.refl _ _) _), HS9.out.below (below_drewN (Below.refl _ _) _), HU9.out.carry (below_drewN (Below.refl _ _) _), HW9.out.carry (below_drewN (Below.refl _ _) _)⟩
            case measure => simp [intOf]; omega
          · obtain rfl : j = old.length := by omega
            obtain ⟨u1, u2, u3, u4⟩ := HU9.out.at old.length (by omega)
            have hget : al[old.length]'(by omega) = (c, r) := by
              have hal := HAL.out
              subst hal
              simp
            rw [hget] at u3 u4
            clear hget
            simp only at u3 u4
            subst u1
            obtain ⟨q0, q1, _, _, q4⟩ := HE9.out
            obtain ⟨m0, m1, m2, _, _, _, m6⟩ := HM9.out
            obtain ⟨k0, k1, k2, _, _, _, k6⟩ := HK9.out
            obtain ⟨s0, s1, s2, _, _, _, s6⟩ := HS9.out
            have i1 : (old.length : Int) < (old.length : Int) + 1 := by omega
            have i3 : old.length < old.length + 1 := by omega
            have G10 := G9.step (Below.refl wr.heap.size wr).drew
            go_upto_region 21 with fail
            go_still_tail 30, (by kernel_rfl)
            change wpList _ _ _ _ _ wr.drew
            generalize wr.drew = wd at *
            clear q0 q1 q4 m0 m1 m2 m6 k0 k1 k2 k6 s0 s1 s2 s6 u2 u3 u4
            go_wp2_with fail
            refine (isValidLog _ _ _ _ hd2 (by omega) G10.2.1).mono ?_
            rintro e' v ⟨rfl, hb⟩
            rw [HV2'.out]
            have G11 := G10.step hb
            clear hb
            go_wp2
            go_ret
            exact ⟨rfl, G11.1⟩
      · have hx : x = p := (HN.out hco).1
        have hz : z = m := (HN.out hco).2
        subst hx hz
        go_wp2
        go_ret
        exact ⟨rfl, G2.1⟩
end Go.Proofs.YtbjfpceoamiaoaaDoor
