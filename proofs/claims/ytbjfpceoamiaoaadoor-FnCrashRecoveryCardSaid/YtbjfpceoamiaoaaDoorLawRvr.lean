/- Walk: the law of recovery after a crash. -/
import Derived.Deep.DeepCutAuto
import Derived.Deep.RegionLaw
import Derived.Test.YtbjfpceoamiaoaaDoorLawLines
import Derived.Test.YtbjfpceoamiaoaaDoorPlainRvr2
import Derived.Test.YtbjfpceoamiaoaaDoorLog11
namespace Go.Proofs.YtbjfpceoamiaoaaDoor
namespace P
/-- what recovery hands out, and the records of its log -/
theorem recover_of {s : Bs} (hs : s.length ≤ 30000) : recover s = (s.take (openLog s).2, ((openLog s).1.length : Int), ((openLog s).2 : Int), true) ∧ recordsOk (s.take (openLog s).2) [] ((openLog s).1.length : Int) = true ∧ recsI (s.take (openLog s).2) [] ((openLog s).1.length : Int) = (openLog s).1 := by
  have h1 : recover s = (s.take (openLog s).2, ((openLog s).1.length : Int), ((openLog s).2 : Int), true) := by unfold recover; rw [if_pos hs]
  have hv := take_valid s hs
  refine ⟨h1, (records_valid _ _ _).trans hv, ?_⟩
  unfold recsI
  rw [records_valid, hv, List.append_nil]
  rw [openLog_eq]
  exact congrArg Prod.fst (read_take s)
end P
open Go Go.RowKit
set_option maxHeartbeats 2000000
set_option maxRecDepth 100000
theorem Go1.drewN {w v : World} {cv : Value} (h : Go1 w cv v) (k : Nat) : Go1 w cv (v.drewN k) := h.step (below_drewN (Below.refl _ _) k)
theorem RowR.at {ad : Option Addr} {n cap g : Nat} {l : List (Str × Str)} {v : World} (h : RowR (.slice ad n cap) g l v) (j : Nat) (hj : j < l.length) :
    ad = some ⟨g, 0, none⟩ ∧ g < v.heap.size ∧ v.cell? ⟨g, j * 2, none⟩ = some (.string (S (l[j]'hj).1)) ∧ v.cell? ⟨g, j * 2 + 1, none⟩ = some (.string (S (l[j]'hj).2)) := by
  obtain ⟨ad', cap', he, _, hr⟩ := h
  injection he with h1 h2 h3
  rcases hr with hr | ⟨h4, h5, h6⟩
  · rw [hr] at hj; exact absurd hj (Nat.not_lt_zero _)
  · exact ⟨h1.trans h4, h5, (h6 j hj).1, (h6 j hj).2.1⟩
theorem law_recovery (cv : Value) (w : World) (hc : CodeAny w cv) (hE : Env w) :
    Calls Tryd.prog 9 #[cv] w fun e w' => e = .returned (.bool true) ∧ Below w.heap.size w w' := by
  obtain ⟨ad, n, cap, rfl, hn, hcc⟩ := hc
  by_cases hbig : 65536 < n
  · go_enter Tryd.func9, Tryd.ntmps9
    go_wp2_with fail
    refine (vBig _ n ad cap rfl hn _).mono ?_
    rintro e w' ⟨rfl, rfl⟩
    rw [decide_eq_true hbig]
    go_wp2
    go_ret
    exact ⟨rfl, Below.refl _ _⟩
  · have G0 := Go1.start hE (cv := .slice ad n cap) ⟨ad, n, cap, rfl, by omega, hcc⟩
    clear hE hcc
    go_enter Tryd.func9, Tryd.ntmps9
    go_wp2_with fail
    refine (vBig _ n ad cap rfl hn _).mono ?_
    rintro e w' ⟨rfl, rfl⟩
    rw [decide_eq_false hbig]
    go_wp2_with fail
    refine (drawCrashLog _ _ G0.2.2.1 G0.2.1).mono ?_
    rintro e w1 ⟨d, p, m, k, b, hd, hp, hk0, hk1, rfl, hb⟩
    have G1 := (G0.step hb).alloc (.cells #[.string (S d), .string (S p), .int .i64 m] 27)
    have B1 := Box3.fresh w1 d p m 27
    clear G0 hb
    have hd2 : d.length ≤ 2 ^ 20 := by omega
    have hp2 : p.length ≤ 2 ^ 20 := by omega
    have HN := Lib.hid (fun h => P.crash_not (d := d) (p := p) (n := m) (keep := k) (t := b) h)
    have HL := Lib.hid (fun h => P.crash_law (d := d) (p := p) (n := m) (keep := k) (t := b) h)
    have HQ := Lib.hid (P.crash_eq d p m k b)
    go_wp2_with fail
    refine (impl_crashLog _ _ _ _ _ _ hd2 hp2 G1.2.1).mono ?_
    rintro e w2 ⟨rfl, hb⟩
    rw [HQ.out]
    clear HQ
    generalize hX : P.crashLog d p m k b = X at *
    obtain ⟨s, ok⟩ := X
    have HX := Lib.hid hX; clear hX
    have G2 := G1.step hb
    have B2 := B1.below hb
    clear hb G1 B1
    have HB2 := Lib.hid B2
    obtain ⟨y0, y1, y2, _, _, _, y6⟩ := B2
    go_wp2_with fail
    refine (spec_crashLog _ _ _ _ _ _ hd2 hp2).mono ?_
    rintro e w3 ⟨rfl, hb⟩
    rw [HX.out]
    clear HX
    have G3 := G2.step hb
    have HB3 := Lib.hid (HB2.out.below hb)
    clear hb G2 HB2 y0 y1 y2 y6
    obtain ⟨y0, y1, y2, _, _, _, y6⟩ := HB3.out
    cases ok
    · have hs := HN.out rfl
      subst hs
      go_wp2
      go_ret
      exact ⟨rfl, G3.1⟩
    · obtain ⟨hv, hsl, hde, l, hl⟩ := HL.out rfl
      clear HN HL
      have hsl' : s.length ≤ 30000 := hsl
      obtain ⟨hr1, hr2, hr3⟩ := P.recover_of hsl'
      have hle := P.openLog_le s
      have hde : d.length ≤ (P.openLog s).2 := hde
      have hl : P.recsS d p m = (P.openLog s).1 ++ l := hl
      clear hsl
      generalize hO : P.openLog s = O at *
      obtain ⟨all, e⟩ := O
      clear hO
      obtain ⟨hle1, hle2⟩ := hle
      simp only at hr1 hr2 hr3 hde hl hle1 hle2
      obtain ⟨t, ht⟩ : ∃ t, t = s.take e := ⟨_, rfl⟩
      have htl : t.length ≤ 30000 := by rw [ht, List.length_take]; omega
      rw [← ht] at hr1 hr2 hr3
      have HR1 := Lib.hid hr1; have HR2 := Lib.hid hr2; have HR3 := Lib.hid hr3; have HT := Lib.hid ht; have HLL := Lib.hid hl
      have hrl := P.recs_len d p m
      have HV := Lib.hid hv
      clear hr1 hr2 hr3 ht hv
      obtain ⟨old, hold⟩ : ∃ old, old = all ++ l := ⟨_, rfl⟩
      have hol : old.length = all.length + l.length := by rw [hold, List.length_append]
      have hget : ∀ (j : Nat) (h : j < all.length), old[j]'(by omega) = all[j] := by
        intro j h
        subst hold
        exact List.getElem_append_left h
      have HGET := Lib.hid hget; clear hget
      rw [hl, ← hold] at hrl
      rw [← hold] at HLL
      clear hl hold
      go_wp2_with fail
      refine (impl_recover _ _ (by omega) G3.2.1).mono ?_
      rintro e' w4 ⟨rfl, hb⟩
      rw [HR1.out]
      clear HR1
      have G4 := (G3.step hb).alloc (.cells #[.string (S t), .string (S []), .int .i64 (all.length : Int)] 27)
      have HB4 := Lib.hid ((HB3.out.below hb).alloc (.cells #[.string (S t), .string (S []), .int .i64 (all.length : Int)] 27))
      have HM4 := Lib.hid (Box3.fresh w4 t [] (all.length : Int) 27)
      clear hb G3 HB3 y0 y1 y2 y6
      go_wp2_with fail
      refine (impl_records _ _ _ _ (by omega) (by decide) G4.2.1).mono ?_
      rintro e' w5 ⟨u, rfl, hown, hb⟩
      rw [HR2.out]
      rw [HR3.out] at hown
      clear HR3
      have G5 := G4.step hb
      have HB5 := Lib.hid (HB4.out.below hb)
      have HM5 := Lib.hid (HM4.out.below hb)
      clear hb G4 HB4 HM4
      obtain ⟨g, hrow, _⟩ := own_row hown (by omega)
      clear hown
      obtain ⟨y0, y1, y2, _, _, _, y6⟩ := HB5.out
      go_wp2_with fail
      refine (spec_records _ _ _ _ hd2 hp2).mono ?_
      rintro e' w6 ⟨u', rfl, hown, hb⟩
      rw [HV.out]
      rw [HLL.out] at hown
      clear HV HLL
      have G6 := G5.step hb
      have HB6 := Lib.hid (HB5.out.below hb)
      have HM6 := Lib.hid (HM5.out.below hb)
      have HU6 := Lib.hid (hrow.carry hb)
      clear hb G5 HB5 HM5 hrow y0 y1 y2 y6
      obtain ⟨g', hrow', _⟩ := own_row hown (by omega)
      clear hown
      have HW6 := Lib.hid hrow'
      obtain ⟨y0, y1, y2, _, _, _, y6⟩ := HB6.out
      obtain ⟨a0, ca, rfl, hl1, hra⟩ := HU6.out
      obtain ⟨a1, cb, rfl, hl2, hrb⟩ := hrow'
      clear hra hrb
      have c1 : ¬ (s.length : Int) < (e : Int) := by omega
      have c2 : ¬ (e : Int) < (d.length : Int) := by omega
      have c3 : ¬ (old.length : Int) < (all.length : Int) := by omega
      go_wp2_with fail
      go_loopw [17] (fun i wr => ∃ j : Nat, j ≤ all.length ∧ i = .int .i64 j ∧ Go1 w (.slice ad n cap) wr ∧ Box3 wr w4.heap.size t [] (all.length : Int) ∧ RowR (.slice a0 all.length ca) g all wr ∧ RowR (.slice a1 old.length cb) g' old wr) (fun i _ => all.length - (intOf i).toNat)
      case atStart => exact ⟨0, Nat.zero_le _, rfl, G6, HM6.out, HU6.out, HW6.out⟩
      case round =>
        obtain ⟨j, hj, rfl, G7, M7, U7, W7⟩ := hrel
        clear G6 HM6 HU6 HW6 y0 y1 y2 y6
        by_cases hlt : j < all.length
        · obtain ⟨u1, u2, u3, u4⟩ := U7.at j hlt
          obtain ⟨x1, x2, x3, x4⟩ := W7.at j (by omega)
          rw [HGET.out j hlt] at x3 x4
          generalize all[j] = en at *
          obtain ⟨ec, er⟩ := en
          subst u1 x1
          have i1 : (j : Int) < (all.length : Int) := by omega
          have i2 : (j : Int) < (old.length : Int) := by omega
          have GU := Lib.hid U7; have GW := Lib.hid W7; have GM := Lib.hid M7
          clear U7 W7 M7
          simp only at u3 u4 x3 x4
          go_wp2_with fail
          go_quiet (fail)
          go_wp2
          go_roundw
          case rel => exact ⟨j + 1, by omega, by go_num, G7.drewN _, GM.out.below (below_drewN (Below.refl _ _) _), GU.out.carry (below_drewN (Below.refl _ _) _), GW.out.carry (below_drewN (Below.refl _ _) _)⟩
          case measure => simp [intOf]; omega
        · obtain rfl : j = all.length := by omega
          clear hlt U7 W7
          have ht := HT.out
          clear HT
          subst ht
          have GM := Lib.hid M7
          obtain ⟨y0, y1, y2, _, _, _, y6⟩ := M7
          go_upto_region 20 with fail
          have GD := G7.step (Below.refl wr.heap.size wr).drew
          have MD := Lib.hid (GM.out.below (Below.refl wr.heap.size wr).drew)
          have htl2 : (s.take e).length ≤ 2 ^ 20 := by omega
          clear GM
          go_region_law ((go_simp; go_at_call 33; refine (isValidLog _ _ _ _ htl2 (by decide) GD.2.1).mono ?_; rintro e' v ⟨rfl, hb⟩; rw [HR2.out]; have GE := GD.step hb; have ME := MD.out.below hb; clear hb y0 y1 y2 y6; obtain ⟨y0, y1, y2, _, _, _, y6⟩ := ME))
          all_goals
            go_wp2
            go_ret
            exact ⟨rfl, GE.1⟩
end Go.Proofs.YtbjfpceoamiaoaaDoor
