/- Walk: the law of encoded lines and of recovery. -/
import Derived.Test.YtbjfpceoamiaoaaDoorEnc
import Derived.Test.YtbjfpceoamiaoaaDoorSync
import Derived.Test.YtbjfpceoamiaoaaDoorCodeOf
namespace Go.Proofs.YtbjfpceoamiaoaaDoor
open Go Go.RowKit
set_option maxHeartbeats 2000000
set_option maxRecDepth 100000
/-- what a law keeps from step to step -/
def Go1 (w : World) (cv : Value) (v : World) : Prop := Below w.heap.size w v ∧ Env v ∧ CodeIs v cv ∧ w.heap.size ≤ v.heap.size
theorem Go1.step {w v v' : World} {cv : Value} (h : Go1 w cv v) (hb : Below v.heap.size v v') : Go1 w cv v' := by
  obtain ⟨h1, h2, h3, h4⟩ := h
  exact ⟨h1.trans (hb.mono h4), h2.below hb h2.size, h3.below hb, Nat.le_trans h4 hb.size⟩
theorem Go1.alloc {w v : World} {cv : Value} (h : Go1 w cv v) (o : Obj) : Go1 w cv (v.alloc o) := h.step ((Below.refl _ _).alloc (Nat.le_refl _) o)
theorem Go1.start {w : World} {cv : Value} (hE : Env w) (hc : CodeIs w cv) : Go1 w cv w := ⟨Below.refl _ _, hE, hc, Nat.le_refl _⟩
theorem Box3.alloc {v : World} {G : Nat} {x y : Str} {z : Int} (h : Box3 v G x y z) (o : Obj) : Box3 (v.alloc o) G x y z := h.below ((Below.refl _ _).alloc (Nat.le_refl _) o)
theorem Box2.alloc {v : World} {G : Nat} {x y : Str} (h : Box2 v G x y) (o : Obj) : Box2 (v.alloc o) G x y := h.below ((Below.refl _ _).alloc (Nat.le_refl _) o)
theorem law_lines (cv : Value) (w : World) (hc : CodeAny w cv) (hE : Env w) :
    Calls Tryd.prog 7 #[cv] w fun e w' => e = .returned (.bool true) ∧ Below w.heap.size w w' := by
  obtain ⟨ad, n, cap, rfl, hn, hcc⟩ := hc
  by_cases hbig : 65536 < n
  · go_enter Tryd.func7, Tryd.ntmps7
    go_wp2_with fail
    refine (vBig _ n ad cap rfl hn _).mono ?_
    rintro e w' ⟨rfl, rfl⟩
    rw [decide_eq_true hbig]
    go_wp2
    go_ret
    exact ⟨rfl, Below.refl _ _⟩
  · have G0 := Go1.start hE (cv := .slice ad n cap) ⟨ad, n, cap, rfl, by omega, hcc⟩
    clear hE hcc
    go_enter Tryd.func7, Tryd.ntmps7
    go_wp2_with fail
    refine (vBig _ n ad cap rfl hn _).mono ?_
    rintro e w' ⟨rfl, rfl⟩
    rw [decide_eq_false hbig]
    go_wp2_with fail
    refine (drawEncodeRecord _ _ G0.2.2.1).mono ?_
    rintro e w1 ⟨k, c, r, hk0, hk1, hcl, hrl, rfl, hb⟩
    have G1 := (G0.step hb).alloc (.cells #[.string (S c), .string (S r)] 39)
    clear G0 hb
    have B1 := Box2.fresh w1 c r 39
    obtain ⟨q0, q1, _, _, q4⟩ := B1
    have HS := Lib.hid (P.enc_eq k c r)
    have HS1 := Lib.hid (P.enc_len k c r)
    have HS2 := Lib.hid (fun h => P.enc_bad (k := k) (c := c) (r := r) h)
    have HS3 := Lib.hid (fun h => P.enc_first (k := k) (c := c) (r := r) h)
    go_wp2_with fail
    refine (encodeRecord _ _ _ _ (by omega) (by omega) G1.2.1).mono ?_
    rintro e w2 ⟨rfl, hb⟩
    rw [HS.out]
    clear HS
    generalize hX : P.encS k c r = X at *
    obtain ⟨x, ok⟩ := X
    have HX := Lib.hid hX; clear hX
    have hxl : x.length ≤ 400 := HS1.out
    clear HS1
    have G2 := G1.step hb
    have B2 : Box2 w2 w1.heap.size c r := (Box2.fresh w1 c r 39).below hb
    clear hb G1 q0 q1 q4
    obtain ⟨q0, q1, _, _, q4⟩ := B2
    go_wp2_with fail
    refine (spec_encode _ _ _ _ (by omega) (by omega)).mono ?_
    rintro e w3 ⟨rfl, hb⟩
    rw [HX.out]
    clear HX
    have G3 := G2.step hb
    clear hb G2 q0 q1 q4
    go_wp2_with fail
    refine (drawRecoverLog _ _ G3.2.2.1 G3.2.1).mono ?_
    rintro e w4 ⟨t, htl, rfl, hb⟩
    have G4 := G3.step hb
    clear hb G3
    have HT := Lib.hid (P.recover_le t)
    have HT2 := Lib.hid (fun h => P.recover_fix t h)
    go_wp2_with fail
    refine (impl_recover _ _ (by omega) G4.2.1).mono ?_
    rintro e w5 ⟨rfl, hb⟩
    have G5 := G4.step hb
    clear hb G4
    generalize hR : P.recover t = R at *
    obtain ⟨md, mn, me, told⟩ := R
    have hml : md.length ≤ 30000 := HT.out
    have HR := Lib.hid hR; clear hR HT
    have G6 := G5.alloc (.cells #[.string (S md), .string (S []), .int .i64 mn] 27)
    have B6 := Box3.fresh w5 md [] mn 27
    clear G5
    obtain ⟨y0, y1, y2, _, _, _, y6⟩ := B6
    go_wp2_with fail
    refine (spec_recover _ _ (by omega)).mono ?_
    rintro e w7 ⟨rfl, hb⟩
    rw [HR.out]
    clear HR
    have B7 := (Box3.fresh w5 md [] mn 27).below hb
    have G7 := G6.step hb
    have G8 := G7.alloc (.cells #[.string (S md), .string (S []), .int .i64 mn] 27)
    have B8 := B7.alloc (.cells #[.string (S md), .string (S []), .int .i64 mn] 27)
    clear hb G6 G7 y0 y1 y2 y6
    obtain ⟨y0, y1, y2, _, _, _, y6⟩ := B7
    go_wp2_with fail
    refine (impl_recover _ _ (by omega) G8.2.1).mono ?_
    rintro e w9 ⟨rfl, hb⟩
    have G9 := G8.step hb
    have B9 := B8.below hb
    clear hb G8 B8 y0 y1 y2 y6
    generalize hZ : P.recover x = Z at *
    obtain ⟨xd, xn, xe, xt⟩ := Z
    clear hZ
    have G10 := G9.alloc (.cells #[.string (S xd), .string (S []), .int .i64 xn] 27)
    have B10 := B9.alloc (.cells #[.string (S xd), .string (S []), .int .i64 xn] 27)
    have B10' := Box3.fresh w9 xd [] xn 27
    clear G9 B9
    obtain ⟨y0, y1, y2, _, _, _, y6⟩ := B10
    obtain ⟨z0, z1, z2, _, _, _, z6⟩ := B10'
    have B10 : Box3 _ w5.heap.size md [] mn := ⟨y0, y1, y2, by assumption, by assumption, by assumption, y6⟩
    have HB10 := Lib.hid B10; clear B10
    cases ok
    case' false =>
      have hx := HS2.out rfl
      subst hx
      go_wp2_with fail
    case' true =>
      obtain ⟨hfi, hone⟩ := HS3.out rfl
      simp only at hfi hone
      by_cases hk : k = 0
    case' pos =>
      subst hk
      have h0 := hfi.2 rfl
      have hn1 := hone rfl
      subst hn1
      go_wp2_with fail
    case' neg =>
      have h0 : ¬ 0 < xe := fun h => hk (hfi.1 h)
      go_wp2_with fail
    all_goals
      refine (impl_syncLog _ _ _ _ (by omega) (by decide) G10.2.1).mono ?_
      rintro e wa ⟨rfl, hb⟩
      have G11 := G10.step hb
      have B11 := HB10.out.below hb
      clear hb G10 HB10 y0 y1 y2 y6 z0 z1 z2 z6
      obtain ⟨y0, y1, y2, _, _, _, y6⟩ := B11
      cases told
      · generalize P.syncI md [] mn = Y at *
        obtain ⟨nd, nn, nok⟩ := Y
        go_wp2
        go_ret
        exact ⟨rfl, (G11.alloc _).1⟩
      · obtain ⟨hv, hs⟩ := HT2.out rfl
        rw [hs]
        have hv2 : P.recordsOk md [] mn = true := (P.records_valid _ _ _).trans hv
        have G12 := G11.alloc (.cells #[.string (S md), .string (S []), .int .i64 mn] 27)
        clear G11 hs hv
        go_wp2_with fail
        refine (isValidLog _ _ _ _ (by omega) (by decide) G12.2.1).mono ?_
        rintro e wb ⟨rfl, hb⟩
        have G13 := G12.step hb
        clear hb G12
        rw [hv2]
        go_wp2
        go_ret
        exact ⟨rfl, G13.1⟩
end Go.Proofs.YtbjfpceoamiaoaaDoor
