/- The law of a stack's edits: a pushed layer struck out again, a layer moved back, a layer switched. -/
import Derived.Deep.DeepCutAuto
import Derived.Deep.RegionHeld
import Derived.Test.YtngbkdlicknmhaaGreatDoorDrawST
import Derived.Test.YtngbkdlicknmhaaGreatDoorOuts
import Derived.Test.YtngbkdlicknmhaaGreatDoorRStack
import Derived.Test.YtngbkdlicknmhaaGreatDoorShadB
import Derived.Test.YtngbkdlicknmhaaGreatDoorLayC
import Derived.Test.YtngbkdlicknmhaaGreatDoorMov3
namespace Go.Proofs.YtngbkdlicknmhaaGreatDoor
open Go Go.RowKit
set_option maxHeartbeats 8000000
set_option maxRecDepth 100000
/-- a stack in its box -/
structure SB (M : Nat) (mv : Value) (m : P.Lays) (v : World) : Prop where
  bx : DBx M mv v
  rd : LayR v mv m
theorem SB.below {M : Nat} {mv : Value} {m : P.Lays} {v v' : World} (h : SB M mv m v) (hb : Below v.heap.size v v') : SB M mv m v' := ⟨h.bx.below hb, h.rd.below hb⟩
theorem smallS_kept {ok : Bool} {l : P.Lays} (h : SmallS l) : SmallS (P.keptL ok l) := by
  cases ok
  · exact ⟨by simp [P.keptL], fun e he => by cases he⟩
  · exact h
theorem smallS_push {l : P.Lays} {d : P.Dic} (h : SmallS l) (hl : l.length ≤ 5) (hd : Small d) : SmallS (P.push d l) := by
  refine ⟨by unfold P.push; rw [List.length_cons]; omega, fun e he => ?_⟩
  unfold P.push at he
  rcases List.mem_cons.1 he with rfl | he
  · exact hd
  · exact h.each e he
theorem smallS_mov {l : P.Lays} {f t : Nat} (h : SmallS l) : SmallS (P.movL f t l) := ⟨by rw [P.movL_len]; exact h.len, fun e he => h.each e ((P.movL_perm f t l).mem_iff.1 he)⟩
theorem CodeIs.onS {w w' : World} {v : Value} (h : CodeIs w v) (hb : Below w.heap.size w w') : CodeIs w' v := by
  obtain ⟨ad, n, cap, rfl, hn, hc⟩ := h
  refine ⟨ad, n, cap, rfl, hn, hc.imp id ?_⟩
  rintro ⟨g, o, h1, h2, h3⟩
  refine ⟨g, o, h1, Nat.lt_of_lt_of_le h2 hb.size, fun j hj => ?_⟩
  obtain ⟨b, hb1, hb2⟩ := h3 j hj
  exact ⟨b, hb1, (hb.cell (p := ⟨g, o + j, none⟩) h2).trans hb2⟩
theorem law_stackEdits (v : Value) (w : World) (hc : CodeAny w v) (hE : Env w) :
    Calls Tryz.prog 6 #[v] w fun e w' => e = .returned (.bool true) ∧ Below w.heap.size w w' := by
  obtain ⟨ad, n, cap, rfl, hn, hr⟩ := hc
  have HE := Lib.hid hE
  clear hE
  go_enter Tryz.func6, Tryz.ntmps6
  go_wp2_with fail
  refine (rBig _ n ad cap rfl hn _).mono ?_
  rintro e w' ⟨rfl, rfl⟩
  cases hbig : decide (65536 < n)
  · have hn2 : n ≤ 65536 := by have := of_decide_eq_false hbig; omega
    have HCD := Lib.hid (show CodeIs w (.slice ad n cap) from ⟨ad, n, cap, rfl, hn2, hr⟩)
    clear hbig hr
    go_wp2_with fail
    refine (drawPushLayer _ _ HCD.out).mono ?_
    rintro e w1 ⟨l, d, u, ud, rfl, hdl, hdd, hu, hud, hb⟩
    have HSS := Lib.hid hdl.small; have HSD := Lib.hid hdd.small; have HL5 := Lib.hid hdl.len
    have hba : Below w1.heap.size w1 (w1.alloc (.cells #[u] 70)) := (Below.refl _ _).alloc (Nat.le_refl _) _
    have hbb : Below (w1.alloc (.cells #[u] 70)).heap.size (w1.alloc (.cells #[u] 70)) ((w1.alloc (.cells #[u] 70)).alloc (.cells #[ud] 26)) := (Below.refl _ _).alloc (Nat.le_refl _) _
    have hbt := hba.trans (hbb.mono hba.size)
    have HB1 := Lib.hid (hb.trans (hbt.mono hb.size))
    have HE1 := Lib.hid (HE.out.below HB1.out HE.out.size)
    have HS1 := Lib.hid (show SB w1.heap.size u l ((w1.alloc (.cells #[u] 70)).alloc (.cells #[ud] 26)) from ⟨(DBx.new u 70 w1).below hbb, hu.below hbt⟩)
    have HD1 := Lib.hid (show DBx (w1.heap.size + 1) ud ((w1.alloc (.cells #[u] 70)).alloc (.cells #[ud] 26)) by
      have h := DBx.new ud 26 (w1.alloc (.cells #[u] 70)); simpa using h)
    have HF1 := Lib.hid (hud.below hbt)
    obtain ⟨ua, uc, rfl, _, _⟩ := hu
    obtain ⟨da, dc, rfl, _, _⟩ := hud
    clear hdl hdd hba hbb hbt hb HE
    obtain ⟨s0, _⟩ := HS1.out.bx
    obtain ⟨d0, _⟩ := HD1.out
    go_wp2_with fail
    refine (impl_pushLayer _ _ l d _ HS1.out.rd HF1.out HSS.out HSD.out HE1.out).mono ?_
    rintro e w2 ⟨x2, rfl, hO, hb⟩
    have HPK := Lib.hid (fun h => P.setOk_push (d := d) (l := l) h)
    have HSP := Lib.hid (smallS_kept (ok := P.pushOk d l) (smallS_push HSS.out HL5.out HSD.out))
    generalize hok : P.pushOk d l = ok at *
    have HOK := Lib.hid hok; clear hok
    generalize hk : P.keptL ok (P.push d l) = k at *
    have HK := Lib.hid hk; clear hk
    have hba : Below w2.heap.size w2 (w2.alloc (.cells #[x2] 70)) := (Below.refl _ _).alloc (Nat.le_refl _) _
    have hb2 := hb.trans (hba.mono hb.size)
    have HB2 := Lib.hid (HB1.out.trans (hb2.mono HB1.out.size)); have HE2 := Lib.hid (HE1.out.below hb2 HE1.out.size)
    have HS2 := Lib.hid (HS1.out.below hb2); have HD2 := Lib.hid (HD1.out.below hb2); have HF2 := Lib.hid (HF1.out.below hb2)
    have HM2 := Lib.hid (show SB w2.heap.size x2 k (w2.alloc (.cells #[x2] 70)) from ⟨DBx.new _ _ _, (Lays.read hO).below hba⟩)
    obtain ⟨ma, mc, rfl, _, _⟩ := Lays.read hO
    clear hO hb hba hb2 s0 d0 HB1 HE1 HS1 HD1 HF1
    obtain ⟨s0, _⟩ := HS2.out.bx
    obtain ⟨d0, _⟩ := HD2.out
    go_wp2_with fail
    refine (spec_pushLayer _ _ l d _ HS2.out.rd HF2.out HSS.out HSD.out).mono ?_
    rintro e w3 ⟨x3, rfl, hO, hb⟩
    rw [HOK.out, HK.out] at hO
    rw [HOK.out]
    have hba : Below w3.heap.size w3 (w3.alloc (.cells #[x3] 70)) := (Below.refl _ _).alloc (Nat.le_refl _) _
    have hb2 := hb.trans (hba.mono hb.size)
    have HB3 := Lib.hid (HB2.out.trans (hb2.mono HB2.out.size)); have HE3 := Lib.hid (HE2.out.below hb2 HE2.out.size)
    have HS3 := Lib.hid (HS2.out.below hb2); have HM3 := Lib.hid (HM2.out.below hb2)
    have HN3 := Lib.hid (show SB w3.heap.size x3 k (w3.alloc (.cells #[x3] 70)) from ⟨DBx.new _ _ _, (Lays.read hO).below hba⟩)
    obtain ⟨na, nc, rfl, _, _⟩ := Lays.read hO
    clear hO hb hba hb2 s0 d0 HB2 HE2 HS2 HD2 HF2 HM2
    obtain ⟨m0, _⟩ := HM3.out.bx
    obtain ⟨n0, _⟩ := HN3.out.bx
    go_wp2_with fail
    refine (rStack _ _ k _ HM3.out.rd HN3.out.rd).mono ?_
    rintro e w4 ⟨rfl, hb⟩
    have HB4 := Lib.hid (HB3.out.trans (hb.mono HB3.out.size)); have HE4 := Lib.hid (HE3.out.below hb HE3.out.size)
    have HS4 := Lib.hid (HS3.out.below hb); have HM4 := Lib.hid (HM3.out.below hb)
    clear hb m0 n0 HB3 HE3 HS3 HM3 HN3
    go_upto_if 55 with fail
    go_cut [] (fun wx => Below w.heap.size w wx ∧ Env wx)
    case first =>
      cases ok
      · go_wp2
        go_meet
        exact ⟨HB4.out, HE4.out⟩
      · have hk : P.push d l = k := HK.out
        subst hk
        have HSO := Lib.hid (HPK.out rfl)
        obtain ⟨m0, _⟩ := HM4.out.bx
        go_wp2_with fail
        refine (impl_removeLayer _ (P.push d l) 0 _ HM4.out.rd HSP.out HE4.out).mono ?_
        rintro e w5 ⟨x5, rfl, hO, hb⟩
        rw [HSO.out] at hO ⊢
        have hO : Lays w5 _ x5 l := hO
        have hba : Below w5.heap.size w5 (w5.alloc (.cells #[x5] 70)) := (Below.refl _ _).alloc (Nat.le_refl _) _
        have hb2 := hb.trans (hba.mono hb.size)
        have HB5 := Lib.hid (HB4.out.trans (hb2.mono HB4.out.size)); have HE5 := Lib.hid (HE4.out.below hb2 HE4.out.size)
        have HS5 := Lib.hid (HS4.out.below hb2)
        have HN5 := Lib.hid (show SB w5.heap.size x5 l (w5.alloc (.cells #[x5] 70)) from ⟨DBx.new _ _ _, (Lays.read hO).below hba⟩)
        obtain ⟨na, nc, rfl, _, _⟩ := Lays.read hO
        clear hO hb hba hb2 m0 HB4 HE4 HS4 HM4
        obtain ⟨s0, _⟩ := HS5.out.bx
        obtain ⟨n0, _⟩ := HN5.out.bx
        go_wp2_with fail
        refine (rStack _ _ l _ HN5.out.rd HS5.out.rd).mono ?_
        rintro e w6 ⟨rfl, hb⟩
        have HB6 := Lib.hid (HB5.out.trans (hb.mono HB5.out.size)); have HE6 := Lib.hid (HE5.out.below hb HE5.out.size)
        clear hb s0 n0 HB5 HE5 HS5 HN5
        go_wp2
        go_meet
        exact ⟨HB6.out, HE6.out⟩
    case rest =>
      obtain ⟨hbx, hex⟩ := hcut
      have HB5 := Lib.hid hbx; have HE5 := Lib.hid hex
      have HC5 := Lib.hid (CodeIs.onS HCD.out (hbx.mono (Nat.le_refl _)))
      clear hbx hex HB4 HE4 HS4 HM4 HSS HSD HL5 HPK HSP HOK HK
      go_wp2_with fail
      refine (rCut _ 1 _ HC5.out (.inl rfl)).mono ?_
      rintro e w6 ⟨y, rfl, hc6, hb⟩
      have HC6 := Lib.hid hc6; have HB6 := Lib.hid (HB5.out.trans (hb.mono HB5.out.size)); have HE6 := Lib.hid (HE5.out.below hb HE5.out.size)
      clear hc6 hb HC5 HB5 HE5
      go_wp2_with fail
      refine (drawMoveLayer _ _ HC6.out).mono ?_
      rintro e w7 ⟨l, u, f, t, rfl, hdl, hu, hb⟩
      have HSS := Lib.hid hdl.small
      have hba : Below w7.heap.size w7 (w7.alloc (.cells #[u] 70)) := (Below.refl _ _).alloc (Nat.le_refl _) _
      have hb2 := hb.trans (hba.mono hb.size)
      have HB7 := Lib.hid (HB6.out.trans (hb2.mono HB6.out.size)); have HE7 := Lib.hid (HE6.out.below hb2 HE6.out.size)
      have HS7 := Lib.hid (show SB w7.heap.size u l (w7.alloc (.cells #[u] 70)) from ⟨DBx.new _ _ _, hu.below hba⟩)
      obtain ⟨ua, uc, rfl, _, _⟩ := hu
      clear hdl hba hb hb2 HB6 HE6 HC6
      obtain ⟨s0, _⟩ := HS7.out.bx
      go_wp2_with fail
      refine (impl_moveLayer _ l f t _ HS7.out.rd HSS.out HE7.out).mono ?_
      rintro e w8 ⟨x8, rfl, hO, hb⟩
      have HBK := Lib.hid (fun h => P.moveOk_back (f := f) (t := t) (l := l) h)
      have HMB := Lib.hid (fun h => P.mov_back (f := f) (t := t) (l := l) h)
      have HSP := Lib.hid (smallS_kept (ok := P.moveOk f t l) (smallS_mov (f := f.toNat) (t := t.toNat) HSS.out))
      generalize hok : P.moveOk f t l = ok at *
      have HOK := Lib.hid hok; clear hok
      generalize hm : P.movL f.toNat t.toNat l = m at *
      have HMV := Lib.hid hm; clear hm
      generalize hk : P.keptL ok m = k at *
      have HK := Lib.hid hk; clear hk
      have hba : Below w8.heap.size w8 (w8.alloc (.cells #[x8] 70)) := (Below.refl _ _).alloc (Nat.le_refl _) _
      have hb2 := hb.trans (hba.mono hb.size)
      have HB8 := Lib.hid (HB7.out.trans (hb2.mono HB7.out.size)); have HE8 := Lib.hid (HE7.out.below hb2 HE7.out.size)
      have HS8 := Lib.hid (HS7.out.below hb2)
      have HM8 := Lib.hid (show SB w8.heap.size x8 k (w8.alloc (.cells #[x8] 70)) from ⟨DBx.new _ _ _, (Lays.read hO).below hba⟩)
      obtain ⟨ma, mc, rfl, _, _⟩ := Lays.read hO
      clear hO hb hba hb2 s0 HB7 HE7 HS7
      obtain ⟨s0, _⟩ := HS8.out.bx
      go_wp2_with fail
      refine (spec_moveLayer _ l f t _ HS8.out.rd HSS.out).mono ?_
      rintro e w9 ⟨x9, rfl, hO, hb⟩
      rw [HOK.out, HMV.out, HK.out] at hO
      rw [HOK.out]
      have hba : Below w9.heap.size w9 (w9.alloc (.cells #[x9] 70)) := (Below.refl _ _).alloc (Nat.le_refl _) _
      have hb2 := hb.trans (hba.mono hb.size)
      have HB9 := Lib.hid (HB8.out.trans (hb2.mono HB8.out.size)); have HE9 := Lib.hid (HE8.out.below hb2 HE8.out.size)
      have HS9 := Lib.hid (HS8.out.below hb2); have HM9 := Lib.hid (HM8.out.below hb2)
      have HN9 := Lib.hid (show SB w9.heap.size x9 k (w9.alloc (.cells #[x9] 70)) from ⟨DBx.new _ _ _, (Lays.read hO).below hba⟩)
      obtain ⟨na, nc, rfl, _, _⟩ := Lays.read hO
      clear hO hb hba hb2 s0 HB8 HE8 HS8 HM8
      obtain ⟨m0, _⟩ := HM9.out.bx
      obtain ⟨n0, _⟩ := HN9.out.bx
      go_wp2_with fail
      refine (rStack _ _ k _ HM9.out.rd HN9.out.rd).mono ?_
      rintro e wA ⟨rfl, hb⟩
      have HBA := Lib.hid (HB9.out.trans (hb.mono HB9.out.size)); have HEA := Lib.hid (HE9.out.below hb HE9.out.size)
      have HSA := Lib.hid (HS9.out.below hb); have HMA := Lib.hid (HM9.out.below hb)
      clear hb m0 n0 HB9 HE9 HS9 HM9 HN9
      go_upto_if 99 with fail
      go_cut [] (fun wx => Below w.heap.size w wx ∧ Env wx)
      case first =>
        cases ok
        · go_wp2
          go_meet
          exact ⟨HBA.out, HEA.out⟩
        · have hk : m = k := HK.out
          subst hk
          have HMO := Lib.hid (HBK.out rfl); have HBE := Lib.hid (HMB.out rfl)
          obtain ⟨m0, _⟩ := HMA.out.bx
          go_wp2_with fail
          refine (impl_moveLayer _ m t f _ HMA.out.rd HSP.out HEA.out).mono ?_
          rintro e wB ⟨xB, rfl, hO, hb⟩
          rw [HMO.out, HBE.out] at hO
          rw [HMO.out]
          have hO : Lays wB _ xB l := hO
          have hba : Below wB.heap.size wB (wB.alloc (.cells #[xB] 70)) := (Below.refl _ _).alloc (Nat.le_refl _) _
          have hb2 := hb.trans (hba.mono hb.size)
          have HBB := Lib.hid (HBA.out.trans (hb2.mono HBA.out.size)); have HEB := Lib.hid (HEA.out.below hb2 HEA.out.size)
          have HSB := Lib.hid (HSA.out.below hb2)
          have HNB := Lib.hid (show SB wB.heap.size xB l (wB.alloc (.cells #[xB] 70)) from ⟨DBx.new _ _ _, (Lays.read hO).below hba⟩)
          obtain ⟨na, nc, rfl, _, _⟩ := Lays.read hO
          clear hO hb hba hb2 m0 HBA HEA HSA HMA
          obtain ⟨s0, _⟩ := HSB.out.bx
          obtain ⟨n0, _⟩ := HNB.out.bx
          go_wp2_with fail
          refine (rStack _ _ l _ HNB.out.rd HSB.out.rd).mono ?_
          rintro e wC ⟨rfl, hb⟩
          have HBC := Lib.hid (HBB.out.trans (hb.mono HBB.out.size)); have HEC := Lib.hid (HEB.out.below hb HEB.out.size)
          clear hb s0 n0 HBB HEB HSB HNB
          go_wp2
          go_meet
          exact ⟨HBC.out, HEC.out⟩
      case rest =>
        obtain ⟨hbx, hex⟩ := hcut
        have HB5 := Lib.hid hbx; have HE5 := Lib.hid hex
        have HC5 := Lib.hid (CodeIs.onS HCD.out (hbx.mono (Nat.le_refl _)))
        clear hbx hex HBA HEA HSA HMA HSS HBK HMB HSP HOK HMV HK HCD
        go_wp2_with fail
        refine (rCut _ 2 _ HC5.out (.inr rfl)).mono ?_
        rintro e w6 ⟨y, rfl, hc6, hb⟩
        have HC6 := Lib.hid hc6; have HB6 := Lib.hid (HB5.out.trans (hb.mono HB5.out.size)); have HE6 := Lib.hid (HE5.out.below hb HE5.out.size)
        clear hc6 hb HC5 HB5 HE5
        go_wp2_with fail
        refine (drawSetEnabled _ _ HC6.out).mono ?_
        rintro e w7 ⟨l, u, i, bl, rfl, hdl, hu, hb⟩
        have HSS := Lib.hid hdl.small
        have hba : Below w7.heap.size w7 (w7.alloc (.cells #[u] 70)) := (Below.refl _ _).alloc (Nat.le_refl _) _
        have hb2 := hb.trans (hba.mono hb.size)
        have HB7 := Lib.hid (HB6.out.trans (hb2.mono HB6.out.size)); have HE7 := Lib.hid (HE6.out.below hb2 HE6.out.size)
        have HS7 := Lib.hid (show SB w7.heap.size u l (w7.alloc (.cells #[u] 70)) from ⟨DBx.new _ _ _, hu.below hba⟩)
        obtain ⟨ua, uc, rfl, _, _⟩ := hu
        clear hdl hba hb hb2 HB6 HE6 HC6
        obtain ⟨s0, _⟩ := HS7.out.bx
        go_wp2_with fail
        refine (impl_setEnabled _ l i bl _ HS7.out.rd HSS.out HE7.out).mono ?_
        rintro e w8 ⟨x8, rfl, hO, hb⟩
        have HIN := Lib.hid (fun h => P.setOk_in (i := i) (l := l) h)
        have HAT := Lib.hid (fun (h : i.toNat < l.length) => P.setOn_at (t := bl) h)
        generalize hok : P.setOk i l = ok at *
        have HOK := Lib.hid hok; clear hok
        generalize hm : P.setOn i.toNat bl l = m at *
        have HMV := Lib.hid hm; clear hm
        generalize hk : P.keptL ok m = k at *
        have HK := Lib.hid hk; clear hk
        have hba : Below w8.heap.size w8 (w8.alloc (.cells #[x8] 70)) := (Below.refl _ _).alloc (Nat.le_refl _) _
        have hb2 := hb.trans (hba.mono hb.size)
        have HB8 := Lib.hid (HB7.out.trans (hb2.mono HB7.out.size))
        have HS8 := Lib.hid (HS7.out.below hb2)
        have HM8 := Lib.hid (show SB w8.heap.size x8 k (w8.alloc (.cells #[x8] 70)) from ⟨DBx.new _ _ _, (Lays.read hO).below hba⟩)
        obtain ⟨ma, mc, rfl, _, _⟩ := Lays.read hO
        clear hO hb hba hb2 s0 HB7 HE7 HS7
        obtain ⟨s0, _⟩ := HS8.out.bx
        go_wp2_with fail
        refine (spec_setEnabled _ l i bl _ HS8.out.rd HSS.out).mono ?_
        rintro e w9 ⟨x9, rfl, hO, hb⟩
        rw [HOK.out, HMV.out, HK.out] at hO
        rw [HOK.out]
        have hba : Below w9.heap.size w9 (w9.alloc (.cells #[x9] 70)) := (Below.refl _ _).alloc (Nat.le_refl _) _
        have hb2 := hb.trans (hba.mono hb.size)
        have HB9 := Lib.hid (HB8.out.trans (hb2.mono HB8.out.size))
        have HM9 := Lib.hid (HM8.out.below hb2)
        have HN9 := Lib.hid (show SB w9.heap.size x9 k (w9.alloc (.cells #[x9] 70)) from ⟨DBx.new _ _ _, (Lays.read hO).below hba⟩)
        obtain ⟨na, nc, rfl, _, _⟩ := Lays.read hO
        clear hO hb hba hb2 s0 HB8 HS8 HM8
        obtain ⟨m0, _⟩ := HM9.out.bx
        obtain ⟨n0, _⟩ := HN9.out.bx
        go_wp2_with fail
        refine (rStack _ _ k _ HM9.out.rd HN9.out.rd).mono ?_
        rintro e wA ⟨rfl, hb⟩
        have HBA := Lib.hid (HB9.out.trans (hb.mono HB9.out.size))
        have HMA := Lib.hid (HM9.out.below hb)
        clear hb m0 n0 HB9 HM9 HN9
        cases ok
        · go_wp2
          go_ret
          exact ⟨rfl, HBA.out⟩
        · have hk : m = k := HK.out
          subst hk
          obtain ⟨h1, h2⟩ := HIN.out rfl
          obtain ⟨i, rfl⟩ := Int.eq_ofNat_of_zero_le h1
          rw [Int.toNat_natCast] at h2 HAT
          obtain ⟨h3, h4⟩ := HAT.out h2
          obtain ⟨g, o, hga, hgl, x, c0, c1, hx⟩ := HMA.out.rd.at i h3
          subst hga
          rw [h4] at c1
          obtain ⟨m0, _⟩ := HMA.out.bx
          have i1 : (i : Int) < (m.length : Int) := by omega
          clear h1 hx
          go_wp2
          go_ret
          exact ⟨by cases bl <;> rfl, by first | exact HBA.out | exact below_drewN HBA.out _⟩
  · have hn2 := of_decide_eq_true hbig
    go_wp2
    go_ret
    exact ⟨rfl, Below.refl _ _⟩
end Go.Proofs.YtngbkdlicknmhaaGreatDoor
