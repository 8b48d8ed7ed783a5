/- Walks: the reference's drawing of strokes. -/
import Derived.Test.YtmlklnimoknojaaGreatDoorColl
import Derived.Deep.DeepCutAuto
import Derived.Test.YtmlklnimoknojaaGreatDoorLawD
import Derived.Deep.RegionLaw
import Derived.Deep.AppendLies
import Derived.IntWalk
import Derived.Test.YtmlklnimoknojaaGreatDoorCurD
namespace Go.Proofs.YtmlklnimoknojaaGreatDoor
open Go Go.RowKit
set_option maxHeartbeats 4000000
set_option maxRecDepth 100000
theorem cur_strokes (B C N lo hi : Nat) (u : Value) (l : P.Dic) (w : World) (hN : N < 2 ^ 31) (h : IsCur B C N w) (hr : ReadE lo hi w u l) (hlo : C < lo) (hd : Drawn l) :
    Calls Tryz.prog 51 #[.pointer (some ⟨C, 0, none⟩), .agg #[u]] w (OutDrawn B C (N + 100) 40 w) := by
  obtain ⟨i0, hi', hy0, hy1, hy2⟩ := info_parts info_int
  have hlt := h.lt
  obtain ⟨ad, cap, rfl, _, _⟩ := hr.now
  have hba := (Below.refl w.heap.size w).alloc (Nat.le_refl _) (.cells #[.slice ad l.length cap] 26)
  have HCW := Lib.hid ((CurPost.refl h (Nat.le_refl N)).below hba)
  have HD := Lib.hid (DBx.new (.slice ad l.length cap) 26 w)
  have HR := Lib.hid (hr.chg (Below.chg hba (fun _ => False)) (fun _ _ _ h => h))
  have HDR := Lib.hid hd
  have hl60 := hd.len
  have hhi := hr.1
  have hzw1 : w.heap.size < (w.alloc (.cells #[.slice ad l.length cap] 26)).heap.size := by simp
  have hzw2 : (w.alloc (.cells #[.slice ad l.length cap] 26)).heap.size ≤ w.heap.size + 1 := by simp
  clear h hr hba hd
  go_enter Tryz.func51, Tryz.ntmps51
  go_upto_region 1 with fail
  generalize w.alloc (.cells #[.slice ad l.length cap] 26) = W0 at *
  have HC0 := Lib.hid HCW.out.1
  have hz0 : C < W0.heap.size := by omega
  have HC := Lib.hid ((CurPost.refl HCW.out.1 (Nat.le_refl N)).alloc (.cells #[] 3))
  have HOW := Lib.hid (show (W0.alloc (.cells #[] 3)).ownsRow W0.heap.size 3 1 (.slice (some ⟨W0.heap.size, 0, none⟩) 0 0) 0 [] by have h := World.ownsRow_lit (base := W0.heap.size) (e := 3) (size := 1) W0 #[] 0 (Nat.le_refl _) (Nat.zero_le _) (by simp); simpa using h)
  have hb1 := (Below.refl W0.heap.size W0).alloc (Nat.le_refl _) (.cells #[] 3)
  have HD1 := Lib.hid (HD.out.below hb1); have HR1 := Lib.hid (HR.out.chg (Below.chg hb1 (fun _ => False)) (fun _ _ _ h => h))
  clear hb1 HD HR
  go_wp2_with fail
  refine (cur_pick B C N 6 _ (by omega) (by decide) HC.out.1).mono ?_
  rintro e w1 ⟨x, hx, rfl, hc⟩
  have hx3 : x < 6 := by omega
  have HRN := Lib.hid (show OutRun B C (N + 2) W0 w1 (.slice (some ⟨W0.heap.size, 0, none⟩) 0 0) [] from OutRun.cur (K := N) ⟨⟨_, _, _, rfl⟩, HOW.out, HC.out⟩ hz0 hc)
  have HD2 := Lib.hid (HD1.out.stand hc.2 (by omega)); have HR2 := Lib.hid (HR1.out.chg hc.2 (fun b h1 h2 e => by omega))
  clear hc hx HD1 HR1 HC HOW
  go_wp2
  go_loopw [5, 6] (fun s n wr => ∃ (o : List Int) (k : Nat), o.length + 8 * k ≤ 40 ∧ n = .int .i64 k ∧ OutRun B C (N + 90 - 10 * k) W0 wr s o ∧ DBx w.heap.size (.slice ad l.length cap) wr ∧ ReadE lo hi wr (.slice ad l.length cap) l) (fun _ n _ => (intOf n).toNat)
  case atStart => exact ⟨[], x, by simp; omega, rfl, ⟨HRN.out.1, HRN.out.2.1, HRN.out.2.2.mono (by omega)⟩, HD2.out, HR2.out⟩
  case round =>
    obtain ⟨o, k, hk, rfl, hrn, hdb, hre⟩ := hrel
    have H3 := Lib.hid hrn; have HD3 := Lib.hid hdb; have HR3 := Lib.hid hre
    obtain ⟨⟨ua, un, uc, rfl⟩, _⟩ := hrn
    clear hdb hre HRN HD2 HR2
    have hzz : W0.heap.size ≤ wr.heap.size := H3.out.2.2.2.size
    by_cases hp : 0 < k
    · have hpk : (0 : Int) < (k : Int) := by omega
      obtain ⟨b0, _⟩ := HD3.out
      by_cases hpos : 0 < l.length
      · have hpi : (0 : Int) < (l.length : Int) := by omega
        go_wp2_with fail
        refine (cur_one B C (N + 90 - 10 * k) 4 _ (by omega) (by decide) H3.out.2.2.1).mono ?_
        rintro e w2 ⟨b, rfl, hc⟩
        have H4 := Lib.hid (H3.out.cur hz0 hc)
        have HD4 := Lib.hid (HD3.out.stand hc.2 (by omega)); have HR4 := Lib.hid (HR3.out.chg hc.2 (fun b h1 h2 e => by omega))
        have hz2 : wr.heap.size ≤ w2.heap.size := hc.2.size
        clear hc H3 HD3 HR3 b0
        cases b
        · have HS := Lib.hid (show DBx w.heap.size (.slice ad l.length cap) w2.drew from HD4.out.below (Below.refl _ _).drew)
          have hdd : Below w2.heap.size w2 w2.drew := (Below.refl _ _).drew
          have H5 := Lib.hid (show OutRun B C (N + 90 - 10 * k + 2) W0 w2.drew (.slice ua un uc) o from ⟨⟨_, _, _, rfl⟩, own_kept H4.out.2.1 hdd (Nat.le_refl _), H4.out.2.2.below hdd⟩)
          have HR5 := Lib.hid (HR4.out.chg (Below.chg hdd (fun _ => False)) (fun _ _ _ h => h))
          have hz2' : wr.heap.size ≤ w2.drew.heap.size := hz2
          clear hdd H4 HD4 HR4
          go_upto_region 6 with fail
          refine wp_region_held_drew (S := DBx w.heap.size (.slice ad l.length cap)) (by kernel_rfl) HS.out (fun hS0 => ?_)
          generalize w2.drew = v0 at *
          refine wpAnyH_take (i := 0) (v := .slice ua un uc) rfl (by kernel_rfl) (by kernel_rfl) (by kernel_rfl) (fun _ _ _ h => h) (Or.inl ⟨by rfl, fun z hz => ?_⟩) hS0 ?_
          · obtain ⟨z1, z2, z3⟩ := hz
            go_simp
          try simp only [qA, qB, Act.put, qD, qE, qF]
          refine wpAnyH_take (i := 1) (v := .pointer (some ⟨w.heap.size, 0, none⟩)) rfl (by kernel_rfl) (by kernel_rfl) (by kernel_rfl) (fun _ _ _ h => h) (Or.inl ⟨by rfl, fun z hz => ?_⟩) hS0 ?_
          · obtain ⟨z1, z2, z3⟩ := hz
            go_simp
          try simp only [qA, qB, qC, Act.put, qD, qE, qF]
          refine wpAnyH_take (i := 2) (v := .slice ad l.length cap) rfl (by kernel_rfl) (by kernel_rfl) (by kernel_rfl) (fun _ _ _ h => h) (Or.inl ⟨by rfl, fun z hz => ?_⟩) hS0 ?_
          · obtain ⟨z1, z2, z3⟩ := hz
            go_simp
          try simp only [qA, qB, qC, Act.put, qD, qE, qF]
          refine wpAnyH_take (i := 3) (v := .pointer (some ⟨C, 0, none⟩)) rfl (by kernel_rfl) (by kernel_rfl) (by kernel_rfl) (fun _ _ _ h => h) (Or.inl ⟨by rfl, fun z hz => ?_⟩) hS0 ?_
          · obtain ⟨z1, z2, z3⟩ := hz
            go_simp
          try simp only [qA, qB, qC, Act.put, qD, qE, qF]
          refine wpAnyH_take (i := 4) (v := .pointer (some ⟨w.heap.size, 0, none⟩)) rfl (by kernel_rfl) (by kernel_rfl) (by kernel_rfl) (fun _ _ _ h => h) (Or.inl ⟨by rfl, fun z hz => ?_⟩) hS0 ?_
          · obtain ⟨z1, z2, z3⟩ := hz
            go_simp
          try simp only [qA, qB, qC, Act.put, qD, qE, qF]
          refine wpAnyH_take (i := 5) (v := .slice ad l.length cap) rfl (by kernel_rfl) (by kernel_rfl) (by kernel_rfl) (fun _ _ _ h => h) (Or.inl ⟨by rfl, fun z hz => ?_⟩) hS0 ?_
          · obtain ⟨z1, z2, z3⟩ := hz
            go_simp
          try simp only [qA, qB, qC, Act.put, qD, qE, qF]
          refine wpAnyH_take (i := 6) (v := .int .i64 (l.length : Int)) rfl (by kernel_rfl) (by kernel_rfl) (by kernel_rfl) (fun _ _ _ h => h) (Or.inl ⟨by rfl, fun z hz => ?_⟩) hS0 ?_
          · obtain ⟨z1, z2, z3⟩ := hz
            go_simp
          try simp only [qA, qB, qC, Act.put, qD, qE, qF]
          refine wpAnyH_ready (rs := [7]) (by kernel_rfl) (by simp) ?_
          refine AllReadyH.cons rfl (fun K hK => ?_) AllReadyH.nil
          go_simp
          refine (cur_pick B C (N + 90 - 10 * k + 2) l.length _ (by omega) (by omega) H5.out.2.2.1).mono ?_
          rintro e v1 ⟨i, hip, rfl, hc⟩
          have hil : i < l.length := by omega
          have H6 := Lib.hid (H5.out.cur hz0 hc); have HR6 := Lib.hid (HR5.out.chg hc.2 (fun b h1 h2 e => by omega))
          have hz6 : v0.heap.size ≤ v1.heap.size := hc.2.size
          refine hK.out _ _ (hS0.stand hc.2 (by omega)) (fun hS1 => ?_)
          clear hK K hc hip H5 HR5
          obtain ⟨g, p, rfl, hg, xv, c0, c1, hx⟩ := HR6.out.now.at i hil
          have HX := Lib.hid hx
          obtain ⟨xd, xc, rfl, _, _⟩ := hx
          have hol := HDR.out.outs _ (List.getElem_mem hil)
          have i1 : (i : Int) < (l.length : Int) := by omega
          generalize l[i] = en at *
          obtain ⟨eo, et⟩ := en
          simp only at HX c0 hol
          try simp only [qA, qB, qC, Act.put, qD, qE, qF]
          refine wpAnyH_take (i := 8) (v := .pointer (some ⟨g, p + i * 2, none⟩)) rfl (by kernel_rfl) (by kernel_rfl) (by kernel_rfl) (fun _ _ _ h => h) (Or.inl ⟨by rfl, fun z hz => ?_⟩) hS1 ?_
          · obtain ⟨z1, z2, z3⟩ := hz
            go_simp
          try simp only [qA, qB, qC, Act.put, qD, qE, qF]
          refine wpAnyH_take (i := 9) (v := .pointer (some ⟨g, p + i * 2, none⟩)) rfl (by kernel_rfl) (by kernel_rfl) (by kernel_rfl) (fun _ _ _ h => h) (Or.inl ⟨by rfl, fun z hz => ?_⟩) hS1 ?_
          · obtain ⟨z1, z2, z3⟩ := hz
            go_simp
          try simp only [qA, qB, qC, Act.put, qD, qE, qF]
          refine wpAnyH_ready (rs := [10]) (by kernel_rfl) (by simp) ?_
          refine AllReadyH.cons rfl (fun K hK => ?_) AllReadyH.nil
          go_simp
          refine hK.out _ _ hS1 (fun hS2 => ?_)
          clear hK K
          try simp only [qA, qB, qC, Act.put, qD, qE, qF]
          have hul : un = o.length := by
            rcases H6.out.2.1.2 with ⟨e1, e2⟩ | ⟨_, _, _, e1, _⟩
            · injection e1 with _ e3 _; omega
            · injection e1
          have hlo6 : ∀ k, (Value.slice ua un uc).ownBlock = some k → W0.heap.size ≤ k := fun k hk => (World.ownsRow.lt H6.out.2.1 k hk).1
          refine wpAnyH_ready (rs := [11]) (by kernel_rfl) (by simp) ?_
          refine AllReadyH.cons rfl (fun K hK => ?_) AllReadyH.nil
          refine step_append_src rfl _ _ 27 rfl W0.heap.size 3 i0 (.int .i64 0) 1 8 Tryz.underlying27 hi' hy0 hy1 hy2 rfl (by decide) (.slice ua un uc) o.length (ints o) rfl H6.out.2.1 (.slice xd eo.length xc) eo.length (ints eo) rfl (src_of_ints HX.out) (by unfold maxLen; omega) (by omega) (by omega) ?_
          intro cv n2 hown hgr
          obtain ⟨cd, cc, rfl⟩ := own_form hown
          have H7 := Lib.hid (show OutRun B C (N + 90 - 10 * k + 4) W0 n2 (.slice cd (o.length + eo.length) cc) (o ++ eo) from ⟨⟨_, _, _, rfl⟩, by rw [List.length_append, show ints (o ++ eo) = ints o ++ ints eo by simp [ints]]; exact hown, H6.out.2.2.new (Chg.grown hgr) (fun b hb => hlo6 b hb) (by omega) (by omega)⟩)
          have HR7 := Lib.hid (HR6.out.chg (Chg.grown hgr) (fun b h1 h2 e => by have := hlo6 _ e; omega))
          have hS3' := hS2.stand (Chg.grown hgr) (fun e => by have := hlo6 _ e; omega)
          have HD7 := Lib.hid hS3'
          refine hK.out _ _ hS3' (fun hS3 => ?_)
          clear hK K hown hgr hS3' hlo6
          try simp only [qA, qB, qC, Act.put, qD, qE, qF]
          refine wpAnyH_take (i := 12) (v := .slice cd (o.length + eo.length) cc) rfl (by kernel_rfl) (by kernel_rfl) (by kernel_rfl) (fun _ _ _ h => h) (Or.inl ⟨by rfl, fun z hz => ?_⟩) hS3 ?_
          · obtain ⟨z1, z2, z3⟩ := hz
            go_simp
          try simp only [qA, qB, qC, Act.put, qD, qE, qF]
          refine wpAnyH_done (by kernel_rfl) ?_ _
          clear hS0 hS1 hS2 hS3 c0 c1 HX H6 HR6
          go_wp2
          go_roundw
          case rel => exact ⟨o ++ eo, k - 1, by rw [List.length_append]; omega, by go_num, ⟨H7.out.1, H7.out.2.1, H7.out.2.2.mono (by omega)⟩, HD7.out, HR7.out⟩
          case measure => simp [intOf]; omega
        · skip
          go_wp2_with fail
          refine (cur_few B C (N + 90 - 10 * k + 2) _ (by omega) H4.out.2.2.1).mono ?_
          rintro e w3 ⟨y, rfl, hc⟩
          have H5 := Lib.hid (H4.out.cur hz0 hc)
          have HD5 := Lib.hid (HD4.out.stand hc.2 (by omega)); have HR5 := Lib.hid (HR4.out.chg hc.2 (fun b h1 h2 e => by omega))
          have HOW2 := Lib.hid (H5.out.2.1.alloc (.cells #[.int .i64 y] 3))
          have HZ3 := Lib.hid H5.out.2.2.2.size
          clear hc
          go_wp2_with (at_builtin; refine wpList_append_own _ rfl _ _ 27 rfl W0.heap.size 3 i0 (.int .i64 0) 1 8 Tryz.underlying27 hi' hy0 hy1 hy2 rfl (by decide) (.slice ua un uc) o.length (ints o) rfl HOW2.out ⟨w3.heap.size, 0, none⟩ 1 1 [.int .i64 y] rfl rfl ?_ ?_ ?_ ?_ ?_ ?_)
          all_goals first | exact ⟨rfl, rfl⟩ | (intro z hz; simp only [List.mem_cons, List.not_mem_nil, or_false] at hz; subst hz; rfl) | (unfold maxLen; omega) | omega | (have h1 := HZ3.out; simp; omega) | (intro i z hz; rcases i with _ | i; (injection hz with hz; subst hz; rw [add0]; go_simp); cases hz) | skip
          intro u4 w4 hown hgr _
          have H6 := Lib.hid (H5.out.app HC0.out 3 hown hgr)
          have hlo4 : ∀ k, (Value.slice ua un uc).ownBlock = some k → W0.heap.size ≤ k := fun k hk => (World.ownsRow.lt H5.out.2.1 k hk).1
          have hba := (Below.refl w3.heap.size w3).alloc (Nat.le_refl _) (.cells #[.int .i64 y] 3)
          have HD6 := Lib.hid ((HD5.out.below hba).stand (Chg.grown hgr) (fun e => by have := hlo4 _ e; omega))
          have HR6 := Lib.hid ((HR5.out.chg (Below.chg hba (fun _ => False)) (fun _ _ _ h => h)).chg (Chg.grown hgr) (fun b h1 h2 e => by have := hlo4 _ e; omega))
          clear hown hgr hlo4 hba
          go_wp2
          go_roundw
          case rel => exact ⟨_, k - 1, by rw [List.length_append]; simp; omega, by go_num, ⟨H6.out.1, H6.out.2.1, H6.out.2.2.mono (by omega)⟩, HD6.out, HR6.out⟩
          case measure => simp [intOf]; omega
      · have hpi : ¬ (0 : Int) < (l.length : Int) := by omega
        go_wp2_with fail
        refine (cur_few B C (N + 90 - 10 * k) _ (by omega) H3.out.2.2.1).mono ?_
        rintro e w3 ⟨y, rfl, hc⟩
        have H5 := Lib.hid (H3.out.cur hz0 hc)
        have HD5 := Lib.hid (HD3.out.stand hc.2 (by omega)); have HR5 := Lib.hid (HR3.out.chg hc.2 (fun b h1 h2 e => by omega))
        have HOW2 := Lib.hid (H5.out.2.1.alloc (.cells #[.int .i64 y] 3))
        have HZ3 := Lib.hid H5.out.2.2.2.size
        clear hc
        go_wp2_with (at_builtin; refine wpList_append_own _ rfl _ _ 27 rfl W0.heap.size 3 i0 (.int .i64 0) 1 8 Tryz.underlying27 hi' hy0 hy1 hy2 rfl (by decide) (.slice ua un uc) o.length (ints o) rfl HOW2.out ⟨w3.heap.size, 0, none⟩ 1 1 [.int .i64 y] rfl rfl ?_ ?_ ?_ ?_ ?_ ?_)
        all_goals first | exact ⟨rfl, rfl⟩ | (intro z hz; simp only [List.mem_cons, List.not_mem_nil, or_false] at hz; subst hz; rfl) | (unfold maxLen; omega) | omega | (have h1 := HZ3.out; simp; omega) | (intro i z hz; rcases i with _ | i; (injection hz with hz; subst hz; rw [add0]; go_simp); cases hz) | skip
        intro u4 w4 hown hgr _
        have H6 := Lib.hid (H5.out.app HC0.out 3 hown hgr)
        have hlo4 : ∀ k, (Value.slice ua un uc).ownBlock = some k → W0.heap.size ≤ k := fun k hk => (World.ownsRow.lt H5.out.2.1 k hk).1
        have hba := (Below.refl w3.heap.size w3).alloc (Nat.le_refl _) (.cells #[.int .i64 y] 3)
        have HD6 := Lib.hid ((HD5.out.below hba).stand (Chg.grown hgr) (fun e => by have := hlo4 _ e; omega))
        have HR6 := Lib.hid ((HR5.out.chg (Below.chg hba (fun _ => False)) (fun _ _ _ h => h)).chg (Chg.grown hgr) (fun b h1 h2 e => by have := hlo4 _ e; omega))
        clear hown hgr hlo4 hba
        go_wp2
        go_roundw
        case rel => exact ⟨_, k - 1, by rw [List.length_append]; simp; omega, by go_num, ⟨H6.out.1, H6.out.2.1, H6.out.2.2.mono (by omega)⟩, HD6.out, HR6.out⟩
        case measure => simp [intOf]; omega
    · have hpk : ¬ (0 : Int) < (k : Int) := by omega
      go_wp2
      go_ret
      exact ⟨o, _, rfl, by omega, owns_base H3.out.2.1 (by omega), (HCW.out.mono (Nat.le_refl _)).trans (H3.out.2.2.mono (by omega))⟩
end Go.Proofs.YtmlklnimoknojaaGreatDoor
namespace Go.Proofs.YtmlklnimoknojaaGreatDoor
section
abbrev P.Lay := P.Dic × Bool
abbrev P.Lays := List P.Lay
open Go Go.RowKit
set_option maxHeartbeats 1000000
set_option maxRecDepth 100000
def LayR (v : World) (u : Value) (l : P.Lays) : Prop :=
  ∃ (ad : Option Addr) (cap : Nat), u = .slice ad l.length cap ∧ (l.length ≤ 2 ^ 45 ∧ l.length ≤ cap) ∧ (ad = none → cap = 0) ∧ (l = [] ∨ ∃ g o, ad = some ⟨g, o, none⟩ ∧ g < v.heap.size ∧ ∀ (j : Nat) (h : j < l.length), ∃ x, v.cell? ⟨g, o + j * 2, none⟩ = some x ∧ v.cell? ⟨g, o + j * 2 + 1, none⟩ = some (.bool (l[j]'h).2) ∧ EntR v x (l[j]'h).1)
theorem LayR.below {v v' : World} {u : Value} {l : P.Lays} (h : LayR v u l) (hb : Below v.heap.size v v') : LayR v' u l := by
  obtain ⟨ad, cap, h1, h2, hn, h3⟩ := h
  refine ⟨ad, cap, h1, h2, hn, h3.imp id ?_⟩
  rintro ⟨g, o, h4, h5, h6⟩
  refine ⟨g, o, h4, Nat.lt_of_lt_of_le h5 hb.size, fun j hj => ?_⟩
  obtain ⟨x, a, b, c⟩ := h6 j hj
  exact ⟨x, (hb.cell (p := ⟨g, _, none⟩) h5).trans a, (hb.cell (p := ⟨g, _, none⟩) h5).trans b, c.below hb⟩
theorem LayR.at {v : World} {ad : Option Addr} {n cap : Nat} {l : P.Lays} (h : LayR v (.slice ad n cap) l) (j : Nat) (hj : j < l.length) : ∃ g o, ad = some ⟨g, o, none⟩ ∧ g < v.heap.size ∧ ∃ x, v.cell? ⟨g, o + j * 2, none⟩ = some x ∧ v.cell? ⟨g, o + j * 2 + 1, none⟩ = some (.bool (l[j]'hj).2) ∧ EntR v x (l[j]'hj).1 := by
  obtain ⟨ad', cap', he, _, _, h3⟩ := h
  injection he with h1 h2 h4
  rcases h3 with h3 | ⟨g, o, h5, h6, h7⟩
  · rw [h3] at hj; exact absurd hj (Nat.not_lt_zero _)
  · exact ⟨g, o, h1.trans h5, h6, h7 j hj⟩
def layE : ElT P.Lay := fun v F cs e => ∃ x, cs = [x, .bool e.2] ∧ RowO 2 entE v F x e.1
abbrev Lays := RowO 2 layE
theorem Lays.read {v : World} {F : Blk} {u : Value} {l : P.Lays} (h : Lays v F u l) : LayR v u l := by
  obtain ⟨ad, cap, h1, h2, hn, h3⟩ := h
  refine ⟨ad, cap, h1, by omega, hn.1, h3.imp id ?_⟩
  rintro ⟨g, o, G, C, h4, h5⟩
  refine ⟨g, o, h4, h5.lt _ h5.own, fun j hj => ?_⟩
  obtain ⟨x, he, hx⟩ := h5.el j hj
  have hc := (h5.cel j hj 0 (by rw [he]; simp)).1
  have hd := (h5.cel j hj 1 (by rw [he]; simp)).1
  simp only [he, List.getElem_cons_zero, List.getElem_cons_succ, Nat.add_zero] at hc hd
  exact ⟨x, hc, hd, Ents.read hx⟩
end
section
namespace P
end P
open Go Go.RowKit
set_option maxHeartbeats 1000000
set_option maxRecDepth 100000
end
section
open Go Go.RowKit
set_option maxHeartbeats 1000000
set_option maxRecDepth 100000
end
end Go.Proofs.YtmlklnimoknojaaGreatDoor
namespace Go.Proofs.YtmlklnimoknojaaGreatDoor
section
def P.layers (l : P.Lays) : Bool := l.all fun e => P.dic e.1
def P.stack (l : P.Lays) : Bool := decide ((l.length : Int) ≤ 4) && P.layers l
open Go Go.RowKit
set_option maxHeartbeats 1000000
set_option maxRecDepth 100000
end
namespace P
end P
end Go.Proofs.YtmlklnimoknojaaGreatDoor
