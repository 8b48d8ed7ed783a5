/- Walks: a session as text (program and reference). -/
import Derived.Deep.DeepCutAuto
import Derived.Deep.RegionHeld
import Derived.Test.YtmlklnimoknojaaGreatDoorSesV
import Derived.Test.YtmlklnimoknojaaGreatDoorPlainSes
import Derived.Test.YtmlklnimoknojaaGreatDoorLSplit
import Derived.Test.YtmlklnimoknojaaGreatDoorCurE3
import Derived.Test.YtmlklnimoknojaaGreatDoorScrI
namespace Go.Proofs.YtmlklnimoknojaaGreatDoor
open Go Go.RowKit
set_option maxHeartbeats 4000000
set_option maxRecDepth 100000
theorem P.sess_slist {l : P.Dic} {st : List Int} {sc d p : Str} {n : Int} (h : P.sess l st sc d p n = true) : P.slist st = true ∧ sc.length ≤ 2000 := by
  unfold P.sess at h
  simp only [Bool.and_eq_true] at h
  obtain ⟨h1, _⟩ := P.trans_parts h.1
  exact ⟨(P.scr_ok h1).2.1, P.screen_len (P.trans_screen h.1)⟩
/-- strings joined by a byte -/
theorem joinStrs (B : Nat) (u : Value) (l : List Str) (c : UInt8) (w : World) (h : OwnStrs B w u l) (hl : l.length ≤ 2 ^ 20) (hx : (Lib.join l [c]).length ≤ 2 ^ 30) :
    Calls Tryz.prog 172 #[u, .string (S [c])] w fun e w' => e = .returned (.string (S (Lib.join l [c]))) ∧ Below w.heap.size w w' := by
  cases l with
  | nil =>
    have hu : ∃ a cap, u = .slice a 0 cap := by
      rcases h.2 with ⟨rfl, _⟩ | ⟨g, cap, cur, rfl, _⟩
      · exact ⟨_, _, rfl⟩
      · exact ⟨_, _, rfl⟩
    obtain ⟨a, cap, rfl⟩ := hu
    refine (Tryz.strings_Join_none a cap (S [c]) w).mono ?_
    rintro e w' ⟨rfl, rfl⟩
    exact ⟨rfl, Below.refl _ _⟩
  | cons x r =>
    rcases id h.2 with ⟨_, h0⟩ | ⟨g, cap, cur, hv, hg, hh, hnc, _⟩
    · simp at h0
    · have hob : u.ownBlock = some g := by rw [hv]; rfl
      have hgl := (World.ownsRow.lt h g hob).2
      have hj := Tryz.strings_Join g 0 cap ((x :: r).map S) (S [c]) w (by
        intro j y hy
        rw [List.getElem?_map] at hy
        cases hq : (x :: r)[j]? with
        | none => rw [hq] at hy; simp at hy
        | some z =>
          rw [hq] at hy
          simp only [Option.map_some, Option.some.injEq] at hy
          subst hy
          have hc := World.ownsRow.cells h hob j (.string (S z)) (by unfold strVals; rw [List.getElem?_map, hq]; rfl)
          rw [add0] at hc
          rw [Nat.zero_add]
          exact hc) hgl (by simp at hl ⊢; omega) (by simpa using hnc) (by
        rw [List.map_map, S_dataList, show ((fun x : ByteArray => x.data.toList) ∘ S) = id from funext fun z => S_dataList z, List.map_id]; omega)
      rw [List.length_map] at hj
      rw [hv]
      refine hj.mono ?_
      rintro e w' ⟨rfl, hb⟩
      refine ⟨?_, hb⟩
      rw [List.map_map, S_dataList, show ((fun x : ByteArray => x.data.toList) ∘ S) = id from funext fun z => S_dataList z, List.map_id]
      rfl
theorem notation47 (us : Value) (st : List Int) (w : World) (hus : IntR w us st) (hs : P.slist st = true) :
    Calls Tryz.prog 112 #[us] w fun e w' => e = .returned (.string (S (P.fmtS 47 st))) ∧ Below w.heap.size w w' := by
  obtain ⟨i0, hi, hz0, hz1, hz2⟩ := info_parts L.info_str
  have HUS := Lib.hid hus; have HSL := Lib.hid hs
  have hl60 := P.slist_len hs
  obtain ⟨sd, sap, rfl, _, _⟩ := hus
  clear hs
  go_enter Tryz.func112, Tryz.ntmps112
  have HOW := Lib.hid (show OwnStrs w.heap.size (w.alloc (.cells #[] 9)) (.slice (some ⟨w.heap.size, 0, none⟩) 0 0) [] from by have h := World.ownsRow_lit (base := w.heap.size) (e := 9) (size := 1) w #[] 0 (Nat.le_refl _) (Nat.zero_le _) (by simp); simpa [OwnStrs, strVals] using h)
  have HB0 := Lib.hid ((Below.refl w.heap.size w).alloc (Nat.le_refl _) (.cells #[] 9))
  go_wp2
  go_loopw [3, 11] (fun v i wr => ∃ k : Nat, k ≤ st.length ∧ i = .int .i64 k ∧ (∃ ws, ws = (st.take k).map P.fmt ∧ OwnStrs w.heap.size wr v ws) ∧ Below w.heap.size w wr) (fun _ i _ => st.length - (intOf i).toNat)
  case atStart => exact ⟨0, Nat.zero_le _, rfl, ⟨_, rfl, HOW.out⟩, HB0.out⟩
  case round =>
    obtain ⟨k, hk, rfl, ⟨ws, hws, hown⟩, hbel⟩ := hrel
    have HOWN := Lib.hid hown; have HBEL := Lib.hid hbel; have HWS := Lib.hid hws
    have hsz := HBEL.out.size
    clear hown hbel hws HOW HB0
    by_cases hlt : k < st.length
    · obtain ⟨m, hm, hms, hmd⟩ := P.stroke_nat HSL.out hlt
      have HMS := Lib.hid hms
      obtain ⟨g, o, hga, hgl, c0⟩ := (HUS.out.below HBEL.out).at k hlt
      subst hga
      rw [hm] at c0
      have HSN := Lib.hid (show ws ++ [P.fmt (m : Int)] = (st.take (k + 1)).map P.fmt from by rw [HWS.out, take_snoc st k hlt, hm, List.map_append]; rfl)
      have i1 : (k : Int) < (st.length : Int) := by omega
      clear hm hmd hms
      go_wp2_with fail
      refine (impl_formatStroke m _ HMS.out).mono ?_
      rintro e w1 ⟨rfl, hb⟩
      have HO1 := Lib.hid (show OwnStrs w.heap.size w1 _ ws from own_kept HOWN.out hb (Nat.le_refl _)); have HB1 := Lib.hid (HBEL.out.trans (hb.mono hsz))
      have hsz1 : w.heap.size ≤ w1.heap.size := HB1.out.size
      have hlm : ws.length ≤ 60 := by rw [HWS.out, List.length_map, List.length_take]; omega
      clear hb c0 hgl HOWN HBEL
      go_wp2_with (at_builtin; refine wpList_append_own _ rfl _ _ 141 rfl w.heap.size 9 i0 (.string ⟨#[]⟩) 1 16 Tryz.underlying141 hi hz0 hz1 hz2 rfl (by decide) _ _ _ rfl (HO1.out.alloc _) ⟨w1.heap.size, 0, none⟩ 1 1 [.string (S (P.fmt (m : Int)))] rfl rfl ?c1 ?c2 ?c3 ?c4 ?c5 ?_)
      case c1 => intro j u hj; match j, hj with | 0, hj => (simp at hj; subst hj; simp [Addr.add])
      case c2 => intro u hu; simp at hu; subst hu; rfl
      case c3 => unfold maxLen; omega
      case c4 => omega
      case c5 => simp; omega
      intro v' w2 hown' hgrow _
      have R := Lib.hid (L.split_rel hsz1 HO1.out HB1.out hown' hgrow)
      clear hown' hgrow HO1 HB1
      go_wp2
      go_roundw
      case rel =>
        repeat apply Exists.intro
        refine ⟨?_, rfl⟩
        exact ⟨k + 1, by omega, by go_num, ⟨_, HSN.out, R.out.1⟩, R.out.2⟩
      case measure => simp [intOf]; omega
    · have hkl : k = st.length := by omega
      subst hkl
      have HO1 := Lib.hid (show OwnStrs w.heap.size wr _ (st.map P.fmt) from by have h := HOWN.out; rw [HWS.out, List.take_length] at h; exact h)
      have HBL := Lib.hid HBEL.out
      have hjl := P.fmtS_len 47 st
      clear HOWN HBEL
      go_wp2_with fail
      refine (joinStrs w.heap.size _ (st.map P.fmt) 47 _ HO1.out (by rw [List.length_map]; omega) (by unfold P.fmtS at hjl; omega)).mono ?_
      rintro e w1 ⟨rfl, hb⟩
      have HB1 := Lib.hid (HBL.out.trans (hb.mono hsz))
      clear hb
      go_wp2
      go_ret
      exact ⟨rfl, HB1.out⟩
/-- what a session's text is -/
def P.sesText (l : P.Dic) (st : List Int) (sc d p : Str) (n : Int) : Str × Bool := if P.sess l st sc d p n && decide ((P.sessText st sc).length ≤ 4000) then (P.sessText st sc, true) else ([], false)
theorem replaceSlash (st : List Int) (w : World) (hE : Env w) (hl : st.length ≤ 60) :
    Calls Tryz.prog 111 #[.string (S (P.fmtS 47 st)), .string (S [47]), .string (S [32])] w fun e w' => e = .returned (.string (S (P.fmtS 32 st))) ∧ Below w.heap.size w w' := by
  obtain ⟨n, hm⟩ := hE.2
  have hl := P.fmtS_len 47 st
  have hc := Lib.countB_mul_le (S [47]) (by decide) (S (P.fmtS 47 st)).size (S (P.fmtS 47 st)) (Nat.le_refl _)
  have hc2 : Lib.countB (S (P.fmtS 47 st)) (S [47]) ≤ (P.fmtS 47 st).length := by rw [S_size, S_size] at hc; simpa using hc
  refine (Tryz.strings_ReplaceAll (S (P.fmtS 47 st)) (S [47]) (S [32]) n w (by rw [S_size]; omega) hm (by decide) (by rw [S_size, S_size]; simp; omega)).mono ?_
  rintro e w' ⟨rfl, hb⟩
  rw [S_dataList, S_dataList, S_dataList, P.fmtS_repl]
  exact ⟨rfl, hb⟩
theorem impl_formatSession (u us : Value) (l : P.Dic) (st : List Int) (sc d p : Str) (n : Int) (w : World) (hu : EntR w u l) (hus : IntR w us st) (hm : Small l) (hd : d.length ≤ 2 ^ 20) (hp : p.length ≤ 2 ^ 20) (hE : L.Env w) :
    Calls Tryz.prog 47 #[sessV u us sc d p n] w (RenPost (P.sesText l st sc d p n) w) := by
  have hb0 := (Below.refl w.heap.size w).alloc (Nat.le_refl _) (sessCells u us sc d p n)
  have HU := Lib.hid (hu.below hb0); have HUS := Lib.hid (hus.below hb0); have HX := Lib.hid (SBox.new u us sc d p n w); have HE := Lib.hid (hE.below hb0 hE.size); have HB := Lib.hid hb0
  clear hb0 hE
  obtain ⟨ad, cap, rfl, _, _⟩ := hu
  obtain ⟨sd, sap, rfl, _, _⟩ := hus
  go_enter Tryz.func47, Tryz.ntmps47
  go_upto_region 1 with fail
  generalize w.alloc (sessCells (.slice ad l.length cap) (.slice sd st.length sap) sc d p n) = v0 at *
  obtain ⟨c0, c1, c2, c3, c4, c5, _⟩ := HX.out
  go_wp2_with fail
  refine (impl_isValidSession _ _ l st sc d p n _ HU.out HUS.out hm hd hp HE.out).mono ?_
  rintro e w1 ⟨rfl, hb⟩
  have HX1 := Lib.hid (HX.out.below hb); have HE1 := Lib.hid (HE.out.below hb HE.out.size); have HB1 := Lib.hid (HB.out.trans (hb.mono HB.out.size)); have HUS1 := Lib.hid (HUS.out.below hb)
  have HP := Lib.hid (show P.sesText l st sc d p n = if P.sess l st sc d p n && decide ((P.sessText st sc).length ≤ 4000) then (P.sessText st sc, true) else ([], false) from rfl)
  have HSL := Lib.hid (fun h => P.sess_slist (l := l) (st := st) (sc := sc) (d := d) (p := p) (n := n) h)
  clear hb c0 c1 c2 c3 c4 c5 HX HE HB HU HUS
  generalize P.sess l st sc d p n = q at *
  cases q
  · go_wp2
    go_ret2
    exact ⟨by rw [HP.out]; rfl, HB1.out⟩
  · obtain ⟨hsl, hscl⟩ := HSL.out rfl
    have HSL2 := Lib.hid hsl; have HSC := Lib.hid hscl
    clear hsl hscl HSL
    have hdd : Below w1.heap.size w1 w1.drew := (Below.refl _ _).drew
    have HX2 := Lib.hid (HX1.out.below hdd); have HE2 := Lib.hid (HE1.out.below hdd HE1.out.size); have HB2 := Lib.hid (HB1.out.trans (hdd.mono HB1.out.size)); have HUS2 := Lib.hid (HUS1.out.below hdd)
    clear hdd HX1 HE1 HB1 HUS1
    go_upto_region 3 with fail
    refine wp_region_held_drew (S := SBox w.heap.size (.slice ad l.length cap) (.slice sd st.length sap) sc d p n) (by kernel_rfl) HX2.out (fun hS0 => ?_)
    generalize w1.drew = v1 at *
    refine wpAnyH_take (i := 0) (v := .pointer (some ⟨w.heap.size, 1, none⟩)) rfl (by kernel_rfl) (by kernel_rfl) (by kernel_rfl) (fun _ _ _ h => h) (Or.inl ⟨by rfl, fun z hz => ?_⟩) hS0 ?_
    · obtain ⟨z0, z1, z2, z3, z4, z5, z6⟩ := hz
      go_simp
    try simp only [qA, qB, Act.put, qD, qE, qF]
    refine wpAnyH_take (i := 1) (v := .pointer (some ⟨w.heap.size, 1, none⟩)) rfl (by kernel_rfl) (by kernel_rfl) (by kernel_rfl) (fun _ _ _ h => h) (Or.inl ⟨by rfl, fun z hz => ?_⟩) hS0 ?_
    · obtain ⟨z0, z1, z2, z3, z4, z5, z6⟩ := hz
      go_simp
    try simp only [qA, qB, qC, Act.put, qD, qE, qF]
    refine wpAnyH_take (i := 2) (v := .slice sd st.length sap) rfl (by kernel_rfl) (by kernel_rfl) (by kernel_rfl) (fun _ _ _ h => h) (Or.inl ⟨by rfl, fun z hz => ?_⟩) hS0 ?_
    · obtain ⟨z0, z1, z2, z3, z4, z5, z6⟩ := hz
      go_simp
    try simp only [qA, qB, qC, Act.put, qD, qE, qF]
    refine wpAnyH_take (i := 6) (v := .pointer (some ⟨w.heap.size, 1, none⟩)) rfl (by kernel_rfl) (by kernel_rfl) (by kernel_rfl) (fun _ _ _ h => h) (Or.inl ⟨by rfl, fun z hz => ?_⟩) hS0 ?_
    · obtain ⟨z0, z1, z2, z3, z4, z5, z6⟩ := hz
      go_simp
    try simp only [qA, qB, qC, Act.put, qD, qE, qF]
    refine wpAnyH_take (i := 7) (v := .pointer (some ⟨w.heap.size, 2, none⟩)) rfl (by kernel_rfl) (by kernel_rfl) (by kernel_rfl) (fun _ _ _ h => h) (Or.inl ⟨by rfl, fun z hz => ?_⟩) hS0 ?_
    · obtain ⟨z0, z1, z2, z3, z4, z5, z6⟩ := hz
      go_simp
    try simp only [qA, qB, qC, Act.put, qD, qE, qF]
    refine wpAnyH_take (i := 8) (v := .string (S sc)) rfl (by kernel_rfl) (by kernel_rfl) (by kernel_rfl) (fun _ _ _ h => h) (Or.inl ⟨by rfl, fun z hz => ?_⟩) hS0 ?_
    · obtain ⟨z0, z1, z2, z3, z4, z5, z6⟩ := hz
      go_simp
    try simp only [qA, qB, qC, Act.put, qD, qE, qF]
    refine wpAnyH_ready (rs := [3]) (by kernel_rfl) (by simp) ?_
    refine AllReadyH.cons rfl (fun K hK => ?_) AllReadyH.nil
    go_simp
    refine (notation47 _ st _ HUS2.out HSL2.out).mono ?_
    rintro e w2 ⟨rfl, hb⟩
    have HE3 := Lib.hid (HE2.out.below hb HE2.out.size); have HB3 := Lib.hid (HB2.out.trans (hb.mono HB2.out.size))
    refine hK.out _ _ (hS0.below hb) (fun hS1 => ?_)
    clear hK K hb HE2 HB2 hS0 HUS2
    try simp only [qA, qB, qC, Act.put, qD, qE, qF]
    refine wpAnyH_ready (rs := [4]) (by kernel_rfl) (by simp) ?_
    refine AllReadyH.cons rfl (fun K hK => ?_) AllReadyH.nil
    go_simp
    refine (replaceSlash st _ HE3.out.dic (P.slist_len HSL2.out)).mono ?_
    rintro e w3 ⟨rfl, hb⟩
    have HB4 := Lib.hid (HB3.out.trans (hb.mono HB3.out.size))
    refine hK.out _ _ (hS1.below hb) (fun hS2 => ?_)
    clear hK K hb HE3 HB3 hS1
    have hfl := P.fmtS_len 32 st
    have hs60 := P.slist_len HSL2.out
    have hsc := HSC.out
    have HST := Lib.hid (show P.sessText st sc = P.fmtS 32 st ++ [10] ++ sc from rfl)
    generalize P.fmtS 32 st = ff at *
    have j1 : ¬ 9223372036854775807 < ff.length + 1 := by omega
    have j2 : ¬ 9223372036854775807 < ff.length + 1 + sc.length := by omega
    try simp only [qA, qB, qC, Act.put, qD, qE, qF]
    refine wpAnyH_take (i := 5) (v := .string (S (ff ++ [10]))) rfl (by kernel_rfl) (by kernel_rfl) (by kernel_rfl) (fun _ _ _ h => h) (Or.inl ⟨by rfl, fun z hz => ?_⟩) hS2 ?_
    · obtain ⟨z0, z1, z2, z3, z4, z5, z6⟩ := hz
      go_simp
    try simp only [qA, qB, qC, Act.put, qD, qE, qF]
    refine wpAnyH_take (i := 9) (v := .string (S (ff ++ [10] ++ sc))) rfl (by kernel_rfl) (by kernel_rfl) (by kernel_rfl) (fun _ _ _ h => h) (Or.inl ⟨by rfl, fun z hz => ?_⟩) hS2 ?_
    · obtain ⟨z0, z1, z2, z3, z4, z5, z6⟩ := hz
      go_simp
    try simp only [qA, qB, qC, Act.put, qD, qE, qF]
    refine wpAnyH_ready (rs := [10]) (by kernel_rfl) (by simp) ?_
    refine AllReadyH.cons rfl (fun K hK => ?_) AllReadyH.nil
    go_simp
    refine hK.out _ _ hS2 (fun hS3 => ?_)
    clear hK K hS2
    try simp only [qA, qB, qC, Act.put, qD, qE, qF]
    refine wpAnyH_done (by kernel_rfl) ?_ _
    clear hS3
    rw [HST.out] at HP
    have hll : (ff ++ [10] ++ sc).length = ff.length + 1 + sc.length := by simp; omega
    obtain ⟨tx, htx⟩ : ∃ tx, ff ++ [10] ++ sc = tx := ⟨_, rfl⟩
    have htx2 : ff ++ 10 :: sc = tx := by rw [← htx]; simp
    rw [htx] at HP hll
    try rw [htx]
    try rw [htx2]
    by_cases h4 : 4000 < tx.length
    · have i4 : (4000 : Int) < (tx.length : Int) := by omega
      go_wp2
      go_ret2
      exact ⟨by rw [HP.out]; simp [show ¬ tx.length ≤ 4000 by omega]; rfl, HB4.out⟩
    · have i4 : ¬ (4000 : Int) < (tx.length : Int) := by omega
      go_wp2
      go_ret2
      exact ⟨by rw [HP.out]; simp [show tx.length ≤ 4000 by omega], HB4.out⟩
theorem spec_formatSession (u us : Value) (l : P.Dic) (st : List Int) (sc d p : Str) (n : Int) (w : World) (hu : EntR w u l) (hus : IntR w us st) (hm : Small l) (hd : d.length ≤ 2 ^ 20) (hp : p.length ≤ 2 ^ 20) :
    Calls Tryz.prog 46 #[sessV u us sc d p n] w (RenPost (P.sesText l st sc d p n) w) := by
  have hb0 := (Below.refl w.heap.size w).alloc (Nat.le_refl _) (sessCells u us sc d p n)
  have HU := Lib.hid (hu.below hb0); have HUS := Lib.hid (hus.below hb0); have HX := Lib.hid (SBox.new u us sc d p n w); have HB := Lib.hid hb0
  clear hb0
  obtain ⟨ad, cap, rfl, _, _⟩ := hu
  obtain ⟨sd, sap, rfl, _, _⟩ := hus
  go_enter Tryz.func46, Tryz.ntmps46
  go_upto_region 1 with fail
  generalize w.alloc (sessCells (.slice ad l.length cap) (.slice sd st.length sap) sc d p n) = v0 at *
  obtain ⟨c0, c1, c2, c3, c4, c5, _⟩ := HX.out
  go_wp2_with fail
  refine (l25Good _ _ l st sc d p n _ HU.out HUS.out hm hd hp).mono ?_
  rintro e w1 ⟨rfl, hb⟩
  have HX1 := Lib.hid (HX.out.below hb); have HB1 := Lib.hid (HB.out.trans (hb.mono HB.out.size)); have HUS1 := Lib.hid (HUS.out.below hb)
  have HP := Lib.hid (show P.sesText l st sc d p n = if P.sess l st sc d p n && decide ((P.sessText st sc).length ≤ 4000) then (P.sessText st sc, true) else ([], false) from rfl)
  have HSL := Lib.hid (fun h => P.sess_slist (l := l) (st := st) (sc := sc) (d := d) (p := p) (n := n) h)
  clear hb c0 c1 c2 c3 c4 c5 HX HB HU HUS
  generalize P.sess l st sc d p n = q at *
  cases q
  · go_wp2
    go_ret2
    exact ⟨by rw [HP.out]; rfl, HB1.out⟩
  · obtain ⟨hsl, hscl⟩ := HSL.out rfl
    have HSL2 := Lib.hid hsl; have HSC := Lib.hid hscl
    have hs60 := P.slist_len hsl
    clear hsl hscl HSL
    go_wp2
    go_loopw [4, 5] (fun v i wr => ∃ k : Nat, k ≤ st.length ∧ i = .int .i64 k ∧ v = .string (S (P.fmtS 32 (st.take k))) ∧ Below w1.heap.size w1 wr) (fun _ i _ => st.length - (intOf i).toNat)
    case atStart => exact ⟨0, Nat.zero_le _, rfl, rfl, Below.refl _ _⟩
    case round =>
      obtain ⟨k, hk, rfl, rfl, hbk⟩ := hrel
      have HBK := Lib.hid hbk
      have HX2 := Lib.hid (HX1.out.below hbk)
      clear hbk
      obtain ⟨c0, c1, c2, c3, c4, c5, _⟩ := HX2.out
      by_cases hlt : k < st.length
      · obtain ⟨m, hm', hms, hmd⟩ := P.stroke_nat HSL2.out hlt
        have HM := Lib.hid (show m < 2 ^ 23 by unfold P.stroke at hms; simp only [decide_eq_true_eq] at hms; omega)
        obtain ⟨g, o, hga, hgl, d0⟩ := (HUS1.out.below HBK.out).at k hlt
        subst hga
        rw [hm'] at d0
        have i1 : (k : Int) < (st.length : Int) := by omega
        have hfl := P.fmtS_len 32 (st.take k)
        have htk : (st.take k).length = k := by rw [List.length_take]; omega
        have HFM := Lib.hid (P.fmt_len (m : Int))
        have hfl2 : (P.fmtS 32 (st.take k)).length ≤ 2820 := by rw [htk] at hfl; omega
        clear hfl
        by_cases hk0 : k = 0
        · subst hk0
          have HSN := Lib.hid (show P.fmtS 32 (st.take (0 + 1)) = P.fmtS 32 (st.take 0) ++ P.fmt (m : Int) from by rw [take_snoc st 0 hlt, hm']; exact P.fmtS_one 32 (m : Int))
          clear hm' hmd hms htk
          rw [Nat.add_zero] at d0
          generalize P.fmtS 32 (st.take 0) = ff at *
          go_wp2_with fail
          refine (l2Format m _ HM.out).mono ?_
          rintro e w2 ⟨rfl, hb⟩
          have HB2 := Lib.hid (HBK.out.trans (hb.mono HBK.out.size))
          have hfm := HFM.out
          generalize P.fmt (m : Int) = fm at *
          have j1 : ¬ 9223372036854775807 < ff.length + fm.length := by omega
          clear hb c0 c1 c2 c3 c4 c5 d0 HBK HX2
          go_wp2
          go_roundw
          case rel => exact ⟨0 + 1, by omega, by go_num, by rw [HSN.out], HB2.out⟩
          case measure => simp [intOf]; omega
        · have HSN := Lib.hid (show P.fmtS 32 (st.take (k + 1)) = P.fmtS 32 (st.take k) ++ [32] ++ P.fmt (m : Int) from by rw [take_snoc st k hlt, hm']; exact P.fmtS_snoc 32 _ _ (fun h => by rw [h] at htk; simp at htk; omega))
          have i2 : (0 : Int) < (k : Int) := by omega
          clear hm' hmd hms
          generalize P.fmtS 32 (st.take k) = ff at *
          have j0 : ¬ 9223372036854775807 < ff.length + 1 := by omega
          go_wp2_with fail
          refine (l2Format m _ HM.out).mono ?_
          rintro e w2 ⟨rfl, hb⟩
          have HB2 := Lib.hid (HBK.out.trans (hb.mono HBK.out.size))
          have hfm := HFM.out
          generalize P.fmt (m : Int) = fm at *
          have j1 : ¬ 9223372036854775807 < ff.length + 1 + fm.length := by omega
          clear hb c0 c1 c2 c3 c4 c5 d0 HBK HX2
          go_wp2
          go_roundw
          case rel => exact ⟨k + 1, by omega, by go_num, by rw [HSN.out]; simp, HB2.out⟩
          case measure => simp [intOf]; omega
      · have hkl : k = st.length := by omega
        subst hkl
        have HBL := Lib.hid (HB1.out.trans (HBK.out.mono HB1.out.size))
        have hfl := P.fmtS_len 32 st
        have hsc := HSC.out
        have HST := Lib.hid (show P.sessText st sc = P.fmtS 32 st ++ [10] ++ sc from rfl)
        clear HBK HX2
        rw [List.take_length]
        generalize P.fmtS 32 st = ff at *
        rw [HST.out] at HP
        have hll : (ff ++ [10] ++ sc).length = ff.length + 1 + sc.length := by simp; omega
        have j1 : ¬ 9223372036854775807 < ff.length + 1 := by omega
        have j2 : ¬ 9223372036854775807 < ff.length + 1 + sc.length := by omega
        by_cases h4 : 4000 < ff.length + 1 + sc.length
        · have i4 : (4000 : Int) < (ff.length : Int) + 1 + (sc.length : Int) := by omega
          have i5 : (4000 : Int) < (((ff ++ [10] ++ sc).length : Nat) : Int) := by omega
          have i6 : (4000 : Int) < (((ff ++ 10 :: sc).length : Nat) : Int) := by simp; omega
          go_wp2
          go_ret2
          exact ⟨by rw [HP.out, hll]; simp [show ¬ ff.length + 1 + sc.length ≤ 4000 by omega]; rfl, HBL.out⟩
        · have i4 : ¬ (4000 : Int) < (ff.length : Int) + 1 + (sc.length : Int) := by omega
          have i5 : ¬ (4000 : Int) < (((ff ++ [10] ++ sc).length : Nat) : Int) := by omega
          have i6 : ¬ (4000 : Int) < (((ff ++ 10 :: sc).length : Nat) : Int) := by simp; omega
          go_wp2
          go_ret2
          exact ⟨by rw [HP.out, hll]; simp [show ff.length + 1 + sc.length ≤ 4000 by omega], HBL.out⟩
end Go.Proofs.YtmlklnimoknojaaGreatDoor
