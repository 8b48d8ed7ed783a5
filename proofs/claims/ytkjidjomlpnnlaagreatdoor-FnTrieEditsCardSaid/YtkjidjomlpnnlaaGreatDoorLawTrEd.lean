/- The law of a trie's edits: they agree with the dictionary's. -/
import Derived.Deep.DeepCutAuto
import Derived.Deep.RegionHeld
import Derived.Test.YtkjidjomlpnnlaaGreatDoorDrawTE
import Derived.Test.YtkjidjomlpnnlaaGreatDoorRLists
import Derived.Test.YtkjidjomlpnnlaaGreatDoorTripT
import Derived.Test.YtkjidjomlpnnlaaGreatDoorWalkT
import Derived.Test.YtkjidjomlpnnlaaGreatDoorFDict3
namespace Go.Proofs.YtkjidjomlpnnlaaGreatDoor
open Go Go.RowKit
set_option maxHeartbeats 8000000
set_option maxRecDepth 100000
/-- the drawn trie and entry in their boxes -/
structure TE (T E : Nat) (w : World) (tv : Value) (t : P.Tri) (ov : Value) (o : List Int) (tx : Str) (v : World) : Prop where
  bt : DBx T tv v
  be : EnBx E ov tx v
  rt : NodR v tv t
  ro : IntR v ov o
  bel : Below w.heap.size w v
  env : Env v
theorem TE.below {T E : Nat} {w : World} {tv : Value} {t : P.Tri} {ov : Value} {o : List Int} {tx : Str} {v v' : World} (h : TE T E w tv t ov o tx v) (hb : Below v.heap.size v v') : TE T E w tv t ov o tx v' := by
  obtain ⟨h1, h2, h3, h4, h5, h6⟩ := h
  exact ⟨h1.below hb, h2.below hb, h3.below hb, h4.below hb, h5.trans (hb.mono h5.size), h6.below hb h6.size⟩
/-- a trie in its box -/
structure TB (M : Nat) (mv : Value) (m : P.Tri) (v : World) : Prop where
  bx : DBx M mv v
  rd : NodR v mv m
theorem TB.below {M : Nat} {mv : Value} {m : P.Tri} {v v' : World} (h : TB M mv m v) (hb : Below v.heap.size v v') : TB M mv m v' := ⟨h.bx.below hb, h.rd.below hb⟩
/-- a dictionary in its box -/
structure DB (M : Nat) (mv : Value) (m : P.Dic) (v : World) : Prop where
  bx : DBx M mv v
  rd : EntR v mv m
theorem DB.below {M : Nat} {mv : Value} {m : P.Dic} {v v' : World} (h : DB M mv m v) (hb : Below v.heap.size v v') : DB M mv m v' := ⟨h.bx.below hb, h.rd.below hb⟩
theorem keptT_texts {ok : Bool} {m : P.Tri} (h : ∀ n ∈ m, n.2.2.2.length ≤ 2 ^ 30) : ∀ n ∈ P.keptT ok m, n.2.2.2.length ≤ 2 ^ 30 := by
  cases ok
  · intro n hn; cases hn
  · exact h
theorem small_putF {e : P.Ent} {l : P.Dic} (h : Small l) (hl : l.length < 2 ^ 20) (h1 : e.1.length ≤ 2 ^ 20) (h2 : e.2.length ≤ 2 ^ 30) : Small (P.putF e false l) := by
  refine ⟨by have := P.put_len e l; omega, fun x hx => ?_, fun x hx => ?_⟩
  · rcases (P.putF_mem e l x).1 hx with rfl | hx
    · exact h1
    · exact h.outs x (P.del_sub hx)
  · rcases (P.putF_mem e l x).1 hx with rfl | hx
    · exact h2
    · exact h.texts x (P.del_sub hx)
theorem law_trieEdits (v : Value) (w : World) (hc : CodeAny w v) (hE : Env w) :
    Calls Tryz.prog 7 #[v] w fun e w' => e = .returned (.bool true) ∧ Below w.heap.size w w' := by
  obtain ⟨ad, n, cap, rfl, hn, hr⟩ := hc
  have HE := Lib.hid hE
  clear hE
  go_enter Tryz.func7, Tryz.ntmps7
  go_wp2_with fail
  refine (rBig _ n ad cap rfl hn _).mono ?_
  rintro e w' ⟨rfl, rfl⟩
  cases hbig : decide (65536 < n)
  · have hn2 : n ≤ 65536 := by have := of_decide_eq_false hbig; omega
    have HCD := Lib.hid (show CodeIs w (.slice ad n cap) from ⟨ad, n, cap, rfl, hn2, hr⟩)
    clear hbig hr
    go_wp2_with fail
    refine (drawInsertTrie _ _ HCD.out).mono ?_
    rintro e w1 ⟨t, o, tx, u, ov, rfl, hdt, ho, htx, hu, hov, hb⟩
    have HX := Lib.hid (show ∀ n ∈ t, n.2.2.2.length ≤ 2 ^ 30 from fun n hn => by have := hdt.txt n hn; omega)
    have HSM := Lib.hid (small_getD HX.out)
    have hba : Below w1.heap.size w1 (w1.alloc (.cells #[u] 86)) := (Below.refl _ _).alloc (Nat.le_refl _) _
    have hbb : Below (w1.alloc (.cells #[u] 86)).heap.size (w1.alloc (.cells #[u] 86)) ((w1.alloc (.cells #[u] 86)).alloc (.cells #[ov, .string (S tx)] 38)) := (Below.refl _ _).alloc (Nat.le_refl _) _
    have hbt := hba.trans (hbb.mono hba.size)
    have hbw := hb.trans (hbt.mono hb.size)
    have HT := Lib.hid (show TE w1.heap.size (w1.heap.size + 1) w u t ov o tx ((w1.alloc (.cells #[u] 86)).alloc (.cells #[ov, .string (S tx)] 38)) from
      ⟨(DBx.new u 86 w1).below hbb, by have h := EnBx.new ov tx 38 (w1.alloc (.cells #[u] 86)); simpa using h, hu.below hbt, hov.below hbt, hbw, HE.out.below hbw HE.out.size⟩)
    obtain ⟨ua, uc, rfl, _, _⟩ := hu
    obtain ⟨oa, oc, rfl, _, _⟩ := hov
    clear hdt hba hbb hbt hbw hb HE
    obtain ⟨t0, _⟩ := HT.out.bt
    obtain ⟨e0, e1, _⟩ := HT.out.be
    go_wp2_with fail
    refine (impl_insertTrie _ _ t o tx _ HT.out.rt HT.out.ro (by omega) (by omega) HX.out HT.out.env).mono ?_
    rintro e w2 ⟨x2, rfl, hO, hb⟩
    generalize hok : P.insTOk (P.dictI t) (o, tx) = ok at *
    have HOK := Lib.hid hok; clear hok
    generalize hrow : P.trie (P.putF (o, tx) false ((P.dictI t).getD [])) = row at *
    have HROW := Lib.hid hrow; clear hrow
    generalize hk : P.keptT ok row = k at *
    have HK := Lib.hid hk; clear hk
    have hba : Below w2.heap.size w2 (w2.alloc (.cells #[x2] 86)) := (Below.refl _ _).alloc (Nat.le_refl _) _
    have hb2 := hb.trans (hba.mono hb.size)
    have HT2 := Lib.hid (HT.out.below hb2)
    have HM2 := Lib.hid (show TB w2.heap.size x2 k (w2.alloc (.cells #[x2] 86)) from ⟨DBx.new _ _ _, (Nods.read hO).below hba⟩)
    obtain ⟨ma, mc, rfl, _, _⟩ := Nods.read hO
    clear hO hb hba hb2 t0 e0 e1 HT
    obtain ⟨t0, _⟩ := HT2.out.bt
    obtain ⟨e0, e1, _⟩ := HT2.out.be
    go_wp2_with fail
    refine (spec_insertTrie _ _ t o tx _ HT2.out.rt HT2.out.ro (by omega) (by omega) HX.out).mono ?_
    rintro e w3 ⟨x3, rfl, hO, hb⟩
    rw [HOK.out, HROW.out, HK.out] at hO
    rw [HOK.out]
    have hba : Below w3.heap.size w3 (w3.alloc (.cells #[x3] 86)) := (Below.refl _ _).alloc (Nat.le_refl _) _
    have hb2 := hb.trans (hba.mono hb.size)
    have HT3 := Lib.hid (HT2.out.below hb2)
    have HM3 := Lib.hid (HM2.out.below hb2)
    have HN3 := Lib.hid (show TB w3.heap.size x3 k (w3.alloc (.cells #[x3] 86)) from ⟨DBx.new _ _ _, (Nods.read hO).below hba⟩)
    obtain ⟨na, nc, rfl, _, _⟩ := Nods.read hO
    clear hO hb hba hb2 t0 e0 e1 HT2 HM2
    obtain ⟨m0, _⟩ := HM3.out.bx
    obtain ⟨n0, _⟩ := HN3.out.bx
    go_wp2_with fail
    refine (rTrie _ _ k _ HM3.out.rd HN3.out.rd).mono ?_
    rintro e w4 ⟨rfl, hb⟩
    have HT4 := Lib.hid (HT3.out.below hb)
    have HM4 := Lib.hid (HM3.out.below hb)
    clear hb m0 n0 HT3 HM3 HN3
    obtain ⟨t0, _⟩ := HT4.out.bt
    go_wp2_with fail
    refine (impl_trieEntries _ t _ HT4.out.rt HX.out HT4.out.env).mono ?_
    rintro e w5 ⟨x5, rfl, hO, hb⟩
    have hba : Below w5.heap.size w5 (w5.alloc (.cells #[x5] 26)) := (Below.refl _ _).alloc (Nat.le_refl _) _
    have hb2 := hb.trans (hba.mono hb.size)
    have HT5 := Lib.hid (HT4.out.below hb2)
    have HM5 := Lib.hid (HM4.out.below hb2)
    have HD5 := Lib.hid (show DB w5.heap.size x5 ((P.dictI t).getD []) (w5.alloc (.cells #[x5] 26)) from ⟨DBx.new _ _ _, (Ents.read hO).below hba⟩)
    obtain ⟨da, dc, rfl, _, _⟩ := Ents.read hO
    generalize hdl : (P.dictI t).getD [] = dl at *
    have HDL := Lib.hid hdl; clear hdl
    generalize hds : (P.dictI t).isSome = ds at *
    have HDS := Lib.hid hds; clear hds
    clear hO hb hba hb2 t0 HT4 HM4
    go_upto_if 56 with fail
    go_cut [] (fun wx => Below w.heap.size w wx ∧ Env wx)
    case first =>
      cases ok
      · go_wp2
        go_meet
        exact ⟨HT5.out.bel, HT5.out.env⟩
      · obtain ⟨l, h1, h2, h3⟩ := P.edit_ins HOK.out
        have hl : dl = l := by rw [← HDL.out, h1]; rfl
        subst hl
        have hsm : ds = true := by rw [← HDS.out, h1]; rfl
        subst hsm
        have H2 := Lib.hid h2; have H3 := Lib.hid h3
        clear h1 h2 h3
        obtain ⟨d0, _⟩ := HD5.out.bx
        obtain ⟨e0, e1, _⟩ := HT5.out.be
        go_wp2_with fail
        refine (impl_insert _ _ dl o tx _ HD5.out.rd HT5.out.ro HSM.out (by omega) (by omega) HT5.out.env).mono ?_
        rintro e w6 ⟨x6, rfl, hI, hb⟩
        rw [H2.out] at hI ⊢
        have hba : Below w6.heap.size w6 (w6.alloc (.cells #[x6] 26)) := (Below.refl _ _).alloc (Nat.le_refl _) _
        have hb2 := hb.trans (hba.mono hb.size)
        have HT6 := Lib.hid (HT5.out.below hb2)
        have HM6 := Lib.hid (HM5.out.below hb2)
        have HD6 := Lib.hid (show DB w6.heap.size x6 (P.putF (o, tx) false dl) (w6.alloc (.cells #[x6] 26)) from ⟨DBx.new _ _ _, (Ents.read hI).below hba⟩)
        obtain ⟨xa, xc, rfl, _, _⟩ := HD6.out.rd
        have HSP := Lib.hid (show Small (P.putF (o, tx) false dl) from small_putF HSM.out (by have := HSM.out.len; have := P.dic_len (P.ins_dic H2.out).2; omega) (by simp; omega) (by simp; omega))
        clear hI hb hba hb2 d0 e0 e1 HT5 HM5 HD5
        obtain ⟨d0, _⟩ := HD6.out.bx
        go_wp2_with fail
        refine (impl_buildTrie _ _ _ HD6.out.rd HSP.out HT6.out.env).mono ?_
        rintro e w7 ⟨x7, rfl, hO, hb⟩
        rw [H3.out] at hO ⊢
        have hrow : P.trie (P.putF (o, tx) false dl) = row := by first | exact HROW.out | rw [← HROW.out, HDL.out]
        have hk : P.keptT true (P.trie (P.putF (o, tx) false dl)) = k := by rw [hrow]; exact HK.out
        rw [hk] at hO
        have hba : Below w7.heap.size w7 (w7.alloc (.cells #[x7] 86)) := (Below.refl _ _).alloc (Nat.le_refl _) _
        have hb2 := hb.trans (hba.mono hb.size)
        have HT7 := Lib.hid (HT6.out.below hb2)
        have HM7 := Lib.hid (HM6.out.below hb2)
        have HN7 := Lib.hid (show TB w7.heap.size x7 k (w7.alloc (.cells #[x7] 86)) from ⟨DBx.new _ _ _, (Nods.read hO).below hba⟩)
        obtain ⟨sa, sc, rfl, _, _⟩ := Nods.read hO
        clear hO hb hba hb2 hrow hk d0 HT6 HM6 HD6
        obtain ⟨m0, _⟩ := HM7.out.bx
        obtain ⟨n0, _⟩ := HN7.out.bx
        go_wp2_with fail
        refine (rTrie _ _ k _ HN7.out.rd HM7.out.rd).mono ?_
        rintro e w8 ⟨rfl, hb⟩
        have HT8 := Lib.hid (HT7.out.below hb)
        clear hb m0 n0 HT7 HM7 HN7
        go_wp2
        go_meet
        exact ⟨HT8.out.bel, HT8.out.env⟩
    case rest =>
      obtain ⟨hbx, hex⟩ := hcut
      have HB6 := Lib.hid hbx; have HE6 := Lib.hid hex
      have HC6 := Lib.hid (CodeIs.on HCD.out (hbx.mono (Nat.le_refl _)))
      clear hbx hex HT5 HM5 HD5 HX HSM HOK HROW HK HDL HDS HCD
      go_wp2_with fail
      refine (rCut _ 2 _ HC6.out (.inr rfl)).mono ?_
      rintro e w6 ⟨y, rfl, hc6, hb⟩
      have HC7 := Lib.hid hc6; have HB7 := Lib.hid (HB6.out.trans (hb.mono HB6.out.size)); have HE7 := Lib.hid (HE6.out.below hb HE6.out.size)
      clear hc6 hb HC6 HB6 HE6
      go_wp2_with fail
      refine (drawDeleteTrie _ _ HC7.out).mono ?_
      rintro e w7 ⟨t, o, u, ov, rfl, hdt, ho, hu, hov, hb⟩
      have HX := Lib.hid (show ∀ n ∈ t, n.2.2.2.length ≤ 2 ^ 30 from fun n hn => by have := hdt.txt n hn; omega)
      have hba : Below w7.heap.size w7 (w7.alloc (.cells #[u] 86)) := (Below.refl _ _).alloc (Nat.le_refl _) _
      have hb2 := hb.trans (hba.mono hb.size)
      have HB8 := Lib.hid (HB7.out.trans (hb2.mono HB7.out.size)); have HE8 := Lib.hid (HE7.out.below hb2 HE7.out.size)
      have HU8 := Lib.hid (show TB w7.heap.size u t (w7.alloc (.cells #[u] 86)) from ⟨DBx.new _ _ _, hu.now.below hba⟩); have HV8 := Lib.hid ((Ints.read hov).below hba)
      obtain ⟨ua, uc, rfl, _, _⟩ := hu.now
      obtain ⟨oa, oc, rfl, _, _⟩ := id hov
      clear hdt ho hu hov hba hb hb2 HB7 HE7 HC7
      obtain ⟨k0, _⟩ := HU8.out.bx
      go_wp2_with fail
      refine (impl_deleteTrie _ _ t o _ HU8.out.rd HV8.out HX.out HE8.out).mono ?_
      rintro e w8 ⟨x8, rfl, hO, hb⟩
      have HED := Lib.hid (fun h => P.edit_del (t := t) (o := o) h)
      have HTX := Lib.hid (keptT_texts (ok := P.delTOk (P.dictI t) o) (P.trie_texts (B := 2 ^ 30) (l := P.del o ((P.dictI t).getD [])) fun e he => (small_getD HX.out).texts e (P.del_sub he)))
      generalize hok : P.delTOk (P.dictI t) o = ok at *
      have HOK := Lib.hid hok; clear hok
      generalize hrow : P.trie (P.del o ((P.dictI t).getD [])) = row at *
      have HROW := Lib.hid hrow; clear hrow
      generalize hk : P.keptT ok row = k at *
      have HK := Lib.hid hk; clear hk
      have hba : Below w8.heap.size w8 (w8.alloc (.cells #[x8] 86)) := (Below.refl _ _).alloc (Nat.le_refl _) _
      have hb2 := hb.trans (hba.mono hb.size)
      have HB9 := Lib.hid (HB8.out.trans (hb2.mono HB8.out.size)); have HE9 := Lib.hid (HE8.out.below hb2 HE8.out.size)
      have HU9 := Lib.hid (HU8.out.below hb2); have HV9 := Lib.hid (HV8.out.below hb2)
      have HM9 := Lib.hid (show TB w8.heap.size x8 k (w8.alloc (.cells #[x8] 86)) from ⟨DBx.new _ _ _, (Nods.read hO).below hba⟩)
      obtain ⟨ma, mc, rfl, _, _⟩ := Nods.read hO
      clear hO hb hba hb2 k0 HB8 HE8 HU8 HV8
      obtain ⟨k0, _⟩ := HU9.out.bx
      go_wp2_with fail
      refine (spec_deleteTrie _ _ t o _ HU9.out.rd HV9.out HX.out).mono ?_
      rintro e w9 ⟨x9, rfl, hO, hb⟩
      rw [HOK.out, HROW.out, HK.out] at hO
      rw [HOK.out]
      have hba : Below w9.heap.size w9 (w9.alloc (.cells #[x9] 86)) := (Below.refl _ _).alloc (Nat.le_refl _) _
      have hb2 := hb.trans (hba.mono hb.size)
      have HBA := Lib.hid (HB9.out.trans (hb2.mono HB9.out.size)); have HEA := Lib.hid (HE9.out.below hb2 HE9.out.size)
      have HVA := Lib.hid (HV9.out.below hb2)
      have HMA := Lib.hid (HM9.out.below hb2)
      have HNA := Lib.hid (show TB w9.heap.size x9 k (w9.alloc (.cells #[x9] 86)) from ⟨DBx.new _ _ _, (Nods.read hO).below hba⟩)
      obtain ⟨na, nc, rfl, _, _⟩ := Nods.read hO
      clear hO hb hba hb2 k0 HB9 HE9 HU9 HV9 HM9
      obtain ⟨m0, _⟩ := HMA.out.bx
      obtain ⟨n0, _⟩ := HNA.out.bx
      go_wp2_with fail
      refine (rTrie _ _ k _ HMA.out.rd HNA.out.rd).mono ?_
      rintro e wA ⟨rfl, hb⟩
      have HBB := Lib.hid (HBA.out.trans (hb.mono HBA.out.size)); have HEB := Lib.hid (HEA.out.below hb HEA.out.size)
      have HVB := Lib.hid (HVA.out.below hb); have HMB := Lib.hid (HMA.out.below hb)
      clear hb m0 n0 HBA HEA HVA HMA HNA
      obtain ⟨m0, _⟩ := HMB.out.bx
      go_wp2_with fail
      refine (impl_lookupTrie _ _ k o _ HMB.out.rd HVB.out HTX.out HEB.out).mono ?_
      rintro e wB ⟨rfl, hb⟩
      have HBC := Lib.hid (HBB.out.trans (hb.mono HBB.out.size)); have HEC := Lib.hid (HEB.out.below hb HEB.out.size)
      have HMC := Lib.hid (HMB.out.below hb)
      clear hb m0 HBB HEB HVB HMB
      cases ok
      · go_wp2
        go_ret
        exact ⟨rfl, HBC.out⟩
      · obtain ⟨h1, h2⟩ := HED.out rfl
        have hk : row = k := HK.out
        subst hk
        rw [h2]
        have H1 := Lib.hid (show (P.dictI row).isSome = true by rw [h1]; rfl)
        clear h1 h2
        obtain ⟨m0, _⟩ := HMC.out.bx
        go_wp2_with fail
        refine (impl_isValidTrie _ row _ HMC.out.rd HTX.out HEC.out).mono ?_
        rintro e wC ⟨rfl, hb⟩
        rw [H1.out]
        go_wp2
        go_ret
        exact ⟨rfl, HBC.out.trans (hb.mono HBC.out.size)⟩
  · have hn2 := of_decide_eq_true hbig
    go_wp2
    go_ret
    exact ⟨rfl, Below.refl _ _⟩
end Go.Proofs.YtkjidjomlpnnlaaGreatDoor
