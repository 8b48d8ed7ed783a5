/- The law of Replay: the program's answer is the reference's. -/
import Derived.Deep.DeepCutAuto
import Derived.Deep.RegionLaw
import Derived.Deep.RegionHeld
import Derived.Test.YtpkahblajgaemaaGreatDoorScrI7
import Derived.Test.YtpkahblajgaemaaGreatDoorScrS7
import Derived.Test.YtpkahblajgaemaaGreatDoorTool3
namespace Go.Proofs.YtpkahblajgaemaaGreatDoor
open Go Go.RowKit
set_option maxHeartbeats 8000000
set_option maxRecDepth 100000
theorem P.replay_len (d : P.Dic) (st : List Int) : (P.replay d st).1.1.length ≤ st.length ∧ (P.replay d st).1.2.1.length ≤ st.length := by
  unfold P.replay
  split
  · split
    · exact ⟨Nat.zero_le _, Nat.zero_le _⟩
    · rename_i r h
      obtain ⟨es, t⟩ := r
      obtain ⟨h1, h2, _⟩ := P.replayN_small h
      exact ⟨Nat.le_of_eq h1, h2⟩
  · exact ⟨Nat.zero_le _, Nat.zero_le _⟩
def RplPost (es : List P.Edit) (nx : List Int) (sc : Str) (ok : Bool) (w : World) (e : Ending) (w' : World) : Prop :=
  ∃ d c d2 c2, e = .returned (.tuple #[.slice d es.length c, .agg #[.slice d2 nx.length c2, .string (S sc)], .bool ok]) ∧ Flds w' (BetO w.heap.size w'.heap.size (.slice d es.length c)) (.slice d es.length c) es ∧ Ints w' (BetO w.heap.size w'.heap.size (.slice d2 nx.length c2)) (.slice d2 nx.length c2) nx ∧ (∀ b, (Value.slice d es.length c).ownBlock = some b → (Value.slice d2 nx.length c2).ownBlock = some b → False) ∧ Below w.heap.size w w'
theorem rpl_of {r : (List P.Edit × P.Tr) × Bool} {es : List P.Edit} {nx : List Int} {sc : Str} {ok : Bool} (hr : r = ((es, (nx, sc)), ok)) (hl : es.length ≤ 2 ^ 30 ∧ nx.length ≤ 2 ^ 30) {w : World} (e : Ending) (w' : World) (h : ReplayPost r w e w') : RplPost es nx sc ok w e w' := by
  subst hr
  obtain ⟨u, us, he, ho, hk, hb⟩ := h
  simp only at ho hk
  obtain ⟨a, c, rfl⟩ := ownE_form ho
  obtain ⟨a2, c2, rfl⟩ := ownK_form hk
  refine ⟨a, c, a2, c2, he, ownE_flds ho hl.1, ownK_ints hk hl.2, fun b h1 h2 => ?_, hb⟩
  rcases ed_sep ho hk with h3 | h3
  · rw [h3] at h1; cases h1
  · exact h3 (h1.trans h2.symm)
theorem law_replay (u0 : Value) (l0 : P.Dic) (u1 : Value) (o1 : List Int) (w : World) (hu0 : EntA w u0 l0) (ht0 : ∀ e ∈ l0, e.2.length ≤ 9223372036854775807) (hu1 : IntA w u1 o1) (hE : Env w) :
    Calls Tryz.prog 9 #[.agg #[u0], u1] w fun e w' => e = .returned (.bool true) ∧ Below w.heap.size w w' := by
  have HE := Lib.hid hE; clear hE
  have HU0 := Lib.hid hu0
  have HT0 := Lib.hid ht0; clear ht0
  obtain ⟨a0d, a0c, rfl, hln0, _⟩ := hu0
  have HU1 := Lib.hid hu1
  obtain ⟨a1d, a1c, rfl, hln1, _⟩ := hu1
  have hb := ((Below.refl w.heap.size w).alloc (Nat.le_refl _) (.cells #[.slice a0d l0.length a0c] 57))
  have HB_0 := Lib.hid (hb)
  have A0_0 := Lib.hid (Box1.new (.slice a0d l0.length a0c) 57 w)
  clear hb
  by_cases hbig1 : 1048576 < o1.length
  · have hbig1' : (1048576 : Int) < (o1.length : Int) := by omega
    go_enter Tryz.func9, Tryz.ntmps9
    go_wp2
    go_ret
    exact ⟨rfl, HB_0.out⟩
  have hbig1' : ¬ (1048576 : Int) < (o1.length : Int) := by omega
  have HSM1 := Lib.hid (show o1.length ≤ 2 ^ 20 by omega)
  have HUA1 := HU1; clear HU1
  have HU1 := Lib.hid (HUA1.out.read HSM1.out); clear HUA1
  clear hbig1
  go_enter Tryz.func9, Tryz.ntmps9
  go_wp2_with fail
  refine (szDictionary _ l0 1048576 _ (HU0.out.below HB_0.out) HT0.out (by decide) (by decide)).mono ?_
  rintro e w1 ⟨⟨r0, rfl, hra0, hrb0⟩, hb⟩
  have zw1 : w.heap.size + 1 ≤ w1.heap.size := by have := hb.size; simp at this; omega
  have HB_1 := Lib.hid (HB_0.out.trans (hb.mono HB_0.out.size))
  have A0_1 := Lib.hid (A0_0.out.below hb)
  clear HB_0 A0_0 hb HT0
  have HR0 := Lib.hid hrb0; clear hrb0
  by_cases hneg0 : r0 < 0
  · go_wp2
    go_ret
    exact ⟨rfl, HB_1.out⟩
  have hR0 : r0 = 1048576 - ((l0.length : Int) + P.sizeE l0) := HR0.out (by omega)
  have HSL0 := Lib.hid hR0; have HRN0 := Lib.hid (show 0 ≤ r0 by omega); clear hR0 HR0 hra0
  have hq0 : r0 ≤ 2 ^ 20 := by have := P.sizeE_nonneg l0; have := HSL0.out; omega
  have HRQ0 := Lib.hid hq0; clear hq0
  have HS0 := Lib.hid (show (l0.length : Int) + P.sizeE l0 ≤ 1048576 by have := HSL0.out; have := HRN0.out; have := P.sizeE_nonneg l0; omega)
  have HUA0 := HU0; clear HU0
  have HU0 := Lib.hid (HUA0.out.read (small_of HS0.out).len (small_of HS0.out).outs); have HSM0 := Lib.hid (small_of HS0.out)
  clear HUA0
  obtain ⟨es, nx, sc, ok, hr⟩ : ∃ es nx sc ok, P.replay l0 o1 = ((es, (nx, sc)), ok) := ⟨_, _, _, _, rfl⟩
  have HR := Lib.hid hr
  have HLEN := Lib.hid (show es.length ≤ 2 ^ 20 ∧ nx.length ≤ 2 ^ 20 from by have h := P.replay_len l0 o1; rw [hr] at h; simp only at h; have := HSM1.out; omega)
  clear hr
  have HK0 := Lib.hid (show 0 ≤ (1 : Int) ∧ (1 : Int) ≤ 2 ^ 40 ∧ (P.kAt (1 : Int) l0) ≤ 2 ^ 40 ∧ 0 ≤ (P.kAt (1 : Int) l0) by have := HS0.out; have := HSM1.out; have := P.sizeE_nonneg l0; have := P.kAt_le (1 : Int) l0; have := P.kAt_ge (1 : Int) l0; omega)
  have HK1 := Lib.hid (show 0 ≤ (P.kAt (1 : Int) l0) ∧ (P.kAt (1 : Int) l0) ≤ 2 ^ 40 ∧ ((P.kAt (1 : Int) l0) + (o1.length : Int)) ≤ 2 ^ 40 ∧ 0 ≤ ((P.kAt (1 : Int) l0) + (o1.length : Int)) by have := HS0.out; have := HSM1.out; have := P.sizeE_nonneg l0; have := P.kAt_le (1 : Int) l0; have := P.kAt_ge (1 : Int) l0; omega)
  have HG0 := Lib.hid (show 0 ≤ (1 : Int) ∧ (1 : Int) ≤ 2 ^ 40 ∧ ((1 : Int) + 2 * (es.length : Int)) ≤ 2 ^ 40 ∧ 0 ≤ ((1 : Int) + 2 * (es.length : Int)) by have := HLEN.out; omega)
  have HG1 := Lib.hid (show 0 ≤ ((1 : Int) + 2 * (es.length : Int)) ∧ ((1 : Int) + 2 * (es.length : Int)) ≤ 2 ^ 40 ∧ (((1 : Int) + 2 * (es.length : Int)) + (nx.length : Int)) ≤ 2 ^ 40 ∧ 0 ≤ (((1 : Int) + 2 * (es.length : Int)) + (nx.length : Int)) by have := HLEN.out; omega)
  clear HSL0 HRN0 HRQ0
  obtain ⟨c_A0, _⟩ := A0_1.out
  go_upto_region 7 with fail
  go_cut [6, 7, 8] (fun q0 q1 q2 wx => ∃ bs1 s0d s0c s1d s1c, q0 = .slice s0d es.length s0c ∧ q1 = .pointer (some ⟨bs1, 0, none⟩) ∧ q2 = .bool ok ∧ Box2E bs1 (.slice s1d nx.length s1c) sc wx ∧ w1.heap.size ≤ bs1 ∧ Flds wx (BetO w1.heap.size wx.heap.size (.slice s0d es.length s0c)) (.slice s0d es.length s0c) es ∧ Ints wx (BetO w1.heap.size wx.heap.size (.slice s1d nx.length s1c)) (.slice s1d nx.length s1c) nx ∧ (∀ b, (Value.slice s0d es.length s0c).ownBlock = some b → (Value.slice s1d nx.length s1c).ownBlock = some b → False) ∧ Below w1.heap.size w1 wx)
  case first =>
    have HA_0 := Lib.hid (show Below w1.heap.size w1 w1 from Below.refl _ _)
    clear c_A0
    obtain ⟨c_A0, _⟩ := A0_1.out
    go_wp2_with fail
    refine (toDictionary _ l0 _ (HU0.out.below HB_1.out) HSM0.out.len HSM0.out.outs).mono ?_
    rintro e w2 ⟨y1, rfl, hI, hb⟩
    clear c_A0
    have zw2 : w1.heap.size ≤ w2.heap.size := hb.size
    have HB_2 := Lib.hid (HB_1.out.trans (hb.mono HB_1.out.size))
    have A0_2 := Lib.hid (A0_1.out.below hb)
    have HA_1 := Lib.hid (HA_0.out.trans (hb.mono HA_0.out.size))
    clear HB_1 A0_1 HA_0 hb
    have C0_0 := Lib.hid ((by simpa using hI : Ents w2 (Bet (w1.heap.size) w2.heap.size) y1 l0))
    clear hI
    obtain ⟨y1d, y1c, rfl, _, _⟩ := id C0_0.out
    go_wp2_with fail
    refine (toIntS _ o1 _ (HU1.out.below HB_2.out) HSM1.out).mono ?_
    rintro e w3 ⟨y2, rfl, hI, hb⟩
    have zw3 : w2.heap.size ≤ w3.heap.size := hb.size
    have HB_3 := Lib.hid (HB_2.out.trans (hb.mono HB_2.out.size))
    have A0_3 := Lib.hid (A0_2.out.below hb)
    have HA_2 := Lib.hid (HA_1.out.trans (hb.mono HA_1.out.size))
    have C0_1 := Lib.hid (C0_0.out.below entE_ok hb)
    clear HB_2 A0_2 HA_1 C0_0 hb
    have C1_0 := Lib.hid ((by simpa using hI : Ints w3 (Bet (w2.heap.size) w3.heap.size) y2 o1))
    clear hI
    obtain ⟨y2d, y2c, rfl, _, _⟩ := id C1_0.out
    go_wp2_with fail
    refine ((spec_replay _ _ l0 o1 _ (Ents.read C0_1.out) (Ints.read C1_0.out) HSM0.out).mono (rpl_of HR.out ⟨Nat.le_trans HLEN.out.1 (by decide), Nat.le_trans HLEN.out.2 (by decide)⟩)).mono ?_
    rintro e w4 ⟨s0d, s0c, s1d, s1c, rfl, hrow0, hrow1, hsep, hb⟩
    have zw4 : w3.heap.size ≤ w4.heap.size := hb.size
    have HA_3 := Lib.hid (HA_2.out.trans (hb.mono HA_2.out.size))
    clear HA_2 hb
    go_wp2
    go_meet
    refine ⟨_, s0d, s0c, s1d, s1c, rfl, rfl, rfl, ⟨by go_simp, by go_simp, by first | omega | (simp; done) | (simp; omega)⟩, by first | omega | (simp; done) | (simp; omega), RowO.to foldE_ok hrow0 ?_ (by omega) (by first | omega | (simp; done) | (simp; omega)) (by first | omega | (simp; done) | (simp; omega)), RowO.to intE_ok hrow1 ?_ (by omega) (by first | omega | (simp; done) | (simp; omega)) (by first | omega | (simp; done) | (simp; omega)), hsep, ?_⟩
    all_goals first | exact ((Below.refl _ _).alloc (Nat.le_refl _) _) | exact (HA_3.out.alloc (by first | omega | (simp; omega)) _) | skip
  case rest =>
    obtain ⟨bs1, s0d, s0c, s1d, s1c, rfl, rfl, rfl, hbx1, zbs1, hrow0, hrow1, hsep, hb⟩ := hcut
    have zzw5 : w1.heap.size ≤ wc.heap.size := hb.size
    clear c_A0
    have HB_2 := Lib.hid (HB_1.out.trans (hb.mono HB_1.out.size))
    have A0_2 := Lib.hid (A0_1.out.below hb)
    clear HB_1 A0_1 hb
    have yys1 : bs1 < wc.heap.size := hbx1.2.2
    have sB1_0 := Lib.hid (hbx1)
    clear hbx1
    have sL0_0 := Lib.hid (hrow0)
    clear hrow0
    have sL1_0 := Lib.hid (hrow1)
    clear hrow1
    clear hsep
    generalize hww : wc = w5 at *
    clear hww
    obtain ⟨c_A0, _⟩ := A0_2.out
    go_wp2_with fail
    refine (toDictionary _ l0 _ (HU0.out.below HB_2.out) HSM0.out.len HSM0.out.outs).mono ?_
    rintro e w6 ⟨y3, rfl, hI, hb⟩
    clear c_A0
    have zw6 : w5.heap.size ≤ w6.heap.size := hb.size
    have HB_3 := Lib.hid (HB_2.out.trans (hb.mono HB_2.out.size))
    have A0_3 := Lib.hid (A0_2.out.below hb)
    have sB1_1 := Lib.hid (sB1_0.out.below hb)
    have sL0_1 := Lib.hid (sL0_0.out.below foldE_ok hb)
    have sL1_1 := Lib.hid (sL1_0.out.below intE_ok hb)
    clear HB_2 A0_2 sB1_0 sL0_0 sL1_0 hb
    have E0_0 := Lib.hid ((by simpa using hI : Ents w6 (Bet (w5.heap.size) w6.heap.size) y3 l0))
    clear hI
    obtain ⟨y3d, y3c, rfl, _, _⟩ := id E0_0.out
    have hb := (Below.refl w6.heap.size w6).alloc (Nat.le_refl _) (.cells #[.slice y3d l0.length y3c] 26)
    have HB_4 := Lib.hid (HB_3.out.trans (hb.mono HB_3.out.size))
    have A0_4 := Lib.hid (A0_3.out.below hb)
    have sB1_2 := Lib.hid (sB1_1.out.below hb)
    have sL0_2 := Lib.hid (sL0_1.out.below foldE_ok hb)
    have sL1_2 := Lib.hid (sL1_1.out.below intE_ok hb)
    have E0_1 := Lib.hid (E0_0.out.below entE_ok hb)
    clear HB_3 A0_3 sB1_1 sL0_1 sL1_1 E0_0 hb
    have X0_0 := Lib.hid (Box1.new (.slice y3d l0.length y3c) 26 w6)
    go_wp2_with fail
    refine (toIntS _ o1 _ (HU1.out.below HB_4.out) HSM1.out).mono ?_
    rintro e w7 ⟨y4, rfl, hI, hb⟩
    have zw7 : w6.heap.size + 1 ≤ w7.heap.size := by have := hb.size; simp at this; omega
    have HB_5 := Lib.hid (HB_4.out.trans (hb.mono HB_4.out.size))
    have A0_5 := Lib.hid (A0_4.out.below hb)
    have sB1_3 := Lib.hid (sB1_2.out.below hb)
    have sL0_3 := Lib.hid (sL0_2.out.below foldE_ok hb)
    have sL1_3 := Lib.hid (sL1_2.out.below intE_ok hb)
    have E0_2 := Lib.hid (E0_1.out.below entE_ok hb)
    have X0_1 := Lib.hid (X0_0.out.below hb)
    clear HB_4 A0_4 sB1_2 sL0_2 sL1_2 E0_1 X0_0 hb
    have E1_0 := Lib.hid ((by simpa using hI : Ints w7 (Bet (w6.heap.size + 1) w7.heap.size) y4 o1))
    clear hI
    obtain ⟨y4d, y4c, rfl, _, _⟩ := id E1_0.out
    obtain ⟨c_X0, _⟩ := X0_1.out
    go_upto_region 10 with fail
    go_cut [11, 12, 13] (fun q0 q1 q2 wx => ∃ bg1 g0d g0c g1d g1c mg, q0 = .slice g0d es.length g0c ∧ q1 = .pointer (some ⟨bg1, 0, none⟩) ∧ q2 = .bool ok ∧ Box2E bg1 (.slice g1d nx.length g1c) sc wx ∧ mg ≤ bg1 ∧ w7.heap.size ≤ mg ∧ mg ≤ wx.heap.size ∧ Flds wx (BetO w7.heap.size mg (.slice g0d es.length g0c)) (.slice g0d es.length g0c) es ∧ Ints wx (BetO w7.heap.size mg (.slice g1d nx.length g1c)) (.slice g1d nx.length g1c) nx ∧ (∀ b, (Value.slice g0d es.length g0c).ownBlock = some b → (Value.slice g1d nx.length g1c).ownBlock = some b → False) ∧ Below w7.heap.size w7 wx)
    case first =>
      have HA_0 := Lib.hid (show Below w7.heap.size w7 w7 from Below.refl _ _)
      go_wp2_with fail
      refine ((impl_replay _ _ l0 o1 _ (Ents.read E0_2.out) (Ints.read E1_0.out) HSM0.out (HE.out.below HB_5.out HE.out.size)).mono (rpl_of HR.out ⟨Nat.le_trans HLEN.out.1 (by decide), Nat.le_trans HLEN.out.2 (by decide)⟩)).mono ?_
      rintro e w8 ⟨g0d, g0c, g1d, g1c, rfl, hrow0, hrow1, hsep, hb⟩
      clear c_X0
      have zw8 : w7.heap.size ≤ w8.heap.size := hb.size
      have HA_1 := Lib.hid (HA_0.out.trans (hb.mono HA_0.out.size))
      clear HA_0 hb
      go_wp2
      go_meet
      refine ⟨_, g0d, g0c, g1d, g1c, w8.heap.size, rfl, rfl, rfl, ⟨by go_simp, by go_simp, by first | omega | (simp; done) | (simp; omega)⟩, by first | omega | (simp; done) | (simp; omega), by omega, by first | omega | (simp; done) | (simp; omega), RowO.to foldE_ok hrow0 ?_ (by omega) (by first | omega | (simp; done) | (simp; omega)) (by first | omega | (simp; done) | (simp; omega)), RowO.to intE_ok hrow1 ?_ (by omega) (by first | omega | (simp; done) | (simp; omega)) (by first | omega | (simp; done) | (simp; omega)), hsep, ?_⟩
      all_goals first | exact ((Below.refl _ _).alloc (Nat.le_refl _) _) | exact (HA_1.out.alloc (by first | omega | (simp; omega)) _) | skip
    case rest =>
      obtain ⟨bg1, g0d, g0c, g1d, g1c, mg, rfl, rfl, rfl, hbx1, zbg1, zmg, zng, hrow0, hrow1, hsep, hb⟩ := hcut
      have zzw9 : w7.heap.size ≤ wc.heap.size := hb.size
      clear c_X0
      have HB_6 := Lib.hid (HB_5.out.trans (hb.mono HB_5.out.size))
      have A0_6 := Lib.hid (A0_5.out.below hb)
      have sB1_4 := Lib.hid (sB1_3.out.below hb)
      have sL0_4 := Lib.hid (sL0_3.out.below foldE_ok hb)
      have sL1_4 := Lib.hid (sL1_3.out.below intE_ok hb)
      have E0_3 := Lib.hid (E0_2.out.below entE_ok hb)
      have X0_2 := Lib.hid (X0_1.out.below hb)
      have E1_1 := Lib.hid (E1_0.out.below intE_ok hb)
      clear HB_5 A0_5 sB1_3 sL0_3 sL1_3 E0_2 X0_1 E1_0 hb
      have yyg1 : bg1 < wc.heap.size := hbx1.2.2
      have gB1_0 := Lib.hid (hbx1)
      clear hbx1
      have gL0_0 := Lib.hid (hrow0)
      clear hrow0
      have gL1_0 := Lib.hid (hrow1)
      clear hrow1
      have HSEP := Lib.hid hsep
      clear hsep
      generalize hww : wc = w9 at *
      clear hww
      obtain ⟨c_gB10, c_gB11, _⟩ := gB1_0.out
      obtain ⟨c_sB10, c_sB11, _⟩ := sB1_4.out
      go_wp2_with fail
      refine (eqEditS _ _ es _ (Flds.read gL0_0.out) (Flds.read sL0_4.out)).mono ?_
      rintro e w10 ⟨rfl, hb⟩
      clear c_gB10 c_gB11 c_sB10 c_sB11
      have zw10 : w9.heap.size ≤ w10.heap.size := hb.size
      have HB_7 := Lib.hid (HB_6.out.trans (hb.mono HB_6.out.size))
      have A0_7 := Lib.hid (A0_6.out.below hb)
      have sB1_5 := Lib.hid (sB1_4.out.below hb)
      have sL0_5 := Lib.hid (sL0_4.out.below foldE_ok hb)
      have sL1_5 := Lib.hid (sL1_4.out.below intE_ok hb)
      have E0_4 := Lib.hid (E0_3.out.below entE_ok hb)
      have X0_3 := Lib.hid (X0_2.out.below hb)
      have E1_2 := Lib.hid (E1_1.out.below intE_ok hb)
      have gB1_1 := Lib.hid (gB1_0.out.below hb)
      have gL0_1 := Lib.hid (gL0_0.out.below foldE_ok hb)
      have gL1_1 := Lib.hid (gL1_0.out.below intE_ok hb)
      clear HB_6 A0_6 sB1_4 sL0_4 sL1_4 E0_3 X0_2 E1_1 gB1_0 gL0_0 gL1_0 hb
      obtain ⟨c_gB10, c_gB11, _⟩ := gB1_1.out
      obtain ⟨c_sB10, c_sB11, _⟩ := sB1_5.out
      go_wp2_with fail
      refine (eqTranslator _ _ nx sc _ (Ints.read gL1_1.out) (Ints.read sL1_5.out)).mono ?_
      rintro e w11 ⟨rfl, hb⟩
      clear c_gB10 c_gB11 c_sB10 c_sB11
      have zw11 : w10.heap.size ≤ w11.heap.size := hb.size
      have HB_8 := Lib.hid (HB_7.out.trans (hb.mono HB_7.out.size))
      have A0_8 := Lib.hid (A0_7.out.below hb)
      have sB1_6 := Lib.hid (sB1_5.out.below hb)
      have sL0_6 := Lib.hid (sL0_5.out.below foldE_ok hb)
      have sL1_6 := Lib.hid (sL1_5.out.below intE_ok hb)
      have E0_5 := Lib.hid (E0_4.out.below entE_ok hb)
      have X0_4 := Lib.hid (X0_3.out.below hb)
      have E1_3 := Lib.hid (E1_2.out.below intE_ok hb)
      have gB1_2 := Lib.hid (gB1_1.out.below hb)
      have gL0_2 := Lib.hid (gL0_1.out.below foldE_ok hb)
      have gL1_2 := Lib.hid (gL1_1.out.below intE_ok hb)
      clear HB_7 A0_7 sB1_5 sL0_5 sL1_5 E0_4 X0_3 E1_2 gB1_1 gL0_1 gL1_1 hb
      have hb := (Below.refl w11.heap.size w11).drew
      have HB_9 := Lib.hid (HB_8.out.trans (hb.mono HB_8.out.size))
      have A0_9 := Lib.hid (A0_8.out.below hb)
      have sB1_7 := Lib.hid (sB1_6.out.below hb)
      have sL0_7 := Lib.hid (sL0_6.out.below foldE_ok hb)
      have sL1_7 := Lib.hid (sL1_6.out.below intE_ok hb)
      have E0_6 := Lib.hid (E0_5.out.below entE_ok hb)
      have X0_5 := Lib.hid (X0_4.out.below hb)
      have E1_4 := Lib.hid (E1_3.out.below intE_ok hb)
      have gB1_3 := Lib.hid (gB1_2.out.below hb)
      have gL0_3 := Lib.hid (gL0_2.out.below foldE_ok hb)
      have gL1_3 := Lib.hid (gL1_2.out.below intE_ok hb)
      clear HB_8 A0_8 sB1_6 sL0_6 sL1_6 E0_5 X0_4 E1_3 gB1_2 gL0_2 gL1_2 hb
      go_upto_region 13 with fail
      refine wp_region_held_drew (S := fun v : World => v.cell? ⟨w6.heap.size, 0, none⟩ = some (.slice y3d l0.length y3c) ∧ v.cell? ⟨w.heap.size, 0, none⟩ = some (.slice a0d l0.length a0c) ∧ w6.heap.size < v.heap.size ∧ w.heap.size < v.heap.size) (by kernel_rfl) ⟨X0_5.out.1, A0_9.out.1, X0_5.out.2, A0_9.out.2⟩ (fun hS0 => ?_)
      refine wpAnyH_take (i := 0) (v := .agg #[.slice y3d l0.length y3c]) rfl (by kernel_rfl) (by kernel_rfl) (by kernel_rfl) (fun _ _ _ h => h) (Or.inl ⟨by rfl, fun z hz => ?_⟩) hS0 ?_
      · obtain ⟨q1, q2, q3, q4⟩ := hz
        go_simp
      try simp only [List.getElem_toArray, List.getElem_cons_zero, Act.put, List.setIfInBounds_toArray, List.set_cons_zero, List.set_cons_succ]
      refine wpAnyH_take (i := 1) (v := .agg #[.slice a0d l0.length a0c]) rfl (by kernel_rfl) (by kernel_rfl) (by kernel_rfl) (fun _ _ _ h => h) (Or.inl ⟨by rfl, fun z hz => ?_⟩) hS0 ?_
      · obtain ⟨q1, q2, q3, q4⟩ := hz
        go_simp
      try simp only [List.getElem_toArray, List.getElem_cons_zero, List.getElem_cons_succ, Act.put, List.setIfInBounds_toArray, List.set_cons_zero, List.set_cons_succ]
      refine wpAnyH_ready (rs := [2]) (by kernel_rfl) (by simp) ?_
      refine AllReadyH.cons rfl (fun K hK => ?_) AllReadyH.nil
      go_simp
      refine (toDictionary _ l0 _ (HU0.out.below HB_9.out) HSM0.out.len HSM0.out.outs).mono ?_
      rintro e w12 ⟨y5, rfl, hI, hb⟩
      have zw12 : w11.heap.size ≤ w12.heap.size := hb.size
      refine hK.out _ _ ⟨(hb.cell (p := ⟨w6.heap.size, 0, none⟩) hS0.2.2.1).trans hS0.1, (hb.cell (p := ⟨w.heap.size, 0, none⟩) hS0.2.2.2).trans hS0.2.1, Nat.lt_of_lt_of_le hS0.2.2.1 hb.size, Nat.lt_of_lt_of_le hS0.2.2.2 hb.size⟩ (fun hS1 => ?_)
      clear hK K
      have HB_10 := Lib.hid (HB_9.out.trans (hb.mono HB_9.out.size))
      have A0_10 := Lib.hid (A0_9.out.below hb)
      have sB1_8 := Lib.hid (sB1_7.out.below hb)
      have sL0_8 := Lib.hid (sL0_7.out.below foldE_ok hb)
      have sL1_8 := Lib.hid (sL1_7.out.below intE_ok hb)
      have E0_7 := Lib.hid (E0_6.out.below entE_ok hb)
      have X0_6 := Lib.hid (X0_5.out.below hb)
      have E1_5 := Lib.hid (E1_4.out.below intE_ok hb)
      have gB1_4 := Lib.hid (gB1_3.out.below hb)
      have gL0_4 := Lib.hid (gL0_3.out.below foldE_ok hb)
      have gL1_4 := Lib.hid (gL1_3.out.below intE_ok hb)
      clear HB_9 A0_9 sB1_7 sL0_7 sL1_7 E0_6 X0_5 E1_4 gB1_3 gL0_3 gL1_3 hb hS0
      have HI3 := Lib.hid hI
      obtain ⟨y5d, y5c, rfl, _, _⟩ := hI
      try simp only [List.getElem_toArray, List.getElem_cons_zero, List.getElem_cons_succ, Act.put, List.setIfInBounds_toArray, List.set_cons_zero, List.set_cons_succ]
      refine wpAnyH_ready (rs := [3]) (by kernel_rfl) (by simp) ?_
      refine AllReadyH.cons rfl (fun K hK => ?_) AllReadyH.nil
      go_simp
      refine (eqDictionary _ _ l0 _ (Ents.read E0_7.out) (Ents.read HI3.out)).mono ?_
      rintro e w13 ⟨rfl, hb⟩
      have zw13 : w12.heap.size ≤ w13.heap.size := hb.size
      refine hK.out _ _ ⟨(hb.cell (p := ⟨w6.heap.size, 0, none⟩) hS1.2.2.1).trans hS1.1, (hb.cell (p := ⟨w.heap.size, 0, none⟩) hS1.2.2.2).trans hS1.2.1, Nat.lt_of_lt_of_le hS1.2.2.1 hb.size, Nat.lt_of_lt_of_le hS1.2.2.2 hb.size⟩ (fun hS2 => ?_)
      clear hK K
      have HB_11 := Lib.hid (HB_10.out.trans (hb.mono HB_10.out.size))
      have A0_11 := Lib.hid (A0_10.out.below hb)
      have sB1_9 := Lib.hid (sB1_8.out.below hb)
      have sL0_9 := Lib.hid (sL0_8.out.below foldE_ok hb)
      have sL1_9 := Lib.hid (sL1_8.out.below intE_ok hb)
      have E0_8 := Lib.hid (E0_7.out.below entE_ok hb)
      have X0_7 := Lib.hid (X0_6.out.below hb)
      have E1_6 := Lib.hid (E1_5.out.below intE_ok hb)
      have gB1_5 := Lib.hid (gB1_4.out.below hb)
      have gL0_5 := Lib.hid (gL0_4.out.below foldE_ok hb)
      have gL1_5 := Lib.hid (gL1_4.out.below intE_ok hb)
      clear HB_10 A0_10 sB1_8 sL0_8 sL1_8 E0_7 X0_6 E1_5 gB1_4 gL0_4 gL1_4 hb hS1 HI3
      try simp only [List.getElem_toArray, List.getElem_cons_zero, List.getElem_cons_succ, Act.put, List.setIfInBounds_toArray, List.set_cons_zero, List.set_cons_succ]
      refine wpAnyH_take (i := 4) (v := .bool false) rfl (by kernel_rfl) (by kernel_rfl) (by kernel_rfl) (fun _ _ _ h => h) (Or.inl ⟨by rfl, fun z hz => ?_⟩) hS2 ?_
      · obtain ⟨q1, q2, q3, q4⟩ := hz
        go_simp
      try simp only [List.getElem_toArray, List.getElem_cons_zero, List.getElem_cons_succ, Act.put, List.setIfInBounds_toArray, List.set_cons_zero, List.set_cons_succ]
      refine wpAnyH_done (by kernel_rfl) ?_ _
      clear hS2
      go_wp2_with fail
      refine (toIntS _ o1 _ (HU1.out.below HB_11.out) HSM1.out).mono ?_
      rintro e w14 ⟨y6, rfl, hI, hb⟩
      have zw14 : w13.heap.size ≤ w14.heap.size := hb.size
      have HB_12 := Lib.hid (HB_11.out.trans (hb.mono HB_11.out.size))
      have A0_12 := Lib.hid (A0_11.out.below hb)
      have sB1_10 := Lib.hid (sB1_9.out.below hb)
      have sL0_10 := Lib.hid (sL0_9.out.below foldE_ok hb)
      have sL1_10 := Lib.hid (sL1_9.out.below intE_ok hb)
      have E0_9 := Lib.hid (E0_8.out.below entE_ok hb)
      have X0_8 := Lib.hid (X0_7.out.below hb)
      have E1_7 := Lib.hid (E1_6.out.below intE_ok hb)
      have gB1_6 := Lib.hid (gB1_5.out.below hb)
      have gL0_6 := Lib.hid (gL0_5.out.below foldE_ok hb)
      have gL1_6 := Lib.hid (gL1_5.out.below intE_ok hb)
      clear HB_11 A0_11 sB1_9 sL0_9 sL1_9 E0_8 X0_7 E1_6 gB1_5 gL0_5 gL1_5 hb
      have HI3 := Lib.hid hI
      obtain ⟨y6d, y6c, rfl, _, _⟩ := hI
      go_wp2_with fail
      refine (eqIntS _ _ o1 _ (Ints.read E1_7.out) (Ints.read HI3.out)).mono ?_
      rintro e w15 ⟨rfl, hb⟩
      have zw15 : w14.heap.size ≤ w15.heap.size := hb.size
      have HB_13 := Lib.hid (HB_12.out.trans (hb.mono HB_12.out.size))
      have A0_13 := Lib.hid (A0_12.out.below hb)
      have sB1_11 := Lib.hid (sB1_10.out.below hb)
      have sL0_11 := Lib.hid (sL0_10.out.below foldE_ok hb)
      have sL1_11 := Lib.hid (sL1_10.out.below intE_ok hb)
      have E0_10 := Lib.hid (E0_9.out.below entE_ok hb)
      have X0_9 := Lib.hid (X0_8.out.below hb)
      have E1_8 := Lib.hid (E1_7.out.below intE_ok hb)
      have gB1_7 := Lib.hid (gB1_6.out.below hb)
      have gL0_7 := Lib.hid (gL0_6.out.below foldE_ok hb)
      have gL1_7 := Lib.hid (gL1_6.out.below intE_ok hb)
      clear HB_12 A0_12 sB1_10 sL0_10 sL1_10 E0_9 X0_8 E1_7 gB1_6 gL0_6 gL1_6 hb HI3
      obtain ⟨c_X0, _⟩ := X0_9.out
      go_wp2_with fail
      refine (markDictionary _ l0 (1 : Int) (Bet (w5.heap.size) w6.heap.size) _ E0_10.out HK0.out.1 HK0.out.2.2.1).mono ?_
      rintro e w16 ⟨rfl, _, hc⟩
      have zw16 : w15.heap.size ≤ w16.heap.size := hc.size
      clear c_X0
      have HB_14 := Lib.hid (Chg.belowB HB_13.out hc HB_13.out.size (fun b h => by have h3 : _ ∧ _ := h; omega))
      have A0_14 := Lib.hid (A0_13.out.stand hc (fun h => by have h3 : _ ∧ _ := h; omega))
      have sB1_12 := Lib.hid (sB1_11.out.stand hc (fun h => by have h3 : _ ∧ _ := h; omega))
      have sL0_12 := Lib.hid (sL0_11.out.stand foldE_ok hc (fun b h1 h2 => by first | (have h3 : _ ∧ _ := h1; have h4 : _ ∧ _ := h2; omega) | exact (h1.2 h2.2).elim | exact (h2.2 h1.2).elim | exact (HSEP.out b h1.2 h2.2).elim | exact (HSEP.out b h2.2 h1.2).elim))
      have sL1_12 := Lib.hid (sL1_11.out.stand intE_ok hc (fun b h1 h2 => by first | (have h3 : _ ∧ _ := h1; have h4 : _ ∧ _ := h2; omega) | exact (h1.2 h2.2).elim | exact (h2.2 h1.2).elim | exact (HSEP.out b h1.2 h2.2).elim | exact (HSEP.out b h2.2 h1.2).elim))
      have X0_10 := Lib.hid (X0_9.out.stand hc (fun h => by have h3 : _ ∧ _ := h; omega))
      have E1_9 := Lib.hid (E1_8.out.stand intE_ok hc (fun b h1 h2 => by first | (have h3 : _ ∧ _ := h1; have h4 : _ ∧ _ := h2; omega) | exact (h1.2 h2.2).elim | exact (h2.2 h1.2).elim | exact (HSEP.out b h1.2 h2.2).elim | exact (HSEP.out b h2.2 h1.2).elim))
      have gB1_8 := Lib.hid (gB1_7.out.stand hc (fun h => by have h3 : _ ∧ _ := h; omega))
      have gL0_8 := Lib.hid (gL0_7.out.stand foldE_ok hc (fun b h1 h2 => by first | (have h3 : _ ∧ _ := h1; have h4 : _ ∧ _ := h2; omega) | exact (h1.2 h2.2).elim | exact (h2.2 h1.2).elim | exact (HSEP.out b h1.2 h2.2).elim | exact (HSEP.out b h2.2 h1.2).elim))
      have gL1_8 := Lib.hid (gL1_7.out.stand intE_ok hc (fun b h1 h2 => by first | (have h3 : _ ∧ _ := h1; have h4 : _ ∧ _ := h2; omega) | exact (h1.2 h2.2).elim | exact (h2.2 h1.2).elim | exact (HSEP.out b h1.2 h2.2).elim | exact (HSEP.out b h2.2 h1.2).elim))
      clear HB_13 A0_13 sB1_11 sL0_11 sL1_11 X0_9 E1_8 gB1_7 gL0_7 gL1_7 hc
      go_wp2_with fail
      refine (markIntS _ o1 (P.kAt (1 : Int) l0) (Bet (w6.heap.size + 1) w7.heap.size) _ E1_9.out HK1.out.1 HK1.out.2.1).mono ?_
      rintro e w17 ⟨rfl, _, hc, _⟩
      have zw17 : w16.heap.size ≤ w17.heap.size := hc.size
      have HB_15 := Lib.hid (Chg.belowB HB_14.out hc HB_14.out.size (fun b h => by have h3 : _ ∧ _ := h; omega))
      have A0_15 := Lib.hid (A0_14.out.stand hc (fun h => by have h3 : _ ∧ _ := h; omega))
      have sB1_13 := Lib.hid (sB1_12.out.stand hc (fun h => by have h3 : _ ∧ _ := h; omega))
      have sL0_13 := Lib.hid (sL0_12.out.stand foldE_ok hc (fun b h1 h2 => by first | (have h3 : _ ∧ _ := h1; have h4 : _ ∧ _ := h2; omega) | exact (h1.2 h2.2).elim | exact (h2.2 h1.2).elim | exact (HSEP.out b h1.2 h2.2).elim | exact (HSEP.out b h2.2 h1.2).elim))
      have sL1_13 := Lib.hid (sL1_12.out.stand intE_ok hc (fun b h1 h2 => by first | (have h3 : _ ∧ _ := h1; have h4 : _ ∧ _ := h2; omega) | exact (h1.2 h2.2).elim | exact (h2.2 h1.2).elim | exact (HSEP.out b h1.2 h2.2).elim | exact (HSEP.out b h2.2 h1.2).elim))
      have X0_11 := Lib.hid (X0_10.out.stand hc (fun h => by have h3 : _ ∧ _ := h; omega))
      have gB1_9 := Lib.hid (gB1_8.out.stand hc (fun h => by have h3 : _ ∧ _ := h; omega))
      have gL0_9 := Lib.hid (gL0_8.out.stand foldE_ok hc (fun b h1 h2 => by first | (have h3 : _ ∧ _ := h1; have h4 : _ ∧ _ := h2; omega) | exact (h1.2 h2.2).elim | exact (h2.2 h1.2).elim | exact (HSEP.out b h1.2 h2.2).elim | exact (HSEP.out b h2.2 h1.2).elim))
      have gL1_9 := Lib.hid (gL1_8.out.stand intE_ok hc (fun b h1 h2 => by first | (have h3 : _ ∧ _ := h1; have h4 : _ ∧ _ := h2; omega) | exact (h1.2 h2.2).elim | exact (h2.2 h1.2).elim | exact (HSEP.out b h1.2 h2.2).elim | exact (HSEP.out b h2.2 h1.2).elim))
      clear HB_14 A0_14 sB1_12 sL0_12 sL1_12 X0_10 gB1_8 gL0_8 gL1_8 hc
      have hkp : ¬ ((P.kAt (1 : Int) l0) + (o1.length : Int)) < 0 := by have := HK1.out.2.2.2; omega
      obtain ⟨c_gB10, c_gB11, _⟩ := gB1_9.out
      obtain ⟨c_sB10, c_sB11, _⟩ := sB1_13.out
      go_wp2_with fail
      refine (eqEditS _ _ es _ (Flds.read gL0_9.out) (Flds.read sL0_13.out)).mono ?_
      rintro e w18 ⟨rfl, hb⟩
      clear c_gB10 c_gB11 c_sB10 c_sB11
      have zw18 : w17.heap.size ≤ w18.heap.size := hb.size
      have HB_16 := Lib.hid (HB_15.out.trans (hb.mono HB_15.out.size))
      have A0_16 := Lib.hid (A0_15.out.below hb)
      have sB1_14 := Lib.hid (sB1_13.out.below hb)
      have sL0_14 := Lib.hid (sL0_13.out.below foldE_ok hb)
      have sL1_14 := Lib.hid (sL1_13.out.below intE_ok hb)
      have X0_12 := Lib.hid (X0_11.out.below hb)
      have gB1_10 := Lib.hid (gB1_9.out.below hb)
      have gL0_10 := Lib.hid (gL0_9.out.below foldE_ok hb)
      have gL1_10 := Lib.hid (gL1_9.out.below intE_ok hb)
      clear HB_15 A0_15 sB1_13 sL0_13 sL1_13 X0_11 gB1_9 gL0_9 gL1_9 hb
      obtain ⟨c_gB10, c_gB11, _⟩ := gB1_10.out
      obtain ⟨c_sB10, c_sB11, _⟩ := sB1_14.out
      go_wp2_with fail
      refine (eqTranslator _ _ nx sc _ (Ints.read gL1_10.out) (Ints.read sL1_14.out)).mono ?_
      rintro e w19 ⟨rfl, hb⟩
      clear c_gB10 c_gB11 c_sB10 c_sB11
      have zw19 : w18.heap.size ≤ w19.heap.size := hb.size
      have HB_17 := Lib.hid (HB_16.out.trans (hb.mono HB_16.out.size))
      have A0_17 := Lib.hid (A0_16.out.below hb)
      have sB1_15 := Lib.hid (sB1_14.out.below hb)
      have sL0_15 := Lib.hid (sL0_14.out.below foldE_ok hb)
      have sL1_15 := Lib.hid (sL1_14.out.below intE_ok hb)
      have X0_13 := Lib.hid (X0_12.out.below hb)
      have gB1_11 := Lib.hid (gB1_10.out.below hb)
      have gL0_11 := Lib.hid (gL0_10.out.below foldE_ok hb)
      have gL1_11 := Lib.hid (gL1_10.out.below intE_ok hb)
      clear HB_16 A0_16 sB1_14 sL0_14 sL1_14 X0_12 gB1_10 gL0_10 gL1_10 hb
      go_wp2_with fail
      refine (markEditS _ es (1 : Int) (BetO w7.heap.size mg (.slice g0d es.length g0c)) _ gL0_11.out HG0.out.1 HG0.out.2.1).mono ?_
      rintro e w20 ⟨rfl, hI, hc⟩
      have zw20 : w19.heap.size ≤ w20.heap.size := hc.size
      have HB_18 := Lib.hid (Chg.belowB HB_17.out hc HB_17.out.size (fun b h => by have h3 : _ ∧ _ := h; omega))
      have A0_18 := Lib.hid (A0_17.out.stand hc (fun h => by have h3 : _ ∧ _ := h; omega))
      have sB1_16 := Lib.hid (sB1_15.out.stand hc (fun h => by have h3 : _ ∧ _ := h; omega))
      have sL0_16 := Lib.hid (sL0_15.out.stand foldE_ok hc (fun b h1 h2 => by first | (have h3 : _ ∧ _ := h1; have h4 : _ ∧ _ := h2; omega) | exact (h1.2 h2.2).elim | exact (h2.2 h1.2).elim | exact (HSEP.out b h1.2 h2.2).elim | exact (HSEP.out b h2.2 h1.2).elim))
      have sL1_16 := Lib.hid (sL1_15.out.stand intE_ok hc (fun b h1 h2 => by first | (have h3 : _ ∧ _ := h1; have h4 : _ ∧ _ := h2; omega) | exact (h1.2 h2.2).elim | exact (h2.2 h1.2).elim | exact (HSEP.out b h1.2 h2.2).elim | exact (HSEP.out b h2.2 h1.2).elim))
      have X0_14 := Lib.hid (X0_13.out.stand hc (fun h => by have h3 : _ ∧ _ := h; omega))
      have gB1_12 := Lib.hid (gB1_11.out.stand hc (fun h => by have h3 : _ ∧ _ := h; omega))
      have gL1_12 := Lib.hid (gL1_11.out.stand intE_ok hc (fun b h1 h2 => by first | (have h3 : _ ∧ _ := h1; have h4 : _ ∧ _ := h2; omega) | exact (h1.2 h2.2).elim | exact (h2.2 h1.2).elim | exact (HSEP.out b h1.2 h2.2).elim | exact (HSEP.out b h2.2 h1.2).elim))
      clear HB_17 A0_17 sB1_15 sL0_15 sL1_15 X0_13 gB1_11 gL1_11 hc hkp
      have mL0_0 := Lib.hid (hI)
      clear hI
      obtain ⟨c_gB10, c_gB11, _⟩ := gB1_12.out
      go_wp2_with fail
      refine (markTranslator _ nx sc ((1 : Int) + 2 * (es.length : Int)) (BetO w7.heap.size mg (.slice g1d nx.length g1c)) _ gL1_12.out HG1.out.1 HG1.out.2.1).mono ?_
      rintro e w21 ⟨rfl, hI, hc⟩
      have zw21 : w20.heap.size ≤ w21.heap.size := hc.size
      clear c_gB10 c_gB11
      have HB_19 := Lib.hid (Chg.belowB HB_18.out hc HB_18.out.size (fun b h => by have h3 : _ ∧ _ := h; omega))
      have A0_19 := Lib.hid (A0_18.out.stand hc (fun h => by have h3 : _ ∧ _ := h; omega))
      have sB1_17 := Lib.hid (sB1_16.out.stand hc (fun h => by have h3 : _ ∧ _ := h; omega))
      have sL0_17 := Lib.hid (sL0_16.out.stand foldE_ok hc (fun b h1 h2 => by first | (have h3 : _ ∧ _ := h1; have h4 : _ ∧ _ := h2; omega) | exact (h1.2 h2.2).elim | exact (h2.2 h1.2).elim | exact (HSEP.out b h1.2 h2.2).elim | exact (HSEP.out b h2.2 h1.2).elim))
      have sL1_17 := Lib.hid (sL1_16.out.stand intE_ok hc (fun b h1 h2 => by first | (have h3 : _ ∧ _ := h1; have h4 : _ ∧ _ := h2; omega) | exact (h1.2 h2.2).elim | exact (h2.2 h1.2).elim | exact (HSEP.out b h1.2 h2.2).elim | exact (HSEP.out b h2.2 h1.2).elim))
      have X0_15 := Lib.hid (X0_14.out.stand hc (fun h => by have h3 : _ ∧ _ := h; omega))
      have gB1_13 := Lib.hid (gB1_12.out.stand hc (fun h => by have h3 : _ ∧ _ := h; omega))
      have mL0_1 := Lib.hid (mL0_0.out.stand foldE_ok hc (fun b h1 h2 => by first | (have h3 : _ ∧ _ := h1; have h4 : _ ∧ _ := h2; omega) | exact (h1.2 h2.2).elim | exact (h2.2 h1.2).elim | exact (HSEP.out b h1.2 h2.2).elim | exact (HSEP.out b h2.2 h1.2).elim))
      clear HB_18 A0_18 sB1_16 sL0_16 sL1_16 X0_14 gB1_12 mL0_0 hc
      have mL1_0 := Lib.hid (hI)
      clear hI
      go_wp2_with fail
      refine (heldEditS _ es.length (1 : Int) _ (Flds.read mL0_1.out) HG0.out.1 HG0.out.2.1 (by have := HLEN.out; omega)).mono ?_
      rintro e w22 ⟨rfl, hb⟩
      have zw22 : w21.heap.size ≤ w22.heap.size := hb.size
      have HB_20 := Lib.hid (HB_19.out.trans (hb.mono HB_19.out.size))
      have A0_20 := Lib.hid (A0_19.out.below hb)
      have sB1_18 := Lib.hid (sB1_17.out.below hb)
      have sL0_18 := Lib.hid (sL0_17.out.below foldE_ok hb)
      have sL1_18 := Lib.hid (sL1_17.out.below intE_ok hb)
      have X0_16 := Lib.hid (X0_15.out.below hb)
      have gB1_14 := Lib.hid (gB1_13.out.below hb)
      have mL0_2 := Lib.hid (mL0_1.out.below foldE_ok hb)
      have mL1_1 := Lib.hid (mL1_0.out.below intE_ok hb)
      clear HB_19 A0_19 sB1_17 sL0_17 sL1_17 X0_15 gB1_13 mL0_1 mL1_0 hb
      have hkn0 : ¬ ((1 : Int) + 2 * (es.length : Int)) < 0 := by have := HG0.out.2.2.2; omega
      obtain ⟨c_gB10, c_gB11, _⟩ := gB1_14.out
      go_wp2_with fail
      refine (heldTranslator _ nx.length sc ((1 : Int) + 2 * (es.length : Int)) _ (Ints.read mL1_1.out) HG1.out.1 HG1.out.2.1 (by have := HLEN.out; omega)).mono ?_
      rintro e w23 ⟨rfl, hb⟩
      clear c_gB10 c_gB11
      have zw23 : w22.heap.size ≤ w23.heap.size := hb.size
      have HB_21 := Lib.hid (HB_20.out.trans (hb.mono HB_20.out.size))
      have A0_21 := Lib.hid (A0_20.out.below hb)
      have sB1_19 := Lib.hid (sB1_18.out.below hb)
      have sL0_19 := Lib.hid (sL0_18.out.below foldE_ok hb)
      have sL1_19 := Lib.hid (sL1_18.out.below intE_ok hb)
      have X0_17 := Lib.hid (X0_16.out.below hb)
      have gB1_15 := Lib.hid (gB1_14.out.below hb)
      have mL0_3 := Lib.hid (mL0_2.out.below foldE_ok hb)
      have mL1_2 := Lib.hid (mL1_1.out.below intE_ok hb)
      clear HB_20 A0_20 sB1_18 sL0_18 sL1_18 X0_16 gB1_14 mL0_2 mL1_1 hb
      have hkn1 : ¬ (((1 : Int) + 2 * (es.length : Int)) + (nx.length : Int)) < 0 := by have := HG1.out.2.2.2; omega
      obtain ⟨c_A0, _⟩ := A0_21.out
      go_upto_region 34 with fail
      go_cut [17, 18, 19] (fun q0 q1 q2 wx => ∃ bh1 h0d h0c h1d h1c, q0 = .slice h0d es.length h0c ∧ q1 = .pointer (some ⟨bh1, 0, none⟩) ∧ q2 = .bool ok ∧ Box2E bh1 (.slice h1d nx.length h1c) sc wx ∧ w23.heap.size ≤ bh1 ∧ Flds wx (BetO w23.heap.size wx.heap.size (.slice h0d es.length h0c)) (.slice h0d es.length h0c) es ∧ Ints wx (BetO w23.heap.size wx.heap.size (.slice h1d nx.length h1c)) (.slice h1d nx.length h1c) nx ∧ (∀ b, (Value.slice h0d es.length h0c).ownBlock = some b → (Value.slice h1d nx.length h1c).ownBlock = some b → False) ∧ Below w23.heap.size w23 wx)
      case first =>
        have HA_0 := Lib.hid (show Below w23.heap.size w23 w23 from Below.refl _ _)
        clear c_A0
        obtain ⟨c_A0, _⟩ := A0_21.out
        go_wp2_with fail
        refine (toDictionary _ l0 _ (HU0.out.below HB_21.out) HSM0.out.len HSM0.out.outs).mono ?_
        rintro e w24 ⟨y7, rfl, hI, hb⟩
        clear c_A0
        have zw24 : w23.heap.size ≤ w24.heap.size := hb.size
        have HB_22 := Lib.hid (HB_21.out.trans (hb.mono HB_21.out.size))
        have A0_22 := Lib.hid (A0_21.out.below hb)
        have sB1_20 := Lib.hid (sB1_19.out.below hb)
        have sL0_20 := Lib.hid (sL0_19.out.below foldE_ok hb)
        have sL1_20 := Lib.hid (sL1_19.out.below intE_ok hb)
        have X0_18 := Lib.hid (X0_17.out.below hb)
        have gB1_16 := Lib.hid (gB1_15.out.below hb)
        have mL0_4 := Lib.hid (mL0_3.out.below foldE_ok hb)
        have mL1_3 := Lib.hid (mL1_2.out.below intE_ok hb)
        have HA_1 := Lib.hid (HA_0.out.trans (hb.mono HA_0.out.size))
        clear HB_21 A0_21 sB1_19 sL0_19 sL1_19 X0_17 gB1_15 mL0_3 mL1_2 HA_0 hb
        have C0_0 := Lib.hid ((by simpa using hI : Ents w24 (Bet (w23.heap.size) w24.heap.size) y7 l0))
        clear hI
        obtain ⟨y7d, y7c, rfl, _, _⟩ := id C0_0.out
        go_wp2_with fail
        refine (toIntS _ o1 _ (HU1.out.below HB_22.out) HSM1.out).mono ?_
        rintro e w25 ⟨y8, rfl, hI, hb⟩
        have zw25 : w24.heap.size ≤ w25.heap.size := hb.size
        have HB_23 := Lib.hid (HB_22.out.trans (hb.mono HB_22.out.size))
        have A0_23 := Lib.hid (A0_22.out.below hb)
        have sB1_21 := Lib.hid (sB1_20.out.below hb)
        have sL0_21 := Lib.hid (sL0_20.out.below foldE_ok hb)
        have sL1_21 := Lib.hid (sL1_20.out.below intE_ok hb)
        have X0_19 := Lib.hid (X0_18.out.below hb)
        have gB1_17 := Lib.hid (gB1_16.out.below hb)
        have mL0_5 := Lib.hid (mL0_4.out.below foldE_ok hb)
        have mL1_4 := Lib.hid (mL1_3.out.below intE_ok hb)
        have HA_2 := Lib.hid (HA_1.out.trans (hb.mono HA_1.out.size))
        have C0_1 := Lib.hid (C0_0.out.below entE_ok hb)
        clear HB_22 A0_22 sB1_20 sL0_20 sL1_20 X0_18 gB1_16 mL0_4 mL1_3 HA_1 C0_0 hb
        have C1_0 := Lib.hid ((by simpa using hI : Ints w25 (Bet (w24.heap.size) w25.heap.size) y8 o1))
        clear hI
        obtain ⟨y8d, y8c, rfl, _, _⟩ := id C1_0.out
        go_wp2_with fail
        refine ((impl_replay _ _ l0 o1 _ (Ents.read C0_1.out) (Ints.read C1_0.out) HSM0.out (HE.out.below HB_23.out HE.out.size)).mono (rpl_of HR.out ⟨Nat.le_trans HLEN.out.1 (by decide), Nat.le_trans HLEN.out.2 (by decide)⟩)).mono ?_
        rintro e w26 ⟨h0d, h0c, h1d, h1c, rfl, hrow0, hrow1, hsep, hb⟩
        have zw26 : w25.heap.size ≤ w26.heap.size := hb.size
        have HA_3 := Lib.hid (HA_2.out.trans (hb.mono HA_2.out.size))
        clear HA_2 hb
        go_wp2
        go_meet
        refine ⟨_, h0d, h0c, h1d, h1c, rfl, rfl, rfl, ⟨by go_simp, by go_simp, by first | omega | (simp; done) | (simp; omega)⟩, by first | omega | (simp; done) | (simp; omega), RowO.to foldE_ok hrow0 ?_ (by omega) (by first | omega | (simp; done) | (simp; omega)) (by first | omega | (simp; done) | (simp; omega)), RowO.to intE_ok hrow1 ?_ (by omega) (by first | omega | (simp; done) | (simp; omega)) (by first | omega | (simp; done) | (simp; omega)), hsep, ?_⟩
        all_goals first | exact ((Below.refl _ _).alloc (Nat.le_refl _) _) | exact (HA_3.out.alloc (by first | omega | (simp; omega)) _) | skip
      case rest =>
        obtain ⟨bh1, h0d, h0c, h1d, h1c, rfl, rfl, rfl, hbx1, zbh1, hrow0, hrow1, hsep, hb⟩ := hcut
        have zzw27 : w23.heap.size ≤ wc.heap.size := hb.size
        clear c_A0
        have HB_22 := Lib.hid (HB_21.out.trans (hb.mono HB_21.out.size))
        have A0_22 := Lib.hid (A0_21.out.below hb)
        have sB1_20 := Lib.hid (sB1_19.out.below hb)
        have sL0_20 := Lib.hid (sL0_19.out.below foldE_ok hb)
        have sL1_20 := Lib.hid (sL1_19.out.below intE_ok hb)
        have X0_18 := Lib.hid (X0_17.out.below hb)
        have gB1_16 := Lib.hid (gB1_15.out.below hb)
        have mL0_4 := Lib.hid (mL0_3.out.below foldE_ok hb)
        have mL1_3 := Lib.hid (mL1_2.out.below intE_ok hb)
        clear HB_21 A0_21 sB1_19 sL0_19 sL1_19 X0_17 gB1_15 mL0_3 mL1_2 hb
        have yyh1 : bh1 < wc.heap.size := hbx1.2.2
        have hB1_0 := Lib.hid (hbx1)
        clear hbx1
        have hL0_0 := Lib.hid (hrow0)
        clear hrow0
        have hL1_0 := Lib.hid (hrow1)
        clear hrow1
        clear hsep
        generalize hww : wc = w27 at *
        clear hww
        obtain ⟨c_hB10, c_hB11, _⟩ := hB1_0.out
        obtain ⟨c_sB10, c_sB11, _⟩ := sB1_20.out
        go_wp2_with fail
        refine (eqEditS _ _ es _ (Flds.read hL0_0.out) (Flds.read sL0_20.out)).mono ?_
        rintro e w28 ⟨rfl, hb⟩
        clear c_hB10 c_hB11 c_sB10 c_sB11
        have zw28 : w27.heap.size ≤ w28.heap.size := hb.size
        have HB_23 := Lib.hid (HB_22.out.trans (hb.mono HB_22.out.size))
        have A0_23 := Lib.hid (A0_22.out.below hb)
        have sB1_21 := Lib.hid (sB1_20.out.below hb)
        have sL0_21 := Lib.hid (sL0_20.out.below foldE_ok hb)
        have sL1_21 := Lib.hid (sL1_20.out.below intE_ok hb)
        have X0_19 := Lib.hid (X0_18.out.below hb)
        have gB1_17 := Lib.hid (gB1_16.out.below hb)
        have mL0_5 := Lib.hid (mL0_4.out.below foldE_ok hb)
        have mL1_4 := Lib.hid (mL1_3.out.below intE_ok hb)
        have hB1_1 := Lib.hid (hB1_0.out.below hb)
        have hL0_1 := Lib.hid (hL0_0.out.below foldE_ok hb)
        have hL1_1 := Lib.hid (hL1_0.out.below intE_ok hb)
        clear HB_22 A0_22 sB1_20 sL0_20 sL1_20 X0_18 gB1_16 mL0_4 mL1_3 hB1_0 hL0_0 hL1_0 hb
        obtain ⟨c_hB10, c_hB11, _⟩ := hB1_1.out
        obtain ⟨c_sB10, c_sB11, _⟩ := sB1_21.out
        go_wp2_with fail
        refine (eqTranslator _ _ nx sc _ (Ints.read hL1_1.out) (Ints.read sL1_21.out)).mono ?_
        rintro e w29 ⟨rfl, hb⟩
        clear c_hB10 c_hB11 c_sB10 c_sB11
        have zw29 : w28.heap.size ≤ w29.heap.size := hb.size
        have HB_24 := Lib.hid (HB_23.out.trans (hb.mono HB_23.out.size))
        have A0_24 := Lib.hid (A0_23.out.below hb)
        have sB1_22 := Lib.hid (sB1_21.out.below hb)
        have sL0_22 := Lib.hid (sL0_21.out.below foldE_ok hb)
        have sL1_22 := Lib.hid (sL1_21.out.below intE_ok hb)
        have X0_20 := Lib.hid (X0_19.out.below hb)
        have gB1_18 := Lib.hid (gB1_17.out.below hb)
        have mL0_6 := Lib.hid (mL0_5.out.below foldE_ok hb)
        have mL1_5 := Lib.hid (mL1_4.out.below intE_ok hb)
        have hB1_2 := Lib.hid (hB1_1.out.below hb)
        have hL0_2 := Lib.hid (hL0_1.out.below foldE_ok hb)
        have hL1_2 := Lib.hid (hL1_1.out.below intE_ok hb)
        clear HB_23 A0_23 sB1_21 sL0_21 sL1_21 X0_19 gB1_17 mL0_5 mL1_4 hB1_1 hL0_1 hL1_1 hb
        go_wp2_with fail
        refine (heldEditS _ es.length (1 : Int) _ (Flds.read mL0_6.out) HG0.out.1 HG0.out.2.1 (by have := HLEN.out; omega)).mono ?_
        rintro e w30 ⟨rfl, hb⟩
        have zw30 : w29.heap.size ≤ w30.heap.size := hb.size
        have HB_25 := Lib.hid (HB_24.out.trans (hb.mono HB_24.out.size))
        have A0_25 := Lib.hid (A0_24.out.below hb)
        have sB1_23 := Lib.hid (sB1_22.out.below hb)
        have sL0_23 := Lib.hid (sL0_22.out.below foldE_ok hb)
        have sL1_23 := Lib.hid (sL1_22.out.below intE_ok hb)
        have X0_21 := Lib.hid (X0_20.out.below hb)
        have gB1_19 := Lib.hid (gB1_18.out.below hb)
        have mL0_7 := Lib.hid (mL0_6.out.below foldE_ok hb)
        have mL1_6 := Lib.hid (mL1_5.out.below intE_ok hb)
        have hB1_3 := Lib.hid (hB1_2.out.below hb)
        have hL0_3 := Lib.hid (hL0_2.out.below foldE_ok hb)
        have hL1_3 := Lib.hid (hL1_2.out.below intE_ok hb)
        clear HB_24 A0_24 sB1_22 sL0_22 sL1_22 X0_20 gB1_18 mL0_6 mL1_5 hB1_2 hL0_2 hL1_2 hb
        have hkn0 : ¬ ((1 : Int) + 2 * (es.length : Int)) < 0 := by have := HG0.out.2.2.2; omega
        obtain ⟨c_gB10, c_gB11, _⟩ := gB1_19.out
        go_wp2_with fail
        refine (heldTranslator _ nx.length sc ((1 : Int) + 2 * (es.length : Int)) _ (Ints.read mL1_6.out) HG1.out.1 HG1.out.2.1 (by have := HLEN.out; omega)).mono ?_
        rintro e w31 ⟨rfl, hb⟩
        clear c_gB10 c_gB11
        have zw31 : w30.heap.size ≤ w31.heap.size := hb.size
        have HB_26 := Lib.hid (HB_25.out.trans (hb.mono HB_25.out.size))
        have A0_26 := Lib.hid (A0_25.out.below hb)
        have sB1_24 := Lib.hid (sB1_23.out.below hb)
        have sL0_24 := Lib.hid (sL0_23.out.below foldE_ok hb)
        have sL1_24 := Lib.hid (sL1_23.out.below intE_ok hb)
        have X0_22 := Lib.hid (X0_21.out.below hb)
        have gB1_20 := Lib.hid (gB1_19.out.below hb)
        have mL0_8 := Lib.hid (mL0_7.out.below foldE_ok hb)
        have mL1_7 := Lib.hid (mL1_6.out.below intE_ok hb)
        have hB1_4 := Lib.hid (hB1_3.out.below hb)
        have hL0_4 := Lib.hid (hL0_3.out.below foldE_ok hb)
        have hL1_4 := Lib.hid (hL1_3.out.below intE_ok hb)
        clear HB_25 A0_25 sB1_23 sL0_23 sL1_23 X0_21 gB1_19 mL0_7 mL1_6 hB1_3 hL0_3 hL1_3 hb
        have hkn1 : ¬ (((1 : Int) + 2 * (es.length : Int)) + (nx.length : Int)) < 0 := by have := HG1.out.2.2.2; omega
        go_wp2
        go_ret
        exact ⟨rfl, HB_26.out⟩
end Go.Proofs.YtpkahblajgaemaaGreatDoor
