/- Walks: segments (reference). -/
import Derived.Test.YtpkahblajgaemaaGreatDoorScrS
namespace Go.Proofs.YtpkahblajgaemaaGreatDoor
open Go Go.RowKit
set_option maxHeartbeats 4000000
set_option maxRecDepth 100000
/-- segments as a row of the call's own -/
def SgOwnPost (l : List P.Pc) (w : World) (e : Ending) (w' : World) : Prop := ∃ u, e = .returned u ∧ OwnP w.heap.size w' u l ∧ Below w.heap.size w w'
theorem l11Segment (dv sv : Value) (l : P.Dic) (st : List Int) (w : World) (hu : EntR w dv l) (hs : IntR w sv st) (hl60 : st.length ≤ 60) :
    Calls Tryz.prog 153 #[.agg #[dv], sv] w (SgOwnPost (P.segA l st) w) := by
  obtain ⟨i0, hi, hz0, hz1, hz2⟩ := info_parts info_pc
  have hb0 : Below w.heap.size w ((w.alloc (.cells #[dv] 26)).alloc (.cells #[] 124)) := ((Below.refl w.heap.size w).alloc (Nat.le_refl _) _).alloc (by simp) _
  have HST := Lib.hid hs; have HU := Lib.hid hu
  have HG := Lib.hid (show SgR w dv l st (.slice (some ⟨w.heap.size + 1, 0, none⟩) 0 0) [] 0 st.length ((w.alloc (.cells #[dv] 26)).alloc (.cells #[] 124)) from
    ⟨by have h := World.ownsRow_lit (base := w.heap.size + 1) (e := 124) (size := 3) (w.alloc (.cells #[dv] 26)) #[] 0 (by simp) (Nat.zero_le _) (by simp); simp at h; exact h,
     (DBx.new dv 26 w).below ((Below.refl _ _).alloc (Nat.le_refl _) _), hb0, by omega, rfl, by omega, by simp⟩)
  clear hb0
  obtain ⟨ad, cap, rfl, _, _⟩ := hu
  obtain ⟨sd, sc, rfl, hsl, _⟩ := hs
  go_enter Tryz.func153, Tryz.ntmps153
  go_wp2_with fail
  go_loopw [5, 6] (fun s i wr => ∃ (row : List P.Pc) (a f : Nat), i = .int .i64 a ∧ SgR w (.slice ad l.length cap) l st s row a f wr) (fun _ i _ => st.length - (intOf i).toNat)
  case atStart => exact ⟨[], 0, st.length, rfl, HG.out⟩
  case round =>
    clear HG
    obtain ⟨row, a, f, rfl, hg⟩ := hrel
    have HG := Lib.hid hg
    obtain ⟨ua, uc, rfl⟩ := hg.own.form
    by_cases hlt : a < st.length
    · have i1 : (a : Int) < (st.length : Int) := by omega
      obtain ⟨k, hk, hk1, hk2⟩ := P.matchA_cnt (d := l) hlt
      have HK := Lib.hid (P.segs_step hlt hg.fuel hk hk1)
      have HKE := Lib.hid hk
      have hra := hg.lr
      obtain ⟨k0, _⟩ := hg.bx
      clear hg hk
      go_wp2_with fail
      refine (l11Match _ _ l st a _ (HU.out.below HG.out.bel) (HST.out.below HG.out.bel) hlt).mono ?_
      rintro e w1 ⟨rfl, hb⟩
      rw [HKE.out]
      obtain ⟨tx, htx⟩ : ∃ tx, (P.matchA l st a).2 = tx := ⟨_, rfl⟩
      rw [htx]
      have HPE := Lib.hid (show P.matchA l st a = (((a : Int), (k : Int)), tx) from Prod.ext HKE.out htx)
      clear htx k0
      have hbx : Below w1.heap.size w1 (w1.alloc (.cells #[.int .i64 a, .int .i64 k, .string (S tx)] 124)) := (Below.refl _ _).alloc (Nat.le_refl _) _
      have HB1 := Lib.hid (hb.trans (hbx.mono hb.size))
      have HZ := Lib.hid (show w.heap.size + 1 ≤ w1.heap.size by have h1 := hb.size; have h2 := HG.out.bx.2.2; omega)
      have HOW := Lib.hid (show OwnP (w.heap.size + 1) (w1.alloc (.cells #[.int .i64 a, .int .i64 k, .string (S tx)] 124)) (.slice ua row.length uc) row from owns_stand HG.out.own (Below.chg HB1.out (fun _ => False)) (fun _ _ h => h))
      have HLT := Lib.hid (show ∀ j, (Value.slice ua row.length uc).ownBlock = some j → j < w1.heap.size from fun j hj => Nat.lt_of_lt_of_le (World.ownsRow.lt HG.out.own j hj).2 hb.size)
      clear hb hbx
      go_wp2_with (at_builtin; refine wpList_append_own _ rfl _ _ 98 rfl (w.heap.size + 1) 124 i0 (.agg #[.int .i64 0, .int .i64 0, .string ⟨#[]⟩]) 3 32 Tryz.underlying98 hi hz0 hz1 hz2 rfl (by decide) (.slice ua row.length uc) row.length (pcells row) rfl HOW.out ⟨w1.heap.size, 0, none⟩ 1 1 [.int .i64 a, .int .i64 k, .string (S tx)] rfl rfl ?_ ?_ ?_ ?_ ?_ ?_)
      all_goals first | exact ⟨rfl, rfl⟩ | (intro z hz; simp only [List.mem_cons, List.not_mem_nil, or_false] at hz; rcases hz with rfl | rfl | rfl <;> rfl) | (unfold maxLen; omega) | omega | (have h1 := HZ.out; simp; omega) | (intro i z hz; rcases i with _ | _ | _ | i; (injection hz with hz; subst hz; rw [add0]; go_simp); (injection hz with hz; subst hz; go_simp); (injection hz with hz; subst hz; go_simp); cases hz) | skip
      intro u4 w4 hown hgr _
      obtain ⟨f', hf', hse⟩ := HK.out
      have HG4 := Lib.hid (HG.out.app (p := (((a : Int), (k : Int)), tx)) (a' := a + k) (f' := f') HB1.out hown hgr hf' (by rw [hse, HPE.out]) hk2 (by omega))
      obtain ⟨ub, uc4, rfl⟩ := HG4.out.own.form
      have hll : (row ++ [(((a : Int), (k : Int)), tx)]).length = row.length + 1 := by simp
      obtain ⟨g4, o4, hub, hg4, _, c1, _⟩ := (HG4.out.own.read (by rw [hll]; omega)).at row.length (by rw [hll]; omega)
      rw [List.getElem_append_right (Nat.le_refl _)] at c1
      simp only [Nat.sub_self, List.getElem_cons_zero] at c1
      subst hub
      rw [hll] at HG4 ⊢
      clear hown hgr hf' hse HOW HLT HK HKE HPE HG HB1
      go_wp2
      go_roundw
      case rel => exact ⟨_, a + k, f', by go_num, HG4.out⟩
      case measure => simp [intOf]; omega
    · have HE := Lib.hid (show P.segA l st = row by rw [hg.seg, P.segs_end (by omega), List.append_nil])
      have hra := hg.lr
      have hla := hg.la
      clear hg
      go_wp2
      go_ret
      exact ⟨_, rfl, by rw [HE.out]; exact own_base HG.out.own (Nat.le_succ _), HG.out.bel⟩
end Go.Proofs.YtpkahblajgaemaaGreatDoor
