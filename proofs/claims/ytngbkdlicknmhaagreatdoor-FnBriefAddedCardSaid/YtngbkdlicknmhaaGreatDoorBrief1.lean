/- Walks: an outline begins with another one; the outlines of which one is a proper prefix of the other one (reference, program). -/
import Derived.Deep.DeepCutAuto
import Derived.Test.YtngbkdlicknmhaaGreatDoorLook1
import Derived.Test.YtngbkdlicknmhaaGreatDoorOuts
import Derived.Test.YtngbkdlicknmhaaGreatDoorIns1
namespace Go.Proofs.YtngbkdlicknmhaaGreatDoor
namespace P
def begins (o p : List Int) : Bool := decide (p.length ≤ o.length) && decide (o.take p.length = p)
def conf (o : List Int) (e : Ent) : Bool := !decide (e.1 = o) && (begins e.1 o || begins o e.1)
/-- the outlines that clash with another one -/
def confl (o : List Int) (l : Dic) : Outs := (l.filter (conf o)).map (·.1)
theorem confl_snoc (o : List Int) (l : Dic) (e : Ent) : confl o (l ++ [e]) = confl o l ++ if conf o e then [e.1] else [] := by
  unfold confl
  rw [List.filter_append, List.map_append]
  congr 1
  cases h : conf o e <;> simp [h]
theorem confl_len (o : List Int) (l : Dic) : (confl o l).length ≤ l.length := by unfold confl; rw [List.length_map]; exact List.length_filter_le _ _
theorem conf_same {o eo : List Int} {t : Bs} (h : eo.length = o.length) : conf o (eo, t) = false := by
  unfold conf begins
  by_cases e : eo = o
  · simp [e]
  · have h1 : ¬ eo.take o.length = o := by rw [← h, List.take_length]; exact e
    have h2 : ¬ o.take eo.length = eo := by rw [h, List.take_length]; exact fun x => e x.symm
    simp [h1, h2]
theorem conf_other {o eo : List Int} {t : Bs} (h : eo ≠ o) : conf o (eo, t) = (begins eo o || begins o eo) := by
  unfold conf; simp [h]
end P
open Go Go.RowKit
set_option maxHeartbeats 2000000
set_option maxRecDepth 100000
theorem IntR.take {v : World} {ad : Option Addr} {cap k : Nat} {l : List Int} (h : IntR v (.slice ad l.length cap) l) (hk : k ≤ l.length) : IntR v (.slice ad k cap) (l.take k) := by
  obtain ⟨ad', cap', he, h1, hn, h3⟩ := h
  injection he with e1 e2 e3
  subst e1 e3
  have hlk : (l.take k).length = k := by rw [List.length_take]; omega
  refine ⟨ad, cap, by rw [hlk], by omega, hn, ?_⟩
  rcases h3 with h3 | ⟨g, o, h4, h5, h6⟩
  · left; rw [h3]; simp
  · refine .inr ⟨g, o, h4, h5, fun j hj => ?_⟩
    have hj' : j < l.length := by omega
    rw [List.getElem_take]
    exact h6 j hj'
theorem l4Begins (u v : Value) (a b : List Int) (w : World) (hu : IntR w u a) (hv : IntR w v b) :
    Calls Tryz.prog 199 #[u, v] w fun e w' => e = .returned (.bool (P.begins a b)) ∧ Below w.heap.size w w' := by
  have HU := Lib.hid hu; have HV := Lib.hid hv
  have hwh := hu.whole
  obtain ⟨ad, cap, rfl, hla, hna, _⟩ := hu
  obtain ⟨bd, dap, rfl, hlb, _⟩ := hv
  by_cases hle : b.length ≤ a.length
  · have HT := Lib.hid (HU.out.take hle)
    have HD := Lib.hid (show P.begins a b = decide (a.take b.length = b) by unfold P.begins; rw [decide_eq_true hle, Bool.true_and])
    have hcap : b.length ≤ cap := by omega
    go_enter Tryz.func199, Tryz.ntmps199
    go_wp2_with fail
    refine (l1Same _ _ (a.take b.length) b _ HT.out HV.out).mono ?_
    rintro e w1 ⟨rfl, hb⟩
    have HB := Lib.hid hb; clear hb
    generalize decide (List.take b.length a = b) = r at *
    go_wp2
    go_ret
    exact ⟨ret_bool (by rw [HD.out]), HB.out⟩
  · have HD := Lib.hid (show P.begins a b = false by unfold P.begins; rw [decide_eq_false hle, Bool.false_and])
    go_enter Tryz.func199, Tryz.ntmps199
    go_wp2
    go_ret
    exact ⟨ret_bool (by rw [HD.out]), Below.refl _ _⟩
theorem startsWith (u v : Value) (a b : List Int) (w : World) (hu : IntR w u a) (hv : IntR w v b) :
    Calls Tryz.prog 198 #[u, v] w fun e w' => e = .returned (.bool (P.begins a b)) ∧ Below w.heap.size w w' := by
  have HU := Lib.hid hu; have HV := Lib.hid hv
  have hwh := hu.whole
  obtain ⟨ad, cap, rfl, hla, hna, _⟩ := hu
  obtain ⟨bd, dap, rfl, hlb, _⟩ := hv
  by_cases hle : b.length ≤ a.length
  · have HT := Lib.hid (HU.out.take hle)
    have HD := Lib.hid (show P.begins a b = decide (a.take b.length = b) by unfold P.begins; rw [decide_eq_true hle, Bool.true_and])
    have hcap : b.length ≤ cap := by omega
    go_enter Tryz.func198, Tryz.ntmps198
    go_wp2_with fail
    refine (equalInts _ _ (a.take b.length) b _ HT.out HV.out).mono ?_
    rintro e w1 ⟨rfl, hb⟩
    have HB := Lib.hid hb; clear hb
    generalize decide (List.take b.length a = b) = r at *
    go_wp2
    go_ret
    exact ⟨ret_bool (by rw [HD.out]), HB.out⟩
  · have HD := Lib.hid (show P.begins a b = false by unfold P.begins; rw [decide_eq_false hle, Bool.false_and])
    go_enter Tryz.func198, Tryz.ntmps198
    go_wp2
    go_ret
    exact ⟨ret_bool (by rw [HD.out]), Below.refl _ _⟩
theorem Box1.mk2 (x : Value) (t : Str) (T : TypeId) (v : World) : Box1 v.heap.size x (v.alloc (.cells #[x, .string (S t)] T)) := ⟨by go_simp, by simp⟩
theorem l17Conflicts (dv ov : Value) (l : P.Dic) (o : List Int) (w : World) (hu : EntR w dv l) (ho : IntR w ov o) (hs : Small l) :
    Calls Tryz.prog 126 #[.agg #[dv], ov] w fun e w' => ∃ u, e = .returned u ∧ OutsO w' (Bet w.heap.size w'.heap.size) u (P.confl o l) ∧ Below w.heap.size w w' := by
  obtain ⟨i0, hi, hz0, hz1, hz2⟩ := info_parts info_sl
  obtain ⟨i1, hi1, hy0, hy1, hy2⟩ := info_parts info_int
  have HU := Lib.hid hu; have HO := Lib.hid ho
  have hb0 : Below w.heap.size w ((w.alloc (.cells #[dv] 26)).alloc (.cells #[] 27)) := ((Below.refl w.heap.size w).alloc (Nat.le_refl _) _).alloc (by simp) _
  have HB0 := Lib.hid hb0
  have HBX := Lib.hid ((Box1.new dv 26 w).below ((Below.refl _ _).alloc (Nat.le_refl _) (.cells #[] 27)))
  have HA0 := Lib.hid (show Acc 27 1 outE (w.heap.size + 1) ((w.alloc (.cells #[dv] 26)).alloc (.cells #[] 27)) (.slice (some ⟨w.heap.size + 1, 0, none⟩) 0 0) [] [] from
    Acc.nil (by have h := World.ownsRow_lit (base := w.heap.size + 1) (e := 27) (size := 1) (w.alloc (.cells #[dv] 26)) #[] 0 (by simp) (Nat.zero_le _) (by simp); simpa using h) (by simp))
  have HSM := Lib.hid hs
  have hln := hs.len
  obtain ⟨ad, cap, rfl, _, _⟩ := hu
  obtain ⟨od, oc, rfl, hol, _⟩ := ho
  clear hb0 hs
  go_enter Tryz.func126, Tryz.ntmps126
  go_wp2_with fail
  go_loopw [5, 6] (fun s i wr => ∃ (j : Nat) (xs : List Value), j ≤ l.length ∧ i = .int .i64 j ∧ Acc 27 1 outE (w.heap.size + 1) wr s (P.confl o (l.take j)) xs ∧ Box1 w.heap.size (.slice ad l.length cap) wr ∧ Below w.heap.size w wr) (fun _ i _ => l.length - (intOf i).toNat)
  case atStart => exact ⟨0, [], Nat.zero_le _, rfl, HA0.out, HBX.out, HB0.out⟩
  case round =>
    clear HA0 HB0 HBX
    obtain ⟨j, xs, hj, rfl, hacc, hbx, hb⟩ := hrel
    have HWR := Lib.hid (show w.heap.size + 1 ≤ wr.heap.size by have h := hbx.2; omega)
    have HA := Lib.hid hacc; have HB := Lib.hid hb; have HBX := Lib.hid hbx
    have hdl : (P.confl o (l.take j)).length ≤ j := Nat.le_trans (P.confl_len _ _) (by rw [List.length_take]; omega)
    obtain ⟨uad, ucap, rfl⟩ := hacc.form
    obtain ⟨b0, _⟩ := hbx
    clear hacc
    by_cases hlt : j < l.length
    · obtain ⟨g, p, hga, hgs, x, c0, c1, hx⟩ := HU.out.at j hlt
      have c0' := (hb.cell (p := ⟨g, _, none⟩) hgs).trans c0
      have c1' := (hb.cell (p := ⟨g, _, none⟩) hgs).trans c1
      have HX0 := Lib.hid (hx.below hb)
      have HEN := Lib.hid (show P.confl o (l.take (j + 1)) = P.confl o (l.take j) ++ if P.conf o l[j] then [l[j].1] else [] by rw [take_snoc l j hlt, P.confl_snoc])
      have HO0 := Lib.hid (HO.out.below hb)
      have hll := HSM.out.outs _ (List.getElem_mem hlt)
      obtain ⟨xd, xc, rfl, hxl, _⟩ := hx
      subst hga
      generalize l[j] = en at *
      obtain ⟨eo, et⟩ := en
      simp only at HX0 HEN hxl hll c1'
      generalize P.confl o (l.take j) = dl at *
      have i1' : (j : Int) < (l.length : Int) := by omega
      clear hb c0 c1
      by_cases hq : eo.length = o.length
      · have HENY := Lib.hid (HEN.out.trans (by rw [P.conf_same hq]; rfl : _ = dl ++ []))
        have q1 : ((eo.length : Int) != (o.length : Int)) = false := by simp [hq]
        have HB1 := Lib.hid (Below.refl wr.heap.size wr)
        clear hq
        go_wp2
        go_roundw
        case rel => exact ⟨j + 1, xs, by omega, by go_num, by rw [HENY.out, List.append_nil]; exact HA.out.keep outE_ok HB1.out, HBX.out.below HB1.out, HB.out.trans (HB1.out.mono HB.out.size)⟩
        case measure => simp [intOf]; omega
      · have q1 : ((eo.length : Int) != (o.length : Int)) = true := by simp; omega
        have HEN1 := Lib.hid (HEN.out.trans (by rw [P.conf_other (by intro e; exact hq (by rw [e]))]))
        clear hq HEN
        have HBa := Lib.hid (Below.refl wr.heap.size wr); have HXa := HX0; have HOa := HO0; clear HX0 HO0
        go_wp2_with fail
        refine (l4Begins _ _ eo o _ HXa.out HOa.out).mono ?_
        rintro e v1 ⟨rfl, hb1⟩
        have HXb := Lib.hid (HXa.out.below hb1); have HOb := Lib.hid (HOa.out.below hb1); have HBb := Lib.hid (HBa.out.trans (hb1.mono HBa.out.size))
        clear hb1 HXa HOa HBa
        have HXa := HXb; have HOa := HOb; have HBa := HBb; clear HXb HOb HBb
        cases hbg : P.begins eo o
        · have HEN2 := Lib.hid (HEN1.out.trans (by rw [hbg, Bool.false_or])); clear hbg HEN1
          go_wp2_with fail
          refine (l4Begins _ _ o eo _ HOa.out HXa.out).mono ?_
          rintro e v2 ⟨rfl, hb1⟩
          have HXb := Lib.hid (HXa.out.below hb1); have HOb := Lib.hid (HOa.out.below hb1); have HBb := Lib.hid (HBa.out.trans (hb1.mono HBa.out.size))
          clear hb1 HXa HOa HBa
          have HXa := HXb; have HOa := HOb; have HBa := HBb; clear HXb HOb HBb
          cases hbh : P.begins o eo
          · have HENY := Lib.hid (HEN2.out.trans (by rw [hbh]; rfl : _ = dl ++ [])); clear hbh HEN2
            go_wp2
            go_roundw
            case rel => exact ⟨j + 1, xs, by omega, by go_num, by rw [HENY.out, List.append_nil]; exact HA.out.keep outE_ok HBa.out, HBX.out.below HBa.out, HB.out.trans (HBa.out.mono HB.out.size)⟩
            case measure => simp [intOf]; omega
          · have HENY := Lib.hid (HEN2.out.trans (by rw [hbh]; rfl : _ = dl ++ [eo])); clear hbh HEN2
            have hba := (Below.refl v2.heap.size v2).alloc (Nat.le_refl _) (.cells #[] 3)
            have HSRC := Lib.hid (src_of_ints (HXa.out.below hba)); have HBA := Lib.hid hba; clear hba
            have HOWI := Lib.hid (World.ownsRow_lit (base := v2.heap.size) (e := 3) (size := 1) v2 #[] 0 (Nat.le_refl _) (Nat.zero_le _) (by simp))
            go_wp2_with (at_builtin; refine wpList_append_src rfl _ _ 27 rfl v2.heap.size 3 i1 (.int .i64 0) 1 8 Tryz.underlying27 hi1 hy0 hy1 hy2 rfl (by decide) (.slice (some ⟨v2.heap.size, 0, none⟩) 0 0) 0 [] rfl HOWI.out (.slice xd eo.length xc) eo.length (ints eo) rfl HSRC.out ?_ ?_ (by simp) ?_)
            · unfold maxLen; omega
            · omega
            intro u1 va hown hgr _
            have HI := Lib.hid (ints_of_owns hown (by omega))
            have HBI := Lib.hid (HBA.out.grown hgr (by simp) (fun k hk => by simp [Value.ownBlock] at hk; omega))
            clear hown hgr HSRC HBA HOWI
            obtain ⟨u1d, u1c, rfl, _, _⟩ := id HI.out
            have HBA1 := Lib.hid (show Below wr.heap.size wr va from HBa.out.trans (HBI.out.mono HBa.out.size))
            have HA2 := Lib.hid ((HA.out.keep outE_ok HBA1.out).keep outE_ok ((Below.refl va.heap.size va).alloc (Nat.le_refl _) (.cells #[.slice u1d eo.length u1c] 27)))
            have HOW := Lib.hid HA2.out.owns
            have HWV := Lib.hid (show w.heap.size + 1 ≤ va.heap.size by have h2 := HBA1.out.size; exact Nat.le_trans HWR.out h2)
            go_wp2_with (at_builtin; refine wpList_append_lies _ rfl _ _ 58 rfl (w.heap.size + 1) 27 i0 (.slice none 0 0) 1 24 Tryz.underlying58 hi hz0 hz1 hz2 rfl (by decide) (.slice uad dl.length ucap) dl.length xs rfl HOW.out ⟨va.heap.size, 0, none⟩ 1 1 [.slice u1d eo.length u1c] rfl rfl ?_ ?_ (Nat.zero_lt_one) ?_ ?_ ?_ _ rfl ?_)
            all_goals first | exact ⟨rfl, rfl⟩ | (intro y hy; simp only [List.mem_cons, List.not_mem_nil, or_false] at hy; subst hy; rfl) | (unfold maxLen; omega) | omega | (have h1 := HWV.out; simp; omega) | (intro i y hy; rcases i with _ | i; (injection hy with hy; subst hy; rw [add0]; go_simp); cases hy) | skip
            intro g1 cap1 v3 hown hgr hat hlt3
            have HB4 := Lib.hid (show Below (w.heap.size + 1) (va.alloc (.cells #[.slice u1d eo.length u1c] 27)) v3 from (Below.refl _ _).grown hgr (by have h1 := HWV.out; simp; omega) (fun k hk => (World.ownsRow.lt HA2.out.owns k hk).1))
            have HAC := Lib.hid (HA.out.snoc (a := eo) (cs := [.slice u1d eo.length u1c]) (v1 := va) (v2 := va.alloc (.cells #[.slice u1d eo.length u1c] 27)) (v3 := v3) (g := g1) (cap := cap1) (F := Bet v2.heap.size va.heap.size) outE_ok HBA1.out (fun b hb => ⟨Nat.le_trans HBa.out.size hb.1, hb.2⟩) ⟨_, rfl, HI.out⟩ rfl ((Below.refl _ _).alloc (Nat.le_refl _) _) hown hgr (by simpa using hat))
            have HBY := Lib.hid ((HBX.out.below HBA1.out).below ((Below.refl va.heap.size va).alloc (Nat.le_refl _) (.cells #[.slice u1d eo.length u1c] 27)))
            have HBX4 := Lib.hid (show Box1 w.heap.size (.slice (some ⟨g, p, none⟩) l.length cap) v3 from ⟨(HB4.out.cell (p := ⟨w.heap.size, 0, none⟩) (by show w.heap.size < w.heap.size + 1; omega)).trans HBY.out.1, Nat.lt_of_lt_of_le HBY.out.2 HB4.out.size⟩)
            have HBW := Lib.hid (((HB.out.trans (HBA1.out.mono HB.out.size)).trans ((Below.refl w.heap.size va).alloc (by have h1 := HWV.out; omega) _)).trans (HB4.out.mono (by omega)))
            clear hown hgr hat hlt3
            go_wp2
            go_roundw
            case rel => exact ⟨j + 1, _, by omega, by go_num, by rw [HENY.out]; exact HAC.out, HBX4.out, HBW.out⟩
            case measure => simp [intOf]; omega
        · have HENY := Lib.hid (HEN1.out.trans (by rw [hbg, Bool.true_or]; rfl : _ = dl ++ [eo])); clear hbg HEN1
          have hba := (Below.refl v1.heap.size v1).alloc (Nat.le_refl _) (.cells #[] 3)
          have HSRC := Lib.hid (src_of_ints (HXa.out.below hba)); have HBA := Lib.hid hba; clear hba
          have HOWI := Lib.hid (World.ownsRow_lit (base := v1.heap.size) (e := 3) (size := 1) v1 #[] 0 (Nat.le_refl _) (Nat.zero_le _) (by simp))
          go_wp2_with (at_builtin; refine wpList_append_src rfl _ _ 27 rfl v1.heap.size 3 i1 (.int .i64 0) 1 8 Tryz.underlying27 hi1 hy0 hy1 hy2 rfl (by decide) (.slice (some ⟨v1.heap.size, 0, none⟩) 0 0) 0 [] rfl HOWI.out (.slice xd eo.length xc) eo.length (ints eo) rfl HSRC.out ?_ ?_ (by simp) ?_)
          · unfold maxLen; omega
          · omega
          intro u1 va hown hgr _
          have HI := Lib.hid (ints_of_owns hown (by omega))
          have HBI := Lib.hid (HBA.out.grown hgr (by simp) (fun k hk => by simp [Value.ownBlock] at hk; omega))
          clear hown hgr HSRC HBA HOWI
          obtain ⟨u1d, u1c, rfl, _, _⟩ := id HI.out
          have HBA1 := Lib.hid (show Below wr.heap.size wr va from HBa.out.trans (HBI.out.mono HBa.out.size))
          have HA2 := Lib.hid ((HA.out.keep outE_ok HBA1.out).keep outE_ok ((Below.refl va.heap.size va).alloc (Nat.le_refl _) (.cells #[.slice u1d eo.length u1c] 27)))
          have HOW := Lib.hid HA2.out.owns
          have HWV := Lib.hid (show w.heap.size + 1 ≤ va.heap.size by have h2 := HBA1.out.size; exact Nat.le_trans HWR.out h2)
          go_wp2_with (at_builtin; refine wpList_append_lies _ rfl _ _ 58 rfl (w.heap.size + 1) 27 i0 (.slice none 0 0) 1 24 Tryz.underlying58 hi hz0 hz1 hz2 rfl (by decide) (.slice uad dl.length ucap) dl.length xs rfl HOW.out ⟨va.heap.size, 0, none⟩ 1 1 [.slice u1d eo.length u1c] rfl rfl ?_ ?_ (Nat.zero_lt_one) ?_ ?_ ?_ _ rfl ?_)
          all_goals first | exact ⟨rfl, rfl⟩ | (intro y hy; simp only [List.mem_cons, List.not_mem_nil, or_false] at hy; subst hy; rfl) | (unfold maxLen; omega) | omega | (have h1 := HWV.out; simp; omega) | (intro i y hy; rcases i with _ | i; (injection hy with hy; subst hy; rw [add0]; go_simp); cases hy) | skip
          intro g1 cap1 v3 hown hgr hat hlt3
          have HB4 := Lib.hid (show Below (w.heap.size + 1) (va.alloc (.cells #[.slice u1d eo.length u1c] 27)) v3 from (Below.refl _ _).grown hgr (by have h1 := HWV.out; simp; omega) (fun k hk => (World.ownsRow.lt HA2.out.owns k hk).1))
          have HAC := Lib.hid (HA.out.snoc (a := eo) (cs := [.slice u1d eo.length u1c]) (v1 := va) (v2 := va.alloc (.cells #[.slice u1d eo.length u1c] 27)) (v3 := v3) (g := g1) (cap := cap1) (F := Bet v1.heap.size va.heap.size) outE_ok HBA1.out (fun b hb => ⟨Nat.le_trans HBa.out.size hb.1, hb.2⟩) ⟨_, rfl, HI.out⟩ rfl ((Below.refl _ _).alloc (Nat.le_refl _) _) hown hgr (by simpa using hat))
          have HBY := Lib.hid ((HBX.out.below HBA1.out).below ((Below.refl va.heap.size va).alloc (Nat.le_refl _) (.cells #[.slice u1d eo.length u1c] 27)))
          have HBX4 := Lib.hid (show Box1 w.heap.size (.slice (some ⟨g, p, none⟩) l.length cap) v3 from ⟨(HB4.out.cell (p := ⟨w.heap.size, 0, none⟩) (by show w.heap.size < w.heap.size + 1; omega)).trans HBY.out.1, Nat.lt_of_lt_of_le HBY.out.2 HB4.out.size⟩)
          have HBW := Lib.hid (((HB.out.trans (HBA1.out.mono HB.out.size)).trans ((Below.refl w.heap.size va).alloc (by have h1 := HWV.out; omega) _)).trans (HB4.out.mono (by omega)))
          clear hown hgr hat hlt3
          go_wp2
          go_roundw
          case rel => exact ⟨j + 1, _, by omega, by go_num, by rw [HENY.out]; exact HAC.out, HBX4.out, HBW.out⟩
          case measure => simp [intOf]; omega
    · have hjl : l.length = j := by omega
      have HT := Lib.hid (show l.take j = l from List.take_of_length_le (by omega))
      clear hb
      go_wp2
      go_ret
      have h := HA.out
      rw [HT.out] at h hdl ⊢
      exact ⟨_, rfl, (h.row (by omega)).wide (fun b hb => ⟨by have := hb.1; omega, hb.2⟩) (fun b hb => hb.2), HB.out⟩
theorem conflicts (dv ov : Value) (l : P.Dic) (o : List Int) (w : World) (hu : EntR w dv l) (ho : IntR w ov o) (hs : Small l) :
    Calls Tryz.prog 124 #[.agg #[dv], ov] w fun e w' => ∃ u, e = .returned u ∧ OutsO w' (Bet w.heap.size w'.heap.size) u (P.confl o l) ∧ Below w.heap.size w w' := by
  obtain ⟨i0, hi, hz0, hz1, hz2⟩ := info_parts info_sl
  obtain ⟨i1, hi1, hy0, hy1, hy2⟩ := info_parts info_int
  have HU := Lib.hid hu; have HO := Lib.hid ho
  have hb0 : Below w.heap.size w ((w.alloc (.cells #[dv] 26)).alloc (.cells #[] 27)) := ((Below.refl w.heap.size w).alloc (Nat.le_refl _) _).alloc (by simp) _
  have HB0 := Lib.hid hb0
  have HBX := Lib.hid ((Box1.new dv 26 w).below ((Below.refl _ _).alloc (Nat.le_refl _) (.cells #[] 27)))
  have HA0 := Lib.hid (show Acc 27 1 outE (w.heap.size + 1) ((w.alloc (.cells #[dv] 26)).alloc (.cells #[] 27)) (.slice (some ⟨w.heap.size + 1, 0, none⟩) 0 0) [] [] from
    Acc.nil (by have h := World.ownsRow_lit (base := w.heap.size + 1) (e := 27) (size := 1) (w.alloc (.cells #[dv] 26)) #[] 0 (by simp) (Nat.zero_le _) (by simp); simpa using h) (by simp))
  have HSM := Lib.hid hs
  have hln := hs.len
  obtain ⟨ad, cap, rfl, _, _⟩ := hu
  obtain ⟨od, oc, rfl, hol, _⟩ := ho
  clear hb0 hs
  go_enter Tryz.func124, Tryz.ntmps124
  go_wp2_with fail
  go_loopw [5, 12] (fun s i wr => ∃ (j : Nat) (xs : List Value), j ≤ l.length ∧ i = .int .i64 j ∧ Acc 27 1 outE (w.heap.size + 1) wr s (P.confl o (l.take j)) xs ∧ Box1 w.heap.size (.slice ad l.length cap) wr ∧ Below w.heap.size w wr) (fun _ i _ => l.length - (intOf i).toNat)
  case atStart => exact ⟨0, [], Nat.zero_le _, rfl, HA0.out, HBX.out, HB0.out⟩
  case round =>
    clear HA0 HB0 HBX
    obtain ⟨j, xs, hj, rfl, hacc, hbx, hb⟩ := hrel
    have HWR := Lib.hid (show w.heap.size + 1 ≤ wr.heap.size by have h := hbx.2; omega)
    have HA := Lib.hid hacc; have HB := Lib.hid hb; have HBX := Lib.hid hbx
    have hdl : (P.confl o (l.take j)).length ≤ j := Nat.le_trans (P.confl_len _ _) (by rw [List.length_take]; omega)
    obtain ⟨uad, ucap, rfl⟩ := hacc.form
    obtain ⟨b0, _⟩ := hbx
    clear hacc
    by_cases hlt : j < l.length
    · obtain ⟨g, p, hga, hgs, x, c0, c1, hx⟩ := HU.out.at j hlt
      have c0' := (hb.cell (p := ⟨g, _, none⟩) hgs).trans c0
      have c1' := (hb.cell (p := ⟨g, _, none⟩) hgs).trans c1
      have HX0 := Lib.hid (hx.below hb)
      have HEN := Lib.hid (show P.confl o (l.take (j + 1)) = P.confl o (l.take j) ++ if P.conf o l[j] then [l[j].1] else [] by rw [take_snoc l j hlt, P.confl_snoc])
      have HO0 := Lib.hid (HO.out.below hb)
      have hll := HSM.out.outs _ (List.getElem_mem hlt)
      obtain ⟨xd, xc, rfl, hxl, _⟩ := hx
      subst hga
      generalize l[j] = en at *
      obtain ⟨eo, et⟩ := en
      simp only at HX0 HEN hxl hll c1'
      generalize P.confl o (l.take j) = dl at *
      have i1' : (j : Int) < (l.length : Int) := by omega
      clear hb c0 c1
      have hba := (Below.refl wr.heap.size wr).alloc (Nat.le_refl _) (.cells #[.slice xd eo.length xc, .string (S et)] 47)
      have HXa := Lib.hid (HX0.out.below hba); have HOa := Lib.hid (HO0.out.below hba); have HBa := Lib.hid hba
      have HEB := Lib.hid (Box1.mk2 (.slice xd eo.length xc) et 47 wr)
      clear hba HX0 HO0
      go_wp2_with fail
      refine (equalInts _ _ eo o _ HXa.out HOa.out).mono ?_
      rintro e v0 ⟨rfl, hb1⟩
      have HXb := Lib.hid (HXa.out.below hb1); have HOb := Lib.hid (HOa.out.below hb1); have HBb := Lib.hid (HBa.out.trans (hb1.mono HBa.out.size)); have HEBb := Lib.hid (HEB.out.below hb1)
      clear hb1 HXa HOa HBa HEB
      have HXa := HXb; have HOa := HOb; have HBa := HBb; have HEB := HEBb; clear HXb HOb HBb HEBb
      obtain ⟨e0, _⟩ := HEB.out
      by_cases hq : eo = o
      · have HENY := Lib.hid (HEN.out.trans (by rw [P.conf_same (by rw [hq])]; rfl : _ = dl ++ []))
        rw [decide_eq_true hq]
        clear hq HEN
        go_wp2
        go_roundw
        case rel => exact ⟨j + 1, xs, by omega, by go_num, by rw [HENY.out, List.append_nil]; exact HA.out.keep outE_ok HBa.out, HBX.out.below HBa.out, HB.out.trans (HBa.out.mono HB.out.size)⟩
        case measure => simp [intOf]; omega
      · rw [decide_eq_false hq]
        have HEN1 := Lib.hid (HEN.out.trans (by rw [P.conf_other hq]))
        clear hq HEN
        go_wp2_with fail
        refine (startsWith _ _ eo o _ HXa.out HOa.out).mono ?_
        rintro e v1 ⟨rfl, hb1⟩
        have HXb := Lib.hid (HXa.out.below hb1); have HOb := Lib.hid (HOa.out.below hb1); have HBb := Lib.hid (HBa.out.trans (hb1.mono HBa.out.size)); have HEBb := Lib.hid (HEB.out.below hb1)
        clear hb1 HXa HOa HBa HEB e0
        have HXa := HXb; have HOa := HOb; have HBa := HBb; clear HXb HOb HBb
        have HEB := HEBb; clear HEBb
        obtain ⟨e0, _⟩ := HEB.out
        cases hbg : P.begins eo o
        · have HEN2 := Lib.hid (HEN1.out.trans (by rw [hbg, Bool.false_or])); clear hbg HEN1
          go_wp2_with fail
          refine (startsWith _ _ o eo _ HOa.out HXa.out).mono ?_
          rintro e v2 ⟨rfl, hb1⟩
          have HXb := Lib.hid (HXa.out.below hb1); have HOb := Lib.hid (HOa.out.below hb1); have HBb := Lib.hid (HBa.out.trans (hb1.mono HBa.out.size)); have HEBb := Lib.hid (HEB.out.below hb1)
          clear hb1 HXa HOa HBa HEB e0
          have HXa := HXb; have HOa := HOb; have HBa := HBb; clear HXb HOb HBb
          have HEB := HEBb; clear HEBb
          obtain ⟨e0, _⟩ := HEB.out
          cases hbh : P.begins o eo
          · have HENY := Lib.hid (HEN2.out.trans (by rw [hbh]; rfl : _ = dl ++ [])); clear hbh HEN2
            go_wp2
            go_roundw
            case rel => exact ⟨j + 1, xs, by omega, by go_num, by rw [HENY.out, List.append_nil]; exact HA.out.keep outE_ok HBa.out, HBX.out.below HBa.out, HB.out.trans (HBa.out.mono HB.out.size)⟩
            case measure => simp [intOf]; omega
          · have HENY := Lib.hid (HEN2.out.trans (by rw [hbh]; rfl : _ = dl ++ [eo])); clear hbh HEN2
            go_wp2_with fail
            refine (copyOf _ eo _ HXa.out (by omega)).mono ?_
            rintro e va ⟨u1, rfl, hI, hbi⟩
            have HI := Lib.hid hI; have HBI := Lib.hid hbi; clear hI hbi
            obtain ⟨u1d, u1c, rfl, _, _⟩ := id HI.out
            have HBA1 := Lib.hid (show Below wr.heap.size wr va from HBa.out.trans (HBI.out.mono HBa.out.size))
            have HA2 := Lib.hid ((HA.out.keep outE_ok HBA1.out).keep outE_ok ((Below.refl va.heap.size va).alloc (Nat.le_refl _) (.cells #[.slice u1d eo.length u1c] 27)))
            have HOW := Lib.hid HA2.out.owns
            have HWV := Lib.hid (show w.heap.size + 1 ≤ va.heap.size by have h2 := HBA1.out.size; exact Nat.le_trans HWR.out h2)
            go_wp2_with (at_builtin; refine wpList_append_lies _ rfl _ _ 58 rfl (w.heap.size + 1) 27 i0 (.slice none 0 0) 1 24 Tryz.underlying58 hi hz0 hz1 hz2 rfl (by decide) (.slice uad dl.length ucap) dl.length xs rfl HOW.out ⟨va.heap.size, 0, none⟩ 1 1 [.slice u1d eo.length u1c] rfl rfl ?_ ?_ (Nat.zero_lt_one) ?_ ?_ ?_ _ rfl ?_)
            all_goals first | exact ⟨rfl, rfl⟩ | (intro y hy; simp only [List.mem_cons, List.not_mem_nil, or_false] at hy; subst hy; rfl) | (unfold maxLen; omega) | omega | (have h1 := HWV.out; simp; omega) | (intro i y hy; rcases i with _ | i; (injection hy with hy; subst hy; rw [add0]; go_simp); cases hy) | skip
            intro g1 cap1 v3 hown hgr hat hlt3
            have HB4 := Lib.hid (show Below (w.heap.size + 1) (va.alloc (.cells #[.slice u1d eo.length u1c] 27)) v3 from (Below.refl _ _).grown hgr (by have h1 := HWV.out; simp; omega) (fun k hk => (World.ownsRow.lt HA2.out.owns k hk).1))
            have HAC := Lib.hid (HA.out.snoc (a := eo) (cs := [.slice u1d eo.length u1c]) (v1 := va) (v2 := va.alloc (.cells #[.slice u1d eo.length u1c] 27)) (v3 := v3) (g := g1) (cap := cap1) (F := Bet v2.heap.size va.heap.size) outE_ok HBA1.out (fun b hb => ⟨Nat.le_trans HBa.out.size hb.1, hb.2⟩) ⟨_, rfl, HI.out⟩ rfl ((Below.refl _ _).alloc (Nat.le_refl _) _) hown hgr (by simpa using hat))
            have HBY := Lib.hid ((HBX.out.below HBA1.out).below ((Below.refl va.heap.size va).alloc (Nat.le_refl _) (.cells #[.slice u1d eo.length u1c] 27)))
            have HBX4 := Lib.hid (show Box1 w.heap.size (.slice (some ⟨g, p, none⟩) l.length cap) v3 from ⟨(HB4.out.cell (p := ⟨w.heap.size, 0, none⟩) (by show w.heap.size < w.heap.size + 1; omega)).trans HBY.out.1, Nat.lt_of_lt_of_le HBY.out.2 HB4.out.size⟩)
            have HBW := Lib.hid (((HB.out.trans (HBA1.out.mono HB.out.size)).trans ((Below.refl w.heap.size va).alloc (by have h1 := HWV.out; omega) _)).trans (HB4.out.mono (by omega)))
            clear hown hgr hat hlt3
            go_wp2
            go_roundw
            case rel => exact ⟨j + 1, _, by omega, by go_num, by rw [HENY.out]; exact HAC.out, HBX4.out, HBW.out⟩
            case measure => simp [intOf]; omega
        · have HENY := Lib.hid (HEN1.out.trans (by rw [hbg, Bool.true_or]; rfl : _ = dl ++ [eo])); clear hbg HEN1
          go_wp2_with fail
          refine (copyOf _ eo _ HXa.out (by omega)).mono ?_
          rintro e va ⟨u1, rfl, hI, hbi⟩
          have HI := Lib.hid hI; have HBI := Lib.hid hbi; clear hI hbi
          obtain ⟨u1d, u1c, rfl, _, _⟩ := id HI.out
          have HBA1 := Lib.hid (show Below wr.heap.size wr va from HBa.out.trans (HBI.out.mono HBa.out.size))
          have HA2 := Lib.hid ((HA.out.keep outE_ok HBA1.out).keep outE_ok ((Below.refl va.heap.size va).alloc (Nat.le_refl _) (.cells #[.slice u1d eo.length u1c] 27)))
          have HOW := Lib.hid HA2.out.owns
          have HWV := Lib.hid (show w.heap.size + 1 ≤ va.heap.size by have h2 := HBA1.out.size; exact Nat.le_trans HWR.out h2)
          go_wp2_with (at_builtin; refine wpList_append_lies _ rfl _ _ 58 rfl (w.heap.size + 1) 27 i0 (.slice none 0 0) 1 24 Tryz.underlying58 hi hz0 hz1 hz2 rfl (by decide) (.slice uad dl.length ucap) dl.length xs rfl HOW.out ⟨va.heap.size, 0, none⟩ 1 1 [.slice u1d eo.length u1c] rfl rfl ?_ ?_ (Nat.zero_lt_one) ?_ ?_ ?_ _ rfl ?_)
          all_goals first | exact ⟨rfl, rfl⟩ | (intro y hy; simp only [List.mem_cons, List.not_mem_nil, or_false] at hy; subst hy; rfl) | (unfold maxLen; omega) | omega | (have h1 := HWV.out; simp; omega) | (intro i y hy; rcases i with _ | i; (injection hy with hy; subst hy; rw [add0]; go_simp); cases hy) | skip
          intro g1 cap1 v3 hown hgr hat hlt3
          have HB4 := Lib.hid (show Below (w.heap.size + 1) (va.alloc (.cells #[.slice u1d eo.length u1c] 27)) v3 from (Below.refl _ _).grown hgr (by have h1 := HWV.out; simp; omega) (fun k hk => (World.ownsRow.lt HA2.out.owns k hk).1))
          have HAC := Lib.hid (HA.out.snoc (a := eo) (cs := [.slice u1d eo.length u1c]) (v1 := va) (v2 := va.alloc (.cells #[.slice u1d eo.length u1c] 27)) (v3 := v3) (g := g1) (cap := cap1) (F := Bet v1.heap.size va.heap.size) outE_ok HBA1.out (fun b hb => ⟨Nat.le_trans HBa.out.size hb.1, hb.2⟩) ⟨_, rfl, HI.out⟩ rfl ((Below.refl _ _).alloc (Nat.le_refl _) _) hown hgr (by simpa using hat))
          have HBY := Lib.hid ((HBX.out.below HBA1.out).below ((Below.refl va.heap.size va).alloc (Nat.le_refl _) (.cells #[.slice u1d eo.length u1c] 27)))
          have HBX4 := Lib.hid (show Box1 w.heap.size (.slice (some ⟨g, p, none⟩) l.length cap) v3 from ⟨(HB4.out.cell (p := ⟨w.heap.size, 0, none⟩) (by show w.heap.size < w.heap.size + 1; omega)).trans HBY.out.1, Nat.lt_of_lt_of_le HBY.out.2 HB4.out.size⟩)
          have HBW := Lib.hid (((HB.out.trans (HBA1.out.mono HB.out.size)).trans ((Below.refl w.heap.size va).alloc (by have h1 := HWV.out; omega) _)).trans (HB4.out.mono (by omega)))
          clear hown hgr hat hlt3
          go_wp2
          go_roundw
          case rel => exact ⟨j + 1, _, by omega, by go_num, by rw [HENY.out]; exact HAC.out, HBX4.out, HBW.out⟩
          case measure => simp [intOf]; omega
    · have hjl : l.length = j := by omega
      have HT := Lib.hid (show l.take j = l from List.take_of_length_le (by omega))
      clear hb
      go_wp2
      go_ret
      have h := HA.out
      rw [HT.out] at h hdl ⊢
      exact ⟨_, rfl, (h.row (by omega)).wide (fun b hb => ⟨by have := hb.1; omega, hb.2⟩) (fun b hb => hb.2), HB.out⟩
end Go.Proofs.YtngbkdlicknmhaaGreatDoor
