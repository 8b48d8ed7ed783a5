/- Walks: a stack and a text of it, drawn from bytes. -/
import Derived.Deep.DeepCutAuto
import Derived.Test.YtonhkglilnplbaaGreatDoorCurE8
set_option linter.all false
namespace Go.Proofs.YtonhkglilnplbaaGreatDoor
open Go Go.RowKit
set_option maxHeartbeats 4000000
set_option maxRecDepth 100000
/-- a dictionary of the stack lies in block X -/
structure DIn (K S X : Nat) (w : World) (u : Value) (l : P.Lays) (vd : Value) (d : P.Dic) (x : Value) (dx : P.Dic) (v : World) : Prop where
  st : LSt K S w u l vd d v
  dr : Drawn dx
  ds : ReadE (w.heap.size + 2) S v x dx
  bx : DBx X x v
  hi : S ≤ X
theorem DIn.stand {K K' S X : Nat} {w v v' : World} {u vd x : Value} {l : P.Lays} {d dx : P.Dic} (h : DIn K S X w u l vd d x dx v) (hc : CurPost w.heap.size (w.heap.size + 1) K' v v') : DIn K' S X w u l vd d x dx v' := by
  obtain ⟨h0, h1, h2, h3, h4⟩ := h
  have := h0.low
  exact ⟨h0.stand hc, h1, h2.chg hc.2 (fun b h1 h2 e => by omega), h3.stand hc.2 (by omega), h4⟩
theorem DIn.below {K S X : Nat} {w v v' : World} {u vd x : Value} {l : P.Lays} {d dx : P.Dic} (h : DIn K S X w u l vd d x dx v) (hb : Below v.heap.size v v') : DIn K S X w u l vd d x dx v' := by
  obtain ⟨h0, h1, h2, h3, h4⟩ := h
  exact ⟨h0.below hb, h1, h2.chg (Below.chg hb (fun _ => False)) (fun _ _ _ h => h), h3.below hb, h4⟩
/-- the box is made, then filled -/
theorem DIn.fill {K S X : Nat} {w v : World} {u vd x : Value} {l : P.Lays} {d dx : P.Dic} (h : LSt K S w u l vd d v) (hd : Drawn dx) (hr : ReadE (w.heap.size + 2) S v x dx) (hx : S + 1 < X) (y : Value) (hb : DBx X y v) : DIn K S X w u l vd d x dx (v.setCell ⟨X, 0, none⟩ x) := by
  have hc : Chg (fun b => b = X) v (v.setCell ⟨X, 0, none⟩ x) := (Chg.refl (fun b => b = X) v).setCell (p := ⟨X, 0, none⟩) rfl _
  obtain ⟨h0, h1, h2, h3, h4, h5, h6, h7, h8⟩ := h
  exact ⟨⟨h0, h1.chg hc (fun b h1 h2 e => by omega), h2, h3.chg hc (fun b h1 h2 e => by omega), h4.stand hc (by omega), h5.stand hc (by omega), h6.stand hc (by omega), h7.stand hc (fun b e => by subst e; omega), h8.trans (hc.below h8.size (by rintro b rfl; omega))⟩, hd, hr.chg hc (fun b h1 h2 e => by omega), hb.put, by omega⟩
def OForDrawn (w : World) (e : Ending) (w' : World) : Prop := ∃ (l : P.Lays) (t : Str) (u : Value), e = .returned (.tuple #[.agg #[u], .string (S t)]) ∧ DrawnL l ∧ t.length ≤ 300 ∧ LayR w' u l ∧ Below w.heap.size w w'
theorem drawOutlinesFor (cv : Value) (w : World) (hc : CodeIs w cv) :
    Calls Tryz.prog 32 #[cv] w (OForDrawn w) := by
  have H1 := Lib.hid (CodeIs.fresh (t := 127) hc ((Below.refl w.heap.size w).alloc (Nat.le_refl _) (.cells #[.slice none 0 0] 52)))
  obtain ⟨ad, n, cap, rfl, _, _⟩ := hc
  go_enter Tryz.func32, Tryz.ntmps32
  go_wp2_with fail
  refine (l8Draw w.heap.size (w.heap.size + 1) 0 _ (by decide) (by simpa using H1.out)).mono ?_
  rintro e w1 ⟨l, d, u, ud, rfl, hdl, hdd, hrl, hrd, hc⟩
  have HL := Lib.hid (LSt.start 52 32 hdd hrl hrd hc)
  have HDL := Lib.hid hdl
  have hz1 : w.heap.size + 2 ≤ w1.heap.size := HL.out.low
  obtain ⟨la, lc, rfl, hl45, _⟩ := hrl.now
  obtain ⟨da, dc, rfl, _, _⟩ := hrd.now
  have hl5 := hdl.len
  clear hdl hdd hrl hrd hc H1
  go_wp2_with fail
  refine (cur_translation w.heap.size (w.heap.size + 1) (0 + 20000) _ (by decide) HL.out.cur).mono ?_
  rintro e w2 ⟨t0, rfl, ht0, hc⟩
  have HL2 := Lib.hid (HL.out.stand hc)
  clear hc HL
  go_upto_region 4 with fail
  go_cut [27] (fun b wx => ∃ bb : Bool, b = .bool bb ∧ (bb = true → 0 < l.length) ∧ LSt 20032 w1.heap.size w (.slice la l.length lc) l (.slice da d.length dc) d wx)
  case first =>
    obtain ⟨k0, k1, k2⟩ := HL2.out.bs
    by_cases hp : 0 < l.length
    · have hpi : (0 : Int) < (l.length : Int) := by omega
      go_wp2_with fail
      refine (cur_one w.heap.size (w.heap.size + 1) (0 + 20000 + 30) 4 _ (by decide) (by decide) HL2.out.cur).mono ?_
      rintro e w3 ⟨b, rfl, hc⟩
      have HL3 := Lib.hid (HL2.out.stand hc)
      clear hc HL2
      go_wp2
      go_meet
      exact ⟨!b, rfl, fun _ => hp, HL3.out.mono (by omega)⟩
    · have hpi : ¬ (0 : Int) < (l.length : Int) := by omega
      go_wp2
      go_meet
      exact ⟨false, by simp, (fun e => by cases e), HL2.out.mono (by omega)⟩
  case rest =>
    obtain ⟨bb, rfl, hbp, hls⟩ := hcut
    have HL3 := Lib.hid hls
    clear hls HL2
    go_upto_if 27 with fail
    go_cut [7] (fun tv wy => ∃ t : Str, tv = .string (S t) ∧ t.length ≤ 300 ∧ LSt 20040 w1.heap.size w (.slice la l.length lc) l (.slice da d.length dc) d wy)
    case first =>
      cases bb
      · go_wp2
        go_meet
        exact ⟨t0, rfl, ht0, HL3.out.mono (by omega)⟩
      · have hp := hbp rfl
        have hpi : (0 : Int) < (l.length : Int) := by omega
        clear hbp
        go_upto_region 5 with fail
        go_cut [8] (fun p wz => ∃ (X : Nat) (xa : Option Addr) (xc : Nat) (dx : P.Dic), p = .pointer (some ⟨X, 0, none⟩) ∧ DIn 20034 w1.heap.size X w (.slice la l.length lc) l (.slice da d.length dc) d (.slice xa dx.length xc) dx wz)
        case first =>
          -- printed by mk_cure9.py
          have HS := Lib.hid (show DBx w1.heap.size (.slice la l.length lc) wc.drew from HL3.out.bs.below (Below.refl _ _).drew)
          have HLd := Lib.hid (HL3.out.below (Below.refl wc.heap.size wc).drew)
          clear HL3
          refine wp_region_held_drew (S := DBx w1.heap.size (.slice la l.length lc)) (by kernel_rfl) HS.out (fun hS0 => ?_)
          generalize wc.drew = v0 at *
          refine wpAnyH_take (i := 0) (v := .pointer (some ⟨w1.heap.size, 0, none⟩)) rfl (by kernel_rfl) (by kernel_rfl) (by kernel_rfl) (fun _ _ _ h => h) (Or.inl ⟨by rfl, fun z hz => ?_⟩) hS0 ?_
          · obtain ⟨z1, z2, z3⟩ := hz
            go_simp
          try simp only [List.getElem_toArray, List.getElem_cons_zero, Act.put, List.setIfInBounds_toArray, List.set_cons_zero, List.set_cons_succ]
          refine wpAnyH_take (i := 1) (v := .slice la l.length lc) rfl (by kernel_rfl) (by kernel_rfl) (by kernel_rfl) (fun _ _ _ h => h) (Or.inl ⟨by rfl, fun z hz => ?_⟩) hS0 ?_
          · obtain ⟨z1, z2, z3⟩ := hz
            go_simp
          try simp only [List.getElem_toArray, List.getElem_cons_zero, List.getElem_cons_succ, Act.put, List.setIfInBounds_toArray, List.set_cons_zero, List.set_cons_succ]
          refine wpAnyH_take (i := 2) (v := .pointer (some ⟨w.heap.size + 1, 0, none⟩)) rfl (by kernel_rfl) (by kernel_rfl) (by kernel_rfl) (fun _ _ _ h => h) (Or.inl ⟨by rfl, fun z hz => ?_⟩) hS0 ?_
          · obtain ⟨z1, z2, z3⟩ := hz
            go_simp
          try simp only [List.getElem_toArray, List.getElem_cons_zero, List.getElem_cons_succ, Act.put, List.setIfInBounds_toArray, List.set_cons_zero, List.set_cons_succ]
          refine wpAnyH_take (i := 3) (v := .pointer (some ⟨w1.heap.size, 0, none⟩)) rfl (by kernel_rfl) (by kernel_rfl) (by kernel_rfl) (fun _ _ _ h => h) (Or.inl ⟨by rfl, fun z hz => ?_⟩) hS0 ?_
          · obtain ⟨z1, z2, z3⟩ := hz
            go_simp
          try simp only [List.getElem_toArray, List.getElem_cons_zero, List.getElem_cons_succ, Act.put, List.setIfInBounds_toArray, List.set_cons_zero, List.set_cons_succ]
          refine wpAnyH_take (i := 4) (v := .slice la l.length lc) rfl (by kernel_rfl) (by kernel_rfl) (by kernel_rfl) (fun _ _ _ h => h) (Or.inl ⟨by rfl, fun z hz => ?_⟩) hS0 ?_
          · obtain ⟨z1, z2, z3⟩ := hz
            go_simp
          try simp only [List.getElem_toArray, List.getElem_cons_zero, List.getElem_cons_succ, Act.put, List.setIfInBounds_toArray, List.set_cons_zero, List.set_cons_succ]
          refine wpAnyH_take (i := 5) (v := .int .i64 (l.length : Int)) rfl (by kernel_rfl) (by kernel_rfl) (by kernel_rfl) (fun _ _ _ h => h) (Or.inl ⟨by rfl, fun z hz => ?_⟩) hS0 ?_
          · obtain ⟨z1, z2, z3⟩ := hz
            go_simp
          try simp only [List.getElem_toArray, List.getElem_cons_zero, List.getElem_cons_succ, Act.put, List.setIfInBounds_toArray, List.set_cons_zero, List.set_cons_succ]
          refine wpAnyH_ready (rs := [6, 10]) (by kernel_rfl) (by simp) ?_
          refine AllReadyH.cons rfl (fun K hK => ?_) (AllReadyH.cons rfl (fun K hK => ?_) AllReadyH.nil)
          · skip
            go_simp
            refine (cur_pick w.heap.size (w.heap.size + 1) 20032 (l.length : Int) _ (by decide) (by omega) HLd.out.cur).mono ?_
            rintro e v11 ⟨i, hi', rfl, hc⟩
            have hil : i < l.length := by omega
            have hzv11 : v0.heap.size ≤ v11.heap.size := hc.2.size
            have HL11 := Lib.hid (HLd.out.stand hc)
            refine hK.out _ _ HL11.out.bs (fun hS11 => ?_)
            clear hK K hc hi'
            obtain ⟨g, o, x, hgo, hg, c0, c1, hx⟩ := HL11.out.ls.at i hil
            obtain ⟨xa, xc, rfl, _, _⟩ := hx.now
            have HXX := Lib.hid hx; have HDX := Lib.hid (HDL.out.dics _ (List.getElem_mem hil))
            subst hgo
            have i1 : (i : Int) < (l.length : Int) := by omega
            generalize l[i].1 = dx at *
            clear hx
            try simp only [List.getElem_toArray, List.getElem_cons_zero, List.getElem_cons_succ, Act.put, List.setIfInBounds_toArray, List.set_cons_zero, List.set_cons_succ]
            refine wpAnyH_take (i := 7) (v := .pointer (some ⟨g, o + i * 2, none⟩)) rfl (by kernel_rfl) (by kernel_rfl) (by kernel_rfl) (fun _ _ _ h => h) (Or.inl ⟨by rfl, fun z hz => ?_⟩) hS11 ?_
            · obtain ⟨z1, z2, z3⟩ := hz
              go_simp
            try simp only [List.getElem_toArray, List.getElem_cons_zero, List.getElem_cons_succ, Act.put, List.setIfInBounds_toArray, List.set_cons_zero, List.set_cons_succ]
            refine wpAnyH_take (i := 8) (v := .pointer (some ⟨g, o + i * 2, none⟩)) rfl (by kernel_rfl) (by kernel_rfl) (by kernel_rfl) (fun _ _ _ h => h) (Or.inl ⟨by rfl, fun z hz => ?_⟩) hS11 ?_
            · obtain ⟨z1, z2, z3⟩ := hz
              go_simp
            try simp only [List.getElem_toArray, List.getElem_cons_zero, List.getElem_cons_succ, Act.put, List.setIfInBounds_toArray, List.set_cons_zero, List.set_cons_succ]
            refine wpAnyH_ready (rs := [9, 10]) (by kernel_rfl) (by simp) ?_
            refine AllReadyH.cons rfl (fun K hK => ?_) (AllReadyH.cons rfl (fun K hK => ?_) AllReadyH.nil)
            · skip
              go_simp
              refine hK.out _ _ HL11.out.bs (fun hS12 => ?_)
              clear hK K
              try simp only [List.getElem_toArray, List.getElem_cons_zero, List.getElem_cons_succ, Act.put, List.setIfInBounds_toArray, List.set_cons_zero, List.set_cons_succ]
              refine wpAnyH_ready (rs := [10]) (by kernel_rfl) (by simp) ?_
              refine AllReadyH.cons rfl (fun K hK => ?_) AllReadyH.nil
              go_simp
              have hb : Below v11.heap.size v11 (v11.alloc (.cells #[.slice none 0 0] 32)) := (Below.refl _ _).alloc (Nat.le_refl _) _
              have HXL := Lib.hid (show w1.heap.size + 1 < v11.heap.size from HL11.out.bd.2.2)
              have HL13 := Lib.hid (HL11.out.below hb)
              have HN3 := Lib.hid (DBx.new (.slice none 0 0) 32 v11)
              have HXY3 := Lib.hid (HXX.out.chg (Below.chg hb (fun _ => False)) (fun _ _ _ h => h))
              have d0 := (hb.cell (p := ⟨g, o + i * 2, none⟩) hg).trans c0
              refine hK.out _ _ HL13.out.bs (fun hS13 => ?_)
              clear hK K hb
              generalize v11.alloc (.cells #[.slice none 0 0] 32) = v13 at *
              try simp only [List.getElem_toArray, List.getElem_cons_zero, List.getElem_cons_succ, Act.put, List.setIfInBounds_toArray, List.set_cons_zero, List.set_cons_succ]
              refine wpAnyH_ready (rs := [11]) (by kernel_rfl) (by simp) ?_
              refine AllReadyH.cons rfl (fun K hK => ?_) AllReadyH.nil
              obtain ⟨n0, n1, n2⟩ := HN3.out
              have HF := Lib.hid (DIn.fill (X := v11.heap.size) (HL13.out.mono (by omega : 20034 ≤ 20034)) HDX.out HXY3.out HXL.out _ HN3.out)
              go_simp
              refine hK.out _ _ HF.out.st.bs (fun hS14 => ?_)
              clear hK K
              try simp only [List.getElem_toArray, List.getElem_cons_zero, List.getElem_cons_succ, Act.put, List.setIfInBounds_toArray, List.set_cons_zero, List.set_cons_succ]
              refine wpAnyH_done (by kernel_rfl) ?_ _
              clear hS0 hS11 hS12 hS13 hS14
              go_wp2
              go_meet
              exact ⟨_, xa, xc, dx, rfl, HF.out⟩
            · skip
              go_simp
              have hb : Below v11.heap.size v11 (v11.alloc (.cells #[.slice none 0 0] 32)) := (Below.refl _ _).alloc (Nat.le_refl _) _
              have HXL := Lib.hid (show w1.heap.size + 1 < v11.heap.size from HL11.out.bd.2.2)
              have HL15 := Lib.hid (HL11.out.below hb)
              have HN5 := Lib.hid (DBx.new (.slice none 0 0) 32 v11)
              have HXY5 := Lib.hid (HXX.out.chg (Below.chg hb (fun _ => False)) (fun _ _ _ h => h))
              have d0 := (hb.cell (p := ⟨g, o + i * 2, none⟩) hg).trans c0
              refine hK.out _ _ HL15.out.bs (fun hS15 => ?_)
              clear hK K hb
              generalize v11.alloc (.cells #[.slice none 0 0] 32) = v15 at *
              try simp only [List.getElem_toArray, List.getElem_cons_zero, List.getElem_cons_succ, Act.put, List.setIfInBounds_toArray, List.set_cons_zero, List.set_cons_succ]
              refine wpAnyH_ready (rs := [9]) (by kernel_rfl) (by simp) ?_
              refine AllReadyH.cons rfl (fun K hK => ?_) AllReadyH.nil
              go_simp
              refine hK.out _ _ HL15.out.bs (fun hS16 => ?_)
              clear hK K
              try simp only [List.getElem_toArray, List.getElem_cons_zero, List.getElem_cons_succ, Act.put, List.setIfInBounds_toArray, List.set_cons_zero, List.set_cons_succ]
              refine wpAnyH_ready (rs := [11]) (by kernel_rfl) (by simp) ?_
              refine AllReadyH.cons rfl (fun K hK => ?_) AllReadyH.nil
              obtain ⟨n0, n1, n2⟩ := HN5.out
              have HF := Lib.hid (DIn.fill (X := v11.heap.size) (HL15.out.mono (by omega : 20034 ≤ 20034)) HDX.out HXY5.out HXL.out _ HN5.out)
              go_simp
              refine hK.out _ _ HF.out.st.bs (fun hS17 => ?_)
              clear hK K
              try simp only [List.getElem_toArray, List.getElem_cons_zero, List.getElem_cons_succ, Act.put, List.setIfInBounds_toArray, List.set_cons_zero, List.set_cons_succ]
              refine wpAnyH_done (by kernel_rfl) ?_ _
              clear hS0 hS11 hS15 hS16 hS17
              go_wp2
              go_meet
              exact ⟨_, xa, xc, dx, rfl, HF.out⟩
          · skip
            go_simp
            have hb : Below v0.heap.size v0 (v0.alloc (.cells #[.slice none 0 0] 32)) := (Below.refl _ _).alloc (Nat.le_refl _) _
            have HXL := Lib.hid (show w1.heap.size + 1 < v0.heap.size from HLd.out.bd.2.2)
            have HL18 := Lib.hid (HLd.out.below hb)
            have HN8 := Lib.hid (DBx.new (.slice none 0 0) 32 v0)
            refine hK.out _ _ HL18.out.bs (fun hS18 => ?_)
            clear hK K hb
            generalize v0.alloc (.cells #[.slice none 0 0] 32) = v18 at *
            try simp only [List.getElem_toArray, List.getElem_cons_zero, List.getElem_cons_succ, Act.put, List.setIfInBounds_toArray, List.set_cons_zero, List.set_cons_succ]
            refine wpAnyH_ready (rs := [6]) (by kernel_rfl) (by simp) ?_
            refine AllReadyH.cons rfl (fun K hK => ?_) AllReadyH.nil
            go_simp
            refine (cur_pick w.heap.size (w.heap.size + 1) 20032 (l.length : Int) _ (by decide) (by omega) HL18.out.cur).mono ?_
            rintro e v19 ⟨i, hi', rfl, hc⟩
            have hil : i < l.length := by omega
            have hzv19 : v18.heap.size ≤ v19.heap.size := hc.2.size
            have HL19 := Lib.hid (HL18.out.stand hc)
            have HN9 := Lib.hid (HN8.out.stand hc.2 (by have h1 := hz1; have h2 := HL18.out.bd.2.2; have h3 := HXL.out; omega))
            refine hK.out _ _ HL19.out.bs (fun hS19 => ?_)
            clear hK K hc hi'
            obtain ⟨g, o, x, hgo, hg, c0, c1, hx⟩ := HL19.out.ls.at i hil
            obtain ⟨xa, xc, rfl, _, _⟩ := hx.now
            have HXX := Lib.hid hx; have HDX := Lib.hid (HDL.out.dics _ (List.getElem_mem hil))
            subst hgo
            have i1 : (i : Int) < (l.length : Int) := by omega
            generalize l[i].1 = dx at *
            clear hx
            try simp only [List.getElem_toArray, List.getElem_cons_zero, List.getElem_cons_succ, Act.put, List.setIfInBounds_toArray, List.set_cons_zero, List.set_cons_succ]
            refine wpAnyH_take (i := 7) (v := .pointer (some ⟨g, o + i * 2, none⟩)) rfl (by kernel_rfl) (by kernel_rfl) (by kernel_rfl) (fun _ _ _ h => h) (Or.inl ⟨by rfl, fun z hz => ?_⟩) hS19 ?_
            · obtain ⟨z1, z2, z3⟩ := hz
              go_simp
            try simp only [List.getElem_toArray, List.getElem_cons_zero, List.getElem_cons_succ, Act.put, List.setIfInBounds_toArray, List.set_cons_zero, List.set_cons_succ]
            refine wpAnyH_take (i := 8) (v := .pointer (some ⟨g, o + i * 2, none⟩)) rfl (by kernel_rfl) (by kernel_rfl) (by kernel_rfl) (fun _ _ _ h => h) (Or.inl ⟨by rfl, fun z hz => ?_⟩) hS19 ?_
            · obtain ⟨z1, z2, z3⟩ := hz
              go_simp
            try simp only [List.getElem_toArray, List.getElem_cons_zero, List.getElem_cons_succ, Act.put, List.setIfInBounds_toArray, List.set_cons_zero, List.set_cons_succ]
            refine wpAnyH_ready (rs := [9]) (by kernel_rfl) (by simp) ?_
            refine AllReadyH.cons rfl (fun K hK => ?_) AllReadyH.nil
            go_simp
            refine hK.out _ _ HL19.out.bs (fun hS20 => ?_)
            clear hK K
            try simp only [List.getElem_toArray, List.getElem_cons_zero, List.getElem_cons_succ, Act.put, List.setIfInBounds_toArray, List.set_cons_zero, List.set_cons_succ]
            refine wpAnyH_ready (rs := [11]) (by kernel_rfl) (by simp) ?_
            refine AllReadyH.cons rfl (fun K hK => ?_) AllReadyH.nil
            obtain ⟨n0, n1, n2⟩ := HN9.out
            have HF := Lib.hid (DIn.fill (X := v0.heap.size) (HL19.out.mono (by omega : 20034 ≤ 20034)) HDX.out HXX.out HXL.out _ HN9.out)
            go_simp
            refine hK.out _ _ HF.out.st.bs (fun hS21 => ?_)
            clear hK K
            try simp only [List.getElem_toArray, List.getElem_cons_zero, List.getElem_cons_succ, Act.put, List.setIfInBounds_toArray, List.set_cons_zero, List.set_cons_succ]
            refine wpAnyH_done (by kernel_rfl) ?_ _
            clear hS0 hS18 hS19 hS20 hS21
            go_wp2
            go_meet
            exact ⟨_, xa, xc, dx, rfl, HF.out⟩
        case rest =>
          clear HL3
          obtain ⟨X, xa, xc, dx, rfl, hdi⟩ := hcut
          have HD := Lib.hid hdi
          have hdl := hdi.ds.now
          have hdl41 := hdi.dr.len
          obtain ⟨_, _, he, hdl45, _⟩ := hdl
          clear he
          by_cases hq : 0 < dx.length
          · have hqi : (0 : Int) < (dx.length : Int) := by omega
            obtain ⟨x0, x1, x2⟩ := hdi.bx
            clear hdi
            have HS := Lib.hid (show DBx X (.slice xa dx.length xc) wc.drew from HD.out.bx.below (Below.refl _ _).drew)
            have HD2 := Lib.hid (HD.out.below (Below.refl wc.heap.size wc).drew)
            clear HD
            go_upto_region 7 with fail
            clear x0 x1 x2
            refine wp_region_held_drew (S := DBx X (.slice xa dx.length xc)) (by kernel_rfl) HS.out (fun hS0 => ?_)
            generalize wc.drew = v0 at *
            refine wpAnyH_take (i := 0) (v := .pointer (some ⟨X, 0, none⟩)) rfl (by kernel_rfl) (by kernel_rfl) (by kernel_rfl) (fun _ _ _ h => h) (Or.inl ⟨by rfl, fun z hz => ?_⟩) hS0 ?_
            · obtain ⟨z1, z2, z3⟩ := hz
              go_simp
            try simp only [List.getElem_toArray, List.getElem_cons_zero, Act.put, List.setIfInBounds_toArray, List.set_cons_zero, List.set_cons_succ]
            refine wpAnyH_take (i := 1) (v := .slice xa dx.length xc) rfl (by kernel_rfl) (by kernel_rfl) (by kernel_rfl) (fun _ _ _ h => h) (Or.inl ⟨by rfl, fun z hz => ?_⟩) hS0 ?_
            · obtain ⟨z1, z2, z3⟩ := hz
              go_simp
            try simp only [List.getElem_toArray, List.getElem_cons_zero, List.getElem_cons_succ, Act.put, List.setIfInBounds_toArray, List.set_cons_zero, List.set_cons_succ]
            refine wpAnyH_take (i := 2) (v := .pointer (some ⟨w.heap.size + 1, 0, none⟩)) rfl (by kernel_rfl) (by kernel_rfl) (by kernel_rfl) (fun _ _ _ h => h) (Or.inl ⟨by rfl, fun z hz => ?_⟩) hS0 ?_
            · obtain ⟨z1, z2, z3⟩ := hz
              go_simp
            try simp only [List.getElem_toArray, List.getElem_cons_zero, List.getElem_cons_succ, Act.put, List.setIfInBounds_toArray, List.set_cons_zero, List.set_cons_succ]
            refine wpAnyH_take (i := 3) (v := .pointer (some ⟨X, 0, none⟩)) rfl (by kernel_rfl) (by kernel_rfl) (by kernel_rfl) (fun _ _ _ h => h) (Or.inl ⟨by rfl, fun z hz => ?_⟩) hS0 ?_
            · obtain ⟨z1, z2, z3⟩ := hz
              go_simp
            try simp only [List.getElem_toArray, List.getElem_cons_zero, List.getElem_cons_succ, Act.put, List.setIfInBounds_toArray, List.set_cons_zero, List.set_cons_succ]
            refine wpAnyH_take (i := 4) (v := .slice xa dx.length xc) rfl (by kernel_rfl) (by kernel_rfl) (by kernel_rfl) (fun _ _ _ h => h) (Or.inl ⟨by rfl, fun z hz => ?_⟩) hS0 ?_
            · obtain ⟨z1, z2, z3⟩ := hz
              go_simp
            try simp only [List.getElem_toArray, List.getElem_cons_zero, List.getElem_cons_succ, Act.put, List.setIfInBounds_toArray, List.set_cons_zero, List.set_cons_succ]
            refine wpAnyH_take (i := 5) (v := .int .i64 (dx.length : Int)) rfl (by kernel_rfl) (by kernel_rfl) (by kernel_rfl) (fun _ _ _ h => h) (Or.inl ⟨by rfl, fun z hz => ?_⟩) hS0 ?_
            · obtain ⟨z1, z2, z3⟩ := hz
              go_simp
            try simp only [List.getElem_toArray, List.getElem_cons_zero, List.getElem_cons_succ, Act.put, List.setIfInBounds_toArray, List.set_cons_zero, List.set_cons_succ]
            refine wpAnyH_ready (rs := [6]) (by kernel_rfl) (by simp) ?_
            refine AllReadyH.cons rfl (fun K hK => ?_) AllReadyH.nil
            go_simp
            refine (cur_pick w.heap.size (w.heap.size + 1) 20034 (dx.length : Int) _ (by decide) (by omega) HD2.out.st.cur).mono ?_
            rintro e v1 ⟨i, hi', rfl, hc⟩
            have hil : i < dx.length := by omega
            have HD3 := Lib.hid (HD2.out.stand hc)
            refine hK.out _ _ HD3.out.bx (fun hS1 => ?_)
            clear hK K hc hi' HD2
            obtain ⟨g, o, rfl, hg, x, c0, c1, hx⟩ := HD3.out.ds.now.at i hil
            have HTX := Lib.hid (HD3.out.dr.texts _ (List.getElem_mem hil))
            have i1 : (i : Int) < (dx.length : Int) := by omega
            generalize dx[i].2 = tx at *
            clear hx c0
            try simp only [List.getElem_toArray, List.getElem_cons_zero, List.getElem_cons_succ, Act.put, List.setIfInBounds_toArray, List.set_cons_zero, List.set_cons_succ]
            refine wpAnyH_take (i := 7) (v := .pointer (some ⟨g, o + i * 2, none⟩)) rfl (by kernel_rfl) (by kernel_rfl) (by kernel_rfl) (fun _ _ _ h => h) (Or.inl ⟨by rfl, fun z hz => ?_⟩) hS1 ?_
            · obtain ⟨z1, z2, z3⟩ := hz
              go_simp
            try simp only [List.getElem_toArray, List.getElem_cons_zero, List.getElem_cons_succ, Act.put, List.setIfInBounds_toArray, List.set_cons_zero, List.set_cons_succ]
            refine wpAnyH_take (i := 8) (v := .pointer (some ⟨g, o + i * 2 + 1, none⟩)) rfl (by kernel_rfl) (by kernel_rfl) (by kernel_rfl) (fun _ _ _ h => h) (Or.inl ⟨by rfl, fun z hz => ?_⟩) hS1 ?_
            · obtain ⟨z1, z2, z3⟩ := hz
              go_simp
            try simp only [List.getElem_toArray, List.getElem_cons_zero, List.getElem_cons_succ, Act.put, List.setIfInBounds_toArray, List.set_cons_zero, List.set_cons_succ]
            refine wpAnyH_ready (rs := [9]) (by kernel_rfl) (by simp) ?_
            refine AllReadyH.cons rfl (fun K hK => ?_) AllReadyH.nil
            go_simp
            refine hK.out _ _ hS1 (fun hS2 => ?_)
            clear hK K
            try simp only [List.getElem_toArray, List.getElem_cons_zero, List.getElem_cons_succ, Act.put, List.setIfInBounds_toArray, List.set_cons_zero, List.set_cons_succ]
            refine wpAnyH_take (i := 10) (v := .string (S tx)) rfl (by kernel_rfl) (by kernel_rfl) (by kernel_rfl) (fun _ _ _ h => h) (Or.inl ⟨by rfl, fun z hz => ?_⟩) hS2 ?_
            · obtain ⟨z1, z2, z3⟩ := hz
              go_simp
            try simp only [List.getElem_toArray, List.getElem_cons_zero, List.getElem_cons_succ, Act.put, List.setIfInBounds_toArray, List.set_cons_zero, List.set_cons_succ]
            refine wpAnyH_done (by kernel_rfl) ?_ _
            clear hS0 hS1 hS2
            go_wp2
            go_meet
            exact ⟨tx, rfl, HTX.out, HD3.out.st.mono (by omega)⟩
          · have hqi : ¬ (0 : Int) < (dx.length : Int) := by omega
            obtain ⟨x0, x1, x2⟩ := hdi.bx
            clear hdi
            go_wp2
            go_meet
            exact ⟨t0, rfl, ht0, HD.out.st.mono (by omega)⟩
    case rest =>
      clear HL3
      obtain ⟨t, rfl, ht, hls⟩ := hcut
      have HL4 := Lib.hid hls
      obtain ⟨k0, k1, k2⟩ := hls.bs
      obtain ⟨r0, r1, r2⟩ := hls.r0
      clear hls
      go_wp2
      refine bodyPost_ret (v := .tuple #[.agg #[.slice la l.length lc], .string (S t)]) (by simp [results, Tryz.results32, go_sem, r0]) rfl ⟨l, t, _, rfl, HDL.out, ht, ?_, HL4.out.bel.setCell (Nat.le_refl _) _⟩
      exact (HL4.out.ls.chg ((Chg.refl (fun b => b = w.heap.size) wc).setCell (p := ⟨w.heap.size, 0, none⟩) rfl _) (fun b h1 h2 e => by omega)).now
end Go.Proofs.YtonhkglilnplbaaGreatDoor
