/- Walks: a stack and an outline of it, drawn from bytes. -/
import Derived.Test.YtonhkglilnplbaaGreatDoorCurE7
import Derived.Test.YtonhkglilnplbaaGreatDoorCodeD
set_option linter.all false
namespace Go.Proofs.YtonhkglilnplbaaGreatDoor
open Go Go.RowKit
set_option maxHeartbeats 4000000
set_option maxRecDepth 100000
theorem Drawn.each {l : P.Dic} (h : Drawn l) : Small l := h.small
theorem DrawnL.small {l : P.Lays} (h : DrawnL l) : SmallS l := ⟨by have := h.len; omega, fun e he => (h.dics e he).small⟩
/-- how a draw from bytes stands: the stack in block S, a dictionary in the next one -/
structure LSt (K S : Nat) (w : World) (u : Value) (l : P.Lays) (vd : Value) (d : P.Dic) (v : World) : Prop where
  low : w.heap.size + 2 ≤ S
  ls : ReadL (w.heap.size + 2) S v u l
  dr : Drawn d
  ds : ReadE (w.heap.size + 2) S v vd d
  r0 : DBx w.heap.size (.slice none 0 0) v
  bs : DBx S u v
  bd : DBx (S + 1) vd v
  cur : IsCur w.heap.size (w.heap.size + 1) K v
  bel : Below w.heap.size w v
theorem LSt.below {K S : Nat} {w v v' : World} {u vd : Value} {l : P.Lays} {d : P.Dic} (h : LSt K S w u l vd d v) (hb : Below v.heap.size v v') : LSt K S w u l vd d v' := by
  obtain ⟨h0, h1, h2, h3, h4, h5, h6, h7, h8⟩ := h
  have hc : Chg (fun _ => False) v v' := Below.chg hb _
  exact ⟨h0, h1.chg hc (fun _ _ _ h => h), h2, h3.chg hc (fun _ _ _ h => h), h4.below hb, h5.below hb, h6.below hb, h7.below hb, h8.trans (hb.mono h8.size)⟩
theorem LSt.stand {K K' S : Nat} {w v v' : World} {u vd : Value} {l : P.Lays} {d : P.Dic} (h : LSt K S w u l vd d v) (hc : CurPost w.heap.size (w.heap.size + 1) K' v v') : LSt K' S w u l vd d v' := by
  obtain ⟨h0, h1, h2, h3, h4, h5, h6, h7, h8⟩ := h
  exact ⟨h0, h1.chg hc.2 (fun b h1 h2 e => by omega), h2, h3.chg hc.2 (fun b h1 h2 e => by omega), h4.stand hc.2 (by omega), h5.stand hc.2 (by omega), h6.stand hc.2 (by omega), hc.1, h8.trans (hc.2.below h8.size (by rintro b rfl; omega))⟩
theorem LSt.mono {K K' S : Nat} {w v : World} {u vd : Value} {l : P.Lays} {d : P.Dic} (h : LSt K S w u l vd d v) (hK : K ≤ K') : LSt K' S w u l vd d v := ⟨h.1, h.2, h.3, h.4, h.5, h.6, h.7, h.8.mono hK, h.9⟩
theorem LSt.take {K S : Nat} {w v : World} {u vd vd' : Value} {l : P.Lays} {d d' : P.Dic} (h : LSt K S w u l vd d v) (hd : Drawn d') (hr : ReadE (w.heap.size + 2) S v vd' d') : LSt K S w u l vd' d' (v.setCell ⟨S + 1, 0, none⟩ vd') := by
  obtain ⟨h0, h1, h2, h3, h4, h5, h6, h7, h8⟩ := h
  have hc : Chg (fun b => b = S + 1) v (v.setCell ⟨S + 1, 0, none⟩ vd') := (Chg.refl (fun b => b = S + 1) v).setCell (p := ⟨S + 1, 0, none⟩) rfl _
  exact ⟨h0, h1.chg hc (fun b h1 h2 e => by omega), hd, hr.chg hc (fun b h1 h2 e => by omega), h4.stand hc (by omega), h5.stand hc (by omega), h6.put, h7.stand hc (fun b e => by subst e; omega), h8.trans (hc.below h8.size (by rintro b rfl; omega))⟩
/-- behind the draw of stack and dictionary, their boxes made -/
theorem LSt.start {K : Nat} {w w1 : World} {l : P.Lays} {d : P.Dic} {u ud : Value} {t : TypeId} (t1 t2 : TypeId) {c : Value} (hd : Drawn d) (hl : ReadL (((w.alloc (.cells #[.slice none 0 0] t)).alloc (.cells #[c, .int .i64 0, .int .u64 0] 127)).heap.size) w1.heap.size w1 u l)
    (hdr : ReadE (((w.alloc (.cells #[.slice none 0 0] t)).alloc (.cells #[c, .int .i64 0, .int .u64 0] 127)).heap.size) w1.heap.size w1 ud d)
    (hc : CurPost w.heap.size (w.heap.size + 1) K ((w.alloc (.cells #[.slice none 0 0] t)).alloc (.cells #[c, .int .i64 0, .int .u64 0] 127)) w1) :
    LSt K w1.heap.size w u l ud d ((w1.alloc (.cells #[u] t1)).alloc (.cells #[ud] t2)) := by
  have hz := hc.2.size
  have hz2 : w.heap.size + 2 ≤ w1.heap.size := by simp at hz; omega
  have hb0 : Below w.heap.size w ((w.alloc (.cells #[.slice none 0 0] t)).alloc (.cells #[c, .int .i64 0, .int .u64 0] 127)) := ((Below.refl _ _).alloc (Nat.le_refl _) _).alloc (by simp) _
  have hb1 : Below w1.heap.size w1 (w1.alloc (.cells #[u] t1)) := (Below.refl _ _).alloc (Nat.le_refl _) _
  have hb2 : Below w1.heap.size w1 ((w1.alloc (.cells #[u] t1)).alloc (.cells #[ud] t2)) := hb1.alloc (by simp) _
  have hb3 : Below (w1.alloc (.cells #[u] t1)).heap.size (w1.alloc (.cells #[u] t1)) ((w1.alloc (.cells #[u] t1)).alloc (.cells #[ud] t2)) := (Below.refl _ _).alloc (Nat.le_refl _) _
  have hcf : Chg (fun _ => False) w1 ((w1.alloc (.cells #[u] t1)).alloc (.cells #[ud] t2)) := Below.chg hb2 _
  refine ⟨hz2, ?_, hd, ?_, ?_, (DBx.new _ _ _).below hb3, ?_, (hc.1.below hb2), (hb0.trans (hc.2.below (by simp; omega) (by rintro b rfl; omega))).trans (hb2.mono (by omega))⟩
  · refine ReadL.chg ?_ hcf (fun _ _ _ h => h)
    have h := hl; simp at h; exact h
  · refine ReadE.chg ?_ hcf (fun _ _ _ h => h)
    have h := hdr; simp at h; exact h
  · exact (((DBx.new (.slice none 0 0) t w).below ((Below.refl _ _).alloc (Nat.le_refl _) _)).stand hc.2 (by omega)).below hb2
  · have h := DBx.new ud t2 (w1.alloc (.cells #[u] t1)); simpa using h
def LookDrawn (w : World) (e : Ending) (w' : World) : Prop := ∃ (l : P.Lays) (o : List Int) (u ov : Value), e = .returned (.tuple #[.agg #[u], ov]) ∧ DrawnL l ∧ o.length ≤ 8 ∧ LayR w' u l ∧ IntR w' ov o ∧ Below w.heap.size w w'
theorem drawLookupStack (cv : Value) (w : World) (hc : CodeIs w cv) :
    Calls Tryz.prog 44 #[cv] w (LookDrawn w) := by
  have H1 := Lib.hid (CodeIs.fresh (t := 127) hc ((Below.refl w.heap.size w).alloc (Nat.le_refl _) (.cells #[.slice none 0 0] 52)))
  obtain ⟨ad, n, cap, rfl, _, _⟩ := hc
  go_enter Tryz.func44, Tryz.ntmps44
  go_wp2_with fail
  refine (l8Draw w.heap.size (w.heap.size + 1) 0 _ (by decide) (by simpa using H1.out)).mono ?_
  rintro e w1 ⟨l, d, u, ud, rfl, hdl, hdd, hrl, hrd, hc⟩
  have HL := Lib.hid (LSt.start 52 32 hdd hrl hrd hc)
  have HDL := Lib.hid hdl
  have hz1 : w.heap.size + 2 ≤ w1.heap.size := HL.out.low
  obtain ⟨la, lc, rfl, hl45, _⟩ := hrl.now
  obtain ⟨da, dc, rfl, _, _⟩ := hrd.now
  have hl5 := hdl.len
  clear hdl hdd hrl hrd hc H1
  go_upto_region 3 with fail
  go_cut [22] (fun b wx => ∃ bb : Bool, b = .bool bb ∧ (bb = true → 0 < l.length) ∧ LSt 20002 w1.heap.size w (.slice la l.length lc) l (.slice da d.length dc) d wx)
  case first =>
    obtain ⟨k0, k1, k2⟩ := HL.out.bs
    by_cases hp : 0 < l.length
    · have hpi : (0 : Int) < (l.length : Int) := by omega
      go_wp2_with fail
      refine (cur_one w.heap.size (w.heap.size + 1) (0 + 20000) 2 _ (by decide) (by decide) HL.out.cur).mono ?_
      rintro e w2 ⟨b, rfl, hc⟩
      have HL2 := Lib.hid (HL.out.stand hc)
      clear hc HL
      go_wp2
      go_meet
      exact ⟨b, rfl, fun _ => hp, HL2.out.mono (by omega)⟩
    · have hpi : ¬ (0 : Int) < (l.length : Int) := by omega
      go_wp2
      go_meet
      exact ⟨false, by simp, (fun e => by cases e), HL.out.mono (by omega)⟩
  case rest =>
    obtain ⟨bb, rfl, hbp, hls⟩ := hcut
    have HL2 := Lib.hid hls
    clear hls HL
    go_upto_if 22 with fail
    go_cut [] (fun wy => ∃ (da : Option Addr) (dc : Nat) (d : P.Dic), LSt 20004 w1.heap.size w (.slice la l.length lc) l (.slice da d.length dc) d wy)
    case first =>
      cases bb
      · go_wp2
        go_meet
        exact ⟨_, _, _, HL2.out.mono (by omega)⟩
      · have hp := hbp rfl
        have hpi : (0 : Int) < (l.length : Int) := by omega
        have HS := Lib.hid (show wc.drew.cell? ⟨w1.heap.size, 0, none⟩ = some (.slice la l.length lc) ∧ wc.drew.frozen? ⟨w1.heap.size + 1, 0, none⟩ = false from ⟨HL2.out.bs.1, HL2.out.bd.2.1⟩)
        have HL3 := Lib.hid (HL2.out.below (Below.refl wc.heap.size wc).drew)
        clear HL2
        go_upto_region 4 with fail
        refine Left.region [10] (S := fun v => v.cell? ⟨w1.heap.size, 0, none⟩ = some (.slice la l.length lc) ∧ v.frozen? ⟨w1.heap.size + 1, 0, none⟩ = false) (by kernel_rfl) HS.out (fun hS0 => ?_)
        generalize wc.drew = v0 at *
        refine Left.take (i := 0) (v := .pointer (some ⟨w1.heap.size, 0, none⟩)) rfl (by kernel_rfl) (by kernel_rfl) (by kernel_rfl) (by kernel_rfl) (fun _ _ _ h => h) (Or.inl ⟨by rfl, fun z hz => ?_⟩) hS0 ?_
        · obtain ⟨z1, z2⟩ := hz
          go_simp
        try simp only [List.getElem_toArray, List.getElem_cons_zero, Act.put, List.setIfInBounds_toArray, List.set_cons_zero, List.set_cons_succ]
        refine Left.take (i := 1) (v := .slice la l.length lc) rfl (by kernel_rfl) (by kernel_rfl) (by kernel_rfl) (by kernel_rfl) (fun _ _ _ h => h) (Or.inl ⟨by rfl, fun z hz => ?_⟩) hS0 ?_
        · obtain ⟨z1, z2⟩ := hz
          go_simp
        try simp only [List.getElem_toArray, List.getElem_cons_zero, List.getElem_cons_succ, Act.put, List.setIfInBounds_toArray, List.set_cons_zero, List.set_cons_succ]
        refine Left.take (i := 2) (v := .pointer (some ⟨w.heap.size + 1, 0, none⟩)) rfl (by kernel_rfl) (by kernel_rfl) (by kernel_rfl) (by kernel_rfl) (fun _ _ _ h => h) (Or.inl ⟨by rfl, fun z hz => ?_⟩) hS0 ?_
        · obtain ⟨z1, z2⟩ := hz
          go_simp
        try simp only [List.getElem_toArray, List.getElem_cons_zero, List.getElem_cons_succ, Act.put, List.setIfInBounds_toArray, List.set_cons_zero, List.set_cons_succ]
        refine Left.take (i := 3) (v := .pointer (some ⟨w1.heap.size, 0, none⟩)) rfl (by kernel_rfl) (by kernel_rfl) (by kernel_rfl) (by kernel_rfl) (fun _ _ _ h => h) (Or.inl ⟨by rfl, fun z hz => ?_⟩) hS0 ?_
        · obtain ⟨z1, z2⟩ := hz
          go_simp
        try simp only [List.getElem_toArray, List.getElem_cons_zero, List.getElem_cons_succ, Act.put, List.setIfInBounds_toArray, List.set_cons_zero, List.set_cons_succ]
        refine Left.take (i := 4) (v := .slice la l.length lc) rfl (by kernel_rfl) (by kernel_rfl) (by kernel_rfl) (by kernel_rfl) (fun _ _ _ h => h) (Or.inl ⟨by rfl, fun z hz => ?_⟩) hS0 ?_
        · obtain ⟨z1, z2⟩ := hz
          go_simp
        try simp only [List.getElem_toArray, List.getElem_cons_zero, List.getElem_cons_succ, Act.put, List.setIfInBounds_toArray, List.set_cons_zero, List.set_cons_succ]
        refine Left.take (i := 5) (v := .int .i64 (l.length : Int)) rfl (by kernel_rfl) (by kernel_rfl) (by kernel_rfl) (by kernel_rfl) (fun _ _ _ h => h) (Or.inl ⟨by rfl, fun z hz => ?_⟩) hS0 ?_
        · obtain ⟨z1, z2⟩ := hz
          go_simp
        try simp only [List.getElem_toArray, List.getElem_cons_zero, List.getElem_cons_succ, Act.put, List.setIfInBounds_toArray, List.set_cons_zero, List.set_cons_succ]
        refine Left.ready (rs := [6]) (by kernel_rfl) (by simp) ?_
        refine Nexts.cons rfl (fun K hK => ?_) Nexts.nil
        go_simp
        refine (cur_pick w.heap.size (w.heap.size + 1) 20002 (l.length : Int) _ (by decide) (by omega) HL3.out.cur).mono ?_
        rintro e v1 ⟨i, hi', rfl, hc⟩
        have hil : i < l.length := by omega
        have HL4 := Lib.hid (HL3.out.stand hc)
        refine on_held hK (by decide) ⟨HL4.out.bs.1, HL4.out.bd.2.1⟩ (fun hS1 => ?_)
        clear hK K hc hi' HL3
        obtain ⟨g, o, x, rfl, hg, c0, c1, hx⟩ := HL4.out.ls.at i hil
        have HX := Lib.hid hx
        have HDX := Lib.hid (HDL.out.dics _ (List.getElem_mem hil))
        obtain ⟨xa, xc, rfl, _, _⟩ := hx.now
        have i1 : (i : Int) < (l.length : Int) := by omega
        generalize l[i].1 = dx at *
        clear hx
        try simp only [List.getElem_toArray, List.getElem_cons_zero, List.getElem_cons_succ, Act.put, List.setIfInBounds_toArray, List.set_cons_zero, List.set_cons_succ]
        refine Left.take (i := 7) (v := .pointer (some ⟨g, o + i * 2, none⟩)) rfl (by kernel_rfl) (by kernel_rfl) (by kernel_rfl) (by kernel_rfl) (fun _ _ _ h => h) (Or.inl ⟨by rfl, fun z hz => ?_⟩) hS1 ?_
        · obtain ⟨z1, z2⟩ := hz
          go_simp
        try simp only [List.getElem_toArray, List.getElem_cons_zero, List.getElem_cons_succ, Act.put, List.setIfInBounds_toArray, List.set_cons_zero, List.set_cons_succ]
        refine Left.take (i := 8) (v := .pointer (some ⟨g, o + i * 2, none⟩)) rfl (by kernel_rfl) (by kernel_rfl) (by kernel_rfl) (by kernel_rfl) (fun _ _ _ h => h) (Or.inl ⟨by rfl, fun z hz => ?_⟩) hS1 ?_
        · obtain ⟨z1, z2⟩ := hz
          go_simp
        try simp only [List.getElem_toArray, List.getElem_cons_zero, List.getElem_cons_succ, Act.put, List.setIfInBounds_toArray, List.set_cons_zero, List.set_cons_succ]
        refine Left.ready (rs := [9]) (by kernel_rfl) (by simp) ?_
        refine Nexts.cons rfl (fun K hK => ?_) Nexts.nil
        go_simp
        refine on_held hK (by decide) hS1 (fun hS2 => ?_)
        clear hK K
        try simp only [List.getElem_toArray, List.getElem_cons_zero, List.getElem_cons_succ, Act.put, List.setIfInBounds_toArray, List.set_cons_zero, List.set_cons_succ]
        refine Left.ready (rs := [10]) (by kernel_rfl) (by simp) ?_
        refine Nexts.cons rfl (fun K hK => ?_) Nexts.nil
        obtain ⟨k0, k1, k2⟩ := HL4.out.bd
        have HTK := Lib.hid (HL4.out.take HDX.out HX.out)
        go_simp
        refine on_last hK (by decide) ?_
        clear hK K
        try simp only [List.getElem_toArray, List.getElem_cons_zero, List.getElem_cons_succ, Act.put, List.setIfInBounds_toArray, List.set_cons_zero, List.set_cons_succ]
        refine Left.done (by kernel_rfl) ?_ _
        clear hS0 hS1 hS2 HL4 k0 k1
        go_wp2
        go_meet
        exact ⟨_, _, _, HTK.out.mono (by omega)⟩
    case rest =>
      clear HL2
      obtain ⟨da, dc, d, hls⟩ := hcut
      have HS := Lib.hid (show wc.drew.cell? ⟨w1.heap.size, 0, none⟩ = some (.slice la l.length lc) ∧ wc.drew.cell? ⟨w1.heap.size + 1, 0, none⟩ = some (.slice da d.length dc) from ⟨hls.bs.1, hls.bd.1⟩)
      have HL3 := Lib.hid (hls.below (Below.refl wc.heap.size wc).drew)
      go_upto_region 5 with fail
      clear hls
      refine wp_region_held_drew (S := fun v => v.cell? ⟨w1.heap.size, 0, none⟩ = some (.slice la l.length lc) ∧ v.cell? ⟨w1.heap.size + 1, 0, none⟩ = some (.slice da d.length dc)) (by kernel_rfl) HS.out (fun hS0 => ?_)
      generalize wc.drew = v0 at *
      have hzv : w1.heap.size < v0.heap.size := HL3.out.bs.2.2
      refine wpAnyH_take (i := 0) (v := .agg #[.slice la l.length lc]) rfl (by kernel_rfl) (by kernel_rfl) (by kernel_rfl) (fun _ _ _ h => h) (Or.inl ⟨by rfl, fun z hz => ?_⟩) hS0 ?_
      · obtain ⟨z1, z2⟩ := hz
        go_simp
      try simp only [List.getElem_toArray, List.getElem_cons_zero, Act.put, List.setIfInBounds_toArray, List.set_cons_zero, List.set_cons_succ]
      refine wpAnyH_take (i := 1) (v := .pointer (some ⟨w.heap.size + 1, 0, none⟩)) rfl (by kernel_rfl) (by kernel_rfl) (by kernel_rfl) (fun _ _ _ h => h) (Or.inl ⟨by rfl, fun z hz => ?_⟩) hS0 ?_
      · obtain ⟨z1, z2⟩ := hz
        go_simp
      try simp only [List.getElem_toArray, List.getElem_cons_zero, List.getElem_cons_succ, Act.put, List.setIfInBounds_toArray, List.set_cons_zero, List.set_cons_succ]
      refine wpAnyH_take (i := 2) (v := .agg #[.slice da d.length dc]) rfl (by kernel_rfl) (by kernel_rfl) (by kernel_rfl) (fun _ _ _ h => h) (Or.inl ⟨by rfl, fun z hz => ?_⟩) hS0 ?_
      · obtain ⟨z1, z2⟩ := hz
        go_simp
      try simp only [List.getElem_toArray, List.getElem_cons_zero, List.getElem_cons_succ, Act.put, List.setIfInBounds_toArray, List.set_cons_zero, List.set_cons_succ]
      refine wpAnyH_ready (rs := [3]) (by kernel_rfl) (by simp) ?_
      refine AllReadyH.cons rfl (fun K hK => ?_) AllReadyH.nil
      go_simp
      refine (cur_known w.heap.size (w.heap.size + 1) 20004 (w.heap.size + 2) w1.heap.size _ d _ (by decide) HL3.out.cur HL3.out.ds (by omega) HL3.out.dr).mono ?_
      rintro e v1 ⟨ol, ov, rfl, hol, hI, hc⟩
      have HL4 := Lib.hid (HL3.out.stand hc)
      have HI := Lib.hid hI
      refine hK.out _ _ ⟨HL4.out.bs.1, HL4.out.bd.1⟩ (fun hS1 => ?_)
      clear hK K hc HL3
      obtain ⟨oa, oc, rfl, _, _⟩ := hI
      try simp only [List.getElem_toArray, List.getElem_cons_zero, List.getElem_cons_succ, Act.put, List.setIfInBounds_toArray, List.set_cons_zero, List.set_cons_succ]
      refine wpAnyH_ready (rs := [4]) (by kernel_rfl) (by simp) ?_
      refine AllReadyH.cons rfl (fun K hK => ?_) AllReadyH.nil
      obtain ⟨k0, k1, k2⟩ := HL4.out.r0
      have hw1 : Chg (fun b => b = w.heap.size) v1 (v1.setCell ⟨w.heap.size, 0, none⟩ (.slice la l.length lc)) := (Chg.refl (fun b => b = w.heap.size) v1).setCell (p := ⟨w.heap.size, 0, none⟩) rfl _
      have HW := Lib.hid hw1
      have HB2 := Lib.hid (HL4.out.bs.stand hw1 (by omega)); have HB3 := Lib.hid (HL4.out.bd.stand hw1 (by omega))
      go_simp
      refine hK.out _ _ ⟨HB2.out.1, HB3.out.1⟩ (fun hS2 => ?_)
      clear hK K hw1
      try simp only [List.getElem_toArray, List.getElem_cons_zero, List.getElem_cons_succ, Act.put, List.setIfInBounds_toArray, List.set_cons_zero, List.set_cons_succ]
      refine wpAnyH_ready (rs := [5]) (by kernel_rfl) (by simp) ?_
      refine AllReadyH.cons rfl (fun K hK => ?_) AllReadyH.nil
      go_simp
      refine hK.out _ _ ⟨HB2.out.1, HB3.out.1⟩ (fun hS3 => ?_)
      clear hK K
      try simp only [List.getElem_toArray, List.getElem_cons_zero, List.getElem_cons_succ, Act.put, List.setIfInBounds_toArray, List.set_cons_zero, List.set_cons_succ]
      refine wpAnyH_done (by kernel_rfl) ?_ _
      clear hS0 hS1 hS2 hS3
      have k3 : (v1.setCell ⟨w.heap.size, 0, none⟩ (.slice la l.length lc)).cell? ⟨w.heap.size, 0, none⟩ = some (.slice la l.length lc) := World.cell?_setCell_same _ _ _ k0
      go_wp2
      refine bodyPost_ret (v := .tuple #[.agg #[.slice la l.length lc], .slice oa ol.length oc]) (by simp [results, Tryz.results44, go_sem, k0]) rfl ⟨l, ol, _, _, rfl, HDL.out, hol, (HL4.out.ls.chg HW.out (fun b h1 h2 e => by omega)).now, ?_, HL4.out.bel.setCell (Nat.le_refl _) _⟩
      exact Ints.read (HI.out.stand intE_ok HW.out (fun b hb e => by have h1 := hb.1; omega))
end Go.Proofs.YtonhkglilnplbaaGreatDoor
