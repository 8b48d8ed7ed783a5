/- Walks: the draws of a trie and strokes. -/
import Derived.Deep.DeepCutAuto
import Derived.RegionTactic
import Derived.BigRegion
import Derived.Test.YtkjidjomlpnnlaaGreatDoorDrawT
import Derived.Test.YtkjidjomlpnnlaaGreatDoorCurE5
import Derived.Test.YtkjidjomlpnnlaaGreatDoorCodeD
namespace Go.Proofs.YtkjidjomlpnnlaaGreatDoor
open Go Go.RowKit
set_option maxHeartbeats 4000000
set_option maxRecDepth 100000
/-- how a draw from bytes stands: the trie in block S, its dictionary in the next one -/
structure SSt (K S : Nat) (w : World) (u : Value) (t : P.Tri) (vd : Value) (d : P.Dic) (v : World) : Prop where
  low : w.heap.size + 2 ≤ S
  ls : ReadT (w.heap.size + 2) S v u t
  ds : ReadE (w.heap.size + 2) S v vd d
  r0 : DBx w.heap.size (.slice none 0 0) v
  bs : DBx S u v
  bd : DBx (S + 1) vd v
  cur : IsCur w.heap.size (w.heap.size + 1) K v
  bel : Below w.heap.size w v
theorem SSt.new {K S : Nat} {w v v' : World} {u vd : Value} {t : P.Tri} {d : P.Dic} {X : Blk} (h : SSt K S w u t vd d v) (hc : Chg X v v') (hX : ∀ b, X b → S + 2 ≤ b) : SSt K S w u t vd d v' := by
  obtain ⟨h0, h1, h3, h4, h5, h6, h7, h8⟩ := h
  exact ⟨h0, h1.chg hc (fun b _ h2 e => by have := hX b e; omega), h3.chg hc (fun b _ h2 e => by have := hX b e; omega), h4.stand hc (fun e => by have := hX _ e; omega), h5.stand hc (fun e => by have := hX _ e; omega), h6.stand hc (fun e => by have := hX _ e; omega), h7.stand hc (fun b e => by have := hX b e; omega), h8.trans (hc.below h8.size (fun b e => by have := hX b e; omega))⟩
theorem SSt.below {K S : Nat} {w v v' : World} {u vd : Value} {t : P.Tri} {d : P.Dic} (h : SSt K S w u t vd d v) (hb : Below v.heap.size v v') : SSt K S w u t vd d v' := h.new (Below.chg hb fun _ => False) (fun _ h => h.elim)
theorem SSt.stand {K K' S : Nat} {w v v' : World} {u vd : Value} {t : P.Tri} {d : P.Dic} (h : SSt K S w u t vd d v) (hc : CurPost w.heap.size (w.heap.size + 1) K' v v') : SSt K' S w u t vd d v' := by
  obtain ⟨h0, h1, h3, h4, h5, h6, h7, h8⟩ := h
  exact ⟨h0, h1.chg hc.2 (fun b h1 h2 e => by omega), h3.chg hc.2 (fun b h1 h2 e => by omega), h4.stand hc.2 (by omega), h5.stand hc.2 (by omega), h6.stand hc.2 (by omega), hc.1, h8.trans (hc.2.below h8.size (by rintro b rfl; omega))⟩
theorem SSt.mono {K K' S : Nat} {w v : World} {u vd : Value} {t : P.Tri} {d : P.Dic} (h : SSt K S w u t vd d v) (hK : K ≤ K') : SSt K' S w u t vd d v := { h with cur := h.cur.mono hK }
theorem SSt.start {K : Nat} {w w1 : World} {l : P.Tri} {d : P.Dic} {u ud : Value} {t : TypeId} (t1 t2 : TypeId) {c : Value} (hl : ReadT (((w.alloc (.cells #[.slice none 0 0] t)).alloc (.cells #[c, .int .i64 0, .int .u64 0] 120)).heap.size) w1.heap.size w1 u l)
    (hdr : ReadE (((w.alloc (.cells #[.slice none 0 0] t)).alloc (.cells #[c, .int .i64 0, .int .u64 0] 120)).heap.size) w1.heap.size w1 ud d)
    (hc : CurPost w.heap.size (w.heap.size + 1) K ((w.alloc (.cells #[.slice none 0 0] t)).alloc (.cells #[c, .int .i64 0, .int .u64 0] 120)) w1) :
    SSt K w1.heap.size w u l ud d ((w1.alloc (.cells #[u] t1)).alloc (.cells #[ud] t2)) := by
  have hz := hc.2.size
  have hz2 : w.heap.size + 2 ≤ w1.heap.size := by simp at hz; omega
  have hb0 : Below w.heap.size w ((w.alloc (.cells #[.slice none 0 0] t)).alloc (.cells #[c, .int .i64 0, .int .u64 0] 120)) := ((Below.refl _ _).alloc (Nat.le_refl _) _).alloc (by simp) _
  have hb1 : Below w1.heap.size w1 (w1.alloc (.cells #[u] t1)) := (Below.refl _ _).alloc (Nat.le_refl _) _
  have hb2 : Below w1.heap.size w1 ((w1.alloc (.cells #[u] t1)).alloc (.cells #[ud] t2)) := hb1.alloc (by simp) _
  have hb3 : Below (w1.alloc (.cells #[u] t1)).heap.size (w1.alloc (.cells #[u] t1)) ((w1.alloc (.cells #[u] t1)).alloc (.cells #[ud] t2)) := (Below.refl _ _).alloc (Nat.le_refl _) _
  have hcf : Chg (fun _ => False) w1 ((w1.alloc (.cells #[u] t1)).alloc (.cells #[ud] t2)) := Below.chg hb2 _
  refine ⟨hz2, ?_, ?_, ?_, (DBx.new _ _ _).below hb3, ?_, (hc.1.below hb2), (hb0.trans (hc.2.below (by simp; omega) (by rintro b rfl; omega))).trans (hb2.mono (by omega))⟩
  · refine ReadT.chg ?_ hcf (fun _ _ _ h => h)
    have h := hl; simp at h; exact h
  · refine ReadE.chg ?_ hcf (fun _ _ _ h => h)
    have h := hdr; simp at h; exact h
  · exact (((DBx.new (.slice none 0 0) t w).below ((Below.refl _ _).alloc (Nat.le_refl _) _)).stand hc.2 (by omega)).below hb2
  · have h := DBx.new ud t2 (w1.alloc (.cells #[u] t1)); simpa using h
/-- a trie and strokes are drawn -/
def StrDrawn (w : World) (e : Ending) (w' : World) : Prop := ∃ (t : P.Tri) (o : List Int) (u ov : Value), e = .returned (.tuple #[.agg #[u], ov]) ∧ P.DrawnT t ∧ o.length ≤ 20 ∧ ReadT w.heap.size w'.heap.size w' u t ∧ Ints w' (Bet w.heap.size w'.heap.size) ov o ∧ Below w.heap.size w w'
theorem CodeIs.on {w w' : World} {v : Value} (h : CodeIs w v) (hb : Below w.heap.size w w') : CodeIs w' v := by
  obtain ⟨ad, n, cap, rfl, hn, hc⟩ := h
  refine ⟨ad, n, cap, rfl, hn, hc.imp id ?_⟩
  rintro ⟨g, o, h1, h2, h3⟩
  refine ⟨g, o, h1, Nat.lt_of_lt_of_le h2 hb.size, fun j hj => ?_⟩
  obtain ⟨b, hb1, hb2⟩ := h3 j hj
  exact ⟨b, hb1, (hb.cell (p := ⟨g, o + j, none⟩) h2).trans hb2⟩
theorem drawLookupTrie (cv : Value) (w : World) (hc : CodeIs w cv) :
    Calls Tryz.prog 125 #[cv] w (StrDrawn w) := by
  have H1 := Lib.hid (CodeIs.fresh (t := 120) hc ((Below.refl w.heap.size w).alloc (Nat.le_refl _) (.cells #[.slice none 0 0] 86)))
  obtain ⟨ad, n, cap, rfl, _, _⟩ := hc
  go_enter Tryz.func125, Tryz.ntmps125
  go_wp2_with fail
  refine (l7Draw w.heap.size (w.heap.size + 1) 0 _ (by decide) (by simpa using H1.out)).mono ?_
  rintro e w1 ⟨t, u, l, ud, rfl, hdt, hdl, hrt, hrd, hc⟩
  have HS := Lib.hid (SSt.start 86 26 hrt hrd hc)
  have HDT := Lib.hid hdt; have HDL := Lib.hid hdl
  obtain ⟨ta, tc, rfl, _, _⟩ := hrt.now
  obtain ⟨da, dc, rfl, _, _⟩ := hrd.now
  clear hdt hdl hrt hrd hc H1
  go_upto_region 3 with fail
  have HS1 := Lib.hid (HS.out.below (Below.refl _ _).drew)
  generalize hw2 : (w1.alloc (.cells #[.slice ta t.length tc] 86)).alloc (.cells #[.slice da l.length dc] 26) = w2 at *
  have HSS := Lib.hid (show w2.drew.cell? ⟨w1.heap.size, 0, none⟩ = some (.slice ta t.length tc) ∧ w2.drew.cell? ⟨w1.heap.size + 1, 0, none⟩ = some (.slice da l.length dc) from ⟨HS1.out.bs.1, HS1.out.bd.1⟩)
  clear hw2 HS
  refine Left.region [] (S := fun v => v.cell? ⟨w1.heap.size, 0, none⟩ = some (.slice ta t.length tc) ∧ v.cell? ⟨w1.heap.size + 1, 0, none⟩ = some (.slice da l.length dc)) (by kernel_rfl) HSS.out (fun hS0 => ?_)
  generalize w2.drew = v0 at *
  refine Left.take (i := 0) (v := .agg #[.slice ta t.length tc]) rfl (by kernel_rfl) (by kernel_rfl) (by kernel_rfl) (by kernel_rfl) (fun _ _ _ h => h) (Or.inl ⟨by rfl, fun z hz => ?_⟩) hS0 ?_
  · obtain ⟨z1, z2⟩ := hz
    go_simp
  try simp only [qA, qB, Act.put, qD, qE, qF]
  refine Left.take (i := 1) (v := .pointer (some ⟨w.heap.size + 1, 0, none⟩)) rfl (by kernel_rfl) (by kernel_rfl) (by kernel_rfl) (by kernel_rfl) (fun _ _ _ h => h) (Or.inl ⟨by rfl, fun z hz => ?_⟩) hS0 ?_
  · obtain ⟨z1, z2⟩ := hz
    go_simp
  try simp only [qA, qB, qC, Act.put, qD, qE, qF]
  refine Left.take (i := 2) (v := .agg #[.slice da l.length dc]) rfl (by kernel_rfl) (by kernel_rfl) (by kernel_rfl) (by kernel_rfl) (fun _ _ _ h => h) (Or.inl ⟨by rfl, fun z hz => ?_⟩) hS0 ?_
  · obtain ⟨z1, z2⟩ := hz
    go_simp
  try simp only [qA, qB, qC, Act.put, qD, qE, qF]
  refine Left.ready (rs := [3]) (by kernel_rfl) (by simp) ?_
  refine Nexts.cons rfl (fun K hK => ?_) Nexts.nil
  go_simp
  refine (cur_known w.heap.size (w.heap.size + 1) (0 + 1200) (w.heap.size + 2) w1.heap.size _ l _ (by decide) HS1.out.cur HS1.out.ds (by omega) HDL.out).mono ?_
  rintro e v1 ⟨o, ov, rfl, ho, hI, hc⟩
  have HS3 := Lib.hid (HS1.out.stand hc)
  have HI := Lib.hid hI; have HO := Lib.hid ho
  have HZ := Lib.hid (show w1.heap.size + 2 ≤ v0.heap.size by have := HS1.out.bd.2.2; omega)
  obtain ⟨oa, oc, rfl, _, _⟩ := hI
  refine on_held hK (by decide) ⟨HS3.out.bs.1, HS3.out.bd.1⟩ (fun hS1 => ?_)
  clear hK K hc ho HS1
  try simp only [qA, qB, qC, Act.put, qD, qE, qF]
  refine Left.ready (rs := [4]) (by kernel_rfl) (by simp) ?_
  refine Nexts.cons rfl (fun K hK => ?_) Nexts.nil
  obtain ⟨k0, k1, k2⟩ := HS3.out.r0
  go_simp
  have hset0 : Chg (fun b => b = w.heap.size) v1 (v1.setCell ⟨w.heap.size, 0, none⟩ (.slice ta t.length tc)) := (Chg.refl (fun b => b = w.heap.size) v1).setCell (p := ⟨w.heap.size, 0, none⟩) rfl _
  refine on_held hK (by decide) ⟨(HS3.out.bs.stand hset0 (by have := HS3.out.low; omega)).1, (HS3.out.bd.stand hset0 (by have := HS3.out.low; omega)).1⟩ (fun hS2 => ?_)
  clear hK K hset0
  try simp only [qA, qB, qC, Act.put, qD, qE, qF]
  refine Left.take (i := 5) (v := .slice oa o.length oc) rfl (by kernel_rfl) (by kernel_rfl) (by kernel_rfl) (by kernel_rfl) (fun _ _ _ h => h) (Or.inl ⟨by rfl, fun z hz => ?_⟩) hS2 ?_
  · obtain ⟨z1, z2⟩ := hz
    go_simp
  try simp only [qA, qB, qC, Act.put, qD, qE, qF]
  refine Left.done (by kernel_rfl) ?_ _
  clear hS0 hS1 hS2
  go_wp2
  refine bodyPost_ret (v := .tuple #[.agg #[.slice ta t.length tc], .slice oa o.length oc]) (by simp [results, Tryz.results125, go_sem, k0]) rfl ⟨t, o, _, _, rfl, HDT.out, by have := HO.out; omega, ?_⟩
  have hset : Chg (fun b => b = w.heap.size) v1 (v1.setCell ⟨w.heap.size, 0, none⟩ (.slice ta t.length tc)) := (Chg.refl (fun b => b = w.heap.size) v1).setCell (p := ⟨w.heap.size, 0, none⟩) rfl _
  have hzs : (v1.setCell ⟨w.heap.size, 0, none⟩ (.slice ta t.length tc)).heap.size = v1.heap.size := by simp [World.setCell]
  have hlw := HS3.out.low
  have hbz := HS3.out.bd.2.2
  refine ⟨?_, ?_, ?_⟩
  · exact (HS3.out.ls.chg hset (fun b h1 _ e => by omega)).wide (by omega) (by rw [hzs]; omega) (Nat.le_refl _)
  · exact (HI.out.stand intE_ok hset (fun b hb e => by have := hb.1; have := HZ.out; omega)).wide (fun b hb => ⟨by have := hb.1; have := HZ.out; omega, by rw [hzs]; exact hb.2⟩) (fun b hb => hb.2)
  · exact HS3.out.bel.setCell (Nat.le_refl _) _
end Go.Proofs.YtkjidjomlpnnlaaGreatDoor
