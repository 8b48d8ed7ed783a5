/- Walks: a stack and an outline of it, drawn from bytes. -/
import Derived.Test.YtojcfpjoikmgcaaGreatDoorCurE7
import Derived.Test.YtojcfpjoikmgcaaGreatDoorCodeD
namespace Go.Proofs.YtojcfpjoikmgcaaGreatDoor
open Go Go.RowKit
set_option maxHeartbeats 4000000
set_option maxRecDepth 100000
theorem Drawn.each {l : P.Dic} (h : Drawn l) : Small l := h.small
theorem DrawnL.small {l : P.Lays} (h : DrawnL l) : SmallS l := ⟨by have := h.len; omega, fun e he => (h.dics e he).small⟩
/-- how a draw from bytes stands: the stack in block S, a dictionary in the next one -/
structure LSt (K S : Nat) (w : World) (u : Value) (l : P.Lays) (vd : Value) (d : P.Dic) (v : World) : Prop where
  low : w.heap.size + 2 ≤ S
  ls : ReadL (w.heap.size + 2) S v u l
  dr : Drawn d
  ds : ReadE (w.heap.size + 2) S v vd d
  r0 : DBx w.heap.size (.slice none 0 0) v
  bs : DBx S u v
  bd : DBx (S + 1) vd v
  cur : IsCur w.heap.size (w.heap.size + 1) K v
  bel : Below w.heap.size w v
theorem LSt.below {K S : Nat} {w v v' : World} {u vd : Value} {l : P.Lays} {d : P.Dic} (h : LSt K S w u l vd d v) (hb : Below v.heap.size v v') : LSt K S w u l vd d v' := by
  obtain ⟨h0, h1, h2, h3, h4, h5, h6, h7, h8⟩ := h
  have hc : Chg (fun _ => False) v v' := Below.chg hb _
  exact ⟨h0, h1.chg hc (fun _ _ _ h => h), h2, h3.chg hc (fun _ _ _ h => h), h4.below hb, h5.below hb, h6.below hb, h7.below hb, h8.trans (hb.mono h8.size)⟩
theorem LSt.stand {K K' S : Nat} {w v v' : World} {u vd : Value} {l : P.Lays} {d : P.Dic} (h : LSt K S w u l vd d v) (hc : CurPost w.heap.size (w.heap.size + 1) K' v v') : LSt K' S w u l vd d v' := by
  obtain ⟨h0, h1, h2, h3, h4, h5, h6, h7, h8⟩ := h
  exact ⟨h0, h1.chg hc.2 (fun b h1 h2 e => by omega), h2, h3.chg hc.2 (fun b h1 h2 e => by omega), h4.stand hc.2 (by omega), h5.stand hc.2 (by omega), h6.stand hc.2 (by omega), hc.1, h8.trans (hc.2.below h8.size (by rintro b rfl; omega))⟩
theorem LSt.mono {K K' S : Nat} {w v : World} {u vd : Value} {l : P.Lays} {d : P.Dic} (h : LSt K S w u l vd d v) (hK : K ≤ K') : LSt K' S w u l vd d v := ⟨h.1, h.2, h.3, h.4, h.5, h.6, h.7, h.8.mono hK, h.9⟩
theorem LSt.take {K S : Nat} {w v : World} {u vd vd' : Value} {l : P.Lays} {d d' : P.Dic} (h : LSt K S w u l vd d v) (hd : Drawn d') (hr : ReadE (w.heap.size + 2) S v vd' d') : LSt K S w u l vd' d' (v.setCell ⟨S + 1, 0, none⟩ vd') := by
  obtain ⟨h0, h1, h2, h3, h4, h5, h6, h7, h8⟩ := h
  have hc : Chg (fun b => b = S + 1) v (v.setCell ⟨S + 1, 0, none⟩ vd') := (Chg.refl (fun b => b = S + 1) v).setCell (p := ⟨S + 1, 0, none⟩) rfl _
  exact ⟨h0, h1.chg hc (fun b h1 h2 e => by omega), hd, hr.chg hc (fun b h1 h2 e => by omega), h4.stand hc (by omega), h5.stand hc (by omega), h6.put, h7.stand hc (fun b e => by subst e; omega), h8.trans (hc.below h8.size (by rintro b rfl; omega))⟩
/-- behind the draw of stack and dictionary, their boxes made -/
theorem LSt.start {K : Nat} {w w1 : World} {l : P.Lays} {d : P.Dic} {u ud : Value} {t : TypeId} (t1 t2 : TypeId) {c : Value} (hd : Drawn d) (hl : ReadL (((w.alloc (.cells #[.slice none 0 0] t)).alloc (.cells #[c, .int .i64 0, .int .u64 0] 92)).heap.size) w1.heap.size w1 u l)
    (hdr : ReadE (((w.alloc (.cells #[.slice none 0 0] t)).alloc (.cells #[c, .int .i64 0, .int .u64 0] 92)).heap.size) w1.heap.size w1 ud d)
    (hc : CurPost w.heap.size (w.heap.size + 1) K ((w.alloc (.cells #[.slice none 0 0] t)).alloc (.cells #[c, .int .i64 0, .int .u64 0] 92)) w1) :
    LSt K w1.heap.size w u l ud d ((w1.alloc (.cells #[u] t1)).alloc (.cells #[ud] t2)) := by
  have hz := hc.2.size
  have hz2 : w.heap.size + 2 ≤ w1.heap.size := by simp at hz; omega
  have hb0 : Below w.heap.size w ((w.alloc (.cells #[.slice none 0 0] t)).alloc (.cells #[c, .int .i64 0, .int .u64 0] 92)) := ((Below.refl _ _).alloc (Nat.le_refl _) _).alloc (by simp) _
  have hb1 : Below w1.heap.size w1 (w1.alloc (.cells #[u] t1)) := (Below.refl _ _).alloc (Nat.le_refl _) _
  have hb2 : Below w1.heap.size w1 ((w1.alloc (.cells #[u] t1)).alloc (.cells #[ud] t2)) := hb1.alloc (by simp) _
  have hb3 : Below (w1.alloc (.cells #[u] t1)).heap.size (w1.alloc (.cells #[u] t1)) ((w1.alloc (.cells #[u] t1)).alloc (.cells #[ud] t2)) := (Below.refl _ _).alloc (Nat.le_refl _) _
  have hcf : Chg (fun _ => False) w1 ((w1.alloc (.cells #[u] t1)).alloc (.cells #[ud] t2)) := Below.chg hb2 _
  refine ⟨hz2, ?_, hd, ?_, ?_, (DBx.new _ _ _).below hb3, ?_, (hc.1.below hb2), (hb0.trans (hc.2.below (by simp; omega) (by rintro b rfl; omega))).trans (hb2.mono (by omega))⟩
  · refine ReadL.chg ?_ hcf (fun _ _ _ h => h)
    have h := hl; simp at h; exact h
  · refine ReadE.chg ?_ hcf (fun _ _ _ h => h)
    have h := hdr; simp at h; exact h
  · exact (((DBx.new (.slice none 0 0) t w).below ((Below.refl _ _).alloc (Nat.le_refl _) _)).stand hc.2 (by omega)).below hb2
  · have h := DBx.new ud t2 (w1.alloc (.cells #[u] t1)); simpa using h
def LookDrawn (w : World) (e : Ending) (w' : World) : Prop := ∃ (l : P.Lays) (o : List Int) (u ov : Value), e = .returned (.tuple #[.agg #[u], ov]) ∧ DrawnL l ∧ o.length ≤ 8 ∧ LayR w' u l ∧ IntR w' ov o ∧ Below w.heap.size w w'
end Go.Proofs.YtojcfpjoikmgcaaGreatDoor
