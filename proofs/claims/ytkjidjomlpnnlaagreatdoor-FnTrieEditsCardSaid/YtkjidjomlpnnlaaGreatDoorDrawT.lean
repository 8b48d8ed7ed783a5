/- Walks: a trie that the cursor draws, which may be spoilt. -/
import Derived.Deep.DeepCutAuto
import Derived.RegionTactic
import Derived.BigRegion
import Derived.Test.YtkjidjomlpnnlaaGreatDoorCurE4
import Derived.Test.YtkjidjomlpnnlaaGreatDoorTrieOf
import Derived.Test.YtkjidjomlpnnlaaGreatDoorColl
import Derived.Test.YtkjidjomlpnnlaaGreatDoorPlainDraw
namespace Go.Proofs.YtkjidjomlpnnlaaGreatDoor
open Go Go.RowKit
set_option maxHeartbeats 4000000
set_option maxRecDepth 100000
/-- a trie that is read as long as some blocks stand -/
def ReadT (lo hi : Nat) (v : World) (u : Value) (l : P.Tri) : Prop := hi ≤ v.heap.size ∧ ∀ v', Kept (Bet lo hi) v v' → NodR v' u l
theorem ReadT.now {lo hi : Nat} {v : World} {u : Value} {l : P.Tri} (h : ReadT lo hi v u l) : NodR v u l := h.2 v ⟨Nat.le_refl _, fun _ _ => rfl⟩
theorem ReadT.chg {lo hi : Nat} {v v' : World} {u : Value} {l : P.Tri} {X : Blk} (h : ReadT lo hi v u l) (hc : Chg X v v') (hX : ∀ b, lo ≤ b → b < hi → ¬ X b) : ReadT lo hi v' u l :=
  ⟨Nat.le_trans h.1 hc.size, fun v2 hk => h.2 v2 ⟨Nat.le_trans hc.size hk.1, fun b hb => (hk.2 b hb).trans (hc.block b (Nat.lt_of_lt_of_le hb.2 h.1) (hX b hb.1 hb.2))⟩⟩
theorem ReadT.wide {lo hi lo' hi' : Nat} {v : World} {u : Value} {l : P.Tri} (h : ReadT lo hi v u l) (h1 : lo' ≤ lo) (h2 : hi ≤ hi') (h3 : hi' ≤ v.heap.size) : ReadT lo' hi' v u l :=
  ⟨h3, fun v2 hk => h.2 v2 (hk.mono fun _ hb => ⟨Nat.le_trans h1 hb.1, Nat.lt_of_lt_of_le hb.2 h2⟩)⟩
theorem Nods.readT {lo hi : Nat} {v : World} {F : Blk} {u : Value} {l : P.Tri} (h : Nods v F u l) (hF : ∀ b, F b → lo ≤ b ∧ b < hi) (hh : hi ≤ v.heap.size) : ReadT lo hi v u l :=
  ⟨hh, fun _ hk => Nods.read (h.keep nodE_ok (hk.mono hF))⟩
theorem NodR.take {v : World} {ad : Option Addr} {cap : Nat} {l : P.Tri} (h : NodR v (.slice ad l.length cap) l) {i : Nat} (hi : i ≤ l.length) : NodR v (.slice ad i cap) (l.take i) := by
  obtain ⟨ad', cap', he, h2, hn, h3⟩ := h
  injection he with h5 h6 h7
  subst h5 h7
  have hlen : (l.take i).length = i := by rw [List.length_take]; omega
  refine ⟨ad, cap, by rw [hlen], by rw [hlen]; omega, hn, ?_⟩
  rcases h3 with rfl | ⟨g, o, h4, h5, h6⟩
  · exact .inl (by simp)
  · refine .inr ⟨g, o, h4, h5, fun j hj => ?_⟩
    rw [hlen] at hj
    have := h6 j (by omega)
    rw [List.getElem_take]
    exact this
theorem ReadT.drew {lo hi : Nat} {v : World} {u : Value} {l : P.Tri} (h : ReadT lo hi v u l) : ReadT lo hi v.drew u l := h.chg (Below.chg (Below.refl _ _).drew (fun _ => False)) (fun _ _ _ h => h)
theorem ReadE.drew {lo hi : Nat} {v : World} {u : Value} {l : P.Dic} (h : ReadE lo hi v u l) : ReadE lo hi v.drew u l := h.chg (Below.chg (Below.refl _ _).drew (fun _ => False)) (fun _ _ _ h => h)
/-- what stands beside the trie that is drawn -/
structure TS (B C K D T : Nat) (w : World) (ud : Value) (l : P.Dic) (v : World) : Prop where
  ord : w.heap.size + 2 ≤ D ∧ D < T ∧ T < v.heap.size
  cur : CurPost B C K w v
  bw : DBx w.heap.size (.slice none 0 0) v
  bd : DBx (w.heap.size + 1) (.slice none 0 0) v
  bD : DBx D ud v
  dic : ReadE (w.heap.size + 2) D v ud l
theorem TS.step {B C K K' D T : Nat} {w v v' : World} {ud : Value} {l : P.Dic} {X : Blk} (h : TS B C K D T w ud l v) (hC : B ≤ C ∧ C < w.heap.size) (hc : Chg X v v') (hX : ∀ b, X b → D < b) (hK : K ≤ K') : TS B C K' D T w ud l v' :=
  ⟨⟨h.ord.1, h.ord.2.1, Nat.lt_of_lt_of_le h.ord.2.2 hc.size⟩, (h.cur.new hc (fun b hb => by have := hX b hb; have := h.ord.1; omega) hC.2 (by omega)).mono hK,
   h.bw.stand hc (fun e => by have := hX _ e; have := h.ord.1; omega), h.bd.stand hc (fun e => by have := hX _ e; have := h.ord.1; omega), h.bD.stand hc (fun e => by have := hX _ e; omega), h.dic.chg hc (fun b _ h2 e => by have := hX b e; omega)⟩
theorem TS.below {B C K D T : Nat} {w v v' : World} {ud : Value} {l : P.Dic} (h : TS B C K D T w ud l v) (hC : B ≤ C ∧ C < w.heap.size) (hb : Below v.heap.size v v') : TS B C K D T w ud l v' :=
  h.step hC (Below.chg hb fun _ => False) (fun _ h => h.elim) (Nat.le_refl _)
theorem TS.draw {B C K K' D T : Nat} {w v v' : World} {ud : Value} {l : P.Dic} (h : TS B C K D T w ud l v) (hC : B ≤ C ∧ C < w.heap.size) (hc : CurPost B C K' v v') : TS B C K' D T w ud l v' :=
  ⟨⟨h.ord.1, h.ord.2.1, Nat.lt_of_lt_of_le h.ord.2.2 hc.2.size⟩, h.cur.trans hc, h.bw.stand hc.2 (fun e => by omega), h.bd.stand hc.2 (fun e => by omega), h.bD.stand hc.2 (fun e => by have := h.ord.1; omega), h.dic.chg hc.2 (fun b h1 _ e => by omega)⟩
theorem TS.mono {B C K K' D T : Nat} {w v : World} {ud : Value} {l : P.Dic} (h : TS B C K D T w ud l v) (hK : K ≤ K') : TS B C K' D T w ud l v := { h with cur := h.cur.mono hK }
/-- how the draw stands behind the switch -/
def TRun (B C K D T : Nat) (w : World) (ud : Value) (l : P.Dic) (v : World) : Prop := ∃ (t : P.Tri) (u : Value), P.DrawnT t ∧ ReadT (D + 1) v.heap.size v u t ∧ (∃ a c, u = .slice a t.length c) ∧ DBx T u v ∧ TS B C K D T w ud l v
/-- a drawn trie and its dictionary -/
def TriDrawn (B C K : Nat) (w : World) (e : Ending) (w' : World) : Prop := ∃ (t : P.Tri) (u : Value) (l : P.Dic) (ud : Value), e = .returned (.tuple #[.agg #[u], .agg #[ud]]) ∧ P.DrawnT t ∧ Drawn l ∧ ReadT w.heap.size w'.heap.size w' u t ∧ ReadE w.heap.size w'.heap.size w' ud l ∧ CurPost B C K w w'
/-- the cells of a node -/
theorem Nods.cells {v : World} {F : Blk} {g cap i : Nat} {t : P.Tri} (h : Nods v F (.slice (some ⟨g, 0, none⟩) t.length cap) t) (hi : i < t.length) :
    ∃ a b F1 F2, ((v.cell? ⟨g, i * 4, none⟩ = some a ∧ v.cell? ⟨g, i * 4 + 1, none⟩ = some b ∧ v.cell? ⟨g, i * 4 + 2, none⟩ = some (.bool t[i].2.2.1) ∧ v.cell? ⟨g, i * 4 + 3, none⟩ = some (.string (S t[i].2.2.2))) ∧
      v.frozen? ⟨g, i * 4, none⟩ = false ∧ v.frozen? ⟨g, i * 4 + 1, none⟩ = false ∧ v.frozen? ⟨g, i * 4 + 2, none⟩ = false ∧ v.frozen? ⟨g, i * 4 + 3, none⟩ = false) ∧ Ints v F1 a t[i].1 ∧ Ints v F2 b t[i].2.1 ∧ (∀ c, F1 c → F c ∧ c ≠ g) ∧ (∀ c, F2 c → F c ∧ c ≠ g) := by
  obtain ⟨ad, cap', he, h2, hn, h3⟩ := h
  injection he with e1 e2 e3
  subst e1 e3
  obtain ⟨g', o, G, C, hq, hr⟩ := h3.resolve_left (by rintro rfl; exact absurd hi (Nat.not_lt_zero _))
  injection hq with hq
  injection hq with q1 q2
  subst q1 q2
  obtain ⟨a, b, F1, F2, hC, hI, hJ, s1, s2, h12⟩ := hr.el i hi
  have key : ∀ k (hk : k < 4), _ := fun k hk => hr.cel i hi k (by rw [hC]; exact hk)
  have k0 := key 0 (by omega); have k1 := key 1 (by omega); have k2 := key 2 (by omega); have k3 := key 3 (by omega)
  simp only [hC, List.getElem_cons_zero, List.getElem_cons_succ, Nat.zero_add, Nat.add_zero] at k0 k1 k2 k3
  exact ⟨a, b, F1, F2, ⟨⟨k0.1, k1.1, k2.1, k3.1⟩, k0.2, k1.2, k2.2, k3.2⟩, hI, hJ, fun c hc => hr.sub i hi c (s1 c hc), fun c hc => hr.sub i hi c (s2 c hc)⟩
/-- one cell of a node turns -/
theorem Nods.turn {v : World} {F X : Blk} {g cap i : Nat} (k : Nat) {t : P.Tri} {x : Value} {n' : P.Nd} (h : Nods v F (.slice (some ⟨g, 0, none⟩) t.length cap) t) (hi : i < t.length) (hk : k < 4) (hX : ∀ b, X b → ¬ F b ∧ b < v.heap.size)
    (ha : ∀ a b F1 F2, (∀ c, F1 c → F c ∧ c ≠ g) → (∀ c, F2 c → F c ∧ c ≠ g) → (∀ c, F1 c → F2 c → False) → Ints (v.setCell ⟨g, i * 4 + k, none⟩ x) F1 a t[i].1 → Ints (v.setCell ⟨g, i * 4 + k, none⟩ x) F2 b t[i].2.1 → nodE (v.setCell ⟨g, i * 4 + k, none⟩ x) (fun c => F1 c ∨ F2 c ∨ X c) ([a, b, .bool t[i].2.2.1, .string (S t[i].2.2.2)].set k x) n') :
    Nods (v.setCell ⟨g, i * 4 + k, none⟩ x) (fun b => F b ∨ X b) (.slice (some ⟨g, 0, none⟩) (t.set i n').length cap) (t.set i n') := by
  obtain ⟨ad, cap', he, h2, hn, h3⟩ := h
  injection he with e1 e2 e3
  subst e1 e3
  obtain ⟨g', o, G, C, hq, hr⟩ := h3.resolve_left (by rintro rfl; exact absurd hi (Nat.not_lt_zero _))
  injection hq with hq
  injection hq with q1 q2
  subst q1 q2
  obtain ⟨a, b, F1, F2, hC, hI, hJ, s1, s2, h12⟩ := hr.el i hi
  have hs : (v.setCell ⟨g, 0 + i * 4 + k, none⟩ x).heap.size = v.heap.size := by simp [World.setCell]
  have hset : Chg (fun b => b = g) v (v.setCell ⟨g, 0 + i * 4 + k, none⟩ x) := (Chg.refl (fun b => b = g) v).setCell (p := ⟨g, 0 + i * 4 + k, none⟩) rfl _
  have f1 : ∀ c, F1 c → F c ∧ c ≠ g := fun c hc => hr.sub i hi c (s1 c hc)
  have f2 : ∀ c, F2 c → F c ∧ c ≠ g := fun c hc => hr.sub i hi c (s2 c hc)
  have hap := hr.apart
  have hel := ha a b F1 F2 f1 f2 h12
  rw [show i * 4 + k = 0 + i * 4 + k by omega] at hel ⊢
  have hput := hr.put nodE_ok (v' := v.setCell ⟨g, 0 + i * 4 + k, none⟩ x) i hi (fun b => F b ∨ X b) (fun c => F1 c ∨ F2 c ∨ X c) ((C i).set k x) n'
    (fun b hb => .inl hb) (fun b hb => by rw [hs]; exact hb.elim (hr.lt b) fun h => (hX b h).2) (by rw [hs]; exact Nat.le_refl _)
    ((hr.cel i hi).set_at k (by rw [hC]; exact hk) x) (by rw [List.length_set]; exact hr.wid i hi)
    (by rw [hC]; exact hel (hI.stand intE_ok hset fun c hc e => (f1 c hc).2 e) (hJ.stand intE_ok hset fun c hc e => (f2 c hc).2 e))
    (fun c hc => by
      rcases hc with hc | hc | hc
      · exact ⟨.inl (f1 c hc).1, (f1 c hc).2⟩
      · exact ⟨.inl (f2 c hc).1, (f2 c hc).2⟩
      · exact ⟨.inr hc, fun e => (hX c hc).1 (e ▸ hr.own)⟩)
    (fun j hj hji c h1 h2 => by
      have h3 : G i c → False := fun h4 => by
        rcases Nat.lt_or_gt_of_ne hji with e | e
        · exact hap j i e hi c h1 h4
        · exact hap i j e hj c h4 h1
      rcases h2 with h2 | h2 | h2
      · exact h3 (s1 c h2)
      · exact h3 (s2 c h2)
      · exact (hX c h2).1 (hr.sub j hj c h1).1)
    (fun j hj hji => (hr.cel j hj).set_other (by have := hr.wid j hj; omega) _)
    (fun j hj hji c hc => Below.heap_setCell _ _ _ _ (hr.sub j hj c hc).2)
  exact ⟨_, cap, rfl, by rw [List.length_set]; exact h2, ⟨(fun h => by cases h), by rw [List.length_set]; exact hn.2⟩, .inr ⟨g, 0, _, _, rfl, hput⟩⟩
theorem Nods.flag {v : World} {F : Blk} {g cap i : Nat} {t : P.Tri} (h : Nods v F (.slice (some ⟨g, 0, none⟩) t.length cap) t) (hi : i < t.length) (b' : Bool) :
    Nods (v.setCell ⟨g, i * 4 + 2, none⟩ (.bool b')) (fun b => F b ∨ False) (.slice (some ⟨g, 0, none⟩) (t.set i (t[i].1, t[i].2.1, b', t[i].2.2.2)).length cap) (t.set i (t[i].1, t[i].2.1, b', t[i].2.2.2)) :=
  h.turn (X := fun _ => False) 2 hi (by decide) (fun _ h => h.elim) (fun a b F1 F2 _ _ h12 hI hJ => ⟨a, b, F1, F2, rfl, hI, hJ, fun _ h => .inl h, fun _ h => .inr (.inl h), h12⟩)
theorem Nods.text {v : World} {F : Blk} {g cap i : Nat} {t : P.Tri} (h : Nods v F (.slice (some ⟨g, 0, none⟩) t.length cap) t) (hi : i < t.length) (x : Str) :
    Nods (v.setCell ⟨g, i * 4 + 3, none⟩ (.string (S x))) (fun b => F b ∨ False) (.slice (some ⟨g, 0, none⟩) (t.set i (t[i].1, t[i].2.1, t[i].2.2.1, x)).length cap) (t.set i (t[i].1, t[i].2.1, t[i].2.2.1, x)) :=
  h.turn (X := fun _ => False) 3 hi (by decide) (fun _ h => h.elim) (fun a b F1 F2 _ _ h12 hI hJ => ⟨a, b, F1, F2, rfl, hI, hJ, fun _ h => .inl h, fun _ h => .inr (.inl h), h12⟩)
theorem Nods.kids {v : World} {F X : Blk} {g cap i : Nat} {t : P.Tri} (h : Nods v F (.slice (some ⟨g, 0, none⟩) t.length cap) t) (hi : i < t.length) {y : Value} {ys : List Int} (hy : Ints v X y ys) (hX : ∀ b, X b → ¬ F b ∧ b < v.heap.size) (hg : ¬ X g) :
    Nods (v.setCell ⟨g, i * 4 + 1, none⟩ y) (fun b => F b ∨ X b) (.slice (some ⟨g, 0, none⟩) (t.set i (t[i].1, ys, t[i].2.2.1, t[i].2.2.2)).length cap) (t.set i (t[i].1, ys, t[i].2.2.1, t[i].2.2.2)) :=
  h.turn (X := X) 1 hi (by decide) hX (fun a b F1 F2 f1 _ _ hI _ => ⟨a, y, F1, X, rfl, hI, hy.stand intE_ok ((Chg.refl (fun b => b = g) v).setCell (p := ⟨g, i * 4 + 1, none⟩) rfl _) (fun c hc e => hg (e ▸ hc)), fun _ h => .inl h, fun _ h => .inr (.inr h), fun c h1 h2 => (hX c h2).1 (f1 c h1).1⟩)
theorem Nods.strs {v : World} {F X : Blk} {g cap i : Nat} {t : P.Tri} (h : Nods v F (.slice (some ⟨g, 0, none⟩) t.length cap) t) (hi : i < t.length) {y : Value} {ys : List Int} (hy : Ints v X y ys) (hX : ∀ b, X b → ¬ F b ∧ b < v.heap.size) (hg : ¬ X g) :
    Nods (v.setCell ⟨g, i * 4, none⟩ y) (fun b => F b ∨ X b) (.slice (some ⟨g, 0, none⟩) (t.set i (ys, t[i].2.1, t[i].2.2.1, t[i].2.2.2)).length cap) (t.set i (ys, t[i].2.1, t[i].2.2.1, t[i].2.2.2)) :=
  h.turn (X := X) 0 hi (by decide) hX (fun a b F1 F2 _ f2 _ _ hJ => ⟨y, b, X, F2, rfl, hy.stand intE_ok ((Chg.refl (fun b => b = g) v).setCell (p := ⟨g, i * 4, none⟩) rfl _) (fun c hc e => hg (e ▸ hc)), hJ, fun _ h => .inr (.inr h), fun _ h => .inr (.inl h), fun c h1 h2 => (hX c h1).1 (f2 c h2).1⟩)
/-- what a region of the draw keeps -/
def KTn (T g k : Nat) (u c : Value) (v : World) : Prop := v.cell? ⟨T, 0, none⟩ = some u ∧ v.cell? ⟨g, k, none⟩ = some c ∧ T < v.heap.size ∧ g < v.heap.size
theorem KTn.chg {T g k : Nat} {u c : Value} {v v' : World} {X : Blk} (h : KTn T g k u c v) (hc : Chg X v v') (h1 : ¬ X T) (h2 : ¬ X g) : KTn T g k u c v' :=
  ⟨(hc.cell (p := ⟨T, 0, none⟩) h.2.2.1 h1).trans h.1, (hc.cell (p := ⟨g, k, none⟩) h.2.2.2 h2).trans h.2.1, Nat.lt_of_lt_of_le h.2.2.1 hc.size, Nat.lt_of_lt_of_le h.2.2.2 hc.size⟩
theorem KTn.below {T g k : Nat} {u c : Value} {v v' : World} (h : KTn T g k u c v) (hb : Below v.heap.size v v') : KTn T g k u c v' := h.chg (Below.chg hb fun _ => False) (fun h => h) (fun h => h)
theorem P.DrawnT.set {t : P.Tri} (h : P.DrawnT t) {i : Nat} {n : P.Nd} (h1 : n.1.length ≤ 1000) (h2 : n.2.1.length ≤ 1000) (h3 : n.2.2.2.length ≤ 300) : P.DrawnT (t.set i n) :=
  ⟨by rw [List.length_set]; exact h.len, fun m hm => (List.mem_or_eq_of_mem_set hm).elim (h.str m) fun e => e ▸ h1, fun m hm => (List.mem_or_eq_of_mem_set hm).elim (h.chi m) fun e => e ▸ h2, fun m hm => (List.mem_or_eq_of_mem_set hm).elim (h.txt m) fun e => e ▸ h3⟩
theorem l7Draw (B C N : Nat) (w : World) (hN : N < 2 ^ 32) (h : IsCur B C N w) :
    Calls Tryz.prog 114 #[.pointer (some ⟨C, 0, none⟩)] w (TriDrawn B C (N + 1200) w) := by
  obtain ⟨i0, hi, hz0', hz1, hz2'⟩ := info_parts info_nod
  have hlt := h.lt
  have hba : Below w.heap.size w ((w.alloc (.cells #[.slice none 0 0] 86)).alloc (.cells #[.slice none 0 0] 26)) := ((Below.refl w.heap.size w).alloc (Nat.le_refl _) _).alloc (by simp) _
  have HC := Lib.hid ((CurPost.refl h (Nat.le_refl N)).below hba)
  have HB1 := Lib.hid (show DBx (w.heap.size + 1) (.slice none 0 0) ((w.alloc (.cells #[.slice none 0 0] 86)).alloc (.cells #[.slice none 0 0] 26)) by have h := DBx.new (.slice none 0 0) 26 (w.alloc (.cells #[.slice none 0 0] 86)); simpa using h)
  have HB0 := Lib.hid ((DBx.new (.slice none 0 0) 86 w).below ((Below.refl _ _).alloc (Nat.le_refl _) (.cells #[.slice none 0 0] 26)))
  clear h hba
  go_enter Tryz.func114, Tryz.ntmps114
  go_wp2_with fail
  refine (cur_dictionaryU B C N _ (by omega) HC.out.1).mono ?_
  rintro e w1 ⟨l, ud, rfl, hdr, hsh, hl9, hpos, hen, hwh, hc⟩
  have hz1' : w.heap.size + 2 ≤ w1.heap.size := by have := hc.2.size; simp at this; omega
  have HDR := Lib.hid hdr
  have HSH := Lib.hid (show P.Shared [] l from ⟨fun e _ => by simp, fun e he => by have := hsh.1 e he; omega, hsh.2⟩)
  have HDT := Lib.hid (P.drawn_trie HSH.out hl9 hdr.texts)
  have hba := (Below.refl w1.heap.size w1).alloc (Nat.le_refl _) (.cells #[ud] 26)
  have HU1 := Lib.hid ((Ents.read hen).below hba)
  have HRE := Lib.hid (show ReadE (w.heap.size + 2) w1.heap.size (w1.alloc (.cells #[ud] 26)) ud l from (Ents.readE (lo := w.heap.size + 2) (hi := w1.heap.size) (show Ents w1 (Bet (w.heap.size + 2) w1.heap.size) ud l by have h := hen; simp at h; exact h) (fun _ hb => hb) (Nat.le_refl _)).chg (Below.chg hba (fun _ => False)) (fun _ _ _ h => h))
  have HC1 := Lib.hid ((HC.out.trans hc).below hba)
  have HB01 := Lib.hid ((HB0.out.stand hc.2 (by omega)).below hba); have HB11 := Lib.hid ((HB1.out.stand hc.2 (by omega)).below hba)
  have HBD := Lib.hid (DBx.new ud 26 w1)
  have HL9 := Lib.hid hl9
  obtain ⟨uda, udc, rfl, _, _⟩ := id hen
  clear hdr hsh hl9 hpos hen hwh hc hba HC HB0 HB1
  go_wp2_with fail
  refine (l7BuildY _ l _ HU1.out HSH.out (by have := HL9.out; omega) (by have := HDT.out.2.1; unfold P.trie at this; omega)).mono ?_
  rintro e w2 ⟨u, G, C', rfl, hacc, hb⟩
  have hz2 : w1.heap.size + 1 ≤ w2.heap.size := by have := hb.size; simp at this; omega
  obtain ⟨g, cap, rfl⟩ := own_some hacc.owns HDT.out.1
  have hba := (Below.refl w2.heap.size w2).alloc (Nat.le_refl _) (.cells #[.slice (some ⟨g, 0, none⟩) (P.trie l).length cap] 86)
  have hb2 := hb.trans (hba.mono hb.size)
  have HACC := Lib.hid (show AccY 162 4 nodE (w1.heap.size + 4) _ _ G C' (P.trie l) by have h := hacc.keep nodE_ok hba; simpa using h)
  have HLT := Lib.hid (show ∀ b, (w1.heap.size + 4 ≤ b ∧ b < w2.heap.size) ∨ ¬ (b = g ∨ ∃ j, j < (P.trie l).length ∧ G j b) from fun b => by
    by_cases hx : b = g ∨ ∃ j, j < (P.trie l).length ∧ G j b
    · left
      rcases hx with rfl | ⟨j, hj, hg⟩
      · have := hacc.lt b rfl; simpa using this
      · have := hacc.sub j hj b hg; simp at this; omega
    · exact .inr hx)
  have HS := Lib.hid (show TS B C (N + 1000) w1.heap.size w2.heap.size w (.slice uda l.length udc) l (w2.alloc (.cells #[.slice (some ⟨g, 0, none⟩) (P.trie l).length cap] 86)) from
    ⟨⟨hz1', by omega, by simp⟩, HC1.out.below hb2, HB01.out.below hb2, HB11.out.below hb2, HBD.out.below hb2, HRE.out.chg (Below.chg hb2 (fun _ => False)) (fun _ _ _ h => h)⟩)
  have HBT := Lib.hid (DBx.new (.slice (some ⟨g, 0, none⟩) (P.trie l).length cap) 86 w2)
  have HG := Lib.hid (show w1.heap.size + 4 ≤ g ∧ g < w2.heap.size by have := hacc.lt g rfl; simpa using this)
  have HTT := Lib.hid HDT.out
  generalize P.trie l = t at *
  clear hacc hb hb2 hba HC1 HB01 HB11 HBD HRE HU1 HDT
  go_wp2_with fail
  refine (cur_one B C (N + 1000) 10 _ (by omega) (by decide) HS.out.cur.1).mono ?_
  rintro e w3 ⟨b, rfl, hc⟩
  have HS3 := Lib.hid (HS.out.draw hlt hc)
  have HBT3 := Lib.hid (HBT.out.stand hc.2 (by omega))
  have hne : ∀ b, b = C → (Value.slice (some ⟨g, 0, none⟩) t.length cap).ownBlock ≠ some b ∧ ∀ j, j < t.length → ¬ G j b := fun b e => by
    have h1 := HLT.out b
    exact ⟨fun h => by have h2 : g = b := by { simpa [Value.ownBlock] using h }; have := HG.out; omega, fun j hj hg => by
      rcases h1 with h1 | h1
      · omega
      · exact h1 (.inr ⟨j, hj, hg⟩)⟩
  have HNE := Lib.hid hne
  have HACC3 := Lib.hid (HACC.out.stand nodE_ok hc.2 hne)
  clear hc hne HS HBT HACC
  go_upto_if 12 with fail
  go_cut [] (fun wx => TRun B C (N + 1200) w1.heap.size w2.heap.size w (.slice uda l.length udc) l wx)
  case first =>
    cases b
    · go_wp2
      go_meet
      refine ⟨t, _, ⟨by have := HTT.out.2.1; omega, fun n hn => by have := (HTT.out.2.2 n hn).1; omega, fun n hn => by have := (HTT.out.2.2 n hn).2.1; omega, fun n hn => (HTT.out.2.2 n hn).2.2⟩, ?_, ⟨_, _, rfl⟩, HBT3.out, HS3.out.mono (by omega)⟩
      exact Nods.readT (HACC3.out.row (by have := HTT.out.2.1; omega)) (fun b hb => ⟨by have := hb.1; omega, hb.2⟩) (Nat.le_refl _)
    · obtain ⟨b0, f0, z0⟩ := HBT3.out
      go_wp2_with fail
      refine (cur_pick B C (N + 1002) t.length _ (by omega) (by have := HTT.out.2.1; omega) HS3.out.cur.1).mono ?_
      rintro e w4 ⟨i, hi', rfl, hc⟩
      have hit : i < t.length := by have := HTT.out.1; omega
      have HS4 := Lib.hid (HS3.out.draw hlt hc); have HBT4 := Lib.hid (HBT3.out.stand hc.2 (by omega)); have HACC4 := Lib.hid (HACC3.out.stand nodE_ok hc.2 HNE.out)
      clear hc hi' b0 f0 z0 HS3 HBT3 HACC3
      go_wp2_with fail
      refine (cur_pick B C (N + 1004) 5 _ (by omega) (by decide) HS4.out.cur.1).mono ?_
      rintro e w5 ⟨x, hx, rfl, hc⟩
      have HS5 := Lib.hid (HS4.out.draw hlt hc); have HBT5 := Lib.hid (HBT4.out.stand hc.2 (by omega)); have HACC5 := Lib.hid (HACC4.out.stand nodE_ok hc.2 HNE.out)
      have hx5 : x < 5 := by omega
      have p1 : (i : Int) < (t.length : Int) := by omega
      have HROW := Lib.hid (HACC5.out.row (by have := HTT.out.2.1; omega))
      clear hc hx HS4 HBT4 HACC4
      by_cases h0 : x = 0
      · subst h0
        obtain ⟨ca, cb, F1, F2, ⟨⟨c0, c1, c2, c3⟩, e0, e1, e2, e3⟩, _, _, _, _⟩ := Nods.cells HROW.out hit
        obtain ⟨bb, hbb⟩ : ∃ bb, (t[i]'hit).2.2.1 = bb := ⟨_, rfl⟩
        rw [hbb] at c2
        have hdd : Below w5.heap.size w5 w5.drew := (Below.refl _ _).drew
        have HS6 := Lib.hid (HS5.out.below hlt hdd); have HBT6 := Lib.hid (HBT5.out.below hdd); have HR6 := Lib.hid (HROW.out.below nodE_ok hdd)
        have f2 : w5.drew.frozen? ⟨g, i * 4 + 2, none⟩ = false := e2
        have hz5 : w5.drew.heap.size = w5.heap.size := rfl
        have HS0 := Lib.hid (show w5.drew.cell? ⟨w2.heap.size, 0, none⟩ = some (.slice (some ⟨g, 0, none⟩) t.length cap) ∧ w5.drew.cell? ⟨g, i * 4 + 2, none⟩ = some (.bool bb) from ⟨HBT5.out.1, c2⟩)
        clear hbb c0 c1 c2 c3 e0 e1 e2 e3 HS5 HBT5 HROW HACC5 hdd
        go_upto_region 7 with fail
        refine Left.region [12] (S := fun v => v.cell? ⟨w2.heap.size, 0, none⟩ = some (.slice (some ⟨g, 0, none⟩) t.length cap) ∧ v.cell? ⟨g, i * 4 + 2, none⟩ = some (.bool bb)) (by kernel_rfl) HS0.out (fun hS0 => ?_)
        generalize w5.drew = v0 at *
        refine Left.take (i := 0) (v := .pointer (some ⟨w2.heap.size, 0, none⟩)) rfl (by kernel_rfl) (by kernel_rfl) (by kernel_rfl) (by kernel_rfl) (fun _ _ _ h => h) (Or.inl ⟨by rfl, fun z hz => ?_⟩) hS0 ?_
        · obtain ⟨z1, z2⟩ := hz
          go_simp
        try simp only [qA, qB, Act.put, qD, qE, qF]
        refine Left.take (i := 1) (v := .slice (some ⟨g, 0, none⟩) t.length cap) rfl (by kernel_rfl) (by kernel_rfl) (by kernel_rfl) (by kernel_rfl) (fun _ _ _ h => h) (Or.inl ⟨by rfl, fun z hz => ?_⟩) hS0 ?_
        · obtain ⟨z1, z2⟩ := hz
          go_simp
        try simp only [qA, qB, qC, Act.put, qD, qE, qF]
        refine Left.take (i := 2) (v := .int .i64 i) rfl (by kernel_rfl) (by kernel_rfl) (by kernel_rfl) (by kernel_rfl) (fun _ _ _ h => h) (Or.inl ⟨by rfl, fun z hz => ?_⟩) hS0 ?_
        · obtain ⟨z1, z2⟩ := hz
          go_simp
        try simp only [qA, qB, qC, Act.put, qD, qE, qF]
        refine Left.take (i := 3) (v := .pointer (some ⟨w2.heap.size, 0, none⟩)) rfl (by kernel_rfl) (by kernel_rfl) (by kernel_rfl) (by kernel_rfl) (fun _ _ _ h => h) (Or.inl ⟨by rfl, fun z hz => ?_⟩) hS0 ?_
        · obtain ⟨z1, z2⟩ := hz
          go_simp
        try simp only [qA, qB, qC, Act.put, qD, qE, qF]
        refine Left.take (i := 4) (v := .slice (some ⟨g, 0, none⟩) t.length cap) rfl (by kernel_rfl) (by kernel_rfl) (by kernel_rfl) (by kernel_rfl) (fun _ _ _ h => h) (Or.inl ⟨by rfl, fun z hz => ?_⟩) hS0 ?_
        · obtain ⟨z1, z2⟩ := hz
          go_simp
        try simp only [qA, qB, qC, Act.put, qD, qE, qF]
        refine Left.take (i := 5) (v := .int .i64 i) rfl (by kernel_rfl) (by kernel_rfl) (by kernel_rfl) (by kernel_rfl) (fun _ _ _ h => h) (Or.inl ⟨by rfl, fun z hz => ?_⟩) hS0 ?_
        · obtain ⟨z1, z2⟩ := hz
          go_simp
        try simp only [qA, qB, qC, Act.put, qD, qE, qF]
        refine Left.take (i := 6) (v := .pointer (some ⟨g, i * 4, none⟩)) rfl (by kernel_rfl) (by kernel_rfl) (by kernel_rfl) (by kernel_rfl) (fun _ _ _ h => h) (Or.inl ⟨by rfl, fun z hz => ?_⟩) hS0 ?_
        · obtain ⟨z1, z2⟩ := hz
          go_simp
        try simp only [qA, qB, qC, Act.put, qD, qE, qF]
        refine Left.take (i := 7) (v := .pointer (some ⟨g, i * 4 + 2, none⟩)) rfl (by kernel_rfl) (by kernel_rfl) (by kernel_rfl) (by kernel_rfl) (fun _ _ _ h => h) (Or.inl ⟨by rfl, fun z hz => ?_⟩) hS0 ?_
        · obtain ⟨z1, z2⟩ := hz
          go_simp
        try simp only [qA, qB, qC, Act.put, qD, qE, qF]
        refine Left.take (i := 8) (v := .bool bb) rfl (by kernel_rfl) (by kernel_rfl) (by kernel_rfl) (by kernel_rfl) (fun _ _ _ h => h) (Or.inl ⟨by rfl, fun z hz => ?_⟩) hS0 ?_
        · obtain ⟨z1, z2⟩ := hz
          go_simp
        try simp only [qA, qB, qC, Act.put, qD, qE, qF]
        refine Left.take (i := 9) (v := .bool (!bb)) rfl (by kernel_rfl) (by kernel_rfl) (by kernel_rfl) (by kernel_rfl) (fun _ _ _ h => h) (Or.inl ⟨by rfl, fun z hz => ?_⟩) hS0 ?_
        · obtain ⟨z1, z2⟩ := hz
          go_simp
        try simp only [qA, qB, qC, Act.put, qD, qE, qF]
        refine Left.take (i := 10) (v := .pointer (some ⟨g, i * 4, none⟩)) rfl (by kernel_rfl) (by kernel_rfl) (by kernel_rfl) (by kernel_rfl) (fun _ _ _ h => h) (Or.inl ⟨by rfl, fun z hz => ?_⟩) hS0 ?_
        · obtain ⟨z1, z2⟩ := hz
          go_simp
        try simp only [qA, qB, qC, Act.put, qD, qE, qF]
        refine Left.take (i := 11) (v := .pointer (some ⟨g, i * 4 + 2, none⟩)) rfl (by kernel_rfl) (by kernel_rfl) (by kernel_rfl) (by kernel_rfl) (fun _ _ _ h => h) (Or.inl ⟨by rfl, fun z hz => ?_⟩) hS0 ?_
        · obtain ⟨z1, z2⟩ := hz
          go_simp
        try simp only [qA, qB, qC, Act.put, qD, qE, qF]
        refine Left.ready (rs := [12]) (by kernel_rfl) (by simp) ?_
        refine Nexts.cons rfl (fun K hK => ?_) Nexts.nil
        obtain ⟨z1, z2⟩ := hS0
        go_simp
        refine on_last hK (by decide) ?_
        clear hK K
        try simp only [qA, qB, qC, Act.put, qD, qE, qF]
        refine Left.done (by kernel_rfl) ?_ _
        go_wp2_with fail
        go_meet
        have hset : Chg (fun b => b = g) v0 (v0.setCell ⟨g, i * 4 + 2, none⟩ (.bool (!bb))) := (Chg.refl (fun b => b = g) v0).setCell (p := ⟨g, i * 4 + 2, none⟩) rfl _
        have hr := Nods.flag HR6.out hit (!bb)
        refine ⟨_, _, ?_, Nods.readT hr (fun b hb => ?_) (Nat.le_refl _), ⟨_, _, rfl⟩, by rw [List.length_set]; exact HBT6.out.stand hset (by have := HG.out; omega), (HS6.out.step (K' := N + 1006) hlt hset (fun b e => by have := HG.out; omega) (Nat.le_refl _)).mono (by omega)⟩
        · have hm := HTT.out.2.2 (t[i]'hit) (List.getElem_mem hit)
          exact P.DrawnT.set ⟨by have := HTT.out.2.1; omega, fun n hn => by have := (HTT.out.2.2 n hn).1; omega, fun n hn => by have := (HTT.out.2.2 n hn).2.1; omega, fun n hn => (HTT.out.2.2 n hn).2.2⟩ (by have := hm.1; show (t[i]'hit).1.length ≤ 1000; omega) (by have := hm.2.1; show (t[i]'hit).2.1.length ≤ 1000; omega) hm.2.2
        · have hb := hb.resolve_right id
          exact ⟨by have := hb.1; omega, by have := hb.2; simp [World.setCell]; omega⟩
      have h0' : ¬ (x : Int) = 0 := by omega
      by_cases h1 : x = 1
      · subst h1
        obtain ⟨ca, cb, F1, F2, ⟨⟨c0, c1, c2, c3⟩, e0, e1, e2, e3⟩, _, _, _, _⟩ := Nods.cells HROW.out hit
        have hdd : Below w5.heap.size w5 w5.drew := (Below.refl _ _).drew
        have HS6 := Lib.hid (HS5.out.below hlt hdd); have HBT6 := Lib.hid (HBT5.out.below hdd); have HR6 := Lib.hid (HROW.out.below nodE_ok hdd)
        have HZ5 := Lib.hid (show w5.drew.heap.size = w5.heap.size from rfl)
        have HS0 := Lib.hid (show w5.drew.cell? ⟨w2.heap.size, 0, none⟩ = some (.slice (some ⟨g, 0, none⟩) t.length cap) from HBT5.out.1)
        clear c0 c1 c2 c3 e0 e1 e2 e3 HS5 HBT5 HROW HACC5 hdd
        go_upto_region 9 with fail
        refine Left.region [8] (S := fun v => v.cell? ⟨w2.heap.size, 0, none⟩ = some (.slice (some ⟨g, 0, none⟩) t.length cap)) (by kernel_rfl) HS0.out (fun hS0 => ?_)
        generalize w5.drew = v0 at *
        refine Left.take (i := 0) (v := .pointer (some ⟨w2.heap.size, 0, none⟩)) rfl (by kernel_rfl) (by kernel_rfl) (by kernel_rfl) (by kernel_rfl) (fun _ _ _ h => h) (Or.inl ⟨by rfl, fun z hz => ?_⟩) hS0 ?_
        · obtain z1 := hz
          go_simp
        try simp only [qA, qB, Act.put, qD, qE, qF]
        refine Left.take (i := 1) (v := .slice (some ⟨g, 0, none⟩) t.length cap) rfl (by kernel_rfl) (by kernel_rfl) (by kernel_rfl) (by kernel_rfl) (fun _ _ _ h => h) (Or.inl ⟨by rfl, fun z hz => ?_⟩) hS0 ?_
        · obtain z1 := hz
          go_simp
        try simp only [qA, qB, qC, Act.put, qD, qE, qF]
        refine Left.take (i := 2) (v := .int .i64 i) rfl (by kernel_rfl) (by kernel_rfl) (by kernel_rfl) (by kernel_rfl) (fun _ _ _ h => h) (Or.inl ⟨by rfl, fun z hz => ?_⟩) hS0 ?_
        · obtain z1 := hz
          go_simp
        try simp only [qA, qB, qC, Act.put, qD, qE, qF]
        refine Left.take (i := 3) (v := .pointer (some ⟨C, 0, none⟩)) rfl (by kernel_rfl) (by kernel_rfl) (by kernel_rfl) (by kernel_rfl) (fun _ _ _ h => h) (Or.inl ⟨by rfl, fun z hz => ?_⟩) hS0 ?_
        · obtain z1 := hz
          go_simp
        try simp only [qA, qB, qC, Act.put, qD, qE, qF]
        refine Left.ready (rs := [4]) (by kernel_rfl) (by simp) ?_
        refine Nexts.cons rfl (fun K hK => ?_) Nexts.nil
        go_simp
        have hbl : Below v0.heap.size v0 (v0.alloc (.cells #[.string (S []), .string (S [119, 111, 114, 100]), .string (S [123, 94])] 9)) := (Below.refl _ _).alloc (Nat.le_refl _) _
        have HL := Lib.hid (lit_strs [[], [119, 111, 114, 100], [123, 94]] v0 9)
        have HS7 := Lib.hid (HS6.out.below hlt hbl); have HBT7 := Lib.hid (HBT6.out.below hbl); have HR7 := Lib.hid (HR6.out.below nodE_ok hbl)
        refine on_held hK (by decide) (HBT6.out.below hbl).1 (fun hS1 => ?_)
        clear hK K hbl
        try simp only [qA, qB, qC, Act.put, qD, qE, qF]
        refine Left.ready (rs := [5]) (by kernel_rfl) (by simp) ?_
        refine Nexts.cons rfl (fun K hK => ?_) Nexts.nil
        have hlt0 : C < v0.heap.size := by have := HS6.out.ord; omega
        clear HS6 HBT6 HR6
        go_simp
        refine (cur_of B C (N + 1006) v0.heap.size 3 [[], [119, 111, 114, 100], [123, 94]] _ (by omega) (by decide) (by decide) (by simp) (by omega) HL.out HS7.out.cur.1).mono ?_
        rintro e v1 ⟨s, hs, rfl, hc⟩
        have HSL := Lib.hid (show s.length ≤ 300 from Nat.le_trans ((by decide : ∀ s ∈ ([[], [119, 111, 114, 100], [123, 94]] : List Str), s.length ≤ 4) s hs) (by decide))
        have HS8 := Lib.hid (HS7.out.draw hlt hc); have HBT8 := Lib.hid (HBT7.out.stand hc.2 (by omega)); have HR8 := Lib.hid (HR7.out.stand nodE_ok hc.2 (fun b hb e => by have := hb.1; omega))
        have HZ1 := Lib.hid (show w5.heap.size < v1.heap.size by have h := hc.2.size; have := HZ5.out; simp at h; omega)
        refine on_held hK (by decide) HBT8.out.1 (fun hS2 => ?_)
        clear hK K hc hs HS7 HBT7 HR7 HL
        obtain ⟨ca, cb, F1, F2, ⟨⟨c0, c1, c2, c3⟩, e0, e1, e2, e3⟩, _, _, _, _⟩ := Nods.cells HR8.out hit
        clear c0 c1 c2 e0 e1 e2
        try simp only [qA, qB, qC, Act.put, qD, qE, qF]
        refine Left.take (i := 6) (v := .pointer (some ⟨g, i * 4, none⟩)) rfl (by kernel_rfl) (by kernel_rfl) (by kernel_rfl) (by kernel_rfl) (fun _ _ _ h => h) (Or.inl ⟨by rfl, fun z hz => ?_⟩) hS2 ?_
        · obtain z1 := hz
          go_simp
        try simp only [qA, qB, qC, Act.put, qD, qE, qF]
        refine Left.take (i := 7) (v := .pointer (some ⟨g, i * 4 + 3, none⟩)) rfl (by kernel_rfl) (by kernel_rfl) (by kernel_rfl) (by kernel_rfl) (fun _ _ _ h => h) (Or.inl ⟨by rfl, fun z hz => ?_⟩) hS2 ?_
        · obtain z1 := hz
          go_simp
        try simp only [qA, qB, qC, Act.put, qD, qE, qF]
        refine Left.ready (rs := [8]) (by kernel_rfl) (by simp) ?_
        refine Nexts.cons rfl (fun K hK => ?_) Nexts.nil
        go_simp
        refine on_last hK (by decide) ?_
        clear hK K
        try simp only [qA, qB, qC, Act.put, qD, qE, qF]
        refine Left.done (by kernel_rfl) ?_ _
        clear hS0 hS1 hS2
        go_wp2_with fail
        go_meet
        have hset : Chg (fun b => b = g) v1 (v1.setCell ⟨g, i * 4 + 3, none⟩ (.string (S s))) := (Chg.refl (fun b => b = g) v1).setCell (p := ⟨g, i * 4 + 3, none⟩) rfl _
        have hr := Nods.text HR8.out hit s
        refine ⟨_, _, ?_, Nods.readT hr (fun b hb => ?_) (Nat.le_refl _), ⟨_, _, rfl⟩, by rw [List.length_set]; exact HBT8.out.stand hset (by have := HG.out; omega), (HS8.out.step (K' := N + 1008) hlt hset (fun b e => by have := HG.out; omega) (by omega)).mono (by omega)⟩
        · have hm := HTT.out.2.2 (t[i]'hit) (List.getElem_mem hit)
          exact P.DrawnT.set ⟨by have := HTT.out.2.1; omega, fun n hn => by have := (HTT.out.2.2 n hn).1; omega, fun n hn => by have := (HTT.out.2.2 n hn).2.1; omega, fun n hn => (HTT.out.2.2 n hn).2.2⟩ (by have := hm.1; show (t[i]'hit).1.length ≤ 1000; omega) (by have := hm.2.1; show (t[i]'hit).2.1.length ≤ 1000; omega) HSL.out
        · have hb := hb.resolve_right id
          exact ⟨by have := hb.1; omega, by have := hb.2; have := HZ1.out; simp [World.setCell]; omega⟩
      have h1' : ¬ (x : Int) = 1 := by omega
      by_cases h2 : x = 2
      · subst h2
        -- case 2 begins
        have HHT := Lib.hid (HTT.out.2.2 (t[i]'hit) (List.getElem_mem hit))
        obtain ⟨ca, cb, F1, F2, ⟨⟨c0, c1, c2, c3⟩, e0, e1, e2, e3⟩, _, hIb, _, _⟩ := Nods.cells HROW.out hit
        obtain ⟨ys, hys⟩ : ∃ ys, (t[i]'hit).2.1 = ys := ⟨_, rfl⟩
        rw [hys] at hIb
        have HYL := Lib.hid (show ys.length ≤ 9 by rw [← hys]; exact HHT.out.2.1)
        have hdd : Below w5.heap.size w5 w5.drew := (Below.refl _ _).drew
        have HS6 := Lib.hid (HS5.out.below hlt hdd); have HBT6 := Lib.hid (HBT5.out.below hdd); have HR6 := Lib.hid (HROW.out.below nodE_ok hdd)
        have HIB := Lib.hid (hIb.below intE_ok hdd)
        have HZ5 := Lib.hid (show w5.heap.size ≤ w5.drew.heap.size ∧ w5.drew.heap.size ≤ w5.heap.size from ⟨Nat.le_refl _, Nat.le_refl _⟩)
        have HFB := Lib.hid (show ∀ b, Bet (w1.heap.size + 4) w5.heap.size b → w1.heap.size + 4 ≤ b ∧ b < w5.heap.size from fun b hb => ⟨hb.1, hb.2⟩)
        obtain ⟨cbd, cbc, rfl, _, _⟩ := id hIb
        have HKS := Lib.hid (show KTn w2.heap.size g (i * 4 + 1) (.slice (some ⟨g, 0, none⟩) t.length cap) (.slice cbd ys.length cbc) w5.drew from ⟨HBT5.out.1, c1, HBT5.out.2.2, by have := HG.out; have := HS5.out.ord; show g < w5.heap.size; omega⟩)
        obtain ⟨j0, hj, hy0, hy1, hy2⟩ := info_parts info_int
        have hln : 0 < t.length ∧ t.length ≤ 100 := ⟨HTT.out.1, HTT.out.2.1⟩
        have hw1 : IntKind.i64.wrap (((t.length : Nat) : Int) - 1) = ((t.length : Nat) : Int) - 1 := IntWalk.i64_in _ (by omega)
        clear c0 c1 c2 c3 e0 e1 e2 e3 hIb hdd hys HS5 HBT5 HROW HACC5
        go_upto_region 11 with fail
        go_cut [] (fun wx => ∃ (zs : List Int) (F : Blk), zs.length ≤ 1000 ∧ (∀ b, F b → w1.heap.size + 4 ≤ b ∧ b < wx.heap.size) ∧ Nods wx F (.slice (some ⟨g, 0, none⟩) (t.set i ((t[i]'hit).1, zs, (t[i]'hit).2.2.1, (t[i]'hit).2.2.2)).length cap) (t.set i ((t[i]'hit).1, zs, (t[i]'hit).2.2.1, (t[i]'hit).2.2.2)) ∧ DBx w2.heap.size (.slice (some ⟨g, 0, none⟩) t.length cap) wx ∧ TS B C (N + 1010) w1.heap.size w2.heap.size w (.slice uda l.length udc) l wx)
        case first =>
          refine Left.region [25] (S := KTn w2.heap.size g (i * 4 + 1) (.slice (some ⟨g, 0, none⟩) t.length cap) (.slice cbd ys.length cbc)) (by kernel_rfl) HKS.out (fun hS0 => ?_)
          generalize w5.drew = v0 at *
          refine Left.take (i := 0) (v := .pointer (some ⟨w2.heap.size, 0, none⟩)) rfl (by kernel_rfl) (by kernel_rfl) (by kernel_rfl) (by kernel_rfl) (fun _ _ _ h => h) (Or.inl ⟨by rfl, fun z hz => ?_⟩) hS0 ?_
          · obtain ⟨z1, z2, z3, z4⟩ := hz
            go_simp
          try simp only [qA, qB, Act.put, qD, qE, qF]
          refine Left.take (i := 1) (v := .slice (some ⟨g, 0, none⟩) t.length cap) rfl (by kernel_rfl) (by kernel_rfl) (by kernel_rfl) (by kernel_rfl) (fun _ _ _ h => h) (Or.inl ⟨by rfl, fun z hz => ?_⟩) hS0 ?_
          · obtain ⟨z1, z2, z3, z4⟩ := hz
            go_simp
          try simp only [qA, qB, qC, Act.put, qD, qE, qF]
          refine Left.take (i := 2) (v := .int .i64 i) rfl (by kernel_rfl) (by kernel_rfl) (by kernel_rfl) (by kernel_rfl) (fun _ _ _ h => h) (Or.inl ⟨by rfl, fun z hz => ?_⟩) hS0 ?_
          · obtain ⟨z1, z2, z3, z4⟩ := hz
            go_simp
          try simp only [qA, qB, qC, Act.put, qD, qE, qF]
          refine Left.take (i := 4) (v := .pointer (some ⟨w2.heap.size, 0, none⟩)) rfl (by kernel_rfl) (by kernel_rfl) (by kernel_rfl) (by kernel_rfl) (fun _ _ _ h => h) (Or.inl ⟨by rfl, fun z hz => ?_⟩) hS0 ?_
          · obtain ⟨z1, z2, z3, z4⟩ := hz
            go_simp
          try simp only [qA, qB, qC, Act.put, qD, qE, qF]
          refine Left.take (i := 5) (v := .slice (some ⟨g, 0, none⟩) t.length cap) rfl (by kernel_rfl) (by kernel_rfl) (by kernel_rfl) (by kernel_rfl) (fun _ _ _ h => h) (Or.inl ⟨by rfl, fun z hz => ?_⟩) hS0 ?_
          · obtain ⟨z1, z2, z3, z4⟩ := hz
            go_simp
          try simp only [qA, qB, qC, Act.put, qD, qE, qF]
          refine Left.take (i := 6) (v := .int .i64 i) rfl (by kernel_rfl) (by kernel_rfl) (by kernel_rfl) (by kernel_rfl) (fun _ _ _ h => h) (Or.inl ⟨by rfl, fun z hz => ?_⟩) hS0 ?_
          · obtain ⟨z1, z2, z3, z4⟩ := hz
            go_simp
          try simp only [qA, qB, qC, Act.put, qD, qE, qF]
          refine Left.take (i := 7) (v := .pointer (some ⟨g, i * 4, none⟩)) rfl (by kernel_rfl) (by kernel_rfl) (by kernel_rfl) (by kernel_rfl) (fun _ _ _ h => h) (Or.inl ⟨by rfl, fun z hz => ?_⟩) hS0 ?_
          · obtain ⟨z1, z2, z3, z4⟩ := hz
            go_simp
          try simp only [qA, qB, qC, Act.put, qD, qE, qF]
          refine Left.take (i := 8) (v := .pointer (some ⟨g, i * 4 + 1, none⟩)) rfl (by kernel_rfl) (by kernel_rfl) (by kernel_rfl) (by kernel_rfl) (fun _ _ _ h => h) (Or.inl ⟨by rfl, fun z hz => ?_⟩) hS0 ?_
          · obtain ⟨z1, z2, z3, z4⟩ := hz
            go_simp
          try simp only [qA, qB, qC, Act.put, qD, qE, qF]
          refine Left.take (i := 9) (v := .slice cbd ys.length cbc) rfl (by kernel_rfl) (by kernel_rfl) (by kernel_rfl) (by kernel_rfl) (fun _ _ _ h => h) (Or.inl ⟨by rfl, fun z hz => ?_⟩) hS0 ?_
          · obtain ⟨z1, z2, z3, z4⟩ := hz
            go_simp
          try simp only [qA, qB, qC, Act.put, qD, qE, qF]
          refine Left.take (i := 11) (v := .pointer (some ⟨C, 0, none⟩)) rfl (by kernel_rfl) (by kernel_rfl) (by kernel_rfl) (by kernel_rfl) (fun _ _ _ h => h) (Or.inl ⟨by rfl, fun z hz => ?_⟩) hS0 ?_
          · obtain ⟨z1, z2, z3, z4⟩ := hz
            go_simp
          try simp only [qA, qB, qC, Act.put, qD, qE, qF]
          refine Left.take (i := 12) (v := .pointer (some ⟨w2.heap.size, 0, none⟩)) rfl (by kernel_rfl) (by kernel_rfl) (by kernel_rfl) (by kernel_rfl) (fun _ _ _ h => h) (Or.inl ⟨by rfl, fun z hz => ?_⟩) hS0 ?_
          · obtain ⟨z1, z2, z3, z4⟩ := hz
            go_simp
          try simp only [qA, qB, qC, Act.put, qD, qE, qF]
          refine Left.take (i := 13) (v := .slice (some ⟨g, 0, none⟩) t.length cap) rfl (by kernel_rfl) (by kernel_rfl) (by kernel_rfl) (by kernel_rfl) (fun _ _ _ h => h) (Or.inl ⟨by rfl, fun z hz => ?_⟩) hS0 ?_
          · obtain ⟨z1, z2, z3, z4⟩ := hz
            go_simp
          try simp only [qA, qB, qC, Act.put, qD, qE, qF]
          refine Left.take (i := 14) (v := .int .i64 ((t.length : Nat) : Int)) rfl (by kernel_rfl) (by kernel_rfl) (by kernel_rfl) (by kernel_rfl) (fun _ _ _ h => h) (Or.inl ⟨by rfl, fun z hz => ?_⟩) hS0 ?_
          · obtain ⟨z1, z2, z3, z4⟩ := hz
            go_simp
          try simp only [qA, qB, qC, Act.put, qD, qE, qF]
          refine Left.take (i := 15) (v := .int .i64 (((t.length : Nat) : Int) - 1)) rfl (by kernel_rfl) (by kernel_rfl) (by kernel_rfl) (by kernel_rfl) (fun _ _ _ h => h) (Or.inl ⟨by rfl, fun z hz => ?_⟩) hS0 ?_
          · obtain ⟨z1, z2, z3, z4⟩ := hz
            go_simp
          try simp only [qA, qB, qC, Act.put, qD, qE, qF]
          refine Left.take (i := 16) (v := .pointer (some ⟨w2.heap.size, 0, none⟩)) rfl (by kernel_rfl) (by kernel_rfl) (by kernel_rfl) (by kernel_rfl) (fun _ _ _ h => h) (Or.inl ⟨by rfl, fun z hz => ?_⟩) hS0 ?_
          · obtain ⟨z1, z2, z3, z4⟩ := hz
            go_simp
          try simp only [qA, qB, qC, Act.put, qD, qE, qF]
          refine Left.take (i := 17) (v := .slice (some ⟨g, 0, none⟩) t.length cap) rfl (by kernel_rfl) (by kernel_rfl) (by kernel_rfl) (by kernel_rfl) (fun _ _ _ h => h) (Or.inl ⟨by rfl, fun z hz => ?_⟩) hS0 ?_
          · obtain ⟨z1, z2, z3, z4⟩ := hz
            go_simp
          try simp only [qA, qB, qC, Act.put, qD, qE, qF]
          refine Left.take (i := 18) (v := .int .i64 ((t.length : Nat) : Int)) rfl (by kernel_rfl) (by kernel_rfl) (by kernel_rfl) (by kernel_rfl) (fun _ _ _ h => h) (Or.inl ⟨by rfl, fun z hz => ?_⟩) hS0 ?_
          · obtain ⟨z1, z2, z3, z4⟩ := hz
            go_simp
          try simp only [qA, qB, qC, Act.put, qD, qE, qF]
          have HBv0 := Lib.hid (Below.refl v0.heap.size v0)
          have ZZv0 := Lib.hid (Nat.le_refl v0.heap.size)
          clear hS0
          refine Left.ready (rs := [3, 19]) (by kernel_rfl) (by simp) ?_
          refine Nexts.cons rfl (fun K hK => ?_) (Nexts.cons rfl (fun K hK => ?_) Nexts.nil)
          · skip
            go_simp
            have hba := (Below.refl v0.heap.size v0).alloc (Nat.le_refl _) (.cells #[] 3)
            have zzn1 : v0.heap.size < (v0.alloc (.cells #[] 3)).heap.size := by simp
            have ZZn1 := Lib.hid zzn1; clear zzn1
            have OWNn1 := Lib.hid (World.ownsRow_lit (base := v0.heap.size) (e := 3) (size := 1) v0 #[] 0 HBv0.out.size (Nat.zero_le _) (by simp))
            have HBn1 := Lib.hid (HBv0.out.trans (hba.mono HBv0.out.size))
            refine on_held hK (by decide) (HKS.out.below HBn1.out) (fun hSn1 => ?_)
            clear hK K hba
            generalize v0.alloc (.cells #[] 3) = n1 at *
            try simp only [qA, qB, qC, Act.put, qD, qE, qF]
            refine Left.ready (rs := [10, 19]) (by kernel_rfl) (by simp) ?_
            refine Nexts.cons rfl (fun K hK => ?_) (Nexts.cons rfl (fun K hK => ?_) Nexts.nil)
            · skip
              refine step_append_src rfl _ _ 27 rfl v0.heap.size 3 j0 (.int .i64 0) 1 8 Tryz.underlying27 hj hy0 hy1 hy2 rfl (by decide) (.slice (some ⟨v0.heap.size, 0, none⟩) 0 0) 0 [] rfl OWNn1.out (.slice cbd ys.length cbc) ys.length (ints ys) rfl (src_of_ints ((Ints.read HIB.out).below HBn1.out)) (by have := HYL.out; unfold maxLen; omega) (by have := HYL.out; omega) HBn1.out.size ?_
              intro cv n2 hown hgr
              have HBn2 := Lib.hid (HBn1.out.grown hgr HBn1.out.size (fun k hk => (World.ownsRow.lt OWNn1.out k hk).1))
              have ZZn2 := Lib.hid (show n1.heap.size ≤ n2.heap.size from hgr.size)
              rw [Nat.zero_add, List.nil_append] at hown
              obtain ⟨cd, cc, rfl⟩ := own_form hown
              have CPn2 := Lib.hid hown
              refine on_held hK (by decide) (HKS.out.below HBn2.out) (fun hSn2 => ?_)
              clear hK K hown hgr
              try simp only [qA, qB, qC, Act.put, qD, qE, qF]
              refine Left.ready (rs := [19]) (by kernel_rfl) (by simp) ?_
              refine Nexts.cons rfl (fun K hK => ?_) Nexts.nil
              go_simp
              have hba := (Below.refl n2.heap.size n2).alloc (Nat.le_refl _) (.cells #[.int .i64 0, .int .i64 (((t.length : Nat) : Int) - 1), .int .i64 ((t.length : Nat) : Int)] 3)
              have zzn3 : n2.heap.size < (n2.alloc (.cells #[.int .i64 0, .int .i64 (((t.length : Nat) : Int) - 1), .int .i64 ((t.length : Nat) : Int)] 3)).heap.size := by simp
              have ZZn3 := Lib.hid zzn3; clear zzn3
              have LITn3 := Lib.hid (fun j h => lit_ints [0, ((t.length : Nat) : Int) - 1, ((t.length : Nat) : Int)] n2 3 j h)
              have HBn3 := Lib.hid (HBn2.out.trans (hba.mono HBn2.out.size))
              have CPn3 := Lib.hid (owns_st CPn2.out (Below.chg hba fun _ => False) (fun _ _ h => h))
              refine on_held hK (by decide) (HKS.out.below HBn3.out) (fun hSn3 => ?_)
              clear hK K hba
              simp only [List.map_cons, List.map_nil] at LITn3
              generalize n2.alloc (.cells #[.int .i64 0, .int .i64 (((t.length : Nat) : Int) - 1), .int .i64 ((t.length : Nat) : Int)] 3) = n3 at *
              try simp only [qA, qB, qC, Act.put, qD, qE, qF]
              refine Left.ready (rs := [20]) (by kernel_rfl) (by simp) ?_
              refine Nexts.cons rfl (fun K hK => ?_) Nexts.nil
              go_simp
              have hA : n2.heap.size < n3.heap.size := by have := ZZn3.out; have := ZZn1.out; omega
              have hC0 : C < v0.heap.size := by have := HS6.out.ord; omega
              have hA0 : v0.heap.size ≤ n2.heap.size := HBn2.out.size
              have HSa := Lib.hid (HS6.out.below hlt HBn3.out)
              refine (cur_among B C (N + 1006) (n2.heap.size) 3 [0, ((t.length : Nat) : Int) - 1, ((t.length : Nat) : Int)] _ (by omega) (by simp) (by simp) hA (by omega) LITn3.out HSa.out.cur.1).mono ?_
              rintro e n4 ⟨s, _, rfl, hc⟩
              have HSb := Lib.hid (HSa.out.draw hlt hc)
              have HBb := Lib.hid ((HBT6.out.below HBn3.out).stand hc.2 (by omega))
              have HRb := Lib.hid ((HR6.out.below nodE_ok HBn3.out).stand nodE_ok hc.2 (fun b hb e => by have := hb.1; omega))
              have CPn4 := Lib.hid (owns_st CPn3.out hc.2 (fun k hk e => by have := (World.ownsRow.lt CPn3.out k hk).1; omega))
              have HKb := Lib.hid ((HKS.out.below HBn3.out).chg hc.2 (by omega) (by have := HG.out; omega))
              have HZb := Lib.hid (show v0.heap.size ≤ n4.heap.size from Nat.le_trans HBn3.out.size hc.2.size)
              refine on_held hK (by decide) HKb.out (fun hSb => ?_)
              clear hK K hc hA hA0 hC0
              try simp only [qA, qB, qC, Act.put, qD, qE, qF]
              refine Left.ready (rs := [21]) (by kernel_rfl) (by simp) ?_
              refine Nexts.cons rfl (fun K hK => ?_) Nexts.nil
              go_simp
              have hba := (Below.refl n4.heap.size n4).alloc (Nat.le_refl _) (.cells #[.int .i64 s] 3)
              have STR := Lib.hid (show (n4.alloc (.cells #[.int .i64 s] 3)).cell? ⟨n4.heap.size, 0, none⟩ = some (.int .i64 s) by go_simp)
              have HSc := Lib.hid (HSb.out.below hlt hba); have HBc := Lib.hid (HBb.out.below hba); have HRc := Lib.hid (HRb.out.below nodE_ok hba)
              have CPc := Lib.hid (owns_st CPn4.out (Below.chg hba fun _ => False) (fun _ _ h => h))
              have HKc := Lib.hid (HKb.out.below hba)
              have HZc := Lib.hid (Nat.le_trans HZb.out hba.size)
              refine on_held hK (by decide) HKc.out (fun hSc => ?_)
              clear hK K hba
              generalize n4.alloc (.cells #[.int .i64 s] 3) = m at *
              try simp only [qA, qB, qC, Act.put, qD, qE, qF]
              refine Left.ready (rs := [22]) (by kernel_rfl) (by simp) ?_
              refine Nexts.cons rfl (fun K hK => ?_) Nexts.nil
              refine step_append_lies _ rfl _ _ 27 rfl v0.heap.size 3 j0 (.int .i64 0) 1 8 Tryz.underlying27 hj hy0 hy1 hy2 rfl (by decide) (.slice cd ys.length cc) ys.length (ints ys) rfl CPc.out ⟨n4.heap.size, 0, none⟩ 1 1 [.int .i64 s] rfl rfl ?_ ?_ (by decide) (by have := HYL.out; unfold maxLen; omega) (by have := HYL.out; omega) HZc.out _ rfl ?_
              · intro k y hy
                match k, hy with
                | 0, hy => injection hy with hy; subst hy; rw [add0]; exact STR.out
              · intro y hy
                simp only [List.mem_cons, List.not_mem_nil, or_false] at hy
                subst hy; rfl
              intro g3 cap3 z hown hgr hat hlt3
              have hCP := fun k hk => (World.ownsRow.lt CPc.out k hk).1
              have hch := chg_grown hgr
              have HIZ := Lib.hid hch.size
              have hTz := HSc.out.ord
              have HSz := Lib.hid (HSc.out.step (K' := N + 1010) hlt hch (fun b e => by have := hCP b e; have := HS6.out.ord; omega) (by omega))
              have HBz := Lib.hid (HBc.out.stand hch (fun e => by have := hCP _ e; have := HS6.out.ord; omega))
              have HRz := Lib.hid (HRc.out.stand nodE_ok hch (fun b hb e => by have := hCP b e; have := HFB.out b hb; have := HZ5.out; omega))
              have HKz := Lib.hid (HKc.out.chg hch (fun e => by have := hCP _ e; have := HS6.out.ord; omega) (fun e => by have := hCP _ e; have := HG.out; have := HS6.out.ord; omega))
              have HIz := Lib.hid (show Ints z (Bet v0.heap.size z.heap.size) (.slice (some ⟨g3, 0, none⟩) (ys.length + 1) cap3) (ys ++ [s]) from by
                have h := ints_of_owns (B := v0.heap.size) (l := ys ++ [s]) (u := .slice (some ⟨g3, 0, none⟩) (ys.length + 1) cap3) (v := z) (by rw [List.length_append, show ints (ys ++ [s]) = ints ys ++ [.int .i64 s] by simp]; exact hown) (by have := HYL.out; simp; omega)
                simpa using h)
              refine on_held hK (by decide) HKz.out (fun hSz => ?_)
              clear hK K hown hgr hat hch hCP hTz
              obtain ⟨ca2, cb2, G1, G2, ⟨⟨q0, q1, q2, q3⟩, p0, p1', p2, p3⟩, _, _, _, _⟩ := Nods.cells HRz.out hit
              clear q2 q3 p2 p3
              try simp only [qA, qB, qC, Act.put, qD, qE, qF]
              refine Left.take (i := 23) (v := .pointer (some ⟨g, i * 4, none⟩)) rfl (by kernel_rfl) (by kernel_rfl) (by kernel_rfl) (by kernel_rfl) (fun _ _ _ h => h) (Or.inl ⟨by rfl, fun z hz => ?_⟩) hSz ?_
              · obtain ⟨z1, z2, z3, z4⟩ := hz
                go_simp
              try simp only [qA, qB, qC, Act.put, qD, qE, qF]
              refine Left.take (i := 24) (v := .pointer (some ⟨g, i * 4 + 1, none⟩)) rfl (by kernel_rfl) (by kernel_rfl) (by kernel_rfl) (by kernel_rfl) (fun _ _ _ h => h) (Or.inl ⟨by rfl, fun z hz => ?_⟩) hSz ?_
              · obtain ⟨z1, z2, z3, z4⟩ := hz
                go_simp
              try simp only [qA, qB, qC, Act.put, qD, qE, qF]
              refine Left.ready (rs := [25]) (by kernel_rfl) (by simp) ?_
              refine Nexts.cons rfl (fun K hK => ?_) Nexts.nil
              go_simp
              refine on_last hK (by decide) ?_
              clear hK K
              try simp only [qA, qB, qC, Act.put, qD, qE, qF]
              refine Left.done (by kernel_rfl) ?_ _
              go_wp2_with fail
              go_meet
              have hset : Chg (fun b => b = g) z (z.setCell ⟨g, i * 4 + 1, none⟩ (.slice (some ⟨g3, 0, none⟩) (ys.length + 1) cap3)) := (Chg.refl (fun b => b = g) z).setCell (p := ⟨g, i * 4 + 1, none⟩) rfl _
              have hzs : (z.setCell ⟨g, i * 4 + 1, none⟩ (.slice (some ⟨g3, 0, none⟩) (ys.length + 1) cap3)).heap.size = z.heap.size := by simp [World.setCell]
              have hzz : v0.heap.size ≤ z.heap.size := Nat.le_trans HZc.out HIZ.out
              refine ⟨ys ++ [s], _, by have := HYL.out; simp; omega, ?_, Nods.kids (X := Bet v0.heap.size z.heap.size) HRz.out hit HIz.out (fun b hb => ⟨fun h => by have := HFB.out b h; have := HZ5.out; have := hb.1; omega, hb.2⟩) (fun h => by have := h.1; have := HG.out; have := HS6.out.ord; omega), HBz.out.stand hset (by have := HG.out; omega), HSz.out.step hlt hset (fun b e => by have := HG.out; omega) (Nat.le_refl _)⟩
              intro b hb
              rw [hzs]
              rcases hb with hb | hb
              · exact ⟨(hb.1), by have := hb.2; have := HZ5.out; omega⟩
              · exact ⟨by have := hb.1; have := HS6.out.ord; have := HG.out; omega, hb.2⟩
            · skip
              go_simp
              have hba := (Below.refl n1.heap.size n1).alloc (Nat.le_refl _) (.cells #[.int .i64 0, .int .i64 (((t.length : Nat) : Int) - 1), .int .i64 ((t.length : Nat) : Int)] 3)
              have zzn5 : n1.heap.size < (n1.alloc (.cells #[.int .i64 0, .int .i64 (((t.length : Nat) : Int) - 1), .int .i64 ((t.length : Nat) : Int)] 3)).heap.size := by simp
              have ZZn5 := Lib.hid zzn5; clear zzn5
              have LITn5 := Lib.hid (fun j h => lit_ints [0, ((t.length : Nat) : Int) - 1, ((t.length : Nat) : Int)] n1 3 j h)
              have HBn5 := Lib.hid (HBn1.out.trans (hba.mono HBn1.out.size))
              have OWNn5 := Lib.hid (owns_st OWNn1.out (Below.chg hba fun _ => False) (fun _ _ h => h))
              refine on_held hK (by decide) (HKS.out.below HBn5.out) (fun hSn5 => ?_)
              clear hK K hba
              simp only [List.map_cons, List.map_nil] at LITn5
              generalize n1.alloc (.cells #[.int .i64 0, .int .i64 (((t.length : Nat) : Int) - 1), .int .i64 ((t.length : Nat) : Int)] 3) = n5 at *
              try simp only [qA, qB, qC, Act.put, qD, qE, qF]
              refine Left.ready (rs := [10]) (by kernel_rfl) (by simp) ?_
              refine Nexts.cons rfl (fun K hK => ?_) Nexts.nil
              refine step_append_src rfl _ _ 27 rfl v0.heap.size 3 j0 (.int .i64 0) 1 8 Tryz.underlying27 hj hy0 hy1 hy2 rfl (by decide) (.slice (some ⟨v0.heap.size, 0, none⟩) 0 0) 0 [] rfl OWNn5.out (.slice cbd ys.length cbc) ys.length (ints ys) rfl (src_of_ints ((Ints.read HIB.out).below HBn5.out)) (by have := HYL.out; unfold maxLen; omega) (by have := HYL.out; omega) HBn5.out.size ?_
              intro cv n6 hown hgr
              have HBn6 := Lib.hid (HBn5.out.grown hgr HBn5.out.size (fun k hk => (World.ownsRow.lt OWNn5.out k hk).1))
              have ZZn6 := Lib.hid (show n5.heap.size ≤ n6.heap.size from hgr.size)
              rw [Nat.zero_add, List.nil_append] at hown
              have LITn6 := Lib.hid (fun j (h : j < 3) => ((chg_grown hgr).cell (p := ⟨n1.heap.size, j, none⟩) (by have := ZZn5.out; show n1.heap.size < n5.heap.size; omega) (fun e => by have e2 : v0.heap.size = n1.heap.size := by { simpa [Value.ownBlock] using e }; have := ZZn1.out; omega)).trans (LITn5.out j h))
              obtain ⟨cd, cc, rfl⟩ := own_form hown
              have CPn6 := Lib.hid hown
              refine on_held hK (by decide) (HKS.out.below HBn6.out) (fun hSn6 => ?_)
              clear hK K hown hgr
              try simp only [qA, qB, qC, Act.put, qD, qE, qF]
              refine Left.ready (rs := [20]) (by kernel_rfl) (by simp) ?_
              refine Nexts.cons rfl (fun K hK => ?_) Nexts.nil
              go_simp
              have hA : n1.heap.size < n6.heap.size := by have := ZZn5.out; have := ZZn6.out; have := ZZn1.out; omega
              have hC0 : C < v0.heap.size := by have := HS6.out.ord; omega
              have hA0 : v0.heap.size ≤ n1.heap.size := HBn1.out.size
              have HSa := Lib.hid (HS6.out.below hlt HBn6.out)
              refine (cur_among B C (N + 1006) (n1.heap.size) 3 [0, ((t.length : Nat) : Int) - 1, ((t.length : Nat) : Int)] _ (by omega) (by simp) (by simp) hA (by omega) LITn6.out HSa.out.cur.1).mono ?_
              rintro e n7 ⟨s, _, rfl, hc⟩
              have HSb := Lib.hid (HSa.out.draw hlt hc)
              have HBb := Lib.hid ((HBT6.out.below HBn6.out).stand hc.2 (by omega))
              have HRb := Lib.hid ((HR6.out.below nodE_ok HBn6.out).stand nodE_ok hc.2 (fun b hb e => by have := hb.1; omega))
              have CPn7 := Lib.hid (owns_st CPn6.out hc.2 (fun k hk e => by have := (World.ownsRow.lt CPn6.out k hk).1; omega))
              have HKb := Lib.hid ((HKS.out.below HBn6.out).chg hc.2 (by omega) (by have := HG.out; omega))
              have HZb := Lib.hid (show v0.heap.size ≤ n7.heap.size from Nat.le_trans HBn6.out.size hc.2.size)
              refine on_held hK (by decide) HKb.out (fun hSb => ?_)
              clear hK K hc hA hA0 hC0
              try simp only [qA, qB, qC, Act.put, qD, qE, qF]
              refine Left.ready (rs := [21]) (by kernel_rfl) (by simp) ?_
              refine Nexts.cons rfl (fun K hK => ?_) Nexts.nil
              go_simp
              have hba := (Below.refl n7.heap.size n7).alloc (Nat.le_refl _) (.cells #[.int .i64 s] 3)
              have STR := Lib.hid (show (n7.alloc (.cells #[.int .i64 s] 3)).cell? ⟨n7.heap.size, 0, none⟩ = some (.int .i64 s) by go_simp)
              have HSc := Lib.hid (HSb.out.below hlt hba); have HBc := Lib.hid (HBb.out.below hba); have HRc := Lib.hid (HRb.out.below nodE_ok hba)
              have CPc := Lib.hid (owns_st CPn7.out (Below.chg hba fun _ => False) (fun _ _ h => h))
              have HKc := Lib.hid (HKb.out.below hba)
              have HZc := Lib.hid (Nat.le_trans HZb.out hba.size)
              refine on_held hK (by decide) HKc.out (fun hSc => ?_)
              clear hK K hba
              generalize n7.alloc (.cells #[.int .i64 s] 3) = m at *
              try simp only [qA, qB, qC, Act.put, qD, qE, qF]
              refine Left.ready (rs := [22]) (by kernel_rfl) (by simp) ?_
              refine Nexts.cons rfl (fun K hK => ?_) Nexts.nil
              refine step_append_lies _ rfl _ _ 27 rfl v0.heap.size 3 j0 (.int .i64 0) 1 8 Tryz.underlying27 hj hy0 hy1 hy2 rfl (by decide) (.slice cd ys.length cc) ys.length (ints ys) rfl CPc.out ⟨n7.heap.size, 0, none⟩ 1 1 [.int .i64 s] rfl rfl ?_ ?_ (by decide) (by have := HYL.out; unfold maxLen; omega) (by have := HYL.out; omega) HZc.out _ rfl ?_
              · intro k y hy
                match k, hy with
                | 0, hy => injection hy with hy; subst hy; rw [add0]; exact STR.out
              · intro y hy
                simp only [List.mem_cons, List.not_mem_nil, or_false] at hy
                subst hy; rfl
              intro g3 cap3 z hown hgr hat hlt3
              have hCP := fun k hk => (World.ownsRow.lt CPc.out k hk).1
              have hch := chg_grown hgr
              have HIZ := Lib.hid hch.size
              have hTz := HSc.out.ord
              have HSz := Lib.hid (HSc.out.step (K' := N + 1010) hlt hch (fun b e => by have := hCP b e; have := HS6.out.ord; omega) (by omega))
              have HBz := Lib.hid (HBc.out.stand hch (fun e => by have := hCP _ e; have := HS6.out.ord; omega))
              have HRz := Lib.hid (HRc.out.stand nodE_ok hch (fun b hb e => by have := hCP b e; have := HFB.out b hb; have := HZ5.out; omega))
              have HKz := Lib.hid (HKc.out.chg hch (fun e => by have := hCP _ e; have := HS6.out.ord; omega) (fun e => by have := hCP _ e; have := HG.out; have := HS6.out.ord; omega))
              have HIz := Lib.hid (show Ints z (Bet v0.heap.size z.heap.size) (.slice (some ⟨g3, 0, none⟩) (ys.length + 1) cap3) (ys ++ [s]) from by
                have h := ints_of_owns (B := v0.heap.size) (l := ys ++ [s]) (u := .slice (some ⟨g3, 0, none⟩) (ys.length + 1) cap3) (v := z) (by rw [List.length_append, show ints (ys ++ [s]) = ints ys ++ [.int .i64 s] by simp]; exact hown) (by have := HYL.out; simp; omega)
                simpa using h)
              refine on_held hK (by decide) HKz.out (fun hSz => ?_)
              clear hK K hown hgr hat hch hCP hTz
              obtain ⟨ca2, cb2, G1, G2, ⟨⟨q0, q1, q2, q3⟩, p0, p1', p2, p3⟩, _, _, _, _⟩ := Nods.cells HRz.out hit
              clear q2 q3 p2 p3
              try simp only [qA, qB, qC, Act.put, qD, qE, qF]
              refine Left.take (i := 23) (v := .pointer (some ⟨g, i * 4, none⟩)) rfl (by kernel_rfl) (by kernel_rfl) (by kernel_rfl) (by kernel_rfl) (fun _ _ _ h => h) (Or.inl ⟨by rfl, fun z hz => ?_⟩) hSz ?_
              · obtain ⟨z1, z2, z3, z4⟩ := hz
                go_simp
              try simp only [qA, qB, qC, Act.put, qD, qE, qF]
              refine Left.take (i := 24) (v := .pointer (some ⟨g, i * 4 + 1, none⟩)) rfl (by kernel_rfl) (by kernel_rfl) (by kernel_rfl) (by kernel_rfl) (fun _ _ _ h => h) (Or.inl ⟨by rfl, fun z hz => ?_⟩) hSz ?_
              · obtain ⟨z1, z2, z3, z4⟩ := hz
                go_simp
              try simp only [qA, qB, qC, Act.put, qD, qE, qF]
              refine Left.ready (rs := [25]) (by kernel_rfl) (by simp) ?_
              refine Nexts.cons rfl (fun K hK => ?_) Nexts.nil
              go_simp
              refine on_last hK (by decide) ?_
              clear hK K
              try simp only [qA, qB, qC, Act.put, qD, qE, qF]
              refine Left.done (by kernel_rfl) ?_ _
              go_wp2_with fail
              go_meet
              have hset : Chg (fun b => b = g) z (z.setCell ⟨g, i * 4 + 1, none⟩ (.slice (some ⟨g3, 0, none⟩) (ys.length + 1) cap3)) := (Chg.refl (fun b => b = g) z).setCell (p := ⟨g, i * 4 + 1, none⟩) rfl _
              have hzs : (z.setCell ⟨g, i * 4 + 1, none⟩ (.slice (some ⟨g3, 0, none⟩) (ys.length + 1) cap3)).heap.size = z.heap.size := by simp [World.setCell]
              have hzz : v0.heap.size ≤ z.heap.size := Nat.le_trans HZc.out HIZ.out
              refine ⟨ys ++ [s], _, by have := HYL.out; simp; omega, ?_, Nods.kids (X := Bet v0.heap.size z.heap.size) HRz.out hit HIz.out (fun b hb => ⟨fun h => by have := HFB.out b h; have := HZ5.out; have := hb.1; omega, hb.2⟩) (fun h => by have := h.1; have := HG.out; have := HS6.out.ord; omega), HBz.out.stand hset (by have := HG.out; omega), HSz.out.step hlt hset (fun b e => by have := HG.out; omega) (Nat.le_refl _)⟩
              intro b hb
              rw [hzs]
              rcases hb with hb | hb
              · exact ⟨(hb.1), by have := hb.2; have := HZ5.out; omega⟩
              · exact ⟨by have := hb.1; have := HS6.out.ord; have := HG.out; omega, hb.2⟩
          · skip
            go_simp
            have hba := (Below.refl v0.heap.size v0).alloc (Nat.le_refl _) (.cells #[.int .i64 0, .int .i64 (((t.length : Nat) : Int) - 1), .int .i64 ((t.length : Nat) : Int)] 3)
            have zzn8 : v0.heap.size < (v0.alloc (.cells #[.int .i64 0, .int .i64 (((t.length : Nat) : Int) - 1), .int .i64 ((t.length : Nat) : Int)] 3)).heap.size := by simp
            have ZZn8 := Lib.hid zzn8; clear zzn8
            have LITn8 := Lib.hid (fun j h => lit_ints [0, ((t.length : Nat) : Int) - 1, ((t.length : Nat) : Int)] v0 3 j h)
            have HBn8 := Lib.hid (HBv0.out.trans (hba.mono HBv0.out.size))
            refine on_held hK (by decide) (HKS.out.below HBn8.out) (fun hSn8 => ?_)
            clear hK K hba
            simp only [List.map_cons, List.map_nil] at LITn8
            generalize v0.alloc (.cells #[.int .i64 0, .int .i64 (((t.length : Nat) : Int) - 1), .int .i64 ((t.length : Nat) : Int)] 3) = n8 at *
            try simp only [qA, qB, qC, Act.put, qD, qE, qF]
            refine Left.ready (rs := [3]) (by kernel_rfl) (by simp) ?_
            refine Nexts.cons rfl (fun K hK => ?_) Nexts.nil
            go_simp
            have hba := (Below.refl n8.heap.size n8).alloc (Nat.le_refl _) (.cells #[] 3)
            have zzn9 : n8.heap.size < (n8.alloc (.cells #[] 3)).heap.size := by simp
            have ZZn9 := Lib.hid zzn9; clear zzn9
            have OWNn9 := Lib.hid (World.ownsRow_lit (base := v0.heap.size) (e := 3) (size := 1) n8 #[] 0 HBn8.out.size (Nat.zero_le _) (by simp))
            have HBn9 := Lib.hid (HBn8.out.trans (hba.mono HBn8.out.size))
            have LITn9 := Lib.hid (fun j (h : j < 3) => (hba.cell (p := ⟨v0.heap.size, j, none⟩) (by have := ZZn8.out; show v0.heap.size < n8.heap.size; omega)).trans (LITn8.out j h))
            refine on_held hK (by decide) (HKS.out.below HBn9.out) (fun hSn9 => ?_)
            clear hK K hba
            generalize n8.alloc (.cells #[] 3) = n9 at *
            try simp only [qA, qB, qC, Act.put, qD, qE, qF]
            refine Left.ready (rs := [10]) (by kernel_rfl) (by simp) ?_
            refine Nexts.cons rfl (fun K hK => ?_) Nexts.nil
            refine step_append_src rfl _ _ 27 rfl v0.heap.size 3 j0 (.int .i64 0) 1 8 Tryz.underlying27 hj hy0 hy1 hy2 rfl (by decide) (.slice (some ⟨n8.heap.size, 0, none⟩) 0 0) 0 [] rfl OWNn9.out (.slice cbd ys.length cbc) ys.length (ints ys) rfl (src_of_ints ((Ints.read HIB.out).below HBn9.out)) (by have := HYL.out; unfold maxLen; omega) (by have := HYL.out; omega) HBn9.out.size ?_
            intro cv n10 hown hgr
            have HBn10 := Lib.hid (HBn9.out.grown hgr HBn9.out.size (fun k hk => (World.ownsRow.lt OWNn9.out k hk).1))
            have ZZn10 := Lib.hid (show n9.heap.size ≤ n10.heap.size from hgr.size)
            rw [Nat.zero_add, List.nil_append] at hown
            have LITn10 := Lib.hid (fun j (h : j < 3) => ((chg_grown hgr).cell (p := ⟨v0.heap.size, j, none⟩) (by have := ZZn8.out; show v0.heap.size < n9.heap.size; have := ZZn9.out; omega) (fun e => by have e2 : n8.heap.size = v0.heap.size := by { simpa [Value.ownBlock] using e }; have := ZZn8.out; omega)).trans (LITn9.out j h))
            obtain ⟨cd, cc, rfl⟩ := own_form hown
            have CPn10 := Lib.hid hown
            refine on_held hK (by decide) (HKS.out.below HBn10.out) (fun hSn10 => ?_)
            clear hK K hown hgr
            try simp only [qA, qB, qC, Act.put, qD, qE, qF]
            refine Left.ready (rs := [20]) (by kernel_rfl) (by simp) ?_
            refine Nexts.cons rfl (fun K hK => ?_) Nexts.nil
            go_simp
            have hA : v0.heap.size < n10.heap.size := by have := ZZn8.out; have := ZZn10.out; have := ZZn9.out; omega
            have hC0 : C < v0.heap.size := by have := HS6.out.ord; omega
            have hA0 : v0.heap.size ≤ v0.heap.size := HBv0.out.size
            have HSa := Lib.hid (HS6.out.below hlt HBn10.out)
            refine (cur_among B C (N + 1006) (v0.heap.size) 3 [0, ((t.length : Nat) : Int) - 1, ((t.length : Nat) : Int)] _ (by omega) (by simp) (by simp) hA (by omega) LITn10.out HSa.out.cur.1).mono ?_
            rintro e n11 ⟨s, _, rfl, hc⟩
            have HSb := Lib.hid (HSa.out.draw hlt hc)
            have HBb := Lib.hid ((HBT6.out.below HBn10.out).stand hc.2 (by omega))
            have HRb := Lib.hid ((HR6.out.below nodE_ok HBn10.out).stand nodE_ok hc.2 (fun b hb e => by have := hb.1; omega))
            have CPn11 := Lib.hid (owns_st CPn10.out hc.2 (fun k hk e => by have := (World.ownsRow.lt CPn10.out k hk).1; omega))
            have HKb := Lib.hid ((HKS.out.below HBn10.out).chg hc.2 (by omega) (by have := HG.out; omega))
            have HZb := Lib.hid (show v0.heap.size ≤ n11.heap.size from Nat.le_trans HBn10.out.size hc.2.size)
            refine on_held hK (by decide) HKb.out (fun hSb => ?_)
            clear hK K hc hA hA0 hC0
            try simp only [qA, qB, qC, Act.put, qD, qE, qF]
            refine Left.ready (rs := [21]) (by kernel_rfl) (by simp) ?_
            refine Nexts.cons rfl (fun K hK => ?_) Nexts.nil
            go_simp
            have hba := (Below.refl n11.heap.size n11).alloc (Nat.le_refl _) (.cells #[.int .i64 s] 3)
            have STR := Lib.hid (show (n11.alloc (.cells #[.int .i64 s] 3)).cell? ⟨n11.heap.size, 0, none⟩ = some (.int .i64 s) by go_simp)
            have HSc := Lib.hid (HSb.out.below hlt hba); have HBc := Lib.hid (HBb.out.below hba); have HRc := Lib.hid (HRb.out.below nodE_ok hba)
            have CPc := Lib.hid (owns_st CPn11.out (Below.chg hba fun _ => False) (fun _ _ h => h))
            have HKc := Lib.hid (HKb.out.below hba)
            have HZc := Lib.hid (Nat.le_trans HZb.out hba.size)
            refine on_held hK (by decide) HKc.out (fun hSc => ?_)
            clear hK K hba
            generalize n11.alloc (.cells #[.int .i64 s] 3) = m at *
            try simp only [qA, qB, qC, Act.put, qD, qE, qF]
            refine Left.ready (rs := [22]) (by kernel_rfl) (by simp) ?_
            refine Nexts.cons rfl (fun K hK => ?_) Nexts.nil
            refine step_append_lies _ rfl _ _ 27 rfl v0.heap.size 3 j0 (.int .i64 0) 1 8 Tryz.underlying27 hj hy0 hy1 hy2 rfl (by decide) (.slice cd ys.length cc) ys.length (ints ys) rfl CPc.out ⟨n11.heap.size, 0, none⟩ 1 1 [.int .i64 s] rfl rfl ?_ ?_ (by decide) (by have := HYL.out; unfold maxLen; omega) (by have := HYL.out; omega) HZc.out _ rfl ?_
            · intro k y hy
              match k, hy with
              | 0, hy => injection hy with hy; subst hy; rw [add0]; exact STR.out
            · intro y hy
              simp only [List.mem_cons, List.not_mem_nil, or_false] at hy
              subst hy; rfl
            intro g3 cap3 z hown hgr hat hlt3
            have hCP := fun k hk => (World.ownsRow.lt CPc.out k hk).1
            have hch := chg_grown hgr
            have HIZ := Lib.hid hch.size
            have hTz := HSc.out.ord
            have HSz := Lib.hid (HSc.out.step (K' := N + 1010) hlt hch (fun b e => by have := hCP b e; have := HS6.out.ord; omega) (by omega))
            have HBz := Lib.hid (HBc.out.stand hch (fun e => by have := hCP _ e; have := HS6.out.ord; omega))
            have HRz := Lib.hid (HRc.out.stand nodE_ok hch (fun b hb e => by have := hCP b e; have := HFB.out b hb; have := HZ5.out; omega))
            have HKz := Lib.hid (HKc.out.chg hch (fun e => by have := hCP _ e; have := HS6.out.ord; omega) (fun e => by have := hCP _ e; have := HG.out; have := HS6.out.ord; omega))
            have HIz := Lib.hid (show Ints z (Bet v0.heap.size z.heap.size) (.slice (some ⟨g3, 0, none⟩) (ys.length + 1) cap3) (ys ++ [s]) from by
              have h := ints_of_owns (B := v0.heap.size) (l := ys ++ [s]) (u := .slice (some ⟨g3, 0, none⟩) (ys.length + 1) cap3) (v := z) (by rw [List.length_append, show ints (ys ++ [s]) = ints ys ++ [.int .i64 s] by simp]; exact hown) (by have := HYL.out; simp; omega)
              simpa using h)
            refine on_held hK (by decide) HKz.out (fun hSz => ?_)
            clear hK K hown hgr hat hch hCP hTz
            obtain ⟨ca2, cb2, G1, G2, ⟨⟨q0, q1, q2, q3⟩, p0, p1', p2, p3⟩, _, _, _, _⟩ := Nods.cells HRz.out hit
            clear q2 q3 p2 p3
            try simp only [qA, qB, qC, Act.put, qD, qE, qF]
            refine Left.take (i := 23) (v := .pointer (some ⟨g, i * 4, none⟩)) rfl (by kernel_rfl) (by kernel_rfl) (by kernel_rfl) (by kernel_rfl) (fun _ _ _ h => h) (Or.inl ⟨by rfl, fun z hz => ?_⟩) hSz ?_
            · obtain ⟨z1, z2, z3, z4⟩ := hz
              go_simp
            try simp only [qA, qB, qC, Act.put, qD, qE, qF]
            refine Left.take (i := 24) (v := .pointer (some ⟨g, i * 4 + 1, none⟩)) rfl (by kernel_rfl) (by kernel_rfl) (by kernel_rfl) (by kernel_rfl) (fun _ _ _ h => h) (Or.inl ⟨by rfl, fun z hz => ?_⟩) hSz ?_
            · obtain ⟨z1, z2, z3, z4⟩ := hz
              go_simp
            try simp only [qA, qB, qC, Act.put, qD, qE, qF]
            refine Left.ready (rs := [25]) (by kernel_rfl) (by simp) ?_
            refine Nexts.cons rfl (fun K hK => ?_) Nexts.nil
            go_simp
            refine on_last hK (by decide) ?_
            clear hK K
            try simp only [qA, qB, qC, Act.put, qD, qE, qF]
            refine Left.done (by kernel_rfl) ?_ _
            go_wp2_with fail
            go_meet
            have hset : Chg (fun b => b = g) z (z.setCell ⟨g, i * 4 + 1, none⟩ (.slice (some ⟨g3, 0, none⟩) (ys.length + 1) cap3)) := (Chg.refl (fun b => b = g) z).setCell (p := ⟨g, i * 4 + 1, none⟩) rfl _
            have hzs : (z.setCell ⟨g, i * 4 + 1, none⟩ (.slice (some ⟨g3, 0, none⟩) (ys.length + 1) cap3)).heap.size = z.heap.size := by simp [World.setCell]
            have hzz : v0.heap.size ≤ z.heap.size := Nat.le_trans HZc.out HIZ.out
            refine ⟨ys ++ [s], _, by have := HYL.out; simp; omega, ?_, Nods.kids (X := Bet v0.heap.size z.heap.size) HRz.out hit HIz.out (fun b hb => ⟨fun h => by have := HFB.out b h; have := HZ5.out; have := hb.1; omega, hb.2⟩) (fun h => by have := h.1; have := HG.out; have := HS6.out.ord; omega), HBz.out.stand hset (by have := HG.out; omega), HSz.out.step hlt hset (fun b e => by have := HG.out; omega) (Nat.le_refl _)⟩
            intro b hb
            rw [hzs]
            rcases hb with hb | hb
            · exact ⟨(hb.1), by have := hb.2; have := HZ5.out; omega⟩
            · exact ⟨by have := hb.1; have := HS6.out.ord; have := HG.out; omega, hb.2⟩
        case rest =>
          obtain ⟨zs0, FF, hzl, hFF, hnd, hbt, hts⟩ := hcut
          obtain ⟨t1, ht1, hl1, hd1, hs1⟩ : ∃ t1, t.set i ((t[i]'hit).1, zs0, (t[i]'hit).2.2.1, (t[i]'hit).2.2.2) = t1 ∧ t1.length = t.length ∧ P.DrawnT t1 ∧ ∀ h : i < t1.length, (t1[i]'h).1.length ≤ 9 := by
            refine ⟨_, rfl, List.length_set, P.DrawnT.set ⟨by have := HTT.out.2.1; omega, fun n hn => by have := (HTT.out.2.2 n hn).1; omega, fun n hn => by have := (HTT.out.2.2 n hn).2.1; omega, fun n hn => (HTT.out.2.2 n hn).2.2⟩ (by have := HHT.out.1; show (t[i]'hit).1.length ≤ 1000; omega) hzl HHT.out.2.2, fun h => ?_⟩
            rw [List.getElem_set_self]
            exact HHT.out.1
          rw [ht1] at hnd
          rw [← hl1] at hbt
          have hit1 : i < t1.length := by omega
          have p1' : (i : Int) < (t1.length : Int) := by omega
          have HD1 := Lib.hid hd1; have HL1 := Lib.hid hl1
          clear HYL HIB HS6 HBT6 HR6 HKS HZ5 HFB hw1 hln p1
          obtain ⟨ca2, cb2, F1, F2, ⟨⟨c0, c1, c2, c3⟩, e0, e1, e2, e3⟩, hIa, _, _, _⟩ := Nods.cells hnd hit1
          have hys1 := hs1 hit1
          obtain ⟨ys, hys⟩ : ∃ ys, (t1[i]'hit1).1 = ys := ⟨_, rfl⟩
          rw [hys] at hIa hys1
          have HYL := Lib.hid hys1
          have hdd : Below wc.heap.size wc wc.drew := (Below.refl _ _).drew
          have HS6 := Lib.hid (hts.below hlt hdd); have HBT6 := Lib.hid (hbt.below hdd); have HR6 := Lib.hid (RowO.below nodE_ok hnd hdd)
          have HIB := Lib.hid (hIa.below intE_ok hdd)
          have HZ5 := Lib.hid (show wc.heap.size ≤ wc.drew.heap.size ∧ wc.drew.heap.size ≤ wc.heap.size from ⟨Nat.le_refl _, Nat.le_refl _⟩)
          have HFB := Lib.hid hFF
          obtain ⟨cbd, cbc, rfl, _, _⟩ := id hIa
          have HKS := Lib.hid (show KTn w2.heap.size g (i * 4) (.slice (some ⟨g, 0, none⟩) t1.length cap) (.slice cbd ys.length cbc) wc.drew from ⟨hbt.1, c0, hbt.2.2, by have := HG.out; have := hts.ord; show g < wc.heap.size; omega⟩)
          clear c0 c1 c2 c3 e0 e1 e2 e3 hIa hdd hys hys1 hs1 hd1 hl1 ht1 hzl hFF hnd hbt hts
          go_upto_region 12 with fail
          refine Left.region [15] (S := KTn w2.heap.size g (i * 4) (.slice (some ⟨g, 0, none⟩) t1.length cap) (.slice cbd ys.length cbc)) (by kernel_rfl) HKS.out (fun hS0 => ?_)
          generalize wc.drew = v0 at *
          refine Left.take (i := 0) (v := .pointer (some ⟨w2.heap.size, 0, none⟩)) rfl (by kernel_rfl) (by kernel_rfl) (by kernel_rfl) (by kernel_rfl) (fun _ _ _ h => h) (Or.inl ⟨by rfl, fun z hz => ?_⟩) hS0 ?_
          · obtain ⟨z1, z2, z3, z4⟩ := hz
            go_simp
          try simp only [qA, qB, Act.put, qD, qE, qF]
          refine Left.take (i := 1) (v := .slice (some ⟨g, 0, none⟩) t1.length cap) rfl (by kernel_rfl) (by kernel_rfl) (by kernel_rfl) (by kernel_rfl) (fun _ _ _ h => h) (Or.inl ⟨by rfl, fun z hz => ?_⟩) hS0 ?_
          · obtain ⟨z1, z2, z3, z4⟩ := hz
            go_simp
          try simp only [qA, qB, qC, Act.put, qD, qE, qF]
          refine Left.take (i := 2) (v := .int .i64 i) rfl (by kernel_rfl) (by kernel_rfl) (by kernel_rfl) (by kernel_rfl) (fun _ _ _ h => h) (Or.inl ⟨by rfl, fun z hz => ?_⟩) hS0 ?_
          · obtain ⟨z1, z2, z3, z4⟩ := hz
            go_simp
          try simp only [qA, qB, qC, Act.put, qD, qE, qF]
          refine Left.take (i := 4) (v := .pointer (some ⟨w2.heap.size, 0, none⟩)) rfl (by kernel_rfl) (by kernel_rfl) (by kernel_rfl) (by kernel_rfl) (fun _ _ _ h => h) (Or.inl ⟨by rfl, fun z hz => ?_⟩) hS0 ?_
          · obtain ⟨z1, z2, z3, z4⟩ := hz
            go_simp
          try simp only [qA, qB, qC, Act.put, qD, qE, qF]
          refine Left.take (i := 5) (v := .slice (some ⟨g, 0, none⟩) t1.length cap) rfl (by kernel_rfl) (by kernel_rfl) (by kernel_rfl) (by kernel_rfl) (fun _ _ _ h => h) (Or.inl ⟨by rfl, fun z hz => ?_⟩) hS0 ?_
          · obtain ⟨z1, z2, z3, z4⟩ := hz
            go_simp
          try simp only [qA, qB, qC, Act.put, qD, qE, qF]
          refine Left.take (i := 6) (v := .int .i64 i) rfl (by kernel_rfl) (by kernel_rfl) (by kernel_rfl) (by kernel_rfl) (fun _ _ _ h => h) (Or.inl ⟨by rfl, fun z hz => ?_⟩) hS0 ?_
          · obtain ⟨z1, z2, z3, z4⟩ := hz
            go_simp
          try simp only [qA, qB, qC, Act.put, qD, qE, qF]
          refine Left.take (i := 7) (v := .pointer (some ⟨g, i * 4, none⟩)) rfl (by kernel_rfl) (by kernel_rfl) (by kernel_rfl) (by kernel_rfl) (fun _ _ _ h => h) (Or.inl ⟨by rfl, fun z hz => ?_⟩) hS0 ?_
          · obtain ⟨z1, z2, z3, z4⟩ := hz
            go_simp
          try simp only [qA, qB, qC, Act.put, qD, qE, qF]
          refine Left.take (i := 8) (v := .pointer (some ⟨g, i * 4, none⟩)) rfl (by kernel_rfl) (by kernel_rfl) (by kernel_rfl) (by kernel_rfl) (fun _ _ _ h => h) (Or.inl ⟨by rfl, fun z hz => ?_⟩) hS0 ?_
          · obtain ⟨z1, z2, z3, z4⟩ := hz
            go_simp
          try simp only [qA, qB, qC, Act.put, qD, qE, qF]
          refine Left.take (i := 9) (v := .slice cbd ys.length cbc) rfl (by kernel_rfl) (by kernel_rfl) (by kernel_rfl) (by kernel_rfl) (fun _ _ _ h => h) (Or.inl ⟨by rfl, fun z hz => ?_⟩) hS0 ?_
          · obtain ⟨z1, z2, z3, z4⟩ := hz
            go_simp
          try simp only [qA, qB, qC, Act.put, qD, qE, qF]
          have HBv0 := Lib.hid (Below.refl v0.heap.size v0)
          have ZZv0 := Lib.hid (Nat.le_refl v0.heap.size)
          clear hS0
          refine Left.ready (rs := [3, 11]) (by kernel_rfl) (by simp) ?_
          refine Nexts.cons rfl (fun K hK => ?_) (Nexts.cons rfl (fun K hK => ?_) Nexts.nil)
          · skip
            go_simp
            have hba := (Below.refl v0.heap.size v0).alloc (Nat.le_refl _) (.cells #[] 3)
            have zzn12 : v0.heap.size < (v0.alloc (.cells #[] 3)).heap.size := by simp
            have ZZn12 := Lib.hid zzn12; clear zzn12
            have OWNn12 := Lib.hid (World.ownsRow_lit (base := v0.heap.size) (e := 3) (size := 1) v0 #[] 0 HBv0.out.size (Nat.zero_le _) (by simp))
            have HBn12 := Lib.hid (HBv0.out.trans (hba.mono HBv0.out.size))
            refine on_held hK (by decide) (HKS.out.below HBn12.out) (fun hSn12 => ?_)
            clear hK K hba
            generalize v0.alloc (.cells #[] 3) = n12 at *
            try simp only [qA, qB, qC, Act.put, qD, qE, qF]
            refine Left.ready (rs := [10, 11]) (by kernel_rfl) (by simp) ?_
            refine Nexts.cons rfl (fun K hK => ?_) (Nexts.cons rfl (fun K hK => ?_) Nexts.nil)
            · skip
              refine step_append_src rfl _ _ 27 rfl v0.heap.size 3 j0 (.int .i64 0) 1 8 Tryz.underlying27 hj hy0 hy1 hy2 rfl (by decide) (.slice (some ⟨v0.heap.size, 0, none⟩) 0 0) 0 [] rfl OWNn12.out (.slice cbd ys.length cbc) ys.length (ints ys) rfl (src_of_ints ((Ints.read HIB.out).below HBn12.out)) (by have := HYL.out; unfold maxLen; omega) (by have := HYL.out; omega) HBn12.out.size ?_
              intro cv n13 hown hgr
              have HBn13 := Lib.hid (HBn12.out.grown hgr HBn12.out.size (fun k hk => (World.ownsRow.lt OWNn12.out k hk).1))
              have ZZn13 := Lib.hid (show n12.heap.size ≤ n13.heap.size from hgr.size)
              rw [Nat.zero_add, List.nil_append] at hown
              obtain ⟨cd, cc, rfl⟩ := own_form hown
              have CPn13 := Lib.hid hown
              refine on_held hK (by decide) (HKS.out.below HBn13.out) (fun hSn13 => ?_)
              clear hK K hown hgr
              try simp only [qA, qB, qC, Act.put, qD, qE, qF]
              refine Left.ready (rs := [11]) (by kernel_rfl) (by simp) ?_
              refine Nexts.cons rfl (fun K hK => ?_) Nexts.nil
              go_simp
              have hba := (Below.refl n13.heap.size n13).alloc (Nat.le_refl _) (.cells #[.int .i64 4194304] 3)
              have zzn14 : n13.heap.size < (n13.alloc (.cells #[.int .i64 4194304] 3)).heap.size := by simp
              have ZZn14 := Lib.hid zzn14; clear zzn14
              have LITn14 := Lib.hid (fun j h => lit_ints [4194304] n13 3 j h)
              have HBn14 := Lib.hid (HBn13.out.trans (hba.mono HBn13.out.size))
              have CPn14 := Lib.hid (owns_st CPn13.out (Below.chg hba fun _ => False) (fun _ _ h => h))
              refine on_held hK (by decide) (HKS.out.below HBn14.out) (fun hSn14 => ?_)
              clear hK K hba
              simp only [List.map_cons, List.map_nil] at LITn14
              generalize n13.alloc (.cells #[.int .i64 4194304] 3) = n14 at *
              try simp only [qA, qB, qC, Act.put, qD, qE, qF]
              have STR := Lib.hid (show n14.cell? ⟨n13.heap.size, 0, none⟩ = some (.int .i64 4194304) from LITn14.out 0 (by decide))
              have HSc := Lib.hid (HS6.out.below hlt HBn14.out); have HBc := Lib.hid (HBT6.out.below HBn14.out); have HRc := Lib.hid (HR6.out.below nodE_ok HBn14.out)
              have CPc := Lib.hid CPn14.out
              have HKc := Lib.hid (HKS.out.below HBn14.out)
              have HZc := Lib.hid HBn14.out.size
              obtain ⟨s, hs⟩ : ∃ s : Int, s = 4194304 := ⟨_, rfl⟩
              refine Left.ready (rs := [12]) (by kernel_rfl) (by simp) ?_
              refine Nexts.cons rfl (fun K hK => ?_) Nexts.nil
              refine step_append_lies _ rfl _ _ 27 rfl v0.heap.size 3 j0 (.int .i64 0) 1 8 Tryz.underlying27 hj hy0 hy1 hy2 rfl (by decide) (.slice cd ys.length cc) ys.length (ints ys) rfl CPc.out ⟨n13.heap.size, 0, none⟩ 1 1 [.int .i64 4194304] rfl rfl ?_ ?_ (by decide) (by have := HYL.out; unfold maxLen; omega) (by have := HYL.out; omega) HZc.out _ rfl ?_
              · intro k y hy
                match k, hy with
                | 0, hy => injection hy with hy; subst hy; rw [add0]; exact STR.out
              · intro y hy
                simp only [List.mem_cons, List.not_mem_nil, or_false] at hy
                subst hy; rfl
              intro g3 cap3 z hown hgr hat hlt3
              have hCP := fun k hk => (World.ownsRow.lt CPc.out k hk).1
              have hch := chg_grown hgr
              have HIZ := Lib.hid hch.size
              have hTz := HSc.out.ord
              have HSz := Lib.hid (HSc.out.step (K' := N + 1010) hlt hch (fun b e => by have := hCP b e; have := HS6.out.ord; omega) (by omega))
              have HBz := Lib.hid (HBc.out.stand hch (fun e => by have := hCP _ e; have := HS6.out.ord; omega))
              have HRz := Lib.hid (HRc.out.stand nodE_ok hch (fun b hb e => by have := hCP b e; have := HFB.out b hb; have := HZ5.out; omega))
              have HKz := Lib.hid (HKc.out.chg hch (fun e => by have := hCP _ e; have := HS6.out.ord; omega) (fun e => by have := hCP _ e; have := HG.out; have := HS6.out.ord; omega))
              have HIz := Lib.hid (show Ints z (Bet v0.heap.size z.heap.size) (.slice (some ⟨g3, 0, none⟩) (ys.length + 1) cap3) (ys ++ [4194304]) from by
                have h := ints_of_owns (B := v0.heap.size) (l := ys ++ [4194304]) (u := .slice (some ⟨g3, 0, none⟩) (ys.length + 1) cap3) (v := z) (by rw [List.length_append, show ints (ys ++ [4194304]) = ints ys ++ [.int .i64 4194304] by simp]; exact hown) (by have := HYL.out; simp; omega)
                simpa using h)
              refine on_held hK (by decide) HKz.out (fun hSz => ?_)
              clear hK K hown hgr hat hch hCP hTz
              obtain ⟨ca2, cb2, G1, G2, ⟨⟨q0, q1, q2, q3⟩, p0, p1', p2, p3⟩, _, _, _, _⟩ := Nods.cells HRz.out hit1
              clear q2 q3 p2 p3
              try simp only [qA, qB, qC, Act.put, qD, qE, qF]
              refine Left.take (i := 13) (v := .pointer (some ⟨g, i * 4, none⟩)) rfl (by kernel_rfl) (by kernel_rfl) (by kernel_rfl) (by kernel_rfl) (fun _ _ _ h => h) (Or.inl ⟨by rfl, fun z hz => ?_⟩) hSz ?_
              · obtain ⟨z1, z2, z3, z4⟩ := hz
                go_simp
              try simp only [qA, qB, qC, Act.put, qD, qE, qF]
              refine Left.take (i := 14) (v := .pointer (some ⟨g, i * 4, none⟩)) rfl (by kernel_rfl) (by kernel_rfl) (by kernel_rfl) (by kernel_rfl) (fun _ _ _ h => h) (Or.inl ⟨by rfl, fun z hz => ?_⟩) hSz ?_
              · obtain ⟨z1, z2, z3, z4⟩ := hz
                go_simp
              try simp only [qA, qB, qC, Act.put, qD, qE, qF]
              refine Left.ready (rs := [15]) (by kernel_rfl) (by simp) ?_
              refine Nexts.cons rfl (fun K hK => ?_) Nexts.nil
              go_simp
              refine on_last hK (by decide) ?_
              clear hK K
              try simp only [qA, qB, qC, Act.put, qD, qE, qF]
              refine Left.done (by kernel_rfl) ?_ _
              go_wp2_with fail
              go_meet
              have hset : Chg (fun b => b = g) z (z.setCell ⟨g, i * 4, none⟩ (.slice (some ⟨g3, 0, none⟩) (ys.length + 1) cap3)) := (Chg.refl (fun b => b = g) z).setCell (p := ⟨g, i * 4, none⟩) rfl _
              have hzs : (z.setCell ⟨g, i * 4, none⟩ (.slice (some ⟨g3, 0, none⟩) (ys.length + 1) cap3)).heap.size = z.heap.size := by simp [World.setCell]
              have hzz : v0.heap.size ≤ z.heap.size := Nat.le_trans HZc.out HIZ.out
              have hr := Nods.strs (X := Bet v0.heap.size z.heap.size) HRz.out hit1 HIz.out (fun b hb => ⟨fun h => by have := HFB.out b h; have := HZ5.out; have := hb.1; omega, hb.2⟩) (fun h => by have := h.1; have := HG.out; have := HS6.out.ord; omega)
              refine ⟨_, _, ?_, Nods.readT hr (fun b hb => ?_) (Nat.le_refl _), ⟨_, _, rfl⟩, by rw [List.length_set]; exact HBz.out.stand hset (by have := HG.out; omega), (HSz.out.step (K' := N + 1010) hlt hset (fun b e => by have := HG.out; omega) (Nat.le_refl _)).mono (by omega)⟩
              · exact P.DrawnT.set HD1.out (by have := HYL.out; simp; omega) (HD1.out.chi (t1[i]'hit1) (List.getElem_mem hit1)) (HD1.out.txt (t1[i]'hit1) (List.getElem_mem hit1))
              · rw [hzs]
                rcases hb with hb | hb
                · have := HFB.out b hb; have := HZ5.out
                  exact ⟨by omega, by omega⟩
                · exact ⟨by have := hb.1; have := HS6.out.ord; have := HG.out; omega, hb.2⟩
            · skip
              go_simp
              have hba := (Below.refl n12.heap.size n12).alloc (Nat.le_refl _) (.cells #[.int .i64 4194304] 3)
              have zzn15 : n12.heap.size < (n12.alloc (.cells #[.int .i64 4194304] 3)).heap.size := by simp
              have ZZn15 := Lib.hid zzn15; clear zzn15
              have LITn15 := Lib.hid (fun j h => lit_ints [4194304] n12 3 j h)
              have HBn15 := Lib.hid (HBn12.out.trans (hba.mono HBn12.out.size))
              have OWNn15 := Lib.hid (owns_st OWNn12.out (Below.chg hba fun _ => False) (fun _ _ h => h))
              refine on_held hK (by decide) (HKS.out.below HBn15.out) (fun hSn15 => ?_)
              clear hK K hba
              simp only [List.map_cons, List.map_nil] at LITn15
              generalize n12.alloc (.cells #[.int .i64 4194304] 3) = n15 at *
              try simp only [qA, qB, qC, Act.put, qD, qE, qF]
              refine Left.ready (rs := [10]) (by kernel_rfl) (by simp) ?_
              refine Nexts.cons rfl (fun K hK => ?_) Nexts.nil
              refine step_append_src rfl _ _ 27 rfl v0.heap.size 3 j0 (.int .i64 0) 1 8 Tryz.underlying27 hj hy0 hy1 hy2 rfl (by decide) (.slice (some ⟨v0.heap.size, 0, none⟩) 0 0) 0 [] rfl OWNn15.out (.slice cbd ys.length cbc) ys.length (ints ys) rfl (src_of_ints ((Ints.read HIB.out).below HBn15.out)) (by have := HYL.out; unfold maxLen; omega) (by have := HYL.out; omega) HBn15.out.size ?_
              intro cv n16 hown hgr
              have HBn16 := Lib.hid (HBn15.out.grown hgr HBn15.out.size (fun k hk => (World.ownsRow.lt OWNn15.out k hk).1))
              have ZZn16 := Lib.hid (show n15.heap.size ≤ n16.heap.size from hgr.size)
              rw [Nat.zero_add, List.nil_append] at hown
              have LITn16 := Lib.hid (fun j (h : j < 1) => ((chg_grown hgr).cell (p := ⟨n12.heap.size, j, none⟩) (by have := ZZn15.out; show n12.heap.size < n15.heap.size; omega) (fun e => by have e2 : v0.heap.size = n12.heap.size := by { simpa [Value.ownBlock] using e }; have := ZZn12.out; omega)).trans (LITn15.out j h))
              obtain ⟨cd, cc, rfl⟩ := own_form hown
              have CPn16 := Lib.hid hown
              refine on_held hK (by decide) (HKS.out.below HBn16.out) (fun hSn16 => ?_)
              clear hK K hown hgr
              try simp only [qA, qB, qC, Act.put, qD, qE, qF]
              have STR := Lib.hid (show n16.cell? ⟨n12.heap.size, 0, none⟩ = some (.int .i64 4194304) from LITn16.out 0 (by decide))
              have HSc := Lib.hid (HS6.out.below hlt HBn16.out); have HBc := Lib.hid (HBT6.out.below HBn16.out); have HRc := Lib.hid (HR6.out.below nodE_ok HBn16.out)
              have CPc := Lib.hid CPn16.out
              have HKc := Lib.hid (HKS.out.below HBn16.out)
              have HZc := Lib.hid HBn16.out.size
              obtain ⟨s, hs⟩ : ∃ s : Int, s = 4194304 := ⟨_, rfl⟩
              refine Left.ready (rs := [12]) (by kernel_rfl) (by simp) ?_
              refine Nexts.cons rfl (fun K hK => ?_) Nexts.nil
              refine step_append_lies _ rfl _ _ 27 rfl v0.heap.size 3 j0 (.int .i64 0) 1 8 Tryz.underlying27 hj hy0 hy1 hy2 rfl (by decide) (.slice cd ys.length cc) ys.length (ints ys) rfl CPc.out ⟨n12.heap.size, 0, none⟩ 1 1 [.int .i64 4194304] rfl rfl ?_ ?_ (by decide) (by have := HYL.out; unfold maxLen; omega) (by have := HYL.out; omega) HZc.out _ rfl ?_
              · intro k y hy
                match k, hy with
                | 0, hy => injection hy with hy; subst hy; rw [add0]; exact STR.out
              · intro y hy
                simp only [List.mem_cons, List.not_mem_nil, or_false] at hy
                subst hy; rfl
              intro g3 cap3 z hown hgr hat hlt3
              have hCP := fun k hk => (World.ownsRow.lt CPc.out k hk).1
              have hch := chg_grown hgr
              have HIZ := Lib.hid hch.size
              have hTz := HSc.out.ord
              have HSz := Lib.hid (HSc.out.step (K' := N + 1010) hlt hch (fun b e => by have := hCP b e; have := HS6.out.ord; omega) (by omega))
              have HBz := Lib.hid (HBc.out.stand hch (fun e => by have := hCP _ e; have := HS6.out.ord; omega))
              have HRz := Lib.hid (HRc.out.stand nodE_ok hch (fun b hb e => by have := hCP b e; have := HFB.out b hb; have := HZ5.out; omega))
              have HKz := Lib.hid (HKc.out.chg hch (fun e => by have := hCP _ e; have := HS6.out.ord; omega) (fun e => by have := hCP _ e; have := HG.out; have := HS6.out.ord; omega))
              have HIz := Lib.hid (show Ints z (Bet v0.heap.size z.heap.size) (.slice (some ⟨g3, 0, none⟩) (ys.length + 1) cap3) (ys ++ [4194304]) from by
                have h := ints_of_owns (B := v0.heap.size) (l := ys ++ [4194304]) (u := .slice (some ⟨g3, 0, none⟩) (ys.length + 1) cap3) (v := z) (by rw [List.length_append, show ints (ys ++ [4194304]) = ints ys ++ [.int .i64 4194304] by simp]; exact hown) (by have := HYL.out; simp; omega)
                simpa using h)
              refine on_held hK (by decide) HKz.out (fun hSz => ?_)
              clear hK K hown hgr hat hch hCP hTz
              obtain ⟨ca2, cb2, G1, G2, ⟨⟨q0, q1, q2, q3⟩, p0, p1', p2, p3⟩, _, _, _, _⟩ := Nods.cells HRz.out hit1
              clear q2 q3 p2 p3
              try simp only [qA, qB, qC, Act.put, qD, qE, qF]
              refine Left.take (i := 13) (v := .pointer (some ⟨g, i * 4, none⟩)) rfl (by kernel_rfl) (by kernel_rfl) (by kernel_rfl) (by kernel_rfl) (fun _ _ _ h => h) (Or.inl ⟨by rfl, fun z hz => ?_⟩) hSz ?_
              · obtain ⟨z1, z2, z3, z4⟩ := hz
                go_simp
              try simp only [qA, qB, qC, Act.put, qD, qE, qF]
              refine Left.take (i := 14) (v := .pointer (some ⟨g, i * 4, none⟩)) rfl (by kernel_rfl) (by kernel_rfl) (by kernel_rfl) (by kernel_rfl) (fun _ _ _ h => h) (Or.inl ⟨by rfl, fun z hz => ?_⟩) hSz ?_
              · obtain ⟨z1, z2, z3, z4⟩ := hz
                go_simp
              try simp only [qA, qB, qC, Act.put, qD, qE, qF]
              refine Left.ready (rs := [15]) (by kernel_rfl) (by simp) ?_
              refine Nexts.cons rfl (fun K hK => ?_) Nexts.nil
              go_simp
              refine on_last hK (by decide) ?_
              clear hK K
              try simp only [qA, qB, qC, Act.put, qD, qE, qF]
              refine Left.done (by kernel_rfl) ?_ _
              go_wp2_with fail
              go_meet
              have hset : Chg (fun b => b = g) z (z.setCell ⟨g, i * 4, none⟩ (.slice (some ⟨g3, 0, none⟩) (ys.length + 1) cap3)) := (Chg.refl (fun b => b = g) z).setCell (p := ⟨g, i * 4, none⟩) rfl _
              have hzs : (z.setCell ⟨g, i * 4, none⟩ (.slice (some ⟨g3, 0, none⟩) (ys.length + 1) cap3)).heap.size = z.heap.size := by simp [World.setCell]
              have hzz : v0.heap.size ≤ z.heap.size := Nat.le_trans HZc.out HIZ.out
              have hr := Nods.strs (X := Bet v0.heap.size z.heap.size) HRz.out hit1 HIz.out (fun b hb => ⟨fun h => by have := HFB.out b h; have := HZ5.out; have := hb.1; omega, hb.2⟩) (fun h => by have := h.1; have := HG.out; have := HS6.out.ord; omega)
              refine ⟨_, _, ?_, Nods.readT hr (fun b hb => ?_) (Nat.le_refl _), ⟨_, _, rfl⟩, by rw [List.length_set]; exact HBz.out.stand hset (by have := HG.out; omega), (HSz.out.step (K' := N + 1010) hlt hset (fun b e => by have := HG.out; omega) (Nat.le_refl _)).mono (by omega)⟩
              · exact P.DrawnT.set HD1.out (by have := HYL.out; simp; omega) (HD1.out.chi (t1[i]'hit1) (List.getElem_mem hit1)) (HD1.out.txt (t1[i]'hit1) (List.getElem_mem hit1))
              · rw [hzs]
                rcases hb with hb | hb
                · have := HFB.out b hb; have := HZ5.out
                  exact ⟨by omega, by omega⟩
                · exact ⟨by have := hb.1; have := HS6.out.ord; have := HG.out; omega, hb.2⟩
          · skip
            go_simp
            have hba := (Below.refl v0.heap.size v0).alloc (Nat.le_refl _) (.cells #[.int .i64 4194304] 3)
            have zzn17 : v0.heap.size < (v0.alloc (.cells #[.int .i64 4194304] 3)).heap.size := by simp
            have ZZn17 := Lib.hid zzn17; clear zzn17
            have LITn17 := Lib.hid (fun j h => lit_ints [4194304] v0 3 j h)
            have HBn17 := Lib.hid (HBv0.out.trans (hba.mono HBv0.out.size))
            refine on_held hK (by decide) (HKS.out.below HBn17.out) (fun hSn17 => ?_)
            clear hK K hba
            simp only [List.map_cons, List.map_nil] at LITn17
            generalize v0.alloc (.cells #[.int .i64 4194304] 3) = n17 at *
            try simp only [qA, qB, qC, Act.put, qD, qE, qF]
            refine Left.ready (rs := [3]) (by kernel_rfl) (by simp) ?_
            refine Nexts.cons rfl (fun K hK => ?_) Nexts.nil
            go_simp
            have hba := (Below.refl n17.heap.size n17).alloc (Nat.le_refl _) (.cells #[] 3)
            have zzn18 : n17.heap.size < (n17.alloc (.cells #[] 3)).heap.size := by simp
            have ZZn18 := Lib.hid zzn18; clear zzn18
            have OWNn18 := Lib.hid (World.ownsRow_lit (base := v0.heap.size) (e := 3) (size := 1) n17 #[] 0 HBn17.out.size (Nat.zero_le _) (by simp))
            have HBn18 := Lib.hid (HBn17.out.trans (hba.mono HBn17.out.size))
            have LITn18 := Lib.hid (fun j (h : j < 1) => (hba.cell (p := ⟨v0.heap.size, j, none⟩) (by have := ZZn17.out; show v0.heap.size < n17.heap.size; omega)).trans (LITn17.out j h))
            refine on_held hK (by decide) (HKS.out.below HBn18.out) (fun hSn18 => ?_)
            clear hK K hba
            generalize n17.alloc (.cells #[] 3) = n18 at *
            try simp only [qA, qB, qC, Act.put, qD, qE, qF]
            refine Left.ready (rs := [10]) (by kernel_rfl) (by simp) ?_
            refine Nexts.cons rfl (fun K hK => ?_) Nexts.nil
            refine step_append_src rfl _ _ 27 rfl v0.heap.size 3 j0 (.int .i64 0) 1 8 Tryz.underlying27 hj hy0 hy1 hy2 rfl (by decide) (.slice (some ⟨n17.heap.size, 0, none⟩) 0 0) 0 [] rfl OWNn18.out (.slice cbd ys.length cbc) ys.length (ints ys) rfl (src_of_ints ((Ints.read HIB.out).below HBn18.out)) (by have := HYL.out; unfold maxLen; omega) (by have := HYL.out; omega) HBn18.out.size ?_
            intro cv n19 hown hgr
            have HBn19 := Lib.hid (HBn18.out.grown hgr HBn18.out.size (fun k hk => (World.ownsRow.lt OWNn18.out k hk).1))
            have ZZn19 := Lib.hid (show n18.heap.size ≤ n19.heap.size from hgr.size)
            rw [Nat.zero_add, List.nil_append] at hown
            have LITn19 := Lib.hid (fun j (h : j < 1) => ((chg_grown hgr).cell (p := ⟨v0.heap.size, j, none⟩) (by have := ZZn17.out; show v0.heap.size < n18.heap.size; have := ZZn18.out; omega) (fun e => by have e2 : n17.heap.size = v0.heap.size := by { simpa [Value.ownBlock] using e }; have := ZZn17.out; omega)).trans (LITn18.out j h))
            obtain ⟨cd, cc, rfl⟩ := own_form hown
            have CPn19 := Lib.hid hown
            refine on_held hK (by decide) (HKS.out.below HBn19.out) (fun hSn19 => ?_)
            clear hK K hown hgr
            try simp only [qA, qB, qC, Act.put, qD, qE, qF]
            have STR := Lib.hid (show n19.cell? ⟨v0.heap.size, 0, none⟩ = some (.int .i64 4194304) from LITn19.out 0 (by decide))
            have HSc := Lib.hid (HS6.out.below hlt HBn19.out); have HBc := Lib.hid (HBT6.out.below HBn19.out); have HRc := Lib.hid (HR6.out.below nodE_ok HBn19.out)
            have CPc := Lib.hid CPn19.out
            have HKc := Lib.hid (HKS.out.below HBn19.out)
            have HZc := Lib.hid HBn19.out.size
            obtain ⟨s, hs⟩ : ∃ s : Int, s = 4194304 := ⟨_, rfl⟩
            refine Left.ready (rs := [12]) (by kernel_rfl) (by simp) ?_
            refine Nexts.cons rfl (fun K hK => ?_) Nexts.nil
            refine step_append_lies _ rfl _ _ 27 rfl v0.heap.size 3 j0 (.int .i64 0) 1 8 Tryz.underlying27 hj hy0 hy1 hy2 rfl (by decide) (.slice cd ys.length cc) ys.length (ints ys) rfl CPc.out ⟨v0.heap.size, 0, none⟩ 1 1 [.int .i64 4194304] rfl rfl ?_ ?_ (by decide) (by have := HYL.out; unfold maxLen; omega) (by have := HYL.out; omega) HZc.out _ rfl ?_
            · intro k y hy
              match k, hy with
              | 0, hy => injection hy with hy; subst hy; rw [add0]; exact STR.out
            · intro y hy
              simp only [List.mem_cons, List.not_mem_nil, or_false] at hy
              subst hy; rfl
            intro g3 cap3 z hown hgr hat hlt3
            have hCP := fun k hk => (World.ownsRow.lt CPc.out k hk).1
            have hch := chg_grown hgr
            have HIZ := Lib.hid hch.size
            have hTz := HSc.out.ord
            have HSz := Lib.hid (HSc.out.step (K' := N + 1010) hlt hch (fun b e => by have := hCP b e; have := HS6.out.ord; omega) (by omega))
            have HBz := Lib.hid (HBc.out.stand hch (fun e => by have := hCP _ e; have := HS6.out.ord; omega))
            have HRz := Lib.hid (HRc.out.stand nodE_ok hch (fun b hb e => by have := hCP b e; have := HFB.out b hb; have := HZ5.out; omega))
            have HKz := Lib.hid (HKc.out.chg hch (fun e => by have := hCP _ e; have := HS6.out.ord; omega) (fun e => by have := hCP _ e; have := HG.out; have := HS6.out.ord; omega))
            have HIz := Lib.hid (show Ints z (Bet v0.heap.size z.heap.size) (.slice (some ⟨g3, 0, none⟩) (ys.length + 1) cap3) (ys ++ [4194304]) from by
              have h := ints_of_owns (B := v0.heap.size) (l := ys ++ [4194304]) (u := .slice (some ⟨g3, 0, none⟩) (ys.length + 1) cap3) (v := z) (by rw [List.length_append, show ints (ys ++ [4194304]) = ints ys ++ [.int .i64 4194304] by simp]; exact hown) (by have := HYL.out; simp; omega)
              simpa using h)
            refine on_held hK (by decide) HKz.out (fun hSz => ?_)
            clear hK K hown hgr hat hch hCP hTz
            obtain ⟨ca2, cb2, G1, G2, ⟨⟨q0, q1, q2, q3⟩, p0, p1', p2, p3⟩, _, _, _, _⟩ := Nods.cells HRz.out hit1
            clear q2 q3 p2 p3
            try simp only [qA, qB, qC, Act.put, qD, qE, qF]
            refine Left.take (i := 13) (v := .pointer (some ⟨g, i * 4, none⟩)) rfl (by kernel_rfl) (by kernel_rfl) (by kernel_rfl) (by kernel_rfl) (fun _ _ _ h => h) (Or.inl ⟨by rfl, fun z hz => ?_⟩) hSz ?_
            · obtain ⟨z1, z2, z3, z4⟩ := hz
              go_simp
            try simp only [qA, qB, qC, Act.put, qD, qE, qF]
            refine Left.take (i := 14) (v := .pointer (some ⟨g, i * 4, none⟩)) rfl (by kernel_rfl) (by kernel_rfl) (by kernel_rfl) (by kernel_rfl) (fun _ _ _ h => h) (Or.inl ⟨by rfl, fun z hz => ?_⟩) hSz ?_
            · obtain ⟨z1, z2, z3, z4⟩ := hz
              go_simp
            try simp only [qA, qB, qC, Act.put, qD, qE, qF]
            refine Left.ready (rs := [15]) (by kernel_rfl) (by simp) ?_
            refine Nexts.cons rfl (fun K hK => ?_) Nexts.nil
            go_simp
            refine on_last hK (by decide) ?_
            clear hK K
            try simp only [qA, qB, qC, Act.put, qD, qE, qF]
            refine Left.done (by kernel_rfl) ?_ _
            go_wp2_with fail
            go_meet
            have hset : Chg (fun b => b = g) z (z.setCell ⟨g, i * 4, none⟩ (.slice (some ⟨g3, 0, none⟩) (ys.length + 1) cap3)) := (Chg.refl (fun b => b = g) z).setCell (p := ⟨g, i * 4, none⟩) rfl _
            have hzs : (z.setCell ⟨g, i * 4, none⟩ (.slice (some ⟨g3, 0, none⟩) (ys.length + 1) cap3)).heap.size = z.heap.size := by simp [World.setCell]
            have hzz : v0.heap.size ≤ z.heap.size := Nat.le_trans HZc.out HIZ.out
            have hr := Nods.strs (X := Bet v0.heap.size z.heap.size) HRz.out hit1 HIz.out (fun b hb => ⟨fun h => by have := HFB.out b h; have := HZ5.out; have := hb.1; omega, hb.2⟩) (fun h => by have := h.1; have := HG.out; have := HS6.out.ord; omega)
            refine ⟨_, _, ?_, Nods.readT hr (fun b hb => ?_) (Nat.le_refl _), ⟨_, _, rfl⟩, by rw [List.length_set]; exact HBz.out.stand hset (by have := HG.out; omega), (HSz.out.step (K' := N + 1010) hlt hset (fun b e => by have := HG.out; omega) (Nat.le_refl _)).mono (by omega)⟩
            · exact P.DrawnT.set HD1.out (by have := HYL.out; simp; omega) (HD1.out.chi (t1[i]'hit1) (List.getElem_mem hit1)) (HD1.out.txt (t1[i]'hit1) (List.getElem_mem hit1))
            · rw [hzs]
              rcases hb with hb | hb
              · have := HFB.out b hb; have := HZ5.out
                exact ⟨by omega, by omega⟩
              · exact ⟨by have := hb.1; have := HS6.out.ord; have := HG.out; omega, hb.2⟩
        -- case 2 ends
      have h2' : ¬ (x : Int) = 2 := by omega
      by_cases h3 : x = 3
      · subst h3
        obtain ⟨b0, f0, z0⟩ := HBT5.out
        have hba := (Below.refl w5.heap.size w5).alloc (Nat.le_refl _) (.cells #[.slice none 0 0, .slice none 0 0, .bool false, .string (S [])] 162)
        have HA6 := Lib.hid (HACC5.out.keep nodE_ok hba); have HBA := Lib.hid hba
        clear hba
        go_wp2_with (at_builtin; refine wpList_append_lies _ rfl _ _ 84 rfl (w1.heap.size + 4) 162 i0 (.agg #[.slice none 0 0, .slice none 0 0, .bool false, .string ⟨#[]⟩]) 4 72 Tryz.underlying84 hi hz0' hz1 hz2' rfl (by decide) (.slice (some ⟨g, 0, none⟩) t.length cap) t.length (flat C' t.length) rfl HA6.out.owns ⟨w5.heap.size, 0, none⟩ 1 1 [.slice none 0 0, .slice none 0 0, .bool false, .string (S [])] rfl rfl ?_ ?_ (Nat.zero_lt_one) ?_ ?_ ?_ _ rfl ?_)
        · intro i2 y hy
          match i2, hy with
          | 0, hy => injection hy with hy; subst hy; rw [add0]; go_simp
          | 1, hy => injection hy with hy; subst hy; rw [add0]; go_simp
          | 2, hy => injection hy with hy; subst hy; rw [add0]; go_simp
          | 3, hy => injection hy with hy; subst hy; rw [add0]; go_simp
        · intro y hy
          simp only [List.mem_cons, List.not_mem_nil, or_false] at hy
          rcases hy with rfl | rfl | rfl | rfl <;> rfl
        · unfold maxLen; have := HTT.out.2.1; omega
        · have := HTT.out.2.1; omega
        · have := HACC5.out.base; simp; omega
        intro g1 cap1 v3 hown hgr hat hlt3
        have hat := hat.imp id fun h => h.trans (show _ = (w5.alloc (.cells #[.slice none 0 0, .slice none 0 0, .bool false, .string (S [])] 162)).heap.size by simp)
        have hch := chg_grown hgr
        have hown2 : ∀ b, (Value.slice (some ⟨g, 0, none⟩) t.length cap).ownBlock = some b → g = b := fun b e => by simpa [Value.ownBlock] using e
        have hac := AccY.snoc nodE_ok HA6.out (a := P.nd0) ⟨.slice none 0 0, .slice none 0 0, fun _ => False, fun _ => False, rfl, RowO.nil _ _, RowO.nil _ _, fun _ h => h, fun _ h => h, fun _ h _ => h⟩ rfl hown hgr hat
        have hT3 := (HBT5.out.below HBA.out).stand hch (fun e => by have := hown2 _ e; have := HG.out; omega)
        have hs3 := (HS5.out.below hlt HBA.out).step (K' := N + 1006) hlt hch (fun b e => by have := hown2 _ e; have := HG.out; omega) (by omega)
        have hset : Chg (fun b => b = w2.heap.size) v3 (v3.setCell ⟨w2.heap.size, 0, none⟩ (.slice (some ⟨g1, 0, none⟩) (t.length + 1) cap1)) := (Chg.refl (fun b => b = w2.heap.size) v3).setCell (p := ⟨w2.heap.size, 0, none⟩) rfl _
        have hg1 : g1 ≠ w2.heap.size := by
          rcases hat with h | h
          · have := hown2 _ h; have := HG.out; omega
          · simp at h; omega
        have hG : ∀ j, j < t.length → ¬ G j w2.heap.size := fun j hj hg => by
          rcases HLT.out w2.heap.size with h | h
          · omega
          · exact h (.inr ⟨j, hj, hg⟩)
        have HAC := Lib.hid (hac.stand nodE_ok hset (fun b e => ⟨fun h => hg1 (by have h2 : g1 = b := by { simpa [Value.ownBlock] using h }; omega), fun j _ hj => by subst e; exact hG j hj.1 hj.2⟩))
        have HS6 := Lib.hid (hs3.step (K' := N + 1006) hlt hset (fun b e => by have := hs3.ord.2.1; omega) (Nat.le_refl _))
        have HBT6 := Lib.hid (hT3.put (u' := .slice (some ⟨g1, 0, none⟩) (t.length + 1) cap1))
        obtain ⟨k0, k1, k2⟩ := hT3
        clear hown hgr hat hch hown2 hac hs3 hset hg1 hG HA6 HBA HS5 HBT5 HACC5 HROW b0 f0 z0
        go_wp2
        go_meet
        refine ⟨t ++ [P.nd0], _, ⟨?_, ?_, ?_, ?_⟩, ?_, ⟨_, _, by rw [List.length_append]; rfl⟩, HBT6.out, HS6.out.mono (by omega)⟩
        · rw [List.length_append]; have := HTT.out.2.1; simp; omega
        · intro n hn
          rcases List.mem_append.1 hn with hn | hn
          · have := (HTT.out.2.2 n hn).1; omega
          · simp at hn; subst hn; simp [P.nd0]
        · intro n hn
          rcases List.mem_append.1 hn with hn | hn
          · have := (HTT.out.2.2 n hn).2.1; omega
          · simp at hn; subst hn; simp [P.nd0]
        · intro n hn
          rcases List.mem_append.1 hn with hn | hn
          · exact (HTT.out.2.2 n hn).2.2
          · simp at hn; subst hn; simp [P.nd0]
        · have h := HAC.out.row (by rw [List.length_append]; have := HTT.out.2.1; simp; omega)
          exact Nods.readT h (fun b hb => ⟨by have := hb.1; omega, hb.2⟩) (Nat.le_refl _)
      have h3' : ¬ (x : Int) = 3 := by omega
      have h4 : x = 4 := by omega
      subst h4
      obtain ⟨b0, f0, z0⟩ := HBT5.out
      have p2 : i ≤ cap := by
        obtain ⟨ad, cap', he, _, hn, _⟩ := HROW.out
        injection he with e1 e2 e3
        have := hn.2; omega
      have hset : Chg (fun b => b = w2.heap.size) w5 (w5.setCell ⟨w2.heap.size, 0, none⟩ (.slice (some ⟨g, 0, none⟩) i cap)) := (Chg.refl (fun b => b = w2.heap.size) w5).setCell (p := ⟨w2.heap.size, 0, none⟩) rfl _
      have HS6 := Lib.hid (HS5.out.step (K' := N + 1006) hlt hset (fun b e => by have := HS5.out.ord.2.1; omega) (Nat.le_refl _))
      have HBT6 := Lib.hid (HBT5.out.put (u' := .slice (some ⟨g, 0, none⟩) i cap))
      have hG : ∀ j, j < t.length → ¬ G j w2.heap.size := fun j hj hg => by
        rcases HLT.out w2.heap.size with h | h
        · omega
        · exact h (.inr ⟨j, hj, hg⟩)
      have HAC := Lib.hid (HACC5.out.stand nodE_ok hset (fun b e => ⟨fun h => by have h2 : g = b := by { simpa [Value.ownBlock] using h }; have := HG.out; omega, fun j hj hg => by subst e; exact hG j hj hg⟩))
      clear hset hG HS5 HBT5 HACC5 HROW
      go_wp2
      go_meet
      have htl : (t.take i).length = i := by rw [List.length_take]; omega
      refine ⟨t.take i, _, ⟨by rw [htl]; have := HTT.out.2.1; omega, fun n hn => by have := (HTT.out.2.2 n (List.mem_of_mem_take hn)).1; omega, fun n hn => by have := (HTT.out.2.2 n (List.mem_of_mem_take hn)).2.1; omega, fun n hn => (HTT.out.2.2 n (List.mem_of_mem_take hn)).2.2⟩, ?_, ⟨_, _, by rw [htl]⟩, HBT6.out, HS6.out.mono (by omega)⟩
      have h := Nods.readT (lo := w1.heap.size + 1) (HAC.out.row (by have := HTT.out.2.1; omega)) (fun b hb => ⟨by have := hb.1; omega, hb.2⟩) (Nat.le_refl _)
      exact ⟨h.1, fun v' hk => (h.2 v' hk).take (by omega)⟩
  case rest =>
    clear HS3 HBT3 HACC3
    obtain ⟨t', u, hdt, hrt, ⟨ua, uc, rfl⟩, hbt, hs⟩ := hcut
    have HDT := Lib.hid hdt; have HRT := Lib.hid hrt; have HS4 := Lib.hid hs
    obtain ⟨k0, k1, k2⟩ := hs.bw
    obtain ⟨k3, k4, k5⟩ := hs.bd
    obtain ⟨k6, k7, k8⟩ := hs.bD
    obtain ⟨k9, k10, k11⟩ := hbt
    clear hdt hrt hs
    go_wp2
    go_region
    have hset : Chg (fun b => b = w.heap.size ∨ b = w.heap.size + 1) wc ((wc.setCell ⟨w.heap.size, 0, none⟩ (.slice ua t'.length uc)).setCell ⟨w.heap.size + 1, 0, none⟩ (.slice uda l.length udc)) := ((Chg.refl _ wc).setCell (p := ⟨w.heap.size, 0, none⟩) (.inl rfl) _).setCell (p := ⟨w.heap.size + 1, 0, none⟩) (.inr rfl) _
    go_wp2
    refine bodyPost_ret (v := .tuple #[.agg #[.slice ua t'.length uc], .agg #[.slice uda l.length udc]]) (by simp [results, Tryz.results114, go_sem, k0, k3]) rfl ⟨t', _, l, _, rfl, HDT.out, HDR.out, ?_, ?_, ?_⟩
    · refine (HRT.out.chg hset (fun b h1 _ e => by have := HS4.out.ord.1; omega)).drew.wide (by have := HS4.out.ord.1; omega) (by simp [World.setCell, World.drew]) (Nat.le_refl _)
    · refine (HS4.out.dic.chg hset (fun b h1 _ e => by omega)).drew.wide (by omega) (by have := HS4.out.ord.2; simp [World.setCell, World.drew]; omega) (Nat.le_refl _)
    · exact (HS4.out.cur.new hset (fun b e => by omega) hlt.2 (by omega)).drew
end Go.Proofs.YtkjidjomlpnnlaaGreatDoor
