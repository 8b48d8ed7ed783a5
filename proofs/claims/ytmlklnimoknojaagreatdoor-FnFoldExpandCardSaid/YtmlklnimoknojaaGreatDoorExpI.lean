/- Walks: a dictionary with entries for all folded outlines (program). -/
import Derived.Deep.DeepCutAuto
import Derived.Deep.RegionHeld
import Derived.Test.YtmlklnimoknojaaGreatDoorExpS
import Derived.Test.YtmlklnimoknojaaGreatDoorDicOwn
import Derived.Test.YtmlklnimoknojaaGreatDoorCurE4
import Derived.Test.YtmlklnimoknojaaGreatDoorSortH
namespace Go.Proofs.YtmlklnimoknojaaGreatDoor
namespace P
theorem foI_none {d : Dic} {l : Folds} {o : List Int} {f : Fold} {out : Dic} (h : cand d l o f = none) : foI d l o out f = out := by unfold foI; rw [h]
theorem foI_old {d : Dic} {l : Folds} {o q : List Int} {f : Fold} {out : Dic} (h : into f.1 o = some q) (hh : hasE q out = true) : foI d l o out f = out := by
  unfold foI
  cases hc : cand d l o f with
  | none => rfl
  | some x =>
    rw [cand_some h] at hc
    split at hc
    · injection hc with hc
      subst hc
      simp only
      rw [if_pos hh]
    · cases hc
theorem foI_new {d : Dic} {l : Folds} {o q : List Int} {f : Fold} {out : Dic} {t : Bs} (h : cand d l o f = some (q, t)) (hh : hasE q out = false) : foI d l o out f = out ++ [(q, t)] := by
  unfold foI; rw [h]; simp only; rw [if_neg (by rw [hh]; decide)]
end P
open Go Go.RowKit
set_option maxHeartbeats 4000000
set_option maxRecDepth 100000
/-- how the expansion stands: the row of entries that grows, its slice in block B -/
structure EIm (w : World) (AB B : Nat) (dv u : Value) (its : List EIt) (F : Blk) (v : World) : Prop where
  bd : DBx w.heap.size dv v
  br : DBx (w.heap.size + 1) (.slice none 0 0) v
  bo : DBx B u v
  own : v.ownsRow AB 47 2 u its.length (ecells its)
  ok : EOk v F its
  ft : ∀ b, F b → w.heap.size + 2 ≤ b ∧ b < v.heap.size ∧ b ≠ B ∧ u.ownBlock ≠ some b
  nb : u.ownBlock ≠ some B
  low : w.heap.size + 2 ≤ AB ∧ w.heap.size + 2 ≤ B
  bel : Below w.heap.size w v
theorem EIm.below {w v v' : World} {AB B : Nat} {dv u : Value} {its : List EIt} {F : Blk} (h : EIm w AB B dv u its F v) (hb : Below v.heap.size v v') : EIm w AB B dv u its F v' := by
  obtain ⟨h1, h2, h3, h4, h5, h6, h7, h8, h9⟩ := h
  have hz := hb.size
  exact ⟨h1.below hb, h2.below hb, h3.below hb, owns_stand h4 (Below.chg hb fun _ => False) (fun _ _ h => h), h5.keep ⟨hz, fun b hF => hb.block b (h6 b hF).2.1⟩, fun b hF => by have := h6 b hF; exact ⟨this.1, by omega, this.2.2⟩, h7, h8, h9.trans (hb.mono h9.size)⟩
theorem EIm.form {w v : World} {AB B : Nat} {dv u : Value} {its : List EIt} {F : Blk} (h : EIm w AB B dv u its F v) : ∃ a c, u = .slice a its.length c := by
  rcases h.own.2 with ⟨rfl, h0⟩ | ⟨g, cap, cur, hv, _⟩
  · exact ⟨none, 0, by rw [h0]⟩
  · exact ⟨_, cap, hv⟩
/-- the row, read -/
theorem EIm.read {w v : World} {AB B : Nat} {dv u : Value} {its : List EIt} {F : Blk} (h : EIm w AB B dv u its F v) (hl : its.length ≤ 2 ^ 30) : EntR v u (its.map (·.1.2)) := by
  rcases id h.own.2 with ⟨rfl, h0⟩ | ⟨g, cap, cur, rfl, _⟩
  · have e : its = [] := List.eq_nil_of_length_eq_zero h0
    subst e
    exact Ents.read (F := fun _ => False) (RowO.nil v _)
  · exact Ents.read (ents_of_items h.own h.ok (fun b hF => (h.ft b hF).2.1) (fun e => (h.ft g e).2.2.2 rfl) hl)
/-- one entry more -/
theorem EIm.app {w v v1 v2 v3 : World} {AB B : Nat} {dv u x : Value} {its : List EIt} {F : Blk} {q : List Int} {t : Str} {g c : Nat} (h : EIm w AB B dv u its F v) (hb : Below v.heap.size v v1) (hx : Ints v1 (Bet v.heap.size v1.heap.size) x q)
    (hb2 : Below v1.heap.size v1 v2) (hown : v3.ownsRow AB 47 2 (.slice (some ⟨g, 0, none⟩) (its.length + 1) c) (its.length + 1) (ecells its ++ [x, .string (S t)])) (hgr : v2.grownBy v3 u.ownBlock) (hat : u.ownBlock = some g ∨ g = v2.heap.size) :
    ∃ F' : Blk, EIm w AB B dv (.slice (some ⟨g, 0, none⟩) (its.length + 1) c) (its ++ [((x, (q, t)), Bet v.heap.size v1.heap.size)]) F' (v3.setCell ⟨B, 0, none⟩ (.slice (some ⟨g, 0, none⟩) (its.length + 1) c)) := by
  obtain ⟨h1, h2, h3, h4, h5, h6, h7, h8, h9⟩ := h
  have hz := hb.size
  have hz2 := hb2.size
  have hz3 := hgr.size
  have hB : B < v.heap.size := h3.2.2
  have hw : w.heap.size + 1 < v.heap.size := h2.2.2
  have hlt : ∀ k, u.ownBlock = some k → AB ≤ k ∧ k < v.heap.size := fun k hk => World.ownsRow.lt h4 k hk
  have hbb := hb.trans (hb2.mono hz)
  have hcg : Chg (fun b => u.ownBlock = some b) v2 v3 := Chg.grown hgr
  have hset : Chg (fun b => b = B) v3 (v3.setCell ⟨B, 0, none⟩ (.slice (some ⟨g, 0, none⟩) (its.length + 1) c)) := (Chg.refl (fun b => b = B) v3).setCell (p := ⟨B, 0, none⟩) rfl _
  have hsz : (v3.setCell ⟨B, 0, none⟩ (.slice (some ⟨g, 0, none⟩) (its.length + 1) c)).heap.size = v3.heap.size := by simp [World.setCell]
  have hgB : g ≠ B := by
    rcases hat with e | e
    · intro e2; exact h7 (e2 ▸ e)
    · omega
  have hg3 : g < v3.heap.size := (World.ownsRow.lt hown g rfl).2
  have hkF : ∀ b, F b → (v3.setCell ⟨B, 0, none⟩ (.slice (some ⟨g, 0, none⟩) (its.length + 1) c)).heap[b]? = v.heap[b]? := fun b hF => by
    have hf := h6 b hF
    rw [hset.block b (by omega) hf.2.2.1, hcg.block b (by omega) hf.2.2.2, hbb.block b hf.2.1]
  have hkX : ∀ b, Bet v.heap.size v1.heap.size b → (v3.setCell ⟨B, 0, none⟩ (.slice (some ⟨g, 0, none⟩) (its.length + 1) c)).heap[b]? = v1.heap[b]? := fun b hb' => by
    have h1 := hb'.1; have h2 := hb'.2
    rw [hset.block b (by omega) (by omega), hcg.block b (by omega) (fun e => by have := (hlt b e).2; omega), hb2.block b h2]
  refine ⟨fun b => F b ∨ Bet v.heap.size v1.heap.size b, ?_, ?_, ?_, ?_, ?_, ?_, ?_, h8, ?_⟩
  · exact ((h1.below hbb).stand hcg (fun e => by have := (hlt _ e).1; omega)).stand hset (by omega)
  · exact ((h2.below hbb).stand hcg (fun e => by have := (hlt _ e).1; omega)).stand hset (by omega)
  · exact ((h3.below hbb).stand hcg (fun e => h7 e)).put
  · rw [List.length_append, ecells_append]
    refine owns_stand ?_ hset (fun k hk e => by injection hk with hk; exact hgB (hk.trans e))
    exact hown
  · refine EOk.snoc ?_ ?_ (fun b hb => hb) (fun b hF hb' => by have := (h6 b hF).2.1; have := hb'.1; omega)
    · exact h5.keep ⟨by rw [hsz]; omega, hkF⟩
    · exact hx.keep intE_ok ⟨by rw [hsz]; omega, hkX⟩
  · intro b hF
    rcases hF with hF | hF
    · have hf := h6 b hF
      refine ⟨hf.1, by rw [hsz]; omega, hf.2.2.1, fun e => ?_⟩
      injection e with e
      rcases hat with e2 | e2
      · exact hf.2.2.2 (e ▸ e2)
      · have e3 : g = b := e
        omega
    · have h1 := hF.1; have h2 := hF.2
      refine ⟨by omega, by rw [hsz]; omega, by omega, fun e => ?_⟩
      injection e with e
      have e3 : g = b := e
      rcases hat with e2 | e2
      · have := (hlt g e2).2; omega
      · omega
  · exact fun e => by injection e with e; exact hgB e
  · exact ((h9.trans (hbb.mono h9.size)).trans (hcg.below (by omega) (fun b e => by have := (hlt b e).1; omega))).setCell (by show w.heap.size ≤ B; omega) _
end Go.Proofs.YtmlklnimoknojaaGreatDoor
