/- Walks: a dictionary that may be none, an outline of a dictionary, as the cursor draws them. -/
import Derived.Deep.DeepCutAuto
import Derived.Test.YtojcfpjoikmgcaaGreatDoorCurE3
import Derived.Test.YtojcfpjoikmgcaaGreatDoorMemE
namespace Go.Proofs.YtojcfpjoikmgcaaGreatDoor
open Go Go.RowKit
set_option maxHeartbeats 4000000
set_option maxRecDepth 100000
/-- a dictionary that is read as long as some blocks stand -/
def ReadE (lo hi : Nat) (v : World) (u : Value) (l : P.Dic) : Prop := hi ≤ v.heap.size ∧ ∀ v', Kept (Bet lo hi) v v' → EntR v' u l
theorem ReadE.now {lo hi : Nat} {v : World} {u : Value} {l : P.Dic} (h : ReadE lo hi v u l) : EntR v u l := h.2 v ⟨Nat.le_refl _, fun _ _ => rfl⟩
theorem ReadE.chg {lo hi : Nat} {v v' : World} {u : Value} {l : P.Dic} {X : Blk} (h : ReadE lo hi v u l) (hc : Chg X v v') (hX : ∀ b, lo ≤ b → b < hi → ¬ X b) : ReadE lo hi v' u l :=
  ⟨Nat.le_trans h.1 hc.size, fun v2 hk => h.2 v2 ⟨Nat.le_trans hc.size hk.1, fun b hb => (hk.2 b hb).trans (hc.block b (Nat.lt_of_lt_of_le hb.2 h.1) (hX b hb.1 hb.2))⟩⟩
theorem ReadE.wide {lo hi lo' hi' : Nat} {v : World} {u : Value} {l : P.Dic} (h : ReadE lo hi v u l) (h1 : lo' ≤ lo) (h2 : hi ≤ hi') (h3 : hi' ≤ v.heap.size) : ReadE lo' hi' v u l :=
  ⟨h3, fun v2 hk => h.2 v2 (hk.mono fun _ hb => ⟨Nat.le_trans h1 hb.1, Nat.lt_of_lt_of_le hb.2 h2⟩)⟩
theorem Ents.readE {lo hi : Nat} {v : World} {F : Blk} {u : Value} {l : P.Dic} (h : Ents v F u l) (hF : ∀ b, F b → lo ≤ b ∧ b < hi) (hh : hi ≤ v.heap.size) : ReadE lo hi v u l :=
  ⟨hh, fun _ hk => Ents.read (h.keep entE_ok (hk.mono hF))⟩
end Go.Proofs.YtojcfpjoikmgcaaGreatDoor
