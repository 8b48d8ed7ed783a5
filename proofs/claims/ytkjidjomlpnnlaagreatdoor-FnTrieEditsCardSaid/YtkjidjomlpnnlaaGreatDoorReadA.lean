/- How the reading of a trie stands. A copy of ints, owned. Walks: the program reads a trie. -/
import Derived.Deep.DeepCutAuto
import Derived.BigRegion
import Derived.RegionTactic
import Derived.Test.YtkjidjomlpnnlaaGreatDoorTrieB
namespace Go.Proofs.YtkjidjomlpnnlaaGreatDoor
section
section
open Go Go.RowKit
set_option maxHeartbeats 1000000
set_option maxRecDepth 100000
def OwnPost (l : List Int) (w : World) (e : Ending) (w' : World) : Prop := ∃ u, e = .returned u ∧ w'.ownsRow w.heap.size 3 1 u l.length (ints l) ∧ Below w.heap.size w w'
theorem copyOf_own (u : Value) (l : List Int) (w : World) (hu : IntR w u l) (hl : l.length ≤ 2 ^ 30) :
    Calls Tryz.prog 111 #[u] w (OwnPost l w) := by
  obtain ⟨i0, hi, hz0, hz1, hz2⟩ := info_parts info_int
  have hb0 := (Below.refl w.heap.size w).alloc (Nat.le_refl _) (.cells #[] 3)
  have HSRC := Lib.hid (src_of_ints (hu.below hb0))
  have HB := Lib.hid hb0; clear hb0
  have HOWN := Lib.hid (World.ownsRow_lit (base := w.heap.size) (e := 3) (size := 1) w #[] 0 (Nat.le_refl _) (Nat.zero_le _) (by simp))
  obtain ⟨ad, cap, rfl, _, _⟩ := hu
  go_enter Tryz.func111, Tryz.ntmps111
  go_wp2_with (at_builtin; refine wpList_append_src rfl _ _ 27 rfl w.heap.size 3 i0 (.int .i64 0) 1 8 Tryz.underlying27 hi hz0 hz1 hz2 rfl (by decide) _ 0 [] rfl HOWN.out _ l.length (ints l) rfl HSRC.out ?_ ?_ (by simp) ?_)
  · unfold maxLen; omega
  · omega
  intro v' w' hown hgr _
  have HOW := Lib.hid hown
  have HBB := Lib.hid (HB.out.grown hgr (by simp) (fun k hk => by simp [Value.ownBlock] at hk; omega))
  clear hown hgr
  go_wp2
  go_ret
  refine ⟨_, rfl, ?_, HBB.out⟩
  exact HOW.out
theorem IntR.chg {v v' : World} {u : Value} {l : List Int} {X : Blk} (h : IntR v u l) (hc : Chg X v v') (hX : ∀ b, u.ownBlock = some b → ¬ X b) : IntR v' u l := by
  obtain ⟨ad, cap, h1, h2, hn, h3⟩ := h
  refine ⟨ad, cap, h1, h2, hn, h3.imp id ?_⟩
  rintro ⟨g, o, h4, h5, h6⟩
  exact ⟨g, o, h4, Nat.lt_of_lt_of_le h5 hc.size, fun j hj => (hc.cell (p := ⟨g, _, none⟩) h5 (hX g (by rw [h1, h4]; rfl))).trans (h6 j hj)⟩
/-- the reader's box -/
structure RD (R : Nat) (tv : Value) (nx : Nat) (u : Value) (v : World) : Prop where
  c0 : v.cell? ⟨R, 0, none⟩ = some tv
  c1 : v.cell? ⟨R, 1, none⟩ = some (.int .i64 nx)
  c2 : v.cell? ⟨R, 2, none⟩ = some u
  f0 : v.frozen? ⟨R, 0, none⟩ = false
  f1 : v.frozen? ⟨R, 1, none⟩ = false
  f2 : v.frozen? ⟨R, 2, none⟩ = false
  lt : R < v.heap.size
theorem RD.stand {R nx : Nat} {tv u : Value} {v v' : World} {X : Blk} (h : RD R tv nx u v) (hc : Chg X v v') (hX : ¬ X R) : RD R tv nx u v' :=
  ⟨(hc.cell (p := ⟨R, 0, none⟩) h.lt hX).trans h.c0, (hc.cell (p := ⟨R, 1, none⟩) h.lt hX).trans h.c1, (hc.cell (p := ⟨R, 2, none⟩) h.lt hX).trans h.c2,
   (hc.frozen (p := ⟨R, 0, none⟩) h.lt hX).trans h.f0, (hc.frozen (p := ⟨R, 1, none⟩) h.lt hX).trans h.f1, (hc.frozen (p := ⟨R, 2, none⟩) h.lt hX).trans h.f2, Nat.lt_of_lt_of_le h.lt hc.size⟩
theorem RD.below {R nx : Nat} {tv u : Value} {v v' : World} (h : RD R tv nx u v) (hb : Below v.heap.size v v') : RD R tv nx u v' := h.stand (Below.chg hb fun _ => False) fun h => h
theorem RD.put1 {R nx nx' : Nat} {tv u : Value} {v : World} (h : RD R tv nx u v) : RD R tv nx' u (v.setCell ⟨R, 1, none⟩ (.int .i64 nx')) := by
  obtain ⟨c0, c1, c2, f0, f1, f2, hl⟩ := h
  refine ⟨?_, World.cell?_setCell_same _ _ _ c1, ?_, by simpa using f0, by simpa using f1, by simpa using f2, by simpa [World.setCell] using hl⟩
  all_goals (rw [World.cell?_setCell_other _ _ _ _ (by intro e; injection e; omega)]; assumption)
theorem RD.put2 {R nx : Nat} {tv u u' : Value} {v : World} (h : RD R tv nx u v) : RD R tv nx u' (v.setCell ⟨R, 2, none⟩ u') := by
  obtain ⟨c0, c1, c2, f0, f1, f2, hl⟩ := h
  refine ⟨?_, ?_, World.cell?_setCell_same _ _ _ c2, by simpa using f0, by simpa using f1, by simpa using f2, by simpa [World.setCell] using hl⟩
  all_goals (rw [World.cell?_setCell_other _ _ _ _ (by intro e; injection e; omega)]; assumption)
abbrev AccE := Acc 38 2 entE
/-- how the reading of a node stands: the world and the row at its start; the world, the next index, the row now -/
structure RI (w : World) (R N : Nat) (tv u x y : Value) (tt : Bool) (ss : Str) (n1 : Nat) (u1 : Value) (es1 : P.Dic) (xs1 : List Value) (v : World) : Prop where
  rd : RD R tv n1 u1 v
  acc : AccE (R + 1) v u1 es1 xs1
  box : NB N x y tt ss v
  un : ∀ b, u1.ownBlock = some b → u.ownBlock = some b ∨ (w.heap.size ≤ b ∧ b ≠ N)
  chg : Chg (fun b => b = R ∨ u.ownBlock = some b) w v
  nz : w.heap.size ≤ N
  rz : R < w.heap.size
  uz : ∀ b, u.ownBlock = some b → b < w.heap.size
/-- what a reading leaves -/
def ReadP (R : Nat) (tv : Value) (r : Option (Nat × P.Dic)) (u : Value) (es : P.Dic) (w : World) (e : Ending) (w' : World) : Prop :=
  e = .returned (.bool r.isSome) ∧ Chg (fun b => b = R ∨ u.ownBlock = some b) w w' ∧ ∀ n1 e1, r = some (n1, e1) → ∃ u' xs', RD R tv n1 u' w' ∧ AccE (R + 1) w' u' (es ++ e1) xs' ∧ (∀ b, u'.ownBlock = some b → u.ownBlock = some b ∨ w.heap.size ≤ b)
theorem accE_lt {B : Nat} {v : World} {u : Value} {l : P.Dic} {xs : List Value} (h : AccE B v u l xs) : ∀ b, u.ownBlock = some b → B ≤ b ∧ b < v.heap.size := World.ownsRow.lt h.owns
variable {w : World} {R N : Nat} {tv u x y : Value} {tt : Bool} {ss : Str} {n1 : Nat} {u1 : Value} {es1 : P.Dic} {xs1 : List Value} {v v' : World}
theorem RI.below (h : RI w R N tv u x y tt ss n1 u1 es1 xs1 v) (hb : Below v.heap.size v v') : RI w R N tv u x y tt ss n1 u1 es1 xs1 v' :=
  ⟨h.rd.below hb, h.acc.keep entE_ok hb, h.box.below hb, h.un, h.chg.late (Below.chg hb fun _ => False) fun _ h => h.elim, h.nz, h.rz, h.uz⟩
theorem RI.un0 (h : RI w R N tv u x y tt ss n1 u1 es1 xs1 v) : u1.ownBlock ≠ some N := fun e => by
  rcases h.un N e with h1 | h1
  · have := h.uz N h1; have := h.nz; omega
  · exact h1.2 rfl
/-- behind the reading of a child -/
theorem RI.call (h : RI w R N tv u x y tt ss n1 u1 es1 xs1 v) {n2 : Nat} {e2 : P.Dic} {u2 : Value} {xs2 : List Value} (h1 : RD R tv n2 u2 v') (h2 : AccE (R + 1) v' u2 (es1 ++ e2) xs2) (h3 : ∀ b, u2.ownBlock = some b → u1.ownBlock = some b ∨ v.heap.size ≤ b) (h4 : Chg (fun b => b = R ∨ u1.ownBlock = some b) v v') :
    RI w R N tv u x y tt ss n2 u2 (es1 ++ e2) xs2 v' := by
  have hnl := h.box.lt
  have hnz := h.nz
  have hrz := h.rz
  refine ⟨h1, h2, h.box.stand h4 (fun e => e.elim (fun e => by omega) h.un0), fun b hb => ?_, h.chg.late h4 (fun b hb => ?_), hnz, hrz, h.uz⟩
  · rcases h3 b hb with e | e
    · exact h.un b e
    · have := h.chg.size; right; omega
  · rcases hb with e | e
    · exact .inl (.inl e)
    · rcases h.un b e with e | e
      · exact .inl (.inr e)
      · exact .inr e.1
/-- behind an entry: its memory was made behind v, the append went from v2 to v3 -/
theorem RI.entry (h : RI w R N tv u x y tt ss n1 u1 es1 xs1 v) {v1 v2 v3 : World} {cs : List Value} {a : P.Ent} {g cap : Nat} {F : Blk}
    (hb1 : Below v.heap.size v v1) (hF : ∀ b, F b → v.heap.size ≤ b ∧ b < v1.heap.size) (ha : entE v1 F cs a) (hw : cs.length = 2) (hb2 : Below v1.heap.size v1 v2)
    (hown : v3.ownsRow (R + 1) 38 2 (.slice (some ⟨g, 0, none⟩) (es1.length + 1) cap) (es1.length + 1) (xs1 ++ cs)) (hgr : v2.grownBy v3 u1.ownBlock) (hat : u1.ownBlock = some g ∨ g = v2.heap.size) :
    RI w R N tv u x y tt ss n1 (.slice (some ⟨g, 0, none⟩) (es1.length + 1) cap) (es1 ++ [a]) (xs1 ++ cs) (v3.setCell ⟨R, 2, none⟩ (.slice (some ⟨g, 0, none⟩) (es1.length + 1) cap)) := by
  have hacc := h.acc.snoc entE_ok hb1 hF ha hw hb2 hown hgr hat
  have hb12 := hb1.trans (hb2.mono hb1.size)
  have h2 := h.below hb12
  have hc1 := chg_grown hgr
  have hc2 := (Chg.refl (fun b => b = R) v3).setCell (p := ⟨R, 2, none⟩) rfl (.slice (some ⟨g, 0, none⟩) (es1.length + 1) cap)
  have hul := accE_lt h2.acc
  have hnl := h2.box.lt
  have hnz := h.nz
  have hrz := h.rz
  have hsz := h2.chg.size
  refine ⟨(h2.rd.stand hc1 (fun e => by have := (hul R e).1; omega)).put2, hacc.stand entE_ok hc2 (fun b hb => by omega), (h2.box.stand hc1 h2.un0).stand hc2 (fun e => by omega), fun b hb => ?_, (h2.chg.late hc1 (fun b hb => ?_)).late hc2 (fun b hb => .inl (.inl hb)), hnz, hrz, h.uz⟩
  · simp only [Value.ownBlock, Option.some.injEq] at hb
    subst hb
    rcases hat with h1 | h1
    · exact h.un g h1
    · right; omega
  · rcases h.un b hb with e | e
    · exact .inl (.inr e)
    · exact .inr e.1
end
section
namespace P
theorem readK_bound {R : Int → List Int → Nat → Option (Nat × Dic)} {m : Nat} (hR : ∀ k o nx n1 e1, R k o nx = some (n1, e1) → nx < n1 ∧ n1 ≤ m ∧ e1.length ≤ n1 - nx) (o : List Int) : ∀ (l : List (Int × Int)) (nx n1 : Nat) (e1 : Dic), nx ≤ m → readK R o l nx = some (n1, e1) → nx ≤ n1 ∧ n1 ≤ m ∧ e1.length ≤ n1 - nx
  | [], nx, n1, e1, hm, h => by
    injection h with h
    injection h with h1 h2
    subst h1 h2
    exact ⟨Nat.le_refl _, hm, Nat.zero_le _⟩
  | (s, c) :: l, nx, n1, e1, hm, h => by
    unfold readK at h
    split at h
    · cases h
    · rename_i n2 e2 h2
      split at h
      · cases h
      · rename_i n3 e3 h3
        injection h with h
        injection h with h4 h5
        subst h4 h5
        have a := hR _ _ _ _ _ h2
        have b := readK_bound hR o l n2 n3 e3 a.2.1 h3
        rw [List.length_append]
        omega
theorem read_bound (t : Tri) : ∀ (f : Nat) (k : Int) (o : List Int) (nx n1 : Nat) (e1 : Dic), read t f k o nx = some (n1, e1) → nx < n1 ∧ n1 ≤ t.length ∧ e1.length ≤ n1 - nx
  | 0, _, _, _, _, _, h => by cases h
  | f + 1, k, o, nx, n1, e1, h => by
    unfold read at h
    split at h
    · rename_i hk
      split at h
      · rw [Option.map_eq_some_iff] at h
        obtain ⟨r, h1, h2⟩ := h
        injection h2 with h3 h4
        subst h3 h4
        have := readK_bound (fun k o nx n1 e1 => read_bound t f k o nx n1 e1) o _ (nx + 1) r.1 r.2 (by omega) h1
        have h5 : (own o (t.getD nx nd0)).length ≤ 1 := by unfold own; split <;> simp
        rw [List.length_append]
        omega
      · cases h
    · cases h
/-- the strokes and children behind the first ones -/
theorem readK_cons {R : Int → List Int → Nat → Option (Nat × Dic)} {o : List Int} {zs : List (Int × Int)} {j nx : Nat} (hj : j < zs.length) : readK R o (zs.drop j) nx = match R (zs[j]'hj).2 (o ++ [(zs[j]'hj).1]) nx with
    | none => none
    | some (n1, e1) => match readK R o (zs.drop (j + 1)) n1 with
      | none => none
      | some (n2, e2) => some (n2, e1 ++ e2) := by
  rw [List.drop_eq_getElem_cons hj]; rfl
end P
end
end
section
open Go Go.RowKit
set_option maxHeartbeats 8000000
set_option maxRecDepth 100000
theorem P.read_no {t : P.Tri} {f : Nat} {k : Int} {o : List Int} {nx : Nat} (h : f = 0 ∨ ¬ (k = (nx : Int) ∧ nx < t.length)) : P.read t f k o nx = none := by
  rcases h with rfl | h
  · rfl
  · cases f with
    | zero => rfl
    | succ f => unfold P.read; rw [if_neg h]
/-- what the reading of one child leaves in the loop -/
def RCut (w : World) (R N : Nat) (tv u x y : Value) (tt : Bool) (ss : Str) (r : Option (Nat × P.Dic)) (es1 : P.Dic) (b : Value) (v : World) : Prop :=
  b = .bool (!r.isSome) ∧ Chg (fun b => b = R ∨ u.ownBlock = some b) w v ∧ ∀ n2 e2, r = some (n2, e2) → ∃ u3 xs3, RI w R N tv u x y tt ss n2 u3 (es1 ++ e2) xs3 v
theorem RCut.of {w v3 v4 : World} {R N n1 : Nat} {tv u x y u1 : Value} {tt : Bool} {ss : Str} {r : Option (Nat × P.Dic)} {es1 : P.Dic} {xs1 : List Value} {e : Ending} (h : RI w R N tv u x y tt ss n1 u1 es1 xs1 v3) (hr : ReadP R tv r u1 es1 v3 e v4) : RCut w R N tv u x y tt ss r es1 (.bool (!r.isSome)) v4 := by
  obtain ⟨_, h1, h2⟩ := hr
  refine ⟨rfl, h.chg.late h1 (fun b hb => ?_), fun n2 e2 hn => ?_⟩
  · rcases hb with e | e
    · exact .inl (.inl e)
    · rcases h.un b e with e | e
      · exact .inl (.inr e)
      · exact .inr e.1
  · obtain ⟨u', xs', a, b, c⟩ := h2 n2 e2 hn
    exact ⟨u', xs', h.call a b c h1⟩
theorem ReadP.none_of {R : Nat} {tv : Value} {r : Option (Nat × P.Dic)} {u : Value} {es : P.Dic} {w w' : World} (h : r = none) (hc : Chg (fun b => b = R ∨ u.ownBlock = some b) w w') : ReadP R tv r u es w (.returned (.bool false)) w' := by
  subst h; exact ⟨rfl, hc, fun _ _ h => by cases h⟩
theorem ReadP.some_of {R n1 : Nat} {tv u1 : Value} {r : Option (Nat × P.Dic)} {u : Value} {es e1 : P.Dic} {xs1 : List Value} {w w' : World} (h : r = some (n1, e1)) (hc : Chg (fun b => b = R ∨ u.ownBlock = some b) w w') (h1 : RD R tv n1 u1 w') (h2 : AccE (R + 1) w' u1 (es ++ e1) xs1) (h3 : ∀ b, u1.ownBlock = some b → u.ownBlock = some b ∨ w.heap.size ≤ b) : ReadP R tv r u es w (.returned (.bool true)) w' := by
  subst h
  refine ⟨rfl, hc, fun n2 e2 h => ?_⟩
  injection h with h
  injection h with h4 h5
  subst h4 h5
  exact ⟨u1, xs1, h1, h2, h3⟩
theorem own_base {v : World} {B B' : Nat} {e : TypeId} {z : Nat} {u : Value} {n : Nat} {xs : List Value} (h : v.ownsRow B e z u n xs) (hB : B' ≤ B) : v.ownsRow B' e z u n xs :=
  ⟨h.1, h.2.imp id fun ⟨g, cap, cur, hv, hg, r⟩ => ⟨g, cap, cur, hv, Nat.le_trans hB hg, r⟩⟩
theorem read_walk (wb : World) (tv : Value) (t : P.Tri) (hT : NodR wb tv t) (htl : t.length ≤ 241) (R : Nat) (hR : wb.heap.size ≤ R) : ∀ (f : Nat) (k : Int) (ov : Value) (o : List Int) (nx : Nat) (u : Value) (es : P.Dic) (xs : List Value) (w : World), f + o.length = 7 → IntR w ov o → (∀ b, ov.ownBlock = some b → b ≠ R ∧ u.ownBlock ≠ some b) → RD R tv nx u w → AccE (R + 1) w u es xs → nx ≤ t.length → es.length ≤ nx → Below wb.heap.size wb w →
    Calls Tryz.prog 175 #[.pointer (some ⟨R, 0, none⟩), .int .i64 k, ov] w (ReadP R tv (P.read t f k o nx) u es w) := by
  have HT := Lib.hid hT
  obtain ⟨tad, tcap, rfl, _, _⟩ := hT
  intro f
  induction f with
  | zero =>
    intro k ov o nx u es xs w hf ho hob hrd hacc hnx hes hb
    have hno : P.read t 0 k o nx = none := rfl
    obtain ⟨c0, c1, _, _, _, _, _⟩ := hrd
    obtain ⟨oad, ocap, rfl, _, _⟩ := ho
    rw [hno]
    clear hno hacc hob
    by_cases h1 : k = (nx : Int)
    · subst h1
      by_cases h2 : nx < t.length
      · have i1 : (nx : Int) < (t.length : Int) := by omega
        have i2 : (6 : Int) < (o.length : Int) := by omega
        go_enter Tryz.func175, Tryz.ntmps175
        go_wp2_with fail
        go_ret
        exact ⟨rfl, Chg.refl _ _, fun _ _ h => by cases h⟩
      · have i1 : (t.length : Int) ≤ (nx : Int) := by omega
        go_enter Tryz.func175, Tryz.ntmps175
        go_wp2_with fail
        go_ret
        exact ⟨rfl, Chg.refl _ _, fun _ _ h => by cases h⟩
    · have hq : (k == (nx : Int)) = false := by simpa using h1
      go_enter Tryz.func175, Tryz.ntmps175
      go_wp2_with fail
      go_ret
      exact ⟨rfl, Chg.refl _ _, fun _ _ h => by cases h⟩
  | succ f ih =>
    intro k ov o nx u es xs w hf ho hob hrd hacc hnx hes hb
    by_cases h1 : k = (nx : Int)
    · subst h1
      by_cases h2 : nx < t.length
      · obtain ⟨g, q, hga, hgl, x, y, d0, d1, d2, d3, hx, hy⟩ := HT.out.at nx h2
        have hgd : t.getD nx P.nd0 = t[nx] := by rw [List.getD_eq_getElem?_getD, List.getElem?_eq_getElem h2]; rfl
        have hread : P.read t (f + 1) (nx : Int) o nx = if (t[nx]).1.length = (t[nx]).2.1.length then (P.readK (P.read t f) o ((t[nx]).1.zip (t[nx]).2.1) (nx + 1)).map (fun r => (r.1, P.own o t[nx] ++ r.2)) else none := by
          rw [← hgd]
          show (if (nx : Int) = nx ∧ nx < t.length then _ else _) = _
          rw [if_pos ⟨rfl, h2⟩]
        obtain ⟨nd, hnd⟩ : ∃ nd, t[nx] = nd := ⟨_, rfl⟩
        rw [hnd] at hread d2 d3 hx hy
        clear hgd hnd
        obtain ⟨st, ch, tt, tx⟩ := nd
        simp only at hread d2 d3 hx hy
        obtain ⟨xad, xcap, rfl, hxl, _⟩ := id hx
        obtain ⟨yad, ycap, rfl, hyl, _⟩ := id hy
        have HX := Lib.hid hx; have HY := Lib.hid hy
        have HRB := Lib.hid hb; have HO := Lib.hid ho; have HOB := Lib.hid hob; have HF := Lib.hid hf; have IH := Lib.hid ih
        have e0 := (hb.cell (p := ⟨g, q + nx * 4, none⟩) hgl).trans d0
        have e1 := (hb.cell (p := ⟨g, q + nx * 4 + 1, none⟩) hgl).trans d1
        have e2 := (hb.cell (p := ⟨g, q + nx * 4 + 2, none⟩) hgl).trans d2
        have e3 := (hb.cell (p := ⟨g, q + nx * 4 + 3, none⟩) hgl).trans d3
        have hgR : g ≠ R := by omega
        have hRw := hrd.lt
        have hbz := hb.size
        have huz := accE_lt hacc
        obtain ⟨uad, ucap, hu⟩ := hacc.form
        subst hu
        subst hga
        have HUL := Lib.hid huz
        have hc1 := (Chg.refl (fun b => b = R) w).setCell (p := ⟨R, 1, none⟩) rfl (.int .i64 ((nx + 1 : Nat) : Int))
        have hri0 := (show RI w R w.heap.size (.slice (some ⟨g, q, none⟩) t.length tcap) (.slice uad es.length ucap) (.slice xad st.length xcap) (.slice yad ch.length ycap) tt tx (nx + 1) (.slice uad es.length ucap) es xs ((w.setCell ⟨R, 1, none⟩ (.int .i64 ((nx + 1 : Nat) : Int))).alloc (.cells #[.slice xad st.length xcap, .slice yad ch.length ycap, .bool tt, .string (S tx)] 162)) from
          RI.mk ((hrd.put1 (nx' := nx + 1)).below ((Below.refl _ _).alloc (Nat.le_refl _) _)) ((hacc.stand entE_ok hc1 (fun b hb => by omega)).keep entE_ok ((Below.refl _ _).alloc (Nat.le_refl _) _))
            (by have hz : (w.setCell ⟨R, 1, none⟩ (.int .i64 ((nx + 1 : Nat) : Int))).heap.size = w.heap.size := by simp [World.setCell]
                refine ⟨?_, ?_, ?_, ?_, ?_, ?_, ?_, ?_, ?_⟩ <;> rw [← hz] <;> go_simp)
            (fun b h => .inl h) ((((Chg.refl (fun b => b = R ∨ (Value.slice uad es.length ucap).ownBlock = some b) w).setCell (p := ⟨R, 1, none⟩) (.inl rfl) (.int .i64 ((nx + 1 : Nat) : Int)))).alloc _) (Nat.le_refl _) hRw (fun b h => (huz b h).2))
        rw [show ((nx + 1 : Nat) : Int) = (nx : Int) + 1 by omega] at hri0
        have HRI := Lib.hid hri0; clear hri0
        obtain ⟨c0, c1, c2, f0, f1, f2, _⟩ := hrd
        obtain ⟨oad, ocap, rfl, _, _⟩ := ho
        have i1 : (nx : Int) < (t.length : Int) := by omega
        have i2 : ¬ (6 : Int) < (o.length : Int) := by omega
        have HRE := Lib.hid hread
        clear hread d0 d1 d2 d3 hx hy hb hob hf ih hc1 hacc huz
        by_cases hlen : st.length = ch.length
        · rw [HRE.out, if_pos hlen]
          have i3 : ((st.length : Int) == (ch.length : Int)) = true := by simp; omega
          have i4 : ((st.length : Int) != (ch.length : Int)) = false := by simp; omega
          have hle1 : st.length ≤ ch.length := by omega
          have hle2 : ch.length ≤ st.length := by omega
          clear HRE hlen
          obtain ⟨i0, hi, hz0, hz1, hz2⟩ := info_parts info_ent
          obtain ⟨j0, hj, hy0, hy1, hy2⟩ := info_parts info_int
          have hN := HRI.out.box.lt
          go_enter Tryz.func175, Tryz.ntmps175
          go_upto_region 5 with fail
          clear c0 c1 c2 f0 f1 f2 e0 e1 e2 e3
          generalize ((w.setCell ⟨R, 1, none⟩ (.int .i64 ((nx : Int) + 1))).alloc (.cells #[.slice xad st.length xcap, .slice yad ch.length ycap, .bool tt, .string (S tx)] 162)) = v0 at *
          obtain ⟨q0, q1, q2, q3, _, _, _, _, _⟩ := HRI.out.box
          go_upto_if 54 with fail
          go_cut [] (fun wx => ∃ u2 xs2, RI w R w.heap.size (.slice (some ⟨g, q, none⟩) t.length tcap) (.slice uad es.length ucap) (.slice xad st.length xcap) (.slice yad ch.length ycap) tt tx (nx + 1) u2 (es ++ P.own o (st, ch, tt, tx)) xs2 wx)
          case first =>
            cases tt
            · go_wp2
              go_meet
              case rel =>
                refine ⟨.slice uad es.length ucap, xs, ?_⟩
                rw [show es ++ P.own o (st, ch, false, tx) = es by simp [P.own]]
                exact HRI.out
            · clear q0 q1 q2 q3
              have hba := (Below.refl v0.heap.size v0).drew
              have HR1 := Lib.hid (HRI.out.below hba)
              have HO1 := Lib.hid (HO.out.chg HR1.out.chg (fun b hb e => e.elim (HOB.out b hb).1 (HOB.out b hb).2))
              clear hba
              go_upto_region 8 with fail
              refine Left.region [14] (S := fun v => RD R (.slice (some ⟨g, q, none⟩) t.length tcap) (nx + 1) (.slice uad es.length ucap) v ∧ NB w.heap.size (.slice xad st.length xcap) (.slice yad ch.length ycap) true tx v) (by kernel_rfl) ⟨HR1.out.rd, HR1.out.box⟩ (fun hS0 => ?_)
              generalize v0.drew = v1 at *
              refine Left.take (i := 0) (v := .pointer (some ⟨R, 0, none⟩)) rfl (by kernel_rfl) (by kernel_rfl) (by kernel_rfl) (by kernel_rfl) (fun _ _ _ h => h) (Or.inl ⟨by rfl, fun z hz => ?_⟩) hS0 ?_
              · obtain ⟨⟨c0, c1, c2, f0, f1, f2, hl⟩, ⟨b0, b1, b2, b3, k0, k1, k2, k3, hl2⟩⟩ := hz
                go_simp
              try simp only [qA, qB, Act.put, qD, qE, qF]
              refine Left.take (i := 1) (v := .pointer (some ⟨R, 0, none⟩)) rfl (by kernel_rfl) (by kernel_rfl) (by kernel_rfl) (by kernel_rfl) (fun _ _ _ h => h) (Or.inl ⟨by rfl, fun z hz => ?_⟩) hS0 ?_
              · obtain ⟨⟨c0, c1, c2, f0, f1, f2, hl⟩, ⟨b0, b1, b2, b3, k0, k1, k2, k3, hl2⟩⟩ := hz
                go_simp
              try simp only [qA, qB, qC, Act.put, qD, qE, qF]
              refine Left.take (i := 2) (v := .pointer (some ⟨R, 0, none⟩)) rfl (by kernel_rfl) (by kernel_rfl) (by kernel_rfl) (by kernel_rfl) (fun _ _ _ h => h) (Or.inl ⟨by rfl, fun z hz => ?_⟩) hS0 ?_
              · obtain ⟨⟨c0, c1, c2, f0, f1, f2, hl⟩, ⟨b0, b1, b2, b3, k0, k1, k2, k3, hl2⟩⟩ := hz
                go_simp
              try simp only [qA, qB, qC, Act.put, qD, qE, qF]
              refine Left.take (i := 3) (v := .pointer (some ⟨R, 2, none⟩)) rfl (by kernel_rfl) (by kernel_rfl) (by kernel_rfl) (by kernel_rfl) (fun _ _ _ h => h) (Or.inl ⟨by rfl, fun z hz => ?_⟩) hS0 ?_
              · obtain ⟨⟨c0, c1, c2, f0, f1, f2, hl⟩, ⟨b0, b1, b2, b3, k0, k1, k2, k3, hl2⟩⟩ := hz
                go_simp
              try simp only [qA, qB, qC, Act.put, qD, qE, qF]
              refine Left.take (i := 4) (v := .slice uad es.length ucap) rfl (by kernel_rfl) (by kernel_rfl) (by kernel_rfl) (by kernel_rfl) (fun _ _ _ h => h) (Or.inl ⟨by rfl, fun z hz => ?_⟩) hS0 ?_
              · obtain ⟨⟨c0, c1, c2, f0, f1, f2, hl⟩, ⟨b0, b1, b2, b3, k0, k1, k2, k3, hl2⟩⟩ := hz
                go_simp
              try simp only [qA, qB, qC, Act.put, qD, qE, qF]
              refine Left.take (i := 5) (v := .slice oad o.length ocap) rfl (by kernel_rfl) (by kernel_rfl) (by kernel_rfl) (by kernel_rfl) (fun _ _ _ h => h) (Or.inl ⟨by rfl, fun z hz => ?_⟩) hS0 ?_
              · obtain ⟨⟨c0, c1, c2, f0, f1, f2, hl⟩, ⟨b0, b1, b2, b3, k0, k1, k2, k3, hl2⟩⟩ := hz
                go_simp
              try simp only [qA, qB, qC, Act.put, qD, qE, qF]
              refine Left.take (i := 7) (v := .pointer (some ⟨w.heap.size, 3, none⟩)) rfl (by kernel_rfl) (by kernel_rfl) (by kernel_rfl) (by kernel_rfl) (fun _ _ _ h => h) (Or.inl ⟨by rfl, fun z hz => ?_⟩) hS0 ?_
              · obtain ⟨⟨c0, c1, c2, f0, f1, f2, hl⟩, ⟨b0, b1, b2, b3, k0, k1, k2, k3, hl2⟩⟩ := hz
                go_simp
              try simp only [qA, qB, qC, Act.put, qD, qE, qF]
              refine Left.take (i := 8) (v := .string (S tx)) rfl (by kernel_rfl) (by kernel_rfl) (by kernel_rfl) (by kernel_rfl) (fun _ _ _ h => h) (Or.inl ⟨by rfl, fun z hz => ?_⟩) hS0 ?_
              · obtain ⟨⟨c0, c1, c2, f0, f1, f2, hl⟩, ⟨b0, b1, b2, b3, k0, k1, k2, k3, hl2⟩⟩ := hz
                go_simp
              try simp only [qA, qB, qC, Act.put, qD, qE, qF]
              refine Left.ready (rs := [6]) (by kernel_rfl) (by simp) ?_
              refine Nexts.cons rfl (fun K hK => ?_) Nexts.nil
              go_simp
              refine (copyOf _ o _ HO1.out (by omega)).mono ?_
              rintro e v2 ⟨x1, rfl, hI, hb1⟩
              have HI := Lib.hid hI; have HB1 := Lib.hid hb1
              obtain ⟨x1d, x1c, rfl, _, _⟩ := hI
              refine on_held hK (by decide) ⟨hS0.1.below hb1, hS0.2.below hb1⟩ (fun hS1 => ?_)
              clear hK K hb1 hS0
              try simp only [qA, qB, qC, Act.put, qD, qE, qF]
              refine Left.take (i := 9) (v := .agg #[.slice x1d o.length x1c, .string (S tx)]) rfl (by kernel_rfl) (by kernel_rfl) (by kernel_rfl) (by kernel_rfl) (fun _ _ _ h => h) (Or.inl ⟨by rfl, fun z hz => ?_⟩) hS1 ?_
              · obtain ⟨⟨c0, c1, c2, f0, f1, f2, hl⟩, ⟨b0, b1, b2, b3, k0, k1, k2, k3, hl2⟩⟩ := hz
                go_simp
              try simp only [qA, qB, qC, Act.put, qD, qE, qF]
              refine Left.ready (rs := [10]) (by kernel_rfl) (by simp) ?_
              refine Nexts.cons rfl (fun K hK => ?_) Nexts.nil
              go_simp
              have hba := (Below.refl v2.heap.size v2).alloc (Nat.le_refl _) (.cells #[.slice x1d o.length x1c, .string (S tx)] 38)
              have HBA := Lib.hid hba
              refine on_held hK (by decide) ⟨hS1.1.below hba, hS1.2.below hba⟩ (fun hS2 => ?_)
              clear hK K hba hS1
              try simp only [qA, qB, qC, Act.put, qD, qE, qF]
              refine Left.ready (rs := [11]) (by kernel_rfl) (by simp) ?_
              refine Nexts.cons rfl (fun K hK => ?_) Nexts.nil
              have HR2 := Lib.hid ((HR1.out.below HB1.out).below HBA.out)
              have hzz := HR2.out.rd.lt
              refine step_append_lies _ rfl _ _ 24 rfl (R + 1) 38 i0 (.agg #[.slice none 0 0, .string ⟨#[]⟩]) 2 40 Tryz.underlying24 hi hz0 hz1 hz2 rfl (by decide) (.slice uad es.length ucap) es.length xs rfl HR2.out.acc.owns ⟨v2.heap.size, 0, none⟩ 1 1 [.slice x1d o.length x1c, .string (S tx)] rfl rfl ?_ ?_ (by decide) (by unfold maxLen; omega) (by omega) (by omega) _ rfl ?_
              · intro i y hy
                match i, hy with
                | 0, hy => injection hy with hy; subst hy; rw [add0]; go_simp
                | 1, hy => injection hy with hy; subst hy; rw [add0]; go_simp
              · intro y hy
                simp only [List.mem_cons, List.not_mem_nil, or_false] at hy
                rcases hy with rfl | rfl <;> rfl
              intro g1 cap1 v3 hown hgr hat hlt3
              have HFIN := Lib.hid (HR1.out.entry (a := (o, tx)) HB1.out (fun b hb => hb) (entE_mk HI.out) rfl HBA.out hown hgr hat)
              have hch := chg_grown hgr
              have hS3 : RD R (.slice (some ⟨g, q, none⟩) t.length tcap) (nx + 1) (.slice uad es.length ucap) v3 ∧ NB w.heap.size (.slice xad st.length xcap) (.slice yad ch.length ycap) true tx v3 := ⟨hS2.1.stand hch (fun e => by have := (HUL.out R e).1; omega), hS2.2.stand hch (fun e => by have := (HUL.out _ e).2; omega)⟩
              refine on_held hK (by decide) hS3 (fun hS4 => ?_)
              clear hK K hown hgr hat hS2 hch hzz
              try simp only [qA, qB, qC, Act.put, qD, qE, qF]
              refine Left.take (i := 12) (v := .pointer (some ⟨R, 0, none⟩)) rfl (by kernel_rfl) (by kernel_rfl) (by kernel_rfl) (by kernel_rfl) (fun _ _ _ h => h) (Or.inl ⟨by rfl, fun z hz => ?_⟩) hS4 ?_
              · obtain ⟨⟨c0, c1, c2, f0, f1, f2, hl⟩, ⟨b0, b1, b2, b3, k0, k1, k2, k3, hl2⟩⟩ := hz
                go_simp
              try simp only [qA, qB, qC, Act.put, qD, qE, qF]
              refine Left.take (i := 13) (v := .pointer (some ⟨R, 2, none⟩)) rfl (by kernel_rfl) (by kernel_rfl) (by kernel_rfl) (by kernel_rfl) (fun _ _ _ h => h) (Or.inl ⟨by rfl, fun z hz => ?_⟩) hS4 ?_
              · obtain ⟨⟨c0, c1, c2, f0, f1, f2, hl⟩, ⟨b0, b1, b2, b3, k0, k1, k2, k3, hl2⟩⟩ := hz
                go_simp
              try simp only [qA, qB, qC, Act.put, qD, qE, qF]
              refine Left.ready (rs := [14]) (by kernel_rfl) (by simp) ?_
              refine Nexts.cons rfl (fun K hK => ?_) Nexts.nil
              obtain ⟨⟨_, _, z2, _, _, z5, _⟩, _⟩ := hS3
              go_simp
              refine on_last hK (by decide) ?_
              clear hK K z2 z5 hS4
              try simp only [qA, qB, qC, Act.put, qD, qE, qF]
              refine Left.done (by kernel_rfl) ?_ _
              go_wp2
              go_meet
              case rel =>
                refine ⟨.slice (some ⟨g1, 0, none⟩) (es.length + 1) cap1, xs ++ [.slice x1d o.length x1c, .string (S tx)], ?_⟩
                rw [show P.own o (st, ch, true, tx) = [(o, tx)] from rfl]
                exact HFIN.out
          case rest =>
            obtain ⟨u2, xs2, hri⟩ := hcut
            have HR9 := Lib.hid hri
            have hol : (P.own o (st, ch, tt, tx)).length ≤ 1 := by unfold P.own; split <;> simp
            have HOL := Lib.hid hol
            clear q0 q1 q2 q3 hol
            obtain ⟨q0, _, _, _, _, _, _, _, _⟩ := hri.box
            clear hri
            obtain ⟨ow, how⟩ : ∃ ow, P.own o (st, ch, tt, tx) = ow := ⟨_, rfl⟩
            rw [how] at HR9 HOL
            have HOW := Lib.hid how; clear how
            go_wp2_with fail
            clear q0
            go_loopw [72] (fun i wr => ∃ (j n1 : Nat) (e1 : P.Dic) (u1 : Value) (xs1 : List Value), j ≤ st.length ∧ i = .int .i64 j ∧ RI w R w.heap.size (.slice (some ⟨g, q, none⟩) t.length tcap) (.slice uad es.length ucap) (.slice xad st.length xcap) (.slice yad ch.length ycap) tt tx n1 u1 ((es ++ ow) ++ e1) xs1 wr ∧ (nx + 1 ≤ n1 ∧ n1 ≤ t.length ∧ e1.length ≤ n1 - (nx + 1)) ∧ P.readK (P.read t f) o (st.zip ch) (nx + 1) = (P.readK (P.read t f) o ((st.zip ch).drop j) n1).map (fun r => (r.1, e1 ++ r.2))) (fun i _ => st.length - (intOf i).toNat)
            case atStart => exact ⟨0, nx + 1, [], u2, xs2, Nat.zero_le _, rfl, by rw [List.append_nil]; exact HR9.out, ⟨Nat.le_refl _, by omega, Nat.zero_le _⟩, by rw [List.drop_zero]; cases P.readK (P.read t f) o (st.zip ch) (nx + 1) <;> rfl⟩
            case round =>
              obtain ⟨j, n1, e1, u1, xs1, hjl, rfl, hri, ⟨hn1a, hn1b, hn1c⟩, hrd⟩ := hrel
              have HRR := Lib.hid hri; have HRD := Lib.hid hrd
              obtain ⟨u1ad, u1cap, hu1⟩ := hri.acc.form
              subst hu1
              have hbr : Below wb.heap.size wb wr := HRB.out.trans (hri.chg.below hbz (fun b hb => hb.elim (fun e => by omega) (fun e => by have := (HUL.out b e).1; omega)))
              have HBR := Lib.hid hbr
              clear HR9 hrd hri
              by_cases hlt : j < st.length
              · have hlt2 : j < ch.length := by omega
                obtain ⟨gx, ox, hxa, hgx, x0⟩ := (HX.out.below hbr).at j hlt
                obtain ⟨gy, oy, hya, hgy, y0⟩ := (HY.out.below hbr).at j hlt2
                obtain ⟨_, _, hya2, hgyb, _⟩ := HY.out.at j hlt2
                rw [hya] at hya2
                injection hya2 with hya2
                injection hya2 with hya3 hya4
                subst hya3 hya4
                subst hxa hya
                have hzl : j < (st.zip ch).length := by rw [List.length_zip]; omega
                have hcons := P.readK_cons (R := P.read t f) (o := o) (nx := n1) hzl
                rw [List.getElem_zip] at hcons
                obtain ⟨sj, hsj⟩ : ∃ sj, st[j] = sj := ⟨_, rfl⟩
                obtain ⟨cj, hcj⟩ : ∃ cj, ch[j] = cj := ⟨_, rfl⟩
                rw [hsj, hcj] at hcons
                rw [hsj] at x0
                rw [hcj] at y0
                simp only at hcons
                have HCO := Lib.hid hcons
                clear hcons hsj hcj
                have i5 : (j : Int) < (st.length : Int) := by omega
                have i6 : (j : Int) < (ch.length : Int) := by omega
                have hbd := (Below.refl wr.heap.size wr).drew
                have HR1 := Lib.hid (HRR.out.below hbd)
                have HB1 := Lib.hid (hbr.trans (hbd.mono hbr.size))
                have HO1 := Lib.hid (HO.out.chg HR1.out.chg (fun b hb e => e.elim (HOB.out b hb).1 (HOB.out b hb).2))
                have HS := Lib.hid (show NB w.heap.size (.slice (some ⟨gx, ox, none⟩) st.length xcap) (.slice (some ⟨gy, oy, none⟩) ch.length ycap) tt tx wr.drew ∧ wr.drew.cell? ⟨gy, oy + j, none⟩ = some (.int .i64 cj) ∧ gy < wr.drew.heap.size from ⟨HR1.out.box, (hbd.cell (p := ⟨gy, oy + j, none⟩) hgy).trans y0, hgy⟩)
                clear hbd hbr
                go_upto_region 12 with fail
                clear x0 y0
                go_cut [89] (fun b wx => RCut w R w.heap.size (.slice (some ⟨g, q, none⟩) t.length tcap) (.slice uad es.length ucap) (.slice (some ⟨gx, ox, none⟩) st.length xcap) (.slice (some ⟨gy, oy, none⟩) ch.length ycap) tt tx (P.read t f cj (o ++ [sj]) n1) ((es ++ ow) ++ e1) b wx)
                case first =>
                  refine Left.region [] (S := fun v => NB w.heap.size (.slice (some ⟨gx, ox, none⟩) st.length xcap) (.slice (some ⟨gy, oy, none⟩) ch.length ycap) tt tx v ∧ v.cell? ⟨gy, oy + j, none⟩ = some (.int .i64 cj) ∧ gy < v.heap.size) (by kernel_rfl) HS.out (fun hS0 => ?_)
                  generalize wr.drew = v1 at *
                  refine Left.take (i := 0) (v := .pointer (some ⟨R, 0, none⟩)) rfl (by kernel_rfl) (by kernel_rfl) (by kernel_rfl) (by kernel_rfl) (fun _ _ _ h => h) (Or.inl ⟨by rfl, fun z hz => ?_⟩) hS0 ?_
                  · obtain ⟨⟨b0, b1, b2, b3, k0, k1, k2, k3, hl2⟩, y0, hgy2⟩ := hz
                    go_simp
                  try simp only [qA, qB, Act.put, qD, qE, qF]
                  refine Left.take (i := 1) (v := .pointer (some ⟨w.heap.size, 1, none⟩)) rfl (by kernel_rfl) (by kernel_rfl) (by kernel_rfl) (by kernel_rfl) (fun _ _ _ h => h) (Or.inl ⟨by rfl, fun z hz => ?_⟩) hS0 ?_
                  · obtain ⟨⟨b0, b1, b2, b3, k0, k1, k2, k3, hl2⟩, y0, hgy2⟩ := hz
                    go_simp
                  try simp only [qA, qB, qC, Act.put, qD, qE, qF]
                  refine Left.take (i := 2) (v := .slice (some ⟨gy, oy, none⟩) ch.length ycap) rfl (by kernel_rfl) (by kernel_rfl) (by kernel_rfl) (by kernel_rfl) (fun _ _ _ h => h) (Or.inl ⟨by rfl, fun z hz => ?_⟩) hS0 ?_
                  · obtain ⟨⟨b0, b1, b2, b3, k0, k1, k2, k3, hl2⟩, y0, hgy2⟩ := hz
                    go_simp
                  try simp only [qA, qB, qC, Act.put, qD, qE, qF]
                  refine Left.take (i := 3) (v := .int .i64 j) rfl (by kernel_rfl) (by kernel_rfl) (by kernel_rfl) (by kernel_rfl) (fun _ _ _ h => h) (Or.inl ⟨by rfl, fun z hz => ?_⟩) hS0 ?_
                  · obtain ⟨⟨b0, b1, b2, b3, k0, k1, k2, k3, hl2⟩, y0, hgy2⟩ := hz
                    go_simp
                  try simp only [qA, qB, qC, Act.put, qD, qE, qF]
                  refine Left.take (i := 4) (v := .pointer (some ⟨gy, oy + j, none⟩)) rfl (by kernel_rfl) (by kernel_rfl) (by kernel_rfl) (by kernel_rfl) (fun _ _ _ h => h) (Or.inl ⟨by rfl, fun z hz => ?_⟩) hS0 ?_
                  · obtain ⟨⟨b0, b1, b2, b3, k0, k1, k2, k3, hl2⟩, y0, hgy2⟩ := hz
                    go_simp
                  try simp only [qA, qB, qC, Act.put, qD, qE, qF]
                  refine Left.take (i := 5) (v := .int .i64 cj) rfl (by kernel_rfl) (by kernel_rfl) (by kernel_rfl) (by kernel_rfl) (fun _ _ _ h => h) (Or.inl ⟨by rfl, fun z hz => ?_⟩) hS0 ?_
                  · obtain ⟨⟨b0, b1, b2, b3, k0, k1, k2, k3, hl2⟩, y0, hgy2⟩ := hz
                    go_simp
                  try simp only [qA, qB, qC, Act.put, qD, qE, qF]
                  refine Left.take (i := 6) (v := .slice oad o.length ocap) rfl (by kernel_rfl) (by kernel_rfl) (by kernel_rfl) (by kernel_rfl) (fun _ _ _ h => h) (Or.inl ⟨by rfl, fun z hz => ?_⟩) hS0 ?_
                  · obtain ⟨⟨b0, b1, b2, b3, k0, k1, k2, k3, hl2⟩, y0, hgy2⟩ := hz
                    go_simp
                  try simp only [qA, qB, qC, Act.put, qD, qE, qF]
                  refine Left.take (i := 8) (v := .int .i64 sj) rfl (by kernel_rfl) (by kernel_rfl) (by kernel_rfl) (by kernel_rfl) (fun _ _ _ h => h) (Or.inl ⟨by rfl, fun z hz => ?_⟩) hS0 ?_
                  · obtain ⟨⟨b0, b1, b2, b3, k0, k1, k2, k3, hl2⟩, y0, hgy2⟩ := hz
                    go_simp
                  try simp only [qA, qB, qC, Act.put, qD, qE, qF]
                  refine Left.ready (rs := [7, 9]) (by kernel_rfl) (by simp) ?_
                  refine Nexts.cons rfl (fun K hK => ?_) (Nexts.cons rfl (fun K hK => ?_) Nexts.nil)
                  · go_simp
                    refine (copyOf_own _ o _ HO1.out (by omega)).mono ?_
                    rintro e v2 ⟨x1, rfl, hcp0, hb2⟩
                    have hcp1 := hcp0
                    obtain ⟨x1d, x1c, rfl⟩ := own_form hcp0
                    have hba := (Below.refl v2.heap.size v2).alloc (Nat.le_refl _) (.cells #[.int .i64 sj] 3)
                    have HB2 := Lib.hid (hb2.trans (hba.mono hb2.size))
                    have hcp := owns_st hcp1 (Below.chg hba fun _ => False) (fun _ _ h => h)
                    refine on_held hK (by decide) ⟨hS0.1.below hb2, (hb2.cell (p := ⟨gy, oy + j, none⟩) hS0.2.2).trans hS0.2.1, Nat.lt_of_lt_of_le hS0.2.2 hb2.size⟩ (fun hS1 => ?_)
                    clear hK K hS0 hcp0 hcp1
                    try simp only [qA, qB, qC, Act.put, qD, qE, qF]
                    refine Left.ready (rs := [9]) (by kernel_rfl) (by simp) ?_
                    refine Nexts.cons rfl (fun K hK => ?_) Nexts.nil
                    go_simp
                    refine on_held hK (by decide) ⟨hS1.1.below hba, (hba.cell (p := ⟨gy, oy + j, none⟩) hS1.2.2).trans hS1.2.1, Nat.lt_of_lt_of_le hS1.2.2 hba.size⟩ (fun hS2 => ?_)
                    clear hK K hb2 hba
                    try simp only [qA, qB, qC, Act.put, qD, qE, qF]

                    refine Left.ready (rs := [10]) (by kernel_rfl) (by simp) ?_
                    refine Nexts.cons rfl (fun K hK => ?_) Nexts.nil
                    have hzo := hcp.1
                    refine step_append_lies _ rfl _ _ 27 rfl v1.heap.size 3 j0 (.int .i64 0) 1 8 Tryz.underlying27 hj hy0 hy1 hy2 rfl (by decide) (.slice x1d o.length x1c) o.length (ints o) rfl hcp ⟨v2.heap.size, 0, none⟩ 1 1 [.int .i64 sj] rfl rfl ?_ ?_ (by decide) (by unfold maxLen; omega) (by omega) ?_ _ rfl ?_
                    · intro i y hy
                      match i, hy with
                      | 0, hy => injection hy with hy; subst hy; rw [add0]; first | exact y0 | go_simp
                    · intro y hy
                      simp only [List.mem_cons, List.not_mem_nil, or_false] at hy
                      subst hy; rfl
                    · have := HB2.out.size; first | exact this | (simp at this ⊢; omega)
                    intro g3 cap3 v3 hown hgr hat hlt3
                    have hrow := World.ownsRow.lt hcp
                    have HB3 := Lib.hid (HB2.out.grown hgr HB2.out.size (fun k hk => (hrow k hk).1))
                    have HR3 := Lib.hid (HR1.out.below HB3.out)
                    have hI3 : IntR v3 (.slice (some ⟨g3, 0, none⟩) (o.length + 1) cap3) (o ++ [sj]) := by
                      have h := ints_of_owns (B := v1.heap.size) (l := o ++ [sj]) (u := .slice (some ⟨g3, 0, none⟩) (o.length + 1) cap3) (v := v3) (by rw [List.length_append, show ints (o ++ [sj]) = ints o ++ [.int .i64 sj] by simp]; exact hown) (by simp; omega)
                      exact Ints.read h
                    have hg3 := (World.ownsRow.lt hown g3 rfl).1
                    have HI3 := Lib.hid hI3
                    have hch := chg_grown hgr
                    have hS3 : NB w.heap.size (.slice (some ⟨gx, ox, none⟩) st.length xcap) (.slice (some ⟨gy, oy, none⟩) ch.length ycap) tt tx v3 ∧ v3.cell? ⟨gy, oy + j, none⟩ = some (.int .i64 cj) ∧ gy < v3.heap.size := ⟨HR3.out.box, (hch.cell (p := ⟨gy, oy + j, none⟩) hS2.2.2 (fun e => by have := (hrow gy e).1; have := HS.out.2.2; omega)).trans hS2.2.1, Nat.lt_of_lt_of_le hS2.2.2 hch.size⟩
                    refine on_held hK (by decide) hS3 (fun hS4 => ?_)
                    clear hK K hown hgr hat hS2 hch hI3 hS1 hrow hzo
                    try simp only [qA, qB, qC, Act.put, qD, qE, qF]
                    refine Left.ready (rs := [11]) (by kernel_rfl) (by simp) ?_
                    refine Nexts.cons rfl (fun K hK => ?_) Nexts.nil
                    go_simp
                    refine (IH.out cj _ (o ++ [sj]) n1 _ ((es ++ ow) ++ e1) xs1 v3 (by have := HF.out; simp; omega) HI3.out (fun b hb => by simp only [Value.ownBlock, Option.some.injEq] at hb; subst hb; exact ⟨by have := HR1.out.rd.lt; omega, fun e => by have := (accE_lt HR1.out.acc g3 e).2; omega⟩) HR3.out.rd HR3.out.acc hn1b (by have := HOL.out; rw [List.length_append, List.length_append]; omega) (HB1.out.trans (HB3.out.mono HB1.out.size))).mono ?_
                    rintro e v4 hrp
                    obtain ⟨rfl, hch4, _⟩ := id hrp
                    have HRC := Lib.hid (RCut.of HR3.out hrp)
                    have hS5 : NB w.heap.size (.slice (some ⟨gx, ox, none⟩) st.length xcap) (.slice (some ⟨gy, oy, none⟩) ch.length ycap) tt tx v4 ∧ v4.cell? ⟨gy, oy + j, none⟩ = some (.int .i64 cj) ∧ gy < v4.heap.size := ⟨HR3.out.box.stand hch4 (fun e => e.elim (fun e => by omega) HR3.out.un0), (hch4.cell (p := ⟨gy, oy + j, none⟩) hS3.2.2 (fun e => e.elim (fun e => by have e : gy = R := e; omega) (fun e => by have := (accE_lt HR3.out.acc gy e).1; omega))).trans hS3.2.1, Nat.lt_of_lt_of_le hS3.2.2 hch4.size⟩
                    refine on_held hK (by decide) hS5 (fun hS6 => ?_)
                    clear hK K hS4 hS3 hS5 hrp hch4
                    generalize (P.read t f cj (o ++ [sj]) n1).isSome = ok at *
                    try simp only [qA, qB, qC, Act.put, qD, qE, qF]
                    refine Left.take (i := 12) (v := .bool (!ok)) rfl (by kernel_rfl) (by kernel_rfl) (by kernel_rfl) (by kernel_rfl) (fun _ _ _ h => h) (Or.inl ⟨by rfl, fun z hz => ?_⟩) hS6 ?_
                    · obtain ⟨⟨b0, b1, b2, b3, k0, k1, k2, k3, hl2⟩, y0, hgy2⟩ := hz
                      go_simp
                    try simp only [qA, qB, qC, Act.put, qD, qE, qF]
                    refine Left.done (by kernel_rfl) ?_ _
                    go_wp2
                    go_meet
                    case rel => exact HRC.out


                  · go_simp
                    have hba := (Below.refl v1.heap.size v1).alloc (Nat.le_refl _) (.cells #[.int .i64 sj] 3)
                    refine on_held hK (by decide) ⟨hS0.1.below hba, (hba.cell (p := ⟨gy, oy + j, none⟩) hS0.2.2).trans hS0.2.1, Nat.lt_of_lt_of_le hS0.2.2 hba.size⟩ (fun hS1 => ?_)
                    clear hK K hS0
                    try simp only [qA, qB, qC, Act.put, qD, qE, qF]
                    refine Left.ready (rs := [7]) (by kernel_rfl) (by simp) ?_
                    refine Nexts.cons rfl (fun K hK => ?_) Nexts.nil
                    go_simp
                    refine (copyOf_own _ o _ (HO1.out.below hba) (by omega)).mono ?_
                    rintro e v2 ⟨x1, rfl, hcp0, hb2⟩
                    have HB2 := Lib.hid (hba.trans (hb2.mono hba.size))
                    have hsrc : v2.cell? ⟨v1.heap.size, 0, none⟩ = some (.int .i64 sj) := (hb2.cell (p := ⟨v1.heap.size, 0, none⟩) (by simp)).trans (by go_simp)
                    have hcp := own_base hcp0 (show v1.heap.size ≤ _ by simp)
                    obtain ⟨x1d, x1c, rfl⟩ := own_form hcp0
                    refine on_held hK (by decide) ⟨hS1.1.below hb2, (hb2.cell (p := ⟨gy, oy + j, none⟩) hS1.2.2).trans hS1.2.1, Nat.lt_of_lt_of_le hS1.2.2 hb2.size⟩ (fun hS2 => ?_)
                    clear hK K hb2 hba hcp0
                    try simp only [qA, qB, qC, Act.put, qD, qE, qF]
                    refine Left.ready (rs := [10]) (by kernel_rfl) (by simp) ?_
                    refine Nexts.cons rfl (fun K hK => ?_) Nexts.nil
                    have hzo := hcp.1
                    refine step_append_lies _ rfl _ _ 27 rfl v1.heap.size 3 j0 (.int .i64 0) 1 8 Tryz.underlying27 hj hy0 hy1 hy2 rfl (by decide) (.slice x1d o.length x1c) o.length (ints o) rfl hcp ⟨v1.heap.size, 0, none⟩ 1 1 [.int .i64 sj] rfl rfl ?_ ?_ (by decide) (by unfold maxLen; omega) (by omega) ?_ _ rfl ?_
                    · intro i y hy
                      match i, hy with
                      | 0, hy => injection hy with hy; subst hy; rw [add0]; first | exact hsrc | go_simp
                    · intro y hy
                      simp only [List.mem_cons, List.not_mem_nil, or_false] at hy
                      subst hy; rfl
                    · have := HB2.out.size; first | exact this | (simp at this ⊢; omega)
                    intro g3 cap3 v3 hown hgr hat hlt3
                    have hrow := World.ownsRow.lt hcp
                    have HB3 := Lib.hid (HB2.out.grown hgr HB2.out.size (fun k hk => (hrow k hk).1))
                    have HR3 := Lib.hid (HR1.out.below HB3.out)
                    have hI3 : IntR v3 (.slice (some ⟨g3, 0, none⟩) (o.length + 1) cap3) (o ++ [sj]) := by
                      have h := ints_of_owns (B := v1.heap.size) (l := o ++ [sj]) (u := .slice (some ⟨g3, 0, none⟩) (o.length + 1) cap3) (v := v3) (by rw [List.length_append, show ints (o ++ [sj]) = ints o ++ [.int .i64 sj] by simp]; exact hown) (by simp; omega)
                      exact Ints.read h
                    have hg3 := (World.ownsRow.lt hown g3 rfl).1
                    have HI3 := Lib.hid hI3
                    have hch := chg_grown hgr
                    have hS3 : NB w.heap.size (.slice (some ⟨gx, ox, none⟩) st.length xcap) (.slice (some ⟨gy, oy, none⟩) ch.length ycap) tt tx v3 ∧ v3.cell? ⟨gy, oy + j, none⟩ = some (.int .i64 cj) ∧ gy < v3.heap.size := ⟨HR3.out.box, (hch.cell (p := ⟨gy, oy + j, none⟩) hS2.2.2 (fun e => by have := (hrow gy e).1; have := HS.out.2.2; omega)).trans hS2.2.1, Nat.lt_of_lt_of_le hS2.2.2 hch.size⟩
                    refine on_held hK (by decide) hS3 (fun hS4 => ?_)
                    clear hK K hown hgr hat hS2 hch hI3 hS1 hrow hzo
                    try simp only [qA, qB, qC, Act.put, qD, qE, qF]
                    refine Left.ready (rs := [11]) (by kernel_rfl) (by simp) ?_
                    refine Nexts.cons rfl (fun K hK => ?_) Nexts.nil
                    go_simp
                    refine (IH.out cj _ (o ++ [sj]) n1 _ ((es ++ ow) ++ e1) xs1 v3 (by have := HF.out; simp; omega) HI3.out (fun b hb => by simp only [Value.ownBlock, Option.some.injEq] at hb; subst hb; exact ⟨by have := HR1.out.rd.lt; omega, fun e => by have := (accE_lt HR1.out.acc g3 e).2; omega⟩) HR3.out.rd HR3.out.acc hn1b (by have := HOL.out; rw [List.length_append, List.length_append]; omega) (HB1.out.trans (HB3.out.mono HB1.out.size))).mono ?_
                    rintro e v4 hrp
                    obtain ⟨rfl, hch4, _⟩ := id hrp
                    have HRC := Lib.hid (RCut.of HR3.out hrp)
                    have hS5 : NB w.heap.size (.slice (some ⟨gx, ox, none⟩) st.length xcap) (.slice (some ⟨gy, oy, none⟩) ch.length ycap) tt tx v4 ∧ v4.cell? ⟨gy, oy + j, none⟩ = some (.int .i64 cj) ∧ gy < v4.heap.size := ⟨HR3.out.box.stand hch4 (fun e => e.elim (fun e => by omega) HR3.out.un0), (hch4.cell (p := ⟨gy, oy + j, none⟩) hS3.2.2 (fun e => e.elim (fun e => by have e : gy = R := e; omega) (fun e => by have := (accE_lt HR3.out.acc gy e).1; omega))).trans hS3.2.1, Nat.lt_of_lt_of_le hS3.2.2 hch4.size⟩
                    refine on_held hK (by decide) hS5 (fun hS6 => ?_)
                    clear hK K hS4 hS3 hS5 hrp hch4
                    generalize (P.read t f cj (o ++ [sj]) n1).isSome = ok at *
                    try simp only [qA, qB, qC, Act.put, qD, qE, qF]
                    refine Left.take (i := 12) (v := .bool (!ok)) rfl (by kernel_rfl) (by kernel_rfl) (by kernel_rfl) (by kernel_rfl) (fun _ _ _ h => h) (Or.inl ⟨by rfl, fun z hz => ?_⟩) hS6 ?_
                    · obtain ⟨⟨b0, b1, b2, b3, k0, k1, k2, k3, hl2⟩, y0, hgy2⟩ := hz
                      go_simp
                    try simp only [qA, qB, qC, Act.put, qD, qE, qF]
                    refine Left.done (by kernel_rfl) ?_ _
                    go_wp2
                    go_meet
                    case rel => exact HRC.out


                case rest =>
                  obtain ⟨rfl, hch, hsome⟩ := hcut
                  have HCH := Lib.hid hch; have HSM := Lib.hid hsome
                  clear hch hsome HR1 HB1 HO1 HS
                  generalize hr : P.read t f cj (o ++ [sj]) n1 = r at HCO HSM ⊢
                  cases r with
                  | none =>
                    have HN := Lib.hid (show (P.readK (P.read t f) o (st.zip ch) (nx + 1)).map (fun r => (r.1, P.own o (st, ch, tt, tx) ++ r.2)) = none by rw [HRD.out, HCO.out]; rfl)
                    clear hr
                    go_wp2
                    go_ret
                    exact ReadP.none_of HN.out HCH.out
                  | some r =>
                    obtain ⟨n2, e2⟩ := r
                    obtain ⟨u3, xs3, hri3⟩ := HSM.out n2 e2 rfl
                    have HR3 := Lib.hid hri3
                    have hbd := P.read_bound t f cj (o ++ [sj]) n1 n2 e2 hr
                    clear hr hri3
                    go_wp2
                    go_roundw
                    case rel =>
                      refine ⟨j + 1, n2, e1 ++ e2, u3, xs3, by omega, by go_num, by rw [← List.append_assoc]; exact HR3.out, ⟨by omega, by omega, by rw [List.length_append]; omega⟩, ?_⟩
                      rw [HRD.out, HCO.out]
                      simp only
                      generalize P.readK (P.read t f) o ((st.zip ch).drop (j + 1)) n2 = z
                      cases z with
                      | none => rfl
                      | some z => simp
                    case measure => simp [intOf]; omega
              · have hz : ((st.zip ch).drop j) = [] := List.drop_eq_nil_of_le (by rw [List.length_zip]; omega)
                have HN := Lib.hid (show (P.readK (P.read t f) o (st.zip ch) (nx + 1)).map (fun r => (r.1, P.own o (st, ch, tt, tx) ++ r.2)) = some (n1, ow ++ e1) by rw [HRD.out, hz, HOW.out]; simp [P.readK])
                have i5 : ¬ (j : Int) < (st.length : Int) := by omega
                clear hz hbr
                go_wp2
                go_ret
                exact ReadP.some_of HN.out HRR.out.chg HRR.out.rd (by rw [← List.append_assoc]; exact HRR.out.acc) (fun b hb => (HRR.out.un b hb).imp id fun h => h.1)
        · rw [HRE.out, if_neg hlen]
          have i3 : ((st.length : Int) == (ch.length : Int)) = false := by simp; omega
          have i4 : ((st.length : Int) != (ch.length : Int)) = true := by simp; omega
          have HCH := Lib.hid HRI.out.chg
          clear HRE
          go_enter Tryz.func175, Tryz.ntmps175
          go_wp2_with fail
          go_ret
          exact ⟨rfl, HCH.out, fun _ _ h => by cases h⟩
      · rw [P.read_no (.inr (fun h => h2 h.2))]
        obtain ⟨c0, c1, _, _, _, _, _⟩ := hrd
        obtain ⟨oad, ocap, rfl, _, _⟩ := ho
        have i1 : (t.length : Int) ≤ (nx : Int) := by omega
        clear ih hacc hob
        go_enter Tryz.func175, Tryz.ntmps175
        go_wp2_with fail
        go_ret
        exact ⟨rfl, Chg.refl _ _, fun _ _ h => by cases h⟩
    · rw [P.read_no (.inr (fun h => h1 h.1))]
      have hq : (k == (nx : Int)) = false := by simpa using h1
      obtain ⟨c0, c1, _, _, _, _, _⟩ := hrd
      obtain ⟨oad, ocap, rfl, _, _⟩ := ho
      clear ih hacc hob
      go_enter Tryz.func175, Tryz.ntmps175
      go_wp2_with fail
      go_ret
      exact ⟨rfl, Chg.refl _ _, fun _ _ h => by cases h⟩
end
end Go.Proofs.YtkjidjomlpnnlaaGreatDoor
