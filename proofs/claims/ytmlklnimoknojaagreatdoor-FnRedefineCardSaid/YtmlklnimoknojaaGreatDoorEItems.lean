/- Walks: a dictionary that the cursor draws. -/
import Derived.Deep.DeepCutAuto
import Derived.Test.YtmlklnimoknojaaGreatDoorCurE2
import Derived.Test.YtmlklnimoknojaaGreatDoorPut3
import Derived.Test.YtmlklnimoknojaaGreatDoorIns1
import Derived.Test.YtmlklnimoknojaaGreatDoorMemE
namespace Go.Proofs.YtmlklnimoknojaaGreatDoor
open Go Go.RowKit
set_option maxHeartbeats 4000000
set_option maxRecDepth 100000
structure Drawn (l : P.Dic) : Prop where
  len : l.length ≤ 60
  outs : ∀ e ∈ l, e.1.length ≤ 8
  texts : ∀ e ∈ l, e.2.length ≤ 300
theorem Drawn.small {l : P.Dic} (h : Drawn l) : Small l := ⟨by have := h.len; omega, fun e he => by have := h.outs e he; omega, fun e he => by have := h.texts e he; omega⟩
theorem putF_pos (e : P.Ent) (l : P.Dic) : 0 < (P.putF e false l).length := List.length_pos_of_mem ((P.putF_mem e l e).2 (.inl rfl))
theorem putF_sub {e x : P.Ent} {l : P.Dic} (h : x ∈ P.putF e false l) : x = e ∨ x ∈ l := by
  rcases (P.putF_mem e l x).1 h with h | h
  · exact .inl h
  · exact .inr (P.del_sub h)
def WholeE (lo : Nat) (v : World) (u : Value) (n : Nat) : Prop := ∃ B xs, lo ≤ B ∧ v.ownsRow B 47 2 u n xs
theorem WholeE.stand {lo : Nat} {v v' : World} {u : Value} {n : Nat} {X : Blk} (h : WholeE lo v u n) (hc : Chg X v v') (hX : ∀ k, lo ≤ k → k < v.heap.size → ¬ X k) : WholeE lo v' u n := by
  obtain ⟨B, xs, h1, h2⟩ := h
  exact ⟨B, xs, h1, owns_stand h2 hc fun k hk => by have h3 := World.ownsRow.lt h2 k hk; exact hX k (by omega) h3.2⟩
def DicDrawn (B C K : Nat) (w : World) (e : Ending) (w' : World) : Prop := ∃ (l : P.Dic) (u : Value), e = .returned (.agg #[u]) ∧ Drawn l ∧ l.length ≤ 9 ∧ 0 < l.length ∧ Ents w' (Bet w.heap.size w'.heap.size) u l ∧ WholeE w.heap.size w' u l.length ∧ CurPost B C K w w'
def Short (l : P.Dic) : Prop := (∀ e ∈ l, e.1.length ≤ 3) ∧ l.Pairwise P.lt
theorem Short.put {l : P.Dic} (h : Short l) {o : List Int} {t : Str} (ho : o.length ≤ 3) : Short (P.putF (o, t) false l) :=
  ⟨fun e he => (putF_sub he).elim (fun e' => by rw [e']; exact ho) (h.1 e), P.putF_rising _ _ h.2⟩
def DicDrawnU (B C K : Nat) (w : World) (e : Ending) (w' : World) : Prop := ∃ (l : P.Dic) (u : Value), e = .returned (.agg #[u]) ∧ Drawn l ∧ Short l ∧ l.length ≤ 9 ∧ 0 < l.length ∧ Ents w' (Bet w.heap.size w'.heap.size) u l ∧ WholeE w.heap.size w' u l.length ∧ CurPost B C K w w'
def DBx (b : Nat) (u : Value) (v : World) : Prop := v.cell? ⟨b, 0, none⟩ = some u ∧ v.frozen? ⟨b, 0, none⟩ = false ∧ b < v.heap.size
theorem DBx.stand {b : Nat} {u : Value} {v v' : World} {X : Blk} (h : DBx b u v) (hc : Chg X v v') (hX : ¬ X b) : DBx b u v' :=
  ⟨(hc.cell (p := ⟨b, 0, none⟩) h.2.2 hX).trans h.1, (hc.frozen (p := ⟨b, 0, none⟩) h.2.2 hX).trans h.2.1, Nat.lt_of_lt_of_le h.2.2 hc.size⟩
theorem DBx.below {b : Nat} {u : Value} {v v' : World} (h : DBx b u v) (hb : Below v.heap.size v v') : DBx b u v' := h.stand (Below.chg hb fun _ => False) fun h => h
theorem DBx.new (u : Value) (t : TypeId) (v : World) : DBx v.heap.size u (v.alloc (.cells #[u] t)) := by
  refine ⟨?_, ?_, ?_⟩ <;> go_simp
theorem DBx.put {b : Nat} {u u' : Value} {v : World} (h : DBx b u v) : DBx b u' (v.setCell ⟨b, 0, none⟩ u') :=
  ⟨World.cell?_setCell_same _ _ _ h.1, by simpa using h.2.1, by simpa [World.setCell] using h.2.2⟩
def DRun (B C K : Nat) (w v : World) (l : P.Dic) (u : Value) : Prop :=
  (∃ a c, u = .slice a l.length c) ∧ (Drawn l ∧ Short l) ∧ Ents v (Bet (w.heap.size + 2) v.heap.size) u l ∧ WholeE (w.heap.size + 2) v u l.length ∧ DBx (w.heap.size + 1) u v ∧ DBx w.heap.size (.slice none 0 0) v ∧ CurPost B C K w v
theorem cur_dictionaryU (B C N : Nat) (w : World) (hN : N < 2 ^ 33) (h : IsCur B C N w) :
    Calls Tryz.prog 113 #[.pointer (some ⟨C, 0, none⟩)] w (DicDrawnU B C (N + 1000) w) := by
  have hlt := h.lt
  have hba : Below w.heap.size w ((w.alloc (.cells #[.slice none 0 0] 26)).alloc (.cells #[.slice none 0 0] 26)) := ((Below.refl w.heap.size w).alloc (Nat.le_refl _) _).alloc (by simp) _
  have HC := Lib.hid ((CurPost.refl h (Nat.le_refl N)).below hba)
  have HD1 := Lib.hid (show DBx (w.heap.size + 1) (.slice none 0 0) ((w.alloc (.cells #[.slice none 0 0] 26)).alloc (.cells #[.slice none 0 0] 26)) by have h := DBx.new (.slice none 0 0) 26 (w.alloc (.cells #[.slice none 0 0] 26)); simpa using h)
  have HD0 := Lib.hid ((DBx.new (.slice none 0 0) 26 w).below ((Below.refl _ _).alloc (Nat.le_refl _) (.cells #[.slice none 0 0] 26)))
  clear h hba
  go_enter Tryz.func113, Tryz.ntmps113
  go_wp2_with fail
  refine (cur_pick B C N 7 _ (by omega) (by decide) HC.out.1).mono ?_
  rintro e w1 ⟨x, hx, rfl, hc⟩
  have hx7 : x < 7 := by omega
  have HR := Lib.hid (show DRun B C (N + 2) w w1 [] (.slice none 0 0) from ⟨⟨none, 0, rfl⟩, ⟨⟨by simp, (fun e h => by cases h), (fun e h => by cases h)⟩, (fun e h => by cases h), List.Pairwise.nil⟩, RowO.nil _ _, ⟨w.heap.size + 2, [], Nat.le_refl _, World.ownsRow_nil _ _ _ _⟩, HD1.out.stand hc.2 (by omega), HD0.out.stand hc.2 (by omega), HC.out.trans hc⟩)
  clear hc hx HC HD1 HD0
  go_wp2_with fail
  go_loopw [4] (fun n wr => ∃ (l : P.Dic) (u : Value) (k : Nat), l.length + k ≤ 9 ∧ (0 < l.length ∨ 0 < k) ∧ n = .int .i64 k ∧ DRun B C (N + 1000 - 100 * k) w wr l u) (fun n _ => (intOf n).toNat)
  case atStart =>
    obtain ⟨h1, h2, h3, h4, h5, h6, h7⟩ := HR.out
    exact ⟨[], _, x + 3, by simp; omega, .inr (by omega), by go_num, h1, h2, h3, h4, h5, h6, h7.mono (by omega)⟩
  case round =>
    obtain ⟨l, u, k, hk, hpos, rfl, hr⟩ := hrel
    have H3 := Lib.hid hr
    obtain ⟨⟨ua, uc, rfl⟩, hdr, hen, hwh, hbx, hbr, hcp⟩ := hr
    by_cases hp : 0 < k
    · have hS := Lib.hid (show wr.drew.cell? ⟨w.heap.size + 1, 0, none⟩ = some (.slice ua l.length uc) ∧ wr.drew.frozen? ⟨w.heap.size + 1, 0, none⟩ = false from ⟨hbx.1, hbx.2.1⟩)
      have HE1 := Lib.hid (hen.below entE_ok (Below.refl wr.heap.size wr).drew)
      have HW1 := Lib.hid (hwh.stand (X := fun _ => False) (Below.chg (Below.refl wr.heap.size wr).drew _) (fun _ _ _ h => h))
      have HB1 := Lib.hid (hbx.below (Below.refl wr.heap.size wr).drew)
      have HB0 := Lib.hid (hbr.below (Below.refl wr.heap.size wr).drew)
      have HC1 := Lib.hid hcp.drew
      have HDR := Lib.hid hdr.1; have HSH := Lib.hid hdr.2
      have HPS := Lib.hid hpos
      clear hen hwh hbx hbr hcp hdr hpos
      go_upto_region 5 with fail
      refine Left.region [4] (S := fun v => v.cell? ⟨w.heap.size + 1, 0, none⟩ = some (.slice ua l.length uc) ∧ v.frozen? ⟨w.heap.size + 1, 0, none⟩ = false) (by kernel_rfl) hS.out (fun hS0 => ?_)
      generalize wr.drew = v0 at *
      refine Left.take (i := 0) (v := .agg #[.slice ua l.length uc]) rfl (by kernel_rfl) (by kernel_rfl) (by kernel_rfl) (by kernel_rfl) (fun _ _ _ h => h) (Or.inl ⟨by rfl, fun z hz => ?_⟩) hS0 ?_
      · obtain ⟨z1, z2⟩ := hz
        go_simp
      try simp only [qA, qB, Act.put, qD, qE, qF]
      refine Left.take (i := 1) (v := .pointer (some ⟨C, 0, none⟩)) rfl (by kernel_rfl) (by kernel_rfl) (by kernel_rfl) (by kernel_rfl) (fun _ _ _ h => h) (Or.inl ⟨by rfl, fun z hz => ?_⟩) hS0 ?_
      · obtain ⟨z1, z2⟩ := hz
        go_simp
      try simp only [qA, qB, qC, Act.put, qD, qE, qF]
      refine Left.ready (rs := [2]) (by kernel_rfl) (by simp) ?_
      refine Nexts.cons rfl (fun K hK => ?_) Nexts.nil
      go_simp
      refine (cur_entry B C (N + 1000 - 100 * k) _ (by omega) HC1.out.1).mono ?_
      rintro e v1 ⟨o, t, x, rfl, ho, ht, hI, hc⟩
      have hz0 : w.heap.size + 1 < v0.heap.size := HB1.out.2.2
      have hz1 : v0.heap.size ≤ v1.heap.size := hc.2.size
      have HE2 := Lib.hid (HE1.out.stand entE_ok hc.2 (fun b hb e => by have h1 := hb.1; omega))
      have HB2 := Lib.hid (HB1.out.stand hc.2 (by omega))
      have HB02 := Lib.hid (HB0.out.stand hc.2 (by omega))
      have HC2 := Lib.hid (HC1.out.trans hc)
      have HI := Lib.hid hI
      refine on_held hK (by decide) ⟨HB2.out.1, HB2.out.2.1⟩ (fun hS1 => ?_)
      clear hK K hc hI HE1 HB1 HB0 HC1
      obtain ⟨xd, xc, rfl, _, _⟩ := id HI.out
      try simp only [qA, qB, qC, Act.put, qD, qE, qF]
      refine Left.ready (rs := [3]) (by kernel_rfl) (by simp) ?_
      refine Nexts.cons rfl (fun K hK => ?_) Nexts.nil
      go_simp
      refine (l6PutO _ _ l o t _ (Ents.read HE2.out) (Ints.read HI.out) HDR.out.small.len HDR.out.small.outs (by omega)).mono ?_
      rintro e v2 ⟨u2, rfl, hI2, hw2, hb⟩
      have hz2 : v1.heap.size ≤ v2.heap.size := hb.size
      have HB3 := Lib.hid (HB2.out.below hb); have HB03 := Lib.hid (HB02.out.below hb); have HC3 := Lib.hid (HC2.out.below hb)
      have HI2 := Lib.hid hI2; have HW2 := Lib.hid (show WholeE v1.heap.size v2 u2 (P.putF (o, t) false l).length from hw2)
      refine on_held hK (by decide) ⟨HB3.out.1, HB3.out.2.1⟩ (fun hS2 => ?_)
      clear hK K hb hI2 hw2 HB2 HB02 HC2
      obtain ⟨u2d, u2c, rfl, _, _⟩ := id HI2.out
      try simp only [qA, qB, qC, Act.put, qD, qE, qF]
      refine Left.ready (rs := [4]) (by kernel_rfl) (by simp) ?_
      refine Nexts.cons rfl (fun K hK => ?_) Nexts.nil
      obtain ⟨k0, k1, _⟩ := HB3.out
      go_simp
      refine on_last hK (by decide) ?_
      clear hK K
      try simp only [qA, qB, qC, Act.put, qD, qE, qF]
      refine Left.done (by kernel_rfl) ?_ _
      have HPL := Lib.hid (P.put_len (o, t) l)
      have HRUN := Lib.hid (show DRun B C (N + 1000 - 100 * (k - 1)) w (v2.setCell ⟨w.heap.size + 1, 0, none⟩ (.slice u2d (P.putF (o, t) false l).length u2c)) (P.putF (o, t) false l) (.slice u2d (P.putF (o, t) false l).length u2c) from by
        have hset : Chg (fun b => b = w.heap.size + 1) v2 (v2.setCell ⟨w.heap.size + 1, 0, none⟩ (.slice u2d (P.putF (o, t) false l).length u2c)) := (Chg.refl (fun b => b = w.heap.size + 1) v2).setCell (p := ⟨w.heap.size + 1, 0, none⟩) rfl _
        have hsz : (v2.setCell ⟨w.heap.size + 1, 0, none⟩ (.slice u2d (P.putF (o, t) false l).length u2c)).heap.size = v2.heap.size := by simp [World.setCell]
        refine ⟨⟨_, _, rfl⟩, ⟨⟨?_, ?_, ?_⟩, HSH.out.put ho⟩, ?_, ?_, HB3.out.put, HB03.out.stand hset (by omega), (HC3.out.set (g := w.heap.size + 1) (i := 0) (by omega) hlt.2 (by omega) _).mono (by omega)⟩
        · have := HPL.out; have := HDR.out.len; omega
        · intro e he
          rcases putF_sub he with rfl | he
          · show o.length ≤ 8; omega
          · exact HDR.out.outs e he
        · intro e he
          rcases putF_sub he with rfl | he
          · exact ht
          · exact HDR.out.texts e he
        · refine (HI2.out.stand entE_ok hset (fun b hb e => by have h1 := hb.1; omega)).wide (fun b hb => ⟨by have h1 := hb.1; omega, by rw [hsz]; exact hb.2⟩) (fun b hb => hb.2)
        · obtain ⟨B1, xs, h1, h2⟩ := HW2.out.stand hset (fun k h1 h2 e => by omega)
          exact ⟨B1, xs, by omega, h2⟩)
      have HPP := Lib.hid (putF_pos (o, t) l)
      clear hS0 hS1 hS2 hS HE2 HI HI2 HW2 HB3 HB03 HC3 k0 k1 HW1
      generalize v2.setCell ⟨w.heap.size + 1, 0, none⟩ (.slice u2d (P.putF (o, t) false l).length u2c) = v3 at *
      go_wp2
      go_roundw
      case rel => exact ⟨_, _, k - 1, by have := HPL.out; omega, .inl HPP.out, by go_num, HRUN.out⟩
      case measure => simp [intOf]; omega
    · have HPS := Lib.hid (show 0 < l.length by omega)
      have HDR := Lib.hid hdr; have HEN := Lib.hid hen; have HWH := Lib.hid hwh; have HCP := Lib.hid hcp; have HBX := Lib.hid hbx; have HBR := Lib.hid hbr
      obtain ⟨b0, f0, z0⟩ := hbx
      obtain ⟨r0, g0, y0⟩ := hbr
      clear hdr hen hwh hcp hpos
      go_wp2
      refine bodyPost_ret (v := .agg #[.slice ua l.length uc]) (by simp [results, Tryz.results113, go_sem, r0]) rfl ⟨l, _, rfl, HDR.out.1, HDR.out.2, by omega, HPS.out, ?_, ?_, ?_⟩
      · refine ents_done w.heap.size HEN.out fun b hb => ?_
        have h1 := hb.1; have h2 := hb.2
        omega
      · obtain ⟨B1, xs, h1, h2⟩ := HWH.out.stand ((Chg.refl (fun b => b = w.heap.size) wr).setCell (p := ⟨w.heap.size, 0, none⟩) rfl (.slice ua l.length uc)) (fun k h1 h2 e => by omega)
        exact ⟨B1, xs, by omega, h2⟩
      · exact (HCP.out.set (g := w.heap.size) (i := 0) (Nat.le_refl _) hlt.2 (by omega) _).mono (by omega)
theorem cur_dictionary (B C N : Nat) (w : World) (hN : N < 2 ^ 33) (h : IsCur B C N w) :
    Calls Tryz.prog 113 #[.pointer (some ⟨C, 0, none⟩)] w (DicDrawn B C (N + 1000) w) :=
  (cur_dictionaryU B C N w hN h).mono fun _ _ ⟨l, u, h1, h2, _, h4⟩ => ⟨l, u, h1, h2, h4⟩
end Go.Proofs.YtmlklnimoknojaaGreatDoor
namespace Go.Proofs.YtmlklnimoknojaaGreatDoor
open Go Go.RowKit
set_option maxHeartbeats 1000000
abbrev EIt := (Value × P.Ent) × Blk
structure EOk (v : World) (F : Blk) (its : List EIt) : Prop where
  ent : ∀ t ∈ its, Ints v t.2 t.1.1 t.1.2.1
  sub : ∀ t ∈ its, ∀ b, t.2 b → F b
  apart : its.Pairwise fun a b => ∀ x, a.2 x → b.2 x → False
theorem EOk.keep {v v' : World} {F : Blk} {its : List EIt} (h : EOk v F its) (hk : Kept F v v') : EOk v' F its :=
  ⟨fun t ht => (h.ent t ht).keep intE_ok (hk.mono fun b hb => h.sub t ht b hb), h.sub, h.apart⟩
theorem Ents.items {v : World} {F : Blk} {ad : Option Addr} {n cap : Nat} {l : P.Dic} (h : Ents v F (.slice ad n cap) l) : ∃ its : List EIt, its.map (·.1.2) = l ∧ EOk v F its ∧
    ∀ (j : Nat) (hj : j < its.length), ∃ g o, ad = some ⟨g, o, none⟩ ∧ F g ∧ g < v.heap.size ∧ v.cell? ⟨g, o + j * 2, none⟩ = some (its[j]'hj).1.1 ∧ v.cell? ⟨g, o + j * 2 + 1, none⟩ = some (.string (S (its[j]'hj).1.2.2)) := by
  obtain ⟨ad', cap', he, h1, hn, h3⟩ := h
  injection he with e1 e2 e3
  subst e1
  rcases h3 with rfl | ⟨g, o, G, C, rfl, hr⟩
  · exact ⟨[], rfl, ⟨(fun _ h => by cases h), (fun _ h => by cases h), List.Pairwise.nil⟩, fun j hj => absurd hj (Nat.not_lt_zero _)⟩
  · have hx : ∀ j, ∃ x, ∀ hj : j < l.length, C j = [x, .string (S (l[j]'hj).2)] ∧ Ints v (G j) x (l[j]'hj).1 := by
      intro j
      by_cases hj : j < l.length
      · obtain ⟨x, h1, h2⟩ := hr.el j hj
        exact ⟨x, fun _ => ⟨h1, h2⟩⟩
      · exact ⟨.int .i64 0, fun h => absurd h hj⟩
    obtain ⟨f, hf⟩ := Classical.axiomOfChoice hx
    refine ⟨List.ofFn fun j : Fin l.length => ((f j, l[j]), G j), ?_, ⟨?_, ?_, ?_⟩, ?_⟩
    · refine List.ext_getElem (by simp) fun i h1 h2 => by simp
    · intro t ht
      obtain ⟨j, rfl⟩ := List.mem_ofFn.1 ht
      exact (hf j j.2).2
    · intro t ht
      obtain ⟨j, rfl⟩ := List.mem_ofFn.1 ht
      exact fun b hb => (hr.sub j j.2 b hb).1
    · rw [List.pairwise_iff_getElem]
      intro i j hi hj hij x h1 h2
      simp only [List.getElem_ofFn] at h1 h2
      exact hr.apart i j hij (by simpa using hj) x h1 h2
    · intro j hj
      have hj' : j < l.length := by simpa using hj
      refine ⟨g, o, rfl, hr.own, hr.lt _ hr.own, ?_, ?_⟩
      · have h := hr.cel j hj' 0 (by rw [(hf j hj').1]; simp)
        simp only [(hf j hj').1, List.getElem_cons_zero, Nat.add_zero] at h
        rw [List.getElem_ofFn]; exact h.1
      · have h := hr.cel j hj' 1 (by rw [(hf j hj').1]; simp)
        simp only [(hf j hj').1, List.getElem_cons_zero, List.getElem_cons_succ] at h
        rw [List.getElem_ofFn]; exact h.1
abbrev ecells (its : List EIt) : List Value := its.flatMap fun t => [t.1.1, .string (S t.1.2.2)]
theorem ecells_length : ∀ its : List EIt, (ecells its).length = its.length * 2
  | [] => rfl
  | t :: its => by
    have h := ecells_length its
    simp only [ecells, List.flatMap_cons, List.length_append, List.length_cons, List.length_nil] at h ⊢
    omega
theorem ecells_get : ∀ (its : List EIt) (j : Nat) (h : j < its.length), (ecells its)[j * 2]? = some (its[j]'h).1.1 ∧ (ecells its)[j * 2 + 1]? = some (.string (S (its[j]'h).1.2.2))
  | t :: its, 0, _ => ⟨rfl, rfl⟩
  | t :: its, j + 1, h => by
    have := ecells_get its j (by simpa using h)
    have e : ecells (t :: its) = t.1.1 :: .string (S t.1.2.2) :: ecells its := rfl
    rw [e, show (j + 1) * 2 = j * 2 + 1 + 1 by omega]
    simpa using this
theorem ecells_append (a b : List EIt) : ecells (a ++ b) = ecells a ++ ecells b := by unfold ecells; rw [List.flatMap_append]
theorem ents_of_items {B : Nat} {v : World} {F : Blk} {g c : Nat} {its : List EIt} (hown : v.ownsRow B 47 2 (.slice (some ⟨g, 0, none⟩) its.length c) its.length (ecells its)) (ho : EOk v F its) (hF : ∀ b, F b → b < v.heap.size) (hg : ¬ F g) (hl : its.length ≤ 2 ^ 30) :
    Ents v (fun b => F b ∨ b = g) (.slice (some ⟨g, 0, none⟩) its.length c) (its.map (·.1.2)) := by
  have hlt := World.ownsRow.lt hown g rfl
  rcases id hown.2 with ⟨hv, _⟩ | ⟨g', cap, cur, hv, _, _, hnc, _⟩
  · cases hv
  · injection hv with e1 e2 e3
    subst e3
    refine ⟨_, c, by rw [List.length_map], by rw [List.length_map]; exact hl, ⟨(fun h => by cases h), by rw [List.length_map]; exact hnc⟩, .inr ⟨g, 0, fun j => match its[j]? with | some t => t.2 | none => fun _ => False, fun j => match its[j]? with | some t => [t.1.1, .string (S t.1.2.2)] | none => [], rfl, RowC.mk_at _ _ (.inr rfl) (fun b hb => by rcases hb with hb | rfl; exact hF b hb; exact hlt.2) (fun j hj => ?_) (fun i j hij hj b h1 h2 => ?_)⟩⟩
    · have hj' : j < its.length := by simpa using hj
      have e : its[j]? = some (its[j]'hj') := List.getElem?_eq_getElem hj'
      have hm := List.getElem_mem hj'
      simp only [e]
      refine ⟨?_, rfl, ?_, fun b hb => ?_⟩
      · obtain ⟨a, b⟩ := ecells_get its j hj'
        intro i hi
        have hi2 : i < 2 := by simpa using hi
        have c := World.ownsRow.cellAt hown (j * 2 + i) (by omega)
        refine ⟨?_, World.ownsRow.frozenAt hown _⟩
        rw [show 0 + j * 2 + i = 0 + (j * 2 + i) by omega, Nat.zero_add] at *
        rw [c]
        rcases (show i = 0 ∨ i = 1 by omega) with rfl | rfl
        · exact a
        · exact b
      · refine ⟨(its[j]'hj').1.1, by simp, ?_⟩
        have := ho.ent _ hm
        simpa using this
      · exact ⟨.inl (ho.sub _ hm b hb), fun e => hg (e ▸ ho.sub _ hm b hb)⟩
    · have hj' : j < its.length := by simpa using hj
      have ei : its[i]? = some (its[i]'(by omega)) := List.getElem?_eq_getElem (by omega)
      have ej : its[j]? = some (its[j]'hj') := List.getElem?_eq_getElem hj'
      simp only [ei] at h1
      simp only [ej] at h2
      exact (List.pairwise_iff_getElem.1 ho.apart) i j (by omega) hj' hij b h1 h2
theorem Ents.whole_items {v : World} {F : Blk} {B : Nat} {u : Value} {l : P.Dic} {xs : List Value} (h : Ents v F u l) (hw : v.ownsRow B 47 2 u l.length xs) (hn : 0 < l.length) :
    ∃ g cap its, u = .slice (some ⟨g, 0, none⟩) l.length cap ∧ B ≤ g ∧ g < v.heap.size ∧ F g ∧ its.map (·.1.2) = l ∧ xs = ecells its ∧ EOk v (fun b => F b ∧ b ≠ g) its := by
  rcases id hw.2 with ⟨_, h0⟩ | ⟨g, cap, cur, rfl, hg, hh, hnc, hcm, hcs, htk⟩
  · omega
  · obtain ⟨ad', cap', he, h1, hnn, h3⟩ := h
    injection he with e1 e2 e3
    rcases h3 with rfl | ⟨g', o, G, C, h4, hr⟩
    · exact absurd hn (Nat.lt_irrefl _)
    · rw [h4] at e1
      injection e1 with e1
      injection e1 with e1 e5
      subst e1 e5
      have hx : ∀ j, ∃ x, ∀ hj : j < l.length, C j = [x, .string (S (l[j]'hj).2)] ∧ Ints v (G j) x (l[j]'hj).1 := by
        intro j
        by_cases hj : j < l.length
        · obtain ⟨x, h1, h2⟩ := hr.el j hj
          exact ⟨x, fun _ => ⟨h1, h2⟩⟩
        · exact ⟨.int .i64 0, fun h => absurd h hj⟩
      obtain ⟨f, hf⟩ := Classical.axiomOfChoice hx
      refine ⟨g, cap, List.ofFn fun j : Fin l.length => ((f j, l[j]), G j), rfl, hg, hr.lt _ hr.own, hr.own, ?_, ?_, ⟨?_, ?_, ?_⟩⟩
      · refine List.ext_getElem (by simp) fun i h1 h2 => by simp
      · apply List.ext_getElem?
        intro i
        have hcell := World.ownsRow.cells hw (g := g) rfl
        by_cases hi : i < l.length * 2
        · have hil : i < xs.length := by rw [hw.1]; exact hi
          have hc := hcell i (xs[i]'hil) (List.getElem?_eq_getElem hil)
          rw [add0] at hc
          rw [List.getElem?_eq_getElem hil]
          have hj : i / 2 < l.length := by omega
          have hj' : i / 2 < (List.ofFn fun j : Fin l.length => (((f j, l[j]), G j) : EIt)).length := by simpa using hj
          obtain ⟨a, b⟩ := ecells_get (List.ofFn fun j : Fin l.length => (((f j, l[j]), G j) : EIt)) (i / 2) hj'
          simp only [List.getElem_ofFn] at a b
          rcases Nat.mod_two_eq_zero_or_one i with hm | hm
          · have h := (hr.cel (i / 2) hj 0 (by rw [(hf _ hj).1]; simp)).1
            simp only [(hf _ hj).1, List.getElem_cons_zero] at h
            rw [show 0 + i / 2 * 2 + 0 = i by omega, hc] at h
            rw [show i / 2 * 2 = i by omega] at a
            rw [a, h]
          · have h := (hr.cel (i / 2) hj 1 (by rw [(hf _ hj).1]; simp)).1
            simp only [(hf _ hj).1, List.getElem_cons_zero, List.getElem_cons_succ] at h
            rw [show 0 + i / 2 * 2 + 1 = i by omega, hc] at h
            rw [show i / 2 * 2 + 1 = i by omega] at b
            rw [b, h]
            rfl
        · rw [List.getElem?_eq_none (by rw [hw.1]; omega), List.getElem?_eq_none (by rw [ecells_length]; simp; omega)]
      · intro t ht
        obtain ⟨j, rfl⟩ := List.mem_ofFn.1 ht
        exact (hf j j.2).2
      · intro t ht
        obtain ⟨j, rfl⟩ := List.mem_ofFn.1 ht
        exact fun b hb => hr.sub j j.2 b hb
      · rw [List.pairwise_iff_getElem]
        intro i j hi hj hij x h1 h2
        simp only [List.getElem_ofFn] at h1 h2
        exact hr.apart i j hij (by simpa using hj) x h1 h2
end Go.Proofs.YtmlklnimoknojaaGreatDoor
