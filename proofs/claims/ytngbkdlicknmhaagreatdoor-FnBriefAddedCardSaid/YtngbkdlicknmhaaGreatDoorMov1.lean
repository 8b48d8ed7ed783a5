/- Walks: an element put into a row of layers (the library's Insert), where there is room. -/
import Derived.Laws.Externs
import Derived.Lib.Overlaps
import Derived.Test.YtngbkdlicknmhaaGreatDoorRem3
namespace Go.Proofs.YtngbkdlicknmhaaGreatDoor
section
variable {P : Program}
/-- copy of elements of any size -/
theorem run_copy_wide (w : World) (dT sT ty elem : TypeId) (i : TypeInfo) (b o dLen dCap : Nat) (a : Addr) (sLen sCap n : Nat) (cs : List Value)
    (hu : P.underlying dT = some (.slice elem)) (hi : P.info? elem = some i) (hn : Nat.min sLen dLen = n) (hl : cs.length = n * i.size)
    (hsrc : ∀ j v, cs[j]? = some v → w.cell? (a.add j) = some v) (hc : ∀ j, j < cs.length → (w.cell? ⟨b, o + j, none⟩).isSome = true) (hf : ∀ j, j < cs.length → w.frozen? ⟨b, o + j, none⟩ = false) (h1 : ∀ v ∈ cs, v.oneCell' = true) :
    (Builtin.copy_ #[dT, sT] ty #[.slice (some ⟨b, o, none⟩) dLen dCap, .slice (some a) sLen sCap]).run P w = .ok (goInt n) (w.setCells b o cs) := by
  have hfc := run_firstCells_some (P := P) w i.size n a sLen sCap cs hl hsrc
  have hst := run_storeCells_cells (P := P) b o cs 0 w (by simpa using hc) (by simpa using hf) h1
  simp only [Nat.add_zero] at hst
  simp [Builtin.copy_, run_underlying hu, Builtin.lenOf, sizeOf, typeInfo, hi, hn, hfc, hst]
theorem wp_copy_runR (w : World) {o : Oper} {a : Act} {K : Act → World → Prop} {Q : Exit → Act → World → Prop} (d s : Operand) (t t' : TypeId)
    (ho : o.op = .call { callee := .builtin .copy, args := #[d, s], argTypes := #[t, t'] }) (v u : Value) (hd : a.eval d = v) (hs : a.eval s = u) {v' : Value} {w' : World}
    (hr : (Builtin.copy_ #[t, t'] o.type #[v, u]).run P w = .ok v' w') (h : K (a.put o.dst v') w') : Oper.wp P o a w K Q := by
  unfold Oper.wp execOp
  simp only [ho, resolve, invoke, builtin, Sem.run_bind, Sem.run_pure, Result.andThen_ok, List.map_toArray, List.map_cons, List.map_nil, hd, hs, hr]
  exact h
theorem wpList_copy_runR (w : World) {ops : Array Oper} {rest : List Oper} {o : Oper} {a : Act} {Q : Exit → Act → World → Prop} (hgd : o.guard = none) (d s : Operand) (t t' : TypeId)
    (ho : o.op = .call { callee := .builtin .copy, args := #[d, s], argTypes := #[t, t'] }) (v u : Value) (hd : a.eval d = v) (hs : a.eval s = u) {v' : Value} {w' : World}
    (hr : (Builtin.copy_ #[t, t'] o.type #[v, u]).run P w = .ok v' w') (h : wpList P ops Q rest (a.put o.dst v') w') : wpList P ops Q (o :: rest) a w :=
  wpList_plain hgd fun _ hK => wp_copy_runR w d s t t' ho v u hd hs hr (hK _ _ h)
theorem step_copy_runR {ops : Array Oper} {o : Oper} {a : Act} {w : World} {K : Act → World → Prop} {Q : Exit → Act → World → Prop} {E : Prop}
    (hg : o.guard = none) (d x : Operand) (dT sT : TypeId) (hop : o.op = Op.call { callee := Callee.builtin Builtin.copy, args := #[d, x], argTypes := #[dT, sT] })
    (v u : Value) (hd : a.eval d = v) (hx : a.eval x = u) {v' : Value} {w' : World} (hr : (Builtin.copy_ #[dT, sT] o.type #[v, u]).run P w = .ok v' w') (hK : K (a.put o.dst v') w') :
    if Region.wanted o (yielded ops a.tmps) = true then Oper.wp P o a w K Q else E := by
  have hw : Region.wanted o (yielded ops a.tmps) = true := by simp [Region.wanted, hg]
  rw [if_pos hw]
  exact wp_copy_runR w d x dT sT hop v u hd hx hr hK
theorem wpList_append_roomR (w : World) {ops : Array Oper} {rest : List Oper} {o : Oper} {a : Act} {Q : Exit → Act → World → Prop} (hgd : o.guard = none) (s x : Operand) (t : TypeId)
    (ho : o.op = .call { callee := .builtin .append, args := #[s, x], argTypes := #[t, t] })
    (e : TypeId) (i : TypeInfo) (ht : P.underlying t = some (.slice e)) (hi : P.info? e = some i)
    (b off n cap : Nat) (hs : a.eval s = .slice (some ⟨b, off, none⟩) n cap) (ad : Addr) (m c : Nat) (news : List Value) (hx : a.eval x = .slice (some ad) m c) (hl : news.length = m * i.size)
    (hnews : ∀ j u, news[j]? = some u → w.cell? (ad.add j) = some u) (h1 : ∀ u ∈ news, u.oneCell' = true) (hroom : n + m ≤ cap)
    (hc : ∀ j, j < news.length → (w.cell? ⟨b, off + n * i.size + j, none⟩).isSome = true) (hf : ∀ j, j < news.length → w.frozen? ⟨b, off + n * i.size + j, none⟩ = false)
    (h : wpList P ops Q rest (a.put o.dst (.slice (some ⟨b, off, none⟩) (n + m) cap)) (w.setCells b (off + n * i.size) news)) : wpList P ops Q (o :: rest) a w :=
  wpList_plain hgd fun _ hK => by
    have hr := run_append_room_cells (P := P) (w := w) t o.type e i ht hi b off n cap ad m c news hl hnews h1 hroom hc hf
    unfold Oper.wp execOp
    simp only [ho, resolve, invoke, builtin, Sem.run_bind, Sem.run_pure, Result.andThen_ok, List.map_toArray, List.map_cons, List.map_nil, hs, hx, hr]
    exact hK _ _ h
end
open Go Go.RowKit
set_option maxHeartbeats 4000000
set_option maxRecDepth 100000
theorem insLay_end (g cap N vb : Nat) (its : List LIt) (z0 z1 x : Value) (e : P.Lay) (w : World) (hN : its.length = N) (hroom : N + 1 ≤ cap) (hc : Cel w g 0 (lcells its ++ [z0, z1])) (hv : Cel w vb 0 [x, .bool e.2]) (hx : ∃ a n c, x = .slice a n c) :
    Calls Tryz.prog 138 #[.slice (some ⟨g, 0, none⟩) N cap, .int .i64 N, .slice (some ⟨vb, 0, none⟩) 1 1] w fun r w' => r = .returned (.slice (some ⟨g, 0, none⟩) (N + 1) cap) ∧ Chg (fun b => b = g) w w' ∧ Cel w' g 0 (lcells (its ++ [(x, e)])) := by
  obtain ⟨i0, hi0, hz0, hz1, hz2⟩ := info_parts info_lay
  have hll := lcells_length its
  have hend := hc.lay (N * 2) [x, .bool e.2] (by rw [List.length_append, hll, hN]; simp; omega)
  have hlen : (lcells its).length = N * 2 := by rw [hll, hN]; omega
  have e3 : (lcells its ++ [z0, z1]).drop (N * 2 + [x, Value.bool e.2].length) = [] := List.drop_eq_nil_of_le (by rw [List.length_append, hlen]; simp)
  rw [Nat.zero_add, List.take_left' hlen, e3, List.append_nil] at hend
  have HEND := Lib.hid (show Cel (w.setCells g (N * 2) [x, .bool e.2]) g 0 (lcells (its ++ [(x, e)])) by rw [lcells_append]; exact hend)
  have HCH := Lib.hid (setCells_chg g [x, .bool e.2] (N * 2) w)
  have H1 := Lib.hid (show ∀ u ∈ [x, Value.bool e.2], u.oneCell' = true from fun u hu => by
    simp only [List.mem_cons, List.not_mem_nil, or_false] at hu
    rcases hu with rfl | rfl
    · obtain ⟨a, n, c, rfl⟩ := hx; rfl
    · rfl)
  have HV := Lib.hid hv; have HC := Lib.hid hc
  have HLEN := Lib.hid hlen
  clear hend e3 hll hlen hc hv hx
  have hk1 : ¬ cap = N := by omega
  go_enter Tryz.func138, Tryz.ntmps138
  go_wp2_with (at_builtin; refine wpList_append_roomR _ rfl _ _ 68 rfl 85 i0 Tryz.underlying68 hi0 g 0 N cap rfl ⟨vb, 0, none⟩ 1 1 [x, .bool e.2] rfl ?_ ?_ H1.out hroom ?_ ?_ ?_)
  · rw [hz1]; rfl
  · intro j u hu
    rw [addr_add]
    exact HV.out.get hu
  · intro j hj
    rw [hz1, Nat.zero_add]
    have h := (HC.out (N * 2 + j) (by rw [List.length_append, HLEN.out]; simp at hj ⊢; omega)).1
    rw [Nat.zero_add] at h
    rw [h]; rfl
  · intro j hj
    rw [hz1, Nat.zero_add]
    have h := (HC.out (N * 2 + j) (by rw [List.length_append, HLEN.out]; simp at hj ⊢; omega)).2
    rw [Nat.zero_add] at h
    exact h
  go_ret
  exact ⟨rfl, HCH.out, HEND.out⟩
theorem insLay_mid (g cap t k vb kA kB : Nat) (tA tB : TypeId) (its : List LIt) (z0 z1 x : Value) (e : P.Lay) (w : World) (hN : its.length = t + 1 + k) (hroom : t + 1 + k + 1 ≤ cap) (h20 : t + 1 + k ≤ 2 ^ 20) (hc : Cel w g 0 (lcells its ++ [z0, z1])) (hs : ∀ y ∈ its, ∃ a n c, y.1 = .slice a n c) (hv : Cel w vb 0 [x, .bool e.2]) (hx : ∃ a n c, x = .slice a n c)
    (hne : vb ≠ g) (hsa : w.shape? vb = some (tA, kA)) (hsb : w.shape? g = some (tB, kB)) (hkB : kB ≠ 0) (hfa : w.frozen? ⟨vb, 0, none⟩ = false) (hfe : w.frozen? ⟨vb, kA, none⟩ = false) :
    Calls Tryz.prog 138 #[.slice (some ⟨g, 0, none⟩) (t + 1 + k) cap, .int .i64 t, .slice (some ⟨vb, 0, none⟩) 1 1] w fun r w' => r = .returned (.slice (some ⟨g, 0, none⟩) (t + 1 + k + 1) cap) ∧ Chg (fun b => b = g) w w' ∧ Cel w' g 0 (lcells (its.take t ++ [(x, e)] ++ its.drop t)) := by
  obtain ⟨i0, hi0, hz0, hz1, hz2⟩ := info_parts info_lay
  have hov : ∀ lb cb, (callFunc 205 #[.slice (some ⟨vb, 0, none⟩) 1 1, .slice (some ⟨g, (t + 1) * 2, none⟩) lb cb]).run Tryz.prog w = .ok (.value (.bool false)) w := fun lb cb => by
    rw [run_callFunc_extern Tryz.func205 (by kernel_rfl) (by kernel_rfl) (by kernel_rfl) (e := Extern.SlicesOverlaps.overlaps #[68, 68] #[4]) (by kernel_rfl),
      Lib.run_overlaps_apart w 68 4 85 Tryz.underlying68 2 (fun w => by kernel_rfl) ⟨vb, 0, none⟩ ⟨g, (t + 1) * 2, none⟩ 1 1 lb cb hne tA tB kA kB hsa hsb hkB hfa hfe]
    rfl
  have hll := lcells_length its
  have hlen : (lcells its).length = (t + 1 + k) * 2 := by rw [hll, hN]; omega
  have hld : (lcells (its.drop t)).length = (k + 1) * 2 := by rw [lcells_length, List.length_drop, hN]; omega
  have hcl : (lcells its ++ [z0, z1]).length = (t + 1 + k + 1) * 2 := by rw [List.length_append, hlen]; simp; omega
  have hone : ∀ u ∈ lcells (its.drop t), u.oneCell' = true := lcells_one fun y hy => hs y (List.mem_of_mem_drop hy)
  have hcp1 : ∀ ty dc sc, (Builtin.copy_ #[68, 68] ty #[.slice (some ⟨g, (t + 1) * 2, none⟩) (t + 1 + k - t) dc, .slice (some ⟨g, t * 2, none⟩) (t + 1 + k + 1 - t) sc]).run Tryz.prog w.drew = .ok (goInt (k + 1)) (w.drew.setCells g ((t + 1) * 2) (lcells (its.drop t))) := fun ty dc sc =>
    run_copy_wide w.drew _ _ ty 85 i0 g ((t + 1) * 2) _ dc ⟨g, t * 2, none⟩ _ sc (k + 1) (lcells (its.drop t)) Tryz.underlying68 hi0 (by simp only [Nat.min_def]; split <;> omega) (by rw [hz1]; exact hld)
      (fun j u hu => by
        rw [addr_add]
        rw [← lcells_drop, List.getElem?_drop] at hu
        have h := hc.drew.pre.get hu
        rw [show t * 2 + j = 0 + (2 * t + j) by omega]; exact h)
      (fun j hj => by have h := (hc.drew ((t + 1) * 2 + j) (by rw [hcl]; omega)).1; rw [Nat.zero_add] at h; rw [h]; rfl)
      (fun j hj => by have h := (hc.drew ((t + 1) * 2 + j) (by rw [hcl]; omega)).2; rw [Nat.zero_add] at h; exact h) hone
  have h1 := hc.drew.lay ((t + 1) * 2) (lcells (its.drop t)) (by rw [hcl, hld]; omega)
  have e1 : (lcells its ++ [z0, z1]).drop ((t + 1) * 2 + (lcells (its.drop t)).length) = [] := List.drop_eq_nil_of_le (by rw [hcl, hld]; omega)
  rw [Nat.zero_add, e1, List.append_nil] at h1
  obtain ⟨W1, hW1⟩ : ∃ W1, W1 = w.drew.setCells g ((t + 1) * 2) (lcells (its.drop t)) := ⟨_, rfl⟩
  rw [← hW1] at h1
  have htk : ((lcells its ++ [z0, z1]).take ((t + 1) * 2)).length = (t + 1) * 2 := by rw [List.length_take, hcl]; omega
  have hl1 : ((lcells its ++ [z0, z1]).take ((t + 1) * 2) ++ lcells (its.drop t)).length = (t + 1 + k + 1) * 2 := by rw [List.length_append, htk, hld]; omega
  have h2 := h1.lay (t * 2) [x, .bool e.2] (by rw [hl1]; simp; omega)
  have e2 : ((lcells its ++ [z0, z1]).take ((t + 1) * 2) ++ lcells (its.drop t)).take (t * 2) = lcells (its.take t) := by
    rw [List.take_append_of_le_length (by rw [htk]; omega), List.take_take, show min (t * 2) ((t + 1) * 2) = t * 2 by omega, List.take_append_of_le_length (by rw [hlen]; omega), Nat.mul_comm t 2, lcells_take]
  have e3 : ((lcells its ++ [z0, z1]).take ((t + 1) * 2) ++ lcells (its.drop t)).drop (t * 2 + [x, Value.bool e.2].length) = lcells (its.drop t) := by
    rw [show t * 2 + [x, Value.bool e.2].length = (t + 1) * 2 by simp; omega, List.drop_left' htk]
  rw [Nat.zero_add, e2, e3] at h2
  have hcp2 : ∀ (W : World), (∀ a, W.cell? a = W1.cell? a) → (∀ a, W.frozen? a = W1.frozen? a) → ∀ ty dc, (Builtin.copy_ #[68, 68] ty #[.slice (some ⟨g, t * 2, none⟩) (t + 1 + k + 1 - t) dc, .slice (some ⟨vb, 0, none⟩) 1 1]).run Tryz.prog W = .ok (goInt 1) (W.setCells g (t * 2) [x, .bool e.2]) := fun W hWc hWf ty dc =>
    run_copy_wide W _ _ ty 85 i0 g (t * 2) _ dc ⟨vb, 0, none⟩ 1 1 1 [x, .bool e.2] Tryz.underlying68 hi0 (by simp only [Nat.min_def]; split <;> omega) (by rw [hz1]; rfl)
      (fun j u hu => by
        rw [addr_add, hWc, hW1, World.cell?_setCells_out g _ _ _ _ (fun h _ => absurd h hne)]
        exact hv.drew.get hu)
      (fun j hj => by rw [hWc]; have h := (h1 (t * 2 + j) (by rw [hl1]; simp at hj; omega)).1; rw [Nat.zero_add] at h; rw [h]; rfl)
      (fun j hj => by rw [hWf]; have h := (h1 (t * 2 + j) (by rw [hl1]; simp at hj; omega)).2; rw [Nat.zero_add] at h; exact h)
      (fun u hu => by
        simp only [List.mem_cons, List.not_mem_nil, or_false] at hu
        rcases hu with rfl | rfl
        · obtain ⟨a, n, c, rfl⟩ := hx; rfl
        · rfl)
  have HEND := Lib.hid (show Cel (W1.setCells g (t * 2) [x, .bool e.2]) g 0 (lcells (its.take t ++ [(x, e)] ++ its.drop t)) by rw [lcells_append, lcells_append]; exact h2)
  have HCH := Lib.hid (show Chg (fun b => b = g) w (W1.setCells g (t * 2) [x, .bool e.2]) by
    rw [hW1]
    exact ((Chg.refl _ w).drew.trans (setCells_chg g _ _ _)).trans (setCells_chg g _ _ _))
  rw [← hW1] at hcp1
  clear hc h1 h2 e1 e2 e3 htk hl1 hcl hlen hld hll hone hW1 hv hx hs hfa hfe hsa hsb
  have q1 : ¬ ((t : Int) = (t : Int) + 1 + (k : Int)) := by omega
  have q2 : ¬ ((cap : Int) < (t : Int) + 1 + (k : Int) + 1) := by omega
  have q3 : ¬ cap = t + 1 := by omega
  have q4 : ¬ cap = t := by omega
  have q5 : IntKind.i64.wrap ((t : Int) + 1) = (t : Int) + 1 := IntWalk.i64_in _ (by omega)
  have b1 : (0 : Int) ≤ (t : Int) + 1 := by omega
  have b2 : (t : Int) + 1 ≤ (t : Int) + 1 + (k : Int) + 1 := by omega
  have b3 : (t : Int) ≤ (t : Int) + 1 + (k : Int) + 1 := by omega
  have b4 : (t : Int) + 1 + (k : Int) + 1 ≤ (cap : Int) := by omega
  go_enter Tryz.func138, Tryz.ntmps138
  go_wp2_with (simp only [hov])
  go_region_law (refine step_copy_runR rfl _ _ 68 68 rfl _ _ (by simp [Act.eval, Act.put]) (by simp [Act.eval, Act.put]) (hcp1 _ _ _) ?_)
  go_wp2_with (at_builtin; refine wpList_copy_runR _ rfl _ _ 68 68 rfl _ _ rfl rfl (hcp2 _ (fun _ => rfl) (fun _ => rfl) _ _) ?_)
  go_ret
  exact ⟨rfl, HCH.out, HEND.out⟩
end Go.Proofs.YtngbkdlicknmhaaGreatDoor
