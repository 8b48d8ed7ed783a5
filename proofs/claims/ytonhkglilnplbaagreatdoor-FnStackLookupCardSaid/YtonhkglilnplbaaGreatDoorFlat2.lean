/- Walks: a stack flattened (reference); Flatten (reference, program). -/
import Derived.Deep.DeepCutAuto
import Derived.Test.YtonhkglilnplbaaGreatDoorFlat1
import Derived.Test.YtonhkglilnplbaaGreatDoorPut3
import Derived.Test.YtonhkglilnplbaaGreatDoorIns2
set_option linter.all false
namespace Go.Proofs.YtonhkglilnplbaaGreatDoor
namespace P
theorem putAll_snoc (acc : Dic) (d : Dic) (e : Ent) : putAll acc (d ++ [e]) = putF e false (putAll acc d) := by
  unfold putAll; rw [List.foldl_append]; rfl
theorem putAll_len (d : Dic) : ∀ acc : Dic, (putAll acc d).length ≤ acc.length + d.length := by
  induction d with
  | nil => intro acc; exact Nat.le_refl _
  | cons e d ih => intro acc; have := ih (putF e false acc); have := put_len e acc; simp only [List.length_cons]; show (putAll (putF e false acc) d).length ≤ _; omega
theorem flatS_len {l : Lays} (h : layers l = true) : (flatS l).length ≤ 40 * l.length := by
  induction l with
  | nil => exact Nat.le_refl _
  | cons e l ih =>
    have h1 : dic e.1 = true := List.all_eq_true.1 h e (by simp)
    have h2 : layers l = true := List.all_eq_true.2 fun x hx => List.all_eq_true.1 h x (by simp [hx])
    have h3 := dic_len h1
    have h4 := ih h2
    unfold flatS
    split
    · have := putAll_len e.1 (flatS l); simp only [List.length_cons]; omega
    · simp only [List.length_cons]; omega
end P
open Go Go.RowKit
set_option maxHeartbeats 4000000
set_option maxRecDepth 100000
section
variable {P : Program} (w : World)
/-- append onto a row of the call's own, from a slice which may be nil: at a step of a region that draws -/
theorem step_append_src {ops : Array Oper} {o : Oper} {a : Act} {K : Act → World → Prop} {Q : Exit → Act → World → Prop} {E : Prop} (hgd : o.guard = none) (s x : Operand) (t : TypeId)
    (ho : o.op = .call { callee := .builtin .append, args := #[s, x], argTypes := #[t, t] })
    (base : Nat) (e : TypeId) (i : TypeInfo) (z : Value) (size bytes : Nat) (ht : P.underlying t = some (.slice e)) (hi : P.info? e = some i) (hz : i.zero = some z)
    (hsize : i.size = size) (hby : i.bytes = bytes) (hzs : z.cells.size = size) (hsz : 0 < size)
    (v : Value) (n : Nat) (xs : List Value) (hs : a.eval s = v) (hown : w.ownsRow base e size v n xs)
    (u : Value) (m : Nat) (news : List Value) (hx : a.eval x = u) (hsrc : SrcIs w size u m news)
    (h63 : n + m ≤ maxLen) (hbytes : (n + m) * bytes ≤ 140737488355328) (hbase : base ≤ w.heap.size)
    (h : ∀ v' w', w'.ownsRow base e size v' (n + m) (xs ++ news) → w.grownBy w' v.ownBlock → (v' = .slice none 0 0 ↔ v = .slice none 0 0 ∧ m = 0) → K (a.put o.dst v') w') :
    if Region.wanted o (yielded ops a.tmps) = true then Oper.wp P o a w K Q else E := by
  have hw : Region.wanted o (yielded ops a.tmps) = true := by simp [Region.wanted, hgd]
  rw [if_pos hw]
  obtain ⟨v', w', hr, h2, h3, h4⟩ := run_append_src (P := P) w base t o.type e i z size bytes ht hi hz hsize hby hzs hsz v n xs hown u m news hsrc h63 hbytes hbase
  unfold Oper.wp execOp
  simp only [ho, resolve, invoke, builtin, Sem.run_bind, Sem.run_pure, Result.andThen_ok, List.map_toArray, List.map_cons, List.map_nil, hs, hx, hr]
  exact h v' w' h2 h3 h4
end
/-- what region 9 of l8Flat keeps -/
def KF (W eb : Nat) (u x : Value) (t : Str) (v : World) : Prop :=
  v.cell? ⟨W + 2, 0, none⟩ = some u ∧ v.cell? ⟨eb, 0, none⟩ = some x ∧ v.cell? ⟨eb, 1, none⟩ = some (.string (S t)) ∧ v.frozen? ⟨W + 2, 0, none⟩ = false
theorem KF.step {W eb B : Nat} {u x : Value} {t : Str} {v v' : World} (h : KF W eb u x t v) (hb : Below B v v') (hW : W + 2 < B) (he : eb < B) : KF W eb u x t v' :=
  ⟨(hb.cell (p := ⟨W + 2, 0, none⟩) hW).trans h.1, (hb.cell (p := ⟨eb, 0, none⟩) he).trans h.2.1, (hb.cell (p := ⟨eb, 1, none⟩) he).trans h.2.2.1, (hb.frozen (p := ⟨W + 2, 0, none⟩) hW).trans h.2.2.2⟩
/-- how the loops of l8Flat stand -/
def FInv (w : World) (dv : Value) (row : P.Dic) (u : Value) (v : World) : Prop := Boxes w.heap.size dv u v ∧ Ents v (Bet (w.heap.size + 3) v.heap.size) u row ∧ w.heap.size + 3 ≤ v.heap.size ∧ Below w.heap.size w v
theorem FInv.below {w v v' : World} {dv u : Value} {row : P.Dic} (h : FInv w dv row u v) (hb : Below v.heap.size v v') : FInv w dv row u v' :=
  ⟨h.1.step (hb.mono h.2.2.1), (h.2.1.below entE_ok hb).wide (fun b hb' => ⟨hb'.1, Nat.lt_of_lt_of_le hb'.2 hb.size⟩) (fun b hb' => hb'.2), Nat.le_trans h.2.2.1 hb.size, h.2.2.2.trans (hb.mono (by have := h.2.2.1; omega))⟩
theorem FInv.put {w v v' : World} {dv u u' : Value} {row row' : P.Dic} {lo : Nat} (h : FInv w dv row u v) (hb : Below v.heap.size v v') (he : Ents v' (Bet lo v'.heap.size) u' row') (hlo : v.heap.size ≤ lo) : FInv w dv row' u' (v'.setCell ⟨w.heap.size + 2, 0, none⟩ u') := by
  have h' := h.below hb
  have hz := h.2.2.1
  have hs : (v'.setCell ⟨w.heap.size + 2, 0, none⟩ u').heap.size = v'.heap.size := by simp [World.setCell]
  refine ⟨h'.1.put, ?_, by rw [hs]; exact h'.2.2.1, h'.2.2.2.setCell (by simp) _⟩
  refine (he.stand (X := fun b => b = w.heap.size + 2) entE_ok ((Chg.refl (fun b => b = w.heap.size + 2) v').setCell (p := ⟨w.heap.size + 2, 0, none⟩) rfl _) ?_).wide ?_ ?_
  · intro b hb e; have := hb.1; omega
  · intro b hb; rw [hs]; exact ⟨by have := hb.1; omega, hb.2⟩
  · intro b hb; exact hb.2
theorem l8Flat (dv : Value) (l : P.Lays) (w : World) (hu : LayR w dv l) (hs : SmallS l) (hst : P.stack l = true) :
    Calls Tryz.prog 111 #[.agg #[dv]] w (DicPost (P.flatS l) w) := by
  obtain ⟨i0, hi, hz0, hz1, hz2⟩ := info_parts info_int
  have HU := Lib.hid hu; have HSM := Lib.hid hs; have HST := Lib.hid hst
  clear hs hst
  have HF0 := Lib.hid (show FInv w dv [] (.slice none 0 0) (((w.alloc (.cells #[dv] 52)).alloc (.cells #[.slice none 0 0] 32)).alloc (.cells #[.slice none 0 0] 32)) from
    ⟨by refine ⟨?_, ?_, ?_, ?_, ?_⟩ <;> go_simp, RowO.nil _ _, by simp, ((((Below.refl w.heap.size w).alloc (Nat.le_refl _) _).alloc (by simp) _).alloc (by simp; omega) _)⟩)
  obtain ⟨ad, cap, rfl, _, _⟩ := hu
  go_enter Tryz.func111, Tryz.ntmps111
  go_wp2_with fail
  go_loopw [4] (fun i wr => ∃ (j : Nat) (u : Value), j ≤ l.length ∧ i = .int .i64 ((j : Int) - 1) ∧ FInv w (.slice ad l.length cap) (P.flatS (l.drop j)) u wr) (fun i _ => ((intOf i) + 1).toNat)
  case atStart => exact ⟨l.length, _, Nat.le_refl _, by first | rfl | go_num, by rw [List.drop_length]; exact HF0.out⟩
  case round =>
    clear HF0
    obtain ⟨j, u, hj, rfl, hf⟩ := hrel
    have HF := Lib.hid hf
    obtain ⟨⟨b0, b1, b2, f1, f2⟩, he, hz, hb⟩ := hf
    rcases j with _ | j
    · have hn : ¬ (0 : Int) ≤ ((0 : Nat) : Int) - 1 := by decide
      obtain ⟨ud, uc, rfl, _, _⟩ := id he
      have HE := Lib.hid he
      clear he hb
      go_wp2
      refine bodyPost_ret (v := .agg #[.slice ud (P.flatS (l.drop 0)).length uc]) (by simp [results, Tryz.results111, go_sem, b1]) rfl ⟨_, rfl, ?_, HF.out.2.2.2.setCell (by simp) _⟩
      refine ents_done (w.heap.size + 1) HE.out fun b hb => ?_
      have h1 := hb.1; have h2 := hb.2
      omega
    · have hlt : j < l.length := by omega
      have e1 : ((j + 1 : Nat) : Int) - 1 = (j : Int) := by omega
      rw [e1]
      have hn : (0 : Int) ≤ (j : Int) := by omega
      have i1 : (j : Int) < (l.length : Int) := by omega
      clear e1
      obtain ⟨g, p, hga, hgs, x, c0, c1, hx⟩ := HU.out.at j hlt
      have HD := Lib.hid hx
      have HCC := Lib.hid (And.intro c0 c1)
      have hd40 : l[j].1.length ≤ 40 := by have h := List.all_eq_true.1 (P.stack_layers HST.out) l[j] (List.getElem_mem hlt); exact P.dic_len h
      have HDR := Lib.hid (show P.flatS (l.drop j) = if l[j].2 then P.putAll (P.flatS (l.drop (j + 1))) l[j].1 else P.flatS (l.drop (j + 1)) by
        rw [List.drop_eq_getElem_cons hlt]; rfl)
      have HFL := Lib.hid (show (P.flatS (l.drop (j + 1))).length ≤ 160 by
        have h := P.flatS_len (l := l.drop (j + 1)) (List.all_eq_true.2 fun e he => List.all_eq_true.1 (P.stack_layers HST.out) e (List.mem_of_mem_drop he))
        have h2 := P.stack_len HST.out
        rw [List.length_drop] at h; omega)
      have HFS := Lib.hid (show ∀ e ∈ P.flatS (l.drop (j + 1)), e.1.length ≤ 2 ^ 20 from fun e he => by
        have hl2 : P.layers (l.drop (j + 1)) = true := List.all_eq_true.2 fun e he => List.all_eq_true.1 (P.stack_layers HST.out) e (List.mem_of_mem_drop he)
        obtain ⟨y, hy, hey⟩ := P.seen_mem ((P.flatS_seen (P.layers_pair hl2)).1 he)
        exact (HSM.out.each y (List.mem_of_mem_drop hy)).outs e hey)
      have HDS := Lib.hid (HSM.out.each l[j] (List.getElem_mem hlt))
      obtain ⟨xd, xc, rfl, _, _⟩ := hx
      subst hga
      generalize l[j] = en at *
      obtain ⟨d, t⟩ := en
      simp only at HD HCC HDR HDS hd40
      generalize P.flatS (l.drop (j + 1)) = row0 at *
      clear c0 c1 he hb b0 b1 b2 f1 f2
      go_wp2_with fail
      go_loopw [5] (fun k wr => ∃ (n : Nat) (u : Value), n ≤ d.length ∧ (t = true ∨ n = 0) ∧ k = .int .i64 n ∧ FInv w (.slice (some ⟨g, p, none⟩) l.length cap) (P.putAll row0 (d.take n)) u wr) (fun k _ => d.length - (intOf k).toNat)
      case atStart => exact ⟨0, u, Nat.zero_le _, .inr rfl, rfl, HF.out⟩
      case round =>
        clear HF hz
        obtain ⟨n, u, hnn, htn, rfl, hf⟩ := hrel
        have HF := Lib.hid hf
        have hfb := hf.2.2.2
        have c0 := (hfb.cell (p := ⟨g, _, none⟩) hgs).trans HCC.out.1
        have c1 := (hfb.cell (p := ⟨g, _, none⟩) hgs).trans HCC.out.2
        obtain ⟨⟨b0, b1, b2, f1, f2⟩, he, hz, hb⟩ := hf
        clear b1 f1
        cases t
        · obtain rfl : n = 0 := by rcases htn with h | h; cases h; exact h
          have HDR2 := Lib.hid (show P.flatS (l.drop j) = row0 from HDR.out)
          clear he hb hfb
          go_wp2
          go_roundw
          case rel => exact ⟨j, u, by omega, by go_num, by rw [HDR2.out]; exact HF.out⟩
          case measure => simp [intOf] <;> omega
        · by_cases hlt2 : n < d.length
          · obtain ⟨g2, q, hga2, hgs2, y, e0, e1, hy⟩ := HD.out.at n hlt2
            have e0' := (hfb.cell (p := ⟨g2, _, none⟩) hgs2).trans e0
            have e1' := (hfb.cell (p := ⟨g2, _, none⟩) hgs2).trans e1
            have HEN := Lib.hid (show P.putAll row0 (d.take (n + 1)) = P.putF d[n] false (P.putAll row0 (d.take n)) by rw [take_snoc d n hlt2, P.putAll_snoc])
            have hol := HDS.out.outs _ (List.getElem_mem hlt2)
            have hrl : (P.putAll row0 (d.take n)).length ≤ 200 := by
              have h := P.putAll_len (d.take n) row0
              rw [List.length_take] at h
              have h2 := HFL.out
              omega
            have HRS := Lib.hid (show ∀ e ∈ P.putAll row0 (d.take n), e.1.length ≤ 2 ^ 20 from fun e he => by
              have key : ∀ (d : P.Dic) (acc : P.Dic), (∀ e ∈ d, e.1.length ≤ 2 ^ 20) → (∀ e ∈ acc, e.1.length ≤ 2 ^ 20) → ∀ e ∈ P.putAll acc d, e.1.length ≤ 2 ^ 20 := by
                intro d
                induction d with
                | nil => intro acc _ h e he; exact h e he
                | cons z d ih =>
                  intro acc h1 h2 e he
                  refine ih (P.putF z false acc) (fun e he => h1 e (by simp [he])) (fun e he => ?_) e he
                  rcases (P.putF_mem z acc e).1 he with rfl | he
                  · exact h1 e (by simp)
                  · exact h2 e (P.del_sub he)
              exact key (d.take n) row0 (fun e he => HDS.out.outs e (List.mem_of_mem_take he)) HFS.out e he)
            have HYW := Lib.hid (hy.below hfb)
            obtain ⟨ud, uc, rfl, _, _⟩ := id he
            obtain ⟨yd, yc, rfl, _, _⟩ := hy
            subst hga2
            have HE := Lib.hid he
            generalize d[n] = en at *
            obtain ⟨eo, et⟩ := en
            simp only at HYW HEN hol e1'
            generalize P.putAll row0 (d.take n) = row at *
            have i2 : (n : Int) < (d.length : Int) := by omega
            have hba := (Below.refl wr.heap.size wr).alloc (Nat.le_refl _) (.cells #[.slice yd eo.length yc, .string (S et)] 36)
            have HFA := Lib.hid (HF.out.below hba)
            have HYA := Lib.hid (HYW.out.below hba)
            have hzA : (wr.alloc (.cells #[.slice yd eo.length yc, .string (S et)] 36)).heap.size = wr.heap.size + 1 := by simp
            have HZA := Lib.hid hzA
            have HS := Lib.hid (show KF w.heap.size wr.heap.size (.slice ud row.length uc) (.slice yd eo.length yc) et (wr.alloc (.cells #[.slice yd eo.length yc, .string (S et)] 36)).drew from
              KF.step (B := wr.heap.size + 1) ⟨HFA.out.1.2.2.1, by go_simp, by go_simp, HFA.out.1.2.2.2.2⟩ (Below.refl _ _).drew (by omega) (by omega))
            clear he hb hfb e0 e1 hba hzA
            go_upto_region 9 with fail
            generalize wr.alloc (.cells #[.slice yd eo.length yc, .string (S et)] 36) = va at *
            have hW : w.heap.size + 2 < wr.heap.size + 1 := by omega
            have hE0 : wr.heap.size < wr.heap.size + 1 := by omega
            refine Left.region [9] (S := KF w.heap.size wr.heap.size (.slice ud row.length uc) (.slice yd eo.length yc) et) (by kernel_rfl) HS.out (fun hS0 => ?_)
            refine Left.take (i := 0) (v := .agg #[.slice ud row.length uc]) rfl (by kernel_rfl) (by kernel_rfl) (by kernel_rfl) (by kernel_rfl) (fun _ _ _ h => h) (Or.inl ⟨by rfl, fun z hz => ?_⟩) hS0 ?_
            · obtain ⟨z1, z2, z3, z4⟩ := hz
              go_simp
            try simp only [List.getElem_toArray, List.getElem_cons_zero, Act.put, List.setIfInBounds_toArray, List.set_cons_zero, List.set_cons_succ]
            refine Left.take (i := 2) (v := .pointer (some ⟨wr.heap.size, 0, none⟩)) rfl (by kernel_rfl) (by kernel_rfl) (by kernel_rfl) (by kernel_rfl) (fun _ _ _ h => h) (Or.inl ⟨by rfl, fun z hz => ?_⟩) hS0 ?_
            · obtain ⟨z1, z2, z3, z4⟩ := hz
              go_simp
            try simp only [List.getElem_toArray, List.getElem_cons_zero, List.getElem_cons_succ, Act.put, List.setIfInBounds_toArray, List.set_cons_zero, List.set_cons_succ]
            refine Left.take (i := 3) (v := .slice yd eo.length yc) rfl (by kernel_rfl) (by kernel_rfl) (by kernel_rfl) (by kernel_rfl) (fun _ _ _ h => h) (Or.inl ⟨by rfl, fun z hz => ?_⟩) hS0 ?_
            · obtain ⟨z1, z2, z3, z4⟩ := hz
              go_simp
            try simp only [List.getElem_toArray, List.getElem_cons_zero, List.getElem_cons_succ, Act.put, List.setIfInBounds_toArray, List.set_cons_zero, List.set_cons_succ]
            refine Left.take (i := 5) (v := .pointer (some ⟨wr.heap.size, 1, none⟩)) rfl (by kernel_rfl) (by kernel_rfl) (by kernel_rfl) (by kernel_rfl) (fun _ _ _ h => h) (Or.inl ⟨by rfl, fun z hz => ?_⟩) hS0 ?_
            · obtain ⟨z1, z2, z3, z4⟩ := hz
              go_simp
            try simp only [List.getElem_toArray, List.getElem_cons_zero, List.getElem_cons_succ, Act.put, List.setIfInBounds_toArray, List.set_cons_zero, List.set_cons_succ]
            refine Left.take (i := 6) (v := .string (S et)) rfl (by kernel_rfl) (by kernel_rfl) (by kernel_rfl) (by kernel_rfl) (fun _ _ _ h => h) (Or.inl ⟨by rfl, fun z hz => ?_⟩) hS0 ?_
            · obtain ⟨z1, z2, z3, z4⟩ := hz
              go_simp
            try simp only [List.getElem_toArray, List.getElem_cons_zero, List.getElem_cons_succ, Act.put, List.setIfInBounds_toArray, List.set_cons_zero, List.set_cons_succ]
            refine Left.ready (rs := [1]) (by kernel_rfl) (by simp) ?_
            refine Nexts.cons rfl (fun K hK => ?_) Nexts.nil
            go_simp
            have hbb : Below va.drew.heap.size va.drew (va.alloc (.cells #[] 3)).drew := (Below.refl va.drew.heap.size va.drew).alloc (Nat.le_refl _) (.cells #[] 3)
            have zvd : va.drew.heap.size = wr.heap.size + 1 := HZA.out
            have ZVD := Lib.hid zvd; clear zvd
            have HFD := Lib.hid (HFA.out.below (Below.refl _ _).drew)
            have HBA0 := Lib.hid hbb
            have HYB := Lib.hid ((HYA.out.below (Below.refl _ _).drew).below hbb)
            have HOWN := Lib.hid (show (va.alloc (.cells #[] 3)).drew.ownsRow va.drew.heap.size 3 1 (.slice (some ⟨va.drew.heap.size, 0, none⟩) 0 0) 0 [] from World.ownsRow_lit (base := va.drew.heap.size) (e := 3) (size := 1) va.drew #[] 0 (Nat.le_refl _) (Nat.zero_le _) (by simp))
            have HZB := Lib.hid (show va.drew.heap.size ≤ (va.alloc (.cells #[] 3)).drew.heap.size from hbb.size)
            refine on_held hK (by decide) (hS0.step (hbb.mono (by rw [ZVD.out]; exact Nat.le_refl _)) hW hE0) (fun hS1 => ?_)
            clear hK K hbb
            try simp only [List.getElem_toArray, List.getElem_cons_zero, List.getElem_cons_succ, Act.put, List.setIfInBounds_toArray, List.set_cons_zero, List.set_cons_succ]
            refine Left.ready (rs := [4]) (by kernel_rfl) (by simp) ?_
            refine Nexts.cons rfl (fun K hK => ?_) Nexts.nil
            generalize (va.alloc (.cells #[] 3)).drew = vb at *
            refine step_append_src _ rfl _ _ 25 rfl va.drew.heap.size 3 i0 (.int .i64 0) 1 8 Tryz.underlying25 hi hz0 hz1 hz2 rfl (by decide) (.slice (some ⟨va.drew.heap.size, 0, none⟩) 0 0) 0 [] rfl HOWN.out (.slice yd eo.length yc) eo.length (ints eo) rfl (src_of_ints HYB.out) (by unfold maxLen; omega) (by omega) HZB.out ?_
            intro y2 vc hown hgr _
            have hbc : Below va.drew.heap.size vb vc := (Below.refl _ _).grown hgr HZB.out (fun k hk => (World.ownsRow.lt HOWN.out k hk).1)
            have hbc2 := hbc
            rw [ZVD.out] at hbc2
            have HIC := Lib.hid (ints_of_owns (l := eo) (B := va.drew.heap.size) (by simpa using hown) (by omega))
            refine on_held hK (by decide) (hS1.step hbc2 hW hE0) (fun hS2 => ?_)
            clear hK K
            have HZC := Lib.hid hbc.size
            have HFC := Lib.hid (show FInv w (.slice (some ⟨g, p, none⟩) l.length cap) row (.slice ud row.length uc) vc from HFD.out.below (HBA0.out.trans hbc))
            clear hown hgr hbc hbc2
            obtain ⟨y2d, y2c, rfl, _, _⟩ := id HIC.out
            try simp only [List.getElem_toArray, List.getElem_cons_zero, List.getElem_cons_succ, Act.put, List.setIfInBounds_toArray, List.set_cons_zero, List.set_cons_succ]
            refine Left.take (i := 7) (v := .agg #[.slice y2d eo.length y2c, .string (S et)]) rfl (by kernel_rfl) (by kernel_rfl) (by kernel_rfl) (by kernel_rfl) (fun _ _ _ h => h) (Or.inl ⟨by rfl, fun z hz => ?_⟩) hS2 ?_
            · obtain ⟨z1, z2, z3, z4⟩ := hz
              go_simp
            try simp only [List.getElem_toArray, List.getElem_cons_zero, List.getElem_cons_succ, Act.put, List.setIfInBounds_toArray, List.set_cons_zero, List.set_cons_succ]
            refine Left.ready (rs := [8]) (by kernel_rfl) (by simp) ?_
            refine Nexts.cons rfl (fun K hK => ?_) Nexts.nil
            go_simp
            refine (l6Put _ _ row eo et _ HFC.out.2.1.read HIC.out.read (by omega) HRS.out hol).mono ?_
            rintro e vd ⟨u2, rfl, hI, hb⟩
            have HFE := Lib.hid (HFC.out.put hb hI (Nat.le_refl _))
            have hzc : wr.heap.size + 1 ≤ vc.heap.size := by have := HBA0.out.size; have := HZC.out; have := ZVD.out; omega
            refine on_held hK (by decide) (hS2.step (hb.mono hzc) hW hE0) (fun hS3 => ?_)
            clear hK K hb
            obtain ⟨u2d, u2c, rfl, _, _⟩ := hI
            obtain ⟨_, _, _, k4⟩ := id hS3
            try simp only [List.getElem_toArray, List.getElem_cons_zero, List.getElem_cons_succ, Act.put, List.setIfInBounds_toArray, List.set_cons_zero, List.set_cons_succ]
            refine Left.ready (rs := [9]) (by kernel_rfl) (by simp) ?_
            refine Nexts.cons rfl (fun K hK => ?_) Nexts.nil
            obtain ⟨k1, k2, k3, _⟩ := hS3
            go_simp
            refine on_last hK (by decide) ?_
            clear hK K
            try simp only [List.getElem_toArray, List.getElem_cons_zero, List.getElem_cons_succ, Act.put, List.setIfInBounds_toArray, List.set_cons_zero, List.set_cons_succ]
            refine Left.done (by kernel_rfl) ?_ _
            clear hS0 hS1 hS2 HS HFA HYA HYW HYB HIC HFC HE HF
            generalize vd.setCell ⟨w.heap.size + 2, 0, none⟩ (.slice u2d (P.putF (eo, et) false row).length u2c) = v4 at *
            go_wp2
            go_roundw
            case rel => exact ⟨n + 1, _, by omega, by simp, by go_num, by rw [HEN.out]; exact HFE.out⟩
            case measure => simp [intOf] <;> omega
          · have hnd : d.length = n := by omega
            have HT := Lib.hid (show d.take n = d from List.take_of_length_le (by omega))
            have HDR2 := Lib.hid (show P.flatS (l.drop j) = P.putAll row0 (d.take n) by rw [HT.out]; exact HDR.out)
            have i2 : ¬ (n : Int) < (d.length : Int) := by omega
            clear he hb hfb
            go_wp2
            go_roundw
            case rel => exact ⟨j, u, by omega, by go_num, by rw [HDR2.out]; exact HF.out⟩
            case measure => simp [intOf] <;> omega
end Go.Proofs.YtonhkglilnplbaaGreatDoor
