/- Walks: a layer struck out of a stack (reference, program). -/
import Derived.Deep.DeepCutAuto
import Derived.Deep.RegionLaw
import Derived.Deep.RegionHeld
import Derived.IntWalk
import Derived.Test.YtonhkglilnplbaaGreatDoorRem2
namespace Go.Proofs.YtonhkglilnplbaaGreatDoor
namespace P
def remL (i : Nat) (l : Lays) : Lays := l.take i ++ l.drop (i + 1)
theorem remL_sub {i : Nat} {l : Lays} {e : Lay} (h : e ∈ remL i l) : e ∈ l := by
  unfold remL at h
  rcases List.mem_append.1 h with h | h
  · exact List.mem_of_mem_take h
  · exact List.mem_of_mem_drop h
theorem remL_len {i m : Nat} {l : Lays} (h : l.length = i + 1 + m) : (remL i l).length = i + m := by
  unfold remL; rw [List.length_append, List.length_take, List.length_drop]; omega
end P
open Go Go.RowKit
set_option maxHeartbeats 2000000
set_option maxRecDepth 100000
section
variable {P : Program} (w : World)
/-- append onto a row of the call's own, from a slice which may be nil: at a step of a region that draws -/
theorem step_append_srcR {ops : Array Oper} {o : Oper} {a : Act} {K : Act → World → Prop} {Q : Exit → Act → World → Prop} {E : Prop} (hgd : o.guard = none) (s x : Operand) (t : TypeId)
    (ho : o.op = .call { callee := .builtin .append, args := #[s, x], argTypes := #[t, t] })
    (base : Nat) (e : TypeId) (i : TypeInfo) (z : Value) (size bytes : Nat) (ht : P.underlying t = some (.slice e)) (hi : P.info? e = some i) (hz : i.zero = some z)
    (hsize : i.size = size) (hby : i.bytes = bytes) (hzs : z.cells.size = size) (hsz : 0 < size)
    (v : Value) (n : Nat) (xs : List Value) (hs : a.eval s = v) (hown : w.ownsRow base e size v n xs)
    (u : Value) (m : Nat) (news : List Value) (hx : a.eval x = u) (hsrc : SrcIs w size u m news)
    (h63 : n + m ≤ maxLen) (hbytes : (n + m) * bytes ≤ 140737488355328) (hbase : base ≤ w.heap.size)
    (h : ∀ v' w', w'.ownsRow base e size v' (n + m) (xs ++ news) → w.grownBy w' v.ownBlock → (v' = .slice none 0 0 ↔ v = .slice none 0 0 ∧ m = 0) → K (a.put o.dst v') w') :
    if Region.wanted o (yielded ops a.tmps) = true then Oper.wp P o a w K Q else E := by
  have hw : Region.wanted o (yielded ops a.tmps) = true := by simp [Region.wanted, hgd]
  rw [if_pos hw]
  obtain ⟨v', w', hr, h2, h3, h4⟩ := run_append_src (P := P) w base t o.type e i z size bytes ht hi hz hsize hby hzs hsz v n xs hown u m news hsrc h63 hbytes hbase
  unfold Oper.wp execOp
  simp only [ho, resolve, invoke, builtin, Sem.run_bind, Sem.run_pure, Result.andThen_ok, List.map_toArray, List.map_cons, List.map_nil, hs, hx, hr]
  exact h v' w' h2 h3 h4
end
abbrev RemPost (i : Int) (l : P.Lays) := SkPost (P.setOk i l) (P.remL i.toNat l)
theorem range_of {i : Int} {l : P.Lays} (hd : P.setOk i l = true) : ∃ n m : Nat, i = n ∧ l.length = n + 1 + m := by
  have hrng : 0 ≤ i ∧ i ≤ (l.length : Int) - 1 := by
    unfold P.setOk P.inL at hd; simp only [Bool.and_eq_true, decide_eq_true_eq] at hd; exact hd.2
  obtain ⟨n, rfl⟩ := Int.eq_ofNat_of_zero_le hrng.1
  exact ⟨n, l.length - (n + 1), rfl, by omega⟩
theorem impl_removeLayer (dv : Value) (l : P.Lays) (i : Int) (w : World) (hu : LayR w dv l) (hs : SmallS l) (hE : Env w) :
    Calls Tryz.prog 40 #[.agg #[dv], .int .i64 i] w (RemPost i l w) := by
  have hb0 : Below w.heap.size w (((w.alloc (.cells #[dv] 52)).alloc (.cells #[.slice none 0 0] 52)).alloc (.cells #[.int .i64 i] 3)) := (((Below.refl w.heap.size w).alloc (Nat.le_refl _) _).alloc (by simp) _).alloc (by simp; omega) _
  have HU := Lib.hid (hu.below hb0)
  have HE := Lib.hid (hE.below hb0 hE.size)
  have HB0 := Lib.hid hb0; clear hb0 hE
  have HN := Lib.hid ((SkBox.new dv w).below ((Below.refl _ _).alloc (Nat.le_refl _) (.cells #[.int .i64 i] 3)))
  have HI1 := Lib.hid (ints_one i ((w.alloc (.cells #[dv] 52)).alloc (.cells #[.slice none 0 0] 52)) 3)
  have HSM := Lib.hid hs; clear hs
  have HOK := Lib.hid (show (P.stack l && [i].all (P.inL l)) = P.setOk i l by unfold P.setOk; simp)
  obtain ⟨ad, cap, rfl, _, _⟩ := hu
  go_enter Tryz.func40, Tryz.ntmps40
  go_wp2_with fail
  refine (isLayer _ _ l [i] _ HU.out (by have := HI1.out; simpa using this) HSM.out.len HSM.out.each HE.out).mono ?_
  rintro e w1 ⟨rfl, hb⟩
  rw [HOK.out]
  have HU1 := Lib.hid (HU.out.below hb)
  have HN1 := Lib.hid (HN.out.below hb)
  have HB1 := Lib.hid (HB0.out.trans (hb.mono (by simp; omega)))
  clear hb HU HB0 HN HE HI1
  cases hd : P.setOk i l
  · have HD := Lib.hid hd; clear hd
    obtain ⟨_, b0, f0, _⟩ := HN1.out
    go_wp2
    refine bodyPost_ret (v := .tuple #[.agg #[.slice none 0 0], .bool false]) (by simp [results, Tryz.results40, go_sem, b0]) rfl ⟨_, by rw [HD.out], ?_, ?_⟩
    · rw [HD.out]; exact RowO.nil _ _
    · exact HB1.out.setCell (by simp) _
  · have HD := Lib.hid hd
    have HUP := Lib.hid (show ∀ e ∈ l, Small e.1 ∧ P.Up e.1 from fun e he => ⟨HSM.out.each e he, P.layers_up (P.stack_layers (by unfold P.setOk at hd; simp only [Bool.and_eq_true] at hd; exact hd.1)) e he⟩)
    obtain ⟨n, m, rfl, hm⟩ := range_of hd
    have HM := Lib.hid hm
    have hl20 := HSM.out.len
    have hl0 : 0 < l.length := by omega
    have hn20 : (n : Int) ≤ 1048576 := by omega
    clear hd hm
    obtain ⟨a0, _⟩ := HN1.out
    go_wp2_with fail
    refine (copyLay _ l _ HU1.out hl20 hl0).mono ?_
    rintro e w2 ⟨g, cap2, its, rfl, hc2, hcm, hg1, hg2, hits, hent, hcel, _, hb⟩
    have HITS := Lib.hid hits; have HENT := Lib.hid hent
    have HLI := Lib.hid (show its.length = n + 1 + m by rw [← HM.out, ← hits, List.length_map])
    have HDEL := Lib.hid (by have h := delLay g cap2 n m its w2 hcel (ent_slices hent) HLI.out (by have := HM.out; omega) (by have := HM.out; omega); rw [← HM.out] at h; exact h)
    have HN2 := Lib.hid (HN1.out.below hb)
    have HB2 := Lib.hid (HB1.out.trans (hb.mono HB1.out.size))
    have HBA := Lib.hid hb
    have HC2 := Lib.hid hc2
    clear hb HU1 hits hent hcel a0 hcm
    go_wp2_with fail
    with_reducible refine (HDEL.out).mono ?_
    rintro e w3 ⟨rfl, hch, hc3, _⟩
    have hW1 : w.heap.size + 1 < w1.heap.size := HN1.out.2.2.2
    have HN3 := Lib.hid (HN2.out.stand hch (by omega) (by omega))
    have HB3 := Lib.hid (HB2.out.trans (hch.below HB2.out.size (fun b hb => by subst hb; have := HB1.out.size; omega)))
    have HB13 := Lib.hid (HBA.out.trans (hch.below HBA.out.size (fun b hb => by subst hb; exact hg1)))
    have hlr : (its.take n ++ its.drop (n + 1)).length = n + m := by rw [List.length_append, List.length_take, List.length_drop, HLI.out]; omega
    have hLR := layR_of_cel (cap := cap2) hc3.pre (fun t ht => (HENT.out t (by rcases List.mem_append.1 ht with h | h; exact List.mem_of_mem_take h; exact List.mem_of_mem_drop h)).below HB13.out) (by rw [hlr]; have := HM.out; omega) (by rw [hlr]; have := HM.out; have := HC2.out; omega) (by have := hch.size; omega)
    rw [hlr, List.map_append, List.map_take, List.map_drop, HITS.out] at hLR
    have HLR := Lib.hid (show LayR w3 (.slice (some ⟨g, 0, none⟩) (n + m) cap2) (P.remL n l) from hLR)
    have HUP2 := Lib.hid (show ∀ e ∈ P.remL n l, Small e.1 ∧ P.Up e.1 from fun e he => HUP.out e (P.remL_sub he))
    have HRL := Lib.hid (P.remL_len HM.out)
    have hz3 : w2.heap.size ≤ w3.heap.size := hch.size
    clear hLR hlr hch hc3 HDEL HN2 HB2 HBA
    go_wp2_with fail
    refine (stackOf_up _ (P.remL n l) _ HLR.out (by rw [HRL.out]; have := HM.out; omega) HUP2.out).mono ?_
    rintro e w4 ⟨u, rfl, hI, hb⟩
    have hz4 : w3.heap.size ≤ w4.heap.size := hb.size
    have HN4 := Lib.hid (HN3.out.below hb)
    have HB4 := Lib.hid (HB3.out.trans (hb.mono HB3.out.size))
    have HI := Lib.hid hI
    obtain ⟨ud, uc, rfl, _, _⟩ := hI
    clear hb HN3 HB3
    obtain ⟨_, b0, f0, _⟩ := HN4.out
    go_wp2
    refine bodyPost_ret (v := .tuple #[.agg #[.slice ud (P.remL n l).length uc], .bool true]) (by simp [results, Tryz.results40, go_sem, b0]) rfl ⟨_, by rw [HD.out], ?_, ?_⟩
    · rw [HD.out]
      exact set_done HI.out (by omega) (Nat.le_refl _)
    · exact HB4.out.setCell (by simp) _
theorem spec_removeLayer (dv : Value) (l : P.Lays) (i : Int) (w : World) (hu : LayR w dv l) (hs : SmallS l) :
    Calls Tryz.prog 38 #[.agg #[dv], .int .i64 i] w (RemPost i l w) := by
  obtain ⟨i0, hi0, hz0, hz1, hz2⟩ := info_parts info_lay
  have hb0 : Below w.heap.size w ((w.alloc (.cells #[dv] 52)).alloc (.cells #[.slice none 0 0] 52)) := ((Below.refl w.heap.size w).alloc (Nat.le_refl _) _).alloc (by simp) _
  have HU := Lib.hid (hu.below hb0)
  have HB0 := Lib.hid hb0; clear hb0
  have HN := Lib.hid (SkBox.new dv w)
  have HSM := Lib.hid hs; clear hs
  obtain ⟨ad, cap, rfl, _, _⟩ := hu
  go_enter Tryz.func38, Tryz.ntmps38
  go_wp2_with fail
  refine (l8At _ l i _ HU.out HSM.out.len HSM.out.each).mono ?_
  rintro e w1 ⟨rfl, hb⟩
  have HU1 := Lib.hid (HU.out.below hb)
  have HN1 := Lib.hid (HN.out.below hb)
  have HB1 := Lib.hid (HB0.out.trans (hb.mono (by simp; omega)))
  clear hb HU HB0 HN
  cases hd : P.setOk i l
  · have HD := Lib.hid hd; clear hd
    obtain ⟨_, b0, f0, _⟩ := HN1.out
    go_wp2
    refine bodyPost_ret (v := .tuple #[.agg #[.slice none 0 0], .bool false]) (by simp [results, Tryz.results38, go_sem, b0]) rfl ⟨_, by rw [HD.out], ?_, ?_⟩
    · rw [HD.out]; exact RowO.nil _ _
    · exact HB1.out.setCell (by simp) _
  · have HD := Lib.hid hd
    obtain ⟨n, m, rfl, hm⟩ := range_of hd
    have HM := Lib.hid hm
    have hl20 := HSM.out.len
    clear hd hm
    obtain ⟨a0, _⟩ := HN1.out
    go_wp2_with fail
    refine (l8Own _ l _ HU1.out HSM.out.len HSM.out.each).mono ?_
    rintro e w2 ⟨u, rfl, hI, hb⟩
    have hW1 : w.heap.size + 1 < w1.heap.size := HN1.out.2.2.2
    have hzz2 : w1.heap.size ≤ w2.heap.size := hb.size
    have HN2 := Lib.hid (HN1.out.below hb)
    have HB2 := Lib.hid (HB1.out.trans (hb.mono HB1.out.size))
    have HI := Lib.hid hI
    obtain ⟨its, hits, hoo, hsrc⟩ := hI.items
    obtain ⟨ud, uc, rfl, hul, hucap, hudat⟩ := hI
    obtain ⟨g, o, G, C, rfl, _⟩ := hudat.resolve_left (by intro e; have := HM.out; rw [e, List.length_nil] at this; omega)
    have HIL := Lib.hid (show its.length = l.length by rw [← hits]; simp [olays])
    rw [HIL.out] at hsrc
    have HITS := Lib.hid hits
    have hba : Below w2.heap.size w2 (w2.alloc (.cells #[.slice (some ⟨g, o, none⟩) l.length uc] 52)).drew := ((Below.refl w2.heap.size w2).alloc (Nat.le_refl _) (.cells #[.slice (some ⟨g, o, none⟩) l.length uc] 52)).drew
    have HOO := Lib.hid (hoo.below hba); have HSR := Lib.hid (hsrc.below hba)
    have HN3 := Lib.hid (HN2.out.below hba); have HB3 := Lib.hid (HB2.out.trans (hba.mono HB2.out.size))
    have HZ0 := Lib.hid (show (w2.alloc (.cells #[.slice (some ⟨g, o, none⟩) l.length uc] 52)).drew.heap.size = w2.heap.size + 1 by show (w2.alloc _).heap.size = _; simp)
    have HS := Lib.hid (show Box1 w2.heap.size (.slice (some ⟨g, o, none⟩) l.length uc) (w2.alloc (.cells #[.slice (some ⟨g, o, none⟩) l.length uc] 52)).drew from (Box1.new _ 52 w2).below (Below.refl _ _).drew)
    have hn20 : (n : Int) ≤ 1048576 := by have := HM.out; omega
    have hw1 : IntKind.i64.wrap ((n : Int) + 1) = (n : Int) + 1 := IntWalk.i64_in _ (by omega)
    have hm1 := HM.out
    have hc1 : ¬ (l.length : Int) < (n : Int) + 1 := by omega
    have hc2 : ¬ (uc : Int) < (l.length : Int) := by omega
    have hc3 : ¬ (uc : Int) < (n : Int) := by omega
    have hc4 : ¬ l.length < n + 1 := by omega
    have hc5 : ¬ uc < n := by omega
    have hc6 : ¬ (n : Int) + 1 < 0 := by omega
    have hA : (if uc = n + 1 then some (⟨g, o, none⟩ : Addr) else some ⟨g, o + (n + 1) * 2, none⟩) = some (if uc = n + 1 then ⟨g, o, none⟩ else ⟨g, o + (n + 1) * 2, none⟩) := by split <;> rfl
    have HA := Lib.hid hA; clear hA
    have HLO := Lib.hid (SrcIs.lo (i := n) HSR.out (by rw [List.length_map, HIL.out]; omega))
    have HHI := Lib.hid (SrcIs.hi (i := n + 1) (c' := uc - (n + 1)) (a := if uc = n + 1 then ⟨g, o, none⟩ else ⟨g, o + (n + 1) * 2, none⟩) HSR.out (by rw [List.length_map, HIL.out]) (by omega) (fun h => if_neg (by omega)))
    have HBASE := Lib.hid hW1
    clear hba hoo hsrc HN2 hudat hits hm1 HSR
    go_upto_region 4 with fail
    generalize (w2.alloc (.cells #[.slice (some ⟨g, o, none⟩) l.length uc] 52)) = va at *
    refine Left.region [13, 14] (S := Box1 w2.heap.size (.slice (some ⟨g, o, none⟩) l.length uc)) (by kernel_rfl) HS.out (fun hS0 => ?_)
    refine Left.take (i := 1) (v := .pointer (some ⟨w2.heap.size, 0, none⟩)) rfl (by kernel_rfl) (by kernel_rfl) (by kernel_rfl) (by kernel_rfl) (fun _ _ _ h => h) (Or.inl ⟨by rfl, fun z hz => ?_⟩) hS0 ?_
    · obtain ⟨z1, z2⟩ := hz
      go_simp
    try simp only [List.getElem_toArray, List.getElem_cons_zero, List.getElem_cons_succ, Act.put, List.setIfInBounds_toArray, List.set_cons_zero, List.set_cons_succ]
    refine Left.take (i := 2) (v := .slice (some ⟨g, o, none⟩) l.length uc) rfl (by kernel_rfl) (by kernel_rfl) (by kernel_rfl) (by kernel_rfl) (fun _ _ _ h => h) (Or.inl ⟨by rfl, fun z hz => ?_⟩) hS0 ?_
    · obtain ⟨z1, z2⟩ := hz
      go_simp
    try simp only [List.getElem_toArray, List.getElem_cons_zero, List.getElem_cons_succ, Act.put, List.setIfInBounds_toArray, List.set_cons_zero, List.set_cons_succ]
    refine Left.take (i := 3) (v := .int .i64 n) rfl (by kernel_rfl) (by kernel_rfl) (by kernel_rfl) (by kernel_rfl) (fun _ _ _ h => h) (Or.inl ⟨by rfl, fun z hz => ?_⟩) hS0 ?_
    · obtain ⟨z1, z2⟩ := hz
      go_simp
    try simp only [List.getElem_toArray, List.getElem_cons_zero, List.getElem_cons_succ, Act.put, List.setIfInBounds_toArray, List.set_cons_zero, List.set_cons_succ]
    refine Left.take (i := 4) (v := .slice (some ⟨g, o, none⟩) n uc) rfl (by kernel_rfl) (by kernel_rfl) (by kernel_rfl) (by kernel_rfl) (fun _ _ _ h => h) (Or.inl ⟨by rfl, fun z hz => ?_⟩) hS0 ?_
    · obtain ⟨z1, z2⟩ := hz
      go_simp
    try simp only [List.getElem_toArray, List.getElem_cons_zero, List.getElem_cons_succ, Act.put, List.setIfInBounds_toArray, List.set_cons_zero, List.set_cons_succ]
    refine Left.take (i := 6) (v := .pointer (some ⟨w2.heap.size, 0, none⟩)) rfl (by kernel_rfl) (by kernel_rfl) (by kernel_rfl) (by kernel_rfl) (fun _ _ _ h => h) (Or.inl ⟨by rfl, fun z hz => ?_⟩) hS0 ?_
    · obtain ⟨z1, z2⟩ := hz
      go_simp
    try simp only [List.getElem_toArray, List.getElem_cons_zero, List.getElem_cons_succ, Act.put, List.setIfInBounds_toArray, List.set_cons_zero, List.set_cons_succ]
    refine Left.take (i := 7) (v := .slice (some ⟨g, o, none⟩) l.length uc) rfl (by kernel_rfl) (by kernel_rfl) (by kernel_rfl) (by kernel_rfl) (fun _ _ _ h => h) (Or.inl ⟨by rfl, fun z hz => ?_⟩) hS0 ?_
    · obtain ⟨z1, z2⟩ := hz
      go_simp
    try simp only [List.getElem_toArray, List.getElem_cons_zero, List.getElem_cons_succ, Act.put, List.setIfInBounds_toArray, List.set_cons_zero, List.set_cons_succ]
    refine Left.take (i := 8) (v := .int .i64 n) rfl (by kernel_rfl) (by kernel_rfl) (by kernel_rfl) (by kernel_rfl) (fun _ _ _ h => h) (Or.inl ⟨by rfl, fun z hz => ?_⟩) hS0 ?_
    · obtain ⟨z1, z2⟩ := hz
      go_simp
    try simp only [List.getElem_toArray, List.getElem_cons_zero, List.getElem_cons_succ, Act.put, List.setIfInBounds_toArray, List.set_cons_zero, List.set_cons_succ]
    refine Left.take (i := 9) (v := .int .i64 ((n : Int) + 1)) rfl (by kernel_rfl) (by kernel_rfl) (by kernel_rfl) (by kernel_rfl) (fun _ _ _ h => h) (Or.inl ⟨by rfl, fun z hz => ?_⟩) hS0 ?_
    · obtain ⟨z1, z2⟩ := hz
      go_simp
    try simp only [List.getElem_toArray, List.getElem_cons_zero, List.getElem_cons_succ, Act.put, List.setIfInBounds_toArray, List.set_cons_zero, List.set_cons_succ]
    refine Left.take (i := 10) (v := .slice (if uc = n + 1 then some ⟨g, o, none⟩ else some ⟨g, o + (n + 1) * 2, none⟩) (l.length - (n + 1)) (uc - (n + 1))) rfl (by kernel_rfl) (by kernel_rfl) (by kernel_rfl) (by kernel_rfl) (fun _ _ _ h => h) (Or.inl ⟨by rfl, fun z hz => ?_⟩) hS0 ?_
    · obtain ⟨z1, z2⟩ := hz
      go_simp
    try simp only [List.getElem_toArray, List.getElem_cons_zero, List.getElem_cons_succ, Act.put, List.setIfInBounds_toArray, List.set_cons_zero, List.set_cons_succ]
    refine Left.ready (rs := [0]) (by kernel_rfl) (by simp) ?_
    refine Nexts.cons rfl (fun K hK => ?_) Nexts.nil
    go_simp
    have hbb : Below va.drew.heap.size va.drew (va.alloc (.cells #[] 74)).drew := (Below.refl va.drew.heap.size va.drew).alloc (Nat.le_refl _) (.cells #[] 74)
    have HBB := Lib.hid hbb
    have HOWN := Lib.hid (show (va.alloc (.cells #[] 74)).drew.ownsRow va.drew.heap.size 74 2 (.slice (some ⟨va.drew.heap.size, 0, none⟩) 0 0) 0 [] from World.ownsRow_lit (base := va.drew.heap.size) (e := 74) (size := 2) va.drew #[] 0 (Nat.le_refl _) (Nat.zero_le _) (by simp))
    have HLOb := Lib.hid (HLO.out.below hbb); have HHIb := Lib.hid (HHI.out.below hbb)
    refine on_held hK (by decide) (hS0.below hbb) (fun hS1 => ?_)
    clear hK K hbb HLO
    have HHI0 := HHI; clear HHI
    generalize hvb : (va.alloc (.cells #[] 74)).drew = vb at *
    clear hvb
    try simp only [List.getElem_toArray, List.getElem_cons_zero, List.getElem_cons_succ, Act.put, List.setIfInBounds_toArray, List.set_cons_zero, List.set_cons_succ]
    refine Left.ready (rs := [5]) (by kernel_rfl) (by simp) ?_
    refine Nexts.cons rfl (fun K hK => ?_) Nexts.nil
    refine step_append_srcR _ rfl _ _ 50 rfl va.drew.heap.size 74 i0 (.agg #[.slice none 0 0, .bool false]) 2 32 Tryz.underlying50 hi0 hz0 hz1 hz2 rfl (by decide) (.slice (some ⟨va.drew.heap.size, 0, none⟩) 0 0) 0 [] rfl HOWN.out (.slice (some ⟨g, o, none⟩) n uc) n _ rfl HLOb.out (by unfold maxLen; omega) (by omega) HBB.out.size ?_
    intro y2 vc hown hgr _
    have hbc : Below va.drew.heap.size vb vc := (Below.refl _ _).grown hgr HBB.out.size (fun k hk => (World.ownsRow.lt HOWN.out k hk).1)
    have HOW2 := Lib.hid hown; have HBC := Lib.hid hbc
    have hbvc : Below va.drew.heap.size va.drew vc := HBB.out.trans hbc
    have HHIc := Lib.hid (HHI0.out.below hbvc)
    refine on_held hK (by decide) (hS0.below hbvc) (fun hS2 => ?_)
    clear hK K hown hgr hbc hbvc
    try simp only [List.getElem_toArray, List.getElem_cons_zero, List.getElem_cons_succ, Act.put, List.setIfInBounds_toArray, List.set_cons_zero, List.set_cons_succ]
    refine Left.ready (rs := [11]) (by kernel_rfl) (by simp) ?_
    refine Nexts.cons rfl (fun K hK => ?_) Nexts.nil
    refine step_append_srcR _ rfl _ _ 50 rfl va.drew.heap.size 74 i0 (.agg #[.slice none 0 0, .bool false]) 2 32 Tryz.underlying50 hi0 hz0 hz1 hz2 rfl (by decide) y2 (0 + n) _ rfl HOW2.out (.slice (some (if uc = n + 1 then ⟨g, o, none⟩ else ⟨g, o + (n + 1) * 2, none⟩)) (l.length - (n + 1)) (uc - (n + 1))) (l.length - (n + 1)) _ (congrArg (fun a => Value.slice a (l.length - (n + 1)) (uc - (n + 1))) HA.out) HHIc.out (by unfold maxLen; omega) (by omega) (by have h1 := HBB.out.size; have h2 := HBC.out.size; omega) ?_
    intro y3 vd hown hgr _
    have hbd : Below va.drew.heap.size vc vd := (Below.refl _ _).grown hgr (by have h1 := HBB.out.size; have h2 := HBC.out.size; omega) (fun k hk => (World.ownsRow.lt HOW2.out k hk).1)
    have hbvd : Below va.drew.heap.size va.drew vd := (HBB.out.trans HBC.out).trans hbd
    refine on_held hK (by decide) (hS0.below hbvd) (fun hS3 => ?_)
    clear hK K
    have HBVD := Lib.hid hbvd
    have e1 : (its.take n ++ its.drop (n + 1)).length = 0 + n + (l.length - (n + 1)) := by rw [List.length_append, List.length_take, List.length_drop, HIL.out]; have := HM.out; omega
    have e2 : ocells (its.take n ++ its.drop (n + 1)) = [] ++ lcells ((its.map (·.1)).take n) ++ lcells ((its.map (·.1)).drop (n + 1)) := by unfold ocells; rw [List.map_append, lcells_append, List.map_take, List.map_drop, List.nil_append]
    have e3 : olays (its.take n ++ its.drop (n + 1)) = P.remL n l := by unfold olays P.remL; rw [List.map_append, List.map_take, List.map_drop]; have h := HITS.out; unfold olays at h; rw [h]
    have hsub : (its.take n ++ its.drop (n + 1)).Sublist its := by
      have h := List.Sublist.append (List.Sublist.refl (its.take n)) (List.drop_sublist_drop_left its (show n ≤ n + 1 by omega))
      rwa [List.take_append_drop] at h
    have hzv : va.drew.heap.size = w2.heap.size + 1 := HZ0.out
    have hLA := lays_of_items (B := va.drew.heap.size) (A := w1.heap.size) (F := Bet w1.heap.size w2.heap.size) (its := its.take n ++ its.drop (n + 1)) (v := vd) (by rw [e1, e2]; exact hown) ((HOO.out.below (v' := vd) (by exact hbvd)).sublist hsub) (fun b hb => ⟨hb.1, by have := hb.2; omega⟩) (by omega) hbvd.size (by rw [e1]; omega)
    rw [e3] at hLA
    have HL3 := Lib.hid hLA
    obtain ⟨y3d, y3c, rfl, _, _⟩ := id hLA
    have HN4 := Lib.hid (HN3.out.below (v' := vd) (by exact hbvd)); have HB4 := Lib.hid (HB3.out.trans (hbvd.mono HB3.out.size))
    clear hown hgr hbd hbvd e1 e2 e3 hsub hzv hLA
    obtain ⟨_, b0, f0, bsz⟩ := HN4.out
    try simp only [List.getElem_toArray, List.getElem_cons_zero, List.getElem_cons_succ, Act.put, List.setIfInBounds_toArray, List.set_cons_zero, List.set_cons_succ]
    refine Left.take (i := 12) (v := .agg #[.slice y3d (P.remL n l).length y3c]) rfl (by kernel_rfl) (by kernel_rfl) (by kernel_rfl) (by kernel_rfl) (fun _ _ _ h => h) (Or.inl ⟨by rfl, fun z hz => ?_⟩) hS3 ?_
    · obtain ⟨z1, z2⟩ := hz
      go_simp
    try simp only [List.getElem_toArray, List.getElem_cons_zero, List.getElem_cons_succ, Act.put, List.setIfInBounds_toArray, List.set_cons_zero, List.set_cons_succ]
    refine Left.ready (rs := [13]) (by kernel_rfl) (by simp) ?_
    refine Nexts.cons rfl (fun K hK => ?_) Nexts.nil
    go_simp
    refine on_last hK (by decide) ?_
    clear hK K
    try simp only [List.getElem_toArray, List.getElem_cons_zero, List.getElem_cons_succ, Act.put, List.setIfInBounds_toArray, List.set_cons_zero, List.set_cons_succ]
    refine Left.ready (rs := [14]) (by kernel_rfl) (by simp) ?_
    refine Nexts.cons rfl (fun K hK => ?_) Nexts.nil
    go_simp
    refine on_last hK (by decide) ?_
    clear hK K
    try simp only [List.getElem_toArray, List.getElem_cons_zero, List.getElem_cons_succ, Act.put, List.setIfInBounds_toArray, List.set_cons_zero, List.set_cons_succ]
    refine Left.done (by kernel_rfl) ?_ _
    go_wp2_with fail
    all_goals
      refine bodyPost_ret (v := .tuple #[.agg #[.slice y3d (P.remL n l).length y3c], .bool true]) (by simp [results, Tryz.results38, go_sem, b0]) rfl ⟨_, by rw [HD.out], ?_, ?_⟩
      · rw [HD.out]
        exact set_done HL3.out (by omega) (Nat.le_refl _)
      · exact HB4.out.setCell (by simp) _
end Go.Proofs.YtonhkglilnplbaaGreatDoor
