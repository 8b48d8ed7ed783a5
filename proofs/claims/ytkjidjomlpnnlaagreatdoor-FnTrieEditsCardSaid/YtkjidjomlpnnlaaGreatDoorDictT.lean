/- Walks: the program's dictionary of a trie. -/
import Derived.Deep.DeepCutAuto
import Derived.Deep.RegionHeld
import Derived.Test.YtkjidjomlpnnlaaGreatDoorTrieOf
import Derived.Test.YtkjidjomlpnnlaaGreatDoorReadA
import Derived.Test.YtkjidjomlpnnlaaGreatDoorNodeEq
import Derived.Test.YtkjidjomlpnnlaaGreatDoorValD
namespace Go.Proofs.YtkjidjomlpnnlaaGreatDoor
section
namespace P
theorem readK_texts {R : Int → List Int → Nat → Option (Nat × Dic)} {B : Nat} (hR : ∀ k o nx n1 e1, R k o nx = some (n1, e1) → ∀ e ∈ e1, e.2.length ≤ B) (o : List Int) : ∀ (l : List (Int × Int)) (nx n1 : Nat) (e1 : Dic), readK R o l nx = some (n1, e1) → ∀ e ∈ e1, e.2.length ≤ B
  | [], nx, n1, e1, h, e, he => by
    injection h with h
    injection h with h1 h2
    subst h2
    cases he
  | (s, c) :: l, nx, n1, e1, h, e, he => by
    unfold readK at h
    split at h
    · cases h
    · rename_i n2 e2 h2
      split at h
      · cases h
      · rename_i n3 e3 h3
        injection h with h
        injection h with h4 h5
        subst h5
        rcases List.mem_append.1 he with he | he
        · exact hR _ _ _ _ _ h2 e he
        · exact readK_texts hR o l n2 n3 e3 h3 e he
theorem read_texts (t : Tri) (B : Nat) (hB : ∀ n ∈ t, n.2.2.2.length ≤ B) : ∀ (f : Nat) (k : Int) (o : List Int) (nx n1 : Nat) (e1 : Dic), read t f k o nx = some (n1, e1) → ∀ e ∈ e1, e.2.length ≤ B
  | 0, _, _, _, _, _, h => by cases h
  | f + 1, k, o, nx, n1, e1, h => by
    unfold read at h
    split at h
    · rename_i hk
      split at h
      · rw [Option.map_eq_some_iff] at h
        obtain ⟨r, h1, h2⟩ := h
        injection h2 with h3 h4
        subst h4
        have hb := readK_texts (fun k o nx n1 e1 => read_texts t B hB f k o nx n1 e1) o _ (nx + 1) r.1 r.2 h1
        intro e he
        rcases List.mem_append.1 he with he | he
        · unfold own at he
          split at he
          · rw [List.mem_singleton] at he
            subst he
            refine hB _ ?_
            rw [List.getD_eq_getElem?_getD, List.getElem?_eq_getElem hk.2]
            exact List.getElem_mem hk.2
          · cases he
        · exact hb e he
      · cases h
    · cases h
theorem dictI_read {t : Tri} {r : Nat × Dic} (hl : ¬ 241 < t.length) (hr : read t 7 0 [] 0 = some r) : dictI t = if dic r.2 && decide (trie r.2 = t) then some r.2 else none := by
  unfold dictI
  rw [if_neg hl, hr]
  simp only
  congr 2
  rw [Bool.eq_iff_iff]
  simp
end P
end
open Go Go.RowKit
set_option maxHeartbeats 4000000
set_option maxRecDepth 100000
theorem field_trie (a : Option Addr) (n c : Nat) (z : World) : (Instr.field 86 (.agg #[.slice a n c]) 0).run Tryz.prog z = .ok (.slice a n c) z := by kernel_rfl
/-- a dictionary of the call's own, and whether there is one -/
def DictPost (d : Option P.Dic) (w : World) (e : Ending) (w' : World) : Prop := ∃ u, e = .returned (.tuple #[.agg #[u], .bool d.isSome]) ∧ Ents w' (Bet w.heap.size w'.heap.size) u (d.getD []) ∧ Below w.heap.size w w'
def KDT (W D : Nat) (tv uv : Value) (v : World) : Prop := v.cell? ⟨D, 0, none⟩ = some uv ∧ v.cell? ⟨W, 0, none⟩ = some tv ∧ D < v.heap.size ∧ W < v.heap.size
theorem KDT.step {W D : Nat} {tv uv : Value} {v v' : World} (h : KDT W D tv uv v) (hb : Below v.heap.size v v') : KDT W D tv uv v' :=
  ⟨(hb.cell (p := ⟨D, 0, none⟩) h.2.2.1).trans h.1, (hb.cell (p := ⟨W, 0, none⟩) h.2.2.2).trans h.2.1, Nat.lt_of_lt_of_le h.2.2.1 hb.size, Nat.lt_of_lt_of_le h.2.2.2 hb.size⟩
theorem dictT (tv : Value) (t : P.Tri) (w : World) (hu : NodR w tv t) (hx : ∀ n ∈ t, n.2.2.2.length ≤ 2 ^ 30) (hE : Env w) :
    Calls Tryz.prog 116 #[.agg #[tv]] w (DictPost (P.dictI t) w) := by
  have hb0 : Below w.heap.size w (((w.alloc (.cells #[tv] 86)).alloc (.cells #[.slice none 0 0] 26))) :=
    ((Below.refl w.heap.size w).alloc (Nat.le_refl _) _).alloc (by simp) _
  have HN := Lib.hid (DBox.new tv w 86)
  have HB0 := Lib.hid hb0; have HU := Lib.hid hu; have HX := Lib.hid hx; have HE := Lib.hid hE
  clear hb0 hx hE
  obtain ⟨ad, cap, rfl, _, _⟩ := hu
  by_cases hlen : 241 < t.length
  · have HD := Lib.hid (show P.dictI t = none by unfold P.dictI; rw [if_pos hlen])
    have i1 : (241 : Int) < (t.length : Int) := by omega
    obtain ⟨_, b0, f0, _⟩ := HN.out
    have HBA := Lib.hid (HB0.out.alloc HB0.out.size (.cells #[.slice ad t.length cap, .int .i64 0, .slice none 0 0] 196))
    clear hlen
    go_enter Tryz.func116, Tryz.ntmps116
    go_wp2
    refine bodyPost_ret (v := .tuple #[.agg #[.slice none 0 0], .bool false]) (by simp [results, Tryz.results116, go_sem]) rfl ⟨_, by rw [HD.out]; rfl, ?_, ?_⟩
    · rw [HD.out]; exact RowO.nil _ _
    · first | exact HBA.out | exact HBA.out.setCell (Nat.le_succ w.heap.size) _
  · have i1 : ¬ (241 : Int) < (t.length : Int) := by omega
    have HLEN := Lib.hid hlen
    have hbr := (HB0.out.alloc HB0.out.size (.cells #[.slice ad t.length cap, .int .i64 0, .slice none 0 0] 196))
    have hbl := hbr.alloc hbr.size (.cells #[] 3)
    have HBL := Lib.hid hbl
    have HRD := Lib.hid (show RD (w.heap.size + 1 + 1) (.slice ad t.length cap) 0 (.slice none 0 0) ((((w.alloc (.cells #[.slice ad t.length cap] 86)).alloc (.cells #[.slice none 0 0] 26)).alloc (.cells #[.slice ad t.length cap, .int .i64 0, .slice none 0 0] 196)).alloc (.cells #[] 3)) by refine ⟨?_, ?_, ?_, ?_, ?_, ?_, ?_⟩ <;> go_simp)
    have HN0 := Lib.hid (show DBox w.heap.size (.slice ad t.length cap) ((((w.alloc (.cells #[.slice ad t.length cap] 86)).alloc (.cells #[.slice none 0 0] 26)).alloc (.cells #[.slice ad t.length cap, .int .i64 0, .slice none 0 0] 196)).alloc (.cells #[] 3)) from
      (HN.out.below ((Below.refl _ _).alloc (Nat.le_refl _) _)).below ((Below.refl _ _).alloc (Nat.le_refl _) _))
    clear hlen hbr hbl HN
    go_enter Tryz.func116, Tryz.ntmps116
    go_wp2_with fail
    refine (read_walk w (.slice ad t.length cap) t HU.out (by omega) (w.heap.size + 1 + 1) (by omega) 7 0 _ [] 0 (.slice none 0 0) [] [] _ rfl ⟨_, _, rfl, by simp, (fun h => by cases h), .inl rfl⟩ (fun b hb => ⟨fun e => by simp [Value.ownBlock] at hb; omega, fun e => by cases e⟩) HRD.out (Acc.nil (World.ownsRow_nil _ _ _ _) (by simp)) (Nat.zero_le _) (Nat.le_refl _) HBL.out).mono ?_
    rintro e w1 ⟨rfl, hch, hsome⟩
    have hb1 := hch.below (B := w.heap.size) HBL.out.size (fun b e => e.elim (fun e => by omega) (fun e => by cases e))
    have HB1 := Lib.hid (HBL.out.trans hb1)
    have HN1 := Lib.hid (HN0.out.stand hch (fun e => e.elim (fun e => by omega) (fun e => by cases e)) (fun e => e.elim (fun e => by omega) (fun e => by cases e)))
    have HSM := Lib.hid hsome
    clear hch hb1 hsome HBL HN0 HRD HB0
    obtain ⟨r, hr⟩ : ∃ r, P.read t 7 0 [] 0 = r := ⟨_, rfl⟩
    rw [hr] at HSM ⊢
    have HR := Lib.hid hr; clear hr
    cases r with
    | none =>
      have HD := Lib.hid (show P.dictI t = none by unfold P.dictI; rw [if_neg HLEN.out, HR.out])
      obtain ⟨_, b0, f0, _⟩ := HN1.out
      go_wp2
      refine bodyPost_ret (v := .tuple #[.agg #[.slice none 0 0], .bool false]) (by simp [results, Tryz.results116, go_sem, b0]) rfl ⟨_, by rw [HD.out]; rfl, ?_, ?_⟩
      · rw [HD.out]; exact RowO.nil _ _
      · exact HB1.out.setCell (Nat.le_succ _) _
    | some r =>
      obtain ⟨n1, e1⟩ := r
      obtain ⟨u1, xs1, hrd, hacc, _⟩ := HSM.out n1 e1 rfl
      rw [List.nil_append] at hacc
      have hbd := P.read_bound t 7 0 [] 0 n1 e1 HR.out
      have HE1 := Lib.hid (show e1.length ≤ 241 by have := HLEN.out; omega)
      have HTX := Lib.hid (P.read_texts t (2 ^ 30) HX.out 7 0 [] 0 n1 e1 HR.out)
      have hrow := hacc.row (by have := HE1.out; omega)
      have HROW := Lib.hid hrow
      have HDI := Lib.hid (P.dictI_read HLEN.out HR.out)
      have hb2 := (Below.refl w1.heap.size w1).alloc (Nat.le_refl _) (.cells #[u1] 26)
      have HB2 := Lib.hid (HB1.out.trans (hb2.mono HB1.out.size)); have HN2 := Lib.hid (HN1.out.below hb2)
      have HK := Lib.hid (Box1.new u1 26 w1)
      have HRW2 := Lib.hid (hrow.below entE_ok hb2)
      have HE2 := Lib.hid (HE.out.below HB2.out HE.out.size)
      obtain ⟨c0, c1, c2, f0, f1, f2, hlt⟩ := hrd
      obtain ⟨ud, uc, rfl, _, _⟩ := hrow
      clear hacc hbd hb2 HSM HR HLEN
      go_wp2_with fail
      refine (isValidDictionary _ e1 _ (Ents.read HRW2.out) HTX.out HE2.out).mono ?_
      rintro e w3 ⟨rfl, hb⟩
      have HB3 := Lib.hid (HB2.out.trans (hb.mono HB2.out.size)); have HN3 := Lib.hid (HN2.out.below hb); have HK3 := Lib.hid (HK.out.below hb); have HRW3 := Lib.hid (HRW2.out.below entE_ok hb)
      have hz3 := HK3.out.2
      clear hb c0 c1 c2 f0 f1 f2 HN2 HK HRW2 HB2 HN1 HB1 HROW
      cases hd : P.dic e1
      · have HD := Lib.hid (show P.dictI t = none by rw [HDI.out]; rw [hd]; rfl)
        obtain ⟨_, b0, g0, _⟩ := HN3.out
        clear hd
        go_wp2
        refine bodyPost_ret (v := .tuple #[.agg #[.slice none 0 0], .bool false]) (by simp [results, Tryz.results116, go_sem, b0]) rfl ⟨_, by rw [HD.out]; rfl, ?_, ?_⟩
        · rw [HD.out]; exact RowO.nil _ _
        · exact HB3.out.setCell (Nat.le_succ _) _
      · have HDC := Lib.hid hd; clear hd
        have HS := Lib.hid (show KDT w.heap.size w1.heap.size (.slice ad t.length cap) (.slice ud e1.length uc) w3.drew from KDT.step ⟨HK3.out.1, HN3.out.1, HK3.out.2, by have := HN3.out.2.2.2; omega⟩ (Below.refl _ _).drew)
        have HB4 := Lib.hid (show Below w.heap.size w w3.drew from HB3.out.drew)
        have HN4 := Lib.hid (HN3.out.below (Below.refl w3.heap.size w3).drew)
        have HRW4 := Lib.hid (HRW3.out.below entE_ok (Below.refl w3.heap.size w3).drew)
        clear HB3 HN3 HRW3
        go_upto_region 7 with fail
        refine wp_region_held_drew (S := KDT w.heap.size w1.heap.size (.slice ad t.length cap) (.slice ud e1.length uc)) (by kernel_rfl) HS.out (fun hS0 => ?_)
        generalize w3.drew = w4 at *
        refine wpAnyH_take (i := 0) (v := .agg #[.slice ud e1.length uc]) rfl (by kernel_rfl) (by kernel_rfl) (by kernel_rfl) (fun _ _ _ h => h) (Or.inl ⟨by rfl, fun z hz => ?_⟩) hS0 ?_
        · obtain ⟨z1, z2, z3, z4⟩ := hz
          go_simp
        try simp only [qA, qB, Act.put, qD, qE, qF]
        refine wpAnyH_take (i := 3) (v := .pointer (some ⟨w.heap.size, 0, none⟩)) rfl (by kernel_rfl) (by kernel_rfl) (by kernel_rfl) (fun _ _ _ h => h) (Or.inl ⟨by rfl, fun z hz => ?_⟩) hS0 ?_
        · obtain ⟨z1, z2, z3, z4⟩ := hz
          go_simp
        try simp only [qA, qB, qC, Act.put, qD, qE, qF]
        refine wpAnyH_take (i := 4) (v := .slice ad t.length cap) rfl (by kernel_rfl) (by kernel_rfl) (by kernel_rfl) (fun _ _ _ h => h) (Or.inl ⟨by rfl, fun z hz => ?_⟩) hS0 ?_
        · obtain ⟨z1, z2, z3, z4⟩ := hz
          go_simp
        try simp only [qA, qB, qC, Act.put, qD, qE, qF]
        refine wpAnyH_ready (rs := [1]) (by kernel_rfl) (by simp) ?_
        refine AllReadyH.cons rfl (fun K hK => ?_) AllReadyH.nil
        have HS1 := Lib.hid hS0
        go_simp
        refine (trieOf _ e1 _ (Ents.read HRW4.out) HDC.out).mono ?_
        rintro e v ⟨u2, rfl, hI, hb⟩
        have HI := Lib.hid hI; have HB5 := Lib.hid (HB4.out.trans (hb.mono HB4.out.size)); have HN5 := Lib.hid (HN4.out.below hb); have HRW5 := Lib.hid (HRW4.out.below entE_ok hb)
        obtain ⟨u2d, u2c, rfl, _, _⟩ := hI
        refine hK.out _ _ (HS1.out.step hb) (fun hS1 => ?_)
        clear hK K hb
        try simp only [qA, qB, qC, Act.put, qD, qE, qF]
        refine wpAnyH_take (i := 2) (v := .slice u2d (P.trie e1).length u2c) rfl (by kernel_rfl) (by kernel_rfl) (by kernel_rfl) (fun _ _ _ h => h) (Or.inl ⟨by rfl, fun z hz => ?_⟩) hS1 ?_
        · go_simp
          rw [field_trie]
          rfl
        try simp only [qA, qB, qC, Act.put, qD, qE, qF]
        refine wpAnyH_ready (rs := [5]) (by kernel_rfl) (by simp) ?_
        refine AllReadyH.cons rfl (fun K hK => ?_) AllReadyH.nil
        have HS2 := Lib.hid hS1
        go_simp
        refine (equalNodes _ _ (P.trie e1) t _ (Nods.read HI.out) (HU.out.below HB5.out)).mono ?_
        rintro e v2 ⟨rfl, hb⟩
        have HB6 := Lib.hid (HB5.out.trans (hb.mono HB5.out.size)); have HN6 := Lib.hid (HN5.out.below hb); have HRW6 := Lib.hid (HRW5.out.below entE_ok hb)
        refine hK.out _ _ (HS2.out.step hb) (fun hS3 => ?_)
        clear hK K hb HB5 HB4 HN5 HN4 HRW5 HRW4 HI
        try simp only [qA, qB, qC, Act.put, qD, qE, qF]
        cases hq : decide (P.trie e1 = t)
        · have HD := Lib.hid (show P.dictI t = none by rw [HDI.out]; rw [hq, Bool.and_false]; rfl)
          refine wpAnyH_take (i := 6) (v := .bool false) rfl (by kernel_rfl) (by kernel_rfl) (by kernel_rfl) (fun _ _ _ h => h) (Or.inl ⟨by rfl, fun z hz => ?_⟩) hS3 ?_
          · obtain ⟨z1, z2, z3, z4⟩ := hz
            go_simp
          try simp only [qA, qB, qC, Act.put, qD, qE, qF]
          refine wpAnyH_done (by kernel_rfl) ?_ _
          obtain ⟨_, b0, g0, _⟩ := HN6.out
          clear hS0 hS1 hS3 HS1 HS2 hq
          go_wp2
          refine bodyPost_ret (v := .tuple #[.agg #[.slice none 0 0], .bool false]) (by simp [results, Tryz.results116, go_sem, b0]) rfl ⟨_, by rw [HD.out]; rfl, ?_, ?_⟩
          · rw [HD.out]; exact RowO.nil _ _
          · exact HB6.out.setCell (Nat.le_succ _) _
        · have HD := Lib.hid (show P.dictI t = some e1 by rw [HDI.out]; rw [hq, HDC.out]; rfl)
          refine wpAnyH_take (i := 6) (v := .bool true) rfl (by kernel_rfl) (by kernel_rfl) (by kernel_rfl) (fun _ _ _ h => h) (Or.inl ⟨by rfl, fun z hz => ?_⟩) hS3 ?_
          · obtain ⟨z1, z2, z3, z4⟩ := hz
            go_simp
          try simp only [qA, qB, qC, Act.put, qD, qE, qF]
          refine wpAnyH_done (by kernel_rfl) ?_ _
          obtain ⟨_, b0, g0, _⟩ := HN6.out
          obtain ⟨k0, _, k1, _⟩ := hS3
          clear hS0 hS1 HS1 HS2 hq
          go_wp2
          refine bodyPost_ret (v := .tuple #[.agg #[.slice ud e1.length uc], .bool true]) (by simp [results, Tryz.results116, go_sem, b0]) rfl ⟨_, by rw [HD.out]; rfl, ?_, ?_⟩
          · rw [HD.out]
            refine (HRW6.out.stand (X := fun b => b = w.heap.size + 1) entE_ok ((Chg.refl (fun b => b = w.heap.size + 1) _).setCell (p := ⟨w.heap.size + 1, 0, none⟩) rfl _) (fun b hb e => by have := hb.1; omega)).wide (fun b hb => ⟨by have := hb.1; omega, by have := hb.2; simpa [World.setCell] using by omega⟩) (fun b hb => hb.2)
          · exact HB6.out.setCell (Nat.le_succ _) _
end Go.Proofs.YtkjidjomlpnnlaaGreatDoor
