/- Walks: reading all records (program). -/
import Derived.Test.YtmlklnimoknojaaGreatDoorLLog7
import Derived.Test.YtmlklnimoknojaaGreatDoorBaseL
namespace Go.Proofs.YtmlklnimoknojaaGreatDoor.L
open Go Go.RowKit
set_option maxHeartbeats 400000
set_option maxRecDepth 100000
def intVals (l : List Int) : List Value := l.map (Value.int .i64)
/-- a slice of ints of the call's own -/
def OwnInts (B : Nat) (w : World) (v : Value) (l : List Int) : Prop := w.ownsRow B 3 1 v l.length (intVals l)
theorem info_int : (Tryz.prog.info? 3).map (fun i => (i.zero, i.size, i.bytes)) = some (some (.int .i64 0), 1, 8) := by kernel_rfl
theorem own_lenI {B : Nat} {w : World} {v : Value} {l : List Int} (h : OwnInts B w v l) : ∃ a cap, v = .slice a l.length cap := by
  rcases h.2 with ⟨rfl, h0⟩ | ⟨g, cap, cur, hv, _⟩
  · exact ⟨none, 0, by rw [h0]⟩
  · exact ⟨_, cap, hv⟩
/-- rows of different types lie in different blocks -/
theorem own_apart {B C : Nat} {w : World} {e f : TypeId} {s t : Nat} {v u : Value} {n m : Nat} {xs ys : List Value} (h : w.ownsRow B e s v n xs) (k : w.ownsRow C f t u m ys) (hne : e ≠ f) : v.ownBlock = none ∨ v.ownBlock ≠ u.ownBlock := by
  rcases h.2 with ⟨rfl, _⟩ | ⟨g, cap, cur, rfl, _, hg, _⟩
  · exact .inl rfl
  · refine .inr (fun eq => ?_)
    rcases k.2 with ⟨rfl, _⟩ | ⟨g', cap', cur', rfl, _, hg', _⟩
    · cases eq
    · simp [Value.ownBlock] at eq
      subst eq
      rw [hg] at hg'
      injection hg' with hg'; injection hg' with _ h2 _
      exact hne h2
def ReadAllPost (s : Str) (w : World) (e : Ending) (w' : World) : Prop := ∃ v u, e = .returned (.tuple #[v, u]) ∧ OwnRecs w.heap.size w' v (P.readAll s).1 ∧ OwnInts w.heap.size w' u (P.readAll s).2.1 ∧ Below w.heap.size w w'
theorem read (s : Str) (w : World) (hs : s.length ≤ 2 ^ 28) (hE : Env w) :
    Calls Tryz.prog 199 #[.string (S s)] w (ReadAllPost s w) := by
  obtain ⟨i0, hi, hz0, hz1, hz2⟩ := info_parts info_rec
  obtain ⟨j0, ji, jz0, jz1, jz2⟩ := info_parts info_int
  have HE := Lib.hid hE; clear hE
  go_enter Tryz.func199, Tryz.ntmps199
  go_wp2
  go_loopw [4, 5, 6] (fun v u i wr => ∃ (out : List (Str × Str)) (ends : List Int) (a : Nat), a ≤ s.length ∧ i = .int .i64 a ∧ out.length ≤ 60 ∧ ends.length = out.length ∧ P.runI s (60 - out.length) (out, ends, a) = P.readAll s ∧ OwnRecs w.heap.size wr v out ∧ OwnInts w.heap.size wr u ends ∧ Below w.heap.size w wr)
    (fun _ _ i _ => s.length - (intOf i).toNat)
  case atStart => exact ⟨[], [], 0, Nat.zero_le _, rfl, Nat.zero_le _, rfl, rfl, (World.ownsRow_made _ _ _ (Nat.le_refl _) (by decide) (by rfl)).alloc _, by unfold OwnInts; have h := World.ownsRow_made (base := w.heap.size) (e := 3) (size := 1) (w.alloc (.cells #[] 226)) #[] 0 (by simp) (by decide) (by rfl); simpa [intVals] using h, ((Below.refl _ _).alloc (Nat.le_refl _) _).alloc (by simp) _⟩
  case round =>
    obtain ⟨out, ends, a, ha, rfl, ho, hel, hrun, hown, howi, hbel⟩ := hrel
    obtain ⟨ad, cp, rfl⟩ := own_len hown
    obtain ⟨ad2, cp2, rfl⟩ := own_lenI howi
    have HEL := Lib.hid hel; clear hel
    have HRUN := Lib.hid hrun; clear hrun
    have HOWN := Lib.hid hown; clear hown
    have HOWI := Lib.hid howi; clear howi
    have HBEL := Lib.hid hbel; clear hbel
    have hsz := HBEL.out.size
    obtain ⟨rest, hrest⟩ : ∃ rest, rest = s.drop a := ⟨_, rfl⟩
    have hrl : rest.length + a = s.length := by rw [hrest]; simp; omega
    have HREST := Lib.hid hrest; clear hrest
    go_wp2_with fail
    rw [← HREST.out]
    refine (decode _ _ _ (by omega) (by omega) (HE.out.below HBEL.out HE.out.size)).mono ?_
    rintro e w1 ⟨rfl, hb⟩
    obtain ⟨hcc, hff⟩ := bcell hb
    have hz1' := hb.size
    have HB := Lib.hid hb; clear hb
    cases h4 : (P.decode out.length rest).2.2
    · have HST := Lib.hid (P.runI_none (P.stepI_stop (st := (out, ends, a)) (s := s) (by rw [← HREST.out]; exact h4)) (60 - out.length))
      go_wp2
      go_ret2
      exact ⟨.slice ad out.length cp, .slice ad2 ends.length cp2, rfl, by rw [← HRUN.out, HST.out]; exact (own_below HOWN.out HB.out (Nat.le_refl _)).alloc _, by rw [← HRUN.out, HST.out]; exact (own_below HOWI.out HB.out (Nat.le_refl _)).alloc _, (HBEL.out.trans (HB.out.mono hsz)).alloc (by omega) _⟩
    · have hok := P.decode_ok _ _ h4
      have HST := Lib.hid (P.runI_some (P.stepI_go (st := (out, ends, a)) (s := s) (by rw [← HREST.out]; exact h4)) (59 - out.length))
      obtain ⟨c, hc⟩ : ∃ c, c = (P.decode out.length rest).1.1 := ⟨_, rfl⟩
      obtain ⟨r, hr⟩ : ∃ r, r = (P.decode out.length rest).1.2 := ⟨_, rfl⟩
      obtain ⟨n, hn⟩ : ∃ n, n = (P.decode out.length rest).2.1 := ⟨_, rfl⟩
      rw [← hc, ← hr, ← hn]
      have hn1 : 1 ≤ n := by rw [hn]; exact hok.2.1
      have hn2 : n ≤ rest.length := by rw [hn]; exact hok.2.2
      have ho9 := hok.1
      have HC := Lib.hid hc; have HR := Lib.hid hr; have HN := Lib.hid hn
      clear hc hr hn hok h4
      go_wp2_with (at_builtin; refine wpList_append_own _ rfl (.tmp 29) (.tmp 31) 179 rfl w.heap.size 226 i0 (.agg #[.string ⟨#[]⟩, .string ⟨#[]⟩]) 2 32 Tryz.underlying179 hi hz0 hz1 hz2 rfl (by decide) _ _ _ rfl (((own_below HOWN.out HB.out (Nat.le_refl _)).alloc _).alloc _) ⟨w1.heap.size + 1, 0, none⟩ 1 1 [.string (S c), .string (S r)] rfl rfl ?c1 ?c2 ?c3 ?c4 ?c5 ?_)
      case c1 => intro j u hj; match j, hj with | 0, hj => (simp at hj; subst hj; simp [Addr.add]) | 1, hj => (simp at hj; subst hj; simp [Addr.add])
      case c2 => intro u hu; simp at hu; rcases hu with rfl | rfl <;> rfl
      case c3 => unfold maxLen; omega
      case c4 => omega
      case c5 => simp; omega
      intro v' w2 hown' hgrow _
      have R := Lib.hid (recs_rel (x := (c, r)) (w1 := w1.alloc _) (by simp; omega) ((own_below HOWN.out HB.out (Nat.le_refl _)).alloc _) ((HBEL.out.trans (HB.out.mono hsz)).alloc (by omega) _) hown' hgrow)
      have hI : OwnInts w.heap.size w2 (.slice ad2 ends.length cp2) ends := World.ownsRow.kept (((own_below HOWI.out HB.out (Nat.le_refl _)).alloc _).alloc _) hgrow (own_apart (own_below HOWI.out HB.out (Nat.le_refl _)) (own_below HOWN.out HB.out (Nat.le_refl _)) (by decide))
      have HI := Lib.hid hI
      have hw2 := R.out.2.size
      clear hown' hgrow HOWN HOWI HBEL HB hI hcc hff
      obtain ⟨ad3, cp3, rfl⟩ := own_len R.out.1
      go_wp2_with (at_builtin; refine wpList_append_own _ rfl (.tmp 33) (.tmp 35) 27 rfl w.heap.size 3 j0 (.int .i64 0) 1 8 Tryz.underlying27 ji jz0 jz1 jz2 rfl (by decide) _ _ _ rfl (World.ownsRow.alloc HI.out _) ⟨w2.heap.size, 0, none⟩ 1 1 [.int .i64 ((a : Int) + n)] rfl rfl ?d1 ?d2 ?d3 ?d4 ?d5 ?_)
      case d1 => intro j u hj; match j, hj with | 0, hj => (simp at hj; subst hj; simp [Addr.add])
      case d2 => intro u hu; simp at hu; subst hu; rfl
      case d3 => have := HEL.out; unfold maxLen; omega
      case d4 => have := HEL.out; omega
      case d5 => simp; omega
      intro v'' w3 howi' hgrow2 _
      have hO : OwnRecs w.heap.size w3 (.slice ad3 (out ++ [(c, r)]).length cp3) (out ++ [(c, r)]) := World.ownsRow.kept (World.ownsRow.alloc R.out.1 _) hgrow2 (own_apart R.out.1 HI.out (by decide))
      have hB : Below w.heap.size w w3 := (R.out.2.alloc hw2 _).grown hgrow2 (by simp; omega) (fun k hk => (World.ownsRow.lt HI.out k hk).1)
      have hI2 : OwnInts w.heap.size w3 v'' (ends ++ [(a : Int) + n]) := by unfold OwnInts; rw [List.length_append]; simpa [intVals] using howi'
      have HO := Lib.hid hO; have HB := Lib.hid hB; have HI2 := Lib.hid hI2
      clear hO hB hI2 hgrow2 howi' R HI
      go_wp2
      go_roundw
      case rel => exact ⟨out ++ [(c, r)], ends ++ [(a : Int) + n], a + n, by omega, by go_num, by simp; omega, by simp [HEL.out], by
        rw [← HRUN.out, show 60 - out.length = 59 - out.length + 1 by omega, HST.out, ← HREST.out, ← HN.out, List.length_append, List.length_cons, List.length_nil, show 60 - (out.length + (0 + 1)) = 59 - out.length by omega]
        rw [show ((c, r) : Str × Str) = (P.decode out.length rest).1 by rw [HC.out, HR.out]]; rfl, (by have h := HO.out; rwa [show (out ++ [(c, r)]).length = out.length + 1 by simp] at h), HI2.out, HB.out⟩
      case measure => simp [intOf]; omega
end Go.Proofs.YtmlklnimoknojaaGreatDoor.L

namespace Go.Proofs.YtmlklnimoknojaaGreatDoor.L
open Go Go.RowKit
section
variable {P : Program} (w : World)
/-- what is appended: the cells of a slice, which may be nil -/
def SrcIs (w : World) (size : Nat) (u : Value) (m : Nat) (news : List Value) : Prop :=
  news.length = m * size ∧ (∀ x ∈ news, x.oneCell' = true) ∧ ((u = .slice none 0 0 ∧ m = 0) ∨ ∃ ad c, u = .slice (some ad) m c ∧ ∀ j x, news[j]? = some x → w.cell? (ad.add j) = some x)
theorem run_append_src (base : Nat) (t ty e : TypeId) (i : TypeInfo) (z : Value) (size bytes : Nat) (ht : P.underlying t = some (.slice e)) (hi : P.info? e = some i) (hz : i.zero = some z)
    (hsize : i.size = size) (hby : i.bytes = bytes) (hzs : z.cells.size = size) (hsz : 0 < size)
    (v : Value) (n : Nat) (xs : List Value) (hown : w.ownsRow base e size v n xs)
    (u : Value) (m : Nat) (news : List Value) (hsrc : SrcIs w size u m news)
    (h63 : n + m ≤ maxLen) (hbytes : (n + m) * bytes ≤ 140737488355328) (hbase : base ≤ w.heap.size) :
    ∃ v' w', (Builtin.append_ #[t, t] ty #[v, u]).run P w = .ok v' w' ∧ w'.ownsRow base e size v' (n + m) (xs ++ news) ∧ w.grownBy w' v.ownBlock ∧
      (v' = .slice none 0 0 ↔ v = .slice none 0 0 ∧ m = 0) := by
  obtain ⟨hl, h1, ⟨rfl, rfl⟩ | ⟨ad, c, rfl, hnews⟩⟩ := hsrc
  · have hn : news = [] := List.eq_nil_of_length_eq_zero (by simpa using hl)
    subst hn
    subst hsize
    refine ⟨v, w, ?_, by simpa using hown, ⟨rfl, rfl, rfl, Nat.le_refl _, fun _ _ _ => rfl⟩, by simp⟩
    rcases hown.2 with ⟨rfl, rfl⟩ | ⟨g, cap, cur, rfl, hbg, hg, hnc, hcm, hcs, htake⟩
    · simp [Builtin.append_, run_underlying ht, sizeOf, typeInfo, hi, Builtin.lenOf, Builtin.firstCells]
    · simp [Builtin.append_, run_underlying ht, sizeOf, typeInfo, hi, Builtin.lenOf, Builtin.firstCells, loadCells, hnc, storeCells]
  · exact run_append_own (P := P) w base t ty e i z size bytes ht hi hz hsize hby hzs hsz v n xs hown ad m c news hl hnews h1 h63 hbytes hbase
theorem wpList_append_src {w : World} {ops : Array Oper} {rest : List Oper} {o : Oper} {a : Act} {Q : Exit → Act → World → Prop} (hgd : o.guard = none) (s x : Operand) (t : TypeId)
    (ho : o.op = .call { callee := .builtin .append, args := #[s, x], argTypes := #[t, t] })
    (base : Nat) (e : TypeId) (i : TypeInfo) (z : Value) (size bytes : Nat) (ht : P.underlying t = some (.slice e)) (hi : P.info? e = some i) (hz : i.zero = some z)
    (hsize : i.size = size) (hby : i.bytes = bytes) (hzs : z.cells.size = size) (hsz : 0 < size)
    (v : Value) (n : Nat) (xs : List Value) (hs : a.eval s = v) (hown : w.ownsRow base e size v n xs)
    (u : Value) (m : Nat) (news : List Value) (hx : a.eval x = u) (hsrc : SrcIs w size u m news)
    (h63 : n + m ≤ maxLen) (hbytes : (n + m) * bytes ≤ 140737488355328) (hbase : base ≤ w.heap.size)
    (h : ∀ v' w', w'.ownsRow base e size v' (n + m) (xs ++ news) → w.grownBy w' v.ownBlock → (v' = .slice none 0 0 ↔ v = .slice none 0 0 ∧ m = 0) → wpList P ops Q rest (a.put o.dst v') w') : wpList P ops Q (o :: rest) a w :=
  wpList_plain hgd fun _ hK => by
    obtain ⟨v', w', hr, h2, h3, h4⟩ := run_append_src (P := P) w base t o.type e i z size bytes ht hi hz hsize hby hzs hsz v n xs hown u m news hsrc h63 hbytes hbase
    unfold Oper.wp execOp
    simp only [ho, resolve, invoke, builtin, Sem.run_bind, Sem.run_pure, Result.andThen_ok, List.map_toArray, List.map_cons, List.map_nil, hs, hx, hr]
    exact hK _ _ (h v' w' h2 h3 h4)
end
end Go.Proofs.YtmlklnimoknojaaGreatDoor.L
