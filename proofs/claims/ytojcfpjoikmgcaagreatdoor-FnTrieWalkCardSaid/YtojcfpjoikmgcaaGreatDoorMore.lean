/- What this claim needs beside the texts that it shares with another. -/
import Derived.Shelf.Strings.Trim
import Derived.Shelf.Small.Utf8
import Derived.Shelf.Small.Strs
import Derived.Shelf.Small.Wraps
import Derived.Shelf.Utf8.RuneCount
import Derived.Shelf.Strings.Search1
import Derived.Shelf.Strings.Search2
import Derived.Shelf.Strings.Search3
import Derived.Shelf.Strings.Count
import Derived.Shelf.LaysM
import Derived.Shelf.Strings.Shaped
import Derived.Shelf.Strings.Split
import Derived.Shelf.Strings.SplitShaped
import Derived.Shelf.Unicode.Decode
import Derived.Shelf.Strings.Runes
import Derived.Shelf.Strings.RuneCount
import Derived.Shelf.Strings.AsciiSet
import Derived.Shelf.Strings.Explode
import Derived.Shelf.Unicode.DecodeSlow
import Derived.Shelf.Unicode.DecodeAny
import Derived.Shelf.Unicode.DecodeLast
import Derived.Shelf.Slices.Turned
import Derived.Shelf.Slices.Equal
import Derived.Ground.Names2Prog
import Derived.Shelf.Slices.SearchI
import Derived.Shelf.Slices.Empties2
import Derived.Test.YtojcfpjoikmgcaaGreatDoorProg
import Derived.Test.YtojcfpjoikmgcaaGreatDoorShelf
import Derived.Deep.DeepCutAuto
import Derived.Test.YtojcfpjoikmgcaaGreatDoorMemE
import Derived.Test.YtojcfpjoikmgcaaGreatDoorPlainTrie
import Derived.Test.YtojcfpjoikmgcaaGreatDoorTrieA
import Derived.RegionTactic
import Derived.BigRegion
import Derived.Test.YtojcfpjoikmgcaaGreatDoorDrawT
import Derived.Test.YtojcfpjoikmgcaaGreatDoorCurE5
import Derived.Test.YtojcfpjoikmgcaaGreatDoorCodeD
import Derived.Test.YtojcfpjoikmgcaaGreatDoorDrawS
import Derived.Test.YtojcfpjoikmgcaaGreatDoorPlainLook
import Derived.Test.YtojcfpjoikmgcaaGreatDoorPlainWalk
import Derived.Deep.RegionHeld
import Derived.Test.YtojcfpjoikmgcaaGreatDoorColl
import Derived.Test.YtojcfpjoikmgcaaGreatDoorTrieOf
import Derived.Test.YtojcfpjoikmgcaaGreatDoorDictT
import Derived.Test.YtojcfpjoikmgcaaGreatDoorSpecT
import Derived.BigQuiet
import Derived.Test.YtojcfpjoikmgcaaGreatDoorLook1
import Derived.Test.YtojcfpjoikmgcaaGreatDoorWalkT
import Derived.Test.YtojcfpjoikmgcaaGreatDoorEntT
/-
  DERIVED: THE SHELF's CONTRACTS AT THIS DUMP, IN PLAIN WORDS (tools/lay-plain.mjs out of 'TryzShelf.lean', which tools/lay-shelf.mjs wrote): THE SAME DECLARATIONS UNDER THE SAME NAMES: 'import', 'namespace', 'open', 'def', 'theorem' AND NOTHING ELSE: no command of the shelf's: FOR A HAND-IN. Each laying: the table of numbers ('.._ren') and one theorem, a field a fact of the dump's own or the kernel's comparison; each contract: ONE APPLICATION.
-/
namespace Go.Proofs
open Go.Shelf
open Go.RowKit Go.Lib in
open Go.RowKit Go.Lib in
open Go.RowKit Go.Lib in
open Go.RowKit Go.Lib in
open Go.RowKit Go.Lib in
open Go.RowKit Go.Lib in
open Go.RowKit Go.Lib in
open Go.RowKit Go.Lib in
open Go.RowKit Go.Lib in
open Go.RowKit Go.Lib in
open Go.RowKit Go.Lib in
open Go.RowKit Go.Lib in
open Go.RowKit Go.Lib in
def Tryz.lays108_ren : Go.Shelf.Ren := ⟨fun | 108 => 133 | n => n, fun | 28 => 41 | 3 => 3 | 0 => 0 | 4 => 4 | n => n, fun | n => n⟩
theorem Tryz.lays108 : Go.Proofs.Lays.n108 Tryz.prog Tryz.lays108_ren := {
  mixed := by kernel_rfl
  f108 := Tryz.func133.trans (congrArg some (by kernel_rfl))
  t0 := Tryz.underlying0
  a0 := Tryz.isAgg0
  z0 := Tryz.sizeOf0
  v0 := Tryz.zeroValue0
  t3 := Tryz.underlying3
  a3 := Tryz.isAgg3
  z3 := Tryz.sizeOf3
  v3 := Tryz.zeroValue3
  t4 := Tryz.underlying4
  a4 := Tryz.isAgg4
  z4 := Tryz.sizeOf4
  v4 := Tryz.zeroValue4
  t28 := Tryz.underlying41
  a28 := Tryz.isAgg41
  z28 := Tryz.sizeOf41
  v28 := Tryz.zeroValue41 }
open Go.Lib in
/-- slices.Index at []int: "Index returns the index of the first occurrence of v in s, or -1 if not present.": IT RETURNS 'Lib.idxOf (the elements) v'; the world is as it was. 'zs': what the cells behind the slice's address hold (its spare capacity too, if you have it); 'zs.take n': its elements. (LAID: no walk: one application.) -/
theorem Tryz.slices_Index_int (b off n c : Nat) (zs : List Int) (x : Int) (w : World) (hz : n ≤ zs.length) (hbig : n ≤ 9223372036854775807) (hc : ∀ j, j < zs.length → w.cell? ⟨b, off + j, none⟩ = some (.int .i64 (zs.getD j 0))) :
    Calls Tryz.prog 133 #[.slice (some ⟨b, off, none⟩) n c, .int .i64 x] w fun e w' => e = .returned (.int .i64 (Lib.idxOf (zs.take n) x)) ∧ w' = w := Any.slices_Index_int Tryz.lays108 b off n c zs x w hz hbig hc
open Go.Lib in
/-- The same at a slice of length 0, a nil one too: no cell is known, none is asked for. (LAID: no walk: one application.) -/
theorem Tryz.slices_Index_int_empty (a : Option Addr) (c : Nat) (x : Int) (w : World) :
    Calls Tryz.prog 133 #[.slice a 0 c, .int .i64 x] w fun e w' => e = .returned (.int .i64 (Lib.idxOf [] x)) ∧ w' = w := Any.slices_Index_int_empty Tryz.lays108 a c x w
end Go.Proofs

namespace Go.Proofs.YtojcfpjoikmgcaaGreatDoor
section
open Go Go.RowKit
set_option maxHeartbeats 1000000
set_option maxRecDepth 100000
end
section
open Go Go.RowKit
set_option maxHeartbeats 1000000
set_option maxRecDepth 100000
/-- what is known of a node that a law hands on -/
structure SmallN (n : P.Nd) : Prop where
  a : n.1.length ≤ 2 ^ 20
  b : n.2.1.length ≤ 2 ^ 20
structure SmallT (l : P.Tri) : Prop where
  len : l.length ≤ 2 ^ 20
  each : ∀ n ∈ l, SmallN n
end
end Go.Proofs.YtojcfpjoikmgcaaGreatDoor

namespace Go.Proofs.YtojcfpjoikmgcaaGreatDoor
open Go Go.RowKit
set_option maxHeartbeats 4000000
set_option maxRecDepth 100000
theorem drawWalkTrie (cv : Value) (w : World) (hc : CodeIs w cv) :
    Calls Tryz.prog 42 #[cv] w (StrDrawn w) := by
  have hba := (Below.refl w.heap.size w).alloc (Nat.le_refl _) (.cells #[.slice none 0 0] 30)
  have HC := Lib.hid (CodeIs.on hc hba)
  have HB0 := Lib.hid hba; have HX := Lib.hid (DBx.new (.slice none 0 0) 30 w)
  obtain ⟨ad, n, cap, rfl, _, _⟩ := hc
  clear hba
  go_enter Tryz.func42, Tryz.ntmps42
  go_wp2_with fail
  refine (drawStrokes _ _ HC.out).mono ?_
  rintro e w1 ⟨t, o, u, ov, rfl, hdt, ho, hu, hov, hb⟩
  have HDT := Lib.hid hdt; have HO := Lib.hid ho; have HU := Lib.hid hu; have HV := Lib.hid hov; have HB := Lib.hid (HB0.out.trans (hb.mono HB0.out.size)); have HX1 := Lib.hid (HX.out.below hb)
  obtain ⟨ta, tc, rfl, _, _⟩ := hu.now
  obtain ⟨oa, oc, rfl, _, _⟩ := id hov
  clear hdt ho hb hu hov HX
  obtain ⟨k0, k1, k2⟩ := HX1.out
  go_wp2
  refine bodyPost_ret (v := .tuple #[.agg #[.slice ta t.length tc], .slice oa o.length oc]) (by simp [results, Tryz.results42, go_sem, k0]) rfl ⟨t, o, _, _, rfl, HDT.out, HO.out, ?_⟩
  have hset : Chg (fun b => b = w.heap.size) w1 (w1.setCell ⟨w.heap.size, 0, none⟩ (.slice ta t.length tc)) := (Chg.refl (fun b => b = w.heap.size) w1).setCell (p := ⟨w.heap.size, 0, none⟩) rfl _
  have hzs : (w1.setCell ⟨w.heap.size, 0, none⟩ (.slice ta t.length tc)).heap.size = w1.heap.size := by simp [World.setCell]
  have hz0 : (w.alloc (.cells #[.slice none 0 0] 30)).heap.size = w.heap.size + 1 := by simp
  refine ⟨(HU.out.chg hset (fun b h1 _ e => by omega)).wide (by omega) (by rw [hzs]; exact Nat.le_refl _) (Nat.le_refl _), (HV.out.stand intE_ok hset (fun b hb e => by have := hb.1; omega)).wide (fun b hb => ⟨by have := hb.1; omega, by rw [hzs]; exact hb.2⟩) (fun b hb => hb.2), HB.out.setCell (Nat.le_refl _) _⟩
end Go.Proofs.YtojcfpjoikmgcaaGreatDoor

namespace Go.Proofs.YtojcfpjoikmgcaaGreatDoor
namespace P
theorem walkT_snoc (t : Tri) (s : Int) : ∀ (q : List Int) (k : Nat), walkT t k (q ++ [s]) = if walkT t k q < 0 then -1 else if childK t (walkT t k q).toNat s < 0 then -1 else ((childK t (walkT t k q).toNat s).toNat : Int)
  | [], k => by
    show (if childK t k s < 0 then -1 else walkT t (childK t k s).toNat []) = _
    have h : walkT t k [] = k := rfl
    rw [h, if_neg (show ¬ (k : Int) < 0 by omega), Int.toNat_natCast]
    rfl
  | a :: q, k => by
    show (if childK t k a < 0 then -1 else walkT t (childK t k a).toNat (q ++ [s])) = _
    have h : walkT t k (a :: q) = if childK t k a < 0 then -1 else walkT t (childK t k a).toNat q := rfl
    rw [h]
    by_cases hc : childK t k a < 0
    · rw [if_pos hc, if_pos hc, if_pos (by decide)]
    · rw [if_neg hc, if_neg hc]
      exact walkT_snoc t s q _
/-- what a walk answers: node and whether it is there -/
def walkR (t : Tri) (d : Option Dic) (st : List Int) : Int × Bool := if d.isSome && slist st && decide (0 ≤ walkT t 0 st) then (walkT t 0 st, true) else (0, false)
end P
end Go.Proofs.YtojcfpjoikmgcaaGreatDoor

namespace Go.Proofs.YtojcfpjoikmgcaaGreatDoor
section
section
namespace P
end P
end
open Go Go.RowKit
set_option maxHeartbeats 4000000
set_option maxRecDepth 100000
end
section
section
namespace P
end P
end
open Go Go.RowKit
set_option maxHeartbeats 4000000
set_option maxRecDepth 100000
theorem impl_isValidTrie (tv : Value) (t : P.Tri) (w : World) (hu : NodR w tv t) (hx : ∀ n ∈ t, n.2.2.2.length ≤ 2 ^ 30) (hE : Env w) :
    Calls Tryz.prog 21 #[.agg #[tv]] w fun e w' => e = .returned (.bool (P.dictI t).isSome) ∧ Below w.heap.size w w' := by
  have hba := (Below.refl w.heap.size w).alloc (Nat.le_refl _) (.cells #[tv] 30)
  have HB0 := Lib.hid hba; have HU := Lib.hid hu; have HX := Lib.hid hx; have HE := Lib.hid (hE.below hba hE.size)
  clear hba hx hE
  obtain ⟨ad, cap, rfl, _, _⟩ := hu
  go_enter Tryz.func21, Tryz.ntmps21
  go_wp2_with fail
  refine (dictT _ t _ (HU.out.below HB0.out) HX.out HE.out).mono ?_
  rintro e w1 ⟨u, rfl, hI, hb⟩
  have HB1 := Lib.hid (HB0.out.trans (hb.mono HB0.out.size))
  obtain ⟨ud, uc, rfl, _, _⟩ := hI
  have HB2 := Lib.hid (HB1.out.alloc HB1.out.size (.cells #[.slice ud (List.length ((P.dictI t).getD [])) uc] 26))
  clear hb
  obtain ⟨q, hq⟩ : ∃ q, (P.dictI t).isSome = q := ⟨_, rfl⟩
  have HQ := Lib.hid hq
  rw [hq]
  clear hq
  go_wp2
  go_ret
  exact ⟨ret_bool HQ.out.symm, HB2.out⟩
end
end Go.Proofs.YtojcfpjoikmgcaaGreatDoor

namespace Go.Proofs.YtojcfpjoikmgcaaGreatDoor
section
namespace P
theorem walkT_app (t : Tri) (q : List Int) : ∀ (p : List Int) (k : Nat), walkT t k (p ++ q) = if walkT t k p < 0 then -1 else walkT t (walkT t k p).toNat q
  | [], k => by
    have h : walkT t k [] = k := rfl
    rw [h, if_neg (by omega), Int.toNat_natCast]; rfl
  | a :: p, k => by
    have h : ∀ r, walkT t k (a :: r) = if childK t k a < 0 then -1 else walkT t (childK t k a).toNat r := fun _ => rfl
    rw [List.cons_append, h, h]
    by_cases hc : childK t k a < 0
    · rw [if_pos hc, if_pos hc]; rfl
    · rw [if_neg hc, if_neg hc]; exact walkT_app t q p _
theorem walkT_stop {t : Tri} {st : List Int} {j : Nat} (h : walkT t 0 (st.take j) = -1) : walkT t 0 st = -1 := by
  rw [← List.take_append_drop j st, walkT_app, h]; rfl
theorem kidIn_from (s : Int) : ∀ (st ch : List Int) (i : Nat), st.length = ch.length → (Go.Lib.idxFrom st s i = -1 ∧ kidIn s st ch = -1) ∨ ∃ j, ∃ (_ : j < st.length) (h : j < ch.length), Go.Lib.idxFrom st s i = ((i + j : Nat) : Int) ∧ kidIn s st ch = ch[j]
  | [], _, _, _ => .inl ⟨rfl, by unfold kidIn; rfl⟩
  | a :: st, [], _, h => by simp at h
  | a :: st, c :: ch, i, h => by
    by_cases ha : a = s
    · exact .inr ⟨0, by simp, by simp, by simp [Go.Lib.idxFrom, ha], by simp [kidIn, ha]⟩
    · have e1 : Go.Lib.idxFrom (a :: st) s i = Go.Lib.idxFrom st s (i + 1) := by simp [Go.Lib.idxFrom, ha]
      have e2 : kidIn s (a :: st) (c :: ch) = kidIn s st ch := by simp [kidIn, ha]
      rw [e1, e2]
      rcases kidIn_from s st ch (i + 1) (by simpa using h) with h1 | ⟨j, h1, h2, h3, h4⟩
      · exact .inl h1
      · exact .inr ⟨j + 1, by simp; omega, by simp; omega, by rw [h3]; congr 1; omega, by rw [h4]; rfl⟩
theorem kidIn_idx (s : Int) (st ch : List Int) (h : st.length = ch.length) : (Go.Lib.idxOf st s = -1 ∧ kidIn s st ch = -1) ∨ ∃ j, ∃ (_ : j < st.length) (h : j < ch.length), Go.Lib.idxOf st s = (j : Int) ∧ kidIn s st ch = ch[j] := by
  rcases kidIn_from s st ch 0 h with h1 | ⟨j, h1, h2, h3, h4⟩
  · exact .inl h1
  · exact .inr ⟨j, h1, h2, by unfold Go.Lib.idxOf; rw [h3, Nat.zero_add], h4⟩
/-- the child for a stroke, or 0 -/
def childI (t : Tri) (k : Nat) (s : Int) : Int := if childK t k s = -1 then 0 else childK t k s
theorem childI_no {t : Tri} {k : Nat} {s : Int} (h : childK t k s = -1) : childI t k s = 0 := by unfold childI; rw [if_pos h]
theorem childI_yes {t : Tri} {k : Nat} {s c : Int} (h : childK t k s = c) (hc : 0 ≤ c) : childI t k s = c := by unfold childI; rw [h, if_neg (by omega)]
end P
end
open Go Go.RowKit
set_option maxHeartbeats 4000000
set_option maxRecDepth 100000
/-- slices.Index, whatever the slice -/
theorem index_ints (u : Value) (l : List Int) (s : Int) (w : World) (hu : IntR w u l) :
    Calls Tryz.prog 133 #[u, .int .i64 s] w fun e w' => e = .returned (.int .i64 (Go.Lib.idxOf l s)) ∧ w = w' := by
  obtain ⟨ad, cap, rfl, hl, _, h⟩ := hu
  rcases h with rfl | ⟨g, o, rfl, _, hc⟩
  · exact (Tryz.slices_Index_int_empty ad cap s w).mono fun _ _ ⟨h1, h2⟩ => ⟨h1, h2.symm⟩
  · have h := Tryz.slices_Index_int g o l.length cap l s w (Nat.le_refl _) (by omega) (fun j hj => by rw [hc j hj, P.getD_int hj])
    rw [List.take_length] at h
    exact h.mono fun _ _ ⟨h1, h2⟩ => ⟨h1, h2.symm⟩
/-- the program's child of a node -/
theorem childP (tv : Value) (t : P.Tri) (k : Nat) (s : Int) (w : World) (hu : NodR w tv t) (hk : k < t.length) (hl : (t.getD k P.nd0).1.length = (t.getD k P.nd0).2.1.length) (hp : ∀ c ∈ (t.getD k P.nd0).2.1, 1 ≤ c ∧ c < t.length) :
    Calls Tryz.prog 83 #[.agg #[tv], .int .i64 k, .int .i64 s] w fun e w' => e = .returned (.int .i64 (P.childI t k s)) ∧ Below w.heap.size w w' := by
  have HU := Lib.hid hu
  obtain ⟨ad, cap, rfl, _, _⟩ := hu
  obtain ⟨g, o, x, y, st, ch, tt, tx, hg, rfl, hgl, ⟨c0, c1, c2, c3⟩, hx, hy⟩ := HU.out.node hk
  have HC := Lib.hid (show P.childK t k s = P.kidIn s st ch by unfold P.childK; rw [hg])
  rw [hg] at hl hp
  simp only at hl hp
  have HX := Lib.hid hx; have HY := Lib.hid hy
  obtain ⟨xd, xc, rfl, hxl, _⟩ := hx
  obtain ⟨yd, yc, rfl, hyl, _⟩ := hy
  have hba := ((Below.refl w.heap.size w).alloc (Nat.le_refl _) (.cells #[.slice (some ⟨g, o, none⟩) t.length cap] 30)).alloc (by simp) (.cells #[.slice xd st.length xc, .slice yd ch.length yc, .bool tt, .string (S tx)] 63)
  have HB := Lib.hid hba; have HX1 := Lib.hid (HX.out.below hba); have HY1 := Lib.hid (HY.out.below hba)
  have HI := Lib.hid (P.kidIn_idx s st ch hl)
  have i1 : (k : Int) < (t.length : Int) := by omega
  clear hg hba hl
  go_enter Tryz.func83, Tryz.ntmps83
  go_wp2_with fail
  refine (index_ints _ st s _ HX1.out).mono ?_
  rintro e w1 ⟨rfl, rfl⟩
  rcases HI.out with ⟨h1, h2⟩ | ⟨j, hj1, hj2, h1, h2⟩
  · have HF := Lib.hid (show P.childK t k s = -1 by rw [HC.out, h2])
    rw [h1]
    clear h1 h2
    go_wp2
    go_ret
    exact ⟨ret_int (P.childI_no HF.out).symm, HB.out⟩
  · rw [h1]
    obtain ⟨gy, oy, hya, hgy, y0⟩ := HY.out.at j hj2
    have hgyl : gy < w.heap.size := hgy
    subst hya
    obtain ⟨c, hc⟩ : ∃ c, ch[j] = c := ⟨_, rfl⟩
    rw [hc] at y0 h2
    have HF := Lib.hid (show P.childK t k s = c by rw [HC.out, h2])
    have i3 : (j : Int) < (ch.length : Int) := by omega
    have HP := Lib.hid (show 0 ≤ c by have := hp c (by rw [← hc]; exact List.getElem_mem hj2); omega)
    clear h1 h2 hc hp
    go_wp2
    go_ret
    exact ⟨ret_int (P.childI_yes HF.out HP.out).symm, HB.out⟩
def WalkPost (r : Int × Bool) (w : World) (e : Ending) (w' : World) : Prop := e = .returned (.tuple #[.int .i64 r.1, .bool r.2]) ∧ Below w.heap.size w w'
theorem impl_walkTrie (tv sv : Value) (t : P.Tri) (st : List Int) (w : World) (hu : NodR w tv t) (hs : IntR w sv st) (hx : ∀ n ∈ t, n.2.2.2.length ≤ 2 ^ 30) (hE : Env w) :
    Calls Tryz.prog 37 #[.agg #[tv], sv] w (WalkPost (P.walkR t (P.dictI t) st) w) := by
  have hba := (Below.refl w.heap.size w).alloc (Nat.le_refl _) (.cells #[tv] 30)
  have HTB := Lib.hid (Box1.new tv 30 w)
  have HB0 := Lib.hid hba; have HU := Lib.hid hu; have HST := Lib.hid hs; have HX := Lib.hid hx; have HE := Lib.hid (hE.below hba hE.size)
  clear hba hx hE
  obtain ⟨ad, cap, rfl, _, _⟩ := hu
  obtain ⟨sd, sc, rfl, hsl, _⟩ := hs
  go_enter Tryz.func37, Tryz.ntmps37
  go_wp2_with fail
  refine (impl_isValidTrie _ t _ (HU.out.below HB0.out) HX.out HE.out).mono ?_
  rintro e w1 ⟨rfl, hb⟩
  have HB1 := Lib.hid (HB0.out.trans (hb.mono HB0.out.size)); have HT1 := Lib.hid (HTB.out.below hb)
  clear hb HB0 HTB
  cases hd : P.dictI t with
  | none =>
    have HR := Lib.hid (show P.walkR t (P.dictI t) st = (0, false) by rw [hd]; rfl)
    clear hd
    simp only [Option.isSome_none]
    go_wp2
    go_ret2
    exact ⟨by rw [HR.out]; rfl, HB1.out⟩
  | some l =>
    obtain ⟨hdl, hsub, hsh⟩ := P.dic_sub hd
    have HSUB := Lib.hid hsub; have HSH := Lib.hid hsh; have HD := Lib.hid hd
    clear hd hsub hsh hdl
    simp only [Option.isSome_some]
    go_wp2_with fail
    refine (isStrokeList _ st _ (HST.out.below HB1.out)).mono ?_
    rintro e w2 ⟨rfl, hb⟩
    have HB2 := Lib.hid (HB1.out.trans (hb.mono HB1.out.size)); have HT2 := Lib.hid (HT1.out.below hb)
    clear hb HB1 HT1
    cases hq : P.slist st
    · have HR := Lib.hid (show P.walkR t (P.dictI t) st = (0, false) by rw [HD.out]; unfold P.walkR; rw [hq]; rfl)
      clear hq
      go_wp2
      go_ret2
      exact ⟨by rw [HR.out]; rfl, HB2.out⟩
    · have HQ := Lib.hid hq; clear hq
      go_wp2_with fail
      go_loopw [6, 19] (fun c i wr => ∃ (j k : Nat) (es : P.Dic), j ≤ st.length ∧ i = .int .i64 j ∧ c = .int .i64 k ∧ P.walkT t 0 (st.take j) = k ∧ P.Sub l t (st.take j) k es ∧ Box1 w.heap.size (.slice ad t.length cap) wr ∧ Below w.heap.size w wr) (fun _ i _ => st.length - (intOf i).toNat)
      case atStart => exact ⟨0, 0, l, Nat.zero_le _, rfl, rfl, rfl, HSUB.out, HT2.out, HB2.out⟩
      case round =>
        clear HB2 HT2
        obtain ⟨j, k, es, hj, rfl, rfl, hwk, hsb, htb, hb⟩ := hrel
        have HWK := Lib.hid hwk; have HSB := Lib.hid hsb; have HB := Lib.hid hb; have HTB := Lib.hid htb
        have hkl := hsb.node.2
        clear hwk hsb
        obtain ⟨b0, b1⟩ := htb
        by_cases hlt : j < st.length
        · obtain ⟨g, o, hga, hgl, x0⟩ := (HST.out.below hb).at j hlt
          subst hga
          have hsn := take_snoc st j hlt
          obtain ⟨s, hs⟩ : ∃ s, st[j] = s := ⟨_, rfl⟩
          rw [hs] at x0 hsn
          have HSN := Lib.hid hsn
          have HWS := Lib.hid (show P.walkT t 0 (st.take (j + 1)) = if P.childK t k s < 0 then -1 else ((P.childK t k s).toNat : Int) by rw [hsn, P.walkT_snoc, HWK.out, if_neg (by omega), Int.toNat_natCast])
          have i1 : (j : Int) < (st.length : Int) := by omega
          obtain ⟨hk1, hk2⟩ := P.Sub.kids HSH.out HSB.out
          have HK1 := Lib.hid hk1; have HK2 := Lib.hid hk2
          clear hsn hs hk1 hk2 hb
          rcases HSB.out.child s with ⟨c, g2, h1, h2, h3⟩ | ⟨h1, _⟩
          · have HW := Lib.hid (show P.walkT t 0 (st.take (j + 1)) = (c : Int) by rw [HWS.out, h1, if_neg (by omega), Int.toNat_natCast])
            have HS3 := Lib.hid (show P.Sub l t (st.take (j + 1)) c g2 by rw [HSN.out]; exact h3)
            have HCI := Lib.hid (P.childI_yes h1 (by omega))
            have hc0 : ((c : Int) == 0) = false := by simp; omega
            clear h1 h3
            go_wp2_with fail
            refine (childP _ t k s _ (HU.out.below HB.out) hkl HK1.out HK2.out).mono ?_
            rintro e w3 ⟨rfl, hb⟩
            rw [HCI.out]
            have HB3 := Lib.hid (HB.out.trans (hb.mono HB.out.size)); have HT3 := Lib.hid (HTB.out.below hb)
            clear hb
            go_wp2
            go_roundw
            case rel => exact ⟨j + 1, c, g2, by omega, by go_num, rfl, HW.out, HS3.out, HT3.out, HB3.out⟩
            case measure => simp [intOf]; omega
          · have HW := Lib.hid (P.walkT_stop (show P.walkT t 0 (st.take (j + 1)) = -1 by rw [HWS.out, h1]; rfl))
            have HR := Lib.hid (show P.walkR t (P.dictI t) st = (0, false) by rw [HD.out]; unfold P.walkR; rw [HW.out]; simp)
            have HCI := Lib.hid (P.childI_no h1)
            clear h1
            go_wp2_with fail
            refine (childP _ t k s _ (HU.out.below HB.out) hkl HK1.out HK2.out).mono ?_
            rintro e w3 ⟨rfl, hb⟩
            rw [HCI.out]
            have HB3 := Lib.hid (HB.out.trans (hb.mono HB.out.size))
            clear hb
            go_wp2
            go_ret2
            exact ⟨by rw [HR.out]; rfl, HB3.out⟩
        · have HR := Lib.hid (show P.walkR t (P.dictI t) st = ((k : Int), true) by
            rw [HD.out]
            have h := HWK.out
            rw [List.take_of_length_le (by omega)] at h
            unfold P.walkR
            rw [h, HQ.out, decide_eq_true (show (0 : Int) ≤ (k : Int) by omega)]; rfl)
          have i1 : ¬ (j : Int) < (st.length : Int) := by omega
          clear hb
          go_wp2
          go_ret2
          exact ⟨by rw [HR.out]; rfl, HB.out⟩
theorem spec_walkTrie (tv sv : Value) (t : P.Tri) (st : List Int) (w : World) (hu : NodR w tv t) (hs : IntR w sv st) (hx : ∀ n ∈ t, n.2.2.2.length ≤ 2 ^ 30) :
    Calls Tryz.prog 36 #[.agg #[tv], sv] w (WalkPost (P.walkR t (P.dictI t) st) w) := by
  have hba := (Below.refl w.heap.size w).alloc (Nat.le_refl _) (.cells #[tv] 30)
  have HTB := Lib.hid (Box1.new tv 30 w)
  have HB0 := Lib.hid hba; have HU := Lib.hid hu; have HST := Lib.hid hs; have HX := Lib.hid hx
  clear hba hx
  obtain ⟨ad, cap, rfl, _, _⟩ := hu
  obtain ⟨sd, sc, rfl, hsl, _⟩ := hs
  go_enter Tryz.func36, Tryz.ntmps36
  go_wp2_with fail
  refine (spec_isValidTrie _ t _ (HU.out.below HB0.out) HX.out).mono ?_
  rintro e w1 ⟨rfl, hb⟩
  rw [← P.dict_eq]
  have HB1 := Lib.hid (HB0.out.trans (hb.mono HB0.out.size)); have HT1 := Lib.hid (HTB.out.below hb)
  clear hb HB0 HTB
  cases hd : P.dictI t with
  | none =>
    have HR := Lib.hid (show P.walkR t (P.dictI t) st = (0, false) by rw [hd]; rfl)
    clear hd
    simp only [Option.isSome_none]
    go_wp2
    go_ret2
    exact ⟨by rw [HR.out]; rfl, HB1.out⟩
  | some l =>
    obtain ⟨hdl, hsub, hsh⟩ := P.dic_sub hd
    have HSUB := Lib.hid hsub; have HSH := Lib.hid hsh; have HD := Lib.hid hd
    clear hd hsub hsh hdl
    simp only [Option.isSome_some]
    go_wp2_with fail
    refine (l7Strokes _ st _ (HST.out.below HB1.out)).mono ?_
    rintro e w2 ⟨rfl, hb⟩
    have HB2 := Lib.hid (HB1.out.trans (hb.mono HB1.out.size)); have HT2 := Lib.hid (HT1.out.below hb)
    clear hb HB1 HT1
    cases hq : P.slist st
    · have HR := Lib.hid (show P.walkR t (P.dictI t) st = (0, false) by rw [HD.out]; unfold P.walkR; rw [hq]; rfl)
      clear hq
      go_wp2
      go_ret2
      exact ⟨by rw [HR.out]; rfl, HB2.out⟩
    · have HQ := Lib.hid hq; clear hq
      go_wp2_with fail
      go_loopw [6, 7] (fun c i wr => ∃ (j k : Nat) (es : P.Dic), j ≤ st.length ∧ i = .int .i64 j ∧ c = .int .i64 k ∧ P.walkT t 0 (st.take j) = k ∧ P.Sub l t (st.take j) k es ∧ Box1 w.heap.size (.slice ad t.length cap) wr ∧ Below w.heap.size w wr) (fun _ i _ => st.length - (intOf i).toNat)
      case atStart => exact ⟨0, 0, l, Nat.zero_le _, rfl, rfl, rfl, HSUB.out, HT2.out, HB2.out⟩
      case round =>
        clear HB2 HT2
        obtain ⟨j, k, es, hj, rfl, rfl, hwk, hsb, htb, hb⟩ := hrel
        have HWK := Lib.hid hwk; have HSB := Lib.hid hsb; have HB := Lib.hid hb; have HTB := Lib.hid htb
        have hkl := hsb.node.2
        clear hwk hsb
        obtain ⟨b0, b1⟩ := htb
        by_cases hlt : j < st.length
        · obtain ⟨g, o, hga, hgl, x0⟩ := (HST.out.below hb).at j hlt
          subst hga
          have hsn := take_snoc st j hlt
          obtain ⟨s, hs⟩ : ∃ s, st[j] = s := ⟨_, rfl⟩
          rw [hs] at x0 hsn
          have HSN := Lib.hid hsn
          have HWS := Lib.hid (show P.walkT t 0 (st.take (j + 1)) = if P.childK t k s < 0 then -1 else ((P.childK t k s).toNat : Int) by rw [hsn, P.walkT_snoc, HWK.out, if_neg (by omega), Int.toNat_natCast])
          have i1 : (j : Int) < (st.length : Int) := by omega
          obtain ⟨hk1, _⟩ := P.Sub.kids HSH.out HSB.out
          have HK1 := Lib.hid hk1
          have hbd := (Below.refl wr.heap.size wr).drew
          have HBD := Lib.hid (hb.trans (hbd.mono hb.size)); have HTD := Lib.hid (HTB.out.below hbd)
          have HS := Lib.hid (show wr.drew.cell? ⟨w.heap.size, 0, none⟩ = some (.slice ad t.length cap) ∧ wr.drew.cell? ⟨g, o + j, none⟩ = some (.int .i64 s) ∧ w.heap.size < wr.drew.heap.size ∧ g < wr.drew.heap.size from ⟨HTD.out.1, (hbd.cell (p := ⟨g, o + j, none⟩) hgl).trans x0, HTD.out.2, hgl⟩)
          clear hsn hs hk1 hb hbd
          go_upto_region 7 with fail
          refine wp_region_held_drew (S := fun v : World => v.cell? ⟨w.heap.size, 0, none⟩ = some (.slice ad t.length cap) ∧ v.cell? ⟨g, o + j, none⟩ = some (.int .i64 s) ∧ w.heap.size < v.heap.size ∧ g < v.heap.size) (by kernel_rfl) HS.out (fun hS0 => ?_)
          generalize wr.drew = v0 at *
          refine wpAnyH_take (i := 0) (v := .agg #[.slice ad t.length cap]) rfl (by kernel_rfl) (by kernel_rfl) (by kernel_rfl) (fun _ _ _ h => h) (Or.inl ⟨by rfl, fun z hz => ?_⟩) hS0 ?_
          · obtain ⟨z1, z2, z3, z4⟩ := hz
            go_simp
          try simp only [List.getElem_toArray, List.getElem_cons_zero, Act.put, List.setIfInBounds_toArray, List.set_cons_zero, List.set_cons_succ]
          refine wpAnyH_take (i := 1) (v := .int .i64 k) rfl (by kernel_rfl) (by kernel_rfl) (by kernel_rfl) (fun _ _ _ h => h) (Or.inl ⟨by rfl, fun z hz => ?_⟩) hS0 ?_
          · obtain ⟨z1, z2, z3, z4⟩ := hz
            go_simp
          try simp only [List.getElem_toArray, List.getElem_cons_zero, List.getElem_cons_succ, Act.put, List.setIfInBounds_toArray, List.set_cons_zero, List.set_cons_succ]
          refine wpAnyH_take (i := 2) (v := .slice (some ⟨g, o, none⟩) st.length sc) rfl (by kernel_rfl) (by kernel_rfl) (by kernel_rfl) (fun _ _ _ h => h) (Or.inl ⟨by rfl, fun z hz => ?_⟩) hS0 ?_
          · obtain ⟨z1, z2, z3, z4⟩ := hz
            go_simp
          try simp only [List.getElem_toArray, List.getElem_cons_zero, List.getElem_cons_succ, Act.put, List.setIfInBounds_toArray, List.set_cons_zero, List.set_cons_succ]
          refine wpAnyH_take (i := 3) (v := .int .i64 j) rfl (by kernel_rfl) (by kernel_rfl) (by kernel_rfl) (fun _ _ _ h => h) (Or.inl ⟨by rfl, fun z hz => ?_⟩) hS0 ?_
          · obtain ⟨z1, z2, z3, z4⟩ := hz
            go_simp
          try simp only [List.getElem_toArray, List.getElem_cons_zero, List.getElem_cons_succ, Act.put, List.setIfInBounds_toArray, List.set_cons_zero, List.set_cons_succ]
          refine wpAnyH_take (i := 4) (v := .pointer (some ⟨g, o + j, none⟩)) rfl (by kernel_rfl) (by kernel_rfl) (by kernel_rfl) (fun _ _ _ h => h) (Or.inl ⟨by rfl, fun z hz => ?_⟩) hS0 ?_
          · obtain ⟨z1, z2, z3, z4⟩ := hz
            go_simp
          try simp only [List.getElem_toArray, List.getElem_cons_zero, List.getElem_cons_succ, Act.put, List.setIfInBounds_toArray, List.set_cons_zero, List.set_cons_succ]
          refine wpAnyH_take (i := 5) (v := .int .i64 s) rfl (by kernel_rfl) (by kernel_rfl) (by kernel_rfl) (fun _ _ _ h => h) (Or.inl ⟨by rfl, fun z hz => ?_⟩) hS0 ?_
          · obtain ⟨z1, z2, z3, z4⟩ := hz
            go_simp
          try simp only [List.getElem_toArray, List.getElem_cons_zero, List.getElem_cons_succ, Act.put, List.setIfInBounds_toArray, List.set_cons_zero, List.set_cons_succ]
          refine wpAnyH_ready (rs := [6]) (by kernel_rfl) (by simp) ?_
          refine AllReadyH.cons rfl (fun K hK => ?_) AllReadyH.nil
          go_simp
          refine (l7Child _ t k s _ (HU.out.below HBD.out) hkl HK1.out).mono ?_
          rintro e w3 ⟨rfl, hb⟩
          have HB3 := Lib.hid (HBD.out.trans (hb.mono HBD.out.size)); have HT3 := Lib.hid (HTD.out.below hb)
          refine hK.out _ _ ⟨(hb.cell (p := ⟨w.heap.size, 0, none⟩) hS0.2.2.1).trans hS0.1, (hb.cell (p := ⟨g, o + j, none⟩) hS0.2.2.2).trans hS0.2.1, Nat.lt_of_lt_of_le hS0.2.2.1 hb.size, Nat.lt_of_lt_of_le hS0.2.2.2 hb.size⟩ (fun hS1 => ?_)
          clear hK K hb hS0
          try simp only [List.getElem_toArray, List.getElem_cons_zero, List.getElem_cons_succ, Act.put, List.setIfInBounds_toArray, List.set_cons_zero, List.set_cons_succ]
          rcases HSB.out.child s with ⟨c, g2, h1, h2, h3⟩ | ⟨h1, _⟩
          · have HW := Lib.hid (show P.walkT t 0 (st.take (j + 1)) = (c : Int) by rw [HWS.out, h1, if_neg (by omega), Int.toNat_natCast])
            have HS3 := Lib.hid (show P.Sub l t (st.take (j + 1)) c g2 by rw [HSN.out]; exact h3)
            rw [h1]
            clear h1 h3
            refine wpAnyH_take (i := 7) (v := .int .i64 c) rfl (by kernel_rfl) (by kernel_rfl) (by kernel_rfl) (fun _ _ _ h => h) (Or.inl ⟨by rfl, fun z hz => ?_⟩) hS1 ?_
            · obtain ⟨z1, z2, z3, z4⟩ := hz
              go_simp
            try simp only [List.getElem_toArray, List.getElem_cons_zero, List.getElem_cons_succ, Act.put, List.setIfInBounds_toArray, List.set_cons_zero, List.set_cons_succ]
            refine wpAnyH_done (by kernel_rfl) ?_ _
            clear hS1
            go_wp2
            go_roundw
            case rel => exact ⟨j + 1, c, g2, by omega, by go_num, rfl, HW.out, HS3.out, HT3.out, HB3.out⟩
            case measure => simp [intOf]; omega
          · have HW := Lib.hid (P.walkT_stop (show P.walkT t 0 (st.take (j + 1)) = -1 by rw [HWS.out, h1]; rfl))
            have HR := Lib.hid (show P.walkR t (P.dictI t) st = (0, false) by rw [HD.out]; unfold P.walkR; rw [HW.out]; simp)
            rw [h1]
            clear h1
            refine wpAnyH_take (i := 7) (v := .int .i64 (-1)) rfl (by kernel_rfl) (by kernel_rfl) (by kernel_rfl) (fun _ _ _ h => h) (Or.inl ⟨by rfl, fun z hz => ?_⟩) hS1 ?_
            · obtain ⟨z1, z2, z3, z4⟩ := hz
              go_simp
            try simp only [List.getElem_toArray, List.getElem_cons_zero, List.getElem_cons_succ, Act.put, List.setIfInBounds_toArray, List.set_cons_zero, List.set_cons_succ]
            refine wpAnyH_done (by kernel_rfl) ?_ _
            clear hS1
            go_wp2
            go_ret2
            exact ⟨by rw [HR.out]; rfl, HB3.out⟩
        · have HR := Lib.hid (show P.walkR t (P.dictI t) st = ((k : Int), true) by
            rw [HD.out]
            have h := HWK.out
            rw [List.take_of_length_le (by omega)] at h
            unfold P.walkR
            rw [h, HQ.out, decide_eq_true (show (0 : Int) ≤ (k : Int) by omega)]; rfl)
          have i1 : ¬ (j : Int) < (st.length : Int) := by omega
          clear hb
          go_wp2
          go_ret2
          exact ⟨by rw [HR.out]; rfl, HB.out⟩
end Go.Proofs.YtojcfpjoikmgcaaGreatDoor

namespace Go.Proofs.YtojcfpjoikmgcaaGreatDoor
open Go Go.RowKit
set_option maxHeartbeats 4000000
set_option maxRecDepth 100000
def P.contOk (t : P.Tri) (n : Int) : Bool := (P.dictI t).isSome && decide (0 ≤ n ∧ n ≤ (t.length : Int) - 1)
def P.contL (t : P.Tri) (n : Int) : List Int := (t.getD n.toNat P.nd0).1
def P.keptI (ok : Bool) (l : List Int) : List Int := if ok then l else []
/-- the strokes of a node, in memory of the call's own -/
def ConPost (ok : Bool) (l : List Int) (w : World) (e : Ending) (w' : World) : Prop := ∃ u, e = .returned (.tuple #[u, .bool ok]) ∧ Ints w' (Bet w.heap.size w'.heap.size) u (P.keptI ok l) ∧ Below w.heap.size w w'
theorem impl_continuations (tv : Value) (t : P.Tri) (n : Int) (w : World) (hu : NodR w tv t) (hs : SmallT t) (hx : ∀ n ∈ t, n.2.2.2.length ≤ 2 ^ 30) (hE : Env w) :
    Calls Tryz.prog 30 #[.agg #[tv], .int .i64 n] w (ConPost (P.contOk t n) (P.contL t n) w) := by
  have hba := (Below.refl w.heap.size w).alloc (Nat.le_refl _) (.cells #[tv] 30)
  have HTB := Lib.hid (Box1.new tv 30 w)
  have HB0 := Lib.hid hba; have HU := Lib.hid hu; have HX := Lib.hid hx; have HE := Lib.hid (hE.below hba hE.size); have HS := Lib.hid hs
  clear hba hx hE hs
  obtain ⟨ad, cap, rfl, htl, _⟩ := hu
  go_enter Tryz.func30, Tryz.ntmps30
  go_wp2_with fail
  refine (impl_isValidTrie _ t _ (HU.out.below HB0.out) HX.out HE.out).mono ?_
  rintro e w1 ⟨rfl, hb⟩
  have HB1 := Lib.hid (HB0.out.trans (hb.mono HB0.out.size)); have HT1 := Lib.hid (HTB.out.below hb)
  clear hb HB0 HTB
  obtain ⟨b0, b1⟩ := HT1.out
  cases hq : (P.dictI t).isSome
  · have HK := Lib.hid (show P.contOk t n = false by unfold P.contOk; rw [hq]; rfl)
    clear hq
    go_wp2
    go_ret2
    exact ⟨_, by rw [HK.out]; rfl, by rw [HK.out]; exact RowO.nil _ _, HB1.out⟩
  · obtain ⟨c, hc⟩ : ∃ c, decide (0 ≤ n ∧ n ≤ (t.length : Int) - 1) = c := ⟨_, rfl⟩
    have HK := Lib.hid (show P.contOk t n = c by unfold P.contOk; rw [hq, hc]; rfl)
    have HC := Lib.hid hc
    clear hq hc
    go_wp2_with fail
    refine (impl_in _ _ _ _).mono ?_
    rintro e w2 ⟨rfl, rfl⟩
    rw [HC.out]
    cases c
    · go_wp2
      go_ret2
      exact ⟨_, by rw [HK.out]; rfl, by rw [HK.out]; exact RowO.nil _ _, HB1.out⟩
    · obtain ⟨hn0, hn1⟩ := of_decide_eq_true HC.out
      obtain ⟨k, rfl⟩ : ∃ k : Nat, n = (k : Int) := ⟨n.toNat, by omega⟩
      have hk : k < t.length := by omega
      obtain ⟨g, o, x, y, st, ch, tt, tx, hg, rfl, hgl, ⟨c0, c1, c2, c3⟩, hx, _⟩ := (HU.out.below HB1.out).node hk
      have HSL := Lib.hid (show st.length ≤ 2 ^ 20 by
        have h := (HS.out.each _ (List.getElem_mem hk)).a
        rw [P.getD_at hk] at hg
        rw [hg] at h; exact h)
      have HL := Lib.hid (show P.contL t (k : Int) = st by unfold P.contL; rw [Int.toNat_natCast, hg])
      have HXX := Lib.hid hx
      obtain ⟨xd, xc, rfl, _, _⟩ := hx
      have i1 : (k : Int) < (t.length : Int) := by omega
      clear hg hn0 hn1
      go_wp2_with fail
      refine (copyOf _ st _ HXX.out (by have := HSL.out; omega)).mono ?_
      rintro e w3 ⟨u, rfl, hI, hb⟩
      have HB2 := Lib.hid (HB1.out.trans (hb.mono HB1.out.size)); have HI := Lib.hid hI
      have hz := HB1.out.size
      clear hb hI
      go_wp2
      go_ret2
      exact ⟨_, by rw [HK.out]; rfl, by rw [HK.out, HL.out]; exact HI.out.wide (fun b hb => ⟨by have := hb.1; omega, hb.2⟩) (fun b hb => hb.2), HB2.out⟩
end Go.Proofs.YtojcfpjoikmgcaaGreatDoor

