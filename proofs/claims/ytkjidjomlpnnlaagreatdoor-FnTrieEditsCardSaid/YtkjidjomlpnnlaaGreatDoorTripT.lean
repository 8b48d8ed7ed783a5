/- Walks: a trie built of a dictionary (program, reference); the draw of a dictionary; the laws' own comparison of tries that are equal. -/
import Derived.Deep.DeepCutAuto
import Derived.Deep.RegionHeld
import Derived.RegionTactic
import Derived.BigRegion
import Derived.Test.YtkjidjomlpnnlaaGreatDoorRLists
import Derived.Test.YtkjidjomlpnnlaaGreatDoorDelT
import Derived.Test.YtkjidjomlpnnlaaGreatDoorCurE4
import Derived.Test.YtkjidjomlpnnlaaGreatDoorCodeD
namespace Go.Proofs.YtkjidjomlpnnlaaGreatDoor
section
namespace P
theorem groups_sub (d : Nat) : ∀ (n : Nat) (l : Dic), ∀ g ∈ groups d n l, ∀ e ∈ g, e ∈ l
  | 0, _, g, hg, _, _ => by cases hg
  | n + 1, [], g, hg, _, _ => by cases hg
  | n + 1, a :: l, g, hg, e, he => by
    unfold groups at hg
    rcases List.mem_cons.1 hg with rfl | hg
    · rcases List.mem_cons.1 he with rfl | he
      · simp
      · exact List.mem_cons_of_mem _ ((List.takeWhile_sublist _).subset he)
    · exact List.mem_cons_of_mem _ ((List.dropWhile_sublist _).subset (groups_sub d n _ g hg e he))
theorem kids_texts {B : Nat} {F : Nat → Dic → Tri} (d : Nat) (es : Dic) (hF : ∀ b g, (∀ e ∈ g, e ∈ es) → ∀ n ∈ F b g, n.2.2.2.length ≤ B) : ∀ (gs : List Dic) (next : Nat), (∀ g ∈ gs, ∀ e ∈ g, e ∈ es) → ∀ n ∈ (kids F d next gs).2.2, n.2.2.2.length ≤ B
  | [], _, _, n, hn => by cases hn
  | g :: gs, next, h, n, hn => by
    unfold kids at hn
    rcases List.mem_append.1 hn with hn | hn
    · exact hF next g (h g (by simp)) n hn
    · exact kids_texts d es hF gs _ (fun k hk => h k (by simp [hk])) n hn
theorem build_texts (B : Nat) : ∀ (f d base : Nat) (es : Dic), (∀ e ∈ es, e.2.length ≤ B) → ∀ n ∈ build f d base es, n.2.2.2.length ≤ B
  | 0, _, _, _, _, n, hn => by cases hn
  | f + 1, d, base, es, h, n, hn => by
    rw [build_succ] at hn
    rcases List.mem_cons.1 hn with rfl | hn
    · show (ownText d es).2.length ≤ B
      cases es with
      | nil => simp [ownText]
      | cons a l =>
        rw [own_cons]
        split
        · exact h a (by simp)
        · simp
    · exact kids_texts d es (fun b g hg => build_texts B f (d + 1) b g fun e he => h e (hg e he)) _ _ (fun g hg e he => rest_sub d es e (groups_sub d _ _ g hg e he)) n hn
theorem trie_texts {B : Nat} {l : Dic} (h : ∀ e ∈ l, e.2.length ≤ B) : ∀ n ∈ trie l, n.2.2.2.length ≤ B := build_texts B 7 0 0 l h
end P
end
open Go Go.RowKit
set_option maxHeartbeats 4000000
set_option maxRecDepth 100000
theorem impl_buildTrie (dv : Value) (l : P.Dic) (w : World) (hu : EntR w dv l) (hs : Small l) (hE : Env w) :
    Calls Tryz.prog 54 #[.agg #[dv]] w (TriKPost (P.dic l) (P.trie l) w) := by
  have hb0 : Below w.heap.size w ((w.alloc (.cells #[dv] 26)).alloc (.cells #[.slice none 0 0] 86)) := ((Below.refl w.heap.size w).alloc (Nat.le_refl _) _).alloc (by simp) _
  have HN := Lib.hid (show TBx w.heap.size (w.heap.size + 1) dv ((w.alloc (.cells #[dv] 26)).alloc (.cells #[.slice none 0 0] 86)) by refine ⟨⟨?_, ?_⟩, ?_, ?_, ?_⟩ <;> go_simp)
  have HB0 := Lib.hid hb0; have HU := Lib.hid hu; have HSM := Lib.hid hs; have HE := Lib.hid (hE.below hb0 hE.size)
  clear hb0 hs hE
  obtain ⟨ad, cap, rfl, _, _⟩ := hu
  go_enter Tryz.func54, Tryz.ntmps54
  go_wp2_with fail
  refine (isValidDictionary _ l _ (HU.out.below HB0.out) HSM.out.texts HE.out).mono ?_
  rintro e w1 ⟨rfl, hb⟩
  have HB1 := Lib.hid (HB0.out.trans (hb.mono HB0.out.size)); have HN1 := Lib.hid (HN.out.below hb)
  clear hb
  cases hd : P.dic l
  · have HD := Lib.hid hd; clear hd
    obtain ⟨⟨t0, t1⟩, b0, f0, _⟩ := HN1.out
    go_wp2
    refine bodyPost_ret (v := .tuple #[.agg #[.slice none 0 0], .bool false]) (by simp [results, Tryz.results54, go_sem, b0]) rfl ⟨_, by rw [HD.out], by rw [HD.out]; exact RowO.nil _ _, HB1.out.setCell (Nat.le_succ _) _⟩
  · have HD := Lib.hid hd; clear hd
    obtain ⟨⟨t0, t1⟩, b0, f0, _⟩ := HN1.out
    have hz := HN1.out.2.2.2
    go_wp2_with fail
    refine (trieOf _ l _ (HU.out.below HB1.out) HD.out).mono ?_
    rintro e w9 ⟨z, rfl, hZ, hb⟩
    have HB9 := Lib.hid (HB1.out.trans (hb.mono HB1.out.size)); have HN9 := Lib.hid (HN1.out.below hb); have HZ := Lib.hid hZ
    obtain ⟨zd, zc, rfl, _, _⟩ := hZ
    clear hb t0 t1 b0 f0
    obtain ⟨_, b0, f0, _⟩ := HN9.out
    go_wp2
    refine bodyPost_ret (v := .tuple #[.agg #[.slice zd (P.trie l).length zc], .bool true]) (by simp [results, Tryz.results54, go_sem, b0]) rfl ⟨_, by rw [HD.out], ?_, HB9.out.setCell (Nat.le_succ _) _⟩
    rw [HD.out]
    exact (HZ.out.stand (X := fun b => b = w.heap.size + 1) nodE_ok ((Chg.refl (fun b => b = w.heap.size + 1) _).setCell (p := ⟨w.heap.size + 1, 0, none⟩) rfl _) (fun b hb e => by have := hb.1; omega)).wide (fun b hb => ⟨by have := hb.1; omega, by have := hb.2; simpa [World.setCell] using by omega⟩) (fun b hb => hb.2)
theorem rTrie (u v : Value) (a : P.Tri) (w : World) (hu : NodR w u a) (hv : NodR w v a) :
    Calls Tryz.prog 51 #[.agg #[u], .agg #[v]] w fun e w' => e = .returned (.bool true) ∧ Below w.heap.size w w' := by
  have hb0 : Below w.heap.size w ((w.alloc (.cells #[u] 86)).alloc (.cells #[v] 86)) :=
    ((Below.refl w.heap.size w).alloc (Nat.le_refl _) _).alloc (by simp) _
  have HU := Lib.hid hu; have HV := Lib.hid hv; have HB0 := Lib.hid hb0; clear hb0
  have HXB := Lib.hid (show Box1 w.heap.size u ((w.alloc (.cells #[u] 86)).alloc (.cells #[v] 86)) from (Box1.new u 86 w).below ((Below.refl _ _).alloc (Nat.le_refl _) _))
  have HYB := Lib.hid (show Box1 (w.heap.size + 1) v ((w.alloc (.cells #[u] 86)).alloc (.cells #[v] 86)) by have h := Box1.new v 86 (w.alloc (.cells #[u] 86)); simpa using h)
  obtain ⟨ad, cap, rfl, hla, _⟩ := hu
  obtain ⟨bd, dap, rfl, hlb, _⟩ := hv
  go_enter Tryz.func51, Tryz.ntmps51
  go_wp2_with fail
  go_loopw [5] (fun i wr => ∃ j : Nat, j ≤ a.length ∧ i = .int .i64 j ∧ Below w.heap.size w wr ∧ Box1 w.heap.size (.slice ad a.length cap) wr ∧ Box1 (w.heap.size + 1) (.slice bd a.length dap) wr) (fun i _ => a.length - (intOf i).toNat)
  case atStart => exact ⟨0, Nat.zero_le _, rfl, HB0.out, HXB.out, HYB.out⟩
  case round =>
    clear HXB HYB HB0
    obtain ⟨j, hj, rfl, hb, hxb, hyb⟩ := hrel
    have HB := Lib.hid hb; have HXB := Lib.hid hxb; have HYB := Lib.hid hyb
    obtain ⟨k0, k1⟩ := hxb
    obtain ⟨l0, l1⟩ := hyb
    by_cases hlt : j < a.length
    · obtain ⟨c, p, hga, hgl, x, y, c0, c1, c2, c3, hx, hy⟩ := (HU.out.below hb).at j hlt
      obtain ⟨g, q, hgb, hgl', x', y', d0, d1, d2, d3, hx', hy'⟩ := (HV.out.below hb).at j hlt
      obtain ⟨na, hna⟩ : ∃ n, a[j] = n := ⟨_, rfl⟩
      rw [hna] at c2 c3 hx hy d2 d3 hx' hy'
      clear hna
      subst hga hgb
      obtain ⟨xs, ys, t, s⟩ := na
      simp only at c2 c3 hx hy d2 d3 hx' hy'
      have HX := Lib.hid hx; have HY := Lib.hid hy; have HX' := Lib.hid hx'; have HY' := Lib.hid hy'
      obtain ⟨xd, xc, rfl, _, _⟩ := hx
      obtain ⟨yd, yc, rfl, _, _⟩ := hy
      obtain ⟨xd', xc', rfl, _, _⟩ := hx'
      obtain ⟨yd', yc', rfl, _, _⟩ := hy'
      have i2 : (j : Int) < (a.length : Int) := by omega
      clear hb
      go_upto_region 6 with fail
      go_cut [6, 7] (fun m n wx => ∃ N M, m = .pointer (some ⟨N, 0, none⟩) ∧ n = .pointer (some ⟨M, 0, none⟩) ∧ NB N (.slice xd xs.length xc) (.slice yd ys.length yc) t s wx ∧ NB M (.slice xd' xs.length xc') (.slice yd' ys.length yc') t s wx ∧ Below wr.heap.size wr wx)
      case first =>
        go_region
        all_goals
          go_wp2_with fail
          go_meet
          case rel =>
            refine ⟨_, _, rfl, rfl, ?_, ?_, ?_⟩
            · refine ⟨?_, ?_, ?_, ?_, ?_, ?_, ?_, ?_, ?_⟩ <;> go_simp
            · refine ⟨?_, ?_, ?_, ?_, ?_, ?_, ?_, ?_, ?_⟩ <;> go_simp
            · exact (((Below.refl _ _).alloc (Nat.le_refl _) _).alloc (by simp) _).drew
      case rest =>
        obtain ⟨N, M, rfl, rfl, hn, hm, hbc⟩ := hcut
        have HN := Lib.hid hn; have HM := Lib.hid hm
        have HB1 := Lib.hid (HB.out.trans (hbc.mono HB.out.size))
        have HXB1 := Lib.hid (HXB.out.below hbc); have HYB1 := Lib.hid (HYB.out.below hbc)
        have HX1 := Lib.hid (HX.out.below hbc); have HY1 := Lib.hid (HY.out.below hbc); have HX1' := Lib.hid (HX'.out.below hbc); have HY1' := Lib.hid (HY'.out.below hbc)
        clear hbc HX HY HX' HY' c0 c1 c2 c3 d0 d1 d2 d3 HXB HYB k0 k1 l0 l1
        obtain ⟨n0, n1, n2, n3, _, _, _, _, hN⟩ := hn
        obtain ⟨m0, m1, m2, m3, _, _, _, _, hM⟩ := hm
        go_wp2_with fail
        refine (rInts _ _ xs _ HX1.out HX1'.out).mono ?_
        rintro e w1 ⟨rfl, hb⟩
        have HB2 := Lib.hid (HB1.out.trans (hb.mono HB1.out.size))
        have HXB2 := Lib.hid (HXB1.out.below hb); have HYB2 := Lib.hid (HYB1.out.below hb)
        have HY2 := Lib.hid (HY1.out.below hb); have HY2' := Lib.hid (HY1'.out.below hb)
        have HN2 := Lib.hid (HN.out.below hb); have HM2 := Lib.hid (HM.out.below hb)
        clear hb n0 n1 n2 n3 m0 m1 m2 m3 hN hM HX1 HX1' HY1 HY1' HXB1 HYB1 HN HM
        obtain ⟨n0, n1, n2, n3, _, _, _, _, hN⟩ := HN2.out
        obtain ⟨m0, m1, m2, m3, _, _, _, _, hM⟩ := HM2.out
        go_wp2_with fail
        refine (rInts _ _ ys _ HY2.out HY2'.out).mono ?_
        rintro e w2 ⟨rfl, hb⟩
        have HB3 := Lib.hid (HB2.out.trans (hb.mono HB2.out.size))
        have HXB3 := Lib.hid (HXB2.out.below hb); have HYB3 := Lib.hid (HYB2.out.below hb)
        have HN3 := Lib.hid (HN2.out.below hb); have HM3 := Lib.hid (HM2.out.below hb)
        clear hb n0 n1 n2 n3 m0 m1 m2 m3 hN hM HXB2 HYB2 HN2 HM2
        obtain ⟨_, _, n2, n3, _, _, _, _, hN⟩ := HN3.out
        obtain ⟨_, _, m2, m3, _, _, _, _, hM⟩ := HM3.out
        cases t
        all_goals
          go_wp2
          go_roundw
          case rel => exact ⟨j + 1, by omega, by go_num, HB3.out, HXB3.out, HYB3.out⟩
          case measure => simp [intOf]; omega
    · have i2 : ¬ (j : Int) < (a.length : Int) := by omega
      clear hb
      go_wp2
      go_ret
      exact ⟨rfl, HB.out⟩
end Go.Proofs.YtkjidjomlpnnlaaGreatDoor
