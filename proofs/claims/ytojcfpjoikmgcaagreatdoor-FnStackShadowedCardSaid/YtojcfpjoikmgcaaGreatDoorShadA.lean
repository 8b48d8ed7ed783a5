/- Shadowed entries: plain facts; a row of them, of the call's own and as it is read. Walks: the shadowed entries of a stack (reference). Walks: the shadowed entries of a stack (program). Shadowed entries: what the law says of them, plain. -/
import Derived.Deep.DeepCutAuto
import Derived.Test.YtojcfpjoikmgcaaGreatDoorPlainLook
import Derived.Test.YtojcfpjoikmgcaaGreatDoorMemE
import Derived.Test.YtojcfpjoikmgcaaGreatDoorLook1
import Derived.Test.YtojcfpjoikmgcaaGreatDoorCurE3
namespace Go.Proofs.YtojcfpjoikmgcaaGreatDoor
section
namespace P
/-- what a layer shows of its first k entries among the shadowed ones -/
def shadK (L : Lays) (i : Nat) (e : Lay) (k : Nat) : List Shad := if e.2 then ((e.1.take k).filter fun x => decide (layAt x.1 L < i)).map fun x => ((i : Int), layAt x.1 L, x.1) else []
theorem shad_snoc (L : Lays) (e : Lay) : ∀ (l : Lays) (i : Nat), shad L i (l ++ [e]) = shad L i l ++ shadK L (i + l.length) e e.1.length
  | [], i => by
    show (if e.2 then _ else []) ++ shad L (i + 1) [] = [] ++ shadK L (i + 0) e e.1.length
    unfold shadK
    rw [List.take_length]
    simp [shad]
  | x :: l, i => by
    show (if x.2 then _ else []) ++ shad L (i + 1) (l ++ [e]) = ((if x.2 then _ else []) ++ shad L (i + 1) l) ++ _
    rw [shad_snoc L e l (i + 1), List.append_assoc, show i + 1 + l.length = i + (x :: l).length by simp; omega]
theorem shad_take {L l : Lays} {j : Nat} (hj : j < l.length) : shad L 0 (l.take (j + 1)) = shad L 0 (l.take j) ++ shadK L j (l[j]'hj) (l[j]'hj).1.length := by
  have e : l.take (j + 1) = l.take j ++ [l[j]'hj] := by rw [List.take_add_one, List.getElem?_eq_getElem hj]; rfl
  rw [e, shad_snoc, Nat.zero_add, List.length_take, Nat.min_eq_left (Nat.le_of_lt hj)]
theorem shadK_zero (L : Lays) (i : Nat) (e : Lay) : shadK L i e 0 = [] := by unfold shadK; split <;> simp
theorem shadK_off {L : Lays} {i k : Nat} {e : Lay} (h : e.2 = false) : shadK L i e k = [] := by unfold shadK; rw [h]; rfl
theorem shadK_snoc {L : Lays} {i k : Nat} {e : Lay} (h : e.2 = true) (hk : k < e.1.length) : shadK L i e (k + 1) = shadK L i e k ++ if layAt (e.1[k]'hk).1 L < i then [((i : Int), layAt (e.1[k]'hk).1 L, (e.1[k]'hk).1)] else [] := by
  unfold shadK
  rw [if_pos h, if_pos h, List.take_add_one, List.getElem?_eq_getElem hk, List.filter_append, List.map_append]
  congr 1
  show List.map _ (List.filter _ [e.1[k]'hk]) = _
  by_cases hc : layAt (e.1[k]'hk).1 L < i
  · rw [if_pos hc, List.filter_cons_of_pos (by simpa using hc)]; rfl
  · rw [if_neg hc, List.filter_cons_of_neg (by simpa using hc)]; rfl
theorem shadK_len (L : Lays) (i : Nat) (e : Lay) (k : Nat) : (shadK L i e k).length ≤ e.1.length := by
  unfold shadK
  split
  · rw [List.length_map]
    exact Nat.le_trans (List.length_filter_le _ _) (by rw [List.length_take]; omega)
  · simp
theorem shad_len {L : Lays} {n : Nat} : ∀ {l : Lays} {i : Nat}, (∀ e ∈ l, e.1.length ≤ n) → (shad L i l).length ≤ n * l.length
  | [], _, _ => by simp [shad]
  | e :: l, i, h => by
    have h1 := shad_len (L := L) (l := l) (i := i + 1) fun x hx => h x (List.mem_cons_of_mem _ hx)
    have h2 := shadK_len L i e e.1.length
    have h3 := h e (by simp)
    have h4 : shad L i (e :: l) = shadK L i e e.1.length ++ shad L (i + 1) l := by unfold shadK; rw [List.take_length]; rfl
    rw [h4, List.length_append, List.length_cons, Nat.mul_add]
    omega
end P
open Go Go.RowKit
set_option maxHeartbeats 1000000
/-- a shadowed entry -/
def shadE : ElT P.Shad := fun v F cs e => ∃ x, cs = [.int .i64 e.1, .int .i64 e.2.1, x] ∧ Ints v F x e.2.2
theorem shadE_ok : ElOk shadE :=
  ⟨fun ⟨x, h, k⟩ hk => ⟨x, h, k.keep intE_ok hk⟩, fun ⟨x, h, k⟩ hF hl => ⟨x, h, k.wide hF hl⟩⟩
theorem shadE_mk {v : World} {F : Blk} {x : Value} {a b : Int} {o : List Int} (h : Ints v F x o) : shadE v F [.int .i64 a, .int .i64 b, x] (a, b, o) := ⟨x, rfl, h⟩
abbrev Shads := RowO 3 shadE
theorem info_shad : (Tryz.prog.info? 75).map (fun i => (i.zero, i.size, i.bytes)) = some (some (.agg #[.int .i64 0, .int .i64 0, .slice none 0 0]), 3, 40) := by kernel_rfl
/-- shadowed entries, as they are read -/
def ShadR (v : World) (u : Value) (l : List P.Shad) : Prop :=
  ∃ (ad : Option Addr) (cap : Nat), u = .slice ad l.length cap ∧ l.length ≤ 2 ^ 45 ∧ (l = [] ∨ ∃ g o, ad = some ⟨g, o, none⟩ ∧ g < v.heap.size ∧ ∀ (j : Nat) (h : j < l.length), ∃ x, v.cell? ⟨g, o + j * 3, none⟩ = some (.int .i64 (l[j]'h).1) ∧ v.cell? ⟨g, o + j * 3 + 1, none⟩ = some (.int .i64 (l[j]'h).2.1) ∧ v.cell? ⟨g, o + j * 3 + 2, none⟩ = some x ∧ IntR v x (l[j]'h).2.2)
theorem ShadR.below {v v' : World} {u : Value} {l : List P.Shad} (h : ShadR v u l) (hb : Below v.heap.size v v') : ShadR v' u l := by
  obtain ⟨ad, cap, h1, h2, h3⟩ := h
  refine ⟨ad, cap, h1, h2, h3.imp id ?_⟩
  rintro ⟨g, o, h4, h5, h6⟩
  refine ⟨g, o, h4, Nat.lt_of_lt_of_le h5 hb.size, fun j hj => ?_⟩
  obtain ⟨x, a, b, c, d⟩ := h6 j hj
  exact ⟨x, (hb.cell (p := ⟨g, _, none⟩) h5).trans a, (hb.cell (p := ⟨g, _, none⟩) h5).trans b, (hb.cell (p := ⟨g, _, none⟩) h5).trans c, d.below hb⟩
theorem Shads.read {v : World} {F : Blk} {u : Value} {l : List P.Shad} (h : Shads v F u l) : ShadR v u l := by
  obtain ⟨ad, cap, h1, h2, hn, h3⟩ := h
  refine ⟨ad, cap, h1, by omega, h3.imp id ?_⟩
  rintro ⟨g, o, G, C, h4, h5⟩
  refine ⟨g, o, h4, h5.lt g h5.own, fun j hj => ?_⟩
  obtain ⟨x, hc, hx⟩ := h5.el j hj
  have a := h5.cel j hj 0 (by rw [hc]; simp)
  have b := h5.cel j hj 1 (by rw [hc]; simp)
  have c := h5.cel j hj 2 (by rw [hc]; simp)
  simp only [hc, List.getElem_cons_zero, List.getElem_cons_succ, Nat.add_zero] at a b c
  exact ⟨x, a.1, b.1, c.1, Ints.read hx⟩
end
section
open Go Go.RowKit
set_option maxHeartbeats 4000000
set_option maxRecDepth 100000
def ShadPost (l : P.Lays) (w : World) (e : Ending) (w' : World) : Prop := ∃ u, e = .returned (.tuple #[u, .bool (P.stack l)]) ∧ Shads w' (Bet w.heap.size w'.heap.size) u (if P.stack l then P.shad l 0 l else []) ∧ Below w.heap.size w w'
/-- how the loops stand -/
structure SInv (w : World) (B : Nat) (dv : Value) (l : P.Lays) (u : Value) (r : List P.Shad) (v : World) : Prop where
  acc : ∃ xs, Acc 75 3 shadE B v u r xs
  bx : DBx w.heap.size dv v
  bel : Below w.heap.size w v
theorem spec_shadowed (dv : Value) (l : P.Lays) (w : World) (hu : LayR w dv l) (hs : SmallS l) :
    Calls Tryz.prog 49 #[.agg #[dv]] w (ShadPost l w) := by
  obtain ⟨s0, si, sz0, sz1, sz2⟩ := info_parts info_shad
  obtain ⟨i0, hi, hz0, hz1, hz2⟩ := info_parts info_int
  have hb0 := (Below.refl w.heap.size w).alloc (Nat.le_refl _) (.cells #[dv] 68)
  have HU0 := Lib.hid hu; have HU := Lib.hid (hu.below hb0); have HB0 := Lib.hid hb0; have HSM := Lib.hid hs
  have HX := Lib.hid (DBx.new dv 68 w)
  obtain ⟨ad, cap, rfl, hll, _⟩ := hu
  clear hb0 hs
  go_enter Tryz.func49, Tryz.ntmps49
  go_wp2_with fail
  refine (spec_isValidStack _ l _ HU.out HSM.out.each).mono ?_
  rintro e w1 ⟨rfl, hb⟩
  have HX1 := Lib.hid (HX.out.below hb)
  have HB1 := Lib.hid (HB0.out.trans (hb.mono (by simp)))
  have hw1 : w.heap.size < w1.heap.size := HX1.out.2.2
  clear hb HX HB0 HU
  cases hd : P.stack l
  · have HD := Lib.hid hd; clear hd
    go_wp2
    refine bodyPost_ret (v := .tuple #[.slice none 0 0, .bool false]) (by simp [results, Tryz.results49, go_sem]) rfl ⟨.slice none 0 0, by rw [HD.out], by rw [HD.out]; exact RowO.nil _ _, HB1.out⟩
  · have HD := Lib.hid hd; clear hd
    have hl4 : l.length ≤ 4 := by have h := HD.out; unfold P.stack at h; simp only [Bool.and_eq_true, decide_eq_true_eq] at h; omega
    have hbl : Below w1.heap.size w1 (w1.alloc (.cells #[] 75)) := (Below.refl _ _).alloc (Nat.le_refl _) _
    have HI0 := Lib.hid (show SInv w w1.heap.size (.slice ad l.length cap) l (.slice (some ⟨w1.heap.size, 0, none⟩) 0 0) [] (w1.alloc (.cells #[] 75)) from
      ⟨⟨[], Acc.nil (by have h := World.ownsRow_lit (base := w1.heap.size) (e := 75) (size := 3) w1 #[] 0 (Nat.le_refl _) (Nat.zero_le _) (by simp); simpa using h) (by simp)⟩, HX1.out.below hbl, HB1.out.trans (hbl.mono HB1.out.size)⟩)
    clear hbl HX1 HB1
    go_wp2_with fail
    go_loopw [4, 5] (fun s i wr => ∃ j : Nat, j ≤ l.length ∧ i = .int .i64 j ∧ SInv w w1.heap.size (.slice ad l.length cap) l s (P.shad l 0 (l.take j)) wr) (fun _ i _ => l.length - (intOf i).toNat)
    case atStart => exact ⟨0, Nat.zero_le _, rfl, HI0.out⟩
    case round =>
      clear HI0
      obtain ⟨j, hj, rfl, hinv⟩ := hrel
      have HI := Lib.hid hinv
      clear hinv
      obtain ⟨b0, b1, b2⟩ := HI.out.bx
      by_cases hlt : j < l.length
      · have i1 : (j : Int) < (l.length : Int) := by omega
        have HTK := Lib.hid (P.shad_take (L := l) hlt)
        have HK0 := Lib.hid (P.shadK_zero l j l[j])
        have hn40 : l[j].1.length ≤ 40 := P.dic_len (List.all_eq_true.1 (P.stack_layers HD.out) l[j] (List.getElem_mem hlt))
        go_wp2_with fail
        go_loopw [4, 6] (fun s i wr => ∃ k : Nat, k ≤ l[j].1.length ∧ i = .int .i64 k ∧ SInv w w1.heap.size (.slice ad l.length cap) l s (P.shad l 0 (l.take j) ++ P.shadK l j l[j] k) wr) (fun _ i _ => l[j].1.length - (intOf i).toNat)
        case atStart => exact ⟨0, Nat.zero_le _, rfl, by rw [HK0.out, List.append_nil]; exact HI.out⟩
        case round =>
          clear HI b0 b1 b2 HK0
          obtain ⟨k, hk, rfl, hinv⟩ := hrel
          have HI := Lib.hid hinv
          clear hinv
          obtain ⟨b0, b1, b2⟩ := HI.out.bx
          have hur := HU0.out.below HI.out.bel
          obtain ⟨g, p, hga, hgl, x, c0, c1, hx⟩ := hur.at j hlt
          have HXR := Lib.hid hx
          have HUR := Lib.hid hur
          subst hga
          obtain ⟨xd, xc, rfl, _, _⟩ := hx
          clear hur
          cases het : l[j].2
          · rw [het] at c1
            have HE := Lib.hid (show P.shad l 0 (l.take j) ++ P.shadK l j l[j] k = P.shad l 0 (l.take (j + 1)) by rw [HTK.out, P.shadK_off het, P.shadK_off het])
            clear c0
            go_wp2
            go_roundw
            case rel => exact ⟨j + 1, by omega, by go_num, by rw [← HE.out]; exact HI.out⟩
            case measure => simp [intOf]; omega
          · rw [het] at c1
            by_cases hkl : k < l[j].1.length
            · have i2 : (k : Int) < (l[j].1.length : Int) := by omega
              obtain ⟨g', p', hgb, hgl', y, d0, d1, hy⟩ := EntR.at HXR.out k hkl
              subst hgb
              have HYR := Lib.hid hy
              have HSN := Lib.hid (P.shadK_snoc (L := l) (i := j) het hkl)
              obtain ⟨yd, yc, rfl, _, _⟩ := hy
              have HRL := Lib.hid (show (P.shad l 0 (l.take j) ++ P.shadK l j l[j] k).length ≤ 2000 by
                have h1 := P.shad_len (L := l) (n := 40) (l := l.take j) (i := 0) fun e he => P.dic_len (List.all_eq_true.1 (P.stack_layers HD.out) e (List.mem_of_mem_take he))
                have h2 := P.shadK_len l j l[j] k
                rw [List.length_append]
                rw [List.length_take] at h1
                omega)
              have HOL := Lib.hid (show l[j].1[k].1.length ≤ 2 ^ 20 from (HSM.out.each l[j] (List.getElem_mem hlt)).outs _ (List.getElem_mem hkl))
              have HNX := Lib.hid (show P.shad l 0 (l.take j) ++ P.shadK l j l[j] (k + 1) = (P.shad l 0 (l.take j) ++ P.shadK l j l[j] k) ++ if P.layAt l[j].1[k].1 l < j then [((j : Int), P.layAt l[j].1[k].1 l, l[j].1[k].1)] else [] by rw [HSN.out, List.append_assoc])
              clear HSN
              generalize P.shad l 0 (l.take j) ++ P.shadK l j l[j] k = r at *
              generalize l[j].1[k].1 = o at *
              go_wp2_with fail
              refine (l8Find _ _ l o _ HUR.out HYR.out).mono ?_
              rintro e v1 ⟨rfl, hb⟩
              have HY1 := Lib.hid (HYR.out.below hb); have HX1 := Lib.hid (HI.out.bx.below hb); have HB1 := Lib.hid (HI.out.bel.trans (hb.mono HI.out.bel.size))
              have HA1 := Lib.hid (show ∃ xs, Acc 75 3 shadE w1.heap.size v1 u4 r xs by obtain ⟨xs, h⟩ := HI.out.acc; exact ⟨xs, h.keep shadE_ok hb⟩)
              clear hb HI HXR HUR HYR b0 b1 b2 c0 c1 d0 d1
              by_cases hc : P.layAt o l < (j : Int)
              · have HNY := Lib.hid (show P.shad l 0 (l.take j) ++ P.shadK l j l[j] (k + 1) = r ++ [((j : Int), P.layAt o l, o)] by rw [HNX.out, if_pos hc])
                obtain ⟨xs, hacc⟩ := HA1.out
                obtain ⟨ua, uc, rfl⟩ := hacc.form
                have HACC := Lib.hid hacc
                have hrl := HRL.out
                have hol := HOL.out
                have hv1 : w1.heap.size ≤ v1.heap.size := by obtain ⟨_, _, _, _, h, _⟩ := hacc; exact h
                have hbe : Below v1.heap.size v1 (v1.alloc (.cells #[] 3)) := (Below.refl _ _).alloc (Nat.le_refl _) _
                have HBE := Lib.hid hbe
                have HSRC := Lib.hid (src_of_ints (HY1.out.below hbe))
                have HOWN := Lib.hid (World.ownsRow_lit (base := v1.heap.size) (e := 3) (size := 1) v1 #[] 0 (Nat.le_refl _) (Nat.zero_le _) (by simp))
                clear hacc hbe HNX
                go_wp2_with (at_builtin; first | refine wpList_append_src rfl _ _ 41 rfl v1.heap.size 3 i0 (.int .i64 0) 1 8 Tryz.underlying41 hi hz0 hz1 hz2 rfl (by decide) _ 0 [] rfl HOWN.out _ o.length (ints o) rfl HSRC.out ?_ ?_ (by simp) ?_)
                · unfold maxLen; omega
                · omega
                intro z v2 hown hgr _
                have HII := Lib.hid (ints_of_owns hown (by omega))
                have HB2 := Lib.hid (HBE.out.grown hgr (by simp) (fun k hk => by simp [Value.ownBlock] at hk; omega))
                clear hown hgr
                obtain ⟨za, zc, rfl, _, _⟩ := id HII.out
                have hb3 : Below v2.heap.size v2 (v2.alloc (.cells #[.int .i64 j, .int .i64 (P.layAt o l), .slice za o.length zc] 75)) := (Below.refl _ _).alloc (Nat.le_refl _) _
                have HB3 := Lib.hid hb3
                have HACC3 := Lib.hid ((HACC.out.keep shadE_ok HB2.out).keep shadE_ok hb3)
                have HOW3 := Lib.hid HACC3.out.owns
                have hv2 : v1.heap.size ≤ v2.heap.size := HB2.out.size
                have HVZ := Lib.hid (show w1.heap.size ≤ v2.heap.size by omega)
                clear hb3 hv1 hv2
                go_wp2_with (at_builtin; refine wpList_append_lies _ rfl _ _ 70 rfl w1.heap.size 75 s0 (.agg #[.int .i64 0, .int .i64 0, .slice none 0 0]) 3 40 Tryz.underlying70 si sz0 sz1 sz2 rfl (by decide) (.slice ua r.length uc) r.length xs rfl HOW3.out ⟨v2.heap.size, 0, none⟩ 1 1 [.int .i64 j, .int .i64 (P.layAt o l), .slice za o.length zc] rfl rfl ?_ ?_ (Nat.zero_lt_one) ?_ ?_ ?_ _ rfl ?_)
                all_goals first | exact ⟨rfl, rfl⟩ | (intro y hy; simp only [List.mem_cons, List.not_mem_nil, or_false] at hy; rcases hy with rfl | rfl | rfl <;> rfl) | (unfold maxLen; omega) | omega | (have h1 := HVZ.out; simp; omega) | (intro i y hy; rcases i with _ | _ | _ | i; (injection hy with hy; subst hy; rw [add0]; go_simp); (injection hy with hy; subst hy; rw [add0]; go_simp); (injection hy with hy; subst hy; rw [add0]; go_simp); cases hy) | skip
                intro g2 cap2 v3 hown hgr hat hlt3
                have hgrc := Chg.grown hgr
                have hown3 := World.ownsRow.lt HACC3.out.owns
                have HA4 := Lib.hid (HACC.out.snoc (a := ((j : Int), P.layAt o l, o)) (cs := [.int .i64 j, .int .i64 (P.layAt o l), .slice za o.length zc]) (v1 := v2) (v3 := v3) (g := g2) (cap := cap2) (F := Bet v1.heap.size v2.heap.size) shadE_ok HB2.out (fun b hb => hb) (shadE_mk HII.out) rfl HB3.out hown hgr (by simpa using hat))
                have HX4 := Lib.hid (((HX1.out.below HB2.out).below HB3.out).stand hgrc (fun e => by have := hown3 _ e; omega))
                have HB4 := Lib.hid (((HB1.out.trans (HB2.out.mono HB1.out.size)).trans (HB3.out.mono (Nat.le_trans HB1.out.size HB2.out.size))).trans (hgrc.below (B := w.heap.size) (by have h1 := HB1.out.size; have h2 := HB2.out.size; simp; omega) (fun b e => by have := hown3 _ e; omega)))
                clear hown hgr hat hlt3 hgrc hown3
                go_wp2
                go_roundw
                case rel => exact ⟨k + 1, by omega, by go_num, by rw [HNY.out]; exact ⟨⟨_, HA4.out⟩, HX4.out, HB4.out⟩⟩
                case measure => simp [intOf]; omega
              · have HNY := Lib.hid (show P.shad l 0 (l.take j) ++ P.shadK l j l[j] (k + 1) = r by rw [HNX.out, if_neg hc, List.append_nil])
                go_wp2
                go_roundw
                case rel => exact ⟨k + 1, by omega, by go_num, by rw [HNY.out]; exact ⟨HA1.out, HX1.out, HB1.out⟩⟩
                case measure => simp [intOf]; omega
            · have i2 : ¬ (k : Int) < (l[j].1.length : Int) := by omega
              have HE := Lib.hid (show P.shad l 0 (l.take j) ++ P.shadK l j l[j] k = P.shad l 0 (l.take (j + 1)) by rw [HTK.out, show k = l[j].1.length by omega])
              go_wp2
              go_roundw
              case rel => exact ⟨j + 1, by omega, by go_num, by rw [← HE.out]; exact HI.out⟩
              case measure => simp [intOf]; omega
      · have hjl : j = l.length := by omega
        have i1 : ¬ (j : Int) < (l.length : Int) := by omega
        obtain ⟨xs, hacc⟩ := HI.out.acc
        have HSH := Lib.hid (show P.shad l 0 (l.take j) = P.shad l 0 l by rw [hjl, List.take_length])
        have hsl : (P.shad l 0 l).length ≤ 160 := by
          have h := P.shad_len (L := l) (n := 40) (l := l) (i := 0) fun e he => P.dic_len (List.all_eq_true.1 (P.stack_layers HD.out) e he)
          omega
        rw [HSH.out] at hacc
        have HROW := Lib.hid (hacc.row (by omega))
        clear hacc hjl
        go_wp2
        refine bodyPost_ret (v := .tuple #[u4, .bool true]) (by simp [results, Tryz.results49, go_sem]) rfl ⟨u4, by rw [HD.out], ?_, HI.out.bel⟩
        rw [HD.out, if_pos rfl]
        exact RowO.wide HROW.out (fun b hb => ⟨by have := hb.1; omega, hb.2⟩) (fun b hb => hb.2)
end
section
open Go Go.RowKit
set_option maxHeartbeats 4000000
set_option maxRecDepth 100000
theorem P.layAt_pos {o : List Int} : ∀ {l : P.Lays} {k : Nat} (h : k < l.length), P.shows o (l[k]'h) = true → 0 ≤ P.layAt o l
  | e :: l, 0, h, hs => by
    have hs' : P.shows o e = true := hs
    unfold P.layAt; rw [if_pos hs']; decide
  | e :: l, k + 1, h, hs => by
    have := P.layAt_pos (l := l) (k := k) (by simpa using h) (by simpa using hs)
    unfold P.layAt
    split
    · decide
    · split <;> omega
/-- how the inner loop stands: the layer in its box -/
structure SInw (w : World) (B : Nat) (dv : Value) (l : P.Lays) (Lb : Nat) (x : Value) (t : Bool) (u : Value) (r : List P.Shad) (v : World) : Prop where
  inv : SInv w B dv l u r v
  own : ∀ k, u.ownBlock = some k → k ≠ Lb
  c0 : v.cell? ⟨Lb, 0, none⟩ = some x
  c1 : v.cell? ⟨Lb, 1, none⟩ = some (.bool t)
  lt : w.heap.size < Lb ∧ Lb < v.heap.size
theorem SInw.below {w : World} {B : Nat} {dv : Value} {l : P.Lays} {Lb : Nat} {x : Value} {t : Bool} {u : Value} {r : List P.Shad} {v v' : World} (h : SInw w B dv l Lb x t u r v) (hb : Below v.heap.size v v') : SInw w B dv l Lb x t u r v' := by
  obtain ⟨⟨⟨xs, h1⟩, h2, h3⟩, h4, h5, h6, h7⟩ := h
  exact ⟨⟨⟨xs, h1.keep shadE_ok hb⟩, h2.below hb, h3.trans (hb.mono h3.size)⟩, h4, (hb.cell (p := ⟨Lb, 0, none⟩) h7.2).trans h5, (hb.cell (p := ⟨Lb, 1, none⟩) h7.2).trans h6, ⟨h7.1, Nat.lt_of_lt_of_le h7.2 hb.size⟩⟩
theorem impl_shadowed (dv : Value) (l : P.Lays) (w : World) (hu : LayR w dv l) (hs : SmallS l) (hE : Env w) :
    Calls Tryz.prog 48 #[.agg #[dv]] w (ShadPost l w) := by
  obtain ⟨s0, si, sz0, sz1, sz2⟩ := info_parts info_shad
  have hb0 := (Below.refl w.heap.size w).alloc (Nat.le_refl _) (.cells #[dv] 68)
  have HU0 := Lib.hid hu; have HU := Lib.hid (hu.below hb0); have HB0 := Lib.hid hb0; have HSM := Lib.hid hs
  have HX := Lib.hid (DBx.new dv 68 w); have HE := Lib.hid (hE.below hb0 hE.size)
  obtain ⟨ad, cap, rfl, hll, _⟩ := hu
  clear hb0 hs hE
  go_enter Tryz.func48, Tryz.ntmps48
  go_wp2_with fail
  refine (impl_isValidStack _ l _ HU.out HSM.out.each HE.out).mono ?_
  rintro e w1 ⟨rfl, hb⟩
  have HX1 := Lib.hid (HX.out.below hb)
  have HB1 := Lib.hid (HB0.out.trans (hb.mono (by simp)))
  have hw1 : w.heap.size < w1.heap.size := HX1.out.2.2
  clear hb HX HB0 HU HE
  cases hd : P.stack l
  · have HD := Lib.hid hd; clear hd
    go_wp2
    refine bodyPost_ret (v := .tuple #[.slice none 0 0, .bool false]) (by simp [results, Tryz.results48, go_sem]) rfl ⟨.slice none 0 0, by rw [HD.out], by rw [HD.out]; exact RowO.nil _ _, HB1.out⟩
  · have HD := Lib.hid hd; clear hd
    have hl4 : l.length ≤ 4 := by have h := HD.out; unfold P.stack at h; simp only [Bool.and_eq_true, decide_eq_true_eq] at h; omega
    have hbl : Below w1.heap.size w1 (w1.alloc (.cells #[] 75)) := (Below.refl _ _).alloc (Nat.le_refl _) _
    have HI0 := Lib.hid (show SInv w w1.heap.size (.slice ad l.length cap) l (.slice (some ⟨w1.heap.size, 0, none⟩) 0 0) [] (w1.alloc (.cells #[] 75)) from
      ⟨⟨[], Acc.nil (by have h := World.ownsRow_lit (base := w1.heap.size) (e := 75) (size := 3) w1 #[] 0 (Nat.le_refl _) (Nat.zero_le _) (by simp); simpa using h) (by simp)⟩, HX1.out.below hbl, HB1.out.trans (hbl.mono HB1.out.size)⟩)
    obtain ⟨b0, b1, b2⟩ := HX1.out.below hbl
    clear hbl HX1 HB1
    go_wp2_with fail
    go_loopw [4, 19] (fun s i wr => ∃ j : Nat, j ≤ l.length ∧ i = .int .i64 j ∧ SInv w w1.heap.size (.slice ad l.length cap) l s (P.shad l 0 (l.take j)) wr) (fun _ i _ => l.length - (intOf i).toNat)
    case atStart => exact ⟨0, Nat.zero_le _, rfl, HI0.out⟩
    case round =>
      clear HI0 b0 b1 b2
      obtain ⟨j, hj, rfl, hinv⟩ := hrel
      have HI := Lib.hid hinv
      clear hinv
      by_cases hlt : j < l.length
      · have i1 : (j : Int) < (l.length : Int) := by omega
        have HTK := Lib.hid (P.shad_take (L := l) hlt)
        have HK0 := Lib.hid (P.shadK_zero l j l[j])
        have hn40 : l[j].1.length ≤ 40 := P.dic_len (List.all_eq_true.1 (P.stack_layers HD.out) l[j] (List.getElem_mem hlt))
        obtain ⟨g, p, hga, hgl, x, c0w, c1w, hx⟩ := HU0.out.at j hlt
        have c0 := (HI.out.bel.cell (p := ⟨g, p + j * 2, none⟩) hgl).trans c0w
        have c1 := (HI.out.bel.cell (p := ⟨g, p + j * 2 + 1, none⟩) hgl).trans c1w
        obtain ⟨b0, b1, b2⟩ := HI.out.bx
        obtain ⟨t2, ht2⟩ : ∃ t2, l[j].2 = t2 := ⟨_, rfl⟩
        rw [ht2] at c1
        have HT2 := Lib.hid ht2
        clear c0w c1w ht2
        have HDR := Lib.hid (show ∃ ad2 c2, x = .slice ad2 l[j].1.length c2 by obtain ⟨a, b, h, _⟩ := hx; exact ⟨a, b, h⟩)
        subst hga
        obtain ⟨xd, xc, rfl⟩ := HDR.out
        have HXW := Lib.hid hx
        have hbx : Below wr.heap.size wr (wr.alloc (.cells #[.slice xd l[j].1.length xc, .bool t2] 113)) := (Below.refl _ _).alloc (Nat.le_refl _) _
        have HW := Lib.hid (show SInw w w1.heap.size (.slice (some ⟨g, p, none⟩) l.length cap) l wr.heap.size (.slice xd l[j].1.length xc) t2 u4 (P.shad l 0 (l.take j) ++ P.shadK l j l[j] 0) (wr.alloc (.cells #[.slice xd l[j].1.length xc, .bool t2] 113)) from
          ⟨⟨by obtain ⟨xs, h⟩ := HI.out.acc; exact ⟨xs, by rw [HK0.out, List.append_nil]; exact h.keep shadE_ok hbx⟩, HI.out.bx.below hbx, HI.out.bel.trans (hbx.mono HI.out.bel.size)⟩, (fun k hk => by obtain ⟨xs, h⟩ := HI.out.acc; have := World.ownsRow.lt h.owns k hk; omega), by go_simp, by go_simp, ⟨HI.out.bx.2.2, by simp⟩⟩)
        clear hbx hx HDR HI HK0
        go_wp2_with fail
        clear c0 c1 b0 b1 b2
        go_loopw [4, 28] (fun s i wr2 => ∃ k : Nat, k ≤ l[j].1.length ∧ i = .int .i64 k ∧ SInw w w1.heap.size (.slice (some ⟨g, p, none⟩) l.length cap) l wr.heap.size (.slice xd l[j].1.length xc) t2 s (P.shad l 0 (l.take j) ++ P.shadK l j l[j] k) wr2) (fun _ i _ => l[j].1.length - (intOf i).toNat)
        case atStart => exact ⟨0, Nat.zero_le _, rfl, HW.out⟩
        case round =>
          clear HW
          obtain ⟨k, hk, rfl, hw⟩ := hrel
          have HW := Lib.hid hw
          clear hw
          by_cases hkl : k < l[j].1.length
          · have i2 : (k : Int) < (l[j].1.length : Int) := by omega
            obtain ⟨g', p', hgb, hgl', y, d0, d1, hy⟩ := EntR.at (HXW.out.below HW.out.inv.bel) k hkl
            subst hgb
            obtain ⟨yd, yc, rfl, _, _⟩ := id hy
            have hba : Below wr.heap.size wr (wr.alloc (.cells #[.slice yd l[j].1[k].1.length yc, .string (S l[j].1[k].2)] 80)) := (Below.refl _ _).alloc (Nat.le_refl _) _
            have HWA := Lib.hid (HW.out.below hba)
            have HYA := Lib.hid (hy.below hba)
            have HUA := Lib.hid (HU0.out.below HWA.out.inv.bel)
            have HEB := Lib.hid (show (wr.alloc (.cells #[.slice yd l[j].1[k].1.length yc, .string (S l[j].1[k].2)] 80)).cell? ⟨wr.heap.size, 0, none⟩ = some (.slice yd l[j].1[k].1.length yc) ∧ wr.heap.size < (wr.alloc (.cells #[.slice yd l[j].1[k].1.length yc, .string (S l[j].1[k].2)] 80)).heap.size by constructor <;> go_simp)
            have HOE := Lib.hid (fun k2 (hk2 : u4.ownBlock = some k2) => show k2 < wr.heap.size by obtain ⟨xs, h⟩ := HW.out.inv.acc; exact (World.ownsRow.lt h.owns k2 hk2).2)
            obtain ⟨b0, b1, b2⟩ := HWA.out.inv.bx
            have HRL := Lib.hid (show (P.shad l 0 (l.take j) ++ P.shadK l j l[j] k).length ≤ 2000 by
              have h1 := P.shad_len (L := l) (n := 40) (l := l.take j) (i := 0) fun e he => P.dic_len (List.all_eq_true.1 (P.stack_layers HD.out) e (List.mem_of_mem_take he))
              have h2 := P.shadK_len l j l[j] k
              rw [List.length_append]
              rw [List.length_take] at h1
              omega)
            have HOL := Lib.hid (show l[j].1[k].1.length ≤ 2 ^ 20 from (HSM.out.each l[j] (List.getElem_mem hlt)).outs _ (List.getElem_mem hkl))
            have HOFF := Lib.hid (fun (h : l[j].2 = false) => show P.shad l 0 (l.take j) ++ P.shadK l j l[j] (k + 1) = P.shad l 0 (l.take j) ++ P.shadK l j l[j] k by rw [P.shadK_off h, P.shadK_off h])
            have HNX := Lib.hid (fun (h : l[j].2 = true) => show P.shad l 0 (l.take j) ++ P.shadK l j l[j] (k + 1) = (P.shad l 0 (l.take j) ++ P.shadK l j l[j] k) ++ if P.layAt l[j].1[k].1 l < j then [((j : Int), P.layAt l[j].1[k].1 l, l[j].1[k].1)] else [] by rw [P.shadK_snoc h hkl, List.append_assoc])
            have HIX := Lib.hid (fun (h : l[j].2 = true) => show P.layIdx l[j].1[k].1 l = P.layAt l[j].1[k].1 l by
              have h0 := P.layAt_pos (o := l[j].1[k].1) hlt (by unfold P.shows; rw [h, P.hasE_iff.2 ⟨l[j].1[k], List.getElem_mem hkl, rfl⟩]; rfl)
              unfold P.layIdx; rw [if_neg (by omega)])
            clear hba hy HW
            generalize hr : P.shad l 0 (l.take j) ++ P.shadK l j l[j] k = r at *
            clear hr
            generalize l[j].1[k].1 = o at *
            go_wp2_with fail
            refine (stackLookup _ _ l o _ HUA.out HYA.out).mono ?_
            rintro e v1 ⟨rfl, hb⟩
            have HW1 := Lib.hid (HWA.out.below hb); have HY1 := Lib.hid (HYA.out.below hb)
            have HEB1 := Lib.hid (And.intro ((hb.cell (p := ⟨wr.heap.size, 0, none⟩) HEB.out.2).trans HEB.out.1) (Nat.lt_of_lt_of_le HEB.out.2 hb.size))
            clear hb HWA HYA HUA HEB b0 b1 b2
            have l1 := HW1.out.c1
            cases t2
            · have het := HT2
              go_wp2
              go_roundw
              case rel =>
                exact ⟨k + 1, by omega, by go_num, by rw [HOFF.out het.out]; exact HW1.out⟩
              case measure => simp [intOf]; omega
            · have hix := HIX.out HT2.out
              have HNY := Lib.hid (HNX.out HT2.out)
              rw [hix]
              clear HIX HOFF HNX hix
              by_cases hc : P.layAt o l < (j : Int)
              · have HNZ := Lib.hid (show P.shad l 0 (l.take j) ++ P.shadK l j l[j] (k + 1) = r ++ [((j : Int), P.layAt o l, o)] by rw [HNY.out, if_pos hc])
                clear HNY
                obtain ⟨q0, q1⟩ := HEB1.out
                have hol := HOL.out
                have hrl := HRL.out
                go_wp2_with fail
                refine (copyOf _ o _ HY1.out (by omega)).mono ?_
                rintro e v2 ⟨z, rfl, hII, hb⟩
                have HII := Lib.hid hII
                have HW2 := Lib.hid (HW1.out.below hb)
                have hwv : wr.heap.size < v1.heap.size := q1
                have HB2 := Lib.hid hb
                obtain ⟨za, zc, rfl, _, _⟩ := hII
                obtain ⟨xs, hacc⟩ := HW1.out.inv.acc
                obtain ⟨ua, uc, rfl⟩ := hacc.form
                have HACC := Lib.hid hacc
                have hb3 : Below v2.heap.size v2 (v2.alloc (.cells #[.int .i64 j, .int .i64 (P.layAt o l), .slice za o.length zc] 75)) := (Below.refl _ _).alloc (Nat.le_refl _) _
                have HB3 := Lib.hid hb3
                have HACC3 := Lib.hid ((hacc.keep shadE_ok hb).keep shadE_ok hb3)
                have HOW3 := Lib.hid HACC3.out.owns
                have hv1 : w1.heap.size ≤ v1.heap.size := by obtain ⟨_, _, _, _, h, _⟩ := hacc; exact h
                have hv2 : v1.heap.size ≤ v2.heap.size := hb.size
                have HVZ := Lib.hid (show w1.heap.size ≤ v2.heap.size by omega)
                clear hb3 hb hacc q0 q1 l1
                go_wp2_with (at_builtin; refine wpList_append_lies _ rfl _ _ 70 rfl w1.heap.size 75 s0 (.agg #[.int .i64 0, .int .i64 0, .slice none 0 0]) 3 40 Tryz.underlying70 si sz0 sz1 sz2 rfl (by decide) (.slice ua r.length uc) r.length xs rfl HOW3.out ⟨v2.heap.size, 0, none⟩ 1 1 [.int .i64 j, .int .i64 (P.layAt o l), .slice za o.length zc] rfl rfl ?_ ?_ (Nat.zero_lt_one) ?_ ?_ ?_ _ rfl ?_)
                all_goals first | exact ⟨rfl, rfl⟩ | (intro y hy; simp only [List.mem_cons, List.not_mem_nil, or_false] at hy; rcases hy with rfl | rfl | rfl <;> rfl) | (unfold maxLen; omega) | omega | (have h1 := HVZ.out; simp; omega) | (intro i y hy; rcases i with _ | _ | _ | i; (injection hy with hy; subst hy; rw [add0]; go_simp); (injection hy with hy; subst hy; rw [add0]; go_simp); (injection hy with hy; subst hy; rw [add0]; go_simp); cases hy) | skip
                intro g2 cap2 v3 hown hgr hat hlt3
                have hgrc := Chg.grown hgr
                have hown3 := World.ownsRow.lt HACC3.out.owns
                have hlb := HW2.out.lt
                have hz2 := HB2.out.size
                have hat2 : (Value.slice ua r.length uc).ownBlock = some g2 ∨ g2 = v2.heap.size + 1 := by simpa using hat
                have HA4 := Lib.hid (HACC.out.snoc (a := ((j : Int), P.layAt o l, o)) (cs := [.int .i64 j, .int .i64 (P.layAt o l), .slice za o.length zc]) (v1 := v2) (v3 := v3) (g := g2) (cap := cap2) (F := Bet v1.heap.size v2.heap.size) shadE_ok HB2.out (fun b hb => hb) (shadE_mk HII.out) rfl HB3.out hown hgr (by simpa using hat))
                have hw3 := HW2.out.below HB3.out
                have HX4 := Lib.hid (hw3.inv.bx.stand hgrc (fun e => by have := hown3 _ e; omega))
                have HB4 := Lib.hid (hw3.inv.bel.trans (hgrc.below (B := w.heap.size) hw3.inv.bel.size (fun b e => by have := hown3 _ e; omega)))
                have HC0 := Lib.hid ((hgrc.cell (p := ⟨_, 0, none⟩) hw3.lt.2 (fun e => HW2.out.own _ e rfl)).trans hw3.c0)
                have HC1 := Lib.hid ((hgrc.cell (p := ⟨_, 1, none⟩) hw3.lt.2 (fun e => HW2.out.own _ e rfl)).trans hw3.c1)
                have HLT := Lib.hid (Nat.lt_of_lt_of_le hw3.lt.2 hgrc.size)
                have HON := Lib.hid (fun k2 (hk2 : (Value.slice (some ⟨g2, 0, none⟩) (r.length + 1) cap2).ownBlock = some k2) => show k2 = g2 from (Option.some.inj hk2).symm)
                have HG2 := Lib.hid (fun Lb (h1 : (Value.slice ua r.length uc).ownBlock = some g2 → g2 ≠ Lb) (h2 : Lb < v2.heap.size) => show g2 ≠ Lb by rcases hat2 with h | h; (exact h1 h); omega)
                have HL2 := Lib.hid HW2.out.lt
                clear hown hgr hat hat2 hlt3 hgrc hown3 hw3 hlb
                go_wp2
                go_roundw
                case rel =>
                  exact ⟨k + 1, by omega, by go_num, by rw [HNZ.out]; exact ⟨⟨⟨_, HA4.out⟩, HX4.out, HB4.out⟩, (fun k2 hk2 => by rw [HON.out k2 hk2]; exact HG2.out _ (fun h => HW2.out.own _ h) HL2.out.2), HC0.out, HC1.out, ⟨HL2.out.1, HLT.out⟩⟩⟩
                case measure => simp [intOf]; omega
              · have HNZ := Lib.hid (show P.shad l 0 (l.take j) ++ P.shadK l j l[j] (k + 1) = r by rw [HNY.out, if_neg hc, List.append_nil])
                go_wp2
                go_roundw
                case rel =>
                  exact ⟨k + 1, by omega, by go_num, by rw [HNZ.out]; exact HW1.out⟩
                case measure => simp [intOf]; omega
          · have i2 : ¬ (k : Int) < (l[j].1.length : Int) := by omega
            have HE := Lib.hid (show P.shad l 0 (l.take j) ++ P.shadK l j l[j] k = P.shad l 0 (l.take (j + 1)) by rw [HTK.out, show k = l[j].1.length by omega])
            go_wp2
            go_roundw
            case rel => exact ⟨j + 1, by omega, by go_num, by rw [← HE.out]; exact HW.out.inv⟩
            case measure => simp [intOf]; omega
      · have hjl : j = l.length := by omega
        have i1 : ¬ (j : Int) < (l.length : Int) := by omega
        obtain ⟨xs, hacc⟩ := HI.out.acc
        have HSH := Lib.hid (show P.shad l 0 (l.take j) = P.shad l 0 l by rw [hjl, List.take_length])
        have hsl : (P.shad l 0 l).length ≤ 160 := by
          have h := P.shad_len (L := l) (n := 40) (l := l) (i := 0) fun e he => P.dic_len (List.all_eq_true.1 (P.stack_layers HD.out) e he)
          omega
        rw [HSH.out] at hacc
        have HROW := Lib.hid (hacc.row (by omega))
        clear hacc hjl
        go_wp2
        refine bodyPost_ret (v := .tuple #[u4, .bool true]) (by simp [results, Tryz.results48, go_sem]) rfl ⟨u4, by rw [HD.out], ?_, HI.out.bel⟩
        rw [HD.out, if_pos rfl]
        exact RowO.wide HROW.out (fun b hb => ⟨by have := hb.1; omega, hb.2⟩) (fun b hb => hb.2)
end
section
namespace P
theorem shadK_mem {L : Lays} {i k : Nat} {e : Lay} {x : Shad} (h : x ∈ shadK L i e k) : x.1 = i ∧ e.2 = true ∧ x.2.1 = layAt x.2.2 L ∧ layAt x.2.2 L < i ∧ hasE x.2.2 e.1 = true := by
  unfold shadK at h
  split at h
  · rename_i he
    obtain ⟨y, hy, rfl⟩ := List.mem_map.1 h
    obtain ⟨h1, h2⟩ := List.mem_filter.1 hy
    exact ⟨rfl, he, rfl, by simpa using h2, hasE_iff.2 ⟨y, List.mem_of_mem_take h1, rfl⟩⟩
  · cases h
theorem shad_mem {L : Lays} {x : Shad} : ∀ {l : Lays} {i : Nat}, x ∈ shad L i l → ∃ (j : Nat) (hj : j < l.length), x.1 = ((i + j : Nat) : Int) ∧ (l[j]'hj).2 = true ∧ x.2.1 = layAt x.2.2 L ∧ layAt x.2.2 L < ((i + j : Nat) : Int) ∧ hasE x.2.2 (l[j]'hj).1 = true
  | [], _, h => by cases h
  | e :: l, i, h => by
    have h4 : shad L i (e :: l) = shadK L i e e.1.length ++ shad L (i + 1) l := by unfold shadK; rw [List.take_length]; rfl
    rw [h4] at h
    rcases List.mem_append.1 h with h | h
    · obtain ⟨a, b, c, d, f⟩ := shadK_mem h
      exact ⟨0, by simp, by simpa using a, b, c, by simpa using d, f⟩
    · obtain ⟨j, hj, a, b, c, d, f⟩ := shad_mem h
      exact ⟨j + 1, by simp; omega, by rw [a]; congr 1; omega, by simpa using b, c, by rw [show i + (j + 1) = i + 1 + j by omega]; exact d, by simpa using f⟩
/-- a shadowed entry's outline is found in a layer above its own -/
theorem shad_look {l : Lays} {x : Shad} (hs : stack l = true) (h : x ∈ shad l 0 l) : ∃ t, lookS x.2.2 l = (t, x.2.1, true) ∧ x.2.1 < x.1 := by
  obtain ⟨j, hj, a, b, c, d, f⟩ := shad_mem h
  have h0 := layAt_pos (o := x.2.2) hj (by unfold shows; rw [b, f]; rfl)
  refine ⟨layText x.2.2 l, ?_, by rw [a, c]; exact d⟩
  unfold lookS layIdx layOk
  rw [hs, if_pos rfl, if_neg (by omega), decide_eq_true h0, c]
end P
end
end Go.Proofs.YtojcfpjoikmgcaaGreatDoor
