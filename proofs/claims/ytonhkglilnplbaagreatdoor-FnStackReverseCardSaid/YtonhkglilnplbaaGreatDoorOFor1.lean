/- Walks: the outlines of a text in a stack (reference, program). -/
import Derived.Deep.DeepCutAuto
import Derived.Test.YtonhkglilnplbaaGreatDoorOuts
import Derived.Test.YtonhkglilnplbaaGreatDoorFlat2
import Derived.Test.YtonhkglilnplbaaGreatDoorEItems
set_option linter.all false
namespace Go.Proofs.YtonhkglilnplbaaGreatDoor
namespace P
/-- the outlines of a text -/
def outsOf (t : Bs) (l : Dic) : Outs := (l.filter fun e => e.2 == t).map (·.1)
def outsFor (t : Bs) (l : Lays) : Outs := outsOf t (flatS l)
theorem sizeO_outs (t : Bs) : ∀ l : Dic, sizeO (outsOf t l) ≤ sizeE l
  | [] => by simp [outsOf, sizeO, sizeE]
  | e :: l => by
    have h := sizeO_outs t l
    have e1 : outsOf t (e :: l) = (if e.2 == t then [e.1] else []) ++ outsOf t l := by
      unfold outsOf
      cases hc : e.2 == t <;> simp [hc]
    rw [e1]
    split <;> simp only [List.nil_append, List.cons_append, sizeO, sizeE] <;> omega
theorem outs_mem {t : Bs} {l : Dic} {o : List Int} (h : o ∈ outsOf t l) : ∃ e ∈ l, e.1 = o ∧ e.2 = t := by
  unfold outsOf at h
  obtain ⟨e, he, hx⟩ := List.mem_map.1 h
  obtain ⟨h1, h2⟩ := List.mem_filter.1 he
  exact ⟨e, h1, hx, by simpa using h2⟩
end P
open Go Go.RowKit
set_option maxHeartbeats 4000000
set_option maxRecDepth 100000
/-- a row of rows that is made of outlines of entries -/
theorem outs_of_items {B : Nat} {v : World} {F : Blk} {g c : Nat} {its : List EIt} (hown : v.ownsRow B 25 1 (.slice (some ⟨g, 0, none⟩) its.length c) its.length (its.map (·.1.1))) (ho : EOk v F its) (hF : ∀ b, F b → b < v.heap.size) (hg : ¬ F g) (hl : its.length ≤ 2 ^ 30) :
    OutsO v (fun b => F b ∨ b = g) (.slice (some ⟨g, 0, none⟩) its.length c) (its.map (·.1.2.1)) := by
  have hlt := World.ownsRow.lt hown g rfl
  rcases id hown.2 with ⟨hv, _⟩ | ⟨g', cap, cur, hv, _, _, hnc, _⟩
  · cases hv
  · injection hv with e1 e2 e3
    subst e3
    refine ⟨_, c, by rw [List.length_map], by rw [List.length_map]; exact hl, ⟨(fun h => by cases h), by rw [List.length_map]; exact hnc⟩, .inr ⟨g, 0, fun j => match its[j]? with | some t => t.2 | none => fun _ => False, fun j => match its[j]? with | some t => [t.1.1] | none => [], rfl, RowC.mk_at _ _ (.inr rfl) (fun b hb => by rcases hb with hb | rfl; exact hF b hb; exact hlt.2) (fun j hj => ?_) (fun i j hij hj b h1 h2 => ?_)⟩⟩
    · have hj' : j < its.length := by simpa using hj
      have e : its[j]? = some (its[j]'hj') := List.getElem?_eq_getElem hj'
      have hm := List.getElem_mem hj'
      simp only [e]
      refine ⟨?_, rfl, ?_, fun b hb => ?_⟩
      · intro i hi
        obtain rfl : i = 0 := by simpa using hi
        have c := World.ownsRow.cellAt hown j (by omega)
        refine ⟨?_, World.ownsRow.frozenAt hown _⟩
        rw [show 0 + j * 1 + 0 = j by omega, c]
        simp [e]
      · refine ⟨(its[j]'hj').1.1, rfl, ?_⟩
        have := ho.ent _ hm
        simpa using this
      · exact ⟨.inl (ho.sub _ hm b hb), fun e => hg (e ▸ ho.sub _ hm b hb)⟩
    · have hj' : j < its.length := by simpa using hj
      have ei : its[i]? = some (its[i]'(by omega)) := List.getElem?_eq_getElem (by omega)
      have ej : its[j]? = some (its[j]'hj') := List.getElem?_eq_getElem hj'
      simp only [ei] at h1
      simp only [ej] at h2
      exact (List.pairwise_iff_getElem.1 ho.apart) i j (by omega) hj' hij b h1 h2
/-- how the loop stands: the row so far, the entries stand -/
def OFI (w : World) (lo hi : Nat) (vF v : World) (u : Value) (row : List EIt) : Prop :=
  ∃ k c, u = .slice (some ⟨k, 0, none⟩) row.length c ∧ v.ownsRow w.heap.size 25 1 u row.length (row.map (·.1.1)) ∧ ¬ Bet lo hi k ∧ hi ≤ vF.heap.size ∧ Kept (Bet lo hi) vF v ∧ Below w.heap.size w v
theorem OFI.below {w vF v v' : World} {lo hi : Nat} {u : Value} {row : List EIt} (h : OFI w lo hi vF v u row) (hb : Below v.heap.size v v') : OFI w lo hi vF v' u row := by
  obtain ⟨k, c, h1, h2, h3, h4, h5, h6⟩ := h
  refine ⟨k, c, h1, ?_, h3, h4, ⟨Nat.le_trans h5.1 hb.size, fun b hb' => (hb.block b (Nat.lt_of_lt_of_le hb'.2 (Nat.le_trans h4 h5.1))).trans (h5.2 b hb')⟩, h6.trans (hb.mono h6.size)⟩
  refine ⟨h2.1, h2.2.imp id ?_⟩
  rintro ⟨g, cap, cur, e, hg, hh, r⟩
  have hlt := (World.ownsRow.lt h2 g (by rw [e]; rfl)).2
  exact ⟨g, cap, cur, e, hg, (hb.block g hlt).trans hh, r⟩
theorem OFI.app {w vF v v1 v3 : World} {lo hi : Nat} {u : Value} {row : List EIt} {e : EIt} {g c : Nat} (h : OFI w lo hi vF v u row) (hb : Below v.heap.size v v1)
    (hown : v3.ownsRow w.heap.size 25 1 (.slice (some ⟨g, 0, none⟩) (row.length + 1) c) (row.length + 1) (row.map (·.1.1) ++ [e.1.1])) (hgr : v1.grownBy v3 u.ownBlock) (hat : u.ownBlock = some g ∨ g = v1.heap.size) :
    OFI w lo hi vF v3 (.slice (some ⟨g, 0, none⟩) (row.length + 1) c) (row ++ [e]) := by
  have h' := h.below hb
  obtain ⟨k, c0, rfl, h2, h3, h4, h5, h6⟩ := h'
  have hk := World.ownsRow.lt h2 k rfl
  refine ⟨g, c, by simp, by simpa using hown, ?_, h4, ⟨Nat.le_trans h5.1 hgr.size, fun b hb' => ?_⟩, h6.trans ((Below.refl _ _).grown hgr h6.size (fun q hq => by cases hq; exact hk.1))⟩
  · rcases hat with hat | hat
    · cases hat; exact h3
    · rintro ⟨_, hg2⟩
      have := h5.1
      omega
  · have hb2 : b < v1.heap.size := Nat.lt_of_lt_of_le hb'.2 (Nat.le_trans h4 h5.1)
    exact (hgr.block b hb2 (by simp [Value.ownBlock]; rintro rfl; exact h3 hb')).trans (h5.2 b hb')
theorem OFI.done {w vF v : World} {lo hi : Nat} {u : Value} {row : List EIt} (h : OFI w lo hi vF v u row) (ho : EOk vF (Bet lo hi) row) (hlo : w.heap.size ≤ lo) (hl : row.length ≤ 2 ^ 30) : OutsO v (Bet w.heap.size v.heap.size) u (row.map (·.1.2.1)) := by
  obtain ⟨k, c, rfl, h2, h3, h4, h5, h6⟩ := h
  have hk := World.ownsRow.lt h2 k rfl
  refine (outs_of_items h2 (ho.keep h5) (fun b hb => Nat.lt_of_lt_of_le hb.2 (Nat.le_trans h4 h5.1)) h3 hl).wide ?_ ?_
  · rintro b (hb | rfl)
    · exact ⟨Nat.le_trans hlo hb.1, Nat.lt_of_lt_of_le hb.2 (Nat.le_trans h4 h5.1)⟩
    · exact hk
  · exact fun b hb => hb.2
def sel (t : Str) (its : List EIt) : List EIt := its.filter fun e => e.1.2.2 == t
theorem sel_snoc (t : Str) (its : List EIt) (e : EIt) : sel t (its ++ [e]) = sel t its ++ if e.1.2.2 == t then [e] else [] := by
  unfold sel
  rw [List.filter_append]
  congr 1
  cases h : e.1.2.2 == t <;> simp [h]
theorem sel_outs (t : Str) (its : List EIt) : (sel t its).map (·.1.2.1) = P.outsOf t (its.map (·.1.2)) := by
  unfold sel P.outsOf
  rw [List.filter_map, List.map_map]
  rfl
def OForPost (t : Str) (l : P.Lays) (w : World) (e : Ending) (w' : World) : Prop := ∃ u, e = .returned (.tuple #[u, .bool (P.stack l)]) ∧ OutsO w' (Bet w.heap.size w'.heap.size) u (P.keptO (P.stack l) (P.outsFor t l)) ∧ Below w.heap.size w w'
theorem spec_outlinesFor (dv : Value) (l : P.Lays) (t : Str) (w : World) (hu : LayR w dv l) (hs : SmallS l) :
    Calls Tryz.prog 34 #[.agg #[dv], .string (S t)] w (OForPost t l w) := by
  obtain ⟨i0, hi, hz0, hz1, hz2⟩ := info_parts info_sl
  have hb0 := (Below.refl w.heap.size w).alloc (Nat.le_refl _) (.cells #[dv] 52)
  have HU := Lib.hid (hu.below hb0); have HB0 := Lib.hid hb0
  have HBX := Lib.hid (Box1.new dv 52 w); have HSM := Lib.hid hs
  obtain ⟨ad, cap, rfl, hll, _⟩ := hu
  clear hb0 hs
  go_enter Tryz.func34, Tryz.ntmps34
  go_wp2_with fail
  refine (spec_isValidStack _ l _ HU.out HSM.out.each).mono ?_
  rintro e w1 ⟨rfl, hb⟩
  have HU1 := Lib.hid (HU.out.below hb)
  have HBX1 := Lib.hid (HBX.out.below hb)
  have HB1 := Lib.hid (HB0.out.trans (hb.mono (by simp)))
  clear hb HU HB0 HBX
  cases hd : P.stack l
  · have HD := Lib.hid hd; clear hd
    go_wp2
    go_ret2
    exact ⟨.slice none 0 0, by rw [HD.out]; rfl, by rw [HD.out]; exact RowO.nil _ _, HB1.out⟩
  · have HST := Lib.hid hd; clear hd
    obtain ⟨a0, _⟩ := HBX1.out
    have hba := (Below.refl w1.heap.size w1).alloc (Nat.le_refl _) (.cells #[] 25)
    have HU2 := Lib.hid (HU1.out.below hba); have HB2 := Lib.hid (HB1.out.trans (hba.mono HB1.out.size))
    have HW1 := Lib.hid HB1.out.size
    have HROW := Lib.hid (show (w1.alloc (.cells #[] 25)).ownsRow w.heap.size 25 1 (.slice (some ⟨w1.heap.size, 0, none⟩) 0 0) 0 [] by have h := World.ownsRow_lit (base := w.heap.size) (e := 25) (size := 1) w1 #[] 0 HB1.out.size (Nat.zero_le _) (by simp); simpa using h)
    clear hba HU1 HB1 HBX1
    go_wp2_with fail
    refine (l8Flat _ l _ HU2.out HSM.out HST.out).mono ?_
    rintro e w2 ⟨u, rfl, hI, hb⟩
    have HZ2 := Lib.hid (show w1.heap.size + 1 ≤ w2.heap.size by have := hb.size; simpa using this)
    have HRW := Lib.hid (show w2.ownsRow w.heap.size 25 1 (.slice (some ⟨w1.heap.size, 0, none⟩) 0 0) 0 [] by
      refine ⟨HROW.out.1, HROW.out.2.imp id ?_⟩
      rintro ⟨g, cap, cur, e, hg, hh, r⟩
      have hlt := (World.ownsRow.lt HROW.out g (by rw [e]; rfl)).2
      exact ⟨g, cap, cur, e, hg, (hb.block g hlt).trans hh, r⟩)
    have HB3 := Lib.hid (HB2.out.trans (hb.mono HB2.out.size))
    have hfl : (P.flatS l).length ≤ 160 := by have h1 := P.flatS_len (P.stack_layers HST.out); have h2 := P.stack_len HST.out; omega
    have HI := Lib.hid (show Ents w2 (Bet (w1.heap.size + 1) w2.heap.size) u (P.flatS l) by simpa using hI)
    obtain ⟨fd, fc, rfl, _, _⟩ := hI
    obtain ⟨its, hits, hok, hrd⟩ := HI.out.items
    have HITS := Lib.hid hits; have HLEN := Lib.hid (show its.length = (P.flatS l).length by rw [← hits, List.length_map])
    have hln : its.length ≤ 160 := by have := HLEN.out; omega
    have HL160 := Lib.hid hln
    rw [← HLEN.out]
    have HSEL := Lib.hid (show P.keptO (P.stack l) (P.outsFor t l) = (sel t its).map (·.1.2.1) by rw [HST.out, sel_outs, HITS.out]; rfl)
    clear hb HU2 HB2 HROW hits a0 hfl
    have hba2 := (Below.refl w2.heap.size w2).alloc (Nat.le_refl _) (.cells #[.slice fd its.length fc] 32)
    have HRD := Lib.hid (show ∀ (j : Nat) (hj : j < its.length), ∃ g o, fd = some ⟨g, o, none⟩ ∧ Bet (w1.heap.size + 1) w2.heap.size g ∧ g < (w2.alloc (.cells #[.slice fd its.length fc] 32)).heap.size ∧ (w2.alloc (.cells #[.slice fd its.length fc] 32)).cell? ⟨g, o + j * 2, none⟩ = some (its[j]'hj).1.1 ∧ (w2.alloc (.cells #[.slice fd its.length fc] 32)).cell? ⟨g, o + j * 2 + 1, none⟩ = some (.string (S (its[j]'hj).1.2.2)) from fun j hj => by
      obtain ⟨g, o, h1, h2, h3, h4, h5⟩ := hrd j hj
      exact ⟨g, o, h1, h2, Nat.lt_of_lt_of_le h3 hba2.size, (hba2.cell (p := ⟨g, _, none⟩) h3).trans h4, (hba2.cell (p := ⟨g, _, none⟩) h3).trans h5⟩)
    have HOK := Lib.hid (show EOk (w2.alloc (.cells #[.slice fd its.length fc] 32)) (Bet (w1.heap.size + 1) (w2.heap.size + 1)) its from ⟨fun t ht => (hok.ent t ht).keep intE_ok ⟨hba2.size, fun b hb => hba2.block b (hok.sub t ht b hb).2⟩, fun t ht b hb => ⟨(hok.sub t ht b hb).1, by have := (hok.sub t ht b hb).2; omega⟩, hok.apart⟩)
    have HBXF := Lib.hid (Box1.new (.slice fd its.length fc) 32 w2)
    have HST0 := Lib.hid (show OFI w (w1.heap.size + 1) (w2.heap.size + 1) (w2.alloc (.cells #[.slice fd its.length fc] 32)) (w2.alloc (.cells #[.slice fd its.length fc] 32)) (.slice (some ⟨w1.heap.size, 0, none⟩) 0 0) [] from ⟨w1.heap.size, 0, rfl, HRW.out.alloc _, (fun h => by have := h.1; omega), by simp, ⟨Nat.le_refl _, fun _ _ => rfl⟩, HB3.out.trans (hba2.mono HB3.out.size)⟩)
    clear hrd hok HRW hba2
    go_wp2_with fail
    generalize hvF : (w2.alloc (.cells #[.slice fd its.length fc] 32)) = vF at *
    clear hvF
    go_loopw [6, 8] (fun s i wr => ∃ j : Nat, j ≤ its.length ∧ i = .int .i64 j ∧ OFI w (w1.heap.size + 1) (w2.heap.size + 1) vF wr s (sel t (its.take j))) (fun _ i _ => its.length - (intOf i).toNat)
    case atStart => exact ⟨0, Nat.zero_le _, rfl, HST0.out⟩
    case round =>
      clear HST0
      obtain ⟨j, hj, rfl, hI⟩ := hrel
      have HI2 := Lib.hid hI
      obtain ⟨k, c, rfl, hown, hnk, hhi, hkp, hbw⟩ := hI
      have HK := Lib.hid hkp; have HNK := Lib.hid hnk; have HBW := Lib.hid hbw.size
      have hsl : (sel t (its.take j)).length ≤ j := Nat.le_trans (List.length_filter_le _ _) (by rw [List.length_take]; omega)
      have b0 := (World.cell?_of_block (w := vF) (a := ⟨w2.heap.size, 0, none⟩) (hkp.2 w2.heap.size ⟨HZ2.out, Nat.lt_succ_self _⟩)).trans HBXF.out.1
      clear hkp hnk hbw
      by_cases hlt : j < its.length
      · obtain ⟨g, o, hga, hFg, hgl, c0, c1⟩ := HRD.out j hlt
        subst hga
        have hFg2 : Bet (w1.heap.size + 1) (w2.heap.size + 1) g := ⟨hFg.1, by have := hFg.2; omega⟩
        have c0' := (World.cell?_of_block (w := vF) (a := ⟨g, o + j * 2, none⟩) (HK.out.2 g hFg2)).trans c0
        have c1' := (World.cell?_of_block (w := vF) (a := ⟨g, o + j * 2 + 1, none⟩) (HK.out.2 g hFg2)).trans c1
        have HEN := Lib.hid (show sel t (its.take (j + 1)) = sel t (its.take j) ++ if (its[j]'hlt).1.2.2 == t then [its[j]'hlt] else [] by rw [take_snoc its j hlt, sel_snoc])
        obtain ⟨xd, xn, xc, hxs⟩ : ∃ a n c, (its[j]'hlt).1.1 = .slice a n c := by
          obtain ⟨a, c, e, _⟩ := HOK.out.ent _ (List.getElem_mem hlt); exact ⟨_, _, _, e⟩
        rw [hxs] at c0'
        have HXS := Lib.hid hxs; clear hxs c0 c1
        generalize its[j]'hlt = en at *
        obtain ⟨⟨ex, eo, et⟩, eG⟩ := en
        simp only at c1' HEN HXS
        have HRE := Lib.hid (show ∃ row, sel t (its.take j) = row from ⟨_, rfl⟩)
        generalize hrow : sel t (its.take j) = row at *
        clear hrow HRE
        have i1 : (j : Int) < (its.length : Int) := by omega
        have HOWN := Lib.hid hown; clear hown
        cases hq : et == t
        · have HEN2 := Lib.hid (HEN.out.trans (by rw [hq]; simp : _ = row))
          clear HEN
          go_wp2
          go_roundw
          case rel => exact ⟨j + 1, by omega, by go_num, by rw [HEN2.out]; exact HI2.out⟩
          case measure => simp [intOf]; omega
        · have HEN2 := Lib.hid (HEN.out.trans (by rw [hq]; rfl : _ = row ++ [(((ex, eo, et), eG) : EIt)]))
          clear HEN
          have hbl := (Below.refl wr.heap.size wr).alloc (Nat.le_refl _) (.cells #[.slice xd xn xc] 25)
          have HBL := Lib.hid hbl; clear hbl
          have HOW4 := Lib.hid (HOWN.out.alloc (.cells #[.slice xd xn xc] 25))
          have HRL := Lib.hid (show row.length ≤ 160 by have := HL160.out; omega)
          have hrl := HRL.out
          go_wp2_with (at_builtin; refine wpList_append_lies _ rfl _ _ 55 rfl w.heap.size 25 i0 (.slice none 0 0) 1 24 Tryz.underlying55 hi hz0 hz1 hz2 rfl (by decide) (.slice (some ⟨k, 0, none⟩) row.length c) row.length _ rfl HOW4.out ⟨wr.heap.size, 0, none⟩ 1 1 [.slice xd xn xc] rfl rfl ?_ ?_ (Nat.zero_lt_one) ?_ ?_ ?_ _ rfl ?_)
          all_goals first | exact ⟨rfl, rfl⟩ | (intro y hy; simp only [List.mem_cons, List.not_mem_nil, or_false] at hy; subst hy; rfl) | (unfold maxLen; omega) | omega | (have h1 := HBW.out; simp; omega) | (intro i y hy; rcases i with _ | i; (injection hy with hy; subst hy; rw [add0]; go_simp); cases hy) | skip
          intro g1 cap1 v3 hown hgr hat hlt3
          have HFIN := Lib.hid (HI2.out.app (e := ((ex, eo, et), eG)) HBL.out (by show v3.ownsRow _ _ _ _ _ (_ ++ [ex]); rw [HXS.out]; exact hown) hgr (by simpa using hat))
          clear hown hgr hat hlt3
          go_wp2
          go_roundw
          case rel => exact ⟨j + 1, by omega, by go_num, by rw [HEN2.out]; exact HFIN.out⟩
          case measure => simp [intOf]; omega
      · have hjl : its.length = j := by omega
        have HT := Lib.hid (show its.take j = its from List.take_of_length_le (by omega))
        go_wp2
        go_ret2
        have h := HI2.out
        rw [HT.out] at h ⊢
        exact ⟨.slice (some ⟨k, 0, none⟩) (sel t its).length c, by rw [HST.out]; rfl, by rw [HSEL.out]; exact h.done (HOK.out.sublist List.filter_sublist) (by have := HW1.out; omega) (by have h1 : (sel t its).length ≤ its.length := List.length_filter_le _ _; omega), h.choose_spec.choose_spec.2.2.2.2.2⟩
theorem impl_outlinesFor (dv : Value) (l : P.Lays) (t : Str) (w : World) (hu : LayR w dv l) (hs : SmallS l) (hE : Env w) :
    Calls Tryz.prog 33 #[.agg #[dv], .string (S t)] w (OForPost t l w) := by
  obtain ⟨i0, hi, hz0, hz1, hz2⟩ := info_parts info_sl
  have hb0 := (Below.refl w.heap.size w).alloc (Nat.le_refl _) (.cells #[dv] 52)
  have HU := Lib.hid (hu.below hb0); have HB0 := Lib.hid hb0
  have HBX := Lib.hid (Box1.new dv 52 w); have HSM := Lib.hid hs
  have HE := Lib.hid (hE.below hb0 hE.size)
  obtain ⟨ad, cap, rfl, hll, _⟩ := hu
  clear hb0 hs
  go_enter Tryz.func33, Tryz.ntmps33
  go_wp2_with fail
  refine (impl_isValidStack _ l _ HU.out HSM.out.each HE.out).mono ?_
  rintro e w1 ⟨rfl, hb⟩
  have HU1 := Lib.hid (HU.out.below hb)
  have HBX1 := Lib.hid (HBX.out.below hb)
  have HB1 := Lib.hid (HB0.out.trans (hb.mono (by simp)))
  clear hb HU HB0 HBX
  cases hd : P.stack l
  · have HD := Lib.hid hd; clear hd
    go_wp2
    go_ret2
    exact ⟨.slice none 0 0, by rw [HD.out]; rfl, by rw [HD.out]; exact RowO.nil _ _, HB1.out⟩
  · have HST := Lib.hid hd; clear hd
    obtain ⟨a0, _⟩ := HBX1.out
    have hba := (Below.refl w1.heap.size w1).alloc (Nat.le_refl _) (.cells #[] 25)
    have HU2 := Lib.hid (HU1.out.below hba); have HB2 := Lib.hid (HB1.out.trans (hba.mono HB1.out.size))
    have HW1 := Lib.hid HB1.out.size
    have HROW := Lib.hid (show (w1.alloc (.cells #[] 25)).ownsRow w.heap.size 25 1 (.slice (some ⟨w1.heap.size, 0, none⟩) 0 0) 0 [] by have h := World.ownsRow_lit (base := w.heap.size) (e := 25) (size := 1) w1 #[] 0 HB1.out.size (Nat.zero_le _) (by simp); simpa using h)
    clear hba HU1 HB1 HBX1
    go_wp2_with fail
    refine (stackEntries _ l _ HU2.out HSM.out HST.out).mono ?_
    rintro e w2 ⟨u, rfl, hI, hb⟩
    have HZ2 := Lib.hid (show w1.heap.size + 1 ≤ w2.heap.size by have := hb.size; simpa using this)
    have HRW := Lib.hid (show w2.ownsRow w.heap.size 25 1 (.slice (some ⟨w1.heap.size, 0, none⟩) 0 0) 0 [] by
      refine ⟨HROW.out.1, HROW.out.2.imp id ?_⟩
      rintro ⟨g, cap, cur, e, hg, hh, r⟩
      have hlt := (World.ownsRow.lt HROW.out g (by rw [e]; rfl)).2
      exact ⟨g, cap, cur, e, hg, (hb.block g hlt).trans hh, r⟩)
    have HB3 := Lib.hid (HB2.out.trans (hb.mono HB2.out.size))
    have hfl : (P.flatS l).length ≤ 160 := by have h1 := P.flatS_len (P.stack_layers HST.out); have h2 := P.stack_len HST.out; omega
    have HI := Lib.hid (show Ents w2 (Bet (w1.heap.size + 1) w2.heap.size) u (P.flatS l) by simpa using hI)
    obtain ⟨fd, fc, rfl, _, _⟩ := hI
    obtain ⟨its, hits, hok, hrd⟩ := HI.out.items
    have HITS := Lib.hid hits; have HLEN := Lib.hid (show its.length = (P.flatS l).length by rw [← hits, List.length_map])
    have hln : its.length ≤ 160 := by have := HLEN.out; omega
    have HL160 := Lib.hid hln
    rw [← HLEN.out]
    have HSEL := Lib.hid (show P.keptO (P.stack l) (P.outsFor t l) = (sel t its).map (·.1.2.1) by rw [HST.out, sel_outs, HITS.out]; rfl)
    clear hb HU2 HB2 HROW hits a0 hfl
    have HRD := Lib.hid hrd; have HOK := Lib.hid hok
    have HST0 := Lib.hid (show OFI w (w1.heap.size + 1) w2.heap.size w2 w2 (.slice (some ⟨w1.heap.size, 0, none⟩) 0 0) [] from ⟨w1.heap.size, 0, rfl, HRW.out, (fun h => by have := h.1; omega), Nat.le_refl _, ⟨Nat.le_refl _, fun _ _ => rfl⟩, HB3.out⟩)
    clear hrd hok HRW
    go_wp2_with fail
    go_loopw [6, 16] (fun s i wr => ∃ j : Nat, j ≤ its.length ∧ i = .int .i64 j ∧ OFI w (w1.heap.size + 1) w2.heap.size w2 wr s (sel t (its.take j))) (fun _ i _ => its.length - (intOf i).toNat)
    case atStart => exact ⟨0, Nat.zero_le _, rfl, HST0.out⟩
    case round =>
      clear HST0
      obtain ⟨j, hj, rfl, hI⟩ := hrel
      have HI2 := Lib.hid hI
      obtain ⟨k, c, rfl, hown, hnk, hhi, hkp, hbw⟩ := hI
      have HK := Lib.hid hkp; have HNK := Lib.hid hnk; have HBW := Lib.hid hbw.size
      have hsl : (sel t (its.take j)).length ≤ j := Nat.le_trans (List.length_filter_le _ _) (by rw [List.length_take]; omega)
      clear hkp hnk hbw
      by_cases hlt : j < its.length
      · obtain ⟨g, o, hga, hFg, hgl, c0, c1⟩ := HRD.out j hlt
        subst hga
        have hFg2 : Bet (w1.heap.size + 1) w2.heap.size g := hFg
        have c0' := (World.cell?_of_block (w := w2) (a := ⟨g, o + j * 2, none⟩) (HK.out.2 g hFg2)).trans c0
        have c1' := (World.cell?_of_block (w := w2) (a := ⟨g, o + j * 2 + 1, none⟩) (HK.out.2 g hFg2)).trans c1
        have HEN := Lib.hid (show sel t (its.take (j + 1)) = sel t (its.take j) ++ if (its[j]'hlt).1.2.2 == t then [its[j]'hlt] else [] by rw [take_snoc its j hlt, sel_snoc])
        obtain ⟨xd, xn, xc, hxs⟩ : ∃ a n c, (its[j]'hlt).1.1 = .slice a n c := by
          obtain ⟨a, c, e, _⟩ := HOK.out.ent _ (List.getElem_mem hlt); exact ⟨_, _, _, e⟩
        rw [hxs] at c0'
        have HXS := Lib.hid hxs; clear hxs c0 c1
        generalize its[j]'hlt = en at *
        obtain ⟨⟨ex, eo, et⟩, eG⟩ := en
        simp only at c1' HEN HXS
        have HRE := Lib.hid (show ∃ row, sel t (its.take j) = row from ⟨_, rfl⟩)
        generalize hrow : sel t (its.take j) = row at *
        clear hrow HRE
        have i1 : (j : Int) < (its.length : Int) := by omega
        have HOWN := Lib.hid hown; clear hown
        have hba := (Below.refl wr.heap.size wr).alloc (Nat.le_refl _) (.cells #[.slice xd xn xc, .string (S et)] 36)
        have HI3 := Lib.hid (HI2.out.below hba); have HOW3 := Lib.hid (HOWN.out.alloc (.cells #[.slice xd xn xc, .string (S et)] 36))
        have HBA := Lib.hid hba; clear hba
        cases hq : et == t
        · have HEN2 := Lib.hid (HEN.out.trans (by rw [hq]; simp : _ = row))
          clear HEN
          go_wp2
          go_roundw
          case rel => exact ⟨j + 1, by omega, by go_num, by rw [HEN2.out]; exact HI3.out⟩
          case measure => simp [intOf]; omega
        · have HEN2 := Lib.hid (HEN.out.trans (by rw [hq]; rfl : _ = row ++ [(((ex, eo, et), eG) : EIt)]))
          clear HEN
          have hbl := (Below.refl (wr.alloc (.cells #[.slice xd xn xc, .string (S et)] 36)).heap.size (wr.alloc (.cells #[.slice xd xn xc, .string (S et)] 36))).alloc (Nat.le_refl _) (.cells #[.slice xd xn xc] 25)
          have HBL := Lib.hid hbl; clear hbl
          have HOW4 := Lib.hid (HOW3.out.alloc (.cells #[.slice xd xn xc] 25))
          have HRL := Lib.hid (show row.length ≤ 160 by have := HL160.out; omega)
          have hrl := HRL.out
          go_wp2_with (at_builtin; refine wpList_append_lies _ rfl _ _ 55 rfl w.heap.size 25 i0 (.slice none 0 0) 1 24 Tryz.underlying55 hi hz0 hz1 hz2 rfl (by decide) (.slice (some ⟨k, 0, none⟩) row.length c) row.length _ rfl HOW4.out ⟨wr.heap.size + 1, 0, none⟩ 1 1 [.slice xd xn xc] rfl rfl ?_ ?_ (Nat.zero_lt_one) ?_ ?_ ?_ _ rfl ?_)
          all_goals first | exact ⟨rfl, rfl⟩ | (intro y hy; simp only [List.mem_cons, List.not_mem_nil, or_false] at hy; subst hy; rfl) | (unfold maxLen; omega) | omega | (have h1 := HBW.out; simp; omega) | (intro i y hy; rcases i with _ | i; (injection hy with hy; subst hy; rw [add0]; go_simp); cases hy) | skip
          intro g1 cap1 v3 hown hgr hat hlt3
          have HFIN := Lib.hid (HI3.out.app (e := ((ex, eo, et), eG)) HBL.out (by show v3.ownsRow _ _ _ _ _ (_ ++ [ex]); rw [HXS.out]; exact hown) hgr (by simpa using hat))
          clear hown hgr hat hlt3
          go_wp2
          go_roundw
          case rel => exact ⟨j + 1, by omega, by go_num, by rw [HEN2.out]; exact HFIN.out⟩
          case measure => simp [intOf]; omega
      · have hjl : its.length = j := by omega
        have HT := Lib.hid (show its.take j = its from List.take_of_length_le (by omega))
        go_wp2
        go_ret2
        have h := HI2.out
        rw [HT.out] at h ⊢
        exact ⟨.slice (some ⟨k, 0, none⟩) (sel t its).length c, by rw [HST.out]; rfl, by rw [HSEL.out]; exact h.done (HOK.out.sublist List.filter_sublist) (by have := HW1.out; omega) (by have h1 : (sel t its).length ≤ its.length := List.length_filter_le _ _; omega), h.choose_spec.choose_spec.2.2.2.2.2⟩
end Go.Proofs.YtonhkglilnplbaaGreatDoor
