/- From a law's contract to its row: what is the same for every law. The library's variables at a row's first world (a dictionary seat); a world for the witnesses. Rows of ints and of entries, out of a row's own reading of its arguments. -/
import Derived.ProofKit
import Derived.OpenShut
import Derived.Deep.DeepHandedRow
import Derived.Lib.LaidTab
import Derived.Lib.SmallJoins
import Derived.ChangeSlices
import Derived.Deep.Slices
import Derived.Deep.Fields
import Derived.Test.YtmlklnimoknojaaGreatDoorCards
import Derived.Test.YtmlklnimoknojaaGreatDoorTie
import Derived.Test.YtmlklnimoknojaaGreatDoorD0
import Derived.Test.YtmlklnimoknojaaGreatDoorLawD
import Derived.Test.YtmlklnimoknojaaGreatDoorCurD
import Derived.Test.YtmlklnimoknojaaGreatDoorCurT
import Derived.BigQuiet
import Derived.IntWalk
import Derived.Deep.DeepCutAuto
import Derived.Deep.RegionHeld
import Derived.Test.YtmlklnimoknojaaGreatDoorColl
import Derived.Test.YtmlklnimoknojaaGreatDoorSpellI
import Derived.Test.YtmlklnimoknojaaGreatDoorTool3
namespace Go.Proofs.YtmlklnimoknojaaGreatDoor
section
open Go Go.RowKit Go.ChangeShapes Go.WideShapes Go.ChangeAt
section
variable {H : Type} {enc : TypeId × Value → H} {P : Program}
theorem trodAll_below (hl : laidOutB P = true) {W W' : World} (hb : Below W.heap.size W W') : ∀ (ts : List TypeId) (vs : List Value) (ds : List (DataW H)) (ps : List MemPlace),
    (∀ t ∈ ts, P.readableRec t = true ∧ t < P.types.size) → DataW.TrodAll enc P W 0 (fun _ => true) true ts vs ds ps → (∀ x ∈ ps, x.block < W.heap.size) →
    DataW.TrodAll enc P W' 0 (fun b => decide (b < W.heap.size)) true ts vs ds ps
  | [], [], [], _, _, h, _ => h
  | t :: ts, v :: vs, d :: ds, ps, hr, h, hlt => by
    obtain ⟨p, q, h1, h2, rfl⟩ := h
    exact ⟨p, q, Below.trod hl (hr t (by simp)).1 (hr t (by simp)).2 h1 hb (fun x hx => hlt x (by simp [hx])),
      trodAll_below hl hb ts vs ds q (fun t ht => hr t (by simp [ht])) h2 (fun x hx => hlt x (by simp [hx])), rfl⟩
  | [], _ :: _, _, _, _, h, _ => h.elim
  | [], [], _ :: _, _, _, h, _ => h.elim
  | _ :: _, [], _, _, _, h, _ => h.elim
  | _ :: _, _ :: _, [], _, _, h, _ => h.elim
theorem law_post {f : Func} {s : ChangeSpec} {W W' : World} {args : Array Value} {ds gs : List (DataW H)} {before : List MemPlace} {tb : TypeId}
    (hl : laidOutB P = true) (hr : ∀ t ∈ f.params.toList, P.readableRec t = true ∧ t < P.types.size) (hres : f.resultTypes = #[tb]) (htb : P.underlying tb = some .bool)
    (hvars : s.vars = []) (hfn : s.fn H (ds ++ []) = { results := [.lit (.bool true)], args := ds })
    (hW : DataW.Whole enc P f.params.toList s.vars false W args.toList ds gs before) (hb : Below W.heap.size W W') :
    s.post enc P f false true false false W args (.bool true) W' := by
  have hW' := hW
  obtain ⟨p, q, hA, hV, rfl, hfz, hnd⟩ := hW
  have hlt : ∀ x ∈ p, x.block < W.heap.size := fun x hx => hW'.lt x (by simp [hx])
  have hA2 := trodAll_below hl hb _ _ _ _ hr hA hlt
  rw [hvars] at hV
  have hg : gs = [] ∧ q = [] := by
    cases gs with
    | nil => exact ⟨rfl, hV⟩
    | cons _ _ => exact hV.elim
  obtain ⟨rfl, rfl⟩ := hg
  refine ⟨ds, [], _, [], p, [], hW', ?_, ?_, ?_, hb.frame _, fun h => by cases h⟩
  · rw [hfn, hres]
    exact trodAll_cons_mk (shut_bool htb true) trodAll_mk0
  · rw [hfn]; exact hA2
  · rw [hfn, hvars]; rfl
end
theorem boolT : Tryz.prog.underlying 4 = some .bool := Tryz.underlying4
theorem laidOut : laidOutB Tryz.prog = true := by kernel_rfl
end
section
open Go Go.RowKit
theorem env_of {α : Prop} {W : World} (hsh : W.ShapedOpen Tryz.prog) (_ : α) : Env W := by
  obtain ⟨m, hc⟩ : ∃ m, W.cell? ⟨0, 0, none⟩ = some (.int .i64 m) :=
    Go.Proofs.cell_of_shapedOpen_int (zero := #[.int .i64 0]) (t := 3) hsh (of_decide_eq_true (by kernel_rfl)) (by kernel_rfl) rfl (by kernel_rfl) (by kernel_rfl) Tryz.underlying3
  have h1 : 0 < W.heap.size := World.block_lt_of_cell? W _ hc
  exact ⟨by unfold EB; omega, m, hc⟩
def ranges : List Int := [128, 191, 160, 191, 128, 159, 144, 191, 128, 143, 0, 0, 0, 0, 0, 0, 0, 0, 0, 0, 0, 0, 0, 0, 0, 0, 0, 0, 0, 0, 0, 0]
def setTab (g : Nat) (k : IntKind) (l : List Int) (h : Array Obj) : Array Obj := h.modify g fun
  | .cells _ t frozen => .cells (l.map fun z => Value.int k z).toArray t frozen
  | o => o
noncomputable def laidWorld (os : Os) : World :=
  { World.holding Tryz.prog os ⟨#[], #[], []⟩ with heap := setTab 1 .u8 (Go.Pinned.utf8FirstZ.map Int.ofNat) (setTab 2 .u8 ranges (World.holding Tryz.prog os ⟨#[], #[], []⟩).heap) }
theorem own : ownKnob Tryz.prog.godebug = none := by kernel_rfl
end
section
open Go Go.RowKit Go.ChangeShapes Go.WideShapes Go.ChangeAt Go.Deep
set_option maxRecDepth 100000
section
variable {H : Type} {enc : TypeId × Value → H} {W : World} {held : Bool}
end
end
end Go.Proofs.YtmlklnimoknojaaGreatDoor
namespace Go.Proofs.YtmlklnimoknojaaGreatDoor
open Go Go.RowKit Go.ChangeShapes Go.WideShapes Go.ChangeAt
set_option maxRecDepth 100000
def CodeAny (w : World) (v : Value) : Prop :=
  ∃ (ad : Option Addr) (n cap : Nat), v = .slice ad n cap ∧ n ≤ maxLen ∧ (n = 0 ∨ ∃ g o, ad = some ⟨g, o, none⟩ ∧ g < w.heap.size ∧ ∀ j, j < n → ∃ b : Nat, b < 256 ∧ w.cell? ⟨g, o + j, none⟩ = some (.int .u8 b))
theorem code_of {H : Type} {enc : TypeId × Value → H} {W : World} {base : Nat} {held : Bool} {v : Value} {d : DataW H} {ps : List MemPlace}
    (hval : Value.okWide Tryz.prog W .any base 22 v) (hd : DataW.Trod enc Tryz.prog W 0 (fun _ => true) held 22 v d ps) : CodeAny W v := by
  obtain ⟨a0, len, cap, rfl⟩ := okWide_slice Tryz.underlying22 hval
  obtain ⟨fuel, hf⟩ := hd
  rcases open_ints Tryz.underlying22 Tryz.underlying5 (by kernel_rfl) hf with ⟨hcs, hx⟩ | ⟨a, len', cap', zs, hcs, _, hl, hm, hz, hx, hcell, hwz⟩
  · have hcs' : Value.slice a0 len cap = .slice none 0 0 := by simpa [Value.cells] using hcs
    injection hcs' with h1 h2 h3
    exact ⟨a0, len, cap, rfl, by omega, .inl h2⟩
  · have hcs' : Value.slice a0 len cap = .slice (some a) len' cap' := by simpa [Value.cells] using hcs
    injection hcs' with h1 h2 h3
    subst h1 h2 h3
    refine ⟨_, _, _, rfl, Nat.le_trans hl hm, ?_⟩
    rcases Nat.eq_zero_or_pos len with h0 | h0
    · exact .inl h0
    · right
      have hzl : zs.length = cap := by simpa using hz
      have c0 := hcell 0 (by omega)
      rw [show a.add 0 = a from rfl] at c0
      have hlt := World.block_lt_of_cell? W a c0
      have hsp : a.spot = none := by
        cases hs : a.spot with
        | none => rfl
        | some x =>
          exfalso
          unfold World.cell? at c0
          rw [hs] at c0
          split at c0
          · simp at c0
          · cases c0
      obtain ⟨g, o, sp⟩ := a
      simp only at hsp hlt
      subst hsp
      refine ⟨g, o, rfl, hlt, fun j hj => ?_⟩
      have cj := hcell j (by omega)
      have hwf := hwz (zs.getD j 0) (by rw [List.getD_eq_getElem?_getD, List.getElem?_eq_getElem (by omega)]; exact List.getElem_mem _)
      simp only [Lit.wf, Bool.and_eq_true, decide_eq_true_eq] at hwf
      simp [IntKind.min, IntKind.max, IntKind.signed, IntKind.bits] at hwf
      obtain ⟨b, hb⟩ := Int.eq_ofNat_of_zero_le hwf.1
      refine ⟨b, by omega, ?_⟩
      rw [← hb, ← List.getD_eq_getElem?_getD, ← cj]
      unfold Addr.add
      split
      · rename_i h; rw [h]; rfl
      · rfl
def CodeIs (w : World) (v : Value) : Prop :=
  ∃ (ad : Option Addr) (n cap : Nat), v = .slice ad n cap ∧ n ≤ 65536 ∧ (n = 0 ∨ ∃ g o, ad = some ⟨g, o, none⟩ ∧ g < w.heap.size ∧ ∀ j, j < n → ∃ b : Nat, b < 256 ∧ w.cell? ⟨g, o + j, none⟩ = some (.int .u8 b))
theorem CodeIs.fresh {w u : World} {v : Value} {t : TypeId} (h : CodeIs w v) (hb : Below w.heap.size w u) : IsCur w.heap.size u.heap.size 0 (u.alloc (.cells #[v, .int .i64 0, .int .u64 0] t)) := by
  obtain ⟨ad, n, cap, rfl, hn, hc⟩ := h
  refine ⟨ad, n, cap, 0, 0, by go_simp, by go_simp, by go_simp, by go_simp, by go_simp, Nat.le_refl _, hn, by decide, by decide, hb.size, by simp, hc.imp id ?_⟩
  rintro ⟨g, o, h1, h2, h3⟩
  refine ⟨g, o, h1, h2, fun j hj => ?_⟩
  obtain ⟨b, hb1, hb2⟩ := h3 j hj
  have hbb := hb.trans ((Below.refl w.heap.size u).alloc hb.size (.cells #[.slice ad n cap, .int .i64 0, .int .u64 0] t))
  exact ⟨b, hb1, (hbb.cell (p := ⟨g, o + j, none⟩) h2).trans hb2⟩
end Go.Proofs.YtmlklnimoknojaaGreatDoor
namespace Go.Proofs.YtmlklnimoknojaaGreatDoor
open Go Go.RowKit
set_option maxHeartbeats 4000000
set_option maxRecDepth 100000
structure PSt (w : World) (C K b : Nat) (ud us : Value) (l : P.Dic) (st : List Int) (sc : Str) (v : World) : Prop where
  d : DBx b ud v
  t : TBx (b + 1) us sc v
  r2 : NBx w.heap.size v
  r3 : TBx (w.heap.size + 1) (.slice none 0 0) [] v
  rd : ReadE (C + 1) b v ud l
  row : OwnK (C + 1) v us st
  low : w.heap.size + 2 ≤ C ∧ C < b
  rb : ∀ k, us.ownBlock = some k → k < b
  cur : IsCur w.heap.size C K v
  bel : Below w.heap.size w v
theorem PSt.chg {w : World} {C K b : Nat} {ud us : Value} {l : P.Dic} {st : List Int} {sc : Str} {v v' : World} {K' : Nat} {X : Blk} (h : PSt w C K b ud us l st sc v) (hc : Chg X v v') (hX : ∀ k, X k → k ≠ b ∧ k ≠ b + 1 ∧ k ≠ w.heap.size ∧ k ≠ w.heap.size + 1 ∧ (k < C + 1 ∨ b ≤ k) ∧ us.ownBlock ≠ some k ∧ w.heap.size ≤ k) (hk : IsCur w.heap.size C K' v') : PSt w C K' b ud us l st sc v' :=
  ⟨h.d.stand hc (fun e => (hX _ e).1 rfl), h.t.stand hc (fun e => (hX _ e).2.1 rfl), h.r2.stand hc (fun e => (hX _ e).2.2.1 rfl), h.r3.stand hc (fun e => (hX _ e).2.2.2.1 rfl), h.rd.chg hc (fun k h1 h2 e => by have := (hX k e).2.2.2.2.1; omega), owns_stand h.row hc (fun k hk e => (hX k e).2.2.2.2.2.1 hk), h.low, h.rb, hk, Chg.belowB h.bel hc h.bel.size (fun k e => (hX k e).2.2.2.2.2.2)⟩
theorem PSt.curs {w : World} {C K b : Nat} {ud us : Value} {l : P.Dic} {st : List Int} {sc : Str} {v v' : World} {K' : Nat} (h : PSt w C K b ud us l st sc v) (hc : CurPost w.heap.size C K' v v') : PSt w C K' b ud us l st sc v' :=
  h.chg hc.2 (fun k e => by
    have e : k = C := e
    have h1 := h.low
    refine ⟨by omega, by omega, by omega, by omega, .inl (by omega), fun e2 => ?_, by omega⟩
    have := (World.ownsRow.lt h.row k e2).1
    omega) hc.1
theorem PSt.below {w : World} {C K b : Nat} {ud us : Value} {l : P.Dic} {st : List Int} {sc : Str} {v v' : World} (h : PSt w C K b ud us l st sc v) (hb : Below v.heap.size v v') : PSt w C K b ud us l st sc v' :=
  h.chg (X := fun _ => False) (Below.chg hb _) (fun _ h => h.elim) (h.cur.below hb)
theorem PSt.new {w : World} {C K c : Nat} {ud us : Value} {l : P.Dic} {st : List Int} {sc : Str} {v0 v : World} (hr2 : NBx w.heap.size v) (hr3 : TBx (w.heap.size + 1) (.slice none 0 0) [] v) (hrd : ReadE c v.heap.size v ud l) (hrow : OwnK c v us st) (hc : CurPost w.heap.size C K v0 v) (hcc : c = C + 1) (hl : w.heap.size + 2 ≤ C) (hb : Below w.heap.size w v) :
    PSt w C K v.heap.size ud us l st sc ((v.alloc (.cells #[ud] 26)).alloc (.cells #[us, .string (S sc)] 32)) := by
  subst hcc
  have hba : Below v.heap.size v ((v.alloc (.cells #[ud] 26)).alloc (.cells #[us, .string (S sc)] 32)) := ((Below.refl v.heap.size v).alloc (Nat.le_refl _) _).alloc (by simp) _
  have hf : Chg (fun _ => False) v ((v.alloc (.cells #[ud] 26)).alloc (.cells #[us, .string (S sc)] 32)) := Below.chg hba _
  have ht := TBx.new us sc (v.alloc (.cells #[ud] 26))
  refine ⟨(DBx.new ud 26 v).below ((Below.refl _ _).alloc (Nat.le_refl _) _), by simpa using ht, hr2.below hba, hr3.below hba, hrd.chg hf (fun _ _ _ h => h), owns_stand hrow hf (fun _ _ h => h), ⟨hl, hc.1.lt.2⟩, fun k hk => (World.ownsRow.lt hrow k hk).2, hc.1.below hba, hb.trans (hba.mono hb.size)⟩
theorem PSt.mid {w : World} {C K b : Nat} {ud us : Value} {l : P.Dic} {st : List Int} {sc : Str} {v : World} (h : PSt w C K b ud us l st sc v) :
    (v.setCell ⟨w.heap.size, 0, none⟩ ud).cell? ⟨w.heap.size + 1, 0, none⟩ = some (.slice none 0 0) ∧ (v.setCell ⟨w.heap.size, 0, none⟩ ud).cell? ⟨w.heap.size + 1, 1, none⟩ = some (.string (S [])) ∧ (v.setCell ⟨w.heap.size, 0, none⟩ ud).frozen? ⟨w.heap.size + 1, 0, none⟩ = false ∧ (v.setCell ⟨w.heap.size, 0, none⟩ ud).frozen? ⟨w.heap.size + 1, 1, none⟩ = false ∧ Chg (fun k => k = w.heap.size ∨ k = w.heap.size + 1) v (v.setCell ⟨w.heap.size, 0, none⟩ ud) := by
  obtain ⟨r0, r1, r2⟩ := h.r2
  obtain ⟨r3, r4, r5, r6, r7⟩ := h.r3
  exact ⟨by go_simp, by go_simp, by go_simp, by go_simp, (Chg.refl _ v).setCell (p := ⟨w.heap.size, 0, none⟩) (.inl rfl) _⟩
end Go.Proofs.YtmlklnimoknojaaGreatDoor
namespace Go.Proofs.YtmlklnimoknojaaGreatDoor
namespace P
theorem ins_dic {e : Ent} {l : Dic} (h : insOk e l = true) : dic (putF e false l) = true ∧ dic l = true := by
  unfold insOk at h
  simp only [Bool.and_eq_true] at h
  exact ⟨by rw [put_dic h.1 h.2.1]; exact h.2.2, h.1⟩
theorem ins_look {e : Ent} {l : Dic} (h : insOk e l = true) : lookD e.1 (putF e false l) = (e.2, true) := by
  obtain ⟨h1, h2⟩ := ins_dic h
  have hm : e ∈ putF e false l := (putF_mem e l e).2 (.inl rfl)
  unfold lookD
  rw [h1, if_pos rfl, textAt_mem (pair_of_dic h1) hm, hasE_iff.2 ⟨e, hm, rfl⟩]
end P
open Go Go.RowKit
set_option maxHeartbeats 4000000
set_option maxRecDepth 100000
theorem vBig (v : Value) (n : Nat) (ad : Option Addr) (cap : Nat) (hv : v = .slice ad n cap) (hn : n ≤ maxLen) (w : World) :
    Calls Tryz.prog 10 #[v] w fun e w' => e = .returned (.bool (decide (65536 < n))) ∧ w = w' := by
  subst hv
  unfold maxLen at hn
  go_enter Tryz.func10, Tryz.ntmps10
  by_cases h : 65536 < n
  · have h1 : (65536 : Int) < (n : Int) := by omega
    go_wp2
    go_ret
    exact ⟨by simp [h], rfl⟩
  · have h1 : ¬ (65536 : Int) < (n : Int) := by omega
    go_wp2
    go_ret
    exact ⟨by simp [], rfl⟩
theorem vInts (u v : Value) (l m : List Int) (w : World) (hu : IntR w u l) (hv : IntR w v m) :
    Calls Tryz.prog 56 #[u, v] w fun e w' => e = .returned (.bool (decide (l = m))) ∧ Below w.heap.size w w' := by
  have HU := Lib.hid hu; have HV := Lib.hid hv
  obtain ⟨ad, cap, rfl, hla, _⟩ := hu
  obtain ⟨bd, dap, rfl, hlb, _⟩ := hv
  go_enter Tryz.func56, Tryz.ntmps56
  by_cases hlen : l.length = m.length
  · have hli : (l.length : Int) = (m.length : Int) := by omega
    go_wp2
    go_loopw [5] (fun i wr => ∃ j : Nat, j ≤ l.length ∧ i = .int .i64 j ∧ (∀ k (h : k < j) (h1 : k < l.length) (h2 : k < m.length), l[k] = m[k]) ∧ Below w.heap.size w wr) (fun i _ => l.length - (intOf i).toNat)
    case atStart => exact ⟨0, Nat.zero_le _, rfl, fun k h => absurd h (Nat.not_lt_zero _), Below.refl _ _⟩
    case round =>
      obtain ⟨j, hj, rfl, hsame, hb⟩ := hrel
      have HB := Lib.hid hb; have HS := Lib.hid hsame
      clear hsame
      by_cases hlt : j < l.length
      · obtain ⟨g, o, hga, hgl, c0⟩ := (HU.out.below hb).at j hlt
        obtain ⟨g', o', hgb, hgl', d0⟩ := (HV.out.below hb).at j (by omega)
        subst hga hgb
        clear hb
        have i1 : (j : Int) < (l.length : Int) := by omega
        have i2 : (j : Int) < (m.length : Int) := by omega
        have hjm : j < m.length := by omega
        by_cases hx : l[j] = m[j]
        · have HX := Lib.hid hx
          rw [hx] at c0
          go_wp2_with fail
          go_quiet (fail)
          go_wp2
          go_roundw
          case rel =>
            refine ⟨j + 1, by omega, by go_num, fun k hk h1 h2 => ?_, below_drewN HB.out _⟩
            by_cases e : k = j
            · subst e; exact HX.out
            · exact HS.out k (by omega) h1 h2
          case measure => simp [intOf]; omega
        · have hne : ¬ l = m := fun e => hx (by subst e; rfl)
          go_wp2_with fail
          go_quiet (fail)
          go_wp2
          go_ret
          exact ⟨by rw [decide_eq_false hne]; rfl, below_drewN HB.out _⟩
      · clear hb
        have he : l = m := List.ext_getElem hlen fun k h1 h2 => HS.out k (by omega) h1 h2
        go_wp2
        go_ret
        exact ⟨by rw [decide_eq_true he]; rfl, HB.out⟩
  · have hli : ¬ (l.length : Int) = (m.length : Int) := by omega
    have hne : ¬ l = m := fun e => hlen (by rw [e])
    go_wp2
    go_ret
    exact ⟨by rw [decide_eq_false hne]; rfl, Below.refl _ _⟩
end Go.Proofs.YtmlklnimoknojaaGreatDoor
