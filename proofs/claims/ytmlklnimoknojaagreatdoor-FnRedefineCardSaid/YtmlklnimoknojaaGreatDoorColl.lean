/- Walks: an outline of a dictionary, as the cursor draws it. -/
import Derived.Deep.DeepCutAuto
import Derived.Test.YtmlklnimoknojaaGreatDoorCurE4
import Derived.Test.YtmlklnimoknojaaGreatDoorPlainD
import Derived.Laws.OwnMore
import Derived.Test.YtmlklnimoknojaaGreatDoorMemE
import Derived.BigRegion
import Derived.RegionTactic
import Derived.BigQuiet
import Derived.IntWalk
import Derived.Test.YtmlklnimoknojaaGreatDoorOutD
import Derived.Test.YtmlklnimoknojaaGreatDoorLawD
namespace Go.Proofs.YtmlklnimoknojaaGreatDoor
open Go Go.RowKit
set_option maxHeartbeats 4000000
set_option maxRecDepth 100000
def IntsDrawn (B C K m : Nat) (w : World) (e : Ending) (w' : World) : Prop := ∃ (l : List Int) (u : Value), e = .returned u ∧ l.length ≤ m ∧ Ints w' (Bet w.heap.size w'.heap.size) u l ∧ CurPost B C K w w'
theorem cur_known (B C N lo hi : Nat) (u : Value) (l : P.Dic) (w : World) (hN : N < 2 ^ 31) (h : IsCur B C N w) (hr : ReadE lo hi w u l) (hlo : C < lo) (hd : Drawn l) :
    Calls Tryz.prog 64 #[.pointer (some ⟨C, 0, none⟩), .agg #[u]] w (IntsDrawn B C (N + 200) 8 w) := by
  have hlt := h.lt
  have hba := (Below.refl w.heap.size w).alloc (Nat.le_refl _) (.cells #[u] 26)
  have HC := Lib.hid ((CurPost.refl h (Nat.le_refl N)).below hba)
  have HD := Lib.hid (DBx.new u 26 w)
  have HR := Lib.hid (hr.chg (Below.chg hba (fun _ => False)) (fun _ _ _ h => h))
  have HDR := Lib.hid hd
  have hl60 := hd.len
  obtain ⟨ad, cap, rfl, _, _⟩ := hr.now
  clear h hr hba hd
  go_enter Tryz.func64, Tryz.ntmps64
  by_cases hpos : 0 < l.length
  · obtain ⟨b0, _⟩ := HD.out
    have hpi : (0 : Int) < (l.length : Int) := by omega
    go_wp2_with fail
    refine (cur_one B C N 3 _ (by omega) (by decide) HC.out.1).mono ?_
    rintro e w1 ⟨b, rfl, hc⟩
    have HC1 := Lib.hid (HC.out.trans hc)
    have HD1 := Lib.hid (HD.out.stand hc.2 (by omega))
    have HR1 := Lib.hid (HR.out.chg hc.2 (fun b h1 h2 e => by omega))
    have hz1 : w.heap.size < w1.heap.size := HD1.out.2.2
    clear hc HC HD HR b0
    cases b
    · have HS := Lib.hid (show DBx w.heap.size (.slice ad l.length cap) w1.drew from HD1.out.below (Below.refl _ _).drew)
      go_upto_region 2 with fail
      refine wp_region_held_drew (S := DBx w.heap.size (.slice ad l.length cap)) (by kernel_rfl) HS.out (fun hS0 => ?_)
      have hdd : Below w1.heap.size w1 w1.drew := (Below.refl _ _).drew
      have HC2 := Lib.hid (HC1.out.below hdd); have HR2 := Lib.hid (HR1.out.chg (Below.chg hdd (fun _ => False)) (fun _ _ _ h => h))
      have hz1' : w.heap.size < w1.drew.heap.size := hz1
      clear HC1 HD1 HR1 HS hdd
      generalize w1.drew = v0 at *
      refine wpAnyH_take (i := 0) (v := .pointer (some ⟨w.heap.size, 0, none⟩)) rfl (by kernel_rfl) (by kernel_rfl) (by kernel_rfl) (fun _ _ _ h => h) (Or.inl ⟨by rfl, fun z hz => ?_⟩) hS0 ?_
      · obtain ⟨z1, z2, z3⟩ := hz
        go_simp
      try simp only [qA, qB, Act.put, qD, qE, qF]
      refine wpAnyH_take (i := 1) (v := .slice ad l.length cap) rfl (by kernel_rfl) (by kernel_rfl) (by kernel_rfl) (fun _ _ _ h => h) (Or.inl ⟨by rfl, fun z hz => ?_⟩) hS0 ?_
      · obtain ⟨z1, z2, z3⟩ := hz
        go_simp
      try simp only [qA, qB, qC, Act.put, qD, qE, qF]
      refine wpAnyH_take (i := 2) (v := .pointer (some ⟨C, 0, none⟩)) rfl (by kernel_rfl) (by kernel_rfl) (by kernel_rfl) (fun _ _ _ h => h) (Or.inl ⟨by rfl, fun z hz => ?_⟩) hS0 ?_
      · obtain ⟨z1, z2, z3⟩ := hz
        go_simp
      try simp only [qA, qB, qC, Act.put, qD, qE, qF]
      refine wpAnyH_take (i := 3) (v := .pointer (some ⟨w.heap.size, 0, none⟩)) rfl (by kernel_rfl) (by kernel_rfl) (by kernel_rfl) (fun _ _ _ h => h) (Or.inl ⟨by rfl, fun z hz => ?_⟩) hS0 ?_
      · obtain ⟨z1, z2, z3⟩ := hz
        go_simp
      try simp only [qA, qB, qC, Act.put, qD, qE, qF]
      refine wpAnyH_take (i := 4) (v := .slice ad l.length cap) rfl (by kernel_rfl) (by kernel_rfl) (by kernel_rfl) (fun _ _ _ h => h) (Or.inl ⟨by rfl, fun z hz => ?_⟩) hS0 ?_
      · obtain ⟨z1, z2, z3⟩ := hz
        go_simp
      try simp only [qA, qB, qC, Act.put, qD, qE, qF]
      refine wpAnyH_take (i := 5) (v := .int .i64 (l.length : Int)) rfl (by kernel_rfl) (by kernel_rfl) (by kernel_rfl) (fun _ _ _ h => h) (Or.inl ⟨by rfl, fun z hz => ?_⟩) hS0 ?_
      · obtain ⟨z1, z2, z3⟩ := hz
        go_simp
      try simp only [qA, qB, qC, Act.put, qD, qE, qF]
      refine wpAnyH_ready (rs := [6]) (by kernel_rfl) (by simp) ?_
      refine AllReadyH.cons rfl (fun K hK => ?_) AllReadyH.nil
      go_simp
      refine (cur_pick B C (N + 2) l.length _ (by omega) (by omega) HC2.out.1).mono ?_
      rintro e v1 ⟨i, hi', rfl, hc⟩
      have hil : i < l.length := by omega
      have HC3 := Lib.hid (HC2.out.trans hc); have HR3 := Lib.hid (HR2.out.chg hc.2 (fun b h1 h2 e => by omega))
      refine hK.out _ _ (hS0.stand hc.2 (by omega)) (fun hS1 => ?_)
      clear hK K hc hi' HC2 HR2
      obtain ⟨g, o, rfl, hg, x, c0, c1, hx⟩ := HR3.out.now.at i hil
      have HX := Lib.hid hx
      obtain ⟨xd, xc, rfl, _, _⟩ := hx
      have hol := HDR.out.outs _ (List.getElem_mem hil)
      have i1 : (i : Int) < (l.length : Int) := by omega
      generalize l[i] = en at *
      obtain ⟨eo, et⟩ := en
      simp only at HX c0 hol
      try simp only [qA, qB, qC, Act.put, qD, qE, qF]
      refine wpAnyH_take (i := 7) (v := .pointer (some ⟨g, o + i * 2, none⟩)) rfl (by kernel_rfl) (by kernel_rfl) (by kernel_rfl) (fun _ _ _ h => h) (Or.inl ⟨by rfl, fun z hz => ?_⟩) hS1 ?_
      · obtain ⟨z1, z2, z3⟩ := hz
        go_simp
      try simp only [qA, qB, qC, Act.put, qD, qE, qF]
      refine wpAnyH_take (i := 8) (v := .pointer (some ⟨g, o + i * 2, none⟩)) rfl (by kernel_rfl) (by kernel_rfl) (by kernel_rfl) (fun _ _ _ h => h) (Or.inl ⟨by rfl, fun z hz => ?_⟩) hS1 ?_
      · obtain ⟨z1, z2, z3⟩ := hz
        go_simp
      try simp only [qA, qB, qC, Act.put, qD, qE, qF]
      refine wpAnyH_ready (rs := [9]) (by kernel_rfl) (by simp) ?_
      refine AllReadyH.cons rfl (fun K hK => ?_) AllReadyH.nil
      go_simp
      refine hK.out _ _ hS1 (fun hS2 => ?_)
      clear hK K
      try simp only [qA, qB, qC, Act.put, qD, qE, qF]
      refine wpAnyH_ready (rs := [10]) (by kernel_rfl) (by simp) ?_
      refine AllReadyH.cons rfl (fun K hK => ?_) AllReadyH.nil
      go_simp
      refine (l1Own _ eo _ HX.out (by omega)).mono ?_
      rintro e v2 ⟨y, rfl, hI, hb⟩
      have HC4 := Lib.hid (HC3.out.below hb)
      have HI := Lib.hid (show Ints v2 (Bet w.heap.size v2.heap.size) y eo from hI.wide (fun b hb' => ⟨by have h1 := hb'.1; have h2 := HC3.out.2.size; omega, hb'.2⟩) (fun b hb' => hb'.2))
      refine hK.out _ _ (hS2.below hb) (fun hS3 => ?_)
      clear hK K hb hI
      obtain ⟨yd, yc, rfl, _, _⟩ := id HI.out
      try simp only [qA, qB, qC, Act.put, qD, qE, qF]
      refine wpAnyH_take (i := 11) (v := .slice yd eo.length yc) rfl (by kernel_rfl) (by kernel_rfl) (by kernel_rfl) (fun _ _ _ h => h) (Or.inl ⟨by rfl, fun z hz => ?_⟩) hS3 ?_
      · obtain ⟨z1, z2, z3⟩ := hz
        go_simp
      try simp only [qA, qB, qC, Act.put, qD, qE, qF]
      refine wpAnyH_done (by kernel_rfl) ?_ _
      clear hS0 hS1 hS2 hS3
      go_wp2
      go_ret
      exact ⟨eo, _, rfl, hol, HI.out, HC4.out.mono (by omega)⟩
    · go_wp2_with fail
      refine (cur_anyOutline B C (N + 2) _ (by omega) HC1.out.1).mono ?_
      rintro e w2 ⟨o, y, rfl, ho, hown, hc⟩
      have HC2 := Lib.hid (HC1.out.trans hc)
      have HI := Lib.hid (show Ints w2 (Bet w.heap.size w2.heap.size) y o from (ints_of_owns hown (by omega)).wide (fun b hb => ⟨by have := hb.1; omega, hb.2⟩) (fun b hb => hb.2))
      clear hc hown
      go_wp2
      go_ret
      exact ⟨o, _, rfl, ho, HI.out, HC2.out.mono (by omega)⟩
  · obtain ⟨b0, _⟩ := HD.out
    have hpi : ¬ (0 : Int) < (l.length : Int) := by omega
    go_wp2_with fail
    refine (cur_anyOutline B C N _ (by omega) HC.out.1).mono ?_
    rintro e w2 ⟨o, y, rfl, ho, hown, hc⟩
    have HC2 := Lib.hid (HC.out.trans hc)
    have HI := Lib.hid (show Ints w2 (Bet w.heap.size w2.heap.size) y o from (ints_of_owns hown (by omega)).wide (fun b hb => ⟨by have := hb.1; simp at this; omega, hb.2⟩) (fun b hb => hb.2))
    clear hc hown
    go_wp2
    go_ret
    exact ⟨o, _, rfl, ho, HI.out, HC2.out.mono (by omega)⟩
end Go.Proofs.YtmlklnimoknojaaGreatDoor
namespace Go.Proofs.YtmlklnimoknojaaGreatDoor
namespace P
abbrev Nd := List Int × List Int × Bool × Bs
abbrev Tri := List Nd
def strokeAt (d : Nat) (e : Ent) : Int := e.1.getD d 0
def groups (d : Nat) : Nat → Dic → List Dic
  | 0, _ => []
  | _ + 1, [] => []
  | n + 1, e :: l => (e :: l.takeWhile fun x => strokeAt d x == strokeAt d e) :: groups d n (l.dropWhile fun x => strokeAt d x == strokeAt d e)
def headStroke (d : Nat) : Dic → Int
  | [] => 0
  | e :: _ => strokeAt d e
def kids (B : Nat → Dic → Tri) (d : Nat) : Nat → List Dic → List Int × List Int × Tri
  | _, [] => ([], [], [])
  | next, g :: gs => (headStroke d g :: (kids B d (next + (B next g).length) gs).1, (next : Int) :: (kids B d (next + (B next g).length) gs).2.1, B next g ++ (kids B d (next + (B next g).length) gs).2.2)
def rest (d : Nat) : Dic → Dic
  | [] => []
  | e :: l => if e.1.length = d then l else e :: l
def ownText (d : Nat) : Dic → Bool × Bs
  | [] => (false, [])
  | e :: _ => if e.1.length = d then (true, e.2) else (false, [])
def build : Nat → Nat → Nat → Dic → Tri
  | 0, _, _, _ => []
  | f + 1, d, base, es =>
    ((kids (fun b g => build f (d + 1) b g) d (base + 1) (groups d es.length (rest d es))).1, (kids (fun b g => build f (d + 1) b g) d (base + 1) (groups d es.length (rest d es))).2.1, ownText d es) ::
      (kids (fun b g => build f (d + 1) b g) d (base + 1) (groups d es.length (rest d es))).2.2
def trie (l : Dic) : Tri := build 7 0 0 l
theorem dic_parts {l : Dic} (h : dic l = true) : l.length ≤ 40 ∧ (∀ e ∈ l, entry e = true) ∧ l.Pairwise lt := by
  unfold dic at h
  rw [Bool.and_eq_true, Bool.and_eq_true, decide_eq_true_eq, List.all_eq_true, rising_pair] at h
  exact h
theorem entry_parts {e : Ent} (h : entry e = true) : 1 ≤ e.1.length ∧ e.1.length ≤ 6 ∧ ∀ s ∈ e.1, stroke s = true := by
  unfold entry outline at h
  rw [Bool.and_eq_true, Bool.and_eq_true, decide_eq_true_eq, List.all_eq_true] at h
  exact ⟨by omega, by omega, h.1.2⟩
def nd0 : Nd := ([], [], false, [])
def readK (R : Int → List Int → Nat → Option (Nat × Dic)) (o : List Int) : List (Int × Int) → Nat → Option (Nat × Dic)
  | [], nx => some (nx, [])
  | (s, c) :: l, nx => match R c (o ++ [s]) nx with
    | none => none
    | some (n1, e1) => match readK R o l n1 with
      | none => none
      | some (n2, e2) => some (n2, e1 ++ e2)
def own (o : List Int) (n : Nd) : Dic := if n.2.2.1 then [(o, n.2.2.2)] else []
def read (t : Tri) : Nat → Int → List Int → Nat → Option (Nat × Dic)
  | 0, _, _, _ => none
  | f + 1, k, o, nx =>
    if k = (nx : Int) ∧ nx < t.length then
      if (t.getD nx nd0).1.length = (t.getD nx nd0).2.1.length then
        (readK (read t f) o ((t.getD nx nd0).1.zip (t.getD nx nd0).2.1) (nx + 1)).map fun r => (r.1, own o (t.getD nx nd0) ++ r.2)
      else none
    else none
def upto (ch : Nat → List Int) : Nat → List Int
  | 0 => []
  | k + 1 => upto ch k ++ ch k
end P
end Go.Proofs.YtmlklnimoknojaaGreatDoor
namespace Go.Proofs.YtmlklnimoknojaaGreatDoor
section
section
open Go Go.RowKit
set_option maxHeartbeats 1000000
set_option maxRecDepth 100000
variable {α : Type} {E : ElT α} {wd : Nat}
variable {e : TypeId} {B : Nat} {v v' : World} {u : Value} {G : Nat → Blk} {C : Nat → List Value} {l : List α}
end
end
section
section
open Go Go.RowKit
set_option maxHeartbeats 1000000
set_option maxRecDepth 100000
theorem chg_grown {w v : World} {row : Option Nat} (h : w.grownBy v row) : Chg (fun b => row = some b) w v := ⟨h.os, h.tape, h.output, h.size, fun b hb hx => h.block b hb (fun e => hx e.symm)⟩
variable {w : World} {R N : Nat} {u : Value} {G : Nat → Blk} {l0 : P.Tri} {t : Bool} {x : Str} {v v' : World} {ur : Value} {Gr : Nat → Blk} {Cr : Nat → List Value} {lr : P.Tri} {su cu : Value} {s c : List Int}
end
end
section
section
open Go Go.RowKit
set_option maxHeartbeats 1000000
set_option maxRecDepth 100000
theorem own_form {v : World} {B : Nat} {e : TypeId} {z : Nat} {u : Value} {n : Nat} {xs : List Value} (h : v.ownsRow B e z u n xs) : ∃ ad cap, u = .slice ad n cap := by
  rcases h.2 with ⟨rfl, h0⟩ | ⟨g, cap, cur, hv, _⟩
  · exact ⟨none, 0, by rw [h0]⟩
  · exact ⟨_, cap, hv⟩
end
section
namespace P
def behind (d : Nat) : Dic → Dic
  | [] => []
  | e :: l => l.dropWhile fun x => strokeAt d x == strokeAt d e
end P
end
end
end Go.Proofs.YtmlklnimoknojaaGreatDoor
namespace Go.Proofs.YtmlklnimoknojaaGreatDoor
section
section
open Go Go.RowKit
set_option maxHeartbeats 1000000
set_option maxRecDepth 100000
def OwnPost (l : List Int) (w : World) (e : Ending) (w' : World) : Prop := ∃ u, e = .returned u ∧ w'.ownsRow w.heap.size 3 1 u l.length (ints l) ∧ Below w.heap.size w w'
theorem copyOf_own (u : Value) (l : List Int) (w : World) (hu : IntR w u l) (hl : l.length ≤ 2 ^ 30) :
    Calls Tryz.prog 68 #[u] w (OwnPost l w) := by
  obtain ⟨i0, hi, hz0, hz1, hz2⟩ := info_parts info_int
  have hb0 := (Below.refl w.heap.size w).alloc (Nat.le_refl _) (.cells #[] 3)
  have HSRC := Lib.hid (src_of_ints (hu.below hb0))
  have HB := Lib.hid hb0; clear hb0
  have HOWN := Lib.hid (World.ownsRow_lit (base := w.heap.size) (e := 3) (size := 1) w #[] 0 (Nat.le_refl _) (Nat.zero_le _) (by simp))
  obtain ⟨ad, cap, rfl, _, _⟩ := hu
  go_enter Tryz.func68, Tryz.ntmps68
  go_wp2_with (at_builtin; refine wpList_append_src rfl _ _ 27 rfl w.heap.size 3 i0 (.int .i64 0) 1 8 Tryz.underlying27 hi hz0 hz1 hz2 rfl (by decide) _ 0 [] rfl HOWN.out _ l.length (ints l) rfl HSRC.out ?_ ?_ (by simp) ?_)
  · unfold maxLen; omega
  · omega
  intro v' w' hown hgr _
  have HOW := Lib.hid hown
  have HBB := Lib.hid (HB.out.grown hgr (by simp) (fun k hk => by simp [Value.ownBlock] at hk; omega))
  clear hown hgr
  go_wp2
  go_ret
  refine ⟨_, rfl, ?_, HBB.out⟩
  exact HOW.out
theorem IntR.chg {v v' : World} {u : Value} {l : List Int} {X : Blk} (h : IntR v u l) (hc : Chg X v v') (hX : ∀ b, u.ownBlock = some b → ¬ X b) : IntR v' u l := by
  obtain ⟨ad, cap, h1, h2, hn, h3⟩ := h
  refine ⟨ad, cap, h1, h2, hn, h3.imp id ?_⟩
  rintro ⟨g, o, h4, h5, h6⟩
  exact ⟨g, o, h4, Nat.lt_of_lt_of_le h5 hc.size, fun j hj => (hc.cell (p := ⟨g, _, none⟩) h5 (hX g (by rw [h1, h4]; rfl))).trans (h6 j hj)⟩
variable {w : World} {R N : Nat} {tv u x y : Value} {tt : Bool} {ss : Str} {n1 : Nat} {u1 : Value} {es1 : P.Dic} {xs1 : List Value} {v v' : World}
end
section
namespace P
end P
end
end
section
open Go Go.RowKit
set_option maxHeartbeats 8000000
set_option maxRecDepth 100000
theorem own_base {v : World} {B B' : Nat} {e : TypeId} {z : Nat} {u : Value} {n : Nat} {xs : List Value} (h : v.ownsRow B e z u n xs) (hB : B' ≤ B) : v.ownsRow B' e z u n xs :=
  ⟨h.1, h.2.imp id fun ⟨g, cap, cur, hv, hg, r⟩ => ⟨g, cap, cur, hv, Nat.le_trans hB hg, r⟩⟩
end
end Go.Proofs.YtmlklnimoknojaaGreatDoor
namespace Go.Proofs.YtmlklnimoknojaaGreatDoor
section
section
namespace P
end P
end
open Go Go.RowKit
set_option maxHeartbeats 8000000
set_option maxRecDepth 100000
end
section
section
open Go Go.RowKit
variable {P : Program} {w : World}
theorem step_append_src {ops : Array Oper} {o : Oper} {a : Act} {K : Act → World → Prop} {Q : Exit → Act → World → Prop} {E : Prop} (hgd : o.guard = none) (s x : Operand) (t : TypeId)
    (ho : o.op = .call { callee := .builtin .append, args := #[s, x], argTypes := #[t, t] })
    (base : Nat) (e : TypeId) (i : TypeInfo) (z : Value) (size bytes : Nat) (ht : P.underlying t = some (.slice e)) (hi : P.info? e = some i) (hz : i.zero = some z)
    (hsize : i.size = size) (hby : i.bytes = bytes) (hzs : z.cells.size = size) (hsz : 0 < size)
    (v : Value) (n : Nat) (xs : List Value) (hs : a.eval s = v) (hown : w.ownsRow base e size v n xs)
    (u : Value) (m : Nat) (news : List Value) (hx : a.eval x = u) (hsrc : SrcIs w size u m news)
    (h63 : n + m ≤ maxLen) (hbytes : (n + m) * bytes ≤ 140737488355328) (hbase : base ≤ w.heap.size)
    (h : ∀ v' w', w'.ownsRow base e size v' (n + m) (xs ++ news) → w.grownBy w' v.ownBlock → K (a.put o.dst v') w') :
    if Region.wanted o (yielded ops a.tmps) = true then Oper.wp P o a w K Q else E := by
  have hw : Region.wanted o (yielded ops a.tmps) = true := by simp [Region.wanted, hgd]
  rw [if_pos hw]
  obtain ⟨v', w', hr, h2, h3, _⟩ := run_append_src (P := P) w base t o.type e i z size bytes ht hi hz hsize hby hzs hsz v n xs hown u m news hsrc h63 hbytes hbase
  unfold Oper.wp execOp
  simp only [ho, resolve, invoke, builtin, Sem.run_bind, Sem.run_pure, Result.andThen_ok, List.map_toArray, List.map_cons, List.map_nil, hs, hx, hr]
  exact h v' w' h2 h3
end
section
namespace P
end P
open Go Go.RowKit
set_option maxHeartbeats 8000000
set_option maxRecDepth 100000
variable {w : World} {D : Nat} {tv u x y : Value} {tt : Bool} {ss : Str} {u1 : Value} {es1 : P.Dic} {xs1 : List Value} {v v' : World}
end
end
end Go.Proofs.YtmlklnimoknojaaGreatDoor
