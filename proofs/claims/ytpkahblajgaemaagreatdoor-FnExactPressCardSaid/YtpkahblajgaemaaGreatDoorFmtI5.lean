/- Walks: the text of a list of atoms (program). -/
import Derived.Deep.DeepCutAuto
import Derived.Deep.RegionHeld
import Derived.Test.YtpkahblajgaemaaGreatDoorFmtI4
import Derived.Test.YtpkahblajgaemaaGreatDoorTransD
namespace Go.Proofs.YtpkahblajgaemaaGreatDoor
open Go Go.RowKit
set_option maxHeartbeats 4000000
set_option maxRecDepth 100000
theorem AtomAt.below {g : Nat} {l : List (Int × Str)} {v v' : World} (h : AtomAt g l v) (hg : g < v.heap.size) (hb : Below v.heap.size v v') : AtomAt g l v' :=
  fun j hj => ⟨(hb.cell (p := ⟨g, _, none⟩) hg).trans (h j hj).1, (hb.cell (p := ⟨g, _, none⟩) hg).trans (h j hj).2⟩
theorem AtomR.below {v v' : World} {u : Value} {l : List (Int × Str)} (h : AtomR v u l) (hb : Below v.heap.size v v') : AtomR v' u l := by
  obtain ⟨ad, cap, h1, h2⟩ := h
  refine ⟨ad, cap, h1, h2.imp id ?_⟩
  rintro ⟨g, h3, h4, h5⟩
  exact ⟨g, h3, Nat.lt_of_lt_of_le h4 hb.size, h5.below h4 hb⟩
/-- how a run over atoms stands -/
def SRunA (w : World) (s : P.St) (v : World) : Prop := StBox w.heap.size s v ∧ StBox (w.heap.size + 1) st0 v ∧ Below w.heap.size w v
theorem SRunA.below {w v v' : World} {s : P.St} (h : SRunA w s v) (hb : Below v.heap.size v v') : SRunA w s v' := ⟨h.1.below hb, h.2.1.below hb, h.2.2.trans (hb.mono h.2.2.size)⟩
theorem SRunA.state {w v : World} {s : P.St} (h : SRunA w s v) (tx : Str) (jn gl : Bool) (cp : Int) (wd : Nat) :
    SRunA w ⟨tx, jn, gl, cp, wd⟩ (((((v.setCell ⟨w.heap.size, 0, none⟩ (.string (S tx))).setCell ⟨w.heap.size, 1, none⟩ (.bool jn)).setCell ⟨w.heap.size, 2, none⟩ (.bool gl)).setCell ⟨w.heap.size, 3, none⟩ (.int .i64 cp)).setCell ⟨w.heap.size, 4, none⟩ (.int .i64 (wd : Int))) := by
  have hc : Chg (fun b => b = w.heap.size) v (((((v.setCell ⟨w.heap.size, 0, none⟩ (.string (S tx))).setCell ⟨w.heap.size, 1, none⟩ (.bool jn)).setCell ⟨w.heap.size, 2, none⟩ (.bool gl)).setCell ⟨w.heap.size, 3, none⟩ (.int .i64 cp)).setCell ⟨w.heap.size, 4, none⟩ (.int .i64 (wd : Int))) := (((((Chg.put (Chg.refl _ _) _).put _).put _).put _).put _)
  exact ⟨(((((h.1.text tx).joined jn).glued gl).cap cp).word wd), h.2.1.stand hc (by omega), h.2.2.trans (hc.below (Nat.le_of_lt h.1.2.2) (fun b e => by omega))⟩
def ApsPost (o : Option P.St) (w : World) (e : Ending) (w' : World) : Prop := e = .returned (.tuple #[stV (o.getD st0), .bool o.isSome]) ∧ Below w.heap.size w w'
theorem applyAtoms (s : P.St) (u : Value) (l : List (Int × Str)) (w : World) (hg : P.stGood s) (hl : s.text.length ≤ 2000) (hu : AtomR w u l) (h6 : l.length ≤ 600) (ht : ∀ x ∈ l, x.2.length ≤ 2 ^ 29) :
    Calls Tryz.prog 144 #[stV s, u] w (ApsPost (P.runA s l) w) := by
  have hb0 : Below w.heap.size w ((w.alloc (stCells s)).alloc (stCells st0)) := ((Below.refl w.heap.size w).alloc (Nat.le_refl _) _).alloc (by simp) _
  have HN := Lib.hid (show SRunA w s ((w.alloc (stCells s)).alloc (stCells st0)) from ⟨(StBox.new s w).below ((Below.refl _ _).alloc (Nat.le_refl _) (stCells st0)), by have h := StBox.new st0 (w.alloc (stCells s)); simpa using h, hb0⟩)
  have HU := Lib.hid hu; have HT := Lib.hid ht
  have HG := Lib.hid hg; have HL := Lib.hid hl
  have HSO := Lib.hid (P.stOk_iff.2 ⟨hg, hl⟩)
  obtain ⟨ad, cap, rfl, hr⟩ := hu
  have HR := Lib.hid hr
  obtain ⟨tx, jn, gl, cp, wd⟩ := s
  simp only at hl
  have i6 : ¬ (600 : Int) < (l.length : Int) := by omega
  clear hb0 hg ht hr
  go_enter Tryz.func144, Tryz.ntmps144
  go_wp2_with fail
  refine (isValidState ⟨tx, jn, gl, cp, wd⟩ _ (by simp only; omega)).mono ?_
  rintro e w1 ⟨rfl, hb⟩
  rw [HSO.out]
  have H1 := Lib.hid (HN.out.below hb)
  clear hb HN HSO hl
  go_wp2_with fail
  go_loopw [21] (fun i wr => ∃ (j : Nat) (s' : P.St), j ≤ l.length ∧ i = .int .i64 j ∧ P.stGood s' ∧ s'.text.length ≤ 2000 ∧ P.runA ⟨tx, jn, gl, cp, wd⟩ l = P.runA s' (l.drop j) ∧ SRunA w s' wr) (fun i _ => l.length - (intOf i).toNat)
  case atStart => exact ⟨0, _, Nat.zero_le _, rfl, HG.out, HL.out, rfl, H1.out⟩
  case round =>
    clear H1 HG HL
    obtain ⟨j, s', hj, rfl, hg, hl, hrun, hs⟩ := hrel
    have HG := Lib.hid hg; have HL := Lib.hid hl; have HRUN := Lib.hid hrun; have HS := Lib.hid hs
    clear hg hl hrun
    by_cases hlt : j < l.length
    · obtain ⟨g, hga, hgl, hat⟩ := HR.out.resolve_left (by intro e; rw [e] at hlt; simp at hlt)
      subst hga
      obtain ⟨c0', c1'⟩ := hat j hlt
      have c0 := (hs.2.2.cell (p := ⟨g, j * 2, none⟩) hgl).trans c0'
      have c1 := (hs.2.2.cell (p := ⟨g, j * 2 + 1, none⟩) hgl).trans c1'
      have hxt := HT.out _ (List.getElem_mem hlt)
      have HD := Lib.hid (List.drop_eq_getElem_cons hlt)
      have hgr : g < wr.heap.size := Nat.lt_of_lt_of_le hgl hs.2.2.size
      obtain ⟨⟨⟨a0, a1, a2, a3, a4⟩, ⟨f0, f1, f2, f3, f4⟩, hlb⟩, ⟨⟨b0, b1, b2, b3, b4⟩, ⟨g0, g1, g2, g3, g4⟩, hlr⟩, hbw⟩ := hs
      generalize l[j] = x at *
      obtain ⟨k, t⟩ := x
      obtain ⟨stx, sjn, sgl, scp, swd⟩ := s'
      simp only at a0 a1 a2 a3 a4 c0 c1 hxt
      have i1 : (j : Int) < (l.length : Int) := by omega
      clear hbw hat c0' c1'
      go_wp2_with fail
      refine (applyAtom ⟨stx, sjn, sgl, scp, swd⟩ k t _ HG.out HL.out hxt).mono ?_
      rintro e w2 ⟨rfl, hb⟩
      have hb2 : Below wr.heap.size wr w2 := ((Below.refl _ _).alloc (Nat.le_refl _) _).trans (hb.mono (by simp))
      have H2 := Lib.hid (HS.out.below hb2)
      clear hb hb2 a0 a1 a2 a3 a4 f0 f1 f2 f3 f4 hlb b0 b1 b2 b3 b4 g0 g1 g2 g3 g4 hlr c0 c1
      have HST := Lib.hid (P.runA_step (s := ⟨stx, sjn, sgl, scp, swd⟩) (a := (k, t)) (l := l.drop (j + 1)) HG.out HL.out)
      have HGO := Lib.hid (P.applyR_good (s := ⟨stx, sjn, sgl, scp, swd⟩) (k := k) (t := t) HG.out)
      simp only at HST
      obtain ⟨r, hr⟩ : ∃ r, P.applyR ⟨stx, sjn, sgl, scp, swd⟩ k t = r := ⟨_, rfl⟩
      rw [hr] at HST HGO
      rw [hr]
      clear hr HS
      obtain ⟨⟨rt, rj, rg, rc, rw⟩, q⟩ := r
      go_upto_region 7 with fail
      have H3 := Lib.hid (show SRunA w ⟨stx, sjn, sgl, scp, swd⟩ (w2.alloc (.cells #[.string (S rt), .bool rj, .bool rg, .int .i64 rc, .int .i64 (rw : Int)] 140)) from H2.out.below ((Below.refl _ _).alloc (Nat.le_refl _) _))
      have HNX := Lib.hid (show StBox w2.heap.size ⟨rt, rj, rg, rc, rw⟩ (w2.alloc (.cells #[.string (S rt), .bool rj, .bool rg, .int .i64 rc, .int .i64 (rw : Int)] 140)) from StBox.new ⟨rt, rj, rg, rc, rw⟩ w2)
      generalize (World.alloc _ _) = w3 at *
      obtain ⟨⟨⟨a0, a1, a2, a3, a4⟩, ⟨f0, f1, f2, f3, f4⟩, hlb⟩, ⟨⟨b0, b1, b2, b3, b4⟩, ⟨g0, g1, g2, g3, g4⟩, hlr⟩, _⟩ := H3.out
      simp only at a0 a1 a2 a3 a4 b0 b1 b2 b3 b4
      clear H2
      cases q
      · have HE := Lib.hid (show P.runA ⟨tx, jn, gl, cp, wd⟩ l = none by rw [HRUN.out, HD.out, HST.out]; rfl)
        go_wp2
        refine bodyPost_ret (v := .tuple #[stV st0, .bool false]) (by simp [results, Tryz.results144, go_sem, b0, b1, b2, b3, b4]) rfl ⟨by rw [HE.out]; rfl, ?_⟩
        repeat (refine Below.setCell ?_ (by first | (simp; done) | (simp; omega)) _)
        exact H3.out.2.2
      · obtain ⟨hgn, hln⟩ := HGO.out rfl
        have HGN := Lib.hid hgn; have HLN := Lib.hid hln
        have HE := Lib.hid (show P.runA ⟨tx, jn, gl, cp, wd⟩ l = P.runA ⟨rt, rj, rg, rc, rw⟩ (l.drop (j + 1)) by rw [HRUN.out, HD.out, HST.out]; rfl)
        have H4 := Lib.hid (H3.out.state rt rj rg rc rw)
        obtain ⟨⟨d0, d1, d2, d3, d4⟩, _, _⟩ := HNX.out
        simp only at d0 d1 d2 d3 d4
        clear hgn hln
        go_wp2
        go_roundw
        case rel => exact ⟨j + 1, ⟨rt, rj, rg, rc, rw⟩, by omega, by go_num, HGN.out, HLN.out, HE.out, H4.out⟩
        case measure => simp [intOf]; omega
    · have HE := Lib.hid (show P.runA ⟨tx, jn, gl, cp, wd⟩ l = some s' by rw [HRUN.out, List.drop_of_length_le (by omega)]; rfl)
      obtain ⟨stx, sjn, sgl, scp, swd⟩ := s'
      obtain ⟨⟨⟨a0, a1, a2, a3, a4⟩, ⟨f0, f1, f2, f3, f4⟩, hlb⟩, ⟨⟨b0, b1, b2, b3, b4⟩, ⟨g0, g1, g2, g3, g4⟩, hlr⟩, _⟩ := hs
      simp only at a0 a1 a2 a3 a4 b0 b1 b2 b3 b4
      have i1 : ¬ (j : Int) < (l.length : Int) := by omega
      go_wp2
      refine bodyPost_ret (v := .tuple #[stV ⟨stx, sjn, sgl, scp, swd⟩, .bool true]) (by simp [results, Tryz.results144, go_sem, b0, b1, b2, b3, b4]) rfl ⟨by rw [HE.out]; rfl, ?_⟩
      repeat (refine Below.setCell ?_ (by first | (simp; done) | (simp; omega)) _)
      exact HS.out.2.2
def RenPost (r : Str × Bool) (w : World) (e : Ending) (w' : World) : Prop := e = .returned (.tuple #[.string (S r.1), .bool r.2]) ∧ Below w.heap.size w w'
theorem impl_render (u : Value) (l : List (Int × Str)) (w : World) (hu : AtomR w u l) (h6 : l.length ≤ 600) (ht : ∀ x ∈ l, x.2.length ≤ 2 ^ 29) :
    Calls Tryz.prog 113 #[u] w (RenPost (P.render l) w) := by
  have HR := Lib.hid (show P.render l = (P.outText (P.runA P.init l), (P.runA P.init l).isSome) by unfold P.render; rw [if_neg (by omega)])
  have HU := Lib.hid hu
  obtain ⟨ad, cap, rfl, _⟩ := hu
  go_enter Tryz.func113, Tryz.ntmps113
  go_wp2_with fail
  refine (applyAtoms P.init _ l _ P.init_good (by decide) HU.out h6 ht).mono ?_
  rintro e w1 ⟨rfl, hb⟩
  have HB := Lib.hid hb
  clear hb
  generalize P.runA P.init l = o at *
  cases o with
  | none =>
    go_wp2
    go_ret2
    exact ⟨by rw [HR.out]; rfl, HB.out.alloc HB.out.size _⟩
  | some s =>
    obtain ⟨tx, jn, gl, cp, wd⟩ := s
    go_wp2
    go_ret2
    exact ⟨by rw [HR.out]; rfl, HB.out.alloc HB.out.size _⟩
end Go.Proofs.YtpkahblajgaemaaGreatDoor
