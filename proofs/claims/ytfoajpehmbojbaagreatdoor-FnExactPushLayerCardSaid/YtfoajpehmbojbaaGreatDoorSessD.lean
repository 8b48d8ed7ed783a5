/- Walks: the law's own functions on sessions. Walks: a new session (reference, program). -/
import Derived.Test.YtfoajpehmbojbaaGreatDoorMemD
import Derived.Test.YtfoajpehmbojbaaGreatDoorMemF
import Derived.Test.YtfoajpehmbojbaaGreatDoorOutD
import Derived.Test.YtfoajpehmbojbaaGreatDoorValD
namespace Go.Proofs.YtfoajpehmbojbaaGreatDoor
section
open Go Go.RowKit
set_option maxHeartbeats 2000000
set_option maxRecDepth 100000
abbrev transV (u : Value) (sc : Str) : Value := .agg #[u, .string (S sc)]
abbrev logV (d p : Str) (n : Int) : Value := .agg #[.string (S d), .string (S p), .int .i64 n]
abbrev sessV (u us : Value) (sc d p : Str) (n : Int) : Value := .agg #[u, us, .string (S sc), .string (S d), .string (S p), .int .i64 n]
theorem eqTranslator (u v : Value) (l : List Int) (t : Str) (w : World) (hu : IntR w u l) (hv : IntR w v l) :
    Calls Tryz.prog 45 #[transV u t, transV v t] w fun e w' => e = .returned (.bool true) ∧ Below w.heap.size w w' := by
  have hb0 : Below w.heap.size w ((w.alloc (.cells #[u, .string (S t)] 40)).alloc (.cells #[v, .string (S t)] 40)) :=
    ((Below.refl w.heap.size w).alloc (Nat.le_refl _) _).alloc (by simp) _
  have HU := Lib.hid (hu.below hb0); have HV := Lib.hid (hv.below hb0)
  have HB0 := Lib.hid hb0; clear hb0
  obtain ⟨ad, cap, rfl, hla, _⟩ := hu
  obtain ⟨bd, dap, rfl, _, _⟩ := hv
  go_enter Tryz.func45, Tryz.ntmps45
  go_wp2_with fail
  refine (eqIntS _ _ l _ HU.out HV.out).mono ?_
  rintro e w1 ⟨rfl, hb⟩
  have hz : w.heap.size + 1 < w1.heap.size := by have := hb.size; simp at this; omega
  obtain ⟨hcc, hff⟩ := bcell hb
  have r1 : w1.cell? ⟨w.heap.size, 1, none⟩ = some (.string (S t)) := by rw [hcc _ _ (by simp; omega)]; go_simp
  have q1 : w1.cell? ⟨w.heap.size + 1, 1, none⟩ = some (.string (S t)) := by rw [hcc _ _ (by simp)]; go_simp
  have HB1 := Lib.hid (HB0.out.trans (hb.mono (by simp; omega)))
  clear hb hcc hff HU HV HB0
  go_wp2
  first | go_quiet (fail) | skip
  go_wp2
  go_ret
  exact ⟨rfl, by first | exact HB1.out | exact below_drewN HB1.out _⟩
theorem eqLog (d p : Str) (n : Int) (w : World) :
    Calls Tryz.prog 46 #[logV d p n, logV d p n] w fun e w' => e = .returned (.bool true) ∧ Below w.heap.size w w' := by
  have HB0 := Lib.hid (show Below w.heap.size w ((w.alloc (.cells #[.string (S d), .string (S p), .int .i64 n] 42)).alloc (.cells #[.string (S d), .string (S p), .int .i64 n] 42)) from
    ((Below.refl w.heap.size w).alloc (Nat.le_refl _) _).alloc (by simp) _)
  go_enter Tryz.func46, Tryz.ntmps46
  go_wp2
  go_ret
  exact ⟨rfl, HB0.out⟩
theorem markTranslator (u : Value) (l : List Int) (t : Str) (k : Int) (F : Blk) (w : World) (hu : Ints w F u l) (hk0 : 0 ≤ k) (hk : k ≤ 2 ^ 40) :
    Calls Tryz.prog 47 #[transV u t, .int .i64 k] w fun e w' => e = .returned (.int .i64 (k + l.length)) ∧ Ints w' F u (P.marks k l.length) ∧ Chg F w w' := by
  have HU := Lib.hid (hu.below intE_ok ((Below.refl w.heap.size w).alloc (Nat.le_refl _) (.cells #[u, .string (S t)] 40)))
  have HC := Lib.hid ((Chg.refl F w).alloc (.cells #[u, .string (S t)] 40))
  obtain ⟨ad, cap, rfl, _, _⟩ := hu
  go_enter Tryz.func47, Tryz.ntmps47
  go_wp2_with fail
  refine (markIntS _ l k F _ HU.out hk0 hk).mono ?_
  rintro e w1 ⟨rfl, hI, hc, _⟩
  have HI := Lib.hid hI; have HC1 := Lib.hid (HC.out.trans hc)
  clear hI hc
  go_wp2
  go_ret
  exact ⟨rfl, HI.out, HC1.out⟩
theorem heldTranslator (u : Value) (n : Nat) (t : Str) (k : Int) (w : World) (hu : IntR w u (P.marks k n)) (hk0 : 0 ≤ k) (hk : k ≤ 2 ^ 40) (hn : n ≤ 2 ^ 40) :
    Calls Tryz.prog 48 #[transV u t, .int .i64 k] w fun e w' => e = .returned (.int .i64 (k + n)) ∧ Below w.heap.size w w' := by
  have hb0 := (Below.refl w.heap.size w).alloc (Nat.le_refl _) (.cells #[u, .string (S t)] 40)
  have HU := Lib.hid (hu.below hb0); have HB0 := Lib.hid hb0; clear hb0
  obtain ⟨ad, cap, rfl, _, _⟩ := hu
  go_enter Tryz.func48, Tryz.ntmps48
  go_wp2_with fail
  refine (heldIntS _ n k _ HU.out hk0 hk hn).mono ?_
  rintro e w1 ⟨rfl, rfl⟩
  have hn1 : ¬ k + (n : Int) < 0 := by omega
  go_wp2
  go_ret
  exact ⟨rfl, HB0.out⟩
/-- the cells of a session in its box -/
def SBox (b : Nat) (u us : Value) (sc d p : Str) (n : Int) (v : World) : Prop :=
  v.cell? ⟨b, 0, none⟩ = some u ∧ v.cell? ⟨b, 1, none⟩ = some us ∧ v.cell? ⟨b, 2, none⟩ = some (.string (S sc)) ∧ v.cell? ⟨b, 3, none⟩ = some (.string (S d)) ∧ v.cell? ⟨b, 4, none⟩ = some (.string (S p)) ∧ v.cell? ⟨b, 5, none⟩ = some (.int .i64 n) ∧ b < v.heap.size
theorem SBox.stand {b : Nat} {u us : Value} {sc d p : Str} {n : Int} {v v' : World} {X : Blk} (h : SBox b u us sc d p n v) (hc : Chg X v v') (hX : ¬ X b) : SBox b u us sc d p n v' := by
  obtain ⟨h0, h1, h2, h3, h4, h5, h6⟩ := h
  exact ⟨(hc.cell (p := ⟨b, 0, none⟩) h6 hX).trans h0, (hc.cell (p := ⟨b, 1, none⟩) h6 hX).trans h1, (hc.cell (p := ⟨b, 2, none⟩) h6 hX).trans h2, (hc.cell (p := ⟨b, 3, none⟩) h6 hX).trans h3, (hc.cell (p := ⟨b, 4, none⟩) h6 hX).trans h4, (hc.cell (p := ⟨b, 5, none⟩) h6 hX).trans h5, Nat.lt_of_lt_of_le h6 hc.size⟩
theorem SBox.below {b : Nat} {u us : Value} {sc d p : Str} {n : Int} {v v' : World} (h : SBox b u us sc d p n v) (hb : Below v.heap.size v v') : SBox b u us sc d p n v' :=
  h.stand (Below.chg hb fun _ => False) fun h => h
abbrev sessCells (u us : Value) (sc d p : Str) (n : Int) : Obj := .cells #[u, us, .string (S sc), .string (S d), .string (S p), .int .i64 n] 44
theorem SBox.new (u us : Value) (sc d p : Str) (n : Int) (v : World) : SBox v.heap.size u us sc d p n (v.alloc (sessCells u us sc d p n)) := by
  refine ⟨?_, ?_, ?_, ?_, ?_, ?_, by simp⟩ <;> go_simp
theorem eqSession (u v us vs : Value) (l : P.Dic) (ks : List Int) (sc d p : Str) (n : Int) (w : World) (hu : EntR w u l) (hv : EntR w v l) (hus : IntR w us ks) (hvs : IntR w vs ks) :
    Calls Tryz.prog 19 #[sessV u us sc d p n, sessV v vs sc d p n] w fun e w' => e = .returned (.bool true) ∧ Below w.heap.size w w' := by
  have hb1 : Below w.heap.size w (w.alloc (sessCells u us sc d p n)) := (Below.refl w.heap.size w).alloc (Nat.le_refl _) _
  have hb0 : Below w.heap.size w ((w.alloc (sessCells u us sc d p n)).alloc (sessCells v vs sc d p n)) := hb1.alloc (by simp) _
  have B1 := Lib.hid ((SBox.new u us sc d p n w).below ((Below.refl _ _).alloc (Nat.le_refl _) (sessCells v vs sc d p n)))
  have B2 := Lib.hid (show SBox (w.heap.size + 1) v vs sc d p n ((w.alloc (sessCells u us sc d p n)).alloc (sessCells v vs sc d p n)) by have := SBox.new v vs sc d p n (w.alloc (sessCells u us sc d p n)); simpa using this)
  have HU := Lib.hid (hu.below hb0); have HV := Lib.hid (hv.below hb0); have HUS := Lib.hid (hus.below hb0); have HVS := Lib.hid (hvs.below hb0)
  have HB0 := Lib.hid hb0; clear hb0 hb1
  obtain ⟨ad, cap, rfl, _, _⟩ := hu
  obtain ⟨bd, dap, rfl, _, _⟩ := hv
  obtain ⟨sd, sap, rfl, _, _⟩ := hus
  obtain ⟨td, tap, rfl, _, _⟩ := hvs
  go_enter Tryz.func19, Tryz.ntmps19
  go_wp2_with fail
  refine (eqDictionary _ _ l _ HU.out HV.out).mono ?_
  rintro e w1 ⟨rfl, hb⟩
  have B11 := Lib.hid (B1.out.below hb); have B21 := Lib.hid (B2.out.below hb)
  have HUS1 := Lib.hid (HUS.out.below hb); have HVS1 := Lib.hid (HVS.out.below hb)
  have HB1 := Lib.hid (HB0.out.trans (hb.mono (by simp; omega)))
  clear hb HU HV HB0 B1 B2 HUS HVS
  obtain ⟨_, a1, a2, a3, a4, a5, a6⟩ := B11.out
  obtain ⟨_, b1, b2, b3, b4, b5, b6⟩ := B21.out
  go_wp2_with fail
  refine (eqTranslator _ _ ks sc _ HUS1.out HVS1.out).mono ?_
  rintro e w2 ⟨rfl, hb⟩
  have B12 := Lib.hid (B11.out.below hb); have B22 := Lib.hid (B21.out.below hb)
  have HB2 := Lib.hid (HB1.out.trans (hb.mono HB1.out.size))
  clear hb HB1 B11 B21 HUS1 HVS1 a1 a2 a3 a4 a5 b1 b2 b3 b4 b5
  obtain ⟨_, _, _, a3, a4, a5, _⟩ := B12.out
  obtain ⟨_, _, _, b3, b4, b5, _⟩ := B22.out
  go_wp2_with fail
  refine (eqLog d p n _).mono ?_
  rintro e w3 ⟨rfl, hb⟩
  have HB3 := Lib.hid (HB2.out.trans (hb.mono HB2.out.size))
  clear hb HB2
  go_wp2
  go_ret
  exact ⟨rfl, HB3.out⟩
theorem markSession (u us : Value) (l : P.Dic) (ks : List Int) (sc d p : Str) (n k : Int) (F G : Blk) (w : World) (hu : Ents w F u l) (hus : Ints w G us ks) (hF : ∀ b, F b → b < w.heap.size) (hG : ∀ b, G b → b < w.heap.size) (hFG : ∀ b, F b → G b → False) (hk0 : 0 ≤ k) (hk : P.kAt k l ≤ 2 ^ 40) :
    Calls Tryz.prog 20 #[sessV u us sc d p n, .int .i64 k] w fun e w' => e = .returned (.int .i64 (P.kAt k l + ks.length)) ∧ Ents w' F u (P.markE k l) ∧ Ints w' G us (P.marks (P.kAt k l) ks.length) ∧ Chg (fun b => F b ∨ G b) w w' := by
  have hb0 := (Below.refl w.heap.size w).alloc (Nat.le_refl _) (sessCells u us sc d p n)
  have HU := Lib.hid (hu.below entE_ok hb0); have HUS := Lib.hid (hus.below intE_ok hb0)
  have HC0 := Lib.hid (Below.chg hb0 fun b => F b ∨ G b)
  have HBX := Lib.hid (SBox.new u us sc d p n w)
  have HF := Lib.hid hF; have HG := Lib.hid hG; have HFG := Lib.hid hFG
  obtain ⟨ad, cap, rfl, _, _⟩ := hu
  obtain ⟨sd, sap, rfl, hks, _⟩ := hus
  clear hb0 hF hG hFG
  have hg := P.kAt_ge k l
  have HKG := Lib.hid (show 0 ≤ P.kAt k l by omega); clear hg
  go_enter Tryz.func20, Tryz.ntmps20
  go_wp2_with fail
  refine (markDictionary _ l k F _ HU.out hk0 hk).mono ?_
  rintro e w1 ⟨rfl, hI, hc⟩
  have HI := Lib.hid hI
  have HB1 := Lib.hid (HBX.out.stand hc fun h => Nat.lt_irrefl _ (HF.out _ h))
  have HUS1 := Lib.hid (HUS.out.stand intE_ok hc fun b h1 h2 => HFG.out b h2 h1)
  have HC1 := Lib.hid (HC0.out.trans (hc.mono (F' := fun b => F b ∨ G b) fun b _ h => .inl h))
  clear hI hc HC0 HBX HU HUS
  obtain ⟨_, a1, a2, _⟩ := HB1.out
  go_wp2_with fail
  refine (markTranslator _ ks sc (P.kAt k l) G _ HUS1.out HKG.out hk).mono ?_
  rintro e w2 ⟨rfl, hJ, hc⟩
  have HJ := Lib.hid hJ
  have HI2 := Lib.hid (HI.out.stand entE_ok hc fun b h1 h2 => HFG.out b h1 h2)
  have HC2 := Lib.hid (HC1.out.trans (hc.mono (F' := fun b => F b ∨ G b) fun b _ h => .inr h))
  clear hJ hc HC1 HI HB1 a1 a2 HUS1
  go_wp2
  go_ret
  exact ⟨rfl, HI2.out, HJ.out, HC2.out⟩
theorem heldSession (u us : Value) (l : P.Dic) (m : Nat) (sc d p : Str) (n k : Int) (w : World) (hu : EntR w u (P.markE k l)) (hus : IntR w us (P.marks (P.kAt k l) m)) (hm : m ≤ 2 ^ 40) (hk0 : 0 ≤ k) (hk : P.kAt k l ≤ 2 ^ 40) :
    Calls Tryz.prog 21 #[sessV u us sc d p n, .int .i64 k] w fun e w' => e = .returned (.int .i64 (P.kAt k l + m)) ∧ Below w.heap.size w w' := by
  have hb0 := (Below.refl w.heap.size w).alloc (Nat.le_refl _) (sessCells u us sc d p n)
  have HU := Lib.hid (hu.below hb0); have HUS := Lib.hid (hus.below hb0)
  have HB0 := Lib.hid hb0
  have HBX := Lib.hid (SBox.new u us sc d p n w)
  obtain ⟨ad, cap, rfl, _, _⟩ := hu
  obtain ⟨sd, sap, rfl, _, _⟩ := hus
  clear hb0
  have hg := P.kAt_ge k l
  have HKG := Lib.hid (show 0 ≤ P.kAt k l by omega); clear hg
  go_enter Tryz.func21, Tryz.ntmps21
  go_wp2_with fail
  refine (heldDictionary _ l k _ HU.out hk0 hk).mono ?_
  rintro e w1 ⟨rfl, hb⟩
  have HB1 := Lib.hid (HBX.out.below hb)
  have HUS1 := Lib.hid (HUS.out.below hb)
  have HBW := Lib.hid (HB0.out.trans (hb.mono (by simp)))
  clear hb HBX HU HUS HB0
  obtain ⟨_, a1, a2, _⟩ := HB1.out
  have h0 := HKG.out
  have hn0 : ¬ P.kAt k l < 0 := by omega
  go_wp2_with fail
  refine (heldTranslator _ m sc (P.kAt k l) _ HUS1.out HKG.out hk hm).mono ?_
  rintro e w2 ⟨rfl, hb⟩
  have HBW2 := Lib.hid (HBW.out.trans (hb.mono HBW.out.size))
  have hn1 : ¬ P.kAt k l + (m : Int) < 0 := by omega
  clear hb HB1 a1 a2 HUS1 HBW
  go_wp2
  go_ret
  exact ⟨rfl, HBW2.out⟩
end
section
open Go Go.RowKit
set_option maxHeartbeats 2000000
set_option maxRecDepth 100000
/-- what is handed back of a dictionary -/
def P.kept (ok : Bool) (l : P.Dic) : P.Dic := if ok then l else []
def SessPost (l : P.Dic) (w : World) (e : Ending) (w' : World) : Prop :=
  ∃ u, e = .returned (.tuple #[sessV u (.slice none 0 0) [] [] [] 0, .bool (P.dic l)]) ∧ Ents w' (Bet w.heap.size w'.heap.size) u (P.kept (P.dic l) l) ∧ Below w.heap.size w w'
/-- what is known of a dictionary that a law hands on -/
structure Small (l : P.Dic) : Prop where
  len : l.length ≤ 2 ^ 20
  outs : ∀ e ∈ l, e.1.length ≤ 2 ^ 20
  texts : ∀ e ∈ l, e.2.length ≤ 2 ^ 30
theorem P.up_of_dic {l : P.Dic} (h : P.dic l = true) : P.Up l := by
  unfold P.dic at h
  simp only [Bool.and_eq_true] at h
  exact P.up_of_rising h.2.2
/-- the boxes of NewSession -/
def NBox (W : Nat) (dv : Value) (v : World) : Prop :=
  v.cell? ⟨W, 0, none⟩ = some dv ∧ SBox (W + 1) (.slice none 0 0) (.slice none 0 0) [] [] [] 0 v ∧ (∀ o, v.frozen? ⟨W + 1, o, none⟩ = false)
theorem NBox.step {W : Nat} {dv : Value} {v v' : World} (h : NBox W dv v) (hb : Below v.heap.size v v') : NBox W dv v' := by
  obtain ⟨h1, h2, h3⟩ := h
  have hz := h2.2.2.2.2.2.2
  exact ⟨(hb.cell (p := ⟨W, 0, none⟩) (by show W < _; omega)).trans h1, h2.below hb, fun o => (hb.frozen (p := ⟨W + 1, o, none⟩) hz).trans (h3 o)⟩
theorem NBox.new (dv : Value) (v : World) (t : TypeId) : NBox v.heap.size dv ((v.alloc (.cells #[dv] t)).alloc (sessCells (.slice none 0 0) (.slice none 0 0) [] [] [] 0)) := by
  refine ⟨by go_simp, ?_, fun o => ?_⟩
  · have := SBox.new (.slice none 0 0) (.slice none 0 0) [] [] [] 0 (v.alloc (.cells #[dv] t))
    simpa using this
  · simp
theorem spec_newSession (dv : Value) (l : P.Dic) (w : World) (hu : EntR w dv l) (hs : Small l) :
    Calls Tryz.prog 17 #[.agg #[dv]] w (SessPost l w) := by
  have hb0 : Below w.heap.size w ((w.alloc (.cells #[dv] 29)).alloc (sessCells (.slice none 0 0) (.slice none 0 0) [] [] [] 0)) := ((Below.refl w.heap.size w).alloc (Nat.le_refl _) _).alloc (by simp) _
  have HU := Lib.hid (hu.below hb0)
  have HB0 := Lib.hid hb0; clear hb0
  have HN := Lib.hid (NBox.new dv w 29)
  have HSM := Lib.hid hs; clear hs
  obtain ⟨ad, cap, rfl, _, _⟩ := hu
  go_enter Tryz.func17, Tryz.ntmps17
  go_wp2_with fail
  refine (l6Good _ l _ HU.out HSM.out.texts).mono ?_
  rintro e w1 ⟨rfl, hb⟩
  have HU1 := Lib.hid (HU.out.below hb)
  have HN1 := Lib.hid (HN.out.step hb)
  have hz1 : w.heap.size + 2 ≤ w1.heap.size := by have := hb.size; simp at this; omega
  have HB1 := Lib.hid (HB0.out.trans (hb.mono (by simp; omega)))
  clear hb HU HB0 HN
  obtain ⟨a0, ⟨b0, b1, b2, b3, b4, b5, _⟩, f⟩ := HN1.out
  have f0 := f 0; have f1 := f 1; have f2 := f 2; have f3 := f 3; have f4 := f 4; have f5 := f 5
  clear f
  cases hd : P.dic l
  · have HD := Lib.hid hd; clear hd
    clear a0
    go_wp2
    refine bodyPost_ret (v := .tuple #[sessV (.slice none 0 0) (.slice none 0 0) [] [] [] 0, .bool false]) (by simp [results, Tryz.results17, go_sem, b0, b1, b2, b3, b4, b5]) rfl ⟨_, by rw [HD.out], ?_, ?_⟩
    · rw [HD.out]; exact RowO.nil _ _
    · exact (((((HB1.out.setCell (by simp) _).setCell (by simp) _).setCell (by simp) _).setCell (by simp) _).setCell (by simp) _).setCell (by simp) _
  · have HD := Lib.hid hd; clear hd
    clear b0 b1 b2 b3 b4 b5 f0 f1 f2 f3 f4 f5
    go_wp2_with fail
    refine (l6Own _ l _ HU1.out HSM.out.len HSM.out.outs).mono ?_
    rintro e w2 ⟨u, rfl, hI, hb⟩
    have HN2 := Lib.hid (HN1.out.step hb)
    have HI := Lib.hid hI
    have HB2 := Lib.hid (HB1.out.trans (hb.mono HB1.out.size))
    obtain ⟨ud, uc, rfl, _, _⟩ := hI
    clear hb HN1 HU1 HB1 a0
    obtain ⟨a0, ⟨b0, b1, b2, b3, b4, b5, _⟩, f⟩ := HN2.out
    have f0 := f 0; have f1 := f 1; have f2 := f 2; have f3 := f 3; have f4 := f 4; have f5 := f 5
    clear f a0
    go_wp2
    refine bodyPost_ret (v := .tuple #[sessV (.slice ud l.length uc) (.slice none 0 0) [] [] [] 0, .bool true]) (by simp [results, Tryz.results17, go_sem, b0, b1, b2, b3, b4, b5]) rfl ⟨_, by rw [HD.out], ?_, ?_⟩
    · rw [HD.out]
      show Ents _ _ _ l
      refine (HI.out.stand (X := fun b => b = w.heap.size + 1) entE_ok ((((((((Chg.refl _ w2).setCell ?_ _).setCell ?_ _).setCell ?_ _).setCell ?_ _).setCell ?_ _).setCell ?_ _)) ?_).wide ?_ ?_
      all_goals first | rfl | skip
      · intro b hb; have := hb.1; omega
      · intro b hb; have h1 := hb.1; have h2 := hb.2; exact ⟨by omega, by simp [World.setCell]; exact h2⟩
      · intro b hb; exact hb.2
    · exact (((((HB2.out.setCell (by simp) _).setCell (by simp) _).setCell (by simp) _).setCell (by simp) _).setCell (by simp) _).setCell (by simp) _
theorem impl_newSession (dv : Value) (l : P.Dic) (w : World) (hu : EntR w dv l) (hs : Small l) (hE : Env w) :
    Calls Tryz.prog 18 #[.agg #[dv]] w (SessPost l w) := by
  have hb0 : Below w.heap.size w ((w.alloc (.cells #[dv] 29)).alloc (sessCells (.slice none 0 0) (.slice none 0 0) [] [] [] 0)) := ((Below.refl w.heap.size w).alloc (Nat.le_refl _) _).alloc (by simp) _
  have HU := Lib.hid (hu.below hb0)
  have HB0 := Lib.hid hb0; clear hb0
  have HN := Lib.hid (NBox.new dv w 29)
  have HSM := Lib.hid hs; clear hs
  have HE := Lib.hid ((hE.alloc (.cells #[dv] 29)).alloc (sessCells (.slice none 0 0) (.slice none 0 0) [] [] [] 0)); clear hE
  obtain ⟨ad, cap, rfl, _, _⟩ := hu
  go_enter Tryz.func18, Tryz.ntmps18
  go_wp2_with fail
  refine (isValidDictionary _ l _ HU.out HSM.out.texts HE.out).mono ?_
  rintro e w1 ⟨rfl, hb⟩
  have HU1 := Lib.hid (HU.out.below hb)
  have HN1 := Lib.hid (HN.out.step hb)
  have hz1 : w.heap.size + 2 ≤ w1.heap.size := by have := hb.size; simp at this; omega
  have HB1 := Lib.hid (HB0.out.trans (hb.mono (by simp; omega)))
  clear hb HU HB0 HN
  obtain ⟨a0, ⟨b0, b1, b2, b3, b4, b5, _⟩, f⟩ := HN1.out
  have f0 := f 0; have f1 := f 1; have f2 := f 2; have f3 := f 3; have f4 := f 4; have f5 := f 5
  clear f
  cases hd : P.dic l
  · have HD := Lib.hid hd; clear hd
    clear a0
    go_wp2
    refine bodyPost_ret (v := .tuple #[sessV (.slice none 0 0) (.slice none 0 0) [] [] [] 0, .bool false]) (by simp [results, Tryz.results18, go_sem, b0, b1, b2, b3, b4, b5]) rfl ⟨_, by rw [HD.out], ?_, ?_⟩
    · rw [HD.out]; exact RowO.nil _ _
    · exact (((((HB1.out.setCell (by simp) _).setCell (by simp) _).setCell (by simp) _).setCell (by simp) _).setCell (by simp) _).setCell (by simp) _
  · have HUP := Lib.hid (P.up_of_dic hd)
    have HD := Lib.hid hd; clear hd
    clear b0 b1 b2 b3 b4 b5 f0 f1 f2 f3 f4 f5
    go_wp2_with fail
    refine (dictionaryOf_up _ l _ HU1.out HUP.out HSM.out.len HSM.out.outs).mono ?_
    rintro e w2 ⟨u, rfl, hI, hb⟩
    have HN2 := Lib.hid (HN1.out.step hb)
    have HI := Lib.hid hI
    have HB2 := Lib.hid (HB1.out.trans (hb.mono HB1.out.size))
    obtain ⟨ud, uc, rfl, _, _⟩ := hI
    clear hb HN1 HU1 HB1 a0
    obtain ⟨a0, ⟨b0, b1, b2, b3, b4, b5, _⟩, f⟩ := HN2.out
    have f0 := f 0; have f1 := f 1; have f2 := f 2; have f3 := f 3; have f4 := f 4; have f5 := f 5
    clear f a0
    go_wp2
    refine bodyPost_ret (v := .tuple #[sessV (.slice ud l.length uc) (.slice none 0 0) [] [] [] 0, .bool true]) (by simp [results, Tryz.results18, go_sem, b0, b1, b2, b3, b4, b5]) rfl ⟨_, by rw [HD.out], ?_, ?_⟩
    · rw [HD.out]
      show Ents _ _ _ l
      refine (HI.out.stand (X := fun b => b = w.heap.size + 1) entE_ok ((((((((Chg.refl _ w2).setCell ?_ _).setCell ?_ _).setCell ?_ _).setCell ?_ _).setCell ?_ _).setCell ?_ _)) ?_).wide ?_ ?_
      all_goals first | rfl | skip
      · intro b hb; have := hb.1; omega
      · intro b hb; have h1 := hb.1; have h2 := hb.2; exact ⟨by omega, by simp [World.setCell]; exact h2⟩
      · intro b hb; exact hb.2
    · exact (((((HB2.out.setCell (by simp) _).setCell (by simp) _).setCell (by simp) _).setCell (by simp) _).setCell (by simp) _).setCell (by simp) _
end
end Go.Proofs.YtfoajpehmbojbaaGreatDoor
