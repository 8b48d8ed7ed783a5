/- The law of Redefine: the program's answer is the reference's. -/
import Derived.Deep.DeepCutAuto
import Derived.Deep.RegionLaw
import Derived.Deep.RegionHeld
import Derived.Test.YtpkahblajgaemaaGreatDoorScrI9
import Derived.Test.YtpkahblajgaemaaGreatDoorScrS9
import Derived.Test.YtpkahblajgaemaaGreatDoorScrI8
namespace Go.Proofs.YtpkahblajgaemaaGreatDoor
open Go Go.RowKit
set_option maxHeartbeats 16000000
set_option maxRecDepth 100000
theorem sizeE_put (e : P.Ent) (l : P.Dic) : P.sizeE (P.putF e false l) ≤ P.sizeE l + e.1.length + e.2.length ∧ (P.putF e false l).length ≤ l.length + 1 := by
 refine ⟨?_, P.put_len e l⟩
 have key : ∀ (l : P.Dic) (p : Bool), P.sizeE (P.putF e p l) ≤ P.sizeE l + (if p then 0 else (e.1.length + e.2.length : Int)) := by
  intro l
  induction l with
  | nil => intro p; cases p <;> simp [P.putF, P.sizeE]
  | cons x l ih =>
   intro p
   have happ : ∀ a b : P.Dic, P.sizeE (a ++ b) = P.sizeE a + P.sizeE b := by
    intro a b
    induction a with
    | nil => simp [P.sizeE]
    | cons y a ih => simp only [List.cons_append, P.sizeE]; omega
   rw [P.putF, happ, happ]
   have h1 := ih (p || decide (0 ≤ P.cmp x.1 e.1))
   have h2 : P.sizeE (if decide (P.cmp x.1 e.1 = 0) = true then [] else [x]) ≤ x.1.length + x.2.length := by
    split <;> simp [P.sizeE] <;> omega
   by_cases h0 : 0 ≤ P.cmp x.1 e.1
   ·
    cases p
    ·
     simp only [h0, decide_true, Bool.or_true, Bool.not_false, Bool.and_self, if_true, P.sizeE] at h1 ⊢
     simp at *
     omega
    ·
     simp only [h0, decide_true, Bool.or_true, Bool.not_true, Bool.and_false, if_true, P.sizeE] at h1 ⊢
     simp [P.sizeE] at *
     omega
   ·
    cases p
    ·
     simp only [h0, decide_false, Bool.or_false, Bool.false_and, P.sizeE] at h1 ⊢
     simp [P.sizeE] at *
     omega
    ·
     simp only [h0, decide_false, Bool.or_false, Bool.false_and, P.sizeE] at h1 ⊢
     simp [P.sizeE] at *
     omega
 have := key l false
 simpa [Int.add_assoc] using this
def Bxs (z : Nat) (b0 b1 b2 : Option Nat) (v : World) : Prop :=
 (∀ b, b0 = some b → NBx b v ∧ z ≤ b) ∧ (∀ b, b1 = some b → TBx b (.slice none 0 0) [] v ∧ z ≤ b) ∧ (∀ b, b2 = some b → EBx b v ∧ z ≤ b) ∧ (∀ b c, b0 = some b → b1 = some c → b ≠ c) ∧ (∀ b c, b0 = some b → b2 = some c → b ≠ c) ∧ (∀ b c, b1 = some b → b2 = some c → b ≠ c)
def Outs3 (lo hi : Nat) (b0 b1 b2 : Option Nat) : Prop := (∀ b, b0 = some b → b < lo ∨ hi ≤ b) ∧ (∀ b, b1 = some b → b < lo ∨ hi ≤ b) ∧ (∀ b, b2 = some b → b < lo ∨ hi ≤ b)
theorem Bxs.start (z : Nat) (v : World) : Bxs z none none none v := ⟨fun _ h => (by cases h), fun _ h => (by cases h), fun _ h => (by cases h), fun _ _ h _ => (by cases h), fun _ _ h _ => (by cases h), fun _ _ h _ => (by cases h)⟩
theorem Bxs.below {z : Nat} {b0 b1 b2 : Option Nat} {v v' : World} (h : Bxs z b0 b1 b2 v) (hb : Below v.heap.size v v') : Bxs z b0 b1 b2 v' :=
 ⟨fun b e => ⟨(h.1 b e).1.below hb, (h.1 b e).2⟩, fun b e => ⟨(h.2.1 b e).1.below hb, (h.2.1 b e).2⟩, fun b e => ⟨(h.2.2.1 b e).1.below hb, (h.2.2.1 b e).2⟩, h.2.2.2⟩
theorem Bxs.outs {z : Nat} {b0 b1 b2 : Option Nat} {v : World} (h : Bxs z b0 b1 b2 v) (hi : Nat) : Outs3 v.heap.size hi b0 b1 b2 :=
 ⟨fun b e => .inl (h.1 b e).1.2.2, fun b e => .inl (h.2.1 b e).1.1, fun b e => .inl (h.2.2.1 b e).1.1⟩
theorem Bxs.new0 {z : Nat} {b1 b2 : Option Nat} {v : World} (h : Bxs z none b1 b2 v) (hz : z ≤ v.heap.size) : Bxs z (some v.heap.size) b1 b2 (v.alloc (.cells #[.slice none 0 0] 26)) := by
 have hb := (Below.refl v.heap.size v).alloc (Nat.le_refl _) (.cells #[.slice none 0 0] 26)
 exact ⟨fun b e => by injection e with e; subst e; exact ⟨NBx.new v 26, hz⟩, fun b e => ⟨(h.2.1 b e).1.below hb, (h.2.1 b e).2⟩, fun b e => ⟨(h.2.2.1 b e).1.below hb, (h.2.2.1 b e).2⟩, fun b c e1 e2 e3 => by injection e1 with e1; have h9 := (h.2.1 c e2).1.1; omega, fun b c e1 e2 e3 => by injection e1 with e1; have h9 := (h.2.2.1 c e2).1.1; omega, h.2.2.2.2.2⟩
theorem Outs3.new0 {lo hi : Nat} {b1 b2 : Option Nat} {v : World} (h : Outs3 lo hi none b1 b2) (hz : hi ≤ v.heap.size) : Outs3 lo hi (some v.heap.size) b1 b2 :=
 ⟨fun b e => by injection e with e; subst e; exact .inr hz, h.2.1, h.2.2⟩
theorem Bxs.new1 {z : Nat} {b0 b2 : Option Nat} {v : World} (h : Bxs z b0 none b2 v) (hz : z ≤ v.heap.size) : Bxs z b0 (some v.heap.size) b2 (v.alloc (.cells #[.slice none 0 0, .string (S [])] 32)) := by
 have hb := (Below.refl v.heap.size v).alloc (Nat.le_refl _) (.cells #[.slice none 0 0, .string (S [])] 32)
 exact ⟨fun b e => ⟨(h.1 b e).1.below hb, (h.1 b e).2⟩, fun b e => by injection e with e; subst e; exact ⟨TBx.new (.slice none 0 0) [] v, hz⟩, fun b e => ⟨(h.2.2.1 b e).1.below hb, (h.2.2.1 b e).2⟩, fun b c e1 e2 e3 => by injection e2 with e2; have h9 := (h.1 b e1).1.2.2; omega, h.2.2.2.2.1, fun b c e1 e2 e3 => by injection e1 with e1; have h9 := (h.2.2.1 c e2).1.1; omega⟩
theorem Outs3.new1 {lo hi : Nat} {b0 b2 : Option Nat} {v : World} (h : Outs3 lo hi b0 none b2) (hz : hi ≤ v.heap.size) : Outs3 lo hi b0 (some v.heap.size) b2 :=
 ⟨h.1, fun b e => by injection e with e; subst e; exact .inr hz, h.2.2⟩
theorem Bxs.new2 {z : Nat} {b0 b1 : Option Nat} {v : World} (h : Bxs z b0 b1 none v) (hz : z ≤ v.heap.size) : Bxs z b0 b1 (some v.heap.size) (v.alloc (.cells #[.int .i64 0, .string (S [])] 38)) := by
 have hb := (Below.refl v.heap.size v).alloc (Nat.le_refl _) (.cells #[.int .i64 0, .string (S [])] 38)
 exact ⟨fun b e => ⟨(h.1 b e).1.below hb, (h.1 b e).2⟩, fun b e => ⟨(h.2.1 b e).1.below hb, (h.2.1 b e).2⟩, fun b e => by injection e with e; subst e; exact ⟨EBx.new v, hz⟩, h.2.2.2.1, fun b c e1 e2 e3 => by injection e2 with e2; have h9 := (h.1 b e1).1.2.2; omega, fun b c e1 e2 e3 => by injection e2 with e2; have h9 := (h.2.1 b e1).1.1; omega⟩
theorem Outs3.new2 {lo hi : Nat} {b0 b1 : Option Nat} {v : World} (h : Outs3 lo hi b0 b1 none) (hz : hi ≤ v.heap.size) : Outs3 lo hi b0 b1 (some v.heap.size) :=
 ⟨h.1, h.2.1, fun b e => by injection e with e; subst e; exact .inr hz⟩
def Sx (wA : World) (KP R : World → Prop) (b0 b1 b2 : Option Nat) (v : World) : Prop := KP v ∧ Below wA.heap.size wA v ∧ R v ∧ Bxs wA.heap.size b0 b1 b2 v
theorem Sx.start (wA : World) (KP : World → Prop) (h : KP wA.drew) : Sx wA KP (fun _ => True) none none none wA.drew := ⟨h, (Below.refl _ _).drew, trivial, Bxs.start _ _⟩
abbrev Stb (R : World → Prop) : Prop := ∀ v v' : World, Below v.heap.size v v' → R v → R v'
theorem stT : Stb (fun _ => True) := fun _ _ _ _ => trivial
theorem stE {x : Value} {l : P.Dic} : Stb (fun v => EntR v x l) := fun _ _ hb h => h.below hb
theorem stI {x : Value} {l : List Int} : Stb (fun v => IntR v x l) := fun _ _ hb h => h.below hb
theorem stA {R1 R2 : World → Prop} (h1 : Stb R1) (h2 : Stb R2) : Stb (fun v => R1 v ∧ R2 v) := fun v v' hb h => ⟨h1 v v' hb h.1, h2 v v' hb h.2⟩
theorem stF2 {α β : Type} {E1 : ElT α} {E2 : ElT β} (e1 : ElOk E1) (e2 : ElOk E2) {n1 n2 a lo hi : Nat} {F1 F2 : Blk} {u1 u2 : Value} {l1 : List α} {l2 : List β} : Stb (fun v => (a ≤ lo ∧ hi ≤ v.heap.size) ∧ RowO n1 E1 v F1 u1 l1 ∧ RowO n2 E2 v F2 u2 l2) :=
 fun _ _ hb h => ⟨⟨h.1.1, Nat.le_trans h.1.2 hb.size⟩, h.2.1.below e1 hb, h.2.2.below e2 hb⟩
theorem Sx.conv {wA : World} {KP R : World → Prop} {b0 b1 b2 : Option Nat} {v v' : World} (h : Sx wA KP R b0 b1 b2 v) (hK : ∀ v v' : World, Below wA.heap.size v v' → KP v → KP v') (hR : Stb R) (hb : Below v.heap.size v v') {R2 : World → Prop} (hn : R2 v') : Sx wA KP (fun v => R v ∧ R2 v) b0 b1 b2 v' :=
 ⟨hK _ _ (hb.mono h.2.1.size) h.1, h.2.1.trans (hb.mono h.2.1.size), ⟨hR _ _ hb h.2.2.1, hn⟩, h.2.2.2.below hb⟩
theorem Sx.call {wA : World} {KP R : World → Prop} {b0 b1 b2 : Option Nat} {v v' : World} (h : Sx wA KP R b0 b1 b2 v) (hK : ∀ v v' : World, Below wA.heap.size v v' → KP v → KP v') (hb : Below v.heap.size v v') {R2 : World → Prop} (hn : R2 v') : Sx wA KP R2 b0 b1 b2 v' :=
 ⟨hK _ _ (hb.mono h.2.1.size) h.1, h.2.1.trans (hb.mono h.2.1.size), hn, h.2.2.2.below hb⟩
theorem Sx.new0 {wA : World} {KP R : World → Prop} {b1 b2 : Option Nat} {v : World} (h : Sx wA KP R none b1 b2 v) (hK : ∀ v v' : World, Below wA.heap.size v v' → KP v → KP v') (hR : Stb R) : Sx wA KP R (some v.heap.size) b1 b2 (v.alloc (.cells #[.slice none 0 0] 26)) :=
 have hb := (Below.refl v.heap.size v).alloc (Nat.le_refl _) (.cells #[.slice none 0 0] 26)
 ⟨hK _ _ (hb.mono h.2.1.size) h.1, h.2.1.trans (hb.mono h.2.1.size), hR _ _ hb h.2.2.1, h.2.2.2.new0 h.2.1.size⟩
theorem Sx.new1 {wA : World} {KP R : World → Prop} {b0 b2 : Option Nat} {v : World} (h : Sx wA KP R b0 none b2 v) (hK : ∀ v v' : World, Below wA.heap.size v v' → KP v → KP v') (hR : Stb R) : Sx wA KP R b0 (some v.heap.size) b2 (v.alloc (.cells #[.slice none 0 0, .string (S [])] 32)) :=
 have hb := (Below.refl v.heap.size v).alloc (Nat.le_refl _) (.cells #[.slice none 0 0, .string (S [])] 32)
 ⟨hK _ _ (hb.mono h.2.1.size) h.1, h.2.1.trans (hb.mono h.2.1.size), hR _ _ hb h.2.2.1, h.2.2.2.new1 h.2.1.size⟩
theorem Sx.new2 {wA : World} {KP R : World → Prop} {b0 b1 : Option Nat} {v : World} (h : Sx wA KP R b0 b1 none v) (hK : ∀ v v' : World, Below wA.heap.size v v' → KP v → KP v') (hR : Stb R) : Sx wA KP R b0 b1 (some v.heap.size) (v.alloc (.cells #[.int .i64 0, .string (S [])] 38)) :=
 have hb := (Below.refl v.heap.size v).alloc (Nat.le_refl _) (.cells #[.int .i64 0, .string (S [])] 38)
 ⟨hK _ _ (hb.mono h.2.1.size) h.1, h.2.1.trans (hb.mono h.2.1.size), hR _ _ hb h.2.2.1, h.2.2.2.new2 h.2.1.size⟩
theorem redef_sizes (d : P.Dic) (t : P.Tr) (e : P.Ent) : ((P.redef d t e).1.1.1.length : Int) + P.sizeE (P.redef d t e).1.1.1 ≤ d.length + P.sizeE d + 1 + e.1.length + e.2.length ∧ (P.redef d t e).1.1.2.1.length ≤ t.1.length := by
 have h1 := sizeE_put e d
 have h2 := P.sizeE_nonneg d
 unfold P.redef
 split
 ·
  exact ⟨by simp only; omega, Nat.le_refl _⟩
 ·
  exact ⟨by show ((0 : Nat) : Int) + P.sizeE [] ≤ _; simp only [P.sizeE]; omega, Nat.zero_le _⟩
def RfPost (bk : P.Dic) (nx : List Int) (sc : Str) (en : Int) (et : Str) (ok : Bool) (w : World) (e : Ending) (w' : World) : Prop :=
 ∃ d c d2 c2, e = .returned (.tuple #[.agg #[.slice d bk.length c], .agg #[.slice d2 nx.length c2, .string (S sc)], .agg #[.int .i64 en, .string (S et)], .bool ok]) ∧ Ents w' (BetX w.heap.size w'.heap.size (.slice d2 nx.length c2)) (.slice d bk.length c) bk ∧ Ints w' (BetO w.heap.size w'.heap.size (.slice d2 nx.length c2)) (.slice d2 nx.length c2) nx ∧ Below w.heap.size w w'
theorem rf_of {r : ((P.Dic × P.Tr) × P.Edit) × Bool} {bk : P.Dic} {nx : List Int} {sc et : Str} {en : Int} {ok : Bool} (hr : r = (((bk, (nx, sc)), (en, et)), ok)) (hl : nx.length ≤ 2 ^ 30) {w : World} (e : Ending) (w' : World) (h : RedefPost r w e w') : RfPost bk nx sc en et ok w e w' := by
 subst hr
 obtain ⟨u, us, m, he, hd, hk, hm1, hm2, hb⟩ := h
 simp only at hd hk
 obtain ⟨a, c, rfl, _, _⟩ := id hd
 obtain ⟨a2, c2, rfl⟩ := ownK_form hk
 refine ⟨a, c, a2, c2, he, hd.wide (fun b h => ⟨⟨h.1, Nat.lt_of_lt_of_le h.2 hm2⟩, fun e2 => ?_⟩) (fun b h => h.1.2), ownK_ints (own_base hk hm1) hl, hb⟩
 have h9 := (World.ownsRow.lt hk b e2).1
 have h8 := h.2
 omega
def K_law_redefine (w : World) (a0d : Option Addr) (a0c : Nat) (l0 : P.Dic) (a1d : Option Addr) (a1c : Nat) (o1 : List Int) (t1 : Str) (a2d : Option Addr) (a2c : Nat) (o2 : List Int) (t2 : Str) (v : World) : Prop := v.cell? ⟨w.heap.size, 0, none⟩ = some (.slice a0d l0.length a0c) ∧ v.cell? ⟨(w.heap.size + 1), 0, none⟩ = some (.slice a1d o1.length a1c) ∧ v.cell? ⟨(w.heap.size + 1), 1, none⟩ = some (.string (S t1)) ∧ v.cell? ⟨(w.heap.size + 2), 0, none⟩ = some (.slice a2d o2.length a2c) ∧ v.cell? ⟨(w.heap.size + 2), 1, none⟩ = some (.string (S t2))
theorem K_law_redefine.step {w : World} {a0d : Option Addr} {a0c : Nat} {l0 : P.Dic} {a1d : Option Addr} {a1c : Nat} {o1 : List Int} {t1 : Str} {a2d : Option Addr} {a2c : Nat} {o2 : List Int} {t2 : Str} {v v' : World} {B : Nat} (h : K_law_redefine w a0d a0c l0 a1d a1c o1 t1 a2d a2c o2 t2 v) (hb : Below B v v') (hW : (w.heap.size + 2) < B) : K_law_redefine w a0d a0c l0 a1d a1c o1 t1 a2d a2c o2 t2 v' :=
 ⟨(hb.cell (p := ⟨w.heap.size, 0, none⟩) (by show w.heap.size < B; omega)).trans h.1, (hb.cell (p := ⟨(w.heap.size + 1), 0, none⟩) (by show (w.heap.size + 1) < B; omega)).trans h.2.1, (hb.cell (p := ⟨(w.heap.size + 1), 1, none⟩) (by show (w.heap.size + 1) < B; omega)).trans h.2.2.1, (hb.cell (p := ⟨(w.heap.size + 2), 0, none⟩) (by show (w.heap.size + 2) < B; omega)).trans h.2.2.2.1, (hb.cell (p := ⟨(w.heap.size + 2), 1, none⟩) (by show (w.heap.size + 2) < B; omega)).trans h.2.2.2.2⟩
theorem law_redefine (u0 : Value) (l0 : P.Dic) (u1 : Value) (o1 : List Int) (t1 : Str) (u2 : Value) (o2 : List Int) (t2 : Str) (w : World) (hu0 : EntA w u0 l0) (ht0 : ∀ e ∈ l0, e.2.length ≤ 9223372036854775807) (hu1 : IntA w u1 o1) (ht1 : t1.length ≤ 9223372036854775807) (hu2 : IntA w u2 o2) (ht2 : t2.length ≤ 9223372036854775807) (hE : Env w) :
  Calls Tryz.prog 11 #[.agg #[u0], .agg #[u1, .string (S t1)], .agg #[u2, .string (S t2)]] w fun e w' => e = .returned (.bool true) ∧ Below w.heap.size w w' := by
 have HE := Lib.hid hE; clear hE
 have HU0 := Lib.hid hu0
 have HT0 := Lib.hid ht0; clear ht0
 obtain ⟨a0d, a0c, rfl, hln0, _⟩ := hu0
 have HU1 := Lib.hid hu1
 have HT1 := Lib.hid ht1; clear ht1
 obtain ⟨a1d, a1c, rfl, hln1, _⟩ := hu1
 have HU2 := Lib.hid hu2
 have HT2 := Lib.hid ht2; clear ht2
 obtain ⟨a2d, a2c, rfl, hln2, _⟩ := hu2
 have hb := ((((Below.refl w.heap.size w).alloc (Nat.le_refl _) (.cells #[.slice a0d l0.length a0c] 57)).alloc (by simp) (.cells #[.slice a1d o1.length a1c, .string (S t1)] 58)).alloc (by simp; omega) (.cells #[.slice a2d o2.length a2c, .string (S t2)] 79))
 have HB_0 := Lib.hid (hb)
 have A0_0 := Lib.hid (((Box1.new (.slice a0d l0.length a0c) 57 w).below ((Below.refl _ _).alloc (Nat.le_refl _) (.cells #[.slice a1d o1.length a1c, .string (S t1)] 58))).below ((Below.refl _ _).alloc (Nat.le_refl _) (.cells #[.slice a2d o2.length a2c, .string (S t2)] 79)))
 have A1_0 := Lib.hid (show Box2E (w.heap.size + 1) (.slice a1d o1.length a1c) t1 _ from by have h := (Box2E.new (.slice a1d o1.length a1c) t1 58 (w.alloc (.cells #[.slice a0d l0.length a0c] 57))).below ((Below.refl _ _).alloc (Nat.le_refl _) (.cells #[.slice a2d o2.length a2c, .string (S t2)] 79)); simpa using h)
 have A2_0 := Lib.hid (show Box2E (w.heap.size + 2) (.slice a2d o2.length a2c) t2 _ from by have h := Box2E.new (.slice a2d o2.length a2c) t2 79 ((w.alloc (.cells #[.slice a0d l0.length a0c] 57)).alloc (.cells #[.slice a1d o1.length a1c, .string (S t1)] 58)); simpa using h)
 clear hb
 go_enter Tryz.func11, Tryz.ntmps11
 go_wp2_with fail
 refine (szDictionary _ l0 1048576 _ (HU0.out.below HB_0.out) HT0.out (by decide) (by decide)).mono ?_
 rintro e w1 ⟨⟨r0, rfl, hra0, hrb0⟩, hb⟩
 have zw1 : w.heap.size + 3 ≤ w1.heap.size := by have := hb.size; simp at this; omega
 have HB_1 := Lib.hid (HB_0.out.trans (hb.mono HB_0.out.size))
 have A0_1 := Lib.hid (A0_0.out.below hb)
 have A1_1 := Lib.hid (A1_0.out.below hb)
 have A2_1 := Lib.hid (A2_0.out.below hb)
 clear HB_0 A0_0 A1_0 A2_0 hb HT0
 have HR0 := Lib.hid hrb0; clear hrb0
 by_cases hneg0 : r0 < 0
 ·
  go_wp2
  go_ret
  exact ⟨rfl, HB_1.out⟩
 have hR0 : r0 = 1048576 - ((l0.length : Int) + P.sizeE l0) := HR0.out (by omega)
 have HSL0 := Lib.hid hR0; have HRN0 := Lib.hid (show 0 ≤ r0 by omega); clear hR0 HR0 hra0
 have hq0 : r0 ≤ 2 ^ 20 := by have := P.sizeE_nonneg l0; have := HSL0.out; omega
 have HRQ0 := Lib.hid hq0; clear hq0
 obtain ⟨c_A10, c_A11, _⟩ := A1_1.out
 go_wp2_with fail
 refine (szTranslator _ o1 t1 r0 _ (HU1.out.below HB_1.out) HT1.out HRN0.out HRQ0.out).mono ?_
 rintro e w2 ⟨⟨r1, rfl, hra1, hrb1⟩, hb⟩
 clear c_A10 c_A11
 have zw2 : w1.heap.size ≤ w2.heap.size := hb.size
 have HB_2 := Lib.hid (HB_1.out.trans (hb.mono HB_1.out.size))
 have A0_2 := Lib.hid (A0_1.out.below hb)
 have A1_2 := Lib.hid (A1_1.out.below hb)
 have A2_2 := Lib.hid (A2_1.out.below hb)
 clear HB_1 A0_1 A1_1 A2_1 hb HT1
 have HR1 := Lib.hid hrb1; clear hrb1
 by_cases hneg1 : r1 < 0
 ·
  go_wp2
  go_ret
  exact ⟨rfl, HB_2.out⟩
 have hR1 : r1 = r0 - ((o1.length : Int) + t1.length) := HR1.out (by omega)
 have HSL1 := Lib.hid hR1; have HRN1 := Lib.hid (show 0 ≤ r1 by omega); clear hR1 HR1 hra1
 have hq1 : r1 ≤ 2 ^ 20 := by have := P.sizeE_nonneg l0; have := HSL0.out; have := HSL1.out; omega
 have HRQ1 := Lib.hid hq1; clear hq1
 obtain ⟨c_A20, c_A21, _⟩ := A2_2.out
 go_wp2_with fail
 refine (szEntry _ o2 t2 r1 _ (HU2.out.below HB_2.out) HT2.out HRN1.out HRQ1.out).mono ?_
 rintro e w3 ⟨⟨r2, rfl, hra2, hrb2⟩, hb⟩
 clear c_A20 c_A21
 have zw3 : w2.heap.size ≤ w3.heap.size := hb.size
 have HB_3 := Lib.hid (HB_2.out.trans (hb.mono HB_2.out.size))
 have A0_3 := Lib.hid (A0_2.out.below hb)
 have A1_3 := Lib.hid (A1_2.out.below hb)
 have A2_3 := Lib.hid (A2_2.out.below hb)
 clear HB_2 A0_2 A1_2 A2_2 hb HT2
 have HR2 := Lib.hid hrb2; clear hrb2
 by_cases hneg2 : r2 < 0
 ·
  go_wp2
  go_ret
  exact ⟨rfl, HB_3.out⟩
 have hR2 : r2 = r1 - ((o2.length : Int) + t2.length) := HR2.out (by omega)
 have HSL2 := Lib.hid hR2; have HRN2 := Lib.hid (show 0 ≤ r2 by omega); clear hR2 HR2 hra2
 have hq2 : r2 ≤ 2 ^ 20 := by have := P.sizeE_nonneg l0; have := HSL0.out; have := HSL1.out; have := HSL2.out; omega
 have HRQ2 := Lib.hid hq2; clear hq2
 have HS0 := Lib.hid (show (l0.length : Int) + P.sizeE l0 ≤ 1048576 by have := HSL0.out; have := HRN0.out; have := HSL1.out; have := HRN1.out; have := HSL2.out; have := HRN2.out; have := P.sizeE_nonneg l0; omega)
 have HUA0 := HU0; clear HU0
 have HU0 := Lib.hid (HUA0.out.read (small_of HS0.out).len (small_of HS0.out).outs); have HSM0 := Lib.hid (small_of HS0.out)
 clear HUA0
 have HS1 := Lib.hid (show (o1.length : Int) + t1.length ≤ 1048576 by have := HSL0.out; have := HRN0.out; have := HSL1.out; have := HRN1.out; have := HSL2.out; have := HRN2.out; have := P.sizeE_nonneg l0; omega)
 have HUA1 := HU1; clear HU1
 have HSM1 := Lib.hid (show o1.length ≤ 2 ^ 20 ∧ t1.length ≤ 2 ^ 30 by have := HS1.out; omega)
 have HU1 := Lib.hid (HUA1.out.read HSM1.out.1)
 clear HUA1
 have HS2 := Lib.hid (show (o2.length : Int) + t2.length ≤ 1048576 by have := HSL0.out; have := HRN0.out; have := HSL1.out; have := HRN1.out; have := HSL2.out; have := HRN2.out; have := P.sizeE_nonneg l0; omega)
 have HUA2 := HU2; clear HU2
 have HSM2 := Lib.hid (show o2.length ≤ 2 ^ 20 ∧ t2.length ≤ 2 ^ 30 by have := HS2.out; omega)
 have HU2 := Lib.hid (HUA2.out.read HSM2.out.1)
 clear HUA2
 have HSS := Lib.hid (show ((l0.length : Int) + P.sizeE l0) + ((o1.length : Int) + t1.length) + ((o2.length : Int) + t2.length) ≤ 1048576 by have := HSL0.out; have := HRN0.out; have := HSL1.out; have := HRN1.out; have := HSL2.out; have := HRN2.out; have := P.sizeE_nonneg l0; omega)
 obtain ⟨bk, nx, sc, en, et, ok, hr⟩ : ∃ bk nx sc en et ok, P.redef l0 (o1, t1) (o2, t2) = (((bk, (nx, sc)), (en, et)), ok) := ⟨_, _, _, _, _, _, rfl⟩
 have HR := Lib.hid hr
 have HLEN := Lib.hid (show P.kAt 1 bk ≤ 2 ^ 30 ∧ nx.length ≤ 2 ^ 21 from by
  have h := redef_sizes l0 (o1, t1) (o2, t2)
  rw [hr] at h
  simp only at h
  have h2 := P.kAt_le 1 bk
  have h3 := HSM1.out.1
  have h4 := HSS.out
  have h5 := P.sizeE_nonneg l0
  omega)
 clear hr
 have HK0 := Lib.hid (show 0 ≤ (1 : Int) ∧ (1 : Int) ≤ 2 ^ 40 ∧ (P.kAt (1 : Int) l0) ≤ 2 ^ 40 ∧ 0 ≤ (P.kAt (1 : Int) l0) by have := HS0.out; have := HS1.out; have := HS2.out; have := P.sizeE_nonneg l0; have := P.kAt_le (1 : Int) l0; have := P.kAt_ge (1 : Int) l0; omega)
 have HK1 := Lib.hid (show 0 ≤ (P.kAt (1 : Int) l0) ∧ (P.kAt (1 : Int) l0) ≤ 2 ^ 40 ∧ ((P.kAt (1 : Int) l0) + (o1.length : Int)) ≤ 2 ^ 40 ∧ 0 ≤ ((P.kAt (1 : Int) l0) + (o1.length : Int)) by have := HS0.out; have := HS1.out; have := HS2.out; have := P.sizeE_nonneg l0; have := P.kAt_le (1 : Int) l0; have := P.kAt_ge (1 : Int) l0; omega)
 have HK2 := Lib.hid (show 0 ≤ ((P.kAt (1 : Int) l0) + (o1.length : Int)) ∧ ((P.kAt (1 : Int) l0) + (o1.length : Int)) ≤ 2 ^ 40 ∧ (((P.kAt (1 : Int) l0) + (o1.length : Int)) + (o2.length : Int)) ≤ 2 ^ 40 ∧ 0 ≤ (((P.kAt (1 : Int) l0) + (o1.length : Int)) + (o2.length : Int)) by have := HS0.out; have := HS1.out; have := HS2.out; have := P.sizeE_nonneg l0; have := P.kAt_le (1 : Int) l0; have := P.kAt_ge (1 : Int) l0; omega)
 have HG0 := Lib.hid (show 0 ≤ (1 : Int) ∧ (1 : Int) ≤ 2 ^ 40 ∧ (P.kAt (1 : Int) bk) ≤ 2 ^ 40 ∧ 0 ≤ (P.kAt (1 : Int) bk) by have := HLEN.out; have := P.kAt_ge (1 : Int) bk; omega)
 have HG1 := Lib.hid (show 0 ≤ (P.kAt (1 : Int) bk) ∧ (P.kAt (1 : Int) bk) ≤ 2 ^ 40 ∧ ((P.kAt (1 : Int) bk) + (nx.length : Int)) ≤ 2 ^ 40 ∧ 0 ≤ ((P.kAt (1 : Int) bk) + (nx.length : Int)) by have := HLEN.out; have := P.kAt_ge (1 : Int) bk; omega)
 clear HSL0 HRN0 HRQ0 HSL1 HRN1 HRQ1 HSL2 HRN2 HRQ2 HSS
 have hWA : (w.heap.size + 2) < w3.heap.size := A2_3.out.2.2
 have HS := Lib.hid (show K_law_redefine w a0d a0c l0 a1d a1c o1 t1 a2d a2c o2 t2 w3.drew from K_law_redefine.step (B := w3.heap.size) ⟨A0_3.out.1, A1_3.out.1, A1_3.out.2.1, A2_3.out.1, A2_3.out.2.1⟩ (Below.refl _ _).drew hWA)
 go_upto_region 11 with fail
 go_cut [8, 9, 10, 11] (fun q0 q1 q2 q3 wx => ∃ bs0 bs1 bs2 s0d s0c s1d s1c, q0 = .pointer (some ⟨bs0, 0, none⟩) ∧ q1 = .pointer (some ⟨bs1, 0, none⟩) ∧ q2 = .pointer (some ⟨bs2, 0, none⟩) ∧ q3 = .bool ok ∧ Box1 bs0 (.slice s0d bk.length s0c) wx ∧ w3.heap.size ≤ bs0 ∧ Box2E bs1 (.slice s1d nx.length s1c) sc wx ∧ w3.heap.size ≤ bs1 ∧ Box2E bs2 (.int .i64 en) et wx ∧ w3.heap.size ≤ bs2 ∧ Ents wx (BetX w3.heap.size wx.heap.size (.slice s1d nx.length s1c)) (.slice s0d bk.length s0c) bk ∧ Ints wx (BetO w3.heap.size wx.heap.size (.slice s1d nx.length s1c)) (.slice s1d nx.length s1c) nx ∧ Below w3.heap.size w3 wx)
 case first =>
  have HKP := Lib.hid (fun (v v' : World) (hb : Below w3.heap.size v v') (h : K_law_redefine w a0d a0c l0 a1d a1c o1 t1 a2d a2c o2 t2 v) => K_law_redefine.step h hb hWA)
  apply lem_cut
  intro k4012
  apply lem_cut
  intro k412
  apply lem_cut
  intro k402
  apply lem_cut
  intro k401
  apply lem_cut
  intro k3012
  apply lem_cut
  intro k42
  apply lem_cut
  intro k41
  apply lem_cut
  intro k40
  apply lem_cut
  intro k312
  apply lem_cut
  intro k302
  apply lem_cut
  intro k301
  apply lem_cut
  intro k2012
  apply lem_cut
  intro k4
  apply lem_cut
  intro k32
  apply lem_cut
  intro k31
  apply lem_cut
  intro k30
  apply lem_cut
  intro k212
  apply lem_cut
  intro k202
  apply lem_cut
  intro k201
  apply lem_cut
  intro k1012
  apply lem_cut
  intro k3
  apply lem_cut
  intro k22
  apply lem_cut
  intro k21
  apply lem_cut
  intro k20
  apply lem_cut
  intro k112
  apply lem_cut
  intro k102
  apply lem_cut
  intro k101
  apply lem_cut
  intro k0012
  apply lem_cut
  intro k2
  apply lem_cut
  intro k12
  apply lem_cut
  intro k11
  apply lem_cut
  intro k10
  apply lem_cut
  intro k012
  apply lem_cut
  intro k002
  apply lem_cut
  intro k001
  apply lem_cut
  intro k1
  apply lem_cut
  intro k02
  apply lem_cut
  intro k01
  apply lem_cut
  intro k00
  refine wp_region_held_drew (S := K_law_redefine w a0d a0c l0 a1d a1c o1 t1 a2d a2c o2 t2) (by kernel_rfl) HS.out (fun hS => ?_)
  refine wpAnyH_take (i := 0) (v := .agg #[.slice a0d l0.length a0c]) rfl (by kernel_rfl) (by kernel_rfl) (by kernel_rfl) (fun _ _ _ h => h) (Or.inl ⟨by rfl, fun z hz => ?_⟩) hS ?_
  ·
   obtain ⟨z0q, z1q, z2q, z3q, z4q⟩ := hz
   go_simp
  try simp only [qA, qB, Act.put, qD, qE, qF]
  refine wpAnyH_take (i := 2) (v := .agg #[.slice a1d o1.length a1c, .string (S t1)]) rfl (by kernel_rfl) (by kernel_rfl) (by kernel_rfl) (fun _ _ _ h => h) (Or.inl ⟨by rfl, fun z hz => ?_⟩) hS ?_
  ·
   obtain ⟨z0q, z1q, z2q, z3q, z4q⟩ := hz
   go_simp
  try simp only [qA, qB, qC, Act.put, qD, qE, qF]
  refine wpAnyH_take (i := 4) (v := .agg #[.slice a2d o2.length a2c, .string (S t2)]) rfl (by kernel_rfl) (by kernel_rfl) (by kernel_rfl) (fun _ _ _ h => h) (Or.inl ⟨by rfl, fun z hz => ?_⟩) hS ?_
  ·
   obtain ⟨z0q, z1q, z2q, z3q, z4q⟩ := hz
   go_simp
  try simp only [qA, qB, qC, Act.put, qD, qE, qF]
  have H := Lib.hid (Sx.start w3 (K_law_redefine w a0d a0c l0 a1d a1c o1 t1 a2d a2c o2 t2) hS)
  clear hS
  generalize w3.drew = v at H ⊢
  refine wpAnyH_ready (rs := [1, 12, 13, 14]) (by kernel_rfl) (by simp) ?_
  refine AllReadyH.cons rfl (fun K hK => ?_) (AllReadyH.cons rfl (fun K hK => ?_) (AllReadyH.cons rfl (fun K hK => ?_) (AllReadyH.cons rfl (fun K hK => ?_) AllReadyH.nil)))
  ·
   skip
   go_simp
   refine (toDictionary _ l0 _ (HU0.out.below (HB_3.out.trans (H.out.2.1.mono HB_3.out.size))) HSM0.out.len HSM0.out.outs).mono ?_
   rintro e v9 ⟨y9, rfl, hI, hb⟩
   have hJ := (Ents.read hI)
   obtain ⟨x0d, x0c, rfl, -, -⟩ := hI
   have Hn := Lib.hid (H.out.conv HKP.out stT hb (R2 := fun v => EntR v (.slice x0d l0.length x0c) l0) hJ)
   refine hK.out _ _ Hn.out.1 (fun hq => ?_)
   clear hK K hJ hb hq
   try simp only [qA, qB, qC, Act.put, qD, qE, qF]
   clear H
   revert Hn; revert x0c; revert x0d; revert v9; exact k1
  ·
   skip
   go_simp
   have Hn := Lib.hid (H.out.new0 HKP.out stT)
   refine hK.out _ _ Hn.out.1 (fun hq => ?_)
   clear hK K hq
   try simp only [qA, qB, qC, Act.put, qD, qE, qF]
   clear H
   generalize v.alloc (.cells #[.slice none 0 0] 26) = v9 at Hn ⊢
   generalize v.heap.size = bb0 at Hn ⊢
   revert Hn; revert bb0; revert v9; exact k00
  ·
   skip
   go_simp
   have Hn := Lib.hid (H.out.new1 HKP.out stT)
   refine hK.out _ _ Hn.out.1 (fun hq => ?_)
   clear hK K hq
   try simp only [qA, qB, qC, Act.put, qD, qE, qF]
   clear H
   generalize v.alloc (.cells #[.slice none 0 0, .string (S [])] 32) = v9 at Hn ⊢
   generalize v.heap.size = bb1 at Hn ⊢
   revert Hn; revert bb1; revert v9; exact k01
  ·
   skip
   go_simp
   have Hn := Lib.hid (H.out.new2 HKP.out stT)
   refine hK.out _ _ Hn.out.1 (fun hq => ?_)
   clear hK K hq
   try simp only [qA, qB, qC, Act.put, qD, qE, qF]
   clear H
   generalize v.alloc (.cells #[.int .i64 0, .string (S [])] 38) = v9 at Hn ⊢
   generalize v.heap.size = bb2 at Hn ⊢
   revert Hn; revert bb2; revert v9; exact k02
  intro v bb0 H
  refine wpAnyH_ready (rs := [1, 13, 14]) (by kernel_rfl) (by simp) ?_
  refine AllReadyH.cons rfl (fun K hK => ?_) (AllReadyH.cons rfl (fun K hK => ?_) (AllReadyH.cons rfl (fun K hK => ?_) AllReadyH.nil))
  ·
   skip
   go_simp
   refine (toDictionary _ l0 _ (HU0.out.below (HB_3.out.trans (H.out.2.1.mono HB_3.out.size))) HSM0.out.len HSM0.out.outs).mono ?_
   rintro e v9 ⟨y9, rfl, hI, hb⟩
   have hJ := (Ents.read hI)
   obtain ⟨x0d, x0c, rfl, -, -⟩ := hI
   have Hn := Lib.hid (H.out.conv HKP.out stT hb (R2 := fun v => EntR v (.slice x0d l0.length x0c) l0) hJ)
   refine hK.out _ _ Hn.out.1 (fun hq => ?_)
   clear hK K hJ hb hq
   try simp only [qA, qB, qC, Act.put, qD, qE, qF]
   clear H
   revert Hn; revert bb0; revert x0c; revert x0d; revert v9; exact k10
  ·
   skip
   go_simp
   have Hn := Lib.hid (H.out.new1 HKP.out stT)
   refine hK.out _ _ Hn.out.1 (fun hq => ?_)
   clear hK K hq
   try simp only [qA, qB, qC, Act.put, qD, qE, qF]
   clear H
   generalize v.alloc (.cells #[.slice none 0 0, .string (S [])] 32) = v9 at Hn ⊢
   generalize v.heap.size = bb1 at Hn ⊢
   revert Hn; revert bb1; revert bb0; revert v9; exact k001
  ·
   skip
   go_simp
   have Hn := Lib.hid (H.out.new2 HKP.out stT)
   refine hK.out _ _ Hn.out.1 (fun hq => ?_)
   clear hK K hq
   try simp only [qA, qB, qC, Act.put, qD, qE, qF]
   clear H
   generalize v.alloc (.cells #[.int .i64 0, .string (S [])] 38) = v9 at Hn ⊢
   generalize v.heap.size = bb2 at Hn ⊢
   revert Hn; revert bb2; revert bb0; revert v9; exact k002
  intro v bb1 H
  refine wpAnyH_ready (rs := [1, 12, 14]) (by kernel_rfl) (by simp) ?_
  refine AllReadyH.cons rfl (fun K hK => ?_) (AllReadyH.cons rfl (fun K hK => ?_) (AllReadyH.cons rfl (fun K hK => ?_) AllReadyH.nil))
  ·
   skip
   go_simp
   refine (toDictionary _ l0 _ (HU0.out.below (HB_3.out.trans (H.out.2.1.mono HB_3.out.size))) HSM0.out.len HSM0.out.outs).mono ?_
   rintro e v9 ⟨y9, rfl, hI, hb⟩
   have hJ := (Ents.read hI)
   obtain ⟨x0d, x0c, rfl, -, -⟩ := hI
   have Hn := Lib.hid (H.out.conv HKP.out stT hb (R2 := fun v => EntR v (.slice x0d l0.length x0c) l0) hJ)
   refine hK.out _ _ Hn.out.1 (fun hq => ?_)
   clear hK K hJ hb hq
   try simp only [qA, qB, qC, Act.put, qD, qE, qF]
   clear H
   revert Hn; revert bb1; revert x0c; revert x0d; revert v9; exact k11
  ·
   skip
   go_simp
   have Hn := Lib.hid (H.out.new0 HKP.out stT)
   refine hK.out _ _ Hn.out.1 (fun hq => ?_)
   clear hK K hq
   try simp only [qA, qB, qC, Act.put, qD, qE, qF]
   exact k001 _ _ _ Hn
  ·
   skip
   go_simp
   have Hn := Lib.hid (H.out.new2 HKP.out stT)
   refine hK.out _ _ Hn.out.1 (fun hq => ?_)
   clear hK K hq
   try simp only [qA, qB, qC, Act.put, qD, qE, qF]
   clear H
   generalize v.alloc (.cells #[.int .i64 0, .string (S [])] 38) = v9 at Hn ⊢
   generalize v.heap.size = bb2 at Hn ⊢
   revert Hn; revert bb2; revert bb1; revert v9; exact k012
  intro v bb2 H
  refine wpAnyH_ready (rs := [1, 12, 13]) (by kernel_rfl) (by simp) ?_
  refine AllReadyH.cons rfl (fun K hK => ?_) (AllReadyH.cons rfl (fun K hK => ?_) (AllReadyH.cons rfl (fun K hK => ?_) AllReadyH.nil))
  ·
   skip
   go_simp
   refine (toDictionary _ l0 _ (HU0.out.below (HB_3.out.trans (H.out.2.1.mono HB_3.out.size))) HSM0.out.len HSM0.out.outs).mono ?_
   rintro e v9 ⟨y9, rfl, hI, hb⟩
   have hJ := (Ents.read hI)
   obtain ⟨x0d, x0c, rfl, -, -⟩ := hI
   have Hn := Lib.hid (H.out.conv HKP.out stT hb (R2 := fun v => EntR v (.slice x0d l0.length x0c) l0) hJ)
   refine hK.out _ _ Hn.out.1 (fun hq => ?_)
   clear hK K hJ hb hq
   try simp only [qA, qB, qC, Act.put, qD, qE, qF]
   clear H
   revert Hn; revert bb2; revert x0c; revert x0d; revert v9; exact k12
  ·
   skip
   go_simp
   have Hn := Lib.hid (H.out.new0 HKP.out stT)
   refine hK.out _ _ Hn.out.1 (fun hq => ?_)
   clear hK K hq
   try simp only [qA, qB, qC, Act.put, qD, qE, qF]
   exact k002 _ _ _ Hn
  ·
   skip
   go_simp
   have Hn := Lib.hid (H.out.new1 HKP.out stT)
   refine hK.out _ _ Hn.out.1 (fun hq => ?_)
   clear hK K hq
   try simp only [qA, qB, qC, Act.put, qD, qE, qF]
   exact k012 _ _ _ Hn
  intro v x0d x0c H
  refine wpAnyH_ready (rs := [3, 12, 13, 14]) (by kernel_rfl) (by simp) ?_
  refine AllReadyH.cons rfl (fun K hK => ?_) (AllReadyH.cons rfl (fun K hK => ?_) (AllReadyH.cons rfl (fun K hK => ?_) (AllReadyH.cons rfl (fun K hK => ?_) AllReadyH.nil)))
  ·
   skip
   go_simp
   refine (toTranslator _ o1 t1 _ (HU1.out.below (HB_3.out.trans (H.out.2.1.mono HB_3.out.size))) HSM1.out.1).mono ?_
   rintro e v9 ⟨y9, rfl, hI, hb⟩
   have hJ := (Ints.read hI)
   obtain ⟨x1d, x1c, rfl, -, -⟩ := hI
   have Hn := Lib.hid (H.out.conv HKP.out (stA stT stE) hb (R2 := fun v => IntR v (.slice x1d o1.length x1c) o1) hJ)
   refine hK.out _ _ Hn.out.1 (fun hq => ?_)
   clear hK K hJ hb hq
   try simp only [qA, qB, qC, Act.put, qD, qE, qF]
   clear H
   revert Hn; revert x1c; revert x1d; revert x0c; revert x0d; revert v9; exact k2
  ·
   skip
   go_simp
   have Hn := Lib.hid (H.out.new0 HKP.out (stA stT stE))
   refine hK.out _ _ Hn.out.1 (fun hq => ?_)
   clear hK K hq
   try simp only [qA, qB, qC, Act.put, qD, qE, qF]
   exact k10 _ _ _ _ Hn
  ·
   skip
   go_simp
   have Hn := Lib.hid (H.out.new1 HKP.out (stA stT stE))
   refine hK.out _ _ Hn.out.1 (fun hq => ?_)
   clear hK K hq
   try simp only [qA, qB, qC, Act.put, qD, qE, qF]
   exact k11 _ _ _ _ Hn
  ·
   skip
   go_simp
   have Hn := Lib.hid (H.out.new2 HKP.out (stA stT stE))
   refine hK.out _ _ Hn.out.1 (fun hq => ?_)
   clear hK K hq
   try simp only [qA, qB, qC, Act.put, qD, qE, qF]
   exact k12 _ _ _ _ Hn
  intro v bb0 bb1 H
  refine wpAnyH_ready (rs := [1, 14]) (by kernel_rfl) (by simp) ?_
  refine AllReadyH.cons rfl (fun K hK => ?_) (AllReadyH.cons rfl (fun K hK => ?_) AllReadyH.nil)
  ·
   skip
   go_simp
   refine (toDictionary _ l0 _ (HU0.out.below (HB_3.out.trans (H.out.2.1.mono HB_3.out.size))) HSM0.out.len HSM0.out.outs).mono ?_
   rintro e v9 ⟨y9, rfl, hI, hb⟩
   have hJ := (Ents.read hI)
   obtain ⟨x0d, x0c, rfl, -, -⟩ := hI
   have Hn := Lib.hid (H.out.conv HKP.out stT hb (R2 := fun v => EntR v (.slice x0d l0.length x0c) l0) hJ)
   refine hK.out _ _ Hn.out.1 (fun hq => ?_)
   clear hK K hJ hb hq
   try simp only [qA, qB, qC, Act.put, qD, qE, qF]
   clear H
   revert Hn; revert bb1; revert bb0; revert x0c; revert x0d; revert v9; exact k101
  ·
   skip
   go_simp
   have Hn := Lib.hid (H.out.new2 HKP.out stT)
   refine hK.out _ _ Hn.out.1 (fun hq => ?_)
   clear hK K hq
   try simp only [qA, qB, qC, Act.put, qD, qE, qF]
   clear H
   generalize v.alloc (.cells #[.int .i64 0, .string (S [])] 38) = v9 at Hn ⊢
   generalize v.heap.size = bb2 at Hn ⊢
   revert Hn; revert bb2; revert bb1; revert bb0; revert v9; exact k0012
  intro v bb0 bb2 H
  refine wpAnyH_ready (rs := [1, 13]) (by kernel_rfl) (by simp) ?_
  refine AllReadyH.cons rfl (fun K hK => ?_) (AllReadyH.cons rfl (fun K hK => ?_) AllReadyH.nil)
  ·
   skip
   go_simp
   refine (toDictionary _ l0 _ (HU0.out.below (HB_3.out.trans (H.out.2.1.mono HB_3.out.size))) HSM0.out.len HSM0.out.outs).mono ?_
   rintro e v9 ⟨y9, rfl, hI, hb⟩
   have hJ := (Ents.read hI)
   obtain ⟨x0d, x0c, rfl, -, -⟩ := hI
   have Hn := Lib.hid (H.out.conv HKP.out stT hb (R2 := fun v => EntR v (.slice x0d l0.length x0c) l0) hJ)
   refine hK.out _ _ Hn.out.1 (fun hq => ?_)
   clear hK K hJ hb hq
   try simp only [qA, qB, qC, Act.put, qD, qE, qF]
   clear H
   revert Hn; revert bb2; revert bb0; revert x0c; revert x0d; revert v9; exact k102
  ·
   skip
   go_simp
   have Hn := Lib.hid (H.out.new1 HKP.out stT)
   refine hK.out _ _ Hn.out.1 (fun hq => ?_)
   clear hK K hq
   try simp only [qA, qB, qC, Act.put, qD, qE, qF]
   exact k0012 _ _ _ _ Hn
  intro v bb1 bb2 H
  refine wpAnyH_ready (rs := [1, 12]) (by kernel_rfl) (by simp) ?_
  refine AllReadyH.cons rfl (fun K hK => ?_) (AllReadyH.cons rfl (fun K hK => ?_) AllReadyH.nil)
  ·
   skip
   go_simp
   refine (toDictionary _ l0 _ (HU0.out.below (HB_3.out.trans (H.out.2.1.mono HB_3.out.size))) HSM0.out.len HSM0.out.outs).mono ?_
   rintro e v9 ⟨y9, rfl, hI, hb⟩
   have hJ := (Ents.read hI)
   obtain ⟨x0d, x0c, rfl, -, -⟩ := hI
   have Hn := Lib.hid (H.out.conv HKP.out stT hb (R2 := fun v => EntR v (.slice x0d l0.length x0c) l0) hJ)
   refine hK.out _ _ Hn.out.1 (fun hq => ?_)
   clear hK K hJ hb hq
   try simp only [qA, qB, qC, Act.put, qD, qE, qF]
   clear H
   revert Hn; revert bb2; revert bb1; revert x0c; revert x0d; revert v9; exact k112
  ·
   skip
   go_simp
   have Hn := Lib.hid (H.out.new0 HKP.out stT)
   refine hK.out _ _ Hn.out.1 (fun hq => ?_)
   clear hK K hq
   try simp only [qA, qB, qC, Act.put, qD, qE, qF]
   exact k0012 _ _ _ _ Hn
  intro v x0d x0c bb0 H
  refine wpAnyH_ready (rs := [3, 13, 14]) (by kernel_rfl) (by simp) ?_
  refine AllReadyH.cons rfl (fun K hK => ?_) (AllReadyH.cons rfl (fun K hK => ?_) (AllReadyH.cons rfl (fun K hK => ?_) AllReadyH.nil))
  ·
   skip
   go_simp
   refine (toTranslator _ o1 t1 _ (HU1.out.below (HB_3.out.trans (H.out.2.1.mono HB_3.out.size))) HSM1.out.1).mono ?_
   rintro e v9 ⟨y9, rfl, hI, hb⟩
   have hJ := (Ints.read hI)
   obtain ⟨x1d, x1c, rfl, -, -⟩ := hI
   have Hn := Lib.hid (H.out.conv HKP.out (stA stT stE) hb (R2 := fun v => IntR v (.slice x1d o1.length x1c) o1) hJ)
   refine hK.out _ _ Hn.out.1 (fun hq => ?_)
   clear hK K hJ hb hq
   try simp only [qA, qB, qC, Act.put, qD, qE, qF]
   clear H
   revert Hn; revert bb0; revert x1c; revert x1d; revert x0c; revert x0d; revert v9; exact k20
  ·
   skip
   go_simp
   have Hn := Lib.hid (H.out.new1 HKP.out (stA stT stE))
   refine hK.out _ _ Hn.out.1 (fun hq => ?_)
   clear hK K hq
   try simp only [qA, qB, qC, Act.put, qD, qE, qF]
   exact k101 _ _ _ _ _ Hn
  ·
   skip
   go_simp
   have Hn := Lib.hid (H.out.new2 HKP.out (stA stT stE))
   refine hK.out _ _ Hn.out.1 (fun hq => ?_)
   clear hK K hq
   try simp only [qA, qB, qC, Act.put, qD, qE, qF]
   exact k102 _ _ _ _ _ Hn
  intro v x0d x0c bb1 H
  refine wpAnyH_ready (rs := [3, 12, 14]) (by kernel_rfl) (by simp) ?_
  refine AllReadyH.cons rfl (fun K hK => ?_) (AllReadyH.cons rfl (fun K hK => ?_) (AllReadyH.cons rfl (fun K hK => ?_) AllReadyH.nil))
  ·
   skip
   go_simp
   refine (toTranslator _ o1 t1 _ (HU1.out.below (HB_3.out.trans (H.out.2.1.mono HB_3.out.size))) HSM1.out.1).mono ?_
   rintro e v9 ⟨y9, rfl, hI, hb⟩
   have hJ := (Ints.read hI)
   obtain ⟨x1d, x1c, rfl, -, -⟩ := hI
   have Hn := Lib.hid (H.out.conv HKP.out (stA stT stE) hb (R2 := fun v => IntR v (.slice x1d o1.length x1c) o1) hJ)
   refine hK.out _ _ Hn.out.1 (fun hq => ?_)
   clear hK K hJ hb hq
   try simp only [qA, qB, qC, Act.put, qD, qE, qF]
   clear H
   revert Hn; revert bb1; revert x1c; revert x1d; revert x0c; revert x0d; revert v9; exact k21
  ·
   skip
   go_simp
   have Hn := Lib.hid (H.out.new0 HKP.out (stA stT stE))
   refine hK.out _ _ Hn.out.1 (fun hq => ?_)
   clear hK K hq
   try simp only [qA, qB, qC, Act.put, qD, qE, qF]
   exact k101 _ _ _ _ _ Hn
  ·
   skip
   go_simp
   have Hn := Lib.hid (H.out.new2 HKP.out (stA stT stE))
   refine hK.out _ _ Hn.out.1 (fun hq => ?_)
   clear hK K hq
   try simp only [qA, qB, qC, Act.put, qD, qE, qF]
   exact k112 _ _ _ _ _ Hn
  intro v x0d x0c bb2 H
  refine wpAnyH_ready (rs := [3, 12, 13]) (by kernel_rfl) (by simp) ?_
  refine AllReadyH.cons rfl (fun K hK => ?_) (AllReadyH.cons rfl (fun K hK => ?_) (AllReadyH.cons rfl (fun K hK => ?_) AllReadyH.nil))
  ·
   skip
   go_simp
   refine (toTranslator _ o1 t1 _ (HU1.out.below (HB_3.out.trans (H.out.2.1.mono HB_3.out.size))) HSM1.out.1).mono ?_
   rintro e v9 ⟨y9, rfl, hI, hb⟩
   have hJ := (Ints.read hI)
   obtain ⟨x1d, x1c, rfl, -, -⟩ := hI
   have Hn := Lib.hid (H.out.conv HKP.out (stA stT stE) hb (R2 := fun v => IntR v (.slice x1d o1.length x1c) o1) hJ)
   refine hK.out _ _ Hn.out.1 (fun hq => ?_)
   clear hK K hJ hb hq
   try simp only [qA, qB, qC, Act.put, qD, qE, qF]
   clear H
   revert Hn; revert bb2; revert x1c; revert x1d; revert x0c; revert x0d; revert v9; exact k22
  ·
   skip
   go_simp
   have Hn := Lib.hid (H.out.new0 HKP.out (stA stT stE))
   refine hK.out _ _ Hn.out.1 (fun hq => ?_)
   clear hK K hq
   try simp only [qA, qB, qC, Act.put, qD, qE, qF]
   exact k102 _ _ _ _ _ Hn
  ·
   skip
   go_simp
   have Hn := Lib.hid (H.out.new1 HKP.out (stA stT stE))
   refine hK.out _ _ Hn.out.1 (fun hq => ?_)
   clear hK K hq
   try simp only [qA, qB, qC, Act.put, qD, qE, qF]
   exact k112 _ _ _ _ _ Hn
  intro v x0d x0c x1d x1c H
  refine wpAnyH_ready (rs := [5, 12, 13, 14]) (by kernel_rfl) (by simp) ?_
  refine AllReadyH.cons rfl (fun K hK => ?_) (AllReadyH.cons rfl (fun K hK => ?_) (AllReadyH.cons rfl (fun K hK => ?_) (AllReadyH.cons rfl (fun K hK => ?_) AllReadyH.nil)))
  ·
   skip
   go_simp
   refine (toEntry _ o2 t2 _ (HU2.out.below (HB_3.out.trans (H.out.2.1.mono HB_3.out.size))) HSM2.out.1).mono ?_
   rintro e v9 ⟨y9, rfl, hI, hb⟩
   have hJ := (Ints.read hI)
   obtain ⟨x2d, x2c, rfl, -, -⟩ := hI
   have Hn := Lib.hid (H.out.conv HKP.out (stA (stA stT stE) stI) hb (R2 := fun v => IntR v (.slice x2d o2.length x2c) o2) hJ)
   refine hK.out _ _ Hn.out.1 (fun hq => ?_)
   clear hK K hJ hb hq
   try simp only [qA, qB, qC, Act.put, qD, qE, qF]
   clear H
   revert Hn; revert x2c; revert x2d; revert x1c; revert x1d; revert x0c; revert x0d; revert v9; exact k3
  ·
   skip
   go_simp
   have Hn := Lib.hid (H.out.new0 HKP.out (stA (stA stT stE) stI))
   refine hK.out _ _ Hn.out.1 (fun hq => ?_)
   clear hK K hq
   try simp only [qA, qB, qC, Act.put, qD, qE, qF]
   exact k20 _ _ _ _ _ _ Hn
  ·
   skip
   go_simp
   have Hn := Lib.hid (H.out.new1 HKP.out (stA (stA stT stE) stI))
   refine hK.out _ _ Hn.out.1 (fun hq => ?_)
   clear hK K hq
   try simp only [qA, qB, qC, Act.put, qD, qE, qF]
   exact k21 _ _ _ _ _ _ Hn
  ·
   skip
   go_simp
   have Hn := Lib.hid (H.out.new2 HKP.out (stA (stA stT stE) stI))
   refine hK.out _ _ Hn.out.1 (fun hq => ?_)
   clear hK K hq
   try simp only [qA, qB, qC, Act.put, qD, qE, qF]
   exact k22 _ _ _ _ _ _ Hn
  intro v bb0 bb1 bb2 H
  refine wpAnyH_ready (rs := [1]) (by kernel_rfl) (by simp) ?_
  refine AllReadyH.cons rfl (fun K hK => ?_) AllReadyH.nil
  ·
   skip
   go_simp
   refine (toDictionary _ l0 _ (HU0.out.below (HB_3.out.trans (H.out.2.1.mono HB_3.out.size))) HSM0.out.len HSM0.out.outs).mono ?_
   rintro e v9 ⟨y9, rfl, hI, hb⟩
   have hJ := (Ents.read hI)
   obtain ⟨x0d, x0c, rfl, -, -⟩ := hI
   have Hn := Lib.hid (H.out.conv HKP.out stT hb (R2 := fun v => EntR v (.slice x0d l0.length x0c) l0) hJ)
   refine hK.out _ _ Hn.out.1 (fun hq => ?_)
   clear hK K hJ hb hq
   try simp only [qA, qB, qC, Act.put, qD, qE, qF]
   clear H
   revert Hn; revert bb2; revert bb1; revert bb0; revert x0c; revert x0d; revert v9; exact k1012
  intro v x0d x0c bb0 bb1 H
  refine wpAnyH_ready (rs := [3, 14]) (by kernel_rfl) (by simp) ?_
  refine AllReadyH.cons rfl (fun K hK => ?_) (AllReadyH.cons rfl (fun K hK => ?_) AllReadyH.nil)
  ·
   skip
   go_simp
   refine (toTranslator _ o1 t1 _ (HU1.out.below (HB_3.out.trans (H.out.2.1.mono HB_3.out.size))) HSM1.out.1).mono ?_
   rintro e v9 ⟨y9, rfl, hI, hb⟩
   have hJ := (Ints.read hI)
   obtain ⟨x1d, x1c, rfl, -, -⟩ := hI
   have Hn := Lib.hid (H.out.conv HKP.out (stA stT stE) hb (R2 := fun v => IntR v (.slice x1d o1.length x1c) o1) hJ)
   refine hK.out _ _ Hn.out.1 (fun hq => ?_)
   clear hK K hJ hb hq
   try simp only [qA, qB, qC, Act.put, qD, qE, qF]
   clear H
   revert Hn; revert bb1; revert bb0; revert x1c; revert x1d; revert x0c; revert x0d; revert v9; exact k201
  ·
   skip
   go_simp
   have Hn := Lib.hid (H.out.new2 HKP.out (stA stT stE))
   refine hK.out _ _ Hn.out.1 (fun hq => ?_)
   clear hK K hq
   try simp only [qA, qB, qC, Act.put, qD, qE, qF]
   exact k1012 _ _ _ _ _ _ Hn
  intro v x0d x0c bb0 bb2 H
  refine wpAnyH_ready (rs := [3, 13]) (by kernel_rfl) (by simp) ?_
  refine AllReadyH.cons rfl (fun K hK => ?_) (AllReadyH.cons rfl (fun K hK => ?_) AllReadyH.nil)
  ·
   skip
   go_simp
   refine (toTranslator _ o1 t1 _ (HU1.out.below (HB_3.out.trans (H.out.2.1.mono HB_3.out.size))) HSM1.out.1).mono ?_
   rintro e v9 ⟨y9, rfl, hI, hb⟩
   have hJ := (Ints.read hI)
   obtain ⟨x1d, x1c, rfl, -, -⟩ := hI
   have Hn := Lib.hid (H.out.conv HKP.out (stA stT stE) hb (R2 := fun v => IntR v (.slice x1d o1.length x1c) o1) hJ)
   refine hK.out _ _ Hn.out.1 (fun hq => ?_)
   clear hK K hJ hb hq
   try simp only [qA, qB, qC, Act.put, qD, qE, qF]
   clear H
   revert Hn; revert bb2; revert bb0; revert x1c; revert x1d; revert x0c; revert x0d; revert v9; exact k202
  ·
   skip
   go_simp
   have Hn := Lib.hid (H.out.new1 HKP.out (stA stT stE))
   refine hK.out _ _ Hn.out.1 (fun hq => ?_)
   clear hK K hq
   try simp only [qA, qB, qC, Act.put, qD, qE, qF]
   exact k1012 _ _ _ _ _ _ Hn
  intro v x0d x0c bb1 bb2 H
  refine wpAnyH_ready (rs := [3, 12]) (by kernel_rfl) (by simp) ?_
  refine AllReadyH.cons rfl (fun K hK => ?_) (AllReadyH.cons rfl (fun K hK => ?_) AllReadyH.nil)
  ·
   skip
   go_simp
   refine (toTranslator _ o1 t1 _ (HU1.out.below (HB_3.out.trans (H.out.2.1.mono HB_3.out.size))) HSM1.out.1).mono ?_
   rintro e v9 ⟨y9, rfl, hI, hb⟩
   have hJ := (Ints.read hI)
   obtain ⟨x1d, x1c, rfl, -, -⟩ := hI
   have Hn := Lib.hid (H.out.conv HKP.out (stA stT stE) hb (R2 := fun v => IntR v (.slice x1d o1.length x1c) o1) hJ)
   refine hK.out _ _ Hn.out.1 (fun hq => ?_)
   clear hK K hJ hb hq
   try simp only [qA, qB, qC, Act.put, qD, qE, qF]
   clear H
   revert Hn; revert bb2; revert bb1; revert x1c; revert x1d; revert x0c; revert x0d; revert v9; exact k212
  ·
   skip
   go_simp
   have Hn := Lib.hid (H.out.new0 HKP.out (stA stT stE))
   refine hK.out _ _ Hn.out.1 (fun hq => ?_)
   clear hK K hq
   try simp only [qA, qB, qC, Act.put, qD, qE, qF]
   exact k1012 _ _ _ _ _ _ Hn
  intro v x0d x0c x1d x1c bb0 H
  refine wpAnyH_ready (rs := [5, 13, 14]) (by kernel_rfl) (by simp) ?_
  refine AllReadyH.cons rfl (fun K hK => ?_) (AllReadyH.cons rfl (fun K hK => ?_) (AllReadyH.cons rfl (fun K hK => ?_) AllReadyH.nil))
  ·
   skip
   go_simp
   refine (toEntry _ o2 t2 _ (HU2.out.below (HB_3.out.trans (H.out.2.1.mono HB_3.out.size))) HSM2.out.1).mono ?_
   rintro e v9 ⟨y9, rfl, hI, hb⟩
   have hJ := (Ints.read hI)
   obtain ⟨x2d, x2c, rfl, -, -⟩ := hI
   have Hn := Lib.hid (H.out.conv HKP.out (stA (stA stT stE) stI) hb (R2 := fun v => IntR v (.slice x2d o2.length x2c) o2) hJ)
   refine hK.out _ _ Hn.out.1 (fun hq => ?_)
   clear hK K hJ hb hq
   try simp only [qA, qB, qC, Act.put, qD, qE, qF]
   clear H
   revert Hn; revert bb0; revert x2c; revert x2d; revert x1c; revert x1d; revert x0c; revert x0d; revert v9; exact k30
  ·
   skip
   go_simp
   have Hn := Lib.hid (H.out.new1 HKP.out (stA (stA stT stE) stI))
   refine hK.out _ _ Hn.out.1 (fun hq => ?_)
   clear hK K hq
   try simp only [qA, qB, qC, Act.put, qD, qE, qF]
   exact k201 _ _ _ _ _ _ _ Hn
  ·
   skip
   go_simp
   have Hn := Lib.hid (H.out.new2 HKP.out (stA (stA stT stE) stI))
   refine hK.out _ _ Hn.out.1 (fun hq => ?_)
   clear hK K hq
   try simp only [qA, qB, qC, Act.put, qD, qE, qF]
   exact k202 _ _ _ _ _ _ _ Hn
  intro v x0d x0c x1d x1c bb1 H
  refine wpAnyH_ready (rs := [5, 12, 14]) (by kernel_rfl) (by simp) ?_
  refine AllReadyH.cons rfl (fun K hK => ?_) (AllReadyH.cons rfl (fun K hK => ?_) (AllReadyH.cons rfl (fun K hK => ?_) AllReadyH.nil))
  ·
   skip
   go_simp
   refine (toEntry _ o2 t2 _ (HU2.out.below (HB_3.out.trans (H.out.2.1.mono HB_3.out.size))) HSM2.out.1).mono ?_
   rintro e v9 ⟨y9, rfl, hI, hb⟩
   have hJ := (Ints.read hI)
   obtain ⟨x2d, x2c, rfl, -, -⟩ := hI
   have Hn := Lib.hid (H.out.conv HKP.out (stA (stA stT stE) stI) hb (R2 := fun v => IntR v (.slice x2d o2.length x2c) o2) hJ)
   refine hK.out _ _ Hn.out.1 (fun hq => ?_)
   clear hK K hJ hb hq
   try simp only [qA, qB, qC, Act.put, qD, qE, qF]
   clear H
   revert Hn; revert bb1; revert x2c; revert x2d; revert x1c; revert x1d; revert x0c; revert x0d; revert v9; exact k31
  ·
   skip
   go_simp
   have Hn := Lib.hid (H.out.new0 HKP.out (stA (stA stT stE) stI))
   refine hK.out _ _ Hn.out.1 (fun hq => ?_)
   clear hK K hq
   try simp only [qA, qB, qC, Act.put, qD, qE, qF]
   exact k201 _ _ _ _ _ _ _ Hn
  ·
   skip
   go_simp
   have Hn := Lib.hid (H.out.new2 HKP.out (stA (stA stT stE) stI))
   refine hK.out _ _ Hn.out.1 (fun hq => ?_)
   clear hK K hq
   try simp only [qA, qB, qC, Act.put, qD, qE, qF]
   exact k212 _ _ _ _ _ _ _ Hn
  intro v x0d x0c x1d x1c bb2 H
  refine wpAnyH_ready (rs := [5, 12, 13]) (by kernel_rfl) (by simp) ?_
  refine AllReadyH.cons rfl (fun K hK => ?_) (AllReadyH.cons rfl (fun K hK => ?_) (AllReadyH.cons rfl (fun K hK => ?_) AllReadyH.nil))
  ·
   skip
   go_simp
   refine (toEntry _ o2 t2 _ (HU2.out.below (HB_3.out.trans (H.out.2.1.mono HB_3.out.size))) HSM2.out.1).mono ?_
   rintro e v9 ⟨y9, rfl, hI, hb⟩
   have hJ := (Ints.read hI)
   obtain ⟨x2d, x2c, rfl, -, -⟩ := hI
   have Hn := Lib.hid (H.out.conv HKP.out (stA (stA stT stE) stI) hb (R2 := fun v => IntR v (.slice x2d o2.length x2c) o2) hJ)
   refine hK.out _ _ Hn.out.1 (fun hq => ?_)
   clear hK K hJ hb hq
   try simp only [qA, qB, qC, Act.put, qD, qE, qF]
   clear H
   revert Hn; revert bb2; revert x2c; revert x2d; revert x1c; revert x1d; revert x0c; revert x0d; revert v9; exact k32
  ·
   skip
   go_simp
   have Hn := Lib.hid (H.out.new0 HKP.out (stA (stA stT stE) stI))
   refine hK.out _ _ Hn.out.1 (fun hq => ?_)
   clear hK K hq
   try simp only [qA, qB, qC, Act.put, qD, qE, qF]
   exact k202 _ _ _ _ _ _ _ Hn
  ·
   skip
   go_simp
   have Hn := Lib.hid (H.out.new1 HKP.out (stA (stA stT stE) stI))
   refine hK.out _ _ Hn.out.1 (fun hq => ?_)
   clear hK K hq
   try simp only [qA, qB, qC, Act.put, qD, qE, qF]
   exact k212 _ _ _ _ _ _ _ Hn
  intro v x0d x0c x1d x1c x2d x2c H
  refine wpAnyH_ready (rs := [6, 12, 13, 14]) (by kernel_rfl) (by simp) ?_
  refine AllReadyH.cons rfl (fun K hK => ?_) (AllReadyH.cons rfl (fun K hK => ?_) (AllReadyH.cons rfl (fun K hK => ?_) (AllReadyH.cons rfl (fun K hK => ?_) AllReadyH.nil)))
  ·
   skip
   go_simp
   refine ((spec_redefine _ _ _ l0 o1 t1 o2 t2 _ H.out.2.2.1.1.1.2 H.out.2.2.1.1.2 H.out.2.2.1.2 HSM0.out HSM2.out.1 HSM2.out.2).mono (rf_of HR.out (Nat.le_trans HLEN.out.2 (by decide)))).mono ?_
   rintro e v9 ⟨s0d, s0c, s1d, s1c, rfl, hrow0, hrow1, hb⟩
   obtain ⟨lo, hi, hn, ho⟩ : ∃ lo hi : Nat, Sx w3 (K_law_redefine w a0d a0c l0 a1d a1c o1 t1 a2d a2c o2 t2) (fun v => (w3.heap.size ≤ lo ∧ hi ≤ v.heap.size) ∧ Ents v (BetX lo hi (.slice s1d nx.length s1c)) (.slice s0d bk.length s0c) bk ∧ Ints v (BetO lo hi (.slice s1d nx.length s1c)) (.slice s1d nx.length s1c) nx) none none none v9 ∧ Outs3 lo hi none none none := ⟨v.heap.size, v9.heap.size, H.out.call HKP.out hb ⟨⟨H.out.2.1.size, Nat.le_refl _⟩, hrow0, hrow1⟩, H.out.2.2.2.outs _⟩
   have Hn := Lib.hid hn; have HOn := Lib.hid ho
   clear hn ho hb hrow0 hrow1
   refine hK.out _ _ Hn.out.1 (fun hSn => ?_)
   clear hK K
   try simp only [qA, qB, qC, Act.put, qD, qE, qF]
   refine wpAnyH_take (i := 7) (v := .tuple #[.agg #[.slice s0d bk.length s0c], .agg #[.slice s1d nx.length s1c, .string (S sc)], .agg #[.int .i64 en, .string (S et)], .bool ok]) rfl (by kernel_rfl) (by kernel_rfl) (by kernel_rfl) (fun _ _ _ h => h) (Or.inl ⟨by rfl, fun z hz => ?_⟩) hSn ?_
   ·
    obtain ⟨z0q, z1q, z2q, z3q, z4q⟩ := hz
    go_simp
   try simp only [qA, qB, qC, Act.put, qD, qE, qF]
   refine wpAnyH_take (i := 8) (v := .agg #[.slice s0d bk.length s0c]) rfl (by kernel_rfl) (by kernel_rfl) (by kernel_rfl) (fun _ _ _ h => h) (Or.inl ⟨by rfl, fun z hz => ?_⟩) hSn ?_
   ·
    obtain ⟨z0q, z1q, z2q, z3q, z4q⟩ := hz
    go_simp
   try simp only [qA, qB, qC, Act.put, qD, qE, qF]
   refine wpAnyH_take (i := 9) (v := .agg #[.slice s1d nx.length s1c, .string (S sc)]) rfl (by kernel_rfl) (by kernel_rfl) (by kernel_rfl) (fun _ _ _ h => h) (Or.inl ⟨by rfl, fun z hz => ?_⟩) hSn ?_
   ·
    obtain ⟨z0q, z1q, z2q, z3q, z4q⟩ := hz
    go_simp
   try simp only [qA, qB, qC, Act.put, qD, qE, qF]
   refine wpAnyH_take (i := 10) (v := .agg #[.int .i64 en, .string (S et)]) rfl (by kernel_rfl) (by kernel_rfl) (by kernel_rfl) (fun _ _ _ h => h) (Or.inl ⟨by rfl, fun z hz => ?_⟩) hSn ?_
   ·
    obtain ⟨z0q, z1q, z2q, z3q, z4q⟩ := hz
    go_simp
   try simp only [qA, qB, qC, Act.put, qD, qE, qF]
   refine wpAnyH_take (i := 11) (v := .bool ok) rfl (by kernel_rfl) (by kernel_rfl) (by kernel_rfl) (fun _ _ _ h => h) (Or.inl ⟨by rfl, fun z hz => ?_⟩) hSn ?_
   ·
    obtain ⟨z0q, z1q, z2q, z3q, z4q⟩ := hz
    go_simp
   try simp only [qA, qB, qC, Act.put, qD, qE, qF]
   clear H hSn
   revert HOn; revert Hn; revert hi; revert lo; revert s1c; revert s1d; revert s0c; revert s0d; revert x2c; revert x2d; revert x1c; revert x1d; revert x0c; revert x0d; revert v9; exact k4
  ·
   skip
   go_simp
   have Hn := Lib.hid (H.out.new0 HKP.out (stA (stA (stA stT stE) stI) stI))
   refine hK.out _ _ Hn.out.1 (fun hq => ?_)
   clear hK K hq
   try simp only [qA, qB, qC, Act.put, qD, qE, qF]
   exact k30 _ _ _ _ _ _ _ _ Hn
  ·
   skip
   go_simp
   have Hn := Lib.hid (H.out.new1 HKP.out (stA (stA (stA stT stE) stI) stI))
   refine hK.out _ _ Hn.out.1 (fun hq => ?_)
   clear hK K hq
   try simp only [qA, qB, qC, Act.put, qD, qE, qF]
   exact k31 _ _ _ _ _ _ _ _ Hn
  ·
   skip
   go_simp
   have Hn := Lib.hid (H.out.new2 HKP.out (stA (stA (stA stT stE) stI) stI))
   refine hK.out _ _ Hn.out.1 (fun hq => ?_)
   clear hK K hq
   try simp only [qA, qB, qC, Act.put, qD, qE, qF]
   exact k32 _ _ _ _ _ _ _ _ Hn
  intro v x0d x0c bb0 bb1 bb2 H
  refine wpAnyH_ready (rs := [3]) (by kernel_rfl) (by simp) ?_
  refine AllReadyH.cons rfl (fun K hK => ?_) AllReadyH.nil
  ·
   skip
   go_simp
   refine (toTranslator _ o1 t1 _ (HU1.out.below (HB_3.out.trans (H.out.2.1.mono HB_3.out.size))) HSM1.out.1).mono ?_
   rintro e v9 ⟨y9, rfl, hI, hb⟩
   have hJ := (Ints.read hI)
   obtain ⟨x1d, x1c, rfl, -, -⟩ := hI
   have Hn := Lib.hid (H.out.conv HKP.out (stA stT stE) hb (R2 := fun v => IntR v (.slice x1d o1.length x1c) o1) hJ)
   refine hK.out _ _ Hn.out.1 (fun hq => ?_)
   clear hK K hJ hb hq
   try simp only [qA, qB, qC, Act.put, qD, qE, qF]
   clear H
   revert Hn; revert bb2; revert bb1; revert bb0; revert x1c; revert x1d; revert x0c; revert x0d; revert v9; exact k2012
  intro v x0d x0c x1d x1c bb0 bb1 H
  refine wpAnyH_ready (rs := [5, 14]) (by kernel_rfl) (by simp) ?_
  refine AllReadyH.cons rfl (fun K hK => ?_) (AllReadyH.cons rfl (fun K hK => ?_) AllReadyH.nil)
  ·
   skip
   go_simp
   refine (toEntry _ o2 t2 _ (HU2.out.below (HB_3.out.trans (H.out.2.1.mono HB_3.out.size))) HSM2.out.1).mono ?_
   rintro e v9 ⟨y9, rfl, hI, hb⟩
   have hJ := (Ints.read hI)
   obtain ⟨x2d, x2c, rfl, -, -⟩ := hI
   have Hn := Lib.hid (H.out.conv HKP.out (stA (stA stT stE) stI) hb (R2 := fun v => IntR v (.slice x2d o2.length x2c) o2) hJ)
   refine hK.out _ _ Hn.out.1 (fun hq => ?_)
   clear hK K hJ hb hq
   try simp only [qA, qB, qC, Act.put, qD, qE, qF]
   clear H
   revert Hn; revert bb1; revert bb0; revert x2c; revert x2d; revert x1c; revert x1d; revert x0c; revert x0d; revert v9; exact k301
  ·
   skip
   go_simp
   have Hn := Lib.hid (H.out.new2 HKP.out (stA (stA stT stE) stI))
   refine hK.out _ _ Hn.out.1 (fun hq => ?_)
   clear hK K hq
   try simp only [qA, qB, qC, Act.put, qD, qE, qF]
   exact k2012 _ _ _ _ _ _ _ _ Hn
  intro v x0d x0c x1d x1c bb0 bb2 H
  refine wpAnyH_ready (rs := [5, 13]) (by kernel_rfl) (by simp) ?_
  refine AllReadyH.cons rfl (fun K hK => ?_) (AllReadyH.cons rfl (fun K hK => ?_) AllReadyH.nil)
  ·
   skip
   go_simp
   refine (toEntry _ o2 t2 _ (HU2.out.below (HB_3.out.trans (H.out.2.1.mono HB_3.out.size))) HSM2.out.1).mono ?_
   rintro e v9 ⟨y9, rfl, hI, hb⟩
   have hJ := (Ints.read hI)
   obtain ⟨x2d, x2c, rfl, -, -⟩ := hI
   have Hn := Lib.hid (H.out.conv HKP.out (stA (stA stT stE) stI) hb (R2 := fun v => IntR v (.slice x2d o2.length x2c) o2) hJ)
   refine hK.out _ _ Hn.out.1 (fun hq => ?_)
   clear hK K hJ hb hq
   try simp only [qA, qB, qC, Act.put, qD, qE, qF]
   clear H
   revert Hn; revert bb2; revert bb0; revert x2c; revert x2d; revert x1c; revert x1d; revert x0c; revert x0d; revert v9; exact k302
  ·
   skip
   go_simp
   have Hn := Lib.hid (H.out.new1 HKP.out (stA (stA stT stE) stI))
   refine hK.out _ _ Hn.out.1 (fun hq => ?_)
   clear hK K hq
   try simp only [qA, qB, qC, Act.put, qD, qE, qF]
   exact k2012 _ _ _ _ _ _ _ _ Hn
  intro v x0d x0c x1d x1c bb1 bb2 H
  refine wpAnyH_ready (rs := [5, 12]) (by kernel_rfl) (by simp) ?_
  refine AllReadyH.cons rfl (fun K hK => ?_) (AllReadyH.cons rfl (fun K hK => ?_) AllReadyH.nil)
  ·
   skip
   go_simp
   refine (toEntry _ o2 t2 _ (HU2.out.below (HB_3.out.trans (H.out.2.1.mono HB_3.out.size))) HSM2.out.1).mono ?_
   rintro e v9 ⟨y9, rfl, hI, hb⟩
   have hJ := (Ints.read hI)
   obtain ⟨x2d, x2c, rfl, -, -⟩ := hI
   have Hn := Lib.hid (H.out.conv HKP.out (stA (stA stT stE) stI) hb (R2 := fun v => IntR v (.slice x2d o2.length x2c) o2) hJ)
   refine hK.out _ _ Hn.out.1 (fun hq => ?_)
   clear hK K hJ hb hq
   try simp only [qA, qB, qC, Act.put, qD, qE, qF]
   clear H
   revert Hn; revert bb2; revert bb1; revert x2c; revert x2d; revert x1c; revert x1d; revert x0c; revert x0d; revert v9; exact k312
  ·
   skip
   go_simp
   have Hn := Lib.hid (H.out.new0 HKP.out (stA (stA stT stE) stI))
   refine hK.out _ _ Hn.out.1 (fun hq => ?_)
   clear hK K hq
   try simp only [qA, qB, qC, Act.put, qD, qE, qF]
   exact k2012 _ _ _ _ _ _ _ _ Hn
  intro v x0d x0c x1d x1c x2d x2c bb0 H
  refine wpAnyH_ready (rs := [6, 13, 14]) (by kernel_rfl) (by simp) ?_
  refine AllReadyH.cons rfl (fun K hK => ?_) (AllReadyH.cons rfl (fun K hK => ?_) (AllReadyH.cons rfl (fun K hK => ?_) AllReadyH.nil))
  ·
   skip
   go_simp
   refine ((spec_redefine _ _ _ l0 o1 t1 o2 t2 _ H.out.2.2.1.1.1.2 H.out.2.2.1.1.2 H.out.2.2.1.2 HSM0.out HSM2.out.1 HSM2.out.2).mono (rf_of HR.out (Nat.le_trans HLEN.out.2 (by decide)))).mono ?_
   rintro e v9 ⟨s0d, s0c, s1d, s1c, rfl, hrow0, hrow1, hb⟩
   obtain ⟨lo, hi, hn, ho⟩ : ∃ lo hi : Nat, Sx w3 (K_law_redefine w a0d a0c l0 a1d a1c o1 t1 a2d a2c o2 t2) (fun v => (w3.heap.size ≤ lo ∧ hi ≤ v.heap.size) ∧ Ents v (BetX lo hi (.slice s1d nx.length s1c)) (.slice s0d bk.length s0c) bk ∧ Ints v (BetO lo hi (.slice s1d nx.length s1c)) (.slice s1d nx.length s1c) nx) (some bb0) none none v9 ∧ Outs3 lo hi (some bb0) none none := ⟨v.heap.size, v9.heap.size, H.out.call HKP.out hb ⟨⟨H.out.2.1.size, Nat.le_refl _⟩, hrow0, hrow1⟩, H.out.2.2.2.outs _⟩
   have Hn := Lib.hid hn; have HOn := Lib.hid ho
   clear hn ho hb hrow0 hrow1
   refine hK.out _ _ Hn.out.1 (fun hSn => ?_)
   clear hK K
   try simp only [qA, qB, qC, Act.put, qD, qE, qF]
   refine wpAnyH_take (i := 7) (v := .tuple #[.agg #[.slice s0d bk.length s0c], .agg #[.slice s1d nx.length s1c, .string (S sc)], .agg #[.int .i64 en, .string (S et)], .bool ok]) rfl (by kernel_rfl) (by kernel_rfl) (by kernel_rfl) (fun _ _ _ h => h) (Or.inl ⟨by rfl, fun z hz => ?_⟩) hSn ?_
   ·
    obtain ⟨z0q, z1q, z2q, z3q, z4q⟩ := hz
    go_simp
   try simp only [qA, qB, qC, Act.put, qD, qE, qF]
   refine wpAnyH_take (i := 8) (v := .agg #[.slice s0d bk.length s0c]) rfl (by kernel_rfl) (by kernel_rfl) (by kernel_rfl) (fun _ _ _ h => h) (Or.inl ⟨by rfl, fun z hz => ?_⟩) hSn ?_
   ·
    obtain ⟨z0q, z1q, z2q, z3q, z4q⟩ := hz
    go_simp
   try simp only [qA, qB, qC, Act.put, qD, qE, qF]
   refine wpAnyH_take (i := 9) (v := .agg #[.slice s1d nx.length s1c, .string (S sc)]) rfl (by kernel_rfl) (by kernel_rfl) (by kernel_rfl) (fun _ _ _ h => h) (Or.inl ⟨by rfl, fun z hz => ?_⟩) hSn ?_
   ·
    obtain ⟨z0q, z1q, z2q, z3q, z4q⟩ := hz
    go_simp
   try simp only [qA, qB, qC, Act.put, qD, qE, qF]
   refine wpAnyH_take (i := 10) (v := .agg #[.int .i64 en, .string (S et)]) rfl (by kernel_rfl) (by kernel_rfl) (by kernel_rfl) (fun _ _ _ h => h) (Or.inl ⟨by rfl, fun z hz => ?_⟩) hSn ?_
   ·
    obtain ⟨z0q, z1q, z2q, z3q, z4q⟩ := hz
    go_simp
   try simp only [qA, qB, qC, Act.put, qD, qE, qF]
   refine wpAnyH_take (i := 11) (v := .bool ok) rfl (by kernel_rfl) (by kernel_rfl) (by kernel_rfl) (fun _ _ _ h => h) (Or.inl ⟨by rfl, fun z hz => ?_⟩) hSn ?_
   ·
    obtain ⟨z0q, z1q, z2q, z3q, z4q⟩ := hz
    go_simp
   try simp only [qA, qB, qC, Act.put, qD, qE, qF]
   clear H hSn
   revert HOn; revert Hn; revert bb0; revert hi; revert lo; revert s1c; revert s1d; revert s0c; revert s0d; revert x2c; revert x2d; revert x1c; revert x1d; revert x0c; revert x0d; revert v9; exact k40
  ·
   skip
   go_simp
   have Hn := Lib.hid (H.out.new1 HKP.out (stA (stA (stA stT stE) stI) stI))
   refine hK.out _ _ Hn.out.1 (fun hq => ?_)
   clear hK K hq
   try simp only [qA, qB, qC, Act.put, qD, qE, qF]
   exact k301 _ _ _ _ _ _ _ _ _ Hn
  ·
   skip
   go_simp
   have Hn := Lib.hid (H.out.new2 HKP.out (stA (stA (stA stT stE) stI) stI))
   refine hK.out _ _ Hn.out.1 (fun hq => ?_)
   clear hK K hq
   try simp only [qA, qB, qC, Act.put, qD, qE, qF]
   exact k302 _ _ _ _ _ _ _ _ _ Hn
  intro v x0d x0c x1d x1c x2d x2c bb1 H
  refine wpAnyH_ready (rs := [6, 12, 14]) (by kernel_rfl) (by simp) ?_
  refine AllReadyH.cons rfl (fun K hK => ?_) (AllReadyH.cons rfl (fun K hK => ?_) (AllReadyH.cons rfl (fun K hK => ?_) AllReadyH.nil))
  ·
   skip
   go_simp
   refine ((spec_redefine _ _ _ l0 o1 t1 o2 t2 _ H.out.2.2.1.1.1.2 H.out.2.2.1.1.2 H.out.2.2.1.2 HSM0.out HSM2.out.1 HSM2.out.2).mono (rf_of HR.out (Nat.le_trans HLEN.out.2 (by decide)))).mono ?_
   rintro e v9 ⟨s0d, s0c, s1d, s1c, rfl, hrow0, hrow1, hb⟩
   obtain ⟨lo, hi, hn, ho⟩ : ∃ lo hi : Nat, Sx w3 (K_law_redefine w a0d a0c l0 a1d a1c o1 t1 a2d a2c o2 t2) (fun v => (w3.heap.size ≤ lo ∧ hi ≤ v.heap.size) ∧ Ents v (BetX lo hi (.slice s1d nx.length s1c)) (.slice s0d bk.length s0c) bk ∧ Ints v (BetO lo hi (.slice s1d nx.length s1c)) (.slice s1d nx.length s1c) nx) none (some bb1) none v9 ∧ Outs3 lo hi none (some bb1) none := ⟨v.heap.size, v9.heap.size, H.out.call HKP.out hb ⟨⟨H.out.2.1.size, Nat.le_refl _⟩, hrow0, hrow1⟩, H.out.2.2.2.outs _⟩
   have Hn := Lib.hid hn; have HOn := Lib.hid ho
   clear hn ho hb hrow0 hrow1
   refine hK.out _ _ Hn.out.1 (fun hSn => ?_)
   clear hK K
   try simp only [qA, qB, qC, Act.put, qD, qE, qF]
   refine wpAnyH_take (i := 7) (v := .tuple #[.agg #[.slice s0d bk.length s0c], .agg #[.slice s1d nx.length s1c, .string (S sc)], .agg #[.int .i64 en, .string (S et)], .bool ok]) rfl (by kernel_rfl) (by kernel_rfl) (by kernel_rfl) (fun _ _ _ h => h) (Or.inl ⟨by rfl, fun z hz => ?_⟩) hSn ?_
   ·
    obtain ⟨z0q, z1q, z2q, z3q, z4q⟩ := hz
    go_simp
   try simp only [qA, qB, qC, Act.put, qD, qE, qF]
   refine wpAnyH_take (i := 8) (v := .agg #[.slice s0d bk.length s0c]) rfl (by kernel_rfl) (by kernel_rfl) (by kernel_rfl) (fun _ _ _ h => h) (Or.inl ⟨by rfl, fun z hz => ?_⟩) hSn ?_
   ·
    obtain ⟨z0q, z1q, z2q, z3q, z4q⟩ := hz
    go_simp
   try simp only [qA, qB, qC, Act.put, qD, qE, qF]
   refine wpAnyH_take (i := 9) (v := .agg #[.slice s1d nx.length s1c, .string (S sc)]) rfl (by kernel_rfl) (by kernel_rfl) (by kernel_rfl) (fun _ _ _ h => h) (Or.inl ⟨by rfl, fun z hz => ?_⟩) hSn ?_
   ·
    obtain ⟨z0q, z1q, z2q, z3q, z4q⟩ := hz
    go_simp
   try simp only [qA, qB, qC, Act.put, qD, qE, qF]
   refine wpAnyH_take (i := 10) (v := .agg #[.int .i64 en, .string (S et)]) rfl (by kernel_rfl) (by kernel_rfl) (by kernel_rfl) (fun _ _ _ h => h) (Or.inl ⟨by rfl, fun z hz => ?_⟩) hSn ?_
   ·
    obtain ⟨z0q, z1q, z2q, z3q, z4q⟩ := hz
    go_simp
   try simp only [qA, qB, qC, Act.put, qD, qE, qF]
   refine wpAnyH_take (i := 11) (v := .bool ok) rfl (by kernel_rfl) (by kernel_rfl) (by kernel_rfl) (fun _ _ _ h => h) (Or.inl ⟨by rfl, fun z hz => ?_⟩) hSn ?_
   ·
    obtain ⟨z0q, z1q, z2q, z3q, z4q⟩ := hz
    go_simp
   try simp only [qA, qB, qC, Act.put, qD, qE, qF]
   clear H hSn
   revert HOn; revert Hn; revert bb1; revert hi; revert lo; revert s1c; revert s1d; revert s0c; revert s0d; revert x2c; revert x2d; revert x1c; revert x1d; revert x0c; revert x0d; revert v9; exact k41
  ·
   skip
   go_simp
   have Hn := Lib.hid (H.out.new0 HKP.out (stA (stA (stA stT stE) stI) stI))
   refine hK.out _ _ Hn.out.1 (fun hq => ?_)
   clear hK K hq
   try simp only [qA, qB, qC, Act.put, qD, qE, qF]
   exact k301 _ _ _ _ _ _ _ _ _ Hn
  ·
   skip
   go_simp
   have Hn := Lib.hid (H.out.new2 HKP.out (stA (stA (stA stT stE) stI) stI))
   refine hK.out _ _ Hn.out.1 (fun hq => ?_)
   clear hK K hq
   try simp only [qA, qB, qC, Act.put, qD, qE, qF]
   exact k312 _ _ _ _ _ _ _ _ _ Hn
  intro v x0d x0c x1d x1c x2d x2c bb2 H
  refine wpAnyH_ready (rs := [6, 12, 13]) (by kernel_rfl) (by simp) ?_
  refine AllReadyH.cons rfl (fun K hK => ?_) (AllReadyH.cons rfl (fun K hK => ?_) (AllReadyH.cons rfl (fun K hK => ?_) AllReadyH.nil))
  ·
   skip
   go_simp
   refine ((spec_redefine _ _ _ l0 o1 t1 o2 t2 _ H.out.2.2.1.1.1.2 H.out.2.2.1.1.2 H.out.2.2.1.2 HSM0.out HSM2.out.1 HSM2.out.2).mono (rf_of HR.out (Nat.le_trans HLEN.out.2 (by decide)))).mono ?_
   rintro e v9 ⟨s0d, s0c, s1d, s1c, rfl, hrow0, hrow1, hb⟩
   obtain ⟨lo, hi, hn, ho⟩ : ∃ lo hi : Nat, Sx w3 (K_law_redefine w a0d a0c l0 a1d a1c o1 t1 a2d a2c o2 t2) (fun v => (w3.heap.size ≤ lo ∧ hi ≤ v.heap.size) ∧ Ents v (BetX lo hi (.slice s1d nx.length s1c)) (.slice s0d bk.length s0c) bk ∧ Ints v (BetO lo hi (.slice s1d nx.length s1c)) (.slice s1d nx.length s1c) nx) none none (some bb2) v9 ∧ Outs3 lo hi none none (some bb2) := ⟨v.heap.size, v9.heap.size, H.out.call HKP.out hb ⟨⟨H.out.2.1.size, Nat.le_refl _⟩, hrow0, hrow1⟩, H.out.2.2.2.outs _⟩
   have Hn := Lib.hid hn; have HOn := Lib.hid ho
   clear hn ho hb hrow0 hrow1
   refine hK.out _ _ Hn.out.1 (fun hSn => ?_)
   clear hK K
   try simp only [qA, qB, qC, Act.put, qD, qE, qF]
   refine wpAnyH_take (i := 7) (v := .tuple #[.agg #[.slice s0d bk.length s0c], .agg #[.slice s1d nx.length s1c, .string (S sc)], .agg #[.int .i64 en, .string (S et)], .bool ok]) rfl (by kernel_rfl) (by kernel_rfl) (by kernel_rfl) (fun _ _ _ h => h) (Or.inl ⟨by rfl, fun z hz => ?_⟩) hSn ?_
   ·
    obtain ⟨z0q, z1q, z2q, z3q, z4q⟩ := hz
    go_simp
   try simp only [qA, qB, qC, Act.put, qD, qE, qF]
   refine wpAnyH_take (i := 8) (v := .agg #[.slice s0d bk.length s0c]) rfl (by kernel_rfl) (by kernel_rfl) (by kernel_rfl) (fun _ _ _ h => h) (Or.inl ⟨by rfl, fun z hz => ?_⟩) hSn ?_
   ·
    obtain ⟨z0q, z1q, z2q, z3q, z4q⟩ := hz
    go_simp
   try simp only [qA, qB, qC, Act.put, qD, qE, qF]
   refine wpAnyH_take (i := 9) (v := .agg #[.slice s1d nx.length s1c, .string (S sc)]) rfl (by kernel_rfl) (by kernel_rfl) (by kernel_rfl) (fun _ _ _ h => h) (Or.inl ⟨by rfl, fun z hz => ?_⟩) hSn ?_
   ·
    obtain ⟨z0q, z1q, z2q, z3q, z4q⟩ := hz
    go_simp
   try simp only [qA, qB, qC, Act.put, qD, qE, qF]
   refine wpAnyH_take (i := 10) (v := .agg #[.int .i64 en, .string (S et)]) rfl (by kernel_rfl) (by kernel_rfl) (by kernel_rfl) (fun _ _ _ h => h) (Or.inl ⟨by rfl, fun z hz => ?_⟩) hSn ?_
   ·
    obtain ⟨z0q, z1q, z2q, z3q, z4q⟩ := hz
    go_simp
   try simp only [qA, qB, qC, Act.put, qD, qE, qF]
   refine wpAnyH_take (i := 11) (v := .bool ok) rfl (by kernel_rfl) (by kernel_rfl) (by kernel_rfl) (fun _ _ _ h => h) (Or.inl ⟨by rfl, fun z hz => ?_⟩) hSn ?_
   ·
    obtain ⟨z0q, z1q, z2q, z3q, z4q⟩ := hz
    go_simp
   try simp only [qA, qB, qC, Act.put, qD, qE, qF]
   clear H hSn
   revert HOn; revert Hn; revert bb2; revert hi; revert lo; revert s1c; revert s1d; revert s0c; revert s0d; revert x2c; revert x2d; revert x1c; revert x1d; revert x0c; revert x0d; revert v9; exact k42
  ·
   skip
   go_simp
   have Hn := Lib.hid (H.out.new0 HKP.out (stA (stA (stA stT stE) stI) stI))
   refine hK.out _ _ Hn.out.1 (fun hq => ?_)
   clear hK K hq
   try simp only [qA, qB, qC, Act.put, qD, qE, qF]
   exact k302 _ _ _ _ _ _ _ _ _ Hn
  ·
   skip
   go_simp
   have Hn := Lib.hid (H.out.new1 HKP.out (stA (stA (stA stT stE) stI) stI))
   refine hK.out _ _ Hn.out.1 (fun hq => ?_)
   clear hK K hq
   try simp only [qA, qB, qC, Act.put, qD, qE, qF]
   exact k312 _ _ _ _ _ _ _ _ _ Hn
  intro v x0d x0c x1d x1c x2d x2c s0d s0c s1d s1c lo hi H HO
  refine wpAnyH_ready (rs := [12, 13, 14]) (by kernel_rfl) (by simp) ?_
  refine AllReadyH.cons rfl (fun K hK => ?_) (AllReadyH.cons rfl (fun K hK => ?_) (AllReadyH.cons rfl (fun K hK => ?_) AllReadyH.nil))
  ·
   skip
   go_simp
   have Hn := Lib.hid (H.out.new0 HKP.out (stF2 entE_ok intE_ok))
   have HOn := Lib.hid (HO.out.new0 H.out.2.2.1.1.2)
   refine hK.out _ _ Hn.out.1 (fun hq => ?_)
   clear hK K hq
   try simp only [qA, qB, qC, Act.put, qD, qE, qF]
   exact k40 _ _ _ _ _ _ _ _ _ _ _ _ _ _ Hn HOn
  ·
   skip
   go_simp
   have Hn := Lib.hid (H.out.new1 HKP.out (stF2 entE_ok intE_ok))
   have HOn := Lib.hid (HO.out.new1 H.out.2.2.1.1.2)
   refine hK.out _ _ Hn.out.1 (fun hq => ?_)
   clear hK K hq
   try simp only [qA, qB, qC, Act.put, qD, qE, qF]
   exact k41 _ _ _ _ _ _ _ _ _ _ _ _ _ _ Hn HOn
  ·
   skip
   go_simp
   have Hn := Lib.hid (H.out.new2 HKP.out (stF2 entE_ok intE_ok))
   have HOn := Lib.hid (HO.out.new2 H.out.2.2.1.1.2)
   refine hK.out _ _ Hn.out.1 (fun hq => ?_)
   clear hK K hq
   try simp only [qA, qB, qC, Act.put, qD, qE, qF]
   exact k42 _ _ _ _ _ _ _ _ _ _ _ _ _ _ Hn HOn
  intro v x0d x0c x1d x1c bb0 bb1 bb2 H
  refine wpAnyH_ready (rs := [5]) (by kernel_rfl) (by simp) ?_
  refine AllReadyH.cons rfl (fun K hK => ?_) AllReadyH.nil
  ·
   skip
   go_simp
   refine (toEntry _ o2 t2 _ (HU2.out.below (HB_3.out.trans (H.out.2.1.mono HB_3.out.size))) HSM2.out.1).mono ?_
   rintro e v9 ⟨y9, rfl, hI, hb⟩
   have hJ := (Ints.read hI)
   obtain ⟨x2d, x2c, rfl, -, -⟩ := hI
   have Hn := Lib.hid (H.out.conv HKP.out (stA (stA stT stE) stI) hb (R2 := fun v => IntR v (.slice x2d o2.length x2c) o2) hJ)
   refine hK.out _ _ Hn.out.1 (fun hq => ?_)
   clear hK K hJ hb hq
   try simp only [qA, qB, qC, Act.put, qD, qE, qF]
   clear H
   revert Hn; revert bb2; revert bb1; revert bb0; revert x2c; revert x2d; revert x1c; revert x1d; revert x0c; revert x0d; revert v9; exact k3012
  intro v x0d x0c x1d x1c x2d x2c bb0 bb1 H
  refine wpAnyH_ready (rs := [6, 14]) (by kernel_rfl) (by simp) ?_
  refine AllReadyH.cons rfl (fun K hK => ?_) (AllReadyH.cons rfl (fun K hK => ?_) AllReadyH.nil)
  ·
   skip
   go_simp
   refine ((spec_redefine _ _ _ l0 o1 t1 o2 t2 _ H.out.2.2.1.1.1.2 H.out.2.2.1.1.2 H.out.2.2.1.2 HSM0.out HSM2.out.1 HSM2.out.2).mono (rf_of HR.out (Nat.le_trans HLEN.out.2 (by decide)))).mono ?_
   rintro e v9 ⟨s0d, s0c, s1d, s1c, rfl, hrow0, hrow1, hb⟩
   obtain ⟨lo, hi, hn, ho⟩ : ∃ lo hi : Nat, Sx w3 (K_law_redefine w a0d a0c l0 a1d a1c o1 t1 a2d a2c o2 t2) (fun v => (w3.heap.size ≤ lo ∧ hi ≤ v.heap.size) ∧ Ents v (BetX lo hi (.slice s1d nx.length s1c)) (.slice s0d bk.length s0c) bk ∧ Ints v (BetO lo hi (.slice s1d nx.length s1c)) (.slice s1d nx.length s1c) nx) (some bb0) (some bb1) none v9 ∧ Outs3 lo hi (some bb0) (some bb1) none := ⟨v.heap.size, v9.heap.size, H.out.call HKP.out hb ⟨⟨H.out.2.1.size, Nat.le_refl _⟩, hrow0, hrow1⟩, H.out.2.2.2.outs _⟩
   have Hn := Lib.hid hn; have HOn := Lib.hid ho
   clear hn ho hb hrow0 hrow1
   refine hK.out _ _ Hn.out.1 (fun hSn => ?_)
   clear hK K
   try simp only [qA, qB, qC, Act.put, qD, qE, qF]
   refine wpAnyH_take (i := 7) (v := .tuple #[.agg #[.slice s0d bk.length s0c], .agg #[.slice s1d nx.length s1c, .string (S sc)], .agg #[.int .i64 en, .string (S et)], .bool ok]) rfl (by kernel_rfl) (by kernel_rfl) (by kernel_rfl) (fun _ _ _ h => h) (Or.inl ⟨by rfl, fun z hz => ?_⟩) hSn ?_
   ·
    obtain ⟨z0q, z1q, z2q, z3q, z4q⟩ := hz
    go_simp
   try simp only [qA, qB, qC, Act.put, qD, qE, qF]
   refine wpAnyH_take (i := 8) (v := .agg #[.slice s0d bk.length s0c]) rfl (by kernel_rfl) (by kernel_rfl) (by kernel_rfl) (fun _ _ _ h => h) (Or.inl ⟨by rfl, fun z hz => ?_⟩) hSn ?_
   ·
    obtain ⟨z0q, z1q, z2q, z3q, z4q⟩ := hz
    go_simp
   try simp only [qA, qB, qC, Act.put, qD, qE, qF]
   refine wpAnyH_take (i := 9) (v := .agg #[.slice s1d nx.length s1c, .string (S sc)]) rfl (by kernel_rfl) (by kernel_rfl) (by kernel_rfl) (fun _ _ _ h => h) (Or.inl ⟨by rfl, fun z hz => ?_⟩) hSn ?_
   ·
    obtain ⟨z0q, z1q, z2q, z3q, z4q⟩ := hz
    go_simp
   try simp only [qA, qB, qC, Act.put, qD, qE, qF]
   refine wpAnyH_take (i := 10) (v := .agg #[.int .i64 en, .string (S et)]) rfl (by kernel_rfl) (by kernel_rfl) (by kernel_rfl) (fun _ _ _ h => h) (Or.inl ⟨by rfl, fun z hz => ?_⟩) hSn ?_
   ·
    obtain ⟨z0q, z1q, z2q, z3q, z4q⟩ := hz
    go_simp
   try simp only [qA, qB, qC, Act.put, qD, qE, qF]
   refine wpAnyH_take (i := 11) (v := .bool ok) rfl (by kernel_rfl) (by kernel_rfl) (by kernel_rfl) (fun _ _ _ h => h) (Or.inl ⟨by rfl, fun z hz => ?_⟩) hSn ?_
   ·
    obtain ⟨z0q, z1q, z2q, z3q, z4q⟩ := hz
    go_simp
   try simp only [qA, qB, qC, Act.put, qD, qE, qF]
   clear H hSn
   revert HOn; revert Hn; revert bb1; revert bb0; revert hi; revert lo; revert s1c; revert s1d; revert s0c; revert s0d; revert x2c; revert x2d; revert x1c; revert x1d; revert x0c; revert x0d; revert v9; exact k401
  ·
   skip
   go_simp
   have Hn := Lib.hid (H.out.new2 HKP.out (stA (stA (stA stT stE) stI) stI))
   refine hK.out _ _ Hn.out.1 (fun hq => ?_)
   clear hK K hq
   try simp only [qA, qB, qC, Act.put, qD, qE, qF]
   exact k3012 _ _ _ _ _ _ _ _ _ _ Hn
  intro v x0d x0c x1d x1c x2d x2c bb0 bb2 H
  refine wpAnyH_ready (rs := [6, 13]) (by kernel_rfl) (by simp) ?_
  refine AllReadyH.cons rfl (fun K hK => ?_) (AllReadyH.cons rfl (fun K hK => ?_) AllReadyH.nil)
  ·
   skip
   go_simp
   refine ((spec_redefine _ _ _ l0 o1 t1 o2 t2 _ H.out.2.2.1.1.1.2 H.out.2.2.1.1.2 H.out.2.2.1.2 HSM0.out HSM2.out.1 HSM2.out.2).mono (rf_of HR.out (Nat.le_trans HLEN.out.2 (by decide)))).mono ?_
   rintro e v9 ⟨s0d, s0c, s1d, s1c, rfl, hrow0, hrow1, hb⟩
   obtain ⟨lo, hi, hn, ho⟩ : ∃ lo hi : Nat, Sx w3 (K_law_redefine w a0d a0c l0 a1d a1c o1 t1 a2d a2c o2 t2) (fun v => (w3.heap.size ≤ lo ∧ hi ≤ v.heap.size) ∧ Ents v (BetX lo hi (.slice s1d nx.length s1c)) (.slice s0d bk.length s0c) bk ∧ Ints v (BetO lo hi (.slice s1d nx.length s1c)) (.slice s1d nx.length s1c) nx) (some bb0) none (some bb2) v9 ∧ Outs3 lo hi (some bb0) none (some bb2) := ⟨v.heap.size, v9.heap.size, H.out.call HKP.out hb ⟨⟨H.out.2.1.size, Nat.le_refl _⟩, hrow0, hrow1⟩, H.out.2.2.2.outs _⟩
   have Hn := Lib.hid hn; have HOn := Lib.hid ho
   clear hn ho hb hrow0 hrow1
   refine hK.out _ _ Hn.out.1 (fun hSn => ?_)
   clear hK K
   try simp only [qA, qB, qC, Act.put, qD, qE, qF]
   refine wpAnyH_take (i := 7) (v := .tuple #[.agg #[.slice s0d bk.length s0c], .agg #[.slice s1d nx.length s1c, .string (S sc)], .agg #[.int .i64 en, .string (S et)], .bool ok]) rfl (by kernel_rfl) (by kernel_rfl) (by kernel_rfl) (fun _ _ _ h => h) (Or.inl ⟨by rfl, fun z hz => ?_⟩) hSn ?_
   ·
    obtain ⟨z0q, z1q, z2q, z3q, z4q⟩ := hz
    go_simp
   try simp only [qA, qB, qC, Act.put, qD, qE, qF]
   refine wpAnyH_take (i := 8) (v := .agg #[.slice s0d bk.length s0c]) rfl (by kernel_rfl) (by kernel_rfl) (by kernel_rfl) (fun _ _ _ h => h) (Or.inl ⟨by rfl, fun z hz => ?_⟩) hSn ?_
   ·
    obtain ⟨z0q, z1q, z2q, z3q, z4q⟩ := hz
    go_simp
   try simp only [qA, qB, qC, Act.put, qD, qE, qF]
   refine wpAnyH_take (i := 9) (v := .agg #[.slice s1d nx.length s1c, .string (S sc)]) rfl (by kernel_rfl) (by kernel_rfl) (by kernel_rfl) (fun _ _ _ h => h) (Or.inl ⟨by rfl, fun z hz => ?_⟩) hSn ?_
   ·
    obtain ⟨z0q, z1q, z2q, z3q, z4q⟩ := hz
    go_simp
   try simp only [qA, qB, qC, Act.put, qD, qE, qF]
   refine wpAnyH_take (i := 10) (v := .agg #[.int .i64 en, .string (S et)]) rfl (by kernel_rfl) (by kernel_rfl) (by kernel_rfl) (fun _ _ _ h => h) (Or.inl ⟨by rfl, fun z hz => ?_⟩) hSn ?_
   ·
    obtain ⟨z0q, z1q, z2q, z3q, z4q⟩ := hz
    go_simp
   try simp only [qA, qB, qC, Act.put, qD, qE, qF]
   refine wpAnyH_take (i := 11) (v := .bool ok) rfl (by kernel_rfl) (by kernel_rfl) (by kernel_rfl) (fun _ _ _ h => h) (Or.inl ⟨by rfl, fun z hz => ?_⟩) hSn ?_
   ·
    obtain ⟨z0q, z1q, z2q, z3q, z4q⟩ := hz
    go_simp
   try simp only [qA, qB, qC, Act.put, qD, qE, qF]
   clear H hSn
   revert HOn; revert Hn; revert bb2; revert bb0; revert hi; revert lo; revert s1c; revert s1d; revert s0c; revert s0d; revert x2c; revert x2d; revert x1c; revert x1d; revert x0c; revert x0d; revert v9; exact k402
  ·
   skip
   go_simp
   have Hn := Lib.hid (H.out.new1 HKP.out (stA (stA (stA stT stE) stI) stI))
   refine hK.out _ _ Hn.out.1 (fun hq => ?_)
   clear hK K hq
   try simp only [qA, qB, qC, Act.put, qD, qE, qF]
   exact k3012 _ _ _ _ _ _ _ _ _ _ Hn
  intro v x0d x0c x1d x1c x2d x2c bb1 bb2 H
  refine wpAnyH_ready (rs := [6, 12]) (by kernel_rfl) (by simp) ?_
  refine AllReadyH.cons rfl (fun K hK => ?_) (AllReadyH.cons rfl (fun K hK => ?_) AllReadyH.nil)
  ·
   skip
   go_simp
   refine ((spec_redefine _ _ _ l0 o1 t1 o2 t2 _ H.out.2.2.1.1.1.2 H.out.2.2.1.1.2 H.out.2.2.1.2 HSM0.out HSM2.out.1 HSM2.out.2).mono (rf_of HR.out (Nat.le_trans HLEN.out.2 (by decide)))).mono ?_
   rintro e v9 ⟨s0d, s0c, s1d, s1c, rfl, hrow0, hrow1, hb⟩
   obtain ⟨lo, hi, hn, ho⟩ : ∃ lo hi : Nat, Sx w3 (K_law_redefine w a0d a0c l0 a1d a1c o1 t1 a2d a2c o2 t2) (fun v => (w3.heap.size ≤ lo ∧ hi ≤ v.heap.size) ∧ Ents v (BetX lo hi (.slice s1d nx.length s1c)) (.slice s0d bk.length s0c) bk ∧ Ints v (BetO lo hi (.slice s1d nx.length s1c)) (.slice s1d nx.length s1c) nx) none (some bb1) (some bb2) v9 ∧ Outs3 lo hi none (some bb1) (some bb2) := ⟨v.heap.size, v9.heap.size, H.out.call HKP.out hb ⟨⟨H.out.2.1.size, Nat.le_refl _⟩, hrow0, hrow1⟩, H.out.2.2.2.outs _⟩
   have Hn := Lib.hid hn; have HOn := Lib.hid ho
   clear hn ho hb hrow0 hrow1
   refine hK.out _ _ Hn.out.1 (fun hSn => ?_)
   clear hK K
   try simp only [qA, qB, qC, Act.put, qD, qE, qF]
   refine wpAnyH_take (i := 7) (v := .tuple #[.agg #[.slice s0d bk.length s0c], .agg #[.slice s1d nx.length s1c, .string (S sc)], .agg #[.int .i64 en, .string (S et)], .bool ok]) rfl (by kernel_rfl) (by kernel_rfl) (by kernel_rfl) (fun _ _ _ h => h) (Or.inl ⟨by rfl, fun z hz => ?_⟩) hSn ?_
   ·
    obtain ⟨z0q, z1q, z2q, z3q, z4q⟩ := hz
    go_simp
   try simp only [qA, qB, qC, Act.put, qD, qE, qF]
   refine wpAnyH_take (i := 8) (v := .agg #[.slice s0d bk.length s0c]) rfl (by kernel_rfl) (by kernel_rfl) (by kernel_rfl) (fun _ _ _ h => h) (Or.inl ⟨by rfl, fun z hz => ?_⟩) hSn ?_
   ·
    obtain ⟨z0q, z1q, z2q, z3q, z4q⟩ := hz
    go_simp
   try simp only [qA, qB, qC, Act.put, qD, qE, qF]
   refine wpAnyH_take (i := 9) (v := .agg #[.slice s1d nx.length s1c, .string (S sc)]) rfl (by kernel_rfl) (by kernel_rfl) (by kernel_rfl) (fun _ _ _ h => h) (Or.inl ⟨by rfl, fun z hz => ?_⟩) hSn ?_
   ·
    obtain ⟨z0q, z1q, z2q, z3q, z4q⟩ := hz
    go_simp
   try simp only [qA, qB, qC, Act.put, qD, qE, qF]
   refine wpAnyH_take (i := 10) (v := .agg #[.int .i64 en, .string (S et)]) rfl (by kernel_rfl) (by kernel_rfl) (by kernel_rfl) (fun _ _ _ h => h) (Or.inl ⟨by rfl, fun z hz => ?_⟩) hSn ?_
   ·
    obtain ⟨z0q, z1q, z2q, z3q, z4q⟩ := hz
    go_simp
   try simp only [qA, qB, qC, Act.put, qD, qE, qF]
   refine wpAnyH_take (i := 11) (v := .bool ok) rfl (by kernel_rfl) (by kernel_rfl) (by kernel_rfl) (fun _ _ _ h => h) (Or.inl ⟨by rfl, fun z hz => ?_⟩) hSn ?_
   ·
    obtain ⟨z0q, z1q, z2q, z3q, z4q⟩ := hz
    go_simp
   try simp only [qA, qB, qC, Act.put, qD, qE, qF]
   clear H hSn
   revert HOn; revert Hn; revert bb2; revert bb1; revert hi; revert lo; revert s1c; revert s1d; revert s0c; revert s0d; revert x2c; revert x2d; revert x1c; revert x1d; revert x0c; revert x0d; revert v9; exact k412
  ·
   skip
   go_simp
   have Hn := Lib.hid (H.out.new0 HKP.out (stA (stA (stA stT stE) stI) stI))
   refine hK.out _ _ Hn.out.1 (fun hq => ?_)
   clear hK K hq
   try simp only [qA, qB, qC, Act.put, qD, qE, qF]
   exact k3012 _ _ _ _ _ _ _ _ _ _ Hn
  intro v x0d x0c x1d x1c x2d x2c s0d s0c s1d s1c lo hi bb0 H HO
  refine wpAnyH_ready (rs := [13, 14]) (by kernel_rfl) (by simp) ?_
  refine AllReadyH.cons rfl (fun K hK => ?_) (AllReadyH.cons rfl (fun K hK => ?_) AllReadyH.nil)
  ·
   skip
   go_simp
   have Hn := Lib.hid (H.out.new1 HKP.out (stF2 entE_ok intE_ok))
   have HOn := Lib.hid (HO.out.new1 H.out.2.2.1.1.2)
   refine hK.out _ _ Hn.out.1 (fun hq => ?_)
   clear hK K hq
   try simp only [qA, qB, qC, Act.put, qD, qE, qF]
   exact k401 _ _ _ _ _ _ _ _ _ _ _ _ _ _ _ Hn HOn
  ·
   skip
   go_simp
   have Hn := Lib.hid (H.out.new2 HKP.out (stF2 entE_ok intE_ok))
   have HOn := Lib.hid (HO.out.new2 H.out.2.2.1.1.2)
   refine hK.out _ _ Hn.out.1 (fun hq => ?_)
   clear hK K hq
   try simp only [qA, qB, qC, Act.put, qD, qE, qF]
   exact k402 _ _ _ _ _ _ _ _ _ _ _ _ _ _ _ Hn HOn
  intro v x0d x0c x1d x1c x2d x2c s0d s0c s1d s1c lo hi bb1 H HO
  refine wpAnyH_ready (rs := [12, 14]) (by kernel_rfl) (by simp) ?_
  refine AllReadyH.cons rfl (fun K hK => ?_) (AllReadyH.cons rfl (fun K hK => ?_) AllReadyH.nil)
  ·
   skip
   go_simp
   have Hn := Lib.hid (H.out.new0 HKP.out (stF2 entE_ok intE_ok))
   have HOn := Lib.hid (HO.out.new0 H.out.2.2.1.1.2)
   refine hK.out _ _ Hn.out.1 (fun hq => ?_)
   clear hK K hq
   try simp only [qA, qB, qC, Act.put, qD, qE, qF]
   exact k401 _ _ _ _ _ _ _ _ _ _ _ _ _ _ _ Hn HOn
  ·
   skip
   go_simp
   have Hn := Lib.hid (H.out.new2 HKP.out (stF2 entE_ok intE_ok))
   have HOn := Lib.hid (HO.out.new2 H.out.2.2.1.1.2)
   refine hK.out _ _ Hn.out.1 (fun hq => ?_)
   clear hK K hq
   try simp only [qA, qB, qC, Act.put, qD, qE, qF]
   exact k412 _ _ _ _ _ _ _ _ _ _ _ _ _ _ _ Hn HOn
  intro v x0d x0c x1d x1c x2d x2c s0d s0c s1d s1c lo hi bb2 H HO
  refine wpAnyH_ready (rs := [12, 13]) (by kernel_rfl) (by simp) ?_
  refine AllReadyH.cons rfl (fun K hK => ?_) (AllReadyH.cons rfl (fun K hK => ?_) AllReadyH.nil)
  ·
   skip
   go_simp
   have Hn := Lib.hid (H.out.new0 HKP.out (stF2 entE_ok intE_ok))
   have HOn := Lib.hid (HO.out.new0 H.out.2.2.1.1.2)
   refine hK.out _ _ Hn.out.1 (fun hq => ?_)
   clear hK K hq
   try simp only [qA, qB, qC, Act.put, qD, qE, qF]
   exact k402 _ _ _ _ _ _ _ _ _ _ _ _ _ _ _ Hn HOn
  ·
   skip
   go_simp
   have Hn := Lib.hid (H.out.new1 HKP.out (stF2 entE_ok intE_ok))
   have HOn := Lib.hid (HO.out.new1 H.out.2.2.1.1.2)
   refine hK.out _ _ Hn.out.1 (fun hq => ?_)
   clear hK K hq
   try simp only [qA, qB, qC, Act.put, qD, qE, qF]
   exact k412 _ _ _ _ _ _ _ _ _ _ _ _ _ _ _ Hn HOn
  intro v x0d x0c x1d x1c x2d x2c bb0 bb1 bb2 H
  refine wpAnyH_ready (rs := [6]) (by kernel_rfl) (by simp) ?_
  refine AllReadyH.cons rfl (fun K hK => ?_) AllReadyH.nil
  ·
   skip
   go_simp
   refine ((spec_redefine _ _ _ l0 o1 t1 o2 t2 _ H.out.2.2.1.1.1.2 H.out.2.2.1.1.2 H.out.2.2.1.2 HSM0.out HSM2.out.1 HSM2.out.2).mono (rf_of HR.out (Nat.le_trans HLEN.out.2 (by decide)))).mono ?_
   rintro e v9 ⟨s0d, s0c, s1d, s1c, rfl, hrow0, hrow1, hb⟩
   obtain ⟨lo, hi, hn, ho⟩ : ∃ lo hi : Nat, Sx w3 (K_law_redefine w a0d a0c l0 a1d a1c o1 t1 a2d a2c o2 t2) (fun v => (w3.heap.size ≤ lo ∧ hi ≤ v.heap.size) ∧ Ents v (BetX lo hi (.slice s1d nx.length s1c)) (.slice s0d bk.length s0c) bk ∧ Ints v (BetO lo hi (.slice s1d nx.length s1c)) (.slice s1d nx.length s1c) nx) (some bb0) (some bb1) (some bb2) v9 ∧ Outs3 lo hi (some bb0) (some bb1) (some bb2) := ⟨v.heap.size, v9.heap.size, H.out.call HKP.out hb ⟨⟨H.out.2.1.size, Nat.le_refl _⟩, hrow0, hrow1⟩, H.out.2.2.2.outs _⟩
   have Hn := Lib.hid hn; have HOn := Lib.hid ho
   clear hn ho hb hrow0 hrow1
   refine hK.out _ _ Hn.out.1 (fun hSn => ?_)
   clear hK K
   try simp only [qA, qB, qC, Act.put, qD, qE, qF]
   refine wpAnyH_take (i := 7) (v := .tuple #[.agg #[.slice s0d bk.length s0c], .agg #[.slice s1d nx.length s1c, .string (S sc)], .agg #[.int .i64 en, .string (S et)], .bool ok]) rfl (by kernel_rfl) (by kernel_rfl) (by kernel_rfl) (fun _ _ _ h => h) (Or.inl ⟨by rfl, fun z hz => ?_⟩) hSn ?_
   ·
    obtain ⟨z0q, z1q, z2q, z3q, z4q⟩ := hz
    go_simp
   try simp only [qA, qB, qC, Act.put, qD, qE, qF]
   refine wpAnyH_take (i := 8) (v := .agg #[.slice s0d bk.length s0c]) rfl (by kernel_rfl) (by kernel_rfl) (by kernel_rfl) (fun _ _ _ h => h) (Or.inl ⟨by rfl, fun z hz => ?_⟩) hSn ?_
   ·
    obtain ⟨z0q, z1q, z2q, z3q, z4q⟩ := hz
    go_simp
   try simp only [qA, qB, qC, Act.put, qD, qE, qF]
   refine wpAnyH_take (i := 9) (v := .agg #[.slice s1d nx.length s1c, .string (S sc)]) rfl (by kernel_rfl) (by kernel_rfl) (by kernel_rfl) (fun _ _ _ h => h) (Or.inl ⟨by rfl, fun z hz => ?_⟩) hSn ?_
   ·
    obtain ⟨z0q, z1q, z2q, z3q, z4q⟩ := hz
    go_simp
   try simp only [qA, qB, qC, Act.put, qD, qE, qF]
   refine wpAnyH_take (i := 10) (v := .agg #[.int .i64 en, .string (S et)]) rfl (by kernel_rfl) (by kernel_rfl) (by kernel_rfl) (fun _ _ _ h => h) (Or.inl ⟨by rfl, fun z hz => ?_⟩) hSn ?_
   ·
    obtain ⟨z0q, z1q, z2q, z3q, z4q⟩ := hz
    go_simp
   try simp only [qA, qB, qC, Act.put, qD, qE, qF]
   refine wpAnyH_take (i := 11) (v := .bool ok) rfl (by kernel_rfl) (by kernel_rfl) (by kernel_rfl) (fun _ _ _ h => h) (Or.inl ⟨by rfl, fun z hz => ?_⟩) hSn ?_
   ·
    obtain ⟨z0q, z1q, z2q, z3q, z4q⟩ := hz
    go_simp
   try simp only [qA, qB, qC, Act.put, qD, qE, qF]
   clear H hSn
   revert HOn; revert Hn; revert bb2; revert bb1; revert bb0; revert hi; revert lo; revert s1c; revert s1d; revert s0c; revert s0d; revert x2c; revert x2d; revert x1c; revert x1d; revert x0c; revert x0d; revert v9; exact k4012
  intro v x0d x0c x1d x1c x2d x2c s0d s0c s1d s1c lo hi bb0 bb1 H HO
  refine wpAnyH_ready (rs := [14]) (by kernel_rfl) (by simp) ?_
  refine AllReadyH.cons rfl (fun K hK => ?_) AllReadyH.nil
  ·
   skip
   go_simp
   have Hn := Lib.hid (H.out.new2 HKP.out (stF2 entE_ok intE_ok))
   have HOn := Lib.hid (HO.out.new2 H.out.2.2.1.1.2)
   refine hK.out _ _ Hn.out.1 (fun hq => ?_)
   clear hK K hq
   try simp only [qA, qB, qC, Act.put, qD, qE, qF]
   exact k4012 _ _ _ _ _ _ _ _ _ _ _ _ _ _ _ _ Hn HOn
  intro v x0d x0c x1d x1c x2d x2c s0d s0c s1d s1c lo hi bb0 bb2 H HO
  refine wpAnyH_ready (rs := [13]) (by kernel_rfl) (by simp) ?_
  refine AllReadyH.cons rfl (fun K hK => ?_) AllReadyH.nil
  ·
   skip
   go_simp
   have Hn := Lib.hid (H.out.new1 HKP.out (stF2 entE_ok intE_ok))
   have HOn := Lib.hid (HO.out.new1 H.out.2.2.1.1.2)
   refine hK.out _ _ Hn.out.1 (fun hq => ?_)
   clear hK K hq
   try simp only [qA, qB, qC, Act.put, qD, qE, qF]
   exact k4012 _ _ _ _ _ _ _ _ _ _ _ _ _ _ _ _ Hn HOn
  intro v x0d x0c x1d x1c x2d x2c s0d s0c s1d s1c lo hi bb1 bb2 H HO
  refine wpAnyH_ready (rs := [12]) (by kernel_rfl) (by simp) ?_
  refine AllReadyH.cons rfl (fun K hK => ?_) AllReadyH.nil
  ·
   skip
   go_simp
   have Hn := Lib.hid (H.out.new0 HKP.out (stF2 entE_ok intE_ok))
   have HOn := Lib.hid (HO.out.new0 H.out.2.2.1.1.2)
   refine hK.out _ _ Hn.out.1 (fun hq => ?_)
   clear hK K hq
   try simp only [qA, qB, qC, Act.put, qD, qE, qF]
   exact k4012 _ _ _ _ _ _ _ _ _ _ _ _ _ _ _ _ Hn HOn
  intro v x0d x0c x1d x1c x2d x2c s0d s0c s1d s1c lo hi bb0 bb1 bb2 H HO
  have hS := H.out.1; have HBW := Lib.hid H.out.2.1; have HBX := Lib.hid H.out.2.2.2; have HLO := Lib.hid H.out.2.2.1.1
  have HRES0 := Lib.hid H.out.2.2.1.2.1
  have HRES1 := Lib.hid H.out.2.2.1.2.2
  have HAP := HO
  clear H HO
  have hlo := HLO.out.1; have hhi := HLO.out.2
  obtain ⟨hx0, hx1, hx2, hn01, hn02, hn12⟩ := HBX.out
  obtain ⟨hp0, hp1, hp2⟩ := HAP.out
  have HBX0 := Lib.hid (hx0 _ rfl); have hap0 := hp0 _ rfl
  have HBX1 := Lib.hid (hx1 _ rfl); have hap1 := hp1 _ rfl
  have HBX2 := Lib.hid (hx2 _ rfl); have hap2 := hp2 _ rfl
  have hne01 := hn01 _ _ rfl rfl
  have hne02 := hn02 _ _ rfl rfl
  have hne12 := hn12 _ _ rfl rfl
  clear hx0 hp0 hx1 hp1 hx2 hp2 hn01 hn02 hn12 HBX HAP
  refine wpAnyH_ready (rs := [15]) (by kernel_rfl) (by simp) ?_
  refine AllReadyH.cons rfl (fun K hK => ?_) AllReadyH.nil
  have hwb0 := HBX0.out.2
  obtain ⟨cb, fb, zb⟩ := HBX0.out.1
  go_simp
  obtain ⟨v1, hv1⟩ : ∃ y, (v.setCell ⟨bb0, 0, none⟩ (.slice s0d bk.length s0c)) = y := ⟨_, rfl⟩
  have hcg : Chg (fun b => b = bb0) v v1 := by rw [← hv1]; exact ((Chg.refl (fun b => b = bb0) v).setCell (p := ⟨bb0, 0, none⟩) rfl (.slice s0d bk.length s0c))
  have hbox : Box1 bb0 (.slice s0d bk.length s0c) v1 := by rw [← hv1]; exact ⟨World.cell?_setCell_same _ _ _ cb, by simpa [World.setCell] using zb⟩
  have hsz : v1.heap.size = v.heap.size := by rw [← hv1]; simp [World.setCell]
  have hbw : Below w3.heap.size w3 v1 := Chg.belowB HBW.out hcg HBW.out.size (fun b h => by have h9 : b = bb0 := h; omega)
  have zA := HBW.out.size
  have hst : K_law_redefine w a0d a0c l0 a1d a1c o1 t1 a2d a2c o2 t2 v1 := HKP.out _ _ (hcg.below zA (fun b h => by have h9 : b = bb0 := h; omega)) hS
  refine hK.out _ _ (by rw [hv1]; exact hst) (fun hS2 => ?_)
  clear hK K
  try rw [hv1] at hS2 ⊢
  try simp only [qA, qB, qC, Act.put, qD, qE, qF]
  have HBW3 := Lib.hid hbw
  have HBX1_4 := Lib.hid (show _ ∧ _ from ⟨HBX1.out.1.stand hcg (by omega), HBX1.out.2⟩)
  have HBX2_5 := Lib.hid (show _ ∧ _ from ⟨HBX2.out.1.stand hcg (by omega), HBX2.out.2⟩)
  have HRES0_6 := Lib.hid (HRES0.out.stand entE_ok hcg (fun b hb e => by have h3 : _ ∧ _ := hb; have h4 : _ = _ := e; omega))
  have HRES1_7 := Lib.hid (HRES1.out.stand intE_ok hcg (fun b hb e => by have h3 : _ ∧ _ := hb; have h4 : _ = _ := e; omega))
  have FX0_8 := hbox
  clear hbox hbw hcg hst zA zb HBW HBX0 hS HBX1 HBX2 HRES0 HRES1 cb fb
  refine wpAnyH_ready (rs := [16]) (by kernel_rfl) (by simp) ?_
  refine AllReadyH.cons rfl (fun K hK => ?_) AllReadyH.nil
  have hwb1 := HBX1_4.out.2
  obtain ⟨zb, cb0, cb1, fb0, fb1⟩ := HBX1_4.out.1
  go_simp
  obtain ⟨v9, hv9⟩ : ∃ y, ((v1.setCell ⟨bb1, 0, none⟩ (.slice s1d nx.length s1c)).setCell ⟨bb1, 1, none⟩ (.string (S sc))) = y := ⟨_, rfl⟩
  have hcg : Chg (fun b => b = bb1) v1 v9 := by rw [← hv9]; exact (((Chg.refl (fun b => b = bb1) v1).setCell (p := ⟨bb1, 0, none⟩) rfl (.slice s1d nx.length s1c)).setCell (p := ⟨bb1, 1, none⟩) rfl (.string (S sc)))
  have hbox : Box2E bb1 (.slice s1d nx.length s1c) sc v9 := by rw [← hv9]; exact Box2E.set2 cb0 cb1 zb
  have hsz : v9.heap.size = v1.heap.size := by rw [← hv9]; simp [World.setCell]
  have hbw : Below w3.heap.size w3 v9 := Chg.belowB HBW3.out hcg HBW3.out.size (fun b h => by have h9 : b = bb1 := h; omega)
  have zA := HBW3.out.size
  have hst : K_law_redefine w a0d a0c l0 a1d a1c o1 t1 a2d a2c o2 t2 v9 := HKP.out _ _ (hcg.below zA (fun b h => by have h9 : b = bb1 := h; omega)) hS2
  refine hK.out _ _ (by rw [hv9]; exact hst) (fun hS10 => ?_)
  clear hK K
  try rw [hv9] at hS10 ⊢
  try simp only [qA, qB, qC, Act.put, qD, qE, qF]
  have HBW11 := Lib.hid hbw
  have HBX2_12 := Lib.hid (show _ ∧ _ from ⟨HBX2_5.out.1.stand hcg (by omega), HBX2_5.out.2⟩)
  have HRES0_13 := Lib.hid (HRES0_6.out.stand entE_ok hcg (fun b hb e => by have h3 : _ ∧ _ := hb; have h4 : _ = _ := e; omega))
  have HRES1_14 := Lib.hid (HRES1_7.out.stand intE_ok hcg (fun b hb e => by have h3 : _ ∧ _ := hb; have h4 : _ = _ := e; omega))
  have FX0_15 := FX0_8.stand hcg (by omega)
  have FX1_16 := hbox
  clear hbox hbw hcg hst zA zb HBW3 HBX1_4 hS2 HBX2_5 HRES0_6 HRES1_7 FX0_8 cb0 cb1 fb0 fb1
  refine wpAnyH_ready (rs := [17]) (by kernel_rfl) (by simp) ?_
  refine AllReadyH.cons rfl (fun K hK => ?_) AllReadyH.nil
  have hwb2 := HBX2_12.out.2
  obtain ⟨zb, cb0, cb1, fb0, fb1⟩ := HBX2_12.out.1
  go_simp
  obtain ⟨v17, hv17⟩ : ∃ y, ((v9.setCell ⟨bb2, 0, none⟩ (.int .i64 en)).setCell ⟨bb2, 1, none⟩ (.string (S et))) = y := ⟨_, rfl⟩
  have hcg : Chg (fun b => b = bb2) v9 v17 := by rw [← hv17]; exact (((Chg.refl (fun b => b = bb2) v9).setCell (p := ⟨bb2, 0, none⟩) rfl (.int .i64 en)).setCell (p := ⟨bb2, 1, none⟩) rfl (.string (S et)))
  have hbox : Box2E bb2 (.int .i64 en) et v17 := by rw [← hv17]; exact Box2E.set2 cb0 cb1 zb
  have hsz : v17.heap.size = v9.heap.size := by rw [← hv17]; simp [World.setCell]
  have hbw : Below w3.heap.size w3 v17 := Chg.belowB HBW11.out hcg HBW11.out.size (fun b h => by have h9 : b = bb2 := h; omega)
  have zA := HBW11.out.size
  have hst : K_law_redefine w a0d a0c l0 a1d a1c o1 t1 a2d a2c o2 t2 v17 := HKP.out _ _ (hcg.below zA (fun b h => by have h9 : b = bb2 := h; omega)) hS10
  refine hK.out _ _ (by rw [hv17]; exact hst) (fun hS18 => ?_)
  clear hK K
  try rw [hv17] at hS18 ⊢
  try simp only [qA, qB, qC, Act.put, qD, qE, qF]
  have HBW19 := Lib.hid hbw
  have HRES0_20 := Lib.hid (HRES0_13.out.stand entE_ok hcg (fun b hb e => by have h3 : _ ∧ _ := hb; have h4 : _ = _ := e; omega))
  have HRES1_21 := Lib.hid (HRES1_14.out.stand intE_ok hcg (fun b hb e => by have h3 : _ ∧ _ := hb; have h4 : _ = _ := e; omega))
  have FX0_22 := FX0_15.stand hcg (by omega)
  have FX1_23 := FX1_16.stand hcg (by omega)
  have FX2_24 := hbox
  clear hbox hbw hcg hst zA zb HBW11 HBX2_12 hS10 HRES0_13 HRES1_14 FX0_15 FX1_16 cb0 cb1 fb0 fb1
  refine wpAnyH_take (i := 18) (v := .bool ok) rfl (by kernel_rfl) (by kernel_rfl) (by kernel_rfl) (fun _ _ _ h => h) (Or.inl ⟨by rfl, fun z hz => ?_⟩) hS18 ?_
  ·
   obtain ⟨z0q, z1q, z2q, z3q, z4q⟩ := hz
   go_simp
  try simp only [qA, qB, qC, Act.put, qD, qE, qF]
  refine wpAnyH_done (by kernel_rfl) ?_ _
  go_wp2_with fail
  go_meet
  exact ⟨bb0, bb1, bb2, s0d, s0c, s1d, s1c, rfl, rfl, rfl, rfl, FX0_22, by omega, FX1_23, by omega, FX2_24, by omega, RowO.toX entE_ok HRES0_20.out (Below.refl _ _) (by omega) (by omega) (Nat.le_refl _), RowO.to intE_ok HRES1_21.out (Below.refl _ _) (by omega) (by omega) (Nat.le_refl _), HBW19.out⟩
 case rest =>
  obtain ⟨bs0, bs1, bs2, s0d, s0c, s1d, s1c, rfl, rfl, rfl, rfl, hbx0, zbs0, hbx1, zbs1, hbx2, zbs2, hrow0, hrow1, hb⟩ := hcut
  have zzw4 : w3.heap.size ≤ wc.heap.size := hb.size
  have HB_4 := Lib.hid (HB_3.out.trans (hb.mono HB_3.out.size))
  have A0_4 := Lib.hid (A0_3.out.below hb)
  have A1_4 := Lib.hid (A1_3.out.below hb)
  have A2_4 := Lib.hid (A2_3.out.below hb)
  clear HB_3 A0_3 A1_3 A2_3 hb HS
  have yys0 : bs0 < wc.heap.size := hbx0.2
  have sB0_0 := Lib.hid (hbx0)
  clear hbx0
  have yys1 : bs1 < wc.heap.size := hbx1.2.2
  have sB1_0 := Lib.hid (hbx1)
  clear hbx1
  have yys2 : bs2 < wc.heap.size := hbx2.2.2
  have sB2_0 := Lib.hid (hbx2)
  clear hbx2
  have sL0_0 := Lib.hid (hrow0)
  clear hrow0
  have sL1_0 := Lib.hid (hrow1)
  clear hrow1
  clear hWA
  generalize hww : wc = w4 at *
  clear hww
  obtain ⟨c_A0, _⟩ := A0_4.out
  go_wp2_with fail
  refine (toDictionary _ l0 _ (HU0.out.below HB_4.out) HSM0.out.len HSM0.out.outs).mono ?_
  rintro e w5 ⟨y1, rfl, hI, hb⟩
  clear c_A0
  have zw5 : w4.heap.size ≤ w5.heap.size := hb.size
  have HB_5 := Lib.hid (HB_4.out.trans (hb.mono HB_4.out.size))
  have A0_5 := Lib.hid (A0_4.out.below hb)
  have A1_5 := Lib.hid (A1_4.out.below hb)
  have A2_5 := Lib.hid (A2_4.out.below hb)
  have sB0_1 := Lib.hid (sB0_0.out.below hb)
  have sB1_1 := Lib.hid (sB1_0.out.below hb)
  have sB2_1 := Lib.hid (sB2_0.out.below hb)
  have sL0_1 := Lib.hid (sL0_0.out.below entE_ok hb)
  have sL1_1 := Lib.hid (sL1_0.out.below intE_ok hb)
  clear HB_4 A0_4 A1_4 A2_4 sB0_0 sB1_0 sB2_0 sL0_0 sL1_0 hb
  have E0_0 := Lib.hid ((by simpa using hI : Ents w5 (Bet (w4.heap.size) w5.heap.size) y1 l0))
  clear hI
  obtain ⟨y1d, y1c, rfl, _, _⟩ := id E0_0.out
  have hb := (Below.refl w5.heap.size w5).alloc (Nat.le_refl _) (.cells #[.slice y1d l0.length y1c] 26)
  have HB_6 := Lib.hid (HB_5.out.trans (hb.mono HB_5.out.size))
  have A0_6 := Lib.hid (A0_5.out.below hb)
  have A1_6 := Lib.hid (A1_5.out.below hb)
  have A2_6 := Lib.hid (A2_5.out.below hb)
  have sB0_2 := Lib.hid (sB0_1.out.below hb)
  have sB1_2 := Lib.hid (sB1_1.out.below hb)
  have sB2_2 := Lib.hid (sB2_1.out.below hb)
  have sL0_2 := Lib.hid (sL0_1.out.below entE_ok hb)
  have sL1_2 := Lib.hid (sL1_1.out.below intE_ok hb)
  have E0_1 := Lib.hid (E0_0.out.below entE_ok hb)
  clear HB_5 A0_5 A1_5 A2_5 sB0_1 sB1_1 sB2_1 sL0_1 sL1_1 E0_0 hb
  have X0_0 := Lib.hid (Box1.new (.slice y1d l0.length y1c) 26 w5)
  obtain ⟨c_A10, c_A11, _⟩ := A1_6.out
  go_wp2_with fail
  refine (toTranslator _ o1 t1 _ (HU1.out.below HB_6.out) HSM1.out.1).mono ?_
  rintro e w6 ⟨y2, rfl, hI, hb⟩
  clear c_A10 c_A11
  have zw6 : w5.heap.size + 1 ≤ w6.heap.size := by have := hb.size; simp at this; omega
  have HB_7 := Lib.hid (HB_6.out.trans (hb.mono HB_6.out.size))
  have A0_7 := Lib.hid (A0_6.out.below hb)
  have A1_7 := Lib.hid (A1_6.out.below hb)
  have A2_7 := Lib.hid (A2_6.out.below hb)
  have sB0_3 := Lib.hid (sB0_2.out.below hb)
  have sB1_3 := Lib.hid (sB1_2.out.below hb)
  have sB2_3 := Lib.hid (sB2_2.out.below hb)
  have sL0_3 := Lib.hid (sL0_2.out.below entE_ok hb)
  have sL1_3 := Lib.hid (sL1_2.out.below intE_ok hb)
  have E0_2 := Lib.hid (E0_1.out.below entE_ok hb)
  have X0_1 := Lib.hid (X0_0.out.below hb)
  clear HB_6 A0_6 A1_6 A2_6 sB0_2 sB1_2 sB2_2 sL0_2 sL1_2 E0_1 X0_0 hb
  have E1_0 := Lib.hid ((by simpa using hI : Ints w6 (Bet (w5.heap.size + 1) w6.heap.size) y2 o1))
  clear hI
  obtain ⟨y2d, y2c, rfl, _, _⟩ := id E1_0.out
  have hb := (Below.refl w6.heap.size w6).alloc (Nat.le_refl _) (.cells #[.slice y2d o1.length y2c, .string (S t1)] 32)
  have HB_8 := Lib.hid (HB_7.out.trans (hb.mono HB_7.out.size))
  have A0_8 := Lib.hid (A0_7.out.below hb)
  have A1_8 := Lib.hid (A1_7.out.below hb)
  have A2_8 := Lib.hid (A2_7.out.below hb)
  have sB0_4 := Lib.hid (sB0_3.out.below hb)
  have sB1_4 := Lib.hid (sB1_3.out.below hb)
  have sB2_4 := Lib.hid (sB2_3.out.below hb)
  have sL0_4 := Lib.hid (sL0_3.out.below entE_ok hb)
  have sL1_4 := Lib.hid (sL1_3.out.below intE_ok hb)
  have E0_3 := Lib.hid (E0_2.out.below entE_ok hb)
  have X0_2 := Lib.hid (X0_1.out.below hb)
  have E1_1 := Lib.hid (E1_0.out.below intE_ok hb)
  clear HB_7 A0_7 A1_7 A2_7 sB0_3 sB1_3 sB2_3 sL0_3 sL1_3 E0_2 X0_1 E1_0 hb
  have X1_0 := Lib.hid (Box2E.new (.slice y2d o1.length y2c) t1 32 w6)
  obtain ⟨c_A20, c_A21, _⟩ := A2_8.out
  go_wp2_with fail
  refine (toEntry _ o2 t2 _ (HU2.out.below HB_8.out) HSM2.out.1).mono ?_
  rintro e w7 ⟨y3, rfl, hI, hb⟩
  clear c_A20 c_A21
  have zw7 : w6.heap.size + 1 ≤ w7.heap.size := by have := hb.size; simp at this; omega
  have HB_9 := Lib.hid (HB_8.out.trans (hb.mono HB_8.out.size))
  have A0_9 := Lib.hid (A0_8.out.below hb)
  have A1_9 := Lib.hid (A1_8.out.below hb)
  have A2_9 := Lib.hid (A2_8.out.below hb)
  have sB0_5 := Lib.hid (sB0_4.out.below hb)
  have sB1_5 := Lib.hid (sB1_4.out.below hb)
  have sB2_5 := Lib.hid (sB2_4.out.below hb)
  have sL0_5 := Lib.hid (sL0_4.out.below entE_ok hb)
  have sL1_5 := Lib.hid (sL1_4.out.below intE_ok hb)
  have E0_4 := Lib.hid (E0_3.out.below entE_ok hb)
  have X0_3 := Lib.hid (X0_2.out.below hb)
  have E1_2 := Lib.hid (E1_1.out.below intE_ok hb)
  have X1_1 := Lib.hid (X1_0.out.below hb)
  clear HB_8 A0_8 A1_8 A2_8 sB0_4 sB1_4 sB2_4 sL0_4 sL1_4 E0_3 X0_2 E1_1 X1_0 hb
  have E2_0 := Lib.hid ((by simpa using hI : Ints w7 (Bet (w6.heap.size + 1) w7.heap.size) y3 o2))
  clear hI
  obtain ⟨y3d, y3c, rfl, _, _⟩ := id E2_0.out
  have hb := (Below.refl w7.heap.size w7).alloc (Nat.le_refl _) (.cells #[.slice y3d o2.length y3c, .string (S t2)] 47)
  have HB_10 := Lib.hid (HB_9.out.trans (hb.mono HB_9.out.size))
  have A0_10 := Lib.hid (A0_9.out.below hb)
  have A1_10 := Lib.hid (A1_9.out.below hb)
  have A2_10 := Lib.hid (A2_9.out.below hb)
  have sB0_6 := Lib.hid (sB0_5.out.below hb)
  have sB1_6 := Lib.hid (sB1_5.out.below hb)
  have sB2_6 := Lib.hid (sB2_5.out.below hb)
  have sL0_6 := Lib.hid (sL0_5.out.below entE_ok hb)
  have sL1_6 := Lib.hid (sL1_5.out.below intE_ok hb)
  have E0_5 := Lib.hid (E0_4.out.below entE_ok hb)
  have X0_4 := Lib.hid (X0_3.out.below hb)
  have E1_3 := Lib.hid (E1_2.out.below intE_ok hb)
  have X1_2 := Lib.hid (X1_1.out.below hb)
  have E2_1 := Lib.hid (E2_0.out.below intE_ok hb)
  clear HB_9 A0_9 A1_9 A2_9 sB0_5 sB1_5 sB2_5 sL0_5 sL1_5 E0_4 X0_3 E1_2 X1_1 E2_0 hb
  have X2_0 := Lib.hid (Box2E.new (.slice y3d o2.length y3c) t2 47 w7)
  go_upto_region 15 with fail
  have zgw8 : w7.heap.size < (w7.alloc (.cells #[.slice y3d o2.length y3c, .string (S t2)] 47)).heap.size := by simp
  generalize w7.alloc (.cells #[.slice y3d o2.length y3c, .string (S t2)] 47) = w8 at *
  obtain ⟨c_X0, _⟩ := X0_4.out
  obtain ⟨c_X10, c_X11, _⟩ := X1_2.out
  obtain ⟨c_X20, c_X21, _⟩ := X2_0.out
  go_upto_region 15 with fail
  go_cut [15, 16, 17, 18] (fun q0 q1 q2 q3 wx => ∃ bg0 bg1 bg2 g0d g0c g1d g1c mg, q0 = .pointer (some ⟨bg0, 0, none⟩) ∧ q1 = .pointer (some ⟨bg1, 0, none⟩) ∧ q2 = .pointer (some ⟨bg2, 0, none⟩) ∧ q3 = .bool ok ∧ Box1 bg0 (.slice g0d bk.length g0c) wx ∧ mg ≤ bg0 ∧ Box2E bg1 (.slice g1d nx.length g1c) sc wx ∧ mg ≤ bg1 ∧ Box2E bg2 (.int .i64 en) et wx ∧ mg ≤ bg2 ∧ w8.heap.size ≤ mg ∧ mg ≤ wx.heap.size ∧ Ents wx (BetX w8.heap.size mg (.slice g1d nx.length g1c)) (.slice g0d bk.length g0c) bk ∧ Ints wx (BetO w8.heap.size mg (.slice g1d nx.length g1c)) (.slice g1d nx.length g1c) nx ∧ Below w8.heap.size w8 wx)
  case first =>
   have HA_0 := Lib.hid (show Below w8.heap.size w8 w8 from Below.refl _ _)
   go_wp2_with fail
   refine ((impl_redefine _ _ _ l0 o1 t1 o2 t2 _ (Ents.read E0_5.out) (Ints.read E1_3.out) (Ints.read E2_1.out) HSM0.out HSM2.out.1 HSM2.out.2 (HE.out.below HB_10.out HE.out.size)).mono (rf_of HR.out (Nat.le_trans HLEN.out.2 (by decide)))).mono ?_
   rintro e w9 ⟨g0d, g0c, g1d, g1c, rfl, hrow0, hrow1, hb⟩
   clear c_X0 c_X10 c_X11 c_X20 c_X21
   have zw9 : w8.heap.size ≤ w9.heap.size := hb.size
   have HA_1 := Lib.hid (HA_0.out.trans (hb.mono HA_0.out.size))
   clear HA_0 hb
   go_wp2
   go_meet
   refine ⟨_, _, _, g0d, g0c, g1d, g1c, w9.heap.size, rfl, rfl, rfl, rfl, ⟨by go_simp, by first | omega | (simp; done) | (simp; omega)⟩, by first | omega | (simp; done) | (simp; omega), ⟨by go_simp, by go_simp, by first | omega | (simp; done) | (simp; omega)⟩, by first | omega | (simp; done) | (simp; omega), ⟨by go_simp, by go_simp, by first | omega | (simp; done) | (simp; omega)⟩, by first | omega | (simp; done) | (simp; omega), by omega, by first | omega | (simp; done) | (simp; omega), RowO.toX entE_ok hrow0 ?_ (by omega) (by first | omega | (simp; done) | (simp; omega)) (by first | omega | (simp; done) | (simp; omega)), RowO.to intE_ok hrow1 ?_ (by omega) (by first | omega | (simp; done) | (simp; omega)) (by first | omega | (simp; done) | (simp; omega)), ?_⟩
   all_goals first | exact ((((Below.refl _ _).alloc (Nat.le_refl _) _).alloc (by simp) _).alloc (by simp; omega) _) | exact (((HA_1.out.alloc (by first | omega | (simp; omega)) _).alloc (by first | omega | (simp; omega)) _).alloc (by first | omega | (simp; omega)) _) | skip
  case rest =>
   obtain ⟨bg0, bg1, bg2, g0d, g0c, g1d, g1c, mg, rfl, rfl, rfl, rfl, hbx0, zbg0, hbx1, zbg1, hbx2, zbg2, zmg, zng, hrow0, hrow1, hb⟩ := hcut
   have zzw10 : w8.heap.size ≤ wc.heap.size := hb.size
   clear c_X0 c_X10 c_X11 c_X20 c_X21
   have HB_11 := Lib.hid (HB_10.out.trans (hb.mono HB_10.out.size))
   have A0_11 := Lib.hid (A0_10.out.below hb)
   have A1_11 := Lib.hid (A1_10.out.below hb)
   have A2_11 := Lib.hid (A2_10.out.below hb)
   have sB0_7 := Lib.hid (sB0_6.out.below hb)
   have sB1_7 := Lib.hid (sB1_6.out.below hb)
   have sB2_7 := Lib.hid (sB2_6.out.below hb)
   have sL0_7 := Lib.hid (sL0_6.out.below entE_ok hb)
   have sL1_7 := Lib.hid (sL1_6.out.below intE_ok hb)
   have E0_6 := Lib.hid (E0_5.out.below entE_ok hb)
   have X0_5 := Lib.hid (X0_4.out.below hb)
   have E1_4 := Lib.hid (E1_3.out.below intE_ok hb)
   have X1_3 := Lib.hid (X1_2.out.below hb)
   have E2_2 := Lib.hid (E2_1.out.below intE_ok hb)
   have X2_1 := Lib.hid (X2_0.out.below hb)
   clear HB_10 A0_10 A1_10 A2_10 sB0_6 sB1_6 sB2_6 sL0_6 sL1_6 E0_5 X0_4 E1_3 X1_2 E2_1 X2_0 hb
   have yyg0 : bg0 < wc.heap.size := hbx0.2
   have gB0_0 := Lib.hid (hbx0)
   clear hbx0
   have yyg1 : bg1 < wc.heap.size := hbx1.2.2
   have gB1_0 := Lib.hid (hbx1)
   clear hbx1
   have yyg2 : bg2 < wc.heap.size := hbx2.2.2
   have gB2_0 := Lib.hid (hbx2)
   clear hbx2
   have gL0_0 := Lib.hid (hrow0)
   clear hrow0
   have gL1_0 := Lib.hid (hrow1)
   clear hrow1
   generalize hww : wc = w10 at *
   clear hww
   obtain ⟨c_gB0, _⟩ := gB0_0.out
   obtain ⟨c_sB0, _⟩ := sB0_7.out
   obtain ⟨c_gB10, c_gB11, _⟩ := gB1_0.out
   obtain ⟨c_sB10, c_sB11, _⟩ := sB1_7.out
   obtain ⟨c_gB20, c_gB21, _⟩ := gB2_0.out
   obtain ⟨c_sB20, c_sB21, _⟩ := sB2_7.out
   go_wp2_with fail
   refine (eqDictionary _ _ bk _ (Ents.read gL0_0.out) (Ents.read sL0_7.out)).mono ?_
   rintro e w11 ⟨rfl, hb⟩
   clear c_gB0 c_sB0 c_gB10 c_gB11 c_sB10 c_sB11 c_gB20 c_gB21 c_sB20 c_sB21
   have zw11 : w10.heap.size ≤ w11.heap.size := hb.size
   have HB_12 := Lib.hid (HB_11.out.trans (hb.mono HB_11.out.size))
   have A0_12 := Lib.hid (A0_11.out.below hb)
   have A1_12 := Lib.hid (A1_11.out.below hb)
   have A2_12 := Lib.hid (A2_11.out.below hb)
   have sB0_8 := Lib.hid (sB0_7.out.below hb)
   have sB1_8 := Lib.hid (sB1_7.out.below hb)
   have sB2_8 := Lib.hid (sB2_7.out.below hb)
   have sL0_8 := Lib.hid (sL0_7.out.below entE_ok hb)
   have sL1_8 := Lib.hid (sL1_7.out.below intE_ok hb)
   have E0_7 := Lib.hid (E0_6.out.below entE_ok hb)
   have X0_6 := Lib.hid (X0_5.out.below hb)
   have E1_5 := Lib.hid (E1_4.out.below intE_ok hb)
   have X1_4 := Lib.hid (X1_3.out.below hb)
   have E2_3 := Lib.hid (E2_2.out.below intE_ok hb)
   have X2_2 := Lib.hid (X2_1.out.below hb)
   have gB0_1 := Lib.hid (gB0_0.out.below hb)
   have gB1_1 := Lib.hid (gB1_0.out.below hb)
   have gB2_1 := Lib.hid (gB2_0.out.below hb)
   have gL0_1 := Lib.hid (gL0_0.out.below entE_ok hb)
   have gL1_1 := Lib.hid (gL1_0.out.below intE_ok hb)
   clear HB_11 A0_11 A1_11 A2_11 sB0_7 sB1_7 sB2_7 sL0_7 sL1_7 E0_6 X0_5 E1_4 X1_3 E2_2 X2_1 gB0_0 gB1_0 gB2_0 gL0_0 gL1_0 hb
   obtain ⟨c_gB10, c_gB11, _⟩ := gB1_1.out
   obtain ⟨c_sB10, c_sB11, _⟩ := sB1_8.out
   obtain ⟨c_gB20, c_gB21, _⟩ := gB2_1.out
   obtain ⟨c_sB20, c_sB21, _⟩ := sB2_8.out
   go_wp2_with fail
   refine (eqTranslator _ _ nx sc _ (Ints.read gL1_1.out) (Ints.read sL1_8.out)).mono ?_
   rintro e w12 ⟨rfl, hb⟩
   clear c_gB10 c_gB11 c_sB10 c_sB11 c_gB20 c_gB21 c_sB20 c_sB21
   have zw12 : w11.heap.size ≤ w12.heap.size := hb.size
   have HB_13 := Lib.hid (HB_12.out.trans (hb.mono HB_12.out.size))
   have A0_13 := Lib.hid (A0_12.out.below hb)
   have A1_13 := Lib.hid (A1_12.out.below hb)
   have A2_13 := Lib.hid (A2_12.out.below hb)
   have sB0_9 := Lib.hid (sB0_8.out.below hb)
   have sB1_9 := Lib.hid (sB1_8.out.below hb)
   have sB2_9 := Lib.hid (sB2_8.out.below hb)
   have sL0_9 := Lib.hid (sL0_8.out.below entE_ok hb)
   have sL1_9 := Lib.hid (sL1_8.out.below intE_ok hb)
   have E0_8 := Lib.hid (E0_7.out.below entE_ok hb)
   have X0_7 := Lib.hid (X0_6.out.below hb)
   have E1_6 := Lib.hid (E1_5.out.below intE_ok hb)
   have X1_5 := Lib.hid (X1_4.out.below hb)
   have E2_4 := Lib.hid (E2_3.out.below intE_ok hb)
   have X2_3 := Lib.hid (X2_2.out.below hb)
   have gB0_2 := Lib.hid (gB0_1.out.below hb)
   have gB1_2 := Lib.hid (gB1_1.out.below hb)
   have gB2_2 := Lib.hid (gB2_1.out.below hb)
   have gL0_2 := Lib.hid (gL0_1.out.below entE_ok hb)
   have gL1_2 := Lib.hid (gL1_1.out.below intE_ok hb)
   clear HB_12 A0_12 A1_12 A2_12 sB0_8 sB1_8 sB2_8 sL0_8 sL1_8 E0_7 X0_6 E1_5 X1_4 E2_3 X2_2 gB0_1 gB1_1 gB2_1 gL0_1 gL1_1 hb
   obtain ⟨c_gB20, c_gB21, _⟩ := gB2_2.out
   obtain ⟨c_sB20, c_sB21, _⟩ := sB2_9.out
   go_wp2_with fail
   refine (eqEdit en et _).mono ?_
   rintro e w13 ⟨rfl, hb⟩
   clear c_gB20 c_gB21 c_sB20 c_sB21
   have zw13 : w12.heap.size ≤ w13.heap.size := hb.size
   have HB_14 := Lib.hid (HB_13.out.trans (hb.mono HB_13.out.size))
   have A0_14 := Lib.hid (A0_13.out.below hb)
   have A1_14 := Lib.hid (A1_13.out.below hb)
   have A2_14 := Lib.hid (A2_13.out.below hb)
   have sB0_10 := Lib.hid (sB0_9.out.below hb)
   have sB1_10 := Lib.hid (sB1_9.out.below hb)
   have sB2_10 := Lib.hid (sB2_9.out.below hb)
   have sL0_10 := Lib.hid (sL0_9.out.below entE_ok hb)
   have sL1_10 := Lib.hid (sL1_9.out.below intE_ok hb)
   have E0_9 := Lib.hid (E0_8.out.below entE_ok hb)
   have X0_8 := Lib.hid (X0_7.out.below hb)
   have E1_7 := Lib.hid (E1_6.out.below intE_ok hb)
   have X1_6 := Lib.hid (X1_5.out.below hb)
   have E2_5 := Lib.hid (E2_4.out.below intE_ok hb)
   have X2_4 := Lib.hid (X2_3.out.below hb)
   have gB0_3 := Lib.hid (gB0_2.out.below hb)
   have gB1_3 := Lib.hid (gB1_2.out.below hb)
   have gB2_3 := Lib.hid (gB2_2.out.below hb)
   have gL0_3 := Lib.hid (gL0_2.out.below entE_ok hb)
   have gL1_3 := Lib.hid (gL1_2.out.below intE_ok hb)
   clear HB_13 A0_13 A1_13 A2_13 sB0_9 sB1_9 sB2_9 sL0_9 sL1_9 E0_8 X0_7 E1_6 X1_5 E2_4 X2_3 gB0_2 gB1_2 gB2_2 gL0_2 gL1_2 hb
   have hb := (Below.refl w13.heap.size w13).drew
   have HB_15 := Lib.hid (HB_14.out.trans (hb.mono HB_14.out.size))
   have A0_15 := Lib.hid (A0_14.out.below hb)
   have A1_15 := Lib.hid (A1_14.out.below hb)
   have A2_15 := Lib.hid (A2_14.out.below hb)
   have sB0_11 := Lib.hid (sB0_10.out.below hb)
   have sB1_11 := Lib.hid (sB1_10.out.below hb)
   have sB2_11 := Lib.hid (sB2_10.out.below hb)
   have sL0_11 := Lib.hid (sL0_10.out.below entE_ok hb)
   have sL1_11 := Lib.hid (sL1_10.out.below intE_ok hb)
   have E0_10 := Lib.hid (E0_9.out.below entE_ok hb)
   have X0_9 := Lib.hid (X0_8.out.below hb)
   have E1_8 := Lib.hid (E1_7.out.below intE_ok hb)
   have X1_7 := Lib.hid (X1_6.out.below hb)
   have E2_6 := Lib.hid (E2_5.out.below intE_ok hb)
   have X2_5 := Lib.hid (X2_4.out.below hb)
   have gB0_4 := Lib.hid (gB0_3.out.below hb)
   have gB1_4 := Lib.hid (gB1_3.out.below hb)
   have gB2_4 := Lib.hid (gB2_3.out.below hb)
   have gL0_4 := Lib.hid (gL0_3.out.below entE_ok hb)
   have gL1_4 := Lib.hid (gL1_3.out.below intE_ok hb)
   clear HB_14 A0_14 A1_14 A2_14 sB0_10 sB1_10 sB2_10 sL0_10 sL1_10 E0_9 X0_8 E1_7 X1_6 E2_5 X2_4 gB0_3 gB1_3 gB2_3 gL0_3 gL1_3 hb
   go_upto_region 18 with fail
   refine wp_region_held_drew (S := fun v : World => v.cell? ⟨w5.heap.size, 0, none⟩ = some (.slice y1d l0.length y1c) ∧ v.cell? ⟨w.heap.size, 0, none⟩ = some (.slice a0d l0.length a0c) ∧ w5.heap.size < v.heap.size ∧ w.heap.size < v.heap.size) (by kernel_rfl) ⟨X0_9.out.1, A0_15.out.1, X0_9.out.2, A0_15.out.2⟩ (fun hS0 => ?_)
   refine wpAnyH_take (i := 0) (v := .agg #[.slice y1d l0.length y1c]) rfl (by kernel_rfl) (by kernel_rfl) (by kernel_rfl) (fun _ _ _ h => h) (Or.inl ⟨by rfl, fun z hz => ?_⟩) hS0 ?_
   ·
    obtain ⟨q1, q2, q3, q4⟩ := hz
    go_simp
   try simp only [qA, qB, Act.put, qD, qE, qF]
   refine wpAnyH_take (i := 1) (v := .agg #[.slice a0d l0.length a0c]) rfl (by kernel_rfl) (by kernel_rfl) (by kernel_rfl) (fun _ _ _ h => h) (Or.inl ⟨by rfl, fun z hz => ?_⟩) hS0 ?_
   ·
    obtain ⟨q1, q2, q3, q4⟩ := hz
    go_simp
   try simp only [qA, qB, qC, Act.put, qD, qE, qF]
   refine wpAnyH_ready (rs := [2]) (by kernel_rfl) (by simp) ?_
   refine AllReadyH.cons rfl (fun K hK => ?_) AllReadyH.nil
   go_simp
   refine (toDictionary _ l0 _ (HU0.out.below HB_15.out) HSM0.out.len HSM0.out.outs).mono ?_
   rintro e w14 ⟨y4, rfl, hI, hb⟩
   have zw14 : w13.heap.size ≤ w14.heap.size := hb.size
   refine hK.out _ _ ⟨(hb.cell (p := ⟨w5.heap.size, 0, none⟩) hS0.2.2.1).trans hS0.1, (hb.cell (p := ⟨w.heap.size, 0, none⟩) hS0.2.2.2).trans hS0.2.1, Nat.lt_of_lt_of_le hS0.2.2.1 hb.size, Nat.lt_of_lt_of_le hS0.2.2.2 hb.size⟩ (fun hS1 => ?_)
   clear hK K
   have HB_16 := Lib.hid (HB_15.out.trans (hb.mono HB_15.out.size))
   have A0_16 := Lib.hid (A0_15.out.below hb)
   have A1_16 := Lib.hid (A1_15.out.below hb)
   have A2_16 := Lib.hid (A2_15.out.below hb)
   have sB0_12 := Lib.hid (sB0_11.out.below hb)
   have sB1_12 := Lib.hid (sB1_11.out.below hb)
   have sB2_12 := Lib.hid (sB2_11.out.below hb)
   have sL0_12 := Lib.hid (sL0_11.out.below entE_ok hb)
   have sL1_12 := Lib.hid (sL1_11.out.below intE_ok hb)
   have E0_11 := Lib.hid (E0_10.out.below entE_ok hb)
   have X0_10 := Lib.hid (X0_9.out.below hb)
   have E1_9 := Lib.hid (E1_8.out.below intE_ok hb)
   have X1_8 := Lib.hid (X1_7.out.below hb)
   have E2_7 := Lib.hid (E2_6.out.below intE_ok hb)
   have X2_6 := Lib.hid (X2_5.out.below hb)
   have gB0_5 := Lib.hid (gB0_4.out.below hb)
   have gB1_5 := Lib.hid (gB1_4.out.below hb)
   have gB2_5 := Lib.hid (gB2_4.out.below hb)
   have gL0_5 := Lib.hid (gL0_4.out.below entE_ok hb)
   have gL1_5 := Lib.hid (gL1_4.out.below intE_ok hb)
   clear HB_15 A0_15 A1_15 A2_15 sB0_11 sB1_11 sB2_11 sL0_11 sL1_11 E0_10 X0_9 E1_8 X1_7 E2_6 X2_5 gB0_4 gB1_4 gB2_4 gL0_4 gL1_4 hb hS0
   have HI3 := Lib.hid hI
   obtain ⟨y4d, y4c, rfl, _, _⟩ := hI
   try simp only [qA, qB, qC, Act.put, qD, qE, qF]
   refine wpAnyH_ready (rs := [3]) (by kernel_rfl) (by simp) ?_
   refine AllReadyH.cons rfl (fun K hK => ?_) AllReadyH.nil
   go_simp
   refine (eqDictionary _ _ l0 _ (Ents.read E0_11.out) (Ents.read HI3.out)).mono ?_
   rintro e w15 ⟨rfl, hb⟩
   have zw15 : w14.heap.size ≤ w15.heap.size := hb.size
   refine hK.out _ _ ⟨(hb.cell (p := ⟨w5.heap.size, 0, none⟩) hS1.2.2.1).trans hS1.1, (hb.cell (p := ⟨w.heap.size, 0, none⟩) hS1.2.2.2).trans hS1.2.1, Nat.lt_of_lt_of_le hS1.2.2.1 hb.size, Nat.lt_of_lt_of_le hS1.2.2.2 hb.size⟩ (fun hS2 => ?_)
   clear hK K
   have HB_17 := Lib.hid (HB_16.out.trans (hb.mono HB_16.out.size))
   have A0_17 := Lib.hid (A0_16.out.below hb)
   have A1_17 := Lib.hid (A1_16.out.below hb)
   have A2_17 := Lib.hid (A2_16.out.below hb)
   have sB0_13 := Lib.hid (sB0_12.out.below hb)
   have sB1_13 := Lib.hid (sB1_12.out.below hb)
   have sB2_13 := Lib.hid (sB2_12.out.below hb)
   have sL0_13 := Lib.hid (sL0_12.out.below entE_ok hb)
   have sL1_13 := Lib.hid (sL1_12.out.below intE_ok hb)
   have E0_12 := Lib.hid (E0_11.out.below entE_ok hb)
   have X0_11 := Lib.hid (X0_10.out.below hb)
   have E1_10 := Lib.hid (E1_9.out.below intE_ok hb)
   have X1_9 := Lib.hid (X1_8.out.below hb)
   have E2_8 := Lib.hid (E2_7.out.below intE_ok hb)
   have X2_7 := Lib.hid (X2_6.out.below hb)
   have gB0_6 := Lib.hid (gB0_5.out.below hb)
   have gB1_6 := Lib.hid (gB1_5.out.below hb)
   have gB2_6 := Lib.hid (gB2_5.out.below hb)
   have gL0_6 := Lib.hid (gL0_5.out.below entE_ok hb)
   have gL1_6 := Lib.hid (gL1_5.out.below intE_ok hb)
   clear HB_16 A0_16 A1_16 A2_16 sB0_12 sB1_12 sB2_12 sL0_12 sL1_12 E0_11 X0_10 E1_9 X1_8 E2_7 X2_6 gB0_5 gB1_5 gB2_5 gL0_5 gL1_5 hb hS1 HI3
   try simp only [qA, qB, qC, Act.put, qD, qE, qF]
   refine wpAnyH_take (i := 4) (v := .bool false) rfl (by kernel_rfl) (by kernel_rfl) (by kernel_rfl) (fun _ _ _ h => h) (Or.inl ⟨by rfl, fun z hz => ?_⟩) hS2 ?_
   ·
    obtain ⟨q1, q2, q3, q4⟩ := hz
    go_simp
   try simp only [qA, qB, qC, Act.put, qD, qE, qF]
   refine wpAnyH_done (by kernel_rfl) ?_ _
   clear hS2
   have hb := (Below.refl w15.heap.size w15).drew
   have HB_18 := Lib.hid (HB_17.out.trans (hb.mono HB_17.out.size))
   have A0_18 := Lib.hid (A0_17.out.below hb)
   have A1_18 := Lib.hid (A1_17.out.below hb)
   have A2_18 := Lib.hid (A2_17.out.below hb)
   have sB0_14 := Lib.hid (sB0_13.out.below hb)
   have sB1_14 := Lib.hid (sB1_13.out.below hb)
   have sB2_14 := Lib.hid (sB2_13.out.below hb)
   have sL0_14 := Lib.hid (sL0_13.out.below entE_ok hb)
   have sL1_14 := Lib.hid (sL1_13.out.below intE_ok hb)
   have E0_13 := Lib.hid (E0_12.out.below entE_ok hb)
   have X0_12 := Lib.hid (X0_11.out.below hb)
   have E1_11 := Lib.hid (E1_10.out.below intE_ok hb)
   have X1_10 := Lib.hid (X1_9.out.below hb)
   have E2_9 := Lib.hid (E2_8.out.below intE_ok hb)
   have X2_8 := Lib.hid (X2_7.out.below hb)
   have gB0_7 := Lib.hid (gB0_6.out.below hb)
   have gB1_7 := Lib.hid (gB1_6.out.below hb)
   have gB2_7 := Lib.hid (gB2_6.out.below hb)
   have gL0_7 := Lib.hid (gL0_6.out.below entE_ok hb)
   have gL1_7 := Lib.hid (gL1_6.out.below intE_ok hb)
   clear HB_17 A0_17 A1_17 A2_17 sB0_13 sB1_13 sB2_13 sL0_13 sL1_13 E0_12 X0_11 E1_10 X1_9 E2_8 X2_7 gB0_6 gB1_6 gB2_6 gL0_6 gL1_6 hb
   go_upto_region 20 with fail
   refine wp_region_held_drew (S := fun v : World => v.cell? ⟨w6.heap.size, 0, none⟩ = some (.slice y2d o1.length y2c) ∧ v.cell? ⟨(w.heap.size + 1), 0, none⟩ = some (.slice a1d o1.length a1c) ∧ w6.heap.size < v.heap.size ∧ (w.heap.size + 1) < v.heap.size ∧ v.cell? ⟨w6.heap.size, 1, none⟩ = some (.string (S t1)) ∧ v.cell? ⟨(w.heap.size + 1), 1, none⟩ = some (.string (S t1))) (by kernel_rfl) ⟨X1_10.out.1, A1_18.out.1, X1_10.out.2.2, A1_18.out.2.2, X1_10.out.2.1, A1_18.out.2.1⟩ (fun hS0 => ?_)
   refine wpAnyH_take (i := 0) (v := .agg #[.slice y2d o1.length y2c, .string (S t1)]) rfl (by kernel_rfl) (by kernel_rfl) (by kernel_rfl) (fun _ _ _ h => h) (Or.inl ⟨by rfl, fun z hz => ?_⟩) hS0 ?_
   ·
    obtain ⟨q1, q2, q3, q4, q5, q6⟩ := hz
    go_simp
   try simp only [qA, qB, Act.put, qD, qE, qF]
   refine wpAnyH_take (i := 1) (v := .agg #[.slice a1d o1.length a1c, .string (S t1)]) rfl (by kernel_rfl) (by kernel_rfl) (by kernel_rfl) (fun _ _ _ h => h) (Or.inl ⟨by rfl, fun z hz => ?_⟩) hS0 ?_
   ·
    obtain ⟨q1, q2, q3, q4, q5, q6⟩ := hz
    go_simp
   try simp only [qA, qB, qC, Act.put, qD, qE, qF]
   refine wpAnyH_ready (rs := [2]) (by kernel_rfl) (by simp) ?_
   refine AllReadyH.cons rfl (fun K hK => ?_) AllReadyH.nil
   go_simp
   refine (toTranslator _ o1 t1 _ (HU1.out.below HB_18.out) HSM1.out.1).mono ?_
   rintro e w16 ⟨y5, rfl, hI, hb⟩
   have zw16 : w15.heap.size ≤ w16.heap.size := hb.size
   refine hK.out _ _ ⟨(hb.cell (p := ⟨w6.heap.size, 0, none⟩) hS0.2.2.1).trans hS0.1, (hb.cell (p := ⟨(w.heap.size + 1), 0, none⟩) hS0.2.2.2.1).trans hS0.2.1, Nat.lt_of_lt_of_le hS0.2.2.1 hb.size, Nat.lt_of_lt_of_le hS0.2.2.2.1 hb.size, (hb.cell (p := ⟨w6.heap.size, 1, none⟩) hS0.2.2.1).trans hS0.2.2.2.2.1, (hb.cell (p := ⟨(w.heap.size + 1), 1, none⟩) hS0.2.2.2.1).trans hS0.2.2.2.2.2⟩ (fun hS1 => ?_)
   clear hK K
   have HB_19 := Lib.hid (HB_18.out.trans (hb.mono HB_18.out.size))
   have A0_19 := Lib.hid (A0_18.out.below hb)
   have A1_19 := Lib.hid (A1_18.out.below hb)
   have A2_19 := Lib.hid (A2_18.out.below hb)
   have sB0_15 := Lib.hid (sB0_14.out.below hb)
   have sB1_15 := Lib.hid (sB1_14.out.below hb)
   have sB2_15 := Lib.hid (sB2_14.out.below hb)
   have sL0_15 := Lib.hid (sL0_14.out.below entE_ok hb)
   have sL1_15 := Lib.hid (sL1_14.out.below intE_ok hb)
   have E0_14 := Lib.hid (E0_13.out.below entE_ok hb)
   have X0_13 := Lib.hid (X0_12.out.below hb)
   have E1_12 := Lib.hid (E1_11.out.below intE_ok hb)
   have X1_11 := Lib.hid (X1_10.out.below hb)
   have E2_10 := Lib.hid (E2_9.out.below intE_ok hb)
   have X2_9 := Lib.hid (X2_8.out.below hb)
   have gB0_8 := Lib.hid (gB0_7.out.below hb)
   have gB1_8 := Lib.hid (gB1_7.out.below hb)
   have gB2_8 := Lib.hid (gB2_7.out.below hb)
   have gL0_8 := Lib.hid (gL0_7.out.below entE_ok hb)
   have gL1_8 := Lib.hid (gL1_7.out.below intE_ok hb)
   clear HB_18 A0_18 A1_18 A2_18 sB0_14 sB1_14 sB2_14 sL0_14 sL1_14 E0_13 X0_12 E1_11 X1_10 E2_9 X2_8 gB0_7 gB1_7 gB2_7 gL0_7 gL1_7 hb hS0
   have HI3 := Lib.hid hI
   obtain ⟨y5d, y5c, rfl, _, _⟩ := hI
   try simp only [qA, qB, qC, Act.put, qD, qE, qF]
   refine wpAnyH_ready (rs := [3]) (by kernel_rfl) (by simp) ?_
   refine AllReadyH.cons rfl (fun K hK => ?_) AllReadyH.nil
   go_simp
   refine (eqTranslator _ _ o1 t1 _ (Ints.read E1_12.out) (Ints.read HI3.out)).mono ?_
   rintro e w17 ⟨rfl, hb⟩
   have zw17 : w16.heap.size ≤ w17.heap.size := hb.size
   refine hK.out _ _ ⟨(hb.cell (p := ⟨w6.heap.size, 0, none⟩) hS1.2.2.1).trans hS1.1, (hb.cell (p := ⟨(w.heap.size + 1), 0, none⟩) hS1.2.2.2.1).trans hS1.2.1, Nat.lt_of_lt_of_le hS1.2.2.1 hb.size, Nat.lt_of_lt_of_le hS1.2.2.2.1 hb.size, (hb.cell (p := ⟨w6.heap.size, 1, none⟩) hS1.2.2.1).trans hS1.2.2.2.2.1, (hb.cell (p := ⟨(w.heap.size + 1), 1, none⟩) hS1.2.2.2.1).trans hS1.2.2.2.2.2⟩ (fun hS2 => ?_)
   clear hK K
   have HB_20 := Lib.hid (HB_19.out.trans (hb.mono HB_19.out.size))
   have A0_20 := Lib.hid (A0_19.out.below hb)
   have A1_20 := Lib.hid (A1_19.out.below hb)
   have A2_20 := Lib.hid (A2_19.out.below hb)
   have sB0_16 := Lib.hid (sB0_15.out.below hb)
   have sB1_16 := Lib.hid (sB1_15.out.below hb)
   have sB2_16 := Lib.hid (sB2_15.out.below hb)
   have sL0_16 := Lib.hid (sL0_15.out.below entE_ok hb)
   have sL1_16 := Lib.hid (sL1_15.out.below intE_ok hb)
   have E0_15 := Lib.hid (E0_14.out.below entE_ok hb)
   have X0_14 := Lib.hid (X0_13.out.below hb)
   have E1_13 := Lib.hid (E1_12.out.below intE_ok hb)
   have X1_12 := Lib.hid (X1_11.out.below hb)
   have E2_11 := Lib.hid (E2_10.out.below intE_ok hb)
   have X2_10 := Lib.hid (X2_9.out.below hb)
   have gB0_9 := Lib.hid (gB0_8.out.below hb)
   have gB1_9 := Lib.hid (gB1_8.out.below hb)
   have gB2_9 := Lib.hid (gB2_8.out.below hb)
   have gL0_9 := Lib.hid (gL0_8.out.below entE_ok hb)
   have gL1_9 := Lib.hid (gL1_8.out.below intE_ok hb)
   clear HB_19 A0_19 A1_19 A2_19 sB0_15 sB1_15 sB2_15 sL0_15 sL1_15 E0_14 X0_13 E1_12 X1_11 E2_10 X2_9 gB0_8 gB1_8 gB2_8 gL0_8 gL1_8 hb hS1 HI3
   try simp only [qA, qB, qC, Act.put, qD, qE, qF]
   refine wpAnyH_take (i := 4) (v := .bool false) rfl (by kernel_rfl) (by kernel_rfl) (by kernel_rfl) (fun _ _ _ h => h) (Or.inl ⟨by rfl, fun z hz => ?_⟩) hS2 ?_
   ·
    obtain ⟨q1, q2, q3, q4, q5, q6⟩ := hz
    go_simp
   try simp only [qA, qB, qC, Act.put, qD, qE, qF]
   refine wpAnyH_done (by kernel_rfl) ?_ _
   clear hS2
   have hb := (Below.refl w17.heap.size w17).drew
   have HB_21 := Lib.hid (HB_20.out.trans (hb.mono HB_20.out.size))
   have A0_21 := Lib.hid (A0_20.out.below hb)
   have A1_21 := Lib.hid (A1_20.out.below hb)
   have A2_21 := Lib.hid (A2_20.out.below hb)
   have sB0_17 := Lib.hid (sB0_16.out.below hb)
   have sB1_17 := Lib.hid (sB1_16.out.below hb)
   have sB2_17 := Lib.hid (sB2_16.out.below hb)
   have sL0_17 := Lib.hid (sL0_16.out.below entE_ok hb)
   have sL1_17 := Lib.hid (sL1_16.out.below intE_ok hb)
   have E0_16 := Lib.hid (E0_15.out.below entE_ok hb)
   have X0_15 := Lib.hid (X0_14.out.below hb)
   have E1_14 := Lib.hid (E1_13.out.below intE_ok hb)
   have X1_13 := Lib.hid (X1_12.out.below hb)
   have E2_12 := Lib.hid (E2_11.out.below intE_ok hb)
   have X2_11 := Lib.hid (X2_10.out.below hb)
   have gB0_10 := Lib.hid (gB0_9.out.below hb)
   have gB1_10 := Lib.hid (gB1_9.out.below hb)
   have gB2_10 := Lib.hid (gB2_9.out.below hb)
   have gL0_10 := Lib.hid (gL0_9.out.below entE_ok hb)
   have gL1_10 := Lib.hid (gL1_9.out.below intE_ok hb)
   clear HB_20 A0_20 A1_20 A2_20 sB0_16 sB1_16 sB2_16 sL0_16 sL1_16 E0_15 X0_14 E1_13 X1_12 E2_11 X2_10 gB0_9 gB1_9 gB2_9 gL0_9 gL1_9 hb
   go_upto_region 22 with fail
   refine wp_region_held_drew (S := fun v : World => v.cell? ⟨w7.heap.size, 0, none⟩ = some (.slice y3d o2.length y3c) ∧ v.cell? ⟨(w.heap.size + 2), 0, none⟩ = some (.slice a2d o2.length a2c) ∧ w7.heap.size < v.heap.size ∧ (w.heap.size + 2) < v.heap.size ∧ v.cell? ⟨w7.heap.size, 1, none⟩ = some (.string (S t2)) ∧ v.cell? ⟨(w.heap.size + 2), 1, none⟩ = some (.string (S t2))) (by kernel_rfl) ⟨X2_11.out.1, A2_21.out.1, X2_11.out.2.2, A2_21.out.2.2, X2_11.out.2.1, A2_21.out.2.1⟩ (fun hS0 => ?_)
   refine wpAnyH_take (i := 0) (v := .agg #[.slice y3d o2.length y3c, .string (S t2)]) rfl (by kernel_rfl) (by kernel_rfl) (by kernel_rfl) (fun _ _ _ h => h) (Or.inl ⟨by rfl, fun z hz => ?_⟩) hS0 ?_
   ·
    obtain ⟨q1, q2, q3, q4, q5, q6⟩ := hz
    go_simp
   try simp only [qA, qB, Act.put, qD, qE, qF]
   refine wpAnyH_take (i := 1) (v := .agg #[.slice a2d o2.length a2c, .string (S t2)]) rfl (by kernel_rfl) (by kernel_rfl) (by kernel_rfl) (fun _ _ _ h => h) (Or.inl ⟨by rfl, fun z hz => ?_⟩) hS0 ?_
   ·
    obtain ⟨q1, q2, q3, q4, q5, q6⟩ := hz
    go_simp
   try simp only [qA, qB, qC, Act.put, qD, qE, qF]
   refine wpAnyH_ready (rs := [2]) (by kernel_rfl) (by simp) ?_
   refine AllReadyH.cons rfl (fun K hK => ?_) AllReadyH.nil
   go_simp
   refine (toEntry _ o2 t2 _ (HU2.out.below HB_21.out) HSM2.out.1).mono ?_
   rintro e w18 ⟨y6, rfl, hI, hb⟩
   have zw18 : w17.heap.size ≤ w18.heap.size := hb.size
   refine hK.out _ _ ⟨(hb.cell (p := ⟨w7.heap.size, 0, none⟩) hS0.2.2.1).trans hS0.1, (hb.cell (p := ⟨(w.heap.size + 2), 0, none⟩) hS0.2.2.2.1).trans hS0.2.1, Nat.lt_of_lt_of_le hS0.2.2.1 hb.size, Nat.lt_of_lt_of_le hS0.2.2.2.1 hb.size, (hb.cell (p := ⟨w7.heap.size, 1, none⟩) hS0.2.2.1).trans hS0.2.2.2.2.1, (hb.cell (p := ⟨(w.heap.size + 2), 1, none⟩) hS0.2.2.2.1).trans hS0.2.2.2.2.2⟩ (fun hS1 => ?_)
   clear hK K
   have HB_22 := Lib.hid (HB_21.out.trans (hb.mono HB_21.out.size))
   have A0_22 := Lib.hid (A0_21.out.below hb)
   have A1_22 := Lib.hid (A1_21.out.below hb)
   have A2_22 := Lib.hid (A2_21.out.below hb)
   have sB0_18 := Lib.hid (sB0_17.out.below hb)
   have sB1_18 := Lib.hid (sB1_17.out.below hb)
   have sB2_18 := Lib.hid (sB2_17.out.below hb)
   have sL0_18 := Lib.hid (sL0_17.out.below entE_ok hb)
   have sL1_18 := Lib.hid (sL1_17.out.below intE_ok hb)
   have E0_17 := Lib.hid (E0_16.out.below entE_ok hb)
   have X0_16 := Lib.hid (X0_15.out.below hb)
   have E1_15 := Lib.hid (E1_14.out.below intE_ok hb)
   have X1_14 := Lib.hid (X1_13.out.below hb)
   have E2_13 := Lib.hid (E2_12.out.below intE_ok hb)
   have X2_12 := Lib.hid (X2_11.out.below hb)
   have gB0_11 := Lib.hid (gB0_10.out.below hb)
   have gB1_11 := Lib.hid (gB1_10.out.below hb)
   have gB2_11 := Lib.hid (gB2_10.out.below hb)
   have gL0_11 := Lib.hid (gL0_10.out.below entE_ok hb)
   have gL1_11 := Lib.hid (gL1_10.out.below intE_ok hb)
   clear HB_21 A0_21 A1_21 A2_21 sB0_17 sB1_17 sB2_17 sL0_17 sL1_17 E0_16 X0_15 E1_14 X1_13 E2_12 X2_11 gB0_10 gB1_10 gB2_10 gL0_10 gL1_10 hb hS0
   have HI3 := Lib.hid hI
   obtain ⟨y6d, y6c, rfl, _, _⟩ := hI
   try simp only [qA, qB, qC, Act.put, qD, qE, qF]
   refine wpAnyH_ready (rs := [3]) (by kernel_rfl) (by simp) ?_
   refine AllReadyH.cons rfl (fun K hK => ?_) AllReadyH.nil
   go_simp
   refine (eqEntry _ _ o2 t2 _ (Ints.read E2_13.out) (Ints.read HI3.out)).mono ?_
   rintro e w19 ⟨rfl, hb⟩
   have zw19 : w18.heap.size ≤ w19.heap.size := hb.size
   refine hK.out _ _ ⟨(hb.cell (p := ⟨w7.heap.size, 0, none⟩) hS1.2.2.1).trans hS1.1, (hb.cell (p := ⟨(w.heap.size + 2), 0, none⟩) hS1.2.2.2.1).trans hS1.2.1, Nat.lt_of_lt_of_le hS1.2.2.1 hb.size, Nat.lt_of_lt_of_le hS1.2.2.2.1 hb.size, (hb.cell (p := ⟨w7.heap.size, 1, none⟩) hS1.2.2.1).trans hS1.2.2.2.2.1, (hb.cell (p := ⟨(w.heap.size + 2), 1, none⟩) hS1.2.2.2.1).trans hS1.2.2.2.2.2⟩ (fun hS2 => ?_)
   clear hK K
   have HB_23 := Lib.hid (HB_22.out.trans (hb.mono HB_22.out.size))
   have A0_23 := Lib.hid (A0_22.out.below hb)
   have A1_23 := Lib.hid (A1_22.out.below hb)
   have A2_23 := Lib.hid (A2_22.out.below hb)
   have sB0_19 := Lib.hid (sB0_18.out.below hb)
   have sB1_19 := Lib.hid (sB1_18.out.below hb)
   have sB2_19 := Lib.hid (sB2_18.out.below hb)
   have sL0_19 := Lib.hid (sL0_18.out.below entE_ok hb)
   have sL1_19 := Lib.hid (sL1_18.out.below intE_ok hb)
   have E0_18 := Lib.hid (E0_17.out.below entE_ok hb)
   have X0_17 := Lib.hid (X0_16.out.below hb)
   have E1_16 := Lib.hid (E1_15.out.below intE_ok hb)
   have X1_15 := Lib.hid (X1_14.out.below hb)
   have E2_14 := Lib.hid (E2_13.out.below intE_ok hb)
   have X2_13 := Lib.hid (X2_12.out.below hb)
   have gB0_12 := Lib.hid (gB0_11.out.below hb)
   have gB1_12 := Lib.hid (gB1_11.out.below hb)
   have gB2_12 := Lib.hid (gB2_11.out.below hb)
   have gL0_12 := Lib.hid (gL0_11.out.below entE_ok hb)
   have gL1_12 := Lib.hid (gL1_11.out.below intE_ok hb)
   clear HB_22 A0_22 A1_22 A2_22 sB0_18 sB1_18 sB2_18 sL0_18 sL1_18 E0_17 X0_16 E1_15 X1_14 E2_13 X2_12 gB0_11 gB1_11 gB2_11 gL0_11 gL1_11 hb hS1 HI3
   try simp only [qA, qB, qC, Act.put, qD, qE, qF]
   refine wpAnyH_take (i := 4) (v := .bool false) rfl (by kernel_rfl) (by kernel_rfl) (by kernel_rfl) (fun _ _ _ h => h) (Or.inl ⟨by rfl, fun z hz => ?_⟩) hS2 ?_
   ·
    obtain ⟨q1, q2, q3, q4, q5, q6⟩ := hz
    go_simp
   try simp only [qA, qB, qC, Act.put, qD, qE, qF]
   refine wpAnyH_done (by kernel_rfl) ?_ _
   clear hS2
   obtain ⟨c_X0, _⟩ := X0_17.out
   go_wp2_with fail
   refine (markDictionary _ l0 (1 : Int) (Bet (w4.heap.size) w5.heap.size) _ E0_18.out HK0.out.1 HK0.out.2.2.1).mono ?_
   rintro e w20 ⟨rfl, _, hc⟩
   have zw20 : w19.heap.size ≤ w20.heap.size := hc.size
   clear c_X0
   have HB_24 := Lib.hid (Chg.belowB HB_23.out hc HB_23.out.size (fun b h => by have h3 : _ ∧ _ := h; omega))
   have A0_24 := Lib.hid (A0_23.out.stand hc (fun h => by have h3 : _ ∧ _ := h; omega))
   have A1_24 := Lib.hid (A1_23.out.stand hc (fun h => by have h3 : _ ∧ _ := h; omega))
   have A2_24 := Lib.hid (A2_23.out.stand hc (fun h => by have h3 : _ ∧ _ := h; omega))
   have sB0_20 := Lib.hid (sB0_19.out.stand hc (fun h => by have h3 : _ ∧ _ := h; omega))
   have sB1_20 := Lib.hid (sB1_19.out.stand hc (fun h => by have h3 : _ ∧ _ := h; omega))
   have sB2_20 := Lib.hid (sB2_19.out.stand hc (fun h => by have h3 : _ ∧ _ := h; omega))
   have sL0_20 := Lib.hid (sL0_19.out.stand entE_ok hc (fun b h1 h2 => by first | (have h3 : _ ∧ _ := h1; have h4 : _ ∧ _ := h2; omega) | exact (h1.2 h2.2).elim | exact (h2.2 h1.2).elim))
   have sL1_20 := Lib.hid (sL1_19.out.stand intE_ok hc (fun b h1 h2 => by first | (have h3 : _ ∧ _ := h1; have h4 : _ ∧ _ := h2; omega) | exact (h1.2 h2.2).elim | exact (h2.2 h1.2).elim))
   have X0_18 := Lib.hid (X0_17.out.stand hc (fun h => by have h3 : _ ∧ _ := h; omega))
   have E1_17 := Lib.hid (E1_16.out.stand intE_ok hc (fun b h1 h2 => by first | (have h3 : _ ∧ _ := h1; have h4 : _ ∧ _ := h2; omega) | exact (h1.2 h2.2).elim | exact (h2.2 h1.2).elim))
   have X1_16 := Lib.hid (X1_15.out.stand hc (fun h => by have h3 : _ ∧ _ := h; omega))
   have E2_15 := Lib.hid (E2_14.out.stand intE_ok hc (fun b h1 h2 => by first | (have h3 : _ ∧ _ := h1; have h4 : _ ∧ _ := h2; omega) | exact (h1.2 h2.2).elim | exact (h2.2 h1.2).elim))
   have X2_14 := Lib.hid (X2_13.out.stand hc (fun h => by have h3 : _ ∧ _ := h; omega))
   have gB0_13 := Lib.hid (gB0_12.out.stand hc (fun h => by have h3 : _ ∧ _ := h; omega))
   have gB1_13 := Lib.hid (gB1_12.out.stand hc (fun h => by have h3 : _ ∧ _ := h; omega))
   have gB2_13 := Lib.hid (gB2_12.out.stand hc (fun h => by have h3 : _ ∧ _ := h; omega))
   have gL0_13 := Lib.hid (gL0_12.out.stand entE_ok hc (fun b h1 h2 => by first | (have h3 : _ ∧ _ := h1; have h4 : _ ∧ _ := h2; omega) | exact (h1.2 h2.2).elim | exact (h2.2 h1.2).elim))
   have gL1_13 := Lib.hid (gL1_12.out.stand intE_ok hc (fun b h1 h2 => by first | (have h3 : _ ∧ _ := h1; have h4 : _ ∧ _ := h2; omega) | exact (h1.2 h2.2).elim | exact (h2.2 h1.2).elim))
   clear HB_23 A0_23 A1_23 A2_23 sB0_19 sB1_19 sB2_19 sL0_19 sL1_19 X0_17 E1_16 X1_15 E2_14 X2_13 gB0_12 gB1_12 gB2_12 gL0_12 gL1_12 hc
   obtain ⟨c_X10, c_X11, _⟩ := X1_16.out
   go_wp2_with fail
   refine (markTranslator _ o1 t1 (P.kAt (1 : Int) l0) (Bet (w5.heap.size + 1) w6.heap.size) _ E1_17.out HK1.out.1 HK1.out.2.1).mono ?_
   rintro e w21 ⟨rfl, _, hc⟩
   have zw21 : w20.heap.size ≤ w21.heap.size := hc.size
   clear c_X10 c_X11
   have HB_25 := Lib.hid (Chg.belowB HB_24.out hc HB_24.out.size (fun b h => by have h3 : _ ∧ _ := h; omega))
   have A0_25 := Lib.hid (A0_24.out.stand hc (fun h => by have h3 : _ ∧ _ := h; omega))
   have A1_25 := Lib.hid (A1_24.out.stand hc (fun h => by have h3 : _ ∧ _ := h; omega))
   have A2_25 := Lib.hid (A2_24.out.stand hc (fun h => by have h3 : _ ∧ _ := h; omega))
   have sB0_21 := Lib.hid (sB0_20.out.stand hc (fun h => by have h3 : _ ∧ _ := h; omega))
   have sB1_21 := Lib.hid (sB1_20.out.stand hc (fun h => by have h3 : _ ∧ _ := h; omega))
   have sB2_21 := Lib.hid (sB2_20.out.stand hc (fun h => by have h3 : _ ∧ _ := h; omega))
   have sL0_21 := Lib.hid (sL0_20.out.stand entE_ok hc (fun b h1 h2 => by first | (have h3 : _ ∧ _ := h1; have h4 : _ ∧ _ := h2; omega) | exact (h1.2 h2.2).elim | exact (h2.2 h1.2).elim))
   have sL1_21 := Lib.hid (sL1_20.out.stand intE_ok hc (fun b h1 h2 => by first | (have h3 : _ ∧ _ := h1; have h4 : _ ∧ _ := h2; omega) | exact (h1.2 h2.2).elim | exact (h2.2 h1.2).elim))
   have X0_19 := Lib.hid (X0_18.out.stand hc (fun h => by have h3 : _ ∧ _ := h; omega))
   have X1_17 := Lib.hid (X1_16.out.stand hc (fun h => by have h3 : _ ∧ _ := h; omega))
   have E2_16 := Lib.hid (E2_15.out.stand intE_ok hc (fun b h1 h2 => by first | (have h3 : _ ∧ _ := h1; have h4 : _ ∧ _ := h2; omega) | exact (h1.2 h2.2).elim | exact (h2.2 h1.2).elim))
   have X2_15 := Lib.hid (X2_14.out.stand hc (fun h => by have h3 : _ ∧ _ := h; omega))
   have gB0_14 := Lib.hid (gB0_13.out.stand hc (fun h => by have h3 : _ ∧ _ := h; omega))
   have gB1_14 := Lib.hid (gB1_13.out.stand hc (fun h => by have h3 : _ ∧ _ := h; omega))
   have gB2_14 := Lib.hid (gB2_13.out.stand hc (fun h => by have h3 : _ ∧ _ := h; omega))
   have gL0_14 := Lib.hid (gL0_13.out.stand entE_ok hc (fun b h1 h2 => by first | (have h3 : _ ∧ _ := h1; have h4 : _ ∧ _ := h2; omega) | exact (h1.2 h2.2).elim | exact (h2.2 h1.2).elim))
   have gL1_14 := Lib.hid (gL1_13.out.stand intE_ok hc (fun b h1 h2 => by first | (have h3 : _ ∧ _ := h1; have h4 : _ ∧ _ := h2; omega) | exact (h1.2 h2.2).elim | exact (h2.2 h1.2).elim))
   clear HB_24 A0_24 A1_24 A2_24 sB0_20 sB1_20 sB2_20 sL0_20 sL1_20 X0_18 X1_16 E2_15 X2_14 gB0_13 gB1_13 gB2_13 gL0_13 gL1_13 hc
   obtain ⟨c_X20, c_X21, _⟩ := X2_15.out
   go_wp2_with fail
   refine (markEntry _ o2 t2 ((P.kAt (1 : Int) l0) + (o1.length : Int)) (Bet (w6.heap.size + 1) w7.heap.size) _ E2_16.out HK2.out.1 HK2.out.2.1).mono ?_
   rintro e w22 ⟨rfl, _, hc⟩
   have zw22 : w21.heap.size ≤ w22.heap.size := hc.size
   clear c_X20 c_X21
   have HB_26 := Lib.hid (Chg.belowB HB_25.out hc HB_25.out.size (fun b h => by have h3 : _ ∧ _ := h; omega))
   have A0_26 := Lib.hid (A0_25.out.stand hc (fun h => by have h3 : _ ∧ _ := h; omega))
   have A1_26 := Lib.hid (A1_25.out.stand hc (fun h => by have h3 : _ ∧ _ := h; omega))
   have A2_26 := Lib.hid (A2_25.out.stand hc (fun h => by have h3 : _ ∧ _ := h; omega))
   have sB0_22 := Lib.hid (sB0_21.out.stand hc (fun h => by have h3 : _ ∧ _ := h; omega))
   have sB1_22 := Lib.hid (sB1_21.out.stand hc (fun h => by have h3 : _ ∧ _ := h; omega))
   have sB2_22 := Lib.hid (sB2_21.out.stand hc (fun h => by have h3 : _ ∧ _ := h; omega))
   have sL0_22 := Lib.hid (sL0_21.out.stand entE_ok hc (fun b h1 h2 => by first | (have h3 : _ ∧ _ := h1; have h4 : _ ∧ _ := h2; omega) | exact (h1.2 h2.2).elim | exact (h2.2 h1.2).elim))
   have sL1_22 := Lib.hid (sL1_21.out.stand intE_ok hc (fun b h1 h2 => by first | (have h3 : _ ∧ _ := h1; have h4 : _ ∧ _ := h2; omega) | exact (h1.2 h2.2).elim | exact (h2.2 h1.2).elim))
   have X0_20 := Lib.hid (X0_19.out.stand hc (fun h => by have h3 : _ ∧ _ := h; omega))
   have X1_18 := Lib.hid (X1_17.out.stand hc (fun h => by have h3 : _ ∧ _ := h; omega))
   have X2_16 := Lib.hid (X2_15.out.stand hc (fun h => by have h3 : _ ∧ _ := h; omega))
   have gB0_15 := Lib.hid (gB0_14.out.stand hc (fun h => by have h3 : _ ∧ _ := h; omega))
   have gB1_15 := Lib.hid (gB1_14.out.stand hc (fun h => by have h3 : _ ∧ _ := h; omega))
   have gB2_15 := Lib.hid (gB2_14.out.stand hc (fun h => by have h3 : _ ∧ _ := h; omega))
   have gL0_15 := Lib.hid (gL0_14.out.stand entE_ok hc (fun b h1 h2 => by first | (have h3 : _ ∧ _ := h1; have h4 : _ ∧ _ := h2; omega) | exact (h1.2 h2.2).elim | exact (h2.2 h1.2).elim))
   have gL1_15 := Lib.hid (gL1_14.out.stand intE_ok hc (fun b h1 h2 => by first | (have h3 : _ ∧ _ := h1; have h4 : _ ∧ _ := h2; omega) | exact (h1.2 h2.2).elim | exact (h2.2 h1.2).elim))
   clear HB_25 A0_25 A1_25 A2_25 sB0_21 sB1_21 sB2_21 sL0_21 sL1_21 X0_19 X1_17 X2_15 gB0_14 gB1_14 gB2_14 gL0_14 gL1_14 hc
   have hkp : ¬ (((P.kAt (1 : Int) l0) + (o1.length : Int)) + (o2.length : Int)) < 0 := by have := HK2.out.2.2.2; omega
   obtain ⟨c_gB0, _⟩ := gB0_15.out
   obtain ⟨c_sB0, _⟩ := sB0_22.out
   obtain ⟨c_gB10, c_gB11, _⟩ := gB1_15.out
   obtain ⟨c_sB10, c_sB11, _⟩ := sB1_22.out
   obtain ⟨c_gB20, c_gB21, _⟩ := gB2_15.out
   obtain ⟨c_sB20, c_sB21, _⟩ := sB2_22.out
   go_wp2_with fail
   refine (eqDictionary _ _ bk _ (Ents.read gL0_15.out) (Ents.read sL0_22.out)).mono ?_
   rintro e w23 ⟨rfl, hb⟩
   clear c_gB0 c_sB0 c_gB10 c_gB11 c_sB10 c_sB11 c_gB20 c_gB21 c_sB20 c_sB21
   have zw23 : w22.heap.size ≤ w23.heap.size := hb.size
   have HB_27 := Lib.hid (HB_26.out.trans (hb.mono HB_26.out.size))
   have A0_27 := Lib.hid (A0_26.out.below hb)
   have A1_27 := Lib.hid (A1_26.out.below hb)
   have A2_27 := Lib.hid (A2_26.out.below hb)
   have sB0_23 := Lib.hid (sB0_22.out.below hb)
   have sB1_23 := Lib.hid (sB1_22.out.below hb)
   have sB2_23 := Lib.hid (sB2_22.out.below hb)
   have sL0_23 := Lib.hid (sL0_22.out.below entE_ok hb)
   have sL1_23 := Lib.hid (sL1_22.out.below intE_ok hb)
   have X0_21 := Lib.hid (X0_20.out.below hb)
   have X1_19 := Lib.hid (X1_18.out.below hb)
   have X2_17 := Lib.hid (X2_16.out.below hb)
   have gB0_16 := Lib.hid (gB0_15.out.below hb)
   have gB1_16 := Lib.hid (gB1_15.out.below hb)
   have gB2_16 := Lib.hid (gB2_15.out.below hb)
   have gL0_16 := Lib.hid (gL0_15.out.below entE_ok hb)
   have gL1_16 := Lib.hid (gL1_15.out.below intE_ok hb)
   clear HB_26 A0_26 A1_26 A2_26 sB0_22 sB1_22 sB2_22 sL0_22 sL1_22 X0_20 X1_18 X2_16 gB0_15 gB1_15 gB2_15 gL0_15 gL1_15 hb
   obtain ⟨c_gB10, c_gB11, _⟩ := gB1_16.out
   obtain ⟨c_sB10, c_sB11, _⟩ := sB1_23.out
   obtain ⟨c_gB20, c_gB21, _⟩ := gB2_16.out
   obtain ⟨c_sB20, c_sB21, _⟩ := sB2_23.out
   go_wp2_with fail
   refine (eqTranslator _ _ nx sc _ (Ints.read gL1_16.out) (Ints.read sL1_23.out)).mono ?_
   rintro e w24 ⟨rfl, hb⟩
   clear c_gB10 c_gB11 c_sB10 c_sB11 c_gB20 c_gB21 c_sB20 c_sB21
   have zw24 : w23.heap.size ≤ w24.heap.size := hb.size
   have HB_28 := Lib.hid (HB_27.out.trans (hb.mono HB_27.out.size))
   have A0_28 := Lib.hid (A0_27.out.below hb)
   have A1_28 := Lib.hid (A1_27.out.below hb)
   have A2_28 := Lib.hid (A2_27.out.below hb)
   have sB0_24 := Lib.hid (sB0_23.out.below hb)
   have sB1_24 := Lib.hid (sB1_23.out.below hb)
   have sB2_24 := Lib.hid (sB2_23.out.below hb)
   have sL0_24 := Lib.hid (sL0_23.out.below entE_ok hb)
   have sL1_24 := Lib.hid (sL1_23.out.below intE_ok hb)
   have X0_22 := Lib.hid (X0_21.out.below hb)
   have X1_20 := Lib.hid (X1_19.out.below hb)
   have X2_18 := Lib.hid (X2_17.out.below hb)
   have gB0_17 := Lib.hid (gB0_16.out.below hb)
   have gB1_17 := Lib.hid (gB1_16.out.below hb)
   have gB2_17 := Lib.hid (gB2_16.out.below hb)
   have gL0_17 := Lib.hid (gL0_16.out.below entE_ok hb)
   have gL1_17 := Lib.hid (gL1_16.out.below intE_ok hb)
   clear HB_27 A0_27 A1_27 A2_27 sB0_23 sB1_23 sB2_23 sL0_23 sL1_23 X0_21 X1_19 X2_17 gB0_16 gB1_16 gB2_16 gL0_16 gL1_16 hb
   obtain ⟨c_gB20, c_gB21, _⟩ := gB2_17.out
   obtain ⟨c_sB20, c_sB21, _⟩ := sB2_24.out
   go_wp2_with fail
   refine (eqEdit en et _).mono ?_
   rintro e w25 ⟨rfl, hb⟩
   clear c_gB20 c_gB21 c_sB20 c_sB21
   have zw25 : w24.heap.size ≤ w25.heap.size := hb.size
   have HB_29 := Lib.hid (HB_28.out.trans (hb.mono HB_28.out.size))
   have A0_29 := Lib.hid (A0_28.out.below hb)
   have A1_29 := Lib.hid (A1_28.out.below hb)
   have A2_29 := Lib.hid (A2_28.out.below hb)
   have sB0_25 := Lib.hid (sB0_24.out.below hb)
   have sB1_25 := Lib.hid (sB1_24.out.below hb)
   have sB2_25 := Lib.hid (sB2_24.out.below hb)
   have sL0_25 := Lib.hid (sL0_24.out.below entE_ok hb)
   have sL1_25 := Lib.hid (sL1_24.out.below intE_ok hb)
   have X0_23 := Lib.hid (X0_22.out.below hb)
   have X1_21 := Lib.hid (X1_20.out.below hb)
   have X2_19 := Lib.hid (X2_18.out.below hb)
   have gB0_18 := Lib.hid (gB0_17.out.below hb)
   have gB1_18 := Lib.hid (gB1_17.out.below hb)
   have gB2_18 := Lib.hid (gB2_17.out.below hb)
   have gL0_18 := Lib.hid (gL0_17.out.below entE_ok hb)
   have gL1_18 := Lib.hid (gL1_17.out.below intE_ok hb)
   clear HB_28 A0_28 A1_28 A2_28 sB0_24 sB1_24 sB2_24 sL0_24 sL1_24 X0_22 X1_20 X2_18 gB0_17 gB1_17 gB2_17 gL0_17 gL1_17 hb
   obtain ⟨c_gB0, _⟩ := gB0_18.out
   go_wp2_with fail
   refine (markDictionary _ bk (1 : Int) (BetX w8.heap.size mg (.slice g1d nx.length g1c)) _ gL0_18.out HG0.out.1 HG0.out.2.2.1).mono ?_
   rintro e w26 ⟨rfl, hI, hc⟩
   have zw26 : w25.heap.size ≤ w26.heap.size := hc.size
   clear c_gB0
   have HB_30 := Lib.hid (Chg.belowB HB_29.out hc HB_29.out.size (fun b h => by have h3 : _ ∧ _ := h; omega))
   have A0_30 := Lib.hid (A0_29.out.stand hc (fun h => by have h3 : _ ∧ _ := h; omega))
   have A1_30 := Lib.hid (A1_29.out.stand hc (fun h => by have h3 : _ ∧ _ := h; omega))
   have A2_30 := Lib.hid (A2_29.out.stand hc (fun h => by have h3 : _ ∧ _ := h; omega))
   have sB0_26 := Lib.hid (sB0_25.out.stand hc (fun h => by have h3 : _ ∧ _ := h; omega))
   have sB1_26 := Lib.hid (sB1_25.out.stand hc (fun h => by have h3 : _ ∧ _ := h; omega))
   have sB2_26 := Lib.hid (sB2_25.out.stand hc (fun h => by have h3 : _ ∧ _ := h; omega))
   have sL0_26 := Lib.hid (sL0_25.out.stand entE_ok hc (fun b h1 h2 => by first | (have h3 : _ ∧ _ := h1; have h4 : _ ∧ _ := h2; omega) | exact (h1.2 h2.2).elim | exact (h2.2 h1.2).elim))
   have sL1_26 := Lib.hid (sL1_25.out.stand intE_ok hc (fun b h1 h2 => by first | (have h3 : _ ∧ _ := h1; have h4 : _ ∧ _ := h2; omega) | exact (h1.2 h2.2).elim | exact (h2.2 h1.2).elim))
   have X0_24 := Lib.hid (X0_23.out.stand hc (fun h => by have h3 : _ ∧ _ := h; omega))
   have X1_22 := Lib.hid (X1_21.out.stand hc (fun h => by have h3 : _ ∧ _ := h; omega))
   have X2_20 := Lib.hid (X2_19.out.stand hc (fun h => by have h3 : _ ∧ _ := h; omega))
   have gB0_19 := Lib.hid (gB0_18.out.stand hc (fun h => by have h3 : _ ∧ _ := h; omega))
   have gB1_19 := Lib.hid (gB1_18.out.stand hc (fun h => by have h3 : _ ∧ _ := h; omega))
   have gB2_19 := Lib.hid (gB2_18.out.stand hc (fun h => by have h3 : _ ∧ _ := h; omega))
   have gL1_19 := Lib.hid (gL1_18.out.stand intE_ok hc (fun b h1 h2 => by first | (have h3 : _ ∧ _ := h1; have h4 : _ ∧ _ := h2; omega) | exact (h1.2 h2.2).elim | exact (h2.2 h1.2).elim))
   clear HB_29 A0_29 A1_29 A2_29 sB0_25 sB1_25 sB2_25 sL0_25 sL1_25 X0_23 X1_21 X2_19 gB0_18 gB1_18 gB2_18 gL1_18 hc hkp
   have mL0_0 := Lib.hid (hI)
   clear hI
   obtain ⟨c_gB10, c_gB11, _⟩ := gB1_19.out
   go_wp2_with fail
   refine (markTranslator _ nx sc (P.kAt (1 : Int) bk) (BetO w8.heap.size mg (.slice g1d nx.length g1c)) _ gL1_19.out HG1.out.1 HG1.out.2.1).mono ?_
   rintro e w27 ⟨rfl, hI, hc⟩
   have zw27 : w26.heap.size ≤ w27.heap.size := hc.size
   clear c_gB10 c_gB11
   have HB_31 := Lib.hid (Chg.belowB HB_30.out hc HB_30.out.size (fun b h => by have h3 : _ ∧ _ := h; omega))
   have A0_31 := Lib.hid (A0_30.out.stand hc (fun h => by have h3 : _ ∧ _ := h; omega))
   have A1_31 := Lib.hid (A1_30.out.stand hc (fun h => by have h3 : _ ∧ _ := h; omega))
   have A2_31 := Lib.hid (A2_30.out.stand hc (fun h => by have h3 : _ ∧ _ := h; omega))
   have sB0_27 := Lib.hid (sB0_26.out.stand hc (fun h => by have h3 : _ ∧ _ := h; omega))
   have sB1_27 := Lib.hid (sB1_26.out.stand hc (fun h => by have h3 : _ ∧ _ := h; omega))
   have sB2_27 := Lib.hid (sB2_26.out.stand hc (fun h => by have h3 : _ ∧ _ := h; omega))
   have sL0_27 := Lib.hid (sL0_26.out.stand entE_ok hc (fun b h1 h2 => by first | (have h3 : _ ∧ _ := h1; have h4 : _ ∧ _ := h2; omega) | exact (h1.2 h2.2).elim | exact (h2.2 h1.2).elim))
   have sL1_27 := Lib.hid (sL1_26.out.stand intE_ok hc (fun b h1 h2 => by first | (have h3 : _ ∧ _ := h1; have h4 : _ ∧ _ := h2; omega) | exact (h1.2 h2.2).elim | exact (h2.2 h1.2).elim))
   have X0_25 := Lib.hid (X0_24.out.stand hc (fun h => by have h3 : _ ∧ _ := h; omega))
   have X1_23 := Lib.hid (X1_22.out.stand hc (fun h => by have h3 : _ ∧ _ := h; omega))
   have X2_21 := Lib.hid (X2_20.out.stand hc (fun h => by have h3 : _ ∧ _ := h; omega))
   have gB0_20 := Lib.hid (gB0_19.out.stand hc (fun h => by have h3 : _ ∧ _ := h; omega))
   have gB1_20 := Lib.hid (gB1_19.out.stand hc (fun h => by have h3 : _ ∧ _ := h; omega))
   have gB2_20 := Lib.hid (gB2_19.out.stand hc (fun h => by have h3 : _ ∧ _ := h; omega))
   have mL0_1 := Lib.hid (mL0_0.out.stand entE_ok hc (fun b h1 h2 => by first | (have h3 : _ ∧ _ := h1; have h4 : _ ∧ _ := h2; omega) | exact (h1.2 h2.2).elim | exact (h2.2 h1.2).elim))
   clear HB_30 A0_30 A1_30 A2_30 sB0_26 sB1_26 sB2_26 sL0_26 sL1_26 X0_24 X1_22 X2_20 gB0_19 gB1_19 gB2_19 mL0_0 hc
   have mL1_0 := Lib.hid (hI)
   clear hI
   obtain ⟨c_gB0, _⟩ := gB0_20.out
   go_wp2_with fail
   refine (heldDictionary _ bk (1 : Int) _ (Ents.read mL0_1.out) HG0.out.1 HG0.out.2.2.1).mono ?_
   rintro e w28 ⟨rfl, hb⟩
   clear c_gB0
   have zw28 : w27.heap.size ≤ w28.heap.size := hb.size
   have HB_32 := Lib.hid (HB_31.out.trans (hb.mono HB_31.out.size))
   have A0_32 := Lib.hid (A0_31.out.below hb)
   have A1_32 := Lib.hid (A1_31.out.below hb)
   have A2_32 := Lib.hid (A2_31.out.below hb)
   have sB0_28 := Lib.hid (sB0_27.out.below hb)
   have sB1_28 := Lib.hid (sB1_27.out.below hb)
   have sB2_28 := Lib.hid (sB2_27.out.below hb)
   have sL0_28 := Lib.hid (sL0_27.out.below entE_ok hb)
   have sL1_28 := Lib.hid (sL1_27.out.below intE_ok hb)
   have X0_26 := Lib.hid (X0_25.out.below hb)
   have X1_24 := Lib.hid (X1_23.out.below hb)
   have X2_22 := Lib.hid (X2_21.out.below hb)
   have gB0_21 := Lib.hid (gB0_20.out.below hb)
   have gB1_21 := Lib.hid (gB1_20.out.below hb)
   have gB2_21 := Lib.hid (gB2_20.out.below hb)
   have mL0_2 := Lib.hid (mL0_1.out.below entE_ok hb)
   have mL1_1 := Lib.hid (mL1_0.out.below intE_ok hb)
   clear HB_31 A0_31 A1_31 A2_31 sB0_27 sB1_27 sB2_27 sL0_27 sL1_27 X0_25 X1_23 X2_21 gB0_20 gB1_20 gB2_20 mL0_1 mL1_0 hb
   have hkn0 : ¬ (P.kAt (1 : Int) bk) < 0 := by have := HG0.out.2.2.2; omega
   obtain ⟨c_gB10, c_gB11, _⟩ := gB1_21.out
   go_wp2_with fail
   refine (heldTranslator _ nx.length sc (P.kAt (1 : Int) bk) _ (Ints.read mL1_1.out) HG1.out.1 HG1.out.2.1 (by have := HLEN.out; omega)).mono ?_
   rintro e w29 ⟨rfl, hb⟩
   clear c_gB10 c_gB11
   have zw29 : w28.heap.size ≤ w29.heap.size := hb.size
   have HB_33 := Lib.hid (HB_32.out.trans (hb.mono HB_32.out.size))
   have A0_33 := Lib.hid (A0_32.out.below hb)
   have A1_33 := Lib.hid (A1_32.out.below hb)
   have A2_33 := Lib.hid (A2_32.out.below hb)
   have sB0_29 := Lib.hid (sB0_28.out.below hb)
   have sB1_29 := Lib.hid (sB1_28.out.below hb)
   have sB2_29 := Lib.hid (sB2_28.out.below hb)
   have sL0_29 := Lib.hid (sL0_28.out.below entE_ok hb)
   have sL1_29 := Lib.hid (sL1_28.out.below intE_ok hb)
   have X0_27 := Lib.hid (X0_26.out.below hb)
   have X1_25 := Lib.hid (X1_24.out.below hb)
   have X2_23 := Lib.hid (X2_22.out.below hb)
   have gB0_22 := Lib.hid (gB0_21.out.below hb)
   have gB1_22 := Lib.hid (gB1_21.out.below hb)
   have gB2_22 := Lib.hid (gB2_21.out.below hb)
   have mL0_3 := Lib.hid (mL0_2.out.below entE_ok hb)
   have mL1_2 := Lib.hid (mL1_1.out.below intE_ok hb)
   clear HB_32 A0_32 A1_32 A2_32 sB0_28 sB1_28 sB2_28 sL0_28 sL1_28 X0_26 X1_24 X2_22 gB0_21 gB1_21 gB2_21 mL0_2 mL1_1 hb
   have hkn1 : ¬ ((P.kAt (1 : Int) bk) + (nx.length : Int)) < 0 := by have := HG1.out.2.2.2; omega
   have hWA : (w.heap.size + 2) < w29.heap.size := A2_33.out.2.2
   have HS := Lib.hid (show K_law_redefine w a0d a0c l0 a1d a1c o1 t1 a2d a2c o2 t2 w29.drew from K_law_redefine.step (B := w29.heap.size) ⟨A0_33.out.1, A1_33.out.1, A1_33.out.2.1, A2_33.out.1, A2_33.out.2.1⟩ (Below.refl _ _).drew hWA)
   go_upto_region 42 with fail
   go_cut [22, 23, 24, 25] (fun q0 q1 q2 q3 wx => ∃ bh0 bh1 bh2 h0d h0c h1d h1c, q0 = .pointer (some ⟨bh0, 0, none⟩) ∧ q1 = .pointer (some ⟨bh1, 0, none⟩) ∧ q2 = .pointer (some ⟨bh2, 0, none⟩) ∧ q3 = .bool ok ∧ Box1 bh0 (.slice h0d bk.length h0c) wx ∧ w29.heap.size ≤ bh0 ∧ Box2E bh1 (.slice h1d nx.length h1c) sc wx ∧ w29.heap.size ≤ bh1 ∧ Box2E bh2 (.int .i64 en) et wx ∧ w29.heap.size ≤ bh2 ∧ Ents wx (BetX w29.heap.size wx.heap.size (.slice h1d nx.length h1c)) (.slice h0d bk.length h0c) bk ∧ Ints wx (BetO w29.heap.size wx.heap.size (.slice h1d nx.length h1c)) (.slice h1d nx.length h1c) nx ∧ Below w29.heap.size w29 wx)
   case first =>
    have HKP := Lib.hid (fun (v v' : World) (hb : Below w29.heap.size v v') (h : K_law_redefine w a0d a0c l0 a1d a1c o1 t1 a2d a2c o2 t2 v) => K_law_redefine.step h hb hWA)
    apply lem_cut
    intro k4012
    apply lem_cut
    intro k412
    apply lem_cut
    intro k402
    apply lem_cut
    intro k401
    apply lem_cut
    intro k3012
    apply lem_cut
    intro k42
    apply lem_cut
    intro k41
    apply lem_cut
    intro k40
    apply lem_cut
    intro k312
    apply lem_cut
    intro k302
    apply lem_cut
    intro k301
    apply lem_cut
    intro k2012
    apply lem_cut
    intro k4
    apply lem_cut
    intro k32
    apply lem_cut
    intro k31
    apply lem_cut
    intro k30
    apply lem_cut
    intro k212
    apply lem_cut
    intro k202
    apply lem_cut
    intro k201
    apply lem_cut
    intro k1012
    apply lem_cut
    intro k3
    apply lem_cut
    intro k22
    apply lem_cut
    intro k21
    apply lem_cut
    intro k20
    apply lem_cut
    intro k112
    apply lem_cut
    intro k102
    apply lem_cut
    intro k101
    apply lem_cut
    intro k0012
    apply lem_cut
    intro k2
    apply lem_cut
    intro k12
    apply lem_cut
    intro k11
    apply lem_cut
    intro k10
    apply lem_cut
    intro k012
    apply lem_cut
    intro k002
    apply lem_cut
    intro k001
    apply lem_cut
    intro k1
    apply lem_cut
    intro k02
    apply lem_cut
    intro k01
    apply lem_cut
    intro k00
    refine wp_region_held_drew (S := K_law_redefine w a0d a0c l0 a1d a1c o1 t1 a2d a2c o2 t2) (by kernel_rfl) HS.out (fun hS => ?_)
    refine wpAnyH_take (i := 0) (v := .agg #[.slice a0d l0.length a0c]) rfl (by kernel_rfl) (by kernel_rfl) (by kernel_rfl) (fun _ _ _ h => h) (Or.inl ⟨by rfl, fun z hz => ?_⟩) hS ?_
    ·
     obtain ⟨z0q, z1q, z2q, z3q, z4q⟩ := hz
     go_simp
    try simp only [qA, qB, Act.put, qD, qE, qF]
    refine wpAnyH_take (i := 2) (v := .agg #[.slice a1d o1.length a1c, .string (S t1)]) rfl (by kernel_rfl) (by kernel_rfl) (by kernel_rfl) (fun _ _ _ h => h) (Or.inl ⟨by rfl, fun z hz => ?_⟩) hS ?_
    ·
     obtain ⟨z0q, z1q, z2q, z3q, z4q⟩ := hz
     go_simp
    try simp only [qA, qB, qC, Act.put, qD, qE, qF]
    refine wpAnyH_take (i := 4) (v := .agg #[.slice a2d o2.length a2c, .string (S t2)]) rfl (by kernel_rfl) (by kernel_rfl) (by kernel_rfl) (fun _ _ _ h => h) (Or.inl ⟨by rfl, fun z hz => ?_⟩) hS ?_
    ·
     obtain ⟨z0q, z1q, z2q, z3q, z4q⟩ := hz
     go_simp
    try simp only [qA, qB, qC, Act.put, qD, qE, qF]
    have H := Lib.hid (Sx.start w29 (K_law_redefine w a0d a0c l0 a1d a1c o1 t1 a2d a2c o2 t2) hS)
    clear hS
    generalize w29.drew = v at H ⊢
    refine wpAnyH_ready (rs := [1, 12, 13, 14]) (by kernel_rfl) (by simp) ?_
    refine AllReadyH.cons rfl (fun K hK => ?_) (AllReadyH.cons rfl (fun K hK => ?_) (AllReadyH.cons rfl (fun K hK => ?_) (AllReadyH.cons rfl (fun K hK => ?_) AllReadyH.nil)))
    ·
     skip
     go_simp
     refine (toDictionary _ l0 _ (HU0.out.below (HB_33.out.trans (H.out.2.1.mono HB_33.out.size))) HSM0.out.len HSM0.out.outs).mono ?_
     rintro e v9 ⟨y9, rfl, hI, hb⟩
     have hJ := (Ents.read hI)
     obtain ⟨x0d, x0c, rfl, -, -⟩ := hI
     have Hn := Lib.hid (H.out.conv HKP.out stT hb (R2 := fun v => EntR v (.slice x0d l0.length x0c) l0) hJ)
     refine hK.out _ _ Hn.out.1 (fun hq => ?_)
     clear hK K hJ hb hq
     try simp only [qA, qB, qC, Act.put, qD, qE, qF]
     clear H
     revert Hn; revert x0c; revert x0d; revert v9; exact k1
    ·
     skip
     go_simp
     have Hn := Lib.hid (H.out.new0 HKP.out stT)
     refine hK.out _ _ Hn.out.1 (fun hq => ?_)
     clear hK K hq
     try simp only [qA, qB, qC, Act.put, qD, qE, qF]
     clear H
     generalize v.alloc (.cells #[.slice none 0 0] 26) = v9 at Hn ⊢
     generalize v.heap.size = bb0 at Hn ⊢
     revert Hn; revert bb0; revert v9; exact k00
    ·
     skip
     go_simp
     have Hn := Lib.hid (H.out.new1 HKP.out stT)
     refine hK.out _ _ Hn.out.1 (fun hq => ?_)
     clear hK K hq
     try simp only [qA, qB, qC, Act.put, qD, qE, qF]
     clear H
     generalize v.alloc (.cells #[.slice none 0 0, .string (S [])] 32) = v9 at Hn ⊢
     generalize v.heap.size = bb1 at Hn ⊢
     revert Hn; revert bb1; revert v9; exact k01
    ·
     skip
     go_simp
     have Hn := Lib.hid (H.out.new2 HKP.out stT)
     refine hK.out _ _ Hn.out.1 (fun hq => ?_)
     clear hK K hq
     try simp only [qA, qB, qC, Act.put, qD, qE, qF]
     clear H
     generalize v.alloc (.cells #[.int .i64 0, .string (S [])] 38) = v9 at Hn ⊢
     generalize v.heap.size = bb2 at Hn ⊢
     revert Hn; revert bb2; revert v9; exact k02
    intro v bb0 H
    refine wpAnyH_ready (rs := [1, 13, 14]) (by kernel_rfl) (by simp) ?_
    refine AllReadyH.cons rfl (fun K hK => ?_) (AllReadyH.cons rfl (fun K hK => ?_) (AllReadyH.cons rfl (fun K hK => ?_) AllReadyH.nil))
    ·
     skip
     go_simp
     refine (toDictionary _ l0 _ (HU0.out.below (HB_33.out.trans (H.out.2.1.mono HB_33.out.size))) HSM0.out.len HSM0.out.outs).mono ?_
     rintro e v9 ⟨y9, rfl, hI, hb⟩
     have hJ := (Ents.read hI)
     obtain ⟨x0d, x0c, rfl, -, -⟩ := hI
     have Hn := Lib.hid (H.out.conv HKP.out stT hb (R2 := fun v => EntR v (.slice x0d l0.length x0c) l0) hJ)
     refine hK.out _ _ Hn.out.1 (fun hq => ?_)
     clear hK K hJ hb hq
     try simp only [qA, qB, qC, Act.put, qD, qE, qF]
     clear H
     revert Hn; revert bb0; revert x0c; revert x0d; revert v9; exact k10
    ·
     skip
     go_simp
     have Hn := Lib.hid (H.out.new1 HKP.out stT)
     refine hK.out _ _ Hn.out.1 (fun hq => ?_)
     clear hK K hq
     try simp only [qA, qB, qC, Act.put, qD, qE, qF]
     clear H
     generalize v.alloc (.cells #[.slice none 0 0, .string (S [])] 32) = v9 at Hn ⊢
     generalize v.heap.size = bb1 at Hn ⊢
     revert Hn; revert bb1; revert bb0; revert v9; exact k001
    ·
     skip
     go_simp
     have Hn := Lib.hid (H.out.new2 HKP.out stT)
     refine hK.out _ _ Hn.out.1 (fun hq => ?_)
     clear hK K hq
     try simp only [qA, qB, qC, Act.put, qD, qE, qF]
     clear H
     generalize v.alloc (.cells #[.int .i64 0, .string (S [])] 38) = v9 at Hn ⊢
     generalize v.heap.size = bb2 at Hn ⊢
     revert Hn; revert bb2; revert bb0; revert v9; exact k002
    intro v bb1 H
    refine wpAnyH_ready (rs := [1, 12, 14]) (by kernel_rfl) (by simp) ?_
    refine AllReadyH.cons rfl (fun K hK => ?_) (AllReadyH.cons rfl (fun K hK => ?_) (AllReadyH.cons rfl (fun K hK => ?_) AllReadyH.nil))
    ·
     skip
     go_simp
     refine (toDictionary _ l0 _ (HU0.out.below (HB_33.out.trans (H.out.2.1.mono HB_33.out.size))) HSM0.out.len HSM0.out.outs).mono ?_
     rintro e v9 ⟨y9, rfl, hI, hb⟩
     have hJ := (Ents.read hI)
     obtain ⟨x0d, x0c, rfl, -, -⟩ := hI
     have Hn := Lib.hid (H.out.conv HKP.out stT hb (R2 := fun v => EntR v (.slice x0d l0.length x0c) l0) hJ)
     refine hK.out _ _ Hn.out.1 (fun hq => ?_)
     clear hK K hJ hb hq
     try simp only [qA, qB, qC, Act.put, qD, qE, qF]
     clear H
     revert Hn; revert bb1; revert x0c; revert x0d; revert v9; exact k11
    ·
     skip
     go_simp
     have Hn := Lib.hid (H.out.new0 HKP.out stT)
     refine hK.out _ _ Hn.out.1 (fun hq => ?_)
     clear hK K hq
     try simp only [qA, qB, qC, Act.put, qD, qE, qF]
     exact k001 _ _ _ Hn
    ·
     skip
     go_simp
     have Hn := Lib.hid (H.out.new2 HKP.out stT)
     refine hK.out _ _ Hn.out.1 (fun hq => ?_)
     clear hK K hq
     try simp only [qA, qB, qC, Act.put, qD, qE, qF]
     clear H
     generalize v.alloc (.cells #[.int .i64 0, .string (S [])] 38) = v9 at Hn ⊢
     generalize v.heap.size = bb2 at Hn ⊢
     revert Hn; revert bb2; revert bb1; revert v9; exact k012
    intro v bb2 H
    refine wpAnyH_ready (rs := [1, 12, 13]) (by kernel_rfl) (by simp) ?_
    refine AllReadyH.cons rfl (fun K hK => ?_) (AllReadyH.cons rfl (fun K hK => ?_) (AllReadyH.cons rfl (fun K hK => ?_) AllReadyH.nil))
    ·
     skip
     go_simp
     refine (toDictionary _ l0 _ (HU0.out.below (HB_33.out.trans (H.out.2.1.mono HB_33.out.size))) HSM0.out.len HSM0.out.outs).mono ?_
     rintro e v9 ⟨y9, rfl, hI, hb⟩
     have hJ := (Ents.read hI)
     obtain ⟨x0d, x0c, rfl, -, -⟩ := hI
     have Hn := Lib.hid (H.out.conv HKP.out stT hb (R2 := fun v => EntR v (.slice x0d l0.length x0c) l0) hJ)
     refine hK.out _ _ Hn.out.1 (fun hq => ?_)
     clear hK K hJ hb hq
     try simp only [qA, qB, qC, Act.put, qD, qE, qF]
     clear H
     revert Hn; revert bb2; revert x0c; revert x0d; revert v9; exact k12
    ·
     skip
     go_simp
     have Hn := Lib.hid (H.out.new0 HKP.out stT)
     refine hK.out _ _ Hn.out.1 (fun hq => ?_)
     clear hK K hq
     try simp only [qA, qB, qC, Act.put, qD, qE, qF]
     exact k002 _ _ _ Hn
    ·
     skip
     go_simp
     have Hn := Lib.hid (H.out.new1 HKP.out stT)
     refine hK.out _ _ Hn.out.1 (fun hq => ?_)
     clear hK K hq
     try simp only [qA, qB, qC, Act.put, qD, qE, qF]
     exact k012 _ _ _ Hn
    intro v x0d x0c H
    refine wpAnyH_ready (rs := [3, 12, 13, 14]) (by kernel_rfl) (by simp) ?_
    refine AllReadyH.cons rfl (fun K hK => ?_) (AllReadyH.cons rfl (fun K hK => ?_) (AllReadyH.cons rfl (fun K hK => ?_) (AllReadyH.cons rfl (fun K hK => ?_) AllReadyH.nil)))
    ·
     skip
     go_simp
     refine (toTranslator _ o1 t1 _ (HU1.out.below (HB_33.out.trans (H.out.2.1.mono HB_33.out.size))) HSM1.out.1).mono ?_
     rintro e v9 ⟨y9, rfl, hI, hb⟩
     have hJ := (Ints.read hI)
     obtain ⟨x1d, x1c, rfl, -, -⟩ := hI
     have Hn := Lib.hid (H.out.conv HKP.out (stA stT stE) hb (R2 := fun v => IntR v (.slice x1d o1.length x1c) o1) hJ)
     refine hK.out _ _ Hn.out.1 (fun hq => ?_)
     clear hK K hJ hb hq
     try simp only [qA, qB, qC, Act.put, qD, qE, qF]
     clear H
     revert Hn; revert x1c; revert x1d; revert x0c; revert x0d; revert v9; exact k2
    ·
     skip
     go_simp
     have Hn := Lib.hid (H.out.new0 HKP.out (stA stT stE))
     refine hK.out _ _ Hn.out.1 (fun hq => ?_)
     clear hK K hq
     try simp only [qA, qB, qC, Act.put, qD, qE, qF]
     exact k10 _ _ _ _ Hn
    ·
     skip
     go_simp
     have Hn := Lib.hid (H.out.new1 HKP.out (stA stT stE))
     refine hK.out _ _ Hn.out.1 (fun hq => ?_)
     clear hK K hq
     try simp only [qA, qB, qC, Act.put, qD, qE, qF]
     exact k11 _ _ _ _ Hn
    ·
     skip
     go_simp
     have Hn := Lib.hid (H.out.new2 HKP.out (stA stT stE))
     refine hK.out _ _ Hn.out.1 (fun hq => ?_)
     clear hK K hq
     try simp only [qA, qB, qC, Act.put, qD, qE, qF]
     exact k12 _ _ _ _ Hn
    intro v bb0 bb1 H
    refine wpAnyH_ready (rs := [1, 14]) (by kernel_rfl) (by simp) ?_
    refine AllReadyH.cons rfl (fun K hK => ?_) (AllReadyH.cons rfl (fun K hK => ?_) AllReadyH.nil)
    ·
     skip
     go_simp
     refine (toDictionary _ l0 _ (HU0.out.below (HB_33.out.trans (H.out.2.1.mono HB_33.out.size))) HSM0.out.len HSM0.out.outs).mono ?_
     rintro e v9 ⟨y9, rfl, hI, hb⟩
     have hJ := (Ents.read hI)
     obtain ⟨x0d, x0c, rfl, -, -⟩ := hI
     have Hn := Lib.hid (H.out.conv HKP.out stT hb (R2 := fun v => EntR v (.slice x0d l0.length x0c) l0) hJ)
     refine hK.out _ _ Hn.out.1 (fun hq => ?_)
     clear hK K hJ hb hq
     try simp only [qA, qB, qC, Act.put, qD, qE, qF]
     clear H
     revert Hn; revert bb1; revert bb0; revert x0c; revert x0d; revert v9; exact k101
    ·
     skip
     go_simp
     have Hn := Lib.hid (H.out.new2 HKP.out stT)
     refine hK.out _ _ Hn.out.1 (fun hq => ?_)
     clear hK K hq
     try simp only [qA, qB, qC, Act.put, qD, qE, qF]
     clear H
     generalize v.alloc (.cells #[.int .i64 0, .string (S [])] 38) = v9 at Hn ⊢
     generalize v.heap.size = bb2 at Hn ⊢
     revert Hn; revert bb2; revert bb1; revert bb0; revert v9; exact k0012
    intro v bb0 bb2 H
    refine wpAnyH_ready (rs := [1, 13]) (by kernel_rfl) (by simp) ?_
    refine AllReadyH.cons rfl (fun K hK => ?_) (AllReadyH.cons rfl (fun K hK => ?_) AllReadyH.nil)
    ·
     skip
     go_simp
     refine (toDictionary _ l0 _ (HU0.out.below (HB_33.out.trans (H.out.2.1.mono HB_33.out.size))) HSM0.out.len HSM0.out.outs).mono ?_
     rintro e v9 ⟨y9, rfl, hI, hb⟩
     have hJ := (Ents.read hI)
     obtain ⟨x0d, x0c, rfl, -, -⟩ := hI
     have Hn := Lib.hid (H.out.conv HKP.out stT hb (R2 := fun v => EntR v (.slice x0d l0.length x0c) l0) hJ)
     refine hK.out _ _ Hn.out.1 (fun hq => ?_)
     clear hK K hJ hb hq
     try simp only [qA, qB, qC, Act.put, qD, qE, qF]
     clear H
     revert Hn; revert bb2; revert bb0; revert x0c; revert x0d; revert v9; exact k102
    ·
     skip
     go_simp
     have Hn := Lib.hid (H.out.new1 HKP.out stT)
     refine hK.out _ _ Hn.out.1 (fun hq => ?_)
     clear hK K hq
     try simp only [qA, qB, qC, Act.put, qD, qE, qF]
     exact k0012 _ _ _ _ Hn
    intro v bb1 bb2 H
    refine wpAnyH_ready (rs := [1, 12]) (by kernel_rfl) (by simp) ?_
    refine AllReadyH.cons rfl (fun K hK => ?_) (AllReadyH.cons rfl (fun K hK => ?_) AllReadyH.nil)
    ·
     skip
     go_simp
     refine (toDictionary _ l0 _ (HU0.out.below (HB_33.out.trans (H.out.2.1.mono HB_33.out.size))) HSM0.out.len HSM0.out.outs).mono ?_
     rintro e v9 ⟨y9, rfl, hI, hb⟩
     have hJ := (Ents.read hI)
     obtain ⟨x0d, x0c, rfl, -, -⟩ := hI
     have Hn := Lib.hid (H.out.conv HKP.out stT hb (R2 := fun v => EntR v (.slice x0d l0.length x0c) l0) hJ)
     refine hK.out _ _ Hn.out.1 (fun hq => ?_)
     clear hK K hJ hb hq
     try simp only [qA, qB, qC, Act.put, qD, qE, qF]
     clear H
     revert Hn; revert bb2; revert bb1; revert x0c; revert x0d; revert v9; exact k112
    ·
     skip
     go_simp
     have Hn := Lib.hid (H.out.new0 HKP.out stT)
     refine hK.out _ _ Hn.out.1 (fun hq => ?_)
     clear hK K hq
     try simp only [qA, qB, qC, Act.put, qD, qE, qF]
     exact k0012 _ _ _ _ Hn
    intro v x0d x0c bb0 H
    refine wpAnyH_ready (rs := [3, 13, 14]) (by kernel_rfl) (by simp) ?_
    refine AllReadyH.cons rfl (fun K hK => ?_) (AllReadyH.cons rfl (fun K hK => ?_) (AllReadyH.cons rfl (fun K hK => ?_) AllReadyH.nil))
    ·
     skip
     go_simp
     refine (toTranslator _ o1 t1 _ (HU1.out.below (HB_33.out.trans (H.out.2.1.mono HB_33.out.size))) HSM1.out.1).mono ?_
     rintro e v9 ⟨y9, rfl, hI, hb⟩
     have hJ := (Ints.read hI)
     obtain ⟨x1d, x1c, rfl, -, -⟩ := hI
     have Hn := Lib.hid (H.out.conv HKP.out (stA stT stE) hb (R2 := fun v => IntR v (.slice x1d o1.length x1c) o1) hJ)
     refine hK.out _ _ Hn.out.1 (fun hq => ?_)
     clear hK K hJ hb hq
     try simp only [qA, qB, qC, Act.put, qD, qE, qF]
     clear H
     revert Hn; revert bb0; revert x1c; revert x1d; revert x0c; revert x0d; revert v9; exact k20
    ·
     skip
     go_simp
     have Hn := Lib.hid (H.out.new1 HKP.out (stA stT stE))
     refine hK.out _ _ Hn.out.1 (fun hq => ?_)
     clear hK K hq
     try simp only [qA, qB, qC, Act.put, qD, qE, qF]
     exact k101 _ _ _ _ _ Hn
    ·
     skip
     go_simp
     have Hn := Lib.hid (H.out.new2 HKP.out (stA stT stE))
     refine hK.out _ _ Hn.out.1 (fun hq => ?_)
     clear hK K hq
     try simp only [qA, qB, qC, Act.put, qD, qE, qF]
     exact k102 _ _ _ _ _ Hn
    intro v x0d x0c bb1 H
    refine wpAnyH_ready (rs := [3, 12, 14]) (by kernel_rfl) (by simp) ?_
    refine AllReadyH.cons rfl (fun K hK => ?_) (AllReadyH.cons rfl (fun K hK => ?_) (AllReadyH.cons rfl (fun K hK => ?_) AllReadyH.nil))
    ·
     skip
     go_simp
     refine (toTranslator _ o1 t1 _ (HU1.out.below (HB_33.out.trans (H.out.2.1.mono HB_33.out.size))) HSM1.out.1).mono ?_
     rintro e v9 ⟨y9, rfl, hI, hb⟩
     have hJ := (Ints.read hI)
     obtain ⟨x1d, x1c, rfl, -, -⟩ := hI
     have Hn := Lib.hid (H.out.conv HKP.out (stA stT stE) hb (R2 := fun v => IntR v (.slice x1d o1.length x1c) o1) hJ)
     refine hK.out _ _ Hn.out.1 (fun hq => ?_)
     clear hK K hJ hb hq
     try simp only [qA, qB, qC, Act.put, qD, qE, qF]
     clear H
     revert Hn; revert bb1; revert x1c; revert x1d; revert x0c; revert x0d; revert v9; exact k21
    ·
     skip
     go_simp
     have Hn := Lib.hid (H.out.new0 HKP.out (stA stT stE))
     refine hK.out _ _ Hn.out.1 (fun hq => ?_)
     clear hK K hq
     try simp only [qA, qB, qC, Act.put, qD, qE, qF]
     exact k101 _ _ _ _ _ Hn
    ·
     skip
     go_simp
     have Hn := Lib.hid (H.out.new2 HKP.out (stA stT stE))
     refine hK.out _ _ Hn.out.1 (fun hq => ?_)
     clear hK K hq
     try simp only [qA, qB, qC, Act.put, qD, qE, qF]
     exact k112 _ _ _ _ _ Hn
    intro v x0d x0c bb2 H
    refine wpAnyH_ready (rs := [3, 12, 13]) (by kernel_rfl) (by simp) ?_
    refine AllReadyH.cons rfl (fun K hK => ?_) (AllReadyH.cons rfl (fun K hK => ?_) (AllReadyH.cons rfl (fun K hK => ?_) AllReadyH.nil))
    ·
     skip
     go_simp
     refine (toTranslator _ o1 t1 _ (HU1.out.below (HB_33.out.trans (H.out.2.1.mono HB_33.out.size))) HSM1.out.1).mono ?_
     rintro e v9 ⟨y9, rfl, hI, hb⟩
     have hJ := (Ints.read hI)
     obtain ⟨x1d, x1c, rfl, -, -⟩ := hI
     have Hn := Lib.hid (H.out.conv HKP.out (stA stT stE) hb (R2 := fun v => IntR v (.slice x1d o1.length x1c) o1) hJ)
     refine hK.out _ _ Hn.out.1 (fun hq => ?_)
     clear hK K hJ hb hq
     try simp only [qA, qB, qC, Act.put, qD, qE, qF]
     clear H
     revert Hn; revert bb2; revert x1c; revert x1d; revert x0c; revert x0d; revert v9; exact k22
    ·
     skip
     go_simp
     have Hn := Lib.hid (H.out.new0 HKP.out (stA stT stE))
     refine hK.out _ _ Hn.out.1 (fun hq => ?_)
     clear hK K hq
     try simp only [qA, qB, qC, Act.put, qD, qE, qF]
     exact k102 _ _ _ _ _ Hn
    ·
     skip
     go_simp
     have Hn := Lib.hid (H.out.new1 HKP.out (stA stT stE))
     refine hK.out _ _ Hn.out.1 (fun hq => ?_)
     clear hK K hq
     try simp only [qA, qB, qC, Act.put, qD, qE, qF]
     exact k112 _ _ _ _ _ Hn
    intro v x0d x0c x1d x1c H
    refine wpAnyH_ready (rs := [5, 12, 13, 14]) (by kernel_rfl) (by simp) ?_
    refine AllReadyH.cons rfl (fun K hK => ?_) (AllReadyH.cons rfl (fun K hK => ?_) (AllReadyH.cons rfl (fun K hK => ?_) (AllReadyH.cons rfl (fun K hK => ?_) AllReadyH.nil)))
    ·
     skip
     go_simp
     refine (toEntry _ o2 t2 _ (HU2.out.below (HB_33.out.trans (H.out.2.1.mono HB_33.out.size))) HSM2.out.1).mono ?_
     rintro e v9 ⟨y9, rfl, hI, hb⟩
     have hJ := (Ints.read hI)
     obtain ⟨x2d, x2c, rfl, -, -⟩ := hI
     have Hn := Lib.hid (H.out.conv HKP.out (stA (stA stT stE) stI) hb (R2 := fun v => IntR v (.slice x2d o2.length x2c) o2) hJ)
     refine hK.out _ _ Hn.out.1 (fun hq => ?_)
     clear hK K hJ hb hq
     try simp only [qA, qB, qC, Act.put, qD, qE, qF]
     clear H
     revert Hn; revert x2c; revert x2d; revert x1c; revert x1d; revert x0c; revert x0d; revert v9; exact k3
    ·
     skip
     go_simp
     have Hn := Lib.hid (H.out.new0 HKP.out (stA (stA stT stE) stI))
     refine hK.out _ _ Hn.out.1 (fun hq => ?_)
     clear hK K hq
     try simp only [qA, qB, qC, Act.put, qD, qE, qF]
     exact k20 _ _ _ _ _ _ Hn
    ·
     skip
     go_simp
     have Hn := Lib.hid (H.out.new1 HKP.out (stA (stA stT stE) stI))
     refine hK.out _ _ Hn.out.1 (fun hq => ?_)
     clear hK K hq
     try simp only [qA, qB, qC, Act.put, qD, qE, qF]
     exact k21 _ _ _ _ _ _ Hn
    ·
     skip
     go_simp
     have Hn := Lib.hid (H.out.new2 HKP.out (stA (stA stT stE) stI))
     refine hK.out _ _ Hn.out.1 (fun hq => ?_)
     clear hK K hq
     try simp only [qA, qB, qC, Act.put, qD, qE, qF]
     exact k22 _ _ _ _ _ _ Hn
    intro v bb0 bb1 bb2 H
    refine wpAnyH_ready (rs := [1]) (by kernel_rfl) (by simp) ?_
    refine AllReadyH.cons rfl (fun K hK => ?_) AllReadyH.nil
    ·
     skip
     go_simp
     refine (toDictionary _ l0 _ (HU0.out.below (HB_33.out.trans (H.out.2.1.mono HB_33.out.size))) HSM0.out.len HSM0.out.outs).mono ?_
     rintro e v9 ⟨y9, rfl, hI, hb⟩
     have hJ := (Ents.read hI)
     obtain ⟨x0d, x0c, rfl, -, -⟩ := hI
     have Hn := Lib.hid (H.out.conv HKP.out stT hb (R2 := fun v => EntR v (.slice x0d l0.length x0c) l0) hJ)
     refine hK.out _ _ Hn.out.1 (fun hq => ?_)
     clear hK K hJ hb hq
     try simp only [qA, qB, qC, Act.put, qD, qE, qF]
     clear H
     revert Hn; revert bb2; revert bb1; revert bb0; revert x0c; revert x0d; revert v9; exact k1012
    intro v x0d x0c bb0 bb1 H
    refine wpAnyH_ready (rs := [3, 14]) (by kernel_rfl) (by simp) ?_
    refine AllReadyH.cons rfl (fun K hK => ?_) (AllReadyH.cons rfl (fun K hK => ?_) AllReadyH.nil)
    ·
     skip
     go_simp
     refine (toTranslator _ o1 t1 _ (HU1.out.below (HB_33.out.trans (H.out.2.1.mono HB_33.out.size))) HSM1.out.1).mono ?_
     rintro e v9 ⟨y9, rfl, hI, hb⟩
     have hJ := (Ints.read hI)
     obtain ⟨x1d, x1c, rfl, -, -⟩ := hI
     have Hn := Lib.hid (H.out.conv HKP.out (stA stT stE) hb (R2 := fun v => IntR v (.slice x1d o1.length x1c) o1) hJ)
     refine hK.out _ _ Hn.out.1 (fun hq => ?_)
     clear hK K hJ hb hq
     try simp only [qA, qB, qC, Act.put, qD, qE, qF]
     clear H
     revert Hn; revert bb1; revert bb0; revert x1c; revert x1d; revert x0c; revert x0d; revert v9; exact k201
    ·
     skip
     go_simp
     have Hn := Lib.hid (H.out.new2 HKP.out (stA stT stE))
     refine hK.out _ _ Hn.out.1 (fun hq => ?_)
     clear hK K hq
     try simp only [qA, qB, qC, Act.put, qD, qE, qF]
     exact k1012 _ _ _ _ _ _ Hn
    intro v x0d x0c bb0 bb2 H
    refine wpAnyH_ready (rs := [3, 13]) (by kernel_rfl) (by simp) ?_
    refine AllReadyH.cons rfl (fun K hK => ?_) (AllReadyH.cons rfl (fun K hK => ?_) AllReadyH.nil)
    ·
     skip
     go_simp
     refine (toTranslator _ o1 t1 _ (HU1.out.below (HB_33.out.trans (H.out.2.1.mono HB_33.out.size))) HSM1.out.1).mono ?_
     rintro e v9 ⟨y9, rfl, hI, hb⟩
     have hJ := (Ints.read hI)
     obtain ⟨x1d, x1c, rfl, -, -⟩ := hI
     have Hn := Lib.hid (H.out.conv HKP.out (stA stT stE) hb (R2 := fun v => IntR v (.slice x1d o1.length x1c) o1) hJ)
     refine hK.out _ _ Hn.out.1 (fun hq => ?_)
     clear hK K hJ hb hq
     try simp only [qA, qB, qC, Act.put, qD, qE, qF]
     clear H
     revert Hn; revert bb2; revert bb0; revert x1c; revert x1d; revert x0c; revert x0d; revert v9; exact k202
    ·
     skip
     go_simp
     have Hn := Lib.hid (H.out.new1 HKP.out (stA stT stE))
     refine hK.out _ _ Hn.out.1 (fun hq => ?_)
     clear hK K hq
     try simp only [qA, qB, qC, Act.put, qD, qE, qF]
     exact k1012 _ _ _ _ _ _ Hn
    intro v x0d x0c bb1 bb2 H
    refine wpAnyH_ready (rs := [3, 12]) (by kernel_rfl) (by simp) ?_
    refine AllReadyH.cons rfl (fun K hK => ?_) (AllReadyH.cons rfl (fun K hK => ?_) AllReadyH.nil)
    ·
     skip
     go_simp
     refine (toTranslator _ o1 t1 _ (HU1.out.below (HB_33.out.trans (H.out.2.1.mono HB_33.out.size))) HSM1.out.1).mono ?_
     rintro e v9 ⟨y9, rfl, hI, hb⟩
     have hJ := (Ints.read hI)
     obtain ⟨x1d, x1c, rfl, -, -⟩ := hI
     have Hn := Lib.hid (H.out.conv HKP.out (stA stT stE) hb (R2 := fun v => IntR v (.slice x1d o1.length x1c) o1) hJ)
     refine hK.out _ _ Hn.out.1 (fun hq => ?_)
     clear hK K hJ hb hq
     try simp only [qA, qB, qC, Act.put, qD, qE, qF]
     clear H
     revert Hn; revert bb2; revert bb1; revert x1c; revert x1d; revert x0c; revert x0d; revert v9; exact k212
    ·
     skip
     go_simp
     have Hn := Lib.hid (H.out.new0 HKP.out (stA stT stE))
     refine hK.out _ _ Hn.out.1 (fun hq => ?_)
     clear hK K hq
     try simp only [qA, qB, qC, Act.put, qD, qE, qF]
     exact k1012 _ _ _ _ _ _ Hn
    intro v x0d x0c x1d x1c bb0 H
    refine wpAnyH_ready (rs := [5, 13, 14]) (by kernel_rfl) (by simp) ?_
    refine AllReadyH.cons rfl (fun K hK => ?_) (AllReadyH.cons rfl (fun K hK => ?_) (AllReadyH.cons rfl (fun K hK => ?_) AllReadyH.nil))
    ·
     skip
     go_simp
     refine (toEntry _ o2 t2 _ (HU2.out.below (HB_33.out.trans (H.out.2.1.mono HB_33.out.size))) HSM2.out.1).mono ?_
     rintro e v9 ⟨y9, rfl, hI, hb⟩
     have hJ := (Ints.read hI)
     obtain ⟨x2d, x2c, rfl, -, -⟩ := hI
     have Hn := Lib.hid (H.out.conv HKP.out (stA (stA stT stE) stI) hb (R2 := fun v => IntR v (.slice x2d o2.length x2c) o2) hJ)
     refine hK.out _ _ Hn.out.1 (fun hq => ?_)
     clear hK K hJ hb hq
     try simp only [qA, qB, qC, Act.put, qD, qE, qF]
     clear H
     revert Hn; revert bb0; revert x2c; revert x2d; revert x1c; revert x1d; revert x0c; revert x0d; revert v9; exact k30
    ·
     skip
     go_simp
     have Hn := Lib.hid (H.out.new1 HKP.out (stA (stA stT stE) stI))
     refine hK.out _ _ Hn.out.1 (fun hq => ?_)
     clear hK K hq
     try simp only [qA, qB, qC, Act.put, qD, qE, qF]
     exact k201 _ _ _ _ _ _ _ Hn
    ·
     skip
     go_simp
     have Hn := Lib.hid (H.out.new2 HKP.out (stA (stA stT stE) stI))
     refine hK.out _ _ Hn.out.1 (fun hq => ?_)
     clear hK K hq
     try simp only [qA, qB, qC, Act.put, qD, qE, qF]
     exact k202 _ _ _ _ _ _ _ Hn
    intro v x0d x0c x1d x1c bb1 H
    refine wpAnyH_ready (rs := [5, 12, 14]) (by kernel_rfl) (by simp) ?_
    refine AllReadyH.cons rfl (fun K hK => ?_) (AllReadyH.cons rfl (fun K hK => ?_) (AllReadyH.cons rfl (fun K hK => ?_) AllReadyH.nil))
    ·
     skip
     go_simp
     refine (toEntry _ o2 t2 _ (HU2.out.below (HB_33.out.trans (H.out.2.1.mono HB_33.out.size))) HSM2.out.1).mono ?_
     rintro e v9 ⟨y9, rfl, hI, hb⟩
     have hJ := (Ints.read hI)
     obtain ⟨x2d, x2c, rfl, -, -⟩ := hI
     have Hn := Lib.hid (H.out.conv HKP.out (stA (stA stT stE) stI) hb (R2 := fun v => IntR v (.slice x2d o2.length x2c) o2) hJ)
     refine hK.out _ _ Hn.out.1 (fun hq => ?_)
     clear hK K hJ hb hq
     try simp only [qA, qB, qC, Act.put, qD, qE, qF]
     clear H
     revert Hn; revert bb1; revert x2c; revert x2d; revert x1c; revert x1d; revert x0c; revert x0d; revert v9; exact k31
    ·
     skip
     go_simp
     have Hn := Lib.hid (H.out.new0 HKP.out (stA (stA stT stE) stI))
     refine hK.out _ _ Hn.out.1 (fun hq => ?_)
     clear hK K hq
     try simp only [qA, qB, qC, Act.put, qD, qE, qF]
     exact k201 _ _ _ _ _ _ _ Hn
    ·
     skip
     go_simp
     have Hn := Lib.hid (H.out.new2 HKP.out (stA (stA stT stE) stI))
     refine hK.out _ _ Hn.out.1 (fun hq => ?_)
     clear hK K hq
     try simp only [qA, qB, qC, Act.put, qD, qE, qF]
     exact k212 _ _ _ _ _ _ _ Hn
    intro v x0d x0c x1d x1c bb2 H
    refine wpAnyH_ready (rs := [5, 12, 13]) (by kernel_rfl) (by simp) ?_
    refine AllReadyH.cons rfl (fun K hK => ?_) (AllReadyH.cons rfl (fun K hK => ?_) (AllReadyH.cons rfl (fun K hK => ?_) AllReadyH.nil))
    ·
     skip
     go_simp
     refine (toEntry _ o2 t2 _ (HU2.out.below (HB_33.out.trans (H.out.2.1.mono HB_33.out.size))) HSM2.out.1).mono ?_
     rintro e v9 ⟨y9, rfl, hI, hb⟩
     have hJ := (Ints.read hI)
     obtain ⟨x2d, x2c, rfl, -, -⟩ := hI
     have Hn := Lib.hid (H.out.conv HKP.out (stA (stA stT stE) stI) hb (R2 := fun v => IntR v (.slice x2d o2.length x2c) o2) hJ)
     refine hK.out _ _ Hn.out.1 (fun hq => ?_)
     clear hK K hJ hb hq
     try simp only [qA, qB, qC, Act.put, qD, qE, qF]
     clear H
     revert Hn; revert bb2; revert x2c; revert x2d; revert x1c; revert x1d; revert x0c; revert x0d; revert v9; exact k32
    ·
     skip
     go_simp
     have Hn := Lib.hid (H.out.new0 HKP.out (stA (stA stT stE) stI))
     refine hK.out _ _ Hn.out.1 (fun hq => ?_)
     clear hK K hq
     try simp only [qA, qB, qC, Act.put, qD, qE, qF]
     exact k202 _ _ _ _ _ _ _ Hn
    ·
     skip
     go_simp
     have Hn := Lib.hid (H.out.new1 HKP.out (stA (stA stT stE) stI))
     refine hK.out _ _ Hn.out.1 (fun hq => ?_)
     clear hK K hq
     try simp only [qA, qB, qC, Act.put, qD, qE, qF]
     exact k212 _ _ _ _ _ _ _ Hn
    intro v x0d x0c x1d x1c x2d x2c H
    refine wpAnyH_ready (rs := [6, 12, 13, 14]) (by kernel_rfl) (by simp) ?_
    refine AllReadyH.cons rfl (fun K hK => ?_) (AllReadyH.cons rfl (fun K hK => ?_) (AllReadyH.cons rfl (fun K hK => ?_) (AllReadyH.cons rfl (fun K hK => ?_) AllReadyH.nil)))
    ·
     skip
     go_simp
     refine ((impl_redefine _ _ _ l0 o1 t1 o2 t2 _ H.out.2.2.1.1.1.2 H.out.2.2.1.1.2 H.out.2.2.1.2 HSM0.out HSM2.out.1 HSM2.out.2 (HE.out.below (HB_33.out.trans (H.out.2.1.mono HB_33.out.size)) HE.out.size)).mono (rf_of HR.out (Nat.le_trans HLEN.out.2 (by decide)))).mono ?_
     rintro e v9 ⟨h0d, h0c, h1d, h1c, rfl, hrow0, hrow1, hb⟩
     obtain ⟨lo, hi, hn, ho⟩ : ∃ lo hi : Nat, Sx w29 (K_law_redefine w a0d a0c l0 a1d a1c o1 t1 a2d a2c o2 t2) (fun v => (w29.heap.size ≤ lo ∧ hi ≤ v.heap.size) ∧ Ents v (BetX lo hi (.slice h1d nx.length h1c)) (.slice h0d bk.length h0c) bk ∧ Ints v (BetO lo hi (.slice h1d nx.length h1c)) (.slice h1d nx.length h1c) nx) none none none v9 ∧ Outs3 lo hi none none none := ⟨v.heap.size, v9.heap.size, H.out.call HKP.out hb ⟨⟨H.out.2.1.size, Nat.le_refl _⟩, hrow0, hrow1⟩, H.out.2.2.2.outs _⟩
     have Hn := Lib.hid hn; have HOn := Lib.hid ho
     clear hn ho hb hrow0 hrow1
     refine hK.out _ _ Hn.out.1 (fun hSn => ?_)
     clear hK K
     try simp only [qA, qB, qC, Act.put, qD, qE, qF]
     refine wpAnyH_take (i := 7) (v := .tuple #[.agg #[.slice h0d bk.length h0c], .agg #[.slice h1d nx.length h1c, .string (S sc)], .agg #[.int .i64 en, .string (S et)], .bool ok]) rfl (by kernel_rfl) (by kernel_rfl) (by kernel_rfl) (fun _ _ _ h => h) (Or.inl ⟨by rfl, fun z hz => ?_⟩) hSn ?_
     ·
      obtain ⟨z0q, z1q, z2q, z3q, z4q⟩ := hz
      go_simp
     try simp only [qA, qB, qC, Act.put, qD, qE, qF]
     refine wpAnyH_take (i := 8) (v := .agg #[.slice h0d bk.length h0c]) rfl (by kernel_rfl) (by kernel_rfl) (by kernel_rfl) (fun _ _ _ h => h) (Or.inl ⟨by rfl, fun z hz => ?_⟩) hSn ?_
     ·
      obtain ⟨z0q, z1q, z2q, z3q, z4q⟩ := hz
      go_simp
     try simp only [qA, qB, qC, Act.put, qD, qE, qF]
     refine wpAnyH_take (i := 9) (v := .agg #[.slice h1d nx.length h1c, .string (S sc)]) rfl (by kernel_rfl) (by kernel_rfl) (by kernel_rfl) (fun _ _ _ h => h) (Or.inl ⟨by rfl, fun z hz => ?_⟩) hSn ?_
     ·
      obtain ⟨z0q, z1q, z2q, z3q, z4q⟩ := hz
      go_simp
     try simp only [qA, qB, qC, Act.put, qD, qE, qF]
     refine wpAnyH_take (i := 10) (v := .agg #[.int .i64 en, .string (S et)]) rfl (by kernel_rfl) (by kernel_rfl) (by kernel_rfl) (fun _ _ _ h => h) (Or.inl ⟨by rfl, fun z hz => ?_⟩) hSn ?_
     ·
      obtain ⟨z0q, z1q, z2q, z3q, z4q⟩ := hz
      go_simp
     try simp only [qA, qB, qC, Act.put, qD, qE, qF]
     refine wpAnyH_take (i := 11) (v := .bool ok) rfl (by kernel_rfl) (by kernel_rfl) (by kernel_rfl) (fun _ _ _ h => h) (Or.inl ⟨by rfl, fun z hz => ?_⟩) hSn ?_
     ·
      obtain ⟨z0q, z1q, z2q, z3q, z4q⟩ := hz
      go_simp
     try simp only [qA, qB, qC, Act.put, qD, qE, qF]
     clear H hSn
     revert HOn; revert Hn; revert hi; revert lo; revert h1c; revert h1d; revert h0c; revert h0d; revert x2c; revert x2d; revert x1c; revert x1d; revert x0c; revert x0d; revert v9; exact k4
    ·
     skip
     go_simp
     have Hn := Lib.hid (H.out.new0 HKP.out (stA (stA (stA stT stE) stI) stI))
     refine hK.out _ _ Hn.out.1 (fun hq => ?_)
     clear hK K hq
     try simp only [qA, qB, qC, Act.put, qD, qE, qF]
     exact k30 _ _ _ _ _ _ _ _ Hn
    ·
     skip
     go_simp
     have Hn := Lib.hid (H.out.new1 HKP.out (stA (stA (stA stT stE) stI) stI))
     refine hK.out _ _ Hn.out.1 (fun hq => ?_)
     clear hK K hq
     try simp only [qA, qB, qC, Act.put, qD, qE, qF]
     exact k31 _ _ _ _ _ _ _ _ Hn
    ·
     skip
     go_simp
     have Hn := Lib.hid (H.out.new2 HKP.out (stA (stA (stA stT stE) stI) stI))
     refine hK.out _ _ Hn.out.1 (fun hq => ?_)
     clear hK K hq
     try simp only [qA, qB, qC, Act.put, qD, qE, qF]
     exact k32 _ _ _ _ _ _ _ _ Hn
    intro v x0d x0c bb0 bb1 bb2 H
    refine wpAnyH_ready (rs := [3]) (by kernel_rfl) (by simp) ?_
    refine AllReadyH.cons rfl (fun K hK => ?_) AllReadyH.nil
    ·
     skip
     go_simp
     refine (toTranslator _ o1 t1 _ (HU1.out.below (HB_33.out.trans (H.out.2.1.mono HB_33.out.size))) HSM1.out.1).mono ?_
     rintro e v9 ⟨y9, rfl, hI, hb⟩
     have hJ := (Ints.read hI)
     obtain ⟨x1d, x1c, rfl, -, -⟩ := hI
     have Hn := Lib.hid (H.out.conv HKP.out (stA stT stE) hb (R2 := fun v => IntR v (.slice x1d o1.length x1c) o1) hJ)
     refine hK.out _ _ Hn.out.1 (fun hq => ?_)
     clear hK K hJ hb hq
     try simp only [qA, qB, qC, Act.put, qD, qE, qF]
     clear H
     revert Hn; revert bb2; revert bb1; revert bb0; revert x1c; revert x1d; revert x0c; revert x0d; revert v9; exact k2012
    intro v x0d x0c x1d x1c bb0 bb1 H
    refine wpAnyH_ready (rs := [5, 14]) (by kernel_rfl) (by simp) ?_
    refine AllReadyH.cons rfl (fun K hK => ?_) (AllReadyH.cons rfl (fun K hK => ?_) AllReadyH.nil)
    ·
     skip
     go_simp
     refine (toEntry _ o2 t2 _ (HU2.out.below (HB_33.out.trans (H.out.2.1.mono HB_33.out.size))) HSM2.out.1).mono ?_
     rintro e v9 ⟨y9, rfl, hI, hb⟩
     have hJ := (Ints.read hI)
     obtain ⟨x2d, x2c, rfl, -, -⟩ := hI
     have Hn := Lib.hid (H.out.conv HKP.out (stA (stA stT stE) stI) hb (R2 := fun v => IntR v (.slice x2d o2.length x2c) o2) hJ)
     refine hK.out _ _ Hn.out.1 (fun hq => ?_)
     clear hK K hJ hb hq
     try simp only [qA, qB, qC, Act.put, qD, qE, qF]
     clear H
     revert Hn; revert bb1; revert bb0; revert x2c; revert x2d; revert x1c; revert x1d; revert x0c; revert x0d; revert v9; exact k301
    ·
     skip
     go_simp
     have Hn := Lib.hid (H.out.new2 HKP.out (stA (stA stT stE) stI))
     refine hK.out _ _ Hn.out.1 (fun hq => ?_)
     clear hK K hq
     try simp only [qA, qB, qC, Act.put, qD, qE, qF]
     exact k2012 _ _ _ _ _ _ _ _ Hn
    intro v x0d x0c x1d x1c bb0 bb2 H
    refine wpAnyH_ready (rs := [5, 13]) (by kernel_rfl) (by simp) ?_
    refine AllReadyH.cons rfl (fun K hK => ?_) (AllReadyH.cons rfl (fun K hK => ?_) AllReadyH.nil)
    ·
     skip
     go_simp
     refine (toEntry _ o2 t2 _ (HU2.out.below (HB_33.out.trans (H.out.2.1.mono HB_33.out.size))) HSM2.out.1).mono ?_
     rintro e v9 ⟨y9, rfl, hI, hb⟩
     have hJ := (Ints.read hI)
     obtain ⟨x2d, x2c, rfl, -, -⟩ := hI
     have Hn := Lib.hid (H.out.conv HKP.out (stA (stA stT stE) stI) hb (R2 := fun v => IntR v (.slice x2d o2.length x2c) o2) hJ)
     refine hK.out _ _ Hn.out.1 (fun hq => ?_)
     clear hK K hJ hb hq
     try simp only [qA, qB, qC, Act.put, qD, qE, qF]
     clear H
     revert Hn; revert bb2; revert bb0; revert x2c; revert x2d; revert x1c; revert x1d; revert x0c; revert x0d; revert v9; exact k302
    ·
     skip
     go_simp
     have Hn := Lib.hid (H.out.new1 HKP.out (stA (stA stT stE) stI))
     refine hK.out _ _ Hn.out.1 (fun hq => ?_)
     clear hK K hq
     try simp only [qA, qB, qC, Act.put, qD, qE, qF]
     exact k2012 _ _ _ _ _ _ _ _ Hn
    intro v x0d x0c x1d x1c bb1 bb2 H
    refine wpAnyH_ready (rs := [5, 12]) (by kernel_rfl) (by simp) ?_
    refine AllReadyH.cons rfl (fun K hK => ?_) (AllReadyH.cons rfl (fun K hK => ?_) AllReadyH.nil)
    ·
     skip
     go_simp
     refine (toEntry _ o2 t2 _ (HU2.out.below (HB_33.out.trans (H.out.2.1.mono HB_33.out.size))) HSM2.out.1).mono ?_
     rintro e v9 ⟨y9, rfl, hI, hb⟩
     have hJ := (Ints.read hI)
     obtain ⟨x2d, x2c, rfl, -, -⟩ := hI
     have Hn := Lib.hid (H.out.conv HKP.out (stA (stA stT stE) stI) hb (R2 := fun v => IntR v (.slice x2d o2.length x2c) o2) hJ)
     refine hK.out _ _ Hn.out.1 (fun hq => ?_)
     clear hK K hJ hb hq
     try simp only [qA, qB, qC, Act.put, qD, qE, qF]
     clear H
     revert Hn; revert bb2; revert bb1; revert x2c; revert x2d; revert x1c; revert x1d; revert x0c; revert x0d; revert v9; exact k312
    ·
     skip
     go_simp
     have Hn := Lib.hid (H.out.new0 HKP.out (stA (stA stT stE) stI))
     refine hK.out _ _ Hn.out.1 (fun hq => ?_)
     clear hK K hq
     try simp only [qA, qB, qC, Act.put, qD, qE, qF]
     exact k2012 _ _ _ _ _ _ _ _ Hn
    intro v x0d x0c x1d x1c x2d x2c bb0 H
    refine wpAnyH_ready (rs := [6, 13, 14]) (by kernel_rfl) (by simp) ?_
    refine AllReadyH.cons rfl (fun K hK => ?_) (AllReadyH.cons rfl (fun K hK => ?_) (AllReadyH.cons rfl (fun K hK => ?_) AllReadyH.nil))
    ·
     skip
     go_simp
     refine ((impl_redefine _ _ _ l0 o1 t1 o2 t2 _ H.out.2.2.1.1.1.2 H.out.2.2.1.1.2 H.out.2.2.1.2 HSM0.out HSM2.out.1 HSM2.out.2 (HE.out.below (HB_33.out.trans (H.out.2.1.mono HB_33.out.size)) HE.out.size)).mono (rf_of HR.out (Nat.le_trans HLEN.out.2 (by decide)))).mono ?_
     rintro e v9 ⟨h0d, h0c, h1d, h1c, rfl, hrow0, hrow1, hb⟩
     obtain ⟨lo, hi, hn, ho⟩ : ∃ lo hi : Nat, Sx w29 (K_law_redefine w a0d a0c l0 a1d a1c o1 t1 a2d a2c o2 t2) (fun v => (w29.heap.size ≤ lo ∧ hi ≤ v.heap.size) ∧ Ents v (BetX lo hi (.slice h1d nx.length h1c)) (.slice h0d bk.length h0c) bk ∧ Ints v (BetO lo hi (.slice h1d nx.length h1c)) (.slice h1d nx.length h1c) nx) (some bb0) none none v9 ∧ Outs3 lo hi (some bb0) none none := ⟨v.heap.size, v9.heap.size, H.out.call HKP.out hb ⟨⟨H.out.2.1.size, Nat.le_refl _⟩, hrow0, hrow1⟩, H.out.2.2.2.outs _⟩
     have Hn := Lib.hid hn; have HOn := Lib.hid ho
     clear hn ho hb hrow0 hrow1
     refine hK.out _ _ Hn.out.1 (fun hSn => ?_)
     clear hK K
     try simp only [qA, qB, qC, Act.put, qD, qE, qF]
     refine wpAnyH_take (i := 7) (v := .tuple #[.agg #[.slice h0d bk.length h0c], .agg #[.slice h1d nx.length h1c, .string (S sc)], .agg #[.int .i64 en, .string (S et)], .bool ok]) rfl (by kernel_rfl) (by kernel_rfl) (by kernel_rfl) (fun _ _ _ h => h) (Or.inl ⟨by rfl, fun z hz => ?_⟩) hSn ?_
     ·
      obtain ⟨z0q, z1q, z2q, z3q, z4q⟩ := hz
      go_simp
     try simp only [qA, qB, qC, Act.put, qD, qE, qF]
     refine wpAnyH_take (i := 8) (v := .agg #[.slice h0d bk.length h0c]) rfl (by kernel_rfl) (by kernel_rfl) (by kernel_rfl) (fun _ _ _ h => h) (Or.inl ⟨by rfl, fun z hz => ?_⟩) hSn ?_
     ·
      obtain ⟨z0q, z1q, z2q, z3q, z4q⟩ := hz
      go_simp
     try simp only [qA, qB, qC, Act.put, qD, qE, qF]
     refine wpAnyH_take (i := 9) (v := .agg #[.slice h1d nx.length h1c, .string (S sc)]) rfl (by kernel_rfl) (by kernel_rfl) (by kernel_rfl) (fun _ _ _ h => h) (Or.inl ⟨by rfl, fun z hz => ?_⟩) hSn ?_
     ·
      obtain ⟨z0q, z1q, z2q, z3q, z4q⟩ := hz
      go_simp
     try simp only [qA, qB, qC, Act.put, qD, qE, qF]
     refine wpAnyH_take (i := 10) (v := .agg #[.int .i64 en, .string (S et)]) rfl (by kernel_rfl) (by kernel_rfl) (by kernel_rfl) (fun _ _ _ h => h) (Or.inl ⟨by rfl, fun z hz => ?_⟩) hSn ?_
     ·
      obtain ⟨z0q, z1q, z2q, z3q, z4q⟩ := hz
      go_simp
     try simp only [qA, qB, qC, Act.put, qD, qE, qF]
     refine wpAnyH_take (i := 11) (v := .bool ok) rfl (by kernel_rfl) (by kernel_rfl) (by kernel_rfl) (fun _ _ _ h => h) (Or.inl ⟨by rfl, fun z hz => ?_⟩) hSn ?_
     ·
      obtain ⟨z0q, z1q, z2q, z3q, z4q⟩ := hz
      go_simp
     try simp only [qA, qB, qC, Act.put, qD, qE, qF]
     clear H hSn
     revert HOn; revert Hn; revert bb0; revert hi; revert lo; revert h1c; revert h1d; revert h0c; revert h0d; revert x2c; revert x2d; revert x1c; revert x1d; revert x0c; revert x0d; revert v9; exact k40
    ·
     skip
     go_simp
     have Hn := Lib.hid (H.out.new1 HKP.out (stA (stA (stA stT stE) stI) stI))
     refine hK.out _ _ Hn.out.1 (fun hq => ?_)
     clear hK K hq
     try simp only [qA, qB, qC, Act.put, qD, qE, qF]
     exact k301 _ _ _ _ _ _ _ _ _ Hn
    ·
     skip
     go_simp
     have Hn := Lib.hid (H.out.new2 HKP.out (stA (stA (stA stT stE) stI) stI))
     refine hK.out _ _ Hn.out.1 (fun hq => ?_)
     clear hK K hq
     try simp only [qA, qB, qC, Act.put, qD, qE, qF]
     exact k302 _ _ _ _ _ _ _ _ _ Hn
    intro v x0d x0c x1d x1c x2d x2c bb1 H
    refine wpAnyH_ready (rs := [6, 12, 14]) (by kernel_rfl) (by simp) ?_
    refine AllReadyH.cons rfl (fun K hK => ?_) (AllReadyH.cons rfl (fun K hK => ?_) (AllReadyH.cons rfl (fun K hK => ?_) AllReadyH.nil))
    ·
     skip
     go_simp
     refine ((impl_redefine _ _ _ l0 o1 t1 o2 t2 _ H.out.2.2.1.1.1.2 H.out.2.2.1.1.2 H.out.2.2.1.2 HSM0.out HSM2.out.1 HSM2.out.2 (HE.out.below (HB_33.out.trans (H.out.2.1.mono HB_33.out.size)) HE.out.size)).mono (rf_of HR.out (Nat.le_trans HLEN.out.2 (by decide)))).mono ?_
     rintro e v9 ⟨h0d, h0c, h1d, h1c, rfl, hrow0, hrow1, hb⟩
     obtain ⟨lo, hi, hn, ho⟩ : ∃ lo hi : Nat, Sx w29 (K_law_redefine w a0d a0c l0 a1d a1c o1 t1 a2d a2c o2 t2) (fun v => (w29.heap.size ≤ lo ∧ hi ≤ v.heap.size) ∧ Ents v (BetX lo hi (.slice h1d nx.length h1c)) (.slice h0d bk.length h0c) bk ∧ Ints v (BetO lo hi (.slice h1d nx.length h1c)) (.slice h1d nx.length h1c) nx) none (some bb1) none v9 ∧ Outs3 lo hi none (some bb1) none := ⟨v.heap.size, v9.heap.size, H.out.call HKP.out hb ⟨⟨H.out.2.1.size, Nat.le_refl _⟩, hrow0, hrow1⟩, H.out.2.2.2.outs _⟩
     have Hn := Lib.hid hn; have HOn := Lib.hid ho
     clear hn ho hb hrow0 hrow1
     refine hK.out _ _ Hn.out.1 (fun hSn => ?_)
     clear hK K
     try simp only [qA, qB, qC, Act.put, qD, qE, qF]
     refine wpAnyH_take (i := 7) (v := .tuple #[.agg #[.slice h0d bk.length h0c], .agg #[.slice h1d nx.length h1c, .string (S sc)], .agg #[.int .i64 en, .string (S et)], .bool ok]) rfl (by kernel_rfl) (by kernel_rfl) (by kernel_rfl) (fun _ _ _ h => h) (Or.inl ⟨by rfl, fun z hz => ?_⟩) hSn ?_
     ·
      obtain ⟨z0q, z1q, z2q, z3q, z4q⟩ := hz
      go_simp
     try simp only [qA, qB, qC, Act.put, qD, qE, qF]
     refine wpAnyH_take (i := 8) (v := .agg #[.slice h0d bk.length h0c]) rfl (by kernel_rfl) (by kernel_rfl) (by kernel_rfl) (fun _ _ _ h => h) (Or.inl ⟨by rfl, fun z hz => ?_⟩) hSn ?_
     ·
      obtain ⟨z0q, z1q, z2q, z3q, z4q⟩ := hz
      go_simp
     try simp only [qA, qB, qC, Act.put, qD, qE, qF]
     refine wpAnyH_take (i := 9) (v := .agg #[.slice h1d nx.length h1c, .string (S sc)]) rfl (by kernel_rfl) (by kernel_rfl) (by kernel_rfl) (fun _ _ _ h => h) (Or.inl ⟨by rfl, fun z hz => ?_⟩) hSn ?_
     ·
      obtain ⟨z0q, z1q, z2q, z3q, z4q⟩ := hz
      go_simp
     try simp only [qA, qB, qC, Act.put, qD, qE, qF]
     refine wpAnyH_take (i := 10) (v := .agg #[.int .i64 en, .string (S et)]) rfl (by kernel_rfl) (by kernel_rfl) (by kernel_rfl) (fun _ _ _ h => h) (Or.inl ⟨by rfl, fun z hz => ?_⟩) hSn ?_
     ·
      obtain ⟨z0q, z1q, z2q, z3q, z4q⟩ := hz
      go_simp
     try simp only [qA, qB, qC, Act.put, qD, qE, qF]
     refine wpAnyH_take (i := 11) (v := .bool ok) rfl (by kernel_rfl) (by kernel_rfl) (by kernel_rfl) (fun _ _ _ h => h) (Or.inl ⟨by rfl, fun z hz => ?_⟩) hSn ?_
     ·
      obtain ⟨z0q, z1q, z2q, z3q, z4q⟩ := hz
      go_simp
     try simp only [qA, qB, qC, Act.put, qD, qE, qF]
     clear H hSn
     revert HOn; revert Hn; revert bb1; revert hi; revert lo; revert h1c; revert h1d; revert h0c; revert h0d; revert x2c; revert x2d; revert x1c; revert x1d; revert x0c; revert x0d; revert v9; exact k41
    ·
     skip
     go_simp
     have Hn := Lib.hid (H.out.new0 HKP.out (stA (stA (stA stT stE) stI) stI))
     refine hK.out _ _ Hn.out.1 (fun hq => ?_)
     clear hK K hq
     try simp only [qA, qB, qC, Act.put, qD, qE, qF]
     exact k301 _ _ _ _ _ _ _ _ _ Hn
    ·
     skip
     go_simp
     have Hn := Lib.hid (H.out.new2 HKP.out (stA (stA (stA stT stE) stI) stI))
     refine hK.out _ _ Hn.out.1 (fun hq => ?_)
     clear hK K hq
     try simp only [qA, qB, qC, Act.put, qD, qE, qF]
     exact k312 _ _ _ _ _ _ _ _ _ Hn
    intro v x0d x0c x1d x1c x2d x2c bb2 H
    refine wpAnyH_ready (rs := [6, 12, 13]) (by kernel_rfl) (by simp) ?_
    refine AllReadyH.cons rfl (fun K hK => ?_) (AllReadyH.cons rfl (fun K hK => ?_) (AllReadyH.cons rfl (fun K hK => ?_) AllReadyH.nil))
    ·
     skip
     go_simp
     refine ((impl_redefine _ _ _ l0 o1 t1 o2 t2 _ H.out.2.2.1.1.1.2 H.out.2.2.1.1.2 H.out.2.2.1.2 HSM0.out HSM2.out.1 HSM2.out.2 (HE.out.below (HB_33.out.trans (H.out.2.1.mono HB_33.out.size)) HE.out.size)).mono (rf_of HR.out (Nat.le_trans HLEN.out.2 (by decide)))).mono ?_
     rintro e v9 ⟨h0d, h0c, h1d, h1c, rfl, hrow0, hrow1, hb⟩
     obtain ⟨lo, hi, hn, ho⟩ : ∃ lo hi : Nat, Sx w29 (K_law_redefine w a0d a0c l0 a1d a1c o1 t1 a2d a2c o2 t2) (fun v => (w29.heap.size ≤ lo ∧ hi ≤ v.heap.size) ∧ Ents v (BetX lo hi (.slice h1d nx.length h1c)) (.slice h0d bk.length h0c) bk ∧ Ints v (BetO lo hi (.slice h1d nx.length h1c)) (.slice h1d nx.length h1c) nx) none none (some bb2) v9 ∧ Outs3 lo hi none none (some bb2) := ⟨v.heap.size, v9.heap.size, H.out.call HKP.out hb ⟨⟨H.out.2.1.size, Nat.le_refl _⟩, hrow0, hrow1⟩, H.out.2.2.2.outs _⟩
     have Hn := Lib.hid hn; have HOn := Lib.hid ho
     clear hn ho hb hrow0 hrow1
     refine hK.out _ _ Hn.out.1 (fun hSn => ?_)
     clear hK K
     try simp only [qA, qB, qC, Act.put, qD, qE, qF]
     refine wpAnyH_take (i := 7) (v := .tuple #[.agg #[.slice h0d bk.length h0c], .agg #[.slice h1d nx.length h1c, .string (S sc)], .agg #[.int .i64 en, .string (S et)], .bool ok]) rfl (by kernel_rfl) (by kernel_rfl) (by kernel_rfl) (fun _ _ _ h => h) (Or.inl ⟨by rfl, fun z hz => ?_⟩) hSn ?_
     ·
      obtain ⟨z0q, z1q, z2q, z3q, z4q⟩ := hz
      go_simp
     try simp only [qA, qB, qC, Act.put, qD, qE, qF]
     refine wpAnyH_take (i := 8) (v := .agg #[.slice h0d bk.length h0c]) rfl (by kernel_rfl) (by kernel_rfl) (by kernel_rfl) (fun _ _ _ h => h) (Or.inl ⟨by rfl, fun z hz => ?_⟩) hSn ?_
     ·
      obtain ⟨z0q, z1q, z2q, z3q, z4q⟩ := hz
      go_simp
     try simp only [qA, qB, qC, Act.put, qD, qE, qF]
     refine wpAnyH_take (i := 9) (v := .agg #[.slice h1d nx.length h1c, .string (S sc)]) rfl (by kernel_rfl) (by kernel_rfl) (by kernel_rfl) (fun _ _ _ h => h) (Or.inl ⟨by rfl, fun z hz => ?_⟩) hSn ?_
     ·
      obtain ⟨z0q, z1q, z2q, z3q, z4q⟩ := hz
      go_simp
     try simp only [qA, qB, qC, Act.put, qD, qE, qF]
     refine wpAnyH_take (i := 10) (v := .agg #[.int .i64 en, .string (S et)]) rfl (by kernel_rfl) (by kernel_rfl) (by kernel_rfl) (fun _ _ _ h => h) (Or.inl ⟨by rfl, fun z hz => ?_⟩) hSn ?_
     ·
      obtain ⟨z0q, z1q, z2q, z3q, z4q⟩ := hz
      go_simp
     try simp only [qA, qB, qC, Act.put, qD, qE, qF]
     refine wpAnyH_take (i := 11) (v := .bool ok) rfl (by kernel_rfl) (by kernel_rfl) (by kernel_rfl) (fun _ _ _ h => h) (Or.inl ⟨by rfl, fun z hz => ?_⟩) hSn ?_
     ·
      obtain ⟨z0q, z1q, z2q, z3q, z4q⟩ := hz
      go_simp
     try simp only [qA, qB, qC, Act.put, qD, qE, qF]
     clear H hSn
     revert HOn; revert Hn; revert bb2; revert hi; revert lo; revert h1c; revert h1d; revert h0c; revert h0d; revert x2c; revert x2d; revert x1c; revert x1d; revert x0c; revert x0d; revert v9; exact k42
    ·
     skip
     go_simp
     have Hn := Lib.hid (H.out.new0 HKP.out (stA (stA (stA stT stE) stI) stI))
     refine hK.out _ _ Hn.out.1 (fun hq => ?_)
     clear hK K hq
     try simp only [qA, qB, qC, Act.put, qD, qE, qF]
     exact k302 _ _ _ _ _ _ _ _ _ Hn
    ·
     skip
     go_simp
     have Hn := Lib.hid (H.out.new1 HKP.out (stA (stA (stA stT stE) stI) stI))
     refine hK.out _ _ Hn.out.1 (fun hq => ?_)
     clear hK K hq
     try simp only [qA, qB, qC, Act.put, qD, qE, qF]
     exact k312 _ _ _ _ _ _ _ _ _ Hn
    intro v x0d x0c x1d x1c x2d x2c h0d h0c h1d h1c lo hi H HO
    refine wpAnyH_ready (rs := [12, 13, 14]) (by kernel_rfl) (by simp) ?_
    refine AllReadyH.cons rfl (fun K hK => ?_) (AllReadyH.cons rfl (fun K hK => ?_) (AllReadyH.cons rfl (fun K hK => ?_) AllReadyH.nil))
    ·
     skip
     go_simp
     have Hn := Lib.hid (H.out.new0 HKP.out (stF2 entE_ok intE_ok))
     have HOn := Lib.hid (HO.out.new0 H.out.2.2.1.1.2)
     refine hK.out _ _ Hn.out.1 (fun hq => ?_)
     clear hK K hq
     try simp only [qA, qB, qC, Act.put, qD, qE, qF]
     exact k40 _ _ _ _ _ _ _ _ _ _ _ _ _ _ Hn HOn
    ·
     skip
     go_simp
     have Hn := Lib.hid (H.out.new1 HKP.out (stF2 entE_ok intE_ok))
     have HOn := Lib.hid (HO.out.new1 H.out.2.2.1.1.2)
     refine hK.out _ _ Hn.out.1 (fun hq => ?_)
     clear hK K hq
     try simp only [qA, qB, qC, Act.put, qD, qE, qF]
     exact k41 _ _ _ _ _ _ _ _ _ _ _ _ _ _ Hn HOn
    ·
     skip
     go_simp
     have Hn := Lib.hid (H.out.new2 HKP.out (stF2 entE_ok intE_ok))
     have HOn := Lib.hid (HO.out.new2 H.out.2.2.1.1.2)
     refine hK.out _ _ Hn.out.1 (fun hq => ?_)
     clear hK K hq
     try simp only [qA, qB, qC, Act.put, qD, qE, qF]
     exact k42 _ _ _ _ _ _ _ _ _ _ _ _ _ _ Hn HOn
    intro v x0d x0c x1d x1c bb0 bb1 bb2 H
    refine wpAnyH_ready (rs := [5]) (by kernel_rfl) (by simp) ?_
    refine AllReadyH.cons rfl (fun K hK => ?_) AllReadyH.nil
    ·
     skip
     go_simp
     refine (toEntry _ o2 t2 _ (HU2.out.below (HB_33.out.trans (H.out.2.1.mono HB_33.out.size))) HSM2.out.1).mono ?_
     rintro e v9 ⟨y9, rfl, hI, hb⟩
     have hJ := (Ints.read hI)
     obtain ⟨x2d, x2c, rfl, -, -⟩ := hI
     have Hn := Lib.hid (H.out.conv HKP.out (stA (stA stT stE) stI) hb (R2 := fun v => IntR v (.slice x2d o2.length x2c) o2) hJ)
     refine hK.out _ _ Hn.out.1 (fun hq => ?_)
     clear hK K hJ hb hq
     try simp only [qA, qB, qC, Act.put, qD, qE, qF]
     clear H
     revert Hn; revert bb2; revert bb1; revert bb0; revert x2c; revert x2d; revert x1c; revert x1d; revert x0c; revert x0d; revert v9; exact k3012
    intro v x0d x0c x1d x1c x2d x2c bb0 bb1 H
    refine wpAnyH_ready (rs := [6, 14]) (by kernel_rfl) (by simp) ?_
    refine AllReadyH.cons rfl (fun K hK => ?_) (AllReadyH.cons rfl (fun K hK => ?_) AllReadyH.nil)
    ·
     skip
     go_simp
     refine ((impl_redefine _ _ _ l0 o1 t1 o2 t2 _ H.out.2.2.1.1.1.2 H.out.2.2.1.1.2 H.out.2.2.1.2 HSM0.out HSM2.out.1 HSM2.out.2 (HE.out.below (HB_33.out.trans (H.out.2.1.mono HB_33.out.size)) HE.out.size)).mono (rf_of HR.out (Nat.le_trans HLEN.out.2 (by decide)))).mono ?_
     rintro e v9 ⟨h0d, h0c, h1d, h1c, rfl, hrow0, hrow1, hb⟩
     obtain ⟨lo, hi, hn, ho⟩ : ∃ lo hi : Nat, Sx w29 (K_law_redefine w a0d a0c l0 a1d a1c o1 t1 a2d a2c o2 t2) (fun v => (w29.heap.size ≤ lo ∧ hi ≤ v.heap.size) ∧ Ents v (BetX lo hi (.slice h1d nx.length h1c)) (.slice h0d bk.length h0c) bk ∧ Ints v (BetO lo hi (.slice h1d nx.length h1c)) (.slice h1d nx.length h1c) nx) (some bb0) (some bb1) none v9 ∧ Outs3 lo hi (some bb0) (some bb1) none := ⟨v.heap.size, v9.heap.size, H.out.call HKP.out hb ⟨⟨H.out.2.1.size, Nat.le_refl _⟩, hrow0, hrow1⟩, H.out.2.2.2.outs _⟩
     have Hn := Lib.hid hn; have HOn := Lib.hid ho
     clear hn ho hb hrow0 hrow1
     refine hK.out _ _ Hn.out.1 (fun hSn => ?_)
     clear hK K
     try simp only [qA, qB, qC, Act.put, qD, qE, qF]
     refine wpAnyH_take (i := 7) (v := .tuple #[.agg #[.slice h0d bk.length h0c], .agg #[.slice h1d nx.length h1c, .string (S sc)], .agg #[.int .i64 en, .string (S et)], .bool ok]) rfl (by kernel_rfl) (by kernel_rfl) (by kernel_rfl) (fun _ _ _ h => h) (Or.inl ⟨by rfl, fun z hz => ?_⟩) hSn ?_
     ·
      obtain ⟨z0q, z1q, z2q, z3q, z4q⟩ := hz
      go_simp
     try simp only [qA, qB, qC, Act.put, qD, qE, qF]
     refine wpAnyH_take (i := 8) (v := .agg #[.slice h0d bk.length h0c]) rfl (by kernel_rfl) (by kernel_rfl) (by kernel_rfl) (fun _ _ _ h => h) (Or.inl ⟨by rfl, fun z hz => ?_⟩) hSn ?_
     ·
      obtain ⟨z0q, z1q, z2q, z3q, z4q⟩ := hz
      go_simp
     try simp only [qA, qB, qC, Act.put, qD, qE, qF]
     refine wpAnyH_take (i := 9) (v := .agg #[.slice h1d nx.length h1c, .string (S sc)]) rfl (by kernel_rfl) (by kernel_rfl) (by kernel_rfl) (fun _ _ _ h => h) (Or.inl ⟨by rfl, fun z hz => ?_⟩) hSn ?_
     ·
      obtain ⟨z0q, z1q, z2q, z3q, z4q⟩ := hz
      go_simp
     try simp only [qA, qB, qC, Act.put, qD, qE, qF]
     refine wpAnyH_take (i := 10) (v := .agg #[.int .i64 en, .string (S et)]) rfl (by kernel_rfl) (by kernel_rfl) (by kernel_rfl) (fun _ _ _ h => h) (Or.inl ⟨by rfl, fun z hz => ?_⟩) hSn ?_
     ·
      obtain ⟨z0q, z1q, z2q, z3q, z4q⟩ := hz
      go_simp
     try simp only [qA, qB, qC, Act.put, qD, qE, qF]
     refine wpAnyH_take (i := 11) (v := .bool ok) rfl (by kernel_rfl) (by kernel_rfl) (by kernel_rfl) (fun _ _ _ h => h) (Or.inl ⟨by rfl, fun z hz => ?_⟩) hSn ?_
     ·
      obtain ⟨z0q, z1q, z2q, z3q, z4q⟩ := hz
      go_simp
     try simp only [qA, qB, qC, Act.put, qD, qE, qF]
     clear H hSn
     revert HOn; revert Hn; revert bb1; revert bb0; revert hi; revert lo; revert h1c; revert h1d; revert h0c; revert h0d; revert x2c; revert x2d; revert x1c; revert x1d; revert x0c; revert x0d; revert v9; exact k401
    ·
     skip
     go_simp
     have Hn := Lib.hid (H.out.new2 HKP.out (stA (stA (stA stT stE) stI) stI))
     refine hK.out _ _ Hn.out.1 (fun hq => ?_)
     clear hK K hq
     try simp only [qA, qB, qC, Act.put, qD, qE, qF]
     exact k3012 _ _ _ _ _ _ _ _ _ _ Hn
    intro v x0d x0c x1d x1c x2d x2c bb0 bb2 H
    refine wpAnyH_ready (rs := [6, 13]) (by kernel_rfl) (by simp) ?_
    refine AllReadyH.cons rfl (fun K hK => ?_) (AllReadyH.cons rfl (fun K hK => ?_) AllReadyH.nil)
    ·
     skip
     go_simp
     refine ((impl_redefine _ _ _ l0 o1 t1 o2 t2 _ H.out.2.2.1.1.1.2 H.out.2.2.1.1.2 H.out.2.2.1.2 HSM0.out HSM2.out.1 HSM2.out.2 (HE.out.below (HB_33.out.trans (H.out.2.1.mono HB_33.out.size)) HE.out.size)).mono (rf_of HR.out (Nat.le_trans HLEN.out.2 (by decide)))).mono ?_
     rintro e v9 ⟨h0d, h0c, h1d, h1c, rfl, hrow0, hrow1, hb⟩
     obtain ⟨lo, hi, hn, ho⟩ : ∃ lo hi : Nat, Sx w29 (K_law_redefine w a0d a0c l0 a1d a1c o1 t1 a2d a2c o2 t2) (fun v => (w29.heap.size ≤ lo ∧ hi ≤ v.heap.size) ∧ Ents v (BetX lo hi (.slice h1d nx.length h1c)) (.slice h0d bk.length h0c) bk ∧ Ints v (BetO lo hi (.slice h1d nx.length h1c)) (.slice h1d nx.length h1c) nx) (some bb0) none (some bb2) v9 ∧ Outs3 lo hi (some bb0) none (some bb2) := ⟨v.heap.size, v9.heap.size, H.out.call HKP.out hb ⟨⟨H.out.2.1.size, Nat.le_refl _⟩, hrow0, hrow1⟩, H.out.2.2.2.outs _⟩
     have Hn := Lib.hid hn; have HOn := Lib.hid ho
     clear hn ho hb hrow0 hrow1
     refine hK.out _ _ Hn.out.1 (fun hSn => ?_)
     clear hK K
     try simp only [qA, qB, qC, Act.put, qD, qE, qF]
     refine wpAnyH_take (i := 7) (v := .tuple #[.agg #[.slice h0d bk.length h0c], .agg #[.slice h1d nx.length h1c, .string (S sc)], .agg #[.int .i64 en, .string (S et)], .bool ok]) rfl (by kernel_rfl) (by kernel_rfl) (by kernel_rfl) (fun _ _ _ h => h) (Or.inl ⟨by rfl, fun z hz => ?_⟩) hSn ?_
     ·
      obtain ⟨z0q, z1q, z2q, z3q, z4q⟩ := hz
      go_simp
     try simp only [qA, qB, qC, Act.put, qD, qE, qF]
     refine wpAnyH_take (i := 8) (v := .agg #[.slice h0d bk.length h0c]) rfl (by kernel_rfl) (by kernel_rfl) (by kernel_rfl) (fun _ _ _ h => h) (Or.inl ⟨by rfl, fun z hz => ?_⟩) hSn ?_
     ·
      obtain ⟨z0q, z1q, z2q, z3q, z4q⟩ := hz
      go_simp
     try simp only [qA, qB, qC, Act.put, qD, qE, qF]
     refine wpAnyH_take (i := 9) (v := .agg #[.slice h1d nx.length h1c, .string (S sc)]) rfl (by kernel_rfl) (by kernel_rfl) (by kernel_rfl) (fun _ _ _ h => h) (Or.inl ⟨by rfl, fun z hz => ?_⟩) hSn ?_
     ·
      obtain ⟨z0q, z1q, z2q, z3q, z4q⟩ := hz
      go_simp
     try simp only [qA, qB, qC, Act.put, qD, qE, qF]
     refine wpAnyH_take (i := 10) (v := .agg #[.int .i64 en, .string (S et)]) rfl (by kernel_rfl) (by kernel_rfl) (by kernel_rfl) (fun _ _ _ h => h) (Or.inl ⟨by rfl, fun z hz => ?_⟩) hSn ?_
     ·
      obtain ⟨z0q, z1q, z2q, z3q, z4q⟩ := hz
      go_simp
     try simp only [qA, qB, qC, Act.put, qD, qE, qF]
     refine wpAnyH_take (i := 11) (v := .bool ok) rfl (by kernel_rfl) (by kernel_rfl) (by kernel_rfl) (fun _ _ _ h => h) (Or.inl ⟨by rfl, fun z hz => ?_⟩) hSn ?_
     ·
      obtain ⟨z0q, z1q, z2q, z3q, z4q⟩ := hz
      go_simp
     try simp only [qA, qB, qC, Act.put, qD, qE, qF]
     clear H hSn
     revert HOn; revert Hn; revert bb2; revert bb0; revert hi; revert lo; revert h1c; revert h1d; revert h0c; revert h0d; revert x2c; revert x2d; revert x1c; revert x1d; revert x0c; revert x0d; revert v9; exact k402
    ·
     skip
     go_simp
     have Hn := Lib.hid (H.out.new1 HKP.out (stA (stA (stA stT stE) stI) stI))
     refine hK.out _ _ Hn.out.1 (fun hq => ?_)
     clear hK K hq
     try simp only [qA, qB, qC, Act.put, qD, qE, qF]
     exact k3012 _ _ _ _ _ _ _ _ _ _ Hn
    intro v x0d x0c x1d x1c x2d x2c bb1 bb2 H
    refine wpAnyH_ready (rs := [6, 12]) (by kernel_rfl) (by simp) ?_
    refine AllReadyH.cons rfl (fun K hK => ?_) (AllReadyH.cons rfl (fun K hK => ?_) AllReadyH.nil)
    ·
     skip
     go_simp
     refine ((impl_redefine _ _ _ l0 o1 t1 o2 t2 _ H.out.2.2.1.1.1.2 H.out.2.2.1.1.2 H.out.2.2.1.2 HSM0.out HSM2.out.1 HSM2.out.2 (HE.out.below (HB_33.out.trans (H.out.2.1.mono HB_33.out.size)) HE.out.size)).mono (rf_of HR.out (Nat.le_trans HLEN.out.2 (by decide)))).mono ?_
     rintro e v9 ⟨h0d, h0c, h1d, h1c, rfl, hrow0, hrow1, hb⟩
     obtain ⟨lo, hi, hn, ho⟩ : ∃ lo hi : Nat, Sx w29 (K_law_redefine w a0d a0c l0 a1d a1c o1 t1 a2d a2c o2 t2) (fun v => (w29.heap.size ≤ lo ∧ hi ≤ v.heap.size) ∧ Ents v (BetX lo hi (.slice h1d nx.length h1c)) (.slice h0d bk.length h0c) bk ∧ Ints v (BetO lo hi (.slice h1d nx.length h1c)) (.slice h1d nx.length h1c) nx) none (some bb1) (some bb2) v9 ∧ Outs3 lo hi none (some bb1) (some bb2) := ⟨v.heap.size, v9.heap.size, H.out.call HKP.out hb ⟨⟨H.out.2.1.size, Nat.le_refl _⟩, hrow0, hrow1⟩, H.out.2.2.2.outs _⟩
     have Hn := Lib.hid hn; have HOn := Lib.hid ho
     clear hn ho hb hrow0 hrow1
     refine hK.out _ _ Hn.out.1 (fun hSn => ?_)
     clear hK K
     try simp only [qA, qB, qC, Act.put, qD, qE, qF]
     refine wpAnyH_take (i := 7) (v := .tuple #[.agg #[.slice h0d bk.length h0c], .agg #[.slice h1d nx.length h1c, .string (S sc)], .agg #[.int .i64 en, .string (S et)], .bool ok]) rfl (by kernel_rfl) (by kernel_rfl) (by kernel_rfl) (fun _ _ _ h => h) (Or.inl ⟨by rfl, fun z hz => ?_⟩) hSn ?_
     ·
      obtain ⟨z0q, z1q, z2q, z3q, z4q⟩ := hz
      go_simp
     try simp only [qA, qB, qC, Act.put, qD, qE, qF]
     refine wpAnyH_take (i := 8) (v := .agg #[.slice h0d bk.length h0c]) rfl (by kernel_rfl) (by kernel_rfl) (by kernel_rfl) (fun _ _ _ h => h) (Or.inl ⟨by rfl, fun z hz => ?_⟩) hSn ?_
     ·
      obtain ⟨z0q, z1q, z2q, z3q, z4q⟩ := hz
      go_simp
     try simp only [qA, qB, qC, Act.put, qD, qE, qF]
     refine wpAnyH_take (i := 9) (v := .agg #[.slice h1d nx.length h1c, .string (S sc)]) rfl (by kernel_rfl) (by kernel_rfl) (by kernel_rfl) (fun _ _ _ h => h) (Or.inl ⟨by rfl, fun z hz => ?_⟩) hSn ?_
     ·
      obtain ⟨z0q, z1q, z2q, z3q, z4q⟩ := hz
      go_simp
     try simp only [qA, qB, qC, Act.put, qD, qE, qF]
     refine wpAnyH_take (i := 10) (v := .agg #[.int .i64 en, .string (S et)]) rfl (by kernel_rfl) (by kernel_rfl) (by kernel_rfl) (fun _ _ _ h => h) (Or.inl ⟨by rfl, fun z hz => ?_⟩) hSn ?_
     ·
      obtain ⟨z0q, z1q, z2q, z3q, z4q⟩ := hz
      go_simp
     try simp only [qA, qB, qC, Act.put, qD, qE, qF]
     refine wpAnyH_take (i := 11) (v := .bool ok) rfl (by kernel_rfl) (by kernel_rfl) (by kernel_rfl) (fun _ _ _ h => h) (Or.inl ⟨by rfl, fun z hz => ?_⟩) hSn ?_
     ·
      obtain ⟨z0q, z1q, z2q, z3q, z4q⟩ := hz
      go_simp
     try simp only [qA, qB, qC, Act.put, qD, qE, qF]
     clear H hSn
     revert HOn; revert Hn; revert bb2; revert bb1; revert hi; revert lo; revert h1c; revert h1d; revert h0c; revert h0d; revert x2c; revert x2d; revert x1c; revert x1d; revert x0c; revert x0d; revert v9; exact k412
    ·
     skip
     go_simp
     have Hn := Lib.hid (H.out.new0 HKP.out (stA (stA (stA stT stE) stI) stI))
     refine hK.out _ _ Hn.out.1 (fun hq => ?_)
     clear hK K hq
     try simp only [qA, qB, qC, Act.put, qD, qE, qF]
     exact k3012 _ _ _ _ _ _ _ _ _ _ Hn
    intro v x0d x0c x1d x1c x2d x2c h0d h0c h1d h1c lo hi bb0 H HO
    refine wpAnyH_ready (rs := [13, 14]) (by kernel_rfl) (by simp) ?_
    refine AllReadyH.cons rfl (fun K hK => ?_) (AllReadyH.cons rfl (fun K hK => ?_) AllReadyH.nil)
    ·
     skip
     go_simp
     have Hn := Lib.hid (H.out.new1 HKP.out (stF2 entE_ok intE_ok))
     have HOn := Lib.hid (HO.out.new1 H.out.2.2.1.1.2)
     refine hK.out _ _ Hn.out.1 (fun hq => ?_)
     clear hK K hq
     try simp only [qA, qB, qC, Act.put, qD, qE, qF]
     exact k401 _ _ _ _ _ _ _ _ _ _ _ _ _ _ _ Hn HOn
    ·
     skip
     go_simp
     have Hn := Lib.hid (H.out.new2 HKP.out (stF2 entE_ok intE_ok))
     have HOn := Lib.hid (HO.out.new2 H.out.2.2.1.1.2)
     refine hK.out _ _ Hn.out.1 (fun hq => ?_)
     clear hK K hq
     try simp only [qA, qB, qC, Act.put, qD, qE, qF]
     exact k402 _ _ _ _ _ _ _ _ _ _ _ _ _ _ _ Hn HOn
    intro v x0d x0c x1d x1c x2d x2c h0d h0c h1d h1c lo hi bb1 H HO
    refine wpAnyH_ready (rs := [12, 14]) (by kernel_rfl) (by simp) ?_
    refine AllReadyH.cons rfl (fun K hK => ?_) (AllReadyH.cons rfl (fun K hK => ?_) AllReadyH.nil)
    ·
     skip
     go_simp
     have Hn := Lib.hid (H.out.new0 HKP.out (stF2 entE_ok intE_ok))
     have HOn := Lib.hid (HO.out.new0 H.out.2.2.1.1.2)
     refine hK.out _ _ Hn.out.1 (fun hq => ?_)
     clear hK K hq
     try simp only [qA, qB, qC, Act.put, qD, qE, qF]
     exact k401 _ _ _ _ _ _ _ _ _ _ _ _ _ _ _ Hn HOn
    ·
     skip
     go_simp
     have Hn := Lib.hid (H.out.new2 HKP.out (stF2 entE_ok intE_ok))
     have HOn := Lib.hid (HO.out.new2 H.out.2.2.1.1.2)
     refine hK.out _ _ Hn.out.1 (fun hq => ?_)
     clear hK K hq
     try simp only [qA, qB, qC, Act.put, qD, qE, qF]
     exact k412 _ _ _ _ _ _ _ _ _ _ _ _ _ _ _ Hn HOn
    intro v x0d x0c x1d x1c x2d x2c h0d h0c h1d h1c lo hi bb2 H HO
    refine wpAnyH_ready (rs := [12, 13]) (by kernel_rfl) (by simp) ?_
    refine AllReadyH.cons rfl (fun K hK => ?_) (AllReadyH.cons rfl (fun K hK => ?_) AllReadyH.nil)
    ·
     skip
     go_simp
     have Hn := Lib.hid (H.out.new0 HKP.out (stF2 entE_ok intE_ok))
     have HOn := Lib.hid (HO.out.new0 H.out.2.2.1.1.2)
     refine hK.out _ _ Hn.out.1 (fun hq => ?_)
     clear hK K hq
     try simp only [qA, qB, qC, Act.put, qD, qE, qF]
     exact k402 _ _ _ _ _ _ _ _ _ _ _ _ _ _ _ Hn HOn
    ·
     skip
     go_simp
     have Hn := Lib.hid (H.out.new1 HKP.out (stF2 entE_ok intE_ok))
     have HOn := Lib.hid (HO.out.new1 H.out.2.2.1.1.2)
     refine hK.out _ _ Hn.out.1 (fun hq => ?_)
     clear hK K hq
     try simp only [qA, qB, qC, Act.put, qD, qE, qF]
     exact k412 _ _ _ _ _ _ _ _ _ _ _ _ _ _ _ Hn HOn
    intro v x0d x0c x1d x1c x2d x2c bb0 bb1 bb2 H
    refine wpAnyH_ready (rs := [6]) (by kernel_rfl) (by simp) ?_
    refine AllReadyH.cons rfl (fun K hK => ?_) AllReadyH.nil
    ·
     skip
     go_simp
     refine ((impl_redefine _ _ _ l0 o1 t1 o2 t2 _ H.out.2.2.1.1.1.2 H.out.2.2.1.1.2 H.out.2.2.1.2 HSM0.out HSM2.out.1 HSM2.out.2 (HE.out.below (HB_33.out.trans (H.out.2.1.mono HB_33.out.size)) HE.out.size)).mono (rf_of HR.out (Nat.le_trans HLEN.out.2 (by decide)))).mono ?_
     rintro e v9 ⟨h0d, h0c, h1d, h1c, rfl, hrow0, hrow1, hb⟩
     obtain ⟨lo, hi, hn, ho⟩ : ∃ lo hi : Nat, Sx w29 (K_law_redefine w a0d a0c l0 a1d a1c o1 t1 a2d a2c o2 t2) (fun v => (w29.heap.size ≤ lo ∧ hi ≤ v.heap.size) ∧ Ents v (BetX lo hi (.slice h1d nx.length h1c)) (.slice h0d bk.length h0c) bk ∧ Ints v (BetO lo hi (.slice h1d nx.length h1c)) (.slice h1d nx.length h1c) nx) (some bb0) (some bb1) (some bb2) v9 ∧ Outs3 lo hi (some bb0) (some bb1) (some bb2) := ⟨v.heap.size, v9.heap.size, H.out.call HKP.out hb ⟨⟨H.out.2.1.size, Nat.le_refl _⟩, hrow0, hrow1⟩, H.out.2.2.2.outs _⟩
     have Hn := Lib.hid hn; have HOn := Lib.hid ho
     clear hn ho hb hrow0 hrow1
     refine hK.out _ _ Hn.out.1 (fun hSn => ?_)
     clear hK K
     try simp only [qA, qB, qC, Act.put, qD, qE, qF]
     refine wpAnyH_take (i := 7) (v := .tuple #[.agg #[.slice h0d bk.length h0c], .agg #[.slice h1d nx.length h1c, .string (S sc)], .agg #[.int .i64 en, .string (S et)], .bool ok]) rfl (by kernel_rfl) (by kernel_rfl) (by kernel_rfl) (fun _ _ _ h => h) (Or.inl ⟨by rfl, fun z hz => ?_⟩) hSn ?_
     ·
      obtain ⟨z0q, z1q, z2q, z3q, z4q⟩ := hz
      go_simp
     try simp only [qA, qB, qC, Act.put, qD, qE, qF]
     refine wpAnyH_take (i := 8) (v := .agg #[.slice h0d bk.length h0c]) rfl (by kernel_rfl) (by kernel_rfl) (by kernel_rfl) (fun _ _ _ h => h) (Or.inl ⟨by rfl, fun z hz => ?_⟩) hSn ?_
     ·
      obtain ⟨z0q, z1q, z2q, z3q, z4q⟩ := hz
      go_simp
     try simp only [qA, qB, qC, Act.put, qD, qE, qF]
     refine wpAnyH_take (i := 9) (v := .agg #[.slice h1d nx.length h1c, .string (S sc)]) rfl (by kernel_rfl) (by kernel_rfl) (by kernel_rfl) (fun _ _ _ h => h) (Or.inl ⟨by rfl, fun z hz => ?_⟩) hSn ?_
     ·
      obtain ⟨z0q, z1q, z2q, z3q, z4q⟩ := hz
      go_simp
     try simp only [qA, qB, qC, Act.put, qD, qE, qF]
     refine wpAnyH_take (i := 10) (v := .agg #[.int .i64 en, .string (S et)]) rfl (by kernel_rfl) (by kernel_rfl) (by kernel_rfl) (fun _ _ _ h => h) (Or.inl ⟨by rfl, fun z hz => ?_⟩) hSn ?_
     ·
      obtain ⟨z0q, z1q, z2q, z3q, z4q⟩ := hz
      go_simp
     try simp only [qA, qB, qC, Act.put, qD, qE, qF]
     refine wpAnyH_take (i := 11) (v := .bool ok) rfl (by kernel_rfl) (by kernel_rfl) (by kernel_rfl) (fun _ _ _ h => h) (Or.inl ⟨by rfl, fun z hz => ?_⟩) hSn ?_
     ·
      obtain ⟨z0q, z1q, z2q, z3q, z4q⟩ := hz
      go_simp
     try simp only [qA, qB, qC, Act.put, qD, qE, qF]
     clear H hSn
     revert HOn; revert Hn; revert bb2; revert bb1; revert bb0; revert hi; revert lo; revert h1c; revert h1d; revert h0c; revert h0d; revert x2c; revert x2d; revert x1c; revert x1d; revert x0c; revert x0d; revert v9; exact k4012
    intro v x0d x0c x1d x1c x2d x2c h0d h0c h1d h1c lo hi bb0 bb1 H HO
    refine wpAnyH_ready (rs := [14]) (by kernel_rfl) (by simp) ?_
    refine AllReadyH.cons rfl (fun K hK => ?_) AllReadyH.nil
    ·
     skip
     go_simp
     have Hn := Lib.hid (H.out.new2 HKP.out (stF2 entE_ok intE_ok))
     have HOn := Lib.hid (HO.out.new2 H.out.2.2.1.1.2)
     refine hK.out _ _ Hn.out.1 (fun hq => ?_)
     clear hK K hq
     try simp only [qA, qB, qC, Act.put, qD, qE, qF]
     exact k4012 _ _ _ _ _ _ _ _ _ _ _ _ _ _ _ _ Hn HOn
    intro v x0d x0c x1d x1c x2d x2c h0d h0c h1d h1c lo hi bb0 bb2 H HO
    refine wpAnyH_ready (rs := [13]) (by kernel_rfl) (by simp) ?_
    refine AllReadyH.cons rfl (fun K hK => ?_) AllReadyH.nil
    ·
     skip
     go_simp
     have Hn := Lib.hid (H.out.new1 HKP.out (stF2 entE_ok intE_ok))
     have HOn := Lib.hid (HO.out.new1 H.out.2.2.1.1.2)
     refine hK.out _ _ Hn.out.1 (fun hq => ?_)
     clear hK K hq
     try simp only [qA, qB, qC, Act.put, qD, qE, qF]
     exact k4012 _ _ _ _ _ _ _ _ _ _ _ _ _ _ _ _ Hn HOn
    intro v x0d x0c x1d x1c x2d x2c h0d h0c h1d h1c lo hi bb1 bb2 H HO
    refine wpAnyH_ready (rs := [12]) (by kernel_rfl) (by simp) ?_
    refine AllReadyH.cons rfl (fun K hK => ?_) AllReadyH.nil
    ·
     skip
     go_simp
     have Hn := Lib.hid (H.out.new0 HKP.out (stF2 entE_ok intE_ok))
     have HOn := Lib.hid (HO.out.new0 H.out.2.2.1.1.2)
     refine hK.out _ _ Hn.out.1 (fun hq => ?_)
     clear hK K hq
     try simp only [qA, qB, qC, Act.put, qD, qE, qF]
     exact k4012 _ _ _ _ _ _ _ _ _ _ _ _ _ _ _ _ Hn HOn
    intro v x0d x0c x1d x1c x2d x2c h0d h0c h1d h1c lo hi bb0 bb1 bb2 H HO
    have hS := H.out.1; have HBW := Lib.hid H.out.2.1; have HBX := Lib.hid H.out.2.2.2; have HLO := Lib.hid H.out.2.2.1.1
    have HRES0 := Lib.hid H.out.2.2.1.2.1
    have HRES1 := Lib.hid H.out.2.2.1.2.2
    have HAP := HO
    clear H HO
    have hlo := HLO.out.1; have hhi := HLO.out.2
    obtain ⟨hx0, hx1, hx2, hn01, hn02, hn12⟩ := HBX.out
    obtain ⟨hp0, hp1, hp2⟩ := HAP.out
    have HBX0 := Lib.hid (hx0 _ rfl); have hap0 := hp0 _ rfl
    have HBX1 := Lib.hid (hx1 _ rfl); have hap1 := hp1 _ rfl
    have HBX2 := Lib.hid (hx2 _ rfl); have hap2 := hp2 _ rfl
    have hne01 := hn01 _ _ rfl rfl
    have hne02 := hn02 _ _ rfl rfl
    have hne12 := hn12 _ _ rfl rfl
    clear hx0 hp0 hx1 hp1 hx2 hp2 hn01 hn02 hn12 HBX HAP
    refine wpAnyH_ready (rs := [15]) (by kernel_rfl) (by simp) ?_
    refine AllReadyH.cons rfl (fun K hK => ?_) AllReadyH.nil
    have hwb0 := HBX0.out.2
    obtain ⟨cb, fb, zb⟩ := HBX0.out.1
    go_simp
    obtain ⟨v25, hv25⟩ : ∃ y, (v.setCell ⟨bb0, 0, none⟩ (.slice h0d bk.length h0c)) = y := ⟨_, rfl⟩
    have hcg : Chg (fun b => b = bb0) v v25 := by rw [← hv25]; exact ((Chg.refl (fun b => b = bb0) v).setCell (p := ⟨bb0, 0, none⟩) rfl (.slice h0d bk.length h0c))
    have hbox : Box1 bb0 (.slice h0d bk.length h0c) v25 := by rw [← hv25]; exact ⟨World.cell?_setCell_same _ _ _ cb, by simpa [World.setCell] using zb⟩
    have hsz : v25.heap.size = v.heap.size := by rw [← hv25]; simp [World.setCell]
    have hbw : Below w29.heap.size w29 v25 := Chg.belowB HBW.out hcg HBW.out.size (fun b h => by have h9 : b = bb0 := h; omega)
    have zA := HBW.out.size
    have hst : K_law_redefine w a0d a0c l0 a1d a1c o1 t1 a2d a2c o2 t2 v25 := HKP.out _ _ (hcg.below zA (fun b h => by have h9 : b = bb0 := h; omega)) hS
    refine hK.out _ _ (by rw [hv25]; exact hst) (fun hS26 => ?_)
    clear hK K
    try rw [hv25] at hS26 ⊢
    try simp only [qA, qB, qC, Act.put, qD, qE, qF]
    have HBW27 := Lib.hid hbw
    have HBX1_28 := Lib.hid (show _ ∧ _ from ⟨HBX1.out.1.stand hcg (by omega), HBX1.out.2⟩)
    have HBX2_29 := Lib.hid (show _ ∧ _ from ⟨HBX2.out.1.stand hcg (by omega), HBX2.out.2⟩)
    have HRES0_30 := Lib.hid (HRES0.out.stand entE_ok hcg (fun b hb e => by have h3 : _ ∧ _ := hb; have h4 : _ = _ := e; omega))
    have HRES1_31 := Lib.hid (HRES1.out.stand intE_ok hcg (fun b hb e => by have h3 : _ ∧ _ := hb; have h4 : _ = _ := e; omega))
    have FX0_32 := hbox
    clear hbox hbw hcg hst zA zb HBW HBX0 hS HBX1 HBX2 HRES0 HRES1 cb fb
    refine wpAnyH_ready (rs := [16]) (by kernel_rfl) (by simp) ?_
    refine AllReadyH.cons rfl (fun K hK => ?_) AllReadyH.nil
    have hwb1 := HBX1_28.out.2
    obtain ⟨zb, cb0, cb1, fb0, fb1⟩ := HBX1_28.out.1
    go_simp
    obtain ⟨v33, hv33⟩ : ∃ y, ((v25.setCell ⟨bb1, 0, none⟩ (.slice h1d nx.length h1c)).setCell ⟨bb1, 1, none⟩ (.string (S sc))) = y := ⟨_, rfl⟩
    have hcg : Chg (fun b => b = bb1) v25 v33 := by rw [← hv33]; exact (((Chg.refl (fun b => b = bb1) v25).setCell (p := ⟨bb1, 0, none⟩) rfl (.slice h1d nx.length h1c)).setCell (p := ⟨bb1, 1, none⟩) rfl (.string (S sc)))
    have hbox : Box2E bb1 (.slice h1d nx.length h1c) sc v33 := by rw [← hv33]; exact Box2E.set2 cb0 cb1 zb
    have hsz : v33.heap.size = v25.heap.size := by rw [← hv33]; simp [World.setCell]
    have hbw : Below w29.heap.size w29 v33 := Chg.belowB HBW27.out hcg HBW27.out.size (fun b h => by have h9 : b = bb1 := h; omega)
    have zA := HBW27.out.size
    have hst : K_law_redefine w a0d a0c l0 a1d a1c o1 t1 a2d a2c o2 t2 v33 := HKP.out _ _ (hcg.below zA (fun b h => by have h9 : b = bb1 := h; omega)) hS26
    refine hK.out _ _ (by rw [hv33]; exact hst) (fun hS34 => ?_)
    clear hK K
    try rw [hv33] at hS34 ⊢
    try simp only [qA, qB, qC, Act.put, qD, qE, qF]
    have HBW35 := Lib.hid hbw
    have HBX2_36 := Lib.hid (show _ ∧ _ from ⟨HBX2_29.out.1.stand hcg (by omega), HBX2_29.out.2⟩)
    have HRES0_37 := Lib.hid (HRES0_30.out.stand entE_ok hcg (fun b hb e => by have h3 : _ ∧ _ := hb; have h4 : _ = _ := e; omega))
    have HRES1_38 := Lib.hid (HRES1_31.out.stand intE_ok hcg (fun b hb e => by have h3 : _ ∧ _ := hb; have h4 : _ = _ := e; omega))
    have FX0_39 := FX0_32.stand hcg (by omega)
    have FX1_40 := hbox
    clear hbox hbw hcg hst zA zb HBW27 HBX1_28 hS26 HBX2_29 HRES0_30 HRES1_31 FX0_32 cb0 cb1 fb0 fb1
    refine wpAnyH_ready (rs := [17]) (by kernel_rfl) (by simp) ?_
    refine AllReadyH.cons rfl (fun K hK => ?_) AllReadyH.nil
    have hwb2 := HBX2_36.out.2
    obtain ⟨zb, cb0, cb1, fb0, fb1⟩ := HBX2_36.out.1
    go_simp
    obtain ⟨v41, hv41⟩ : ∃ y, ((v33.setCell ⟨bb2, 0, none⟩ (.int .i64 en)).setCell ⟨bb2, 1, none⟩ (.string (S et))) = y := ⟨_, rfl⟩
    have hcg : Chg (fun b => b = bb2) v33 v41 := by rw [← hv41]; exact (((Chg.refl (fun b => b = bb2) v33).setCell (p := ⟨bb2, 0, none⟩) rfl (.int .i64 en)).setCell (p := ⟨bb2, 1, none⟩) rfl (.string (S et)))
    have hbox : Box2E bb2 (.int .i64 en) et v41 := by rw [← hv41]; exact Box2E.set2 cb0 cb1 zb
    have hsz : v41.heap.size = v33.heap.size := by rw [← hv41]; simp [World.setCell]
    have hbw : Below w29.heap.size w29 v41 := Chg.belowB HBW35.out hcg HBW35.out.size (fun b h => by have h9 : b = bb2 := h; omega)
    have zA := HBW35.out.size
    have hst : K_law_redefine w a0d a0c l0 a1d a1c o1 t1 a2d a2c o2 t2 v41 := HKP.out _ _ (hcg.below zA (fun b h => by have h9 : b = bb2 := h; omega)) hS34
    refine hK.out _ _ (by rw [hv41]; exact hst) (fun hS42 => ?_)
    clear hK K
    try rw [hv41] at hS42 ⊢
    try simp only [qA, qB, qC, Act.put, qD, qE, qF]
    have HBW43 := Lib.hid hbw
    have HRES0_44 := Lib.hid (HRES0_37.out.stand entE_ok hcg (fun b hb e => by have h3 : _ ∧ _ := hb; have h4 : _ = _ := e; omega))
    have HRES1_45 := Lib.hid (HRES1_38.out.stand intE_ok hcg (fun b hb e => by have h3 : _ ∧ _ := hb; have h4 : _ = _ := e; omega))
    have FX0_46 := FX0_39.stand hcg (by omega)
    have FX1_47 := FX1_40.stand hcg (by omega)
    have FX2_48 := hbox
    clear hbox hbw hcg hst zA zb HBW35 HBX2_36 hS34 HRES0_37 HRES1_38 FX0_39 FX1_40 cb0 cb1 fb0 fb1
    refine wpAnyH_take (i := 18) (v := .bool ok) rfl (by kernel_rfl) (by kernel_rfl) (by kernel_rfl) (fun _ _ _ h => h) (Or.inl ⟨by rfl, fun z hz => ?_⟩) hS42 ?_
    ·
     obtain ⟨z0q, z1q, z2q, z3q, z4q⟩ := hz
     go_simp
    try simp only [qA, qB, qC, Act.put, qD, qE, qF]
    refine wpAnyH_done (by kernel_rfl) ?_ _
    go_wp2_with fail
    go_meet
    exact ⟨bb0, bb1, bb2, h0d, h0c, h1d, h1c, rfl, rfl, rfl, rfl, FX0_46, by omega, FX1_47, by omega, FX2_48, by omega, RowO.toX entE_ok HRES0_44.out (Below.refl _ _) (by omega) (by omega) (Nat.le_refl _), RowO.to intE_ok HRES1_45.out (Below.refl _ _) (by omega) (by omega) (Nat.le_refl _), HBW43.out⟩
   case rest =>
    obtain ⟨bh0, bh1, bh2, h0d, h0c, h1d, h1c, rfl, rfl, rfl, rfl, hbx0, zbh0, hbx1, zbh1, hbx2, zbh2, hrow0, hrow1, hb⟩ := hcut
    have zzw30 : w29.heap.size ≤ wc.heap.size := hb.size
    have HB_34 := Lib.hid (HB_33.out.trans (hb.mono HB_33.out.size))
    have A0_34 := Lib.hid (A0_33.out.below hb)
    have A1_34 := Lib.hid (A1_33.out.below hb)
    have A2_34 := Lib.hid (A2_33.out.below hb)
    have sB0_30 := Lib.hid (sB0_29.out.below hb)
    have sB1_30 := Lib.hid (sB1_29.out.below hb)
    have sB2_30 := Lib.hid (sB2_29.out.below hb)
    have sL0_30 := Lib.hid (sL0_29.out.below entE_ok hb)
    have sL1_30 := Lib.hid (sL1_29.out.below intE_ok hb)
    have X0_28 := Lib.hid (X0_27.out.below hb)
    have X1_26 := Lib.hid (X1_25.out.below hb)
    have X2_24 := Lib.hid (X2_23.out.below hb)
    have gB0_23 := Lib.hid (gB0_22.out.below hb)
    have gB1_23 := Lib.hid (gB1_22.out.below hb)
    have gB2_23 := Lib.hid (gB2_22.out.below hb)
    have mL0_4 := Lib.hid (mL0_3.out.below entE_ok hb)
    have mL1_3 := Lib.hid (mL1_2.out.below intE_ok hb)
    clear HB_33 A0_33 A1_33 A2_33 sB0_29 sB1_29 sB2_29 sL0_29 sL1_29 X0_27 X1_25 X2_23 gB0_22 gB1_22 gB2_22 mL0_3 mL1_2 hb HS
    have yyh0 : bh0 < wc.heap.size := hbx0.2
    have hB0_0 := Lib.hid (hbx0)
    clear hbx0
    have yyh1 : bh1 < wc.heap.size := hbx1.2.2
    have hB1_0 := Lib.hid (hbx1)
    clear hbx1
    have yyh2 : bh2 < wc.heap.size := hbx2.2.2
    have hB2_0 := Lib.hid (hbx2)
    clear hbx2
    have hL0_0 := Lib.hid (hrow0)
    clear hrow0
    have hL1_0 := Lib.hid (hrow1)
    clear hrow1
    clear hWA
    generalize hww : wc = w30 at *
    clear hww
    obtain ⟨c_hB0, _⟩ := hB0_0.out
    obtain ⟨c_sB0, _⟩ := sB0_30.out
    obtain ⟨c_hB10, c_hB11, _⟩ := hB1_0.out
    obtain ⟨c_sB10, c_sB11, _⟩ := sB1_30.out
    obtain ⟨c_hB20, c_hB21, _⟩ := hB2_0.out
    obtain ⟨c_sB20, c_sB21, _⟩ := sB2_30.out
    go_wp2_with fail
    refine (eqDictionary _ _ bk _ (Ents.read hL0_0.out) (Ents.read sL0_30.out)).mono ?_
    rintro e w31 ⟨rfl, hb⟩
    clear c_hB0 c_sB0 c_hB10 c_hB11 c_sB10 c_sB11 c_hB20 c_hB21 c_sB20 c_sB21
    have zw31 : w30.heap.size ≤ w31.heap.size := hb.size
    have HB_35 := Lib.hid (HB_34.out.trans (hb.mono HB_34.out.size))
    have A0_35 := Lib.hid (A0_34.out.below hb)
    have A1_35 := Lib.hid (A1_34.out.below hb)
    have A2_35 := Lib.hid (A2_34.out.below hb)
    have sB0_31 := Lib.hid (sB0_30.out.below hb)
    have sB1_31 := Lib.hid (sB1_30.out.below hb)
    have sB2_31 := Lib.hid (sB2_30.out.below hb)
    have sL0_31 := Lib.hid (sL0_30.out.below entE_ok hb)
    have sL1_31 := Lib.hid (sL1_30.out.below intE_ok hb)
    have X0_29 := Lib.hid (X0_28.out.below hb)
    have X1_27 := Lib.hid (X1_26.out.below hb)
    have X2_25 := Lib.hid (X2_24.out.below hb)
    have gB0_24 := Lib.hid (gB0_23.out.below hb)
    have gB1_24 := Lib.hid (gB1_23.out.below hb)
    have gB2_24 := Lib.hid (gB2_23.out.below hb)
    have mL0_5 := Lib.hid (mL0_4.out.below entE_ok hb)
    have mL1_4 := Lib.hid (mL1_3.out.below intE_ok hb)
    have hB0_1 := Lib.hid (hB0_0.out.below hb)
    have hB1_1 := Lib.hid (hB1_0.out.below hb)
    have hB2_1 := Lib.hid (hB2_0.out.below hb)
    have hL0_1 := Lib.hid (hL0_0.out.below entE_ok hb)
    have hL1_1 := Lib.hid (hL1_0.out.below intE_ok hb)
    clear HB_34 A0_34 A1_34 A2_34 sB0_30 sB1_30 sB2_30 sL0_30 sL1_30 X0_28 X1_26 X2_24 gB0_23 gB1_23 gB2_23 mL0_4 mL1_3 hB0_0 hB1_0 hB2_0 hL0_0 hL1_0 hb
    obtain ⟨c_hB10, c_hB11, _⟩ := hB1_1.out
    obtain ⟨c_sB10, c_sB11, _⟩ := sB1_31.out
    obtain ⟨c_hB20, c_hB21, _⟩ := hB2_1.out
    obtain ⟨c_sB20, c_sB21, _⟩ := sB2_31.out
    go_wp2_with fail
    refine (eqTranslator _ _ nx sc _ (Ints.read hL1_1.out) (Ints.read sL1_31.out)).mono ?_
    rintro e w32 ⟨rfl, hb⟩
    clear c_hB10 c_hB11 c_sB10 c_sB11 c_hB20 c_hB21 c_sB20 c_sB21
    have zw32 : w31.heap.size ≤ w32.heap.size := hb.size
    have HB_36 := Lib.hid (HB_35.out.trans (hb.mono HB_35.out.size))
    have A0_36 := Lib.hid (A0_35.out.below hb)
    have A1_36 := Lib.hid (A1_35.out.below hb)
    have A2_36 := Lib.hid (A2_35.out.below hb)
    have sB0_32 := Lib.hid (sB0_31.out.below hb)
    have sB1_32 := Lib.hid (sB1_31.out.below hb)
    have sB2_32 := Lib.hid (sB2_31.out.below hb)
    have sL0_32 := Lib.hid (sL0_31.out.below entE_ok hb)
    have sL1_32 := Lib.hid (sL1_31.out.below intE_ok hb)
    have X0_30 := Lib.hid (X0_29.out.below hb)
    have X1_28 := Lib.hid (X1_27.out.below hb)
    have X2_26 := Lib.hid (X2_25.out.below hb)
    have gB0_25 := Lib.hid (gB0_24.out.below hb)
    have gB1_25 := Lib.hid (gB1_24.out.below hb)
    have gB2_25 := Lib.hid (gB2_24.out.below hb)
    have mL0_6 := Lib.hid (mL0_5.out.below entE_ok hb)
    have mL1_5 := Lib.hid (mL1_4.out.below intE_ok hb)
    have hB0_2 := Lib.hid (hB0_1.out.below hb)
    have hB1_2 := Lib.hid (hB1_1.out.below hb)
    have hB2_2 := Lib.hid (hB2_1.out.below hb)
    have hL0_2 := Lib.hid (hL0_1.out.below entE_ok hb)
    have hL1_2 := Lib.hid (hL1_1.out.below intE_ok hb)
    clear HB_35 A0_35 A1_35 A2_35 sB0_31 sB1_31 sB2_31 sL0_31 sL1_31 X0_29 X1_27 X2_25 gB0_24 gB1_24 gB2_24 mL0_5 mL1_4 hB0_1 hB1_1 hB2_1 hL0_1 hL1_1 hb
    obtain ⟨c_hB20, c_hB21, _⟩ := hB2_2.out
    obtain ⟨c_sB20, c_sB21, _⟩ := sB2_32.out
    go_wp2_with fail
    refine (eqEdit en et _).mono ?_
    rintro e w33 ⟨rfl, hb⟩
    clear c_hB20 c_hB21 c_sB20 c_sB21
    have zw33 : w32.heap.size ≤ w33.heap.size := hb.size
    have HB_37 := Lib.hid (HB_36.out.trans (hb.mono HB_36.out.size))
    have A0_37 := Lib.hid (A0_36.out.below hb)
    have A1_37 := Lib.hid (A1_36.out.below hb)
    have A2_37 := Lib.hid (A2_36.out.below hb)
    have sB0_33 := Lib.hid (sB0_32.out.below hb)
    have sB1_33 := Lib.hid (sB1_32.out.below hb)
    have sB2_33 := Lib.hid (sB2_32.out.below hb)
    have sL0_33 := Lib.hid (sL0_32.out.below entE_ok hb)
    have sL1_33 := Lib.hid (sL1_32.out.below intE_ok hb)
    have X0_31 := Lib.hid (X0_30.out.below hb)
    have X1_29 := Lib.hid (X1_28.out.below hb)
    have X2_27 := Lib.hid (X2_26.out.below hb)
    have gB0_26 := Lib.hid (gB0_25.out.below hb)
    have gB1_26 := Lib.hid (gB1_25.out.below hb)
    have gB2_26 := Lib.hid (gB2_25.out.below hb)
    have mL0_7 := Lib.hid (mL0_6.out.below entE_ok hb)
    have mL1_6 := Lib.hid (mL1_5.out.below intE_ok hb)
    have hB0_3 := Lib.hid (hB0_2.out.below hb)
    have hB1_3 := Lib.hid (hB1_2.out.below hb)
    have hB2_3 := Lib.hid (hB2_2.out.below hb)
    have hL0_3 := Lib.hid (hL0_2.out.below entE_ok hb)
    have hL1_3 := Lib.hid (hL1_2.out.below intE_ok hb)
    clear HB_36 A0_36 A1_36 A2_36 sB0_32 sB1_32 sB2_32 sL0_32 sL1_32 X0_30 X1_28 X2_26 gB0_25 gB1_25 gB2_25 mL0_6 mL1_5 hB0_2 hB1_2 hB2_2 hL0_2 hL1_2 hb
    obtain ⟨c_gB0, _⟩ := gB0_26.out
    go_wp2_with fail
    refine (heldDictionary _ bk (1 : Int) _ (Ents.read mL0_7.out) HG0.out.1 HG0.out.2.2.1).mono ?_
    rintro e w34 ⟨rfl, hb⟩
    clear c_gB0
    have zw34 : w33.heap.size ≤ w34.heap.size := hb.size
    have HB_38 := Lib.hid (HB_37.out.trans (hb.mono HB_37.out.size))
    have A0_38 := Lib.hid (A0_37.out.below hb)
    have A1_38 := Lib.hid (A1_37.out.below hb)
    have A2_38 := Lib.hid (A2_37.out.below hb)
    have sB0_34 := Lib.hid (sB0_33.out.below hb)
    have sB1_34 := Lib.hid (sB1_33.out.below hb)
    have sB2_34 := Lib.hid (sB2_33.out.below hb)
    have sL0_34 := Lib.hid (sL0_33.out.below entE_ok hb)
    have sL1_34 := Lib.hid (sL1_33.out.below intE_ok hb)
    have X0_32 := Lib.hid (X0_31.out.below hb)
    have X1_30 := Lib.hid (X1_29.out.below hb)
    have X2_28 := Lib.hid (X2_27.out.below hb)
    have gB0_27 := Lib.hid (gB0_26.out.below hb)
    have gB1_27 := Lib.hid (gB1_26.out.below hb)
    have gB2_27 := Lib.hid (gB2_26.out.below hb)
    have mL0_8 := Lib.hid (mL0_7.out.below entE_ok hb)
    have mL1_7 := Lib.hid (mL1_6.out.below intE_ok hb)
    have hB0_4 := Lib.hid (hB0_3.out.below hb)
    have hB1_4 := Lib.hid (hB1_3.out.below hb)
    have hB2_4 := Lib.hid (hB2_3.out.below hb)
    have hL0_4 := Lib.hid (hL0_3.out.below entE_ok hb)
    have hL1_4 := Lib.hid (hL1_3.out.below intE_ok hb)
    clear HB_37 A0_37 A1_37 A2_37 sB0_33 sB1_33 sB2_33 sL0_33 sL1_33 X0_31 X1_29 X2_27 gB0_26 gB1_26 gB2_26 mL0_7 mL1_6 hB0_3 hB1_3 hB2_3 hL0_3 hL1_3 hb
    have hkn0 : ¬ (P.kAt (1 : Int) bk) < 0 := by have := HG0.out.2.2.2; omega
    obtain ⟨c_gB10, c_gB11, _⟩ := gB1_27.out
    go_wp2_with fail
    refine (heldTranslator _ nx.length sc (P.kAt (1 : Int) bk) _ (Ints.read mL1_7.out) HG1.out.1 HG1.out.2.1 (by have := HLEN.out; omega)).mono ?_
    rintro e w35 ⟨rfl, hb⟩
    clear c_gB10 c_gB11
    have zw35 : w34.heap.size ≤ w35.heap.size := hb.size
    have HB_39 := Lib.hid (HB_38.out.trans (hb.mono HB_38.out.size))
    have A0_39 := Lib.hid (A0_38.out.below hb)
    have A1_39 := Lib.hid (A1_38.out.below hb)
    have A2_39 := Lib.hid (A2_38.out.below hb)
    have sB0_35 := Lib.hid (sB0_34.out.below hb)
    have sB1_35 := Lib.hid (sB1_34.out.below hb)
    have sB2_35 := Lib.hid (sB2_34.out.below hb)
    have sL0_35 := Lib.hid (sL0_34.out.below entE_ok hb)
    have sL1_35 := Lib.hid (sL1_34.out.below intE_ok hb)
    have X0_33 := Lib.hid (X0_32.out.below hb)
    have X1_31 := Lib.hid (X1_30.out.below hb)
    have X2_29 := Lib.hid (X2_28.out.below hb)
    have gB0_28 := Lib.hid (gB0_27.out.below hb)
    have gB1_28 := Lib.hid (gB1_27.out.below hb)
    have gB2_28 := Lib.hid (gB2_27.out.below hb)
    have mL0_9 := Lib.hid (mL0_8.out.below entE_ok hb)
    have mL1_8 := Lib.hid (mL1_7.out.below intE_ok hb)
    have hB0_5 := Lib.hid (hB0_4.out.below hb)
    have hB1_5 := Lib.hid (hB1_4.out.below hb)
    have hB2_5 := Lib.hid (hB2_4.out.below hb)
    have hL0_5 := Lib.hid (hL0_4.out.below entE_ok hb)
    have hL1_5 := Lib.hid (hL1_4.out.below intE_ok hb)
    clear HB_38 A0_38 A1_38 A2_38 sB0_34 sB1_34 sB2_34 sL0_34 sL1_34 X0_32 X1_30 X2_28 gB0_27 gB1_27 gB2_27 mL0_8 mL1_7 hB0_4 hB1_4 hB2_4 hL0_4 hL1_4 hb
    have hkn1 : ¬ ((P.kAt (1 : Int) bk) + (nx.length : Int)) < 0 := by have := HG1.out.2.2.2; omega
    go_wp2
    go_ret
    exact ⟨rfl, HB_39.out⟩
end Go.Proofs.YtpkahblajgaemaaGreatDoor
