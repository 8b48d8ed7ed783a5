/- Walks: the library's stable sort, on any row of entries. -/
import Derived.Deep.DeepCutAuto
import Derived.Test.YtonhkglilnplbaaGreatDoorSortF11
namespace Go.Proofs.YtonhkglilnplbaaGreatDoor
/-- the whole runs of t items below c are in order -/
def RunD (t c : Nat) (l : List It) : Prop := ∀ i, i * t + t ≤ c → SortedOn (i * t) (i * t + t) l
/-- the runs of t items from c on are in order -/
def RunR (t c n : Nat) (l : List It) : Prop := ∀ i, c ≤ i * t → SortedOn (i * t) (min (i * t + t) n) l
theorem SortedOn.mono {a b a' b' : Nat} {l : List It} (h : SortedOn a b l) (ha : a ≤ a') (hb : b' ≤ b) : SortedOn a' b' l :=
  fun i j x y h1 h2 h3 => h i j x y (by omega) h2 (by omega)
theorem RunD.zero {t : Nat} (ht : 0 < t) (l : List It) : RunD t 0 l := fun i h => absurd h (by omega)
theorem RunD.end {t c n q : Nat} {l : List It} (hq : c = q * t) (hd : RunD t c l) (hs : SortedOn c n l) : RunR t 0 n l := by
  intro i _
  by_cases h : i * t + t ≤ c
  · exact (hd i h).mono (Nat.le_refl _) (Nat.min_le_left _ _)
  · have hqi : q ≤ i := by
      refine Nat.le_of_not_lt fun hlt => h ?_
      have := Nat.mul_le_mul_right t (show i + 1 ≤ q from hlt)
      rw [Nat.add_mul, Nat.one_mul] at this
      omega
    have := Nat.mul_le_mul_right t hqi
    exact hs.mono (by omega) (Nat.min_le_right _ _)
theorem RunD.next {t c q : Nat} {l m : List It} (hq : c = q * t) (hd : RunD t c l) (hp : PermOn c (c + t) l m) (hs : SortedOn c (c + t) m) : RunD t (c + t) m := by
  intro i hi
  by_cases h : i * t + t ≤ c
  · exact (hd i h).same hp (.inl h)
  · have hqi : q ≤ i := by
      refine Nat.le_of_not_lt fun hlt => h ?_
      have := Nat.mul_le_mul_right t (show i + 1 ≤ q from hlt)
      rw [Nat.add_mul, Nat.one_mul] at this
      omega
    have h1 := Nat.mul_le_mul_right t hqi
    exact hs.mono (by omega) (by omega)
theorem RunD.past {t c n : Nat} {l m : List It} (hd : RunD t c l) (hp : PermOn c n l m) : RunD t c m := fun i hi => (hd i hi).same hp (.inl hi)
theorem RunR.past {t c d n : Nat} {l m : List It} (hd : RunR t c n l) (hp : PermOn c d l m) (hcd : c ≤ d) : RunR t d n m := fun i hi => (hd i (by omega)).same hp (.inr hi)
theorem mul2 (q s : Nat) : q * (2 * s) = 2 * q * s ∧ q * (2 * s) + s = (2 * q + 1) * s := by
  constructor
  · rw [Nat.mul_comm 2 q, Nat.mul_assoc]
  · rw [Nat.add_mul, Nat.one_mul, Nat.mul_comm 2 q, Nat.mul_assoc]
theorem RunR.two {s c n q : Nat} {l : List It} (h : RunR s c n l) (hq : c = q * (2 * s)) : SortedOn c (min (c + s) n) l ∧ SortedOn (c + s) (min (c + 2 * s) n) l := by
  obtain ⟨e1, e2⟩ := mul2 q s
  constructor
  · have := h (2 * q) (by omega)
    rwa [← e1, ← hq] at this
  · have := h (2 * q + 1) (by omega)
    rwa [← e2, ← hq, show c + s + s = c + 2 * s by omega] at this
open Go Go.RowKit
set_option maxHeartbeats 4000000
set_option maxRecDepth 100000
theorem stable_full (its : List It) (F : Blk) (g o cap : Nat) (w : World) (h : RowI w F g o its) (hl : its.length ≤ 2 ^ 30) :
    Calls Tryz.prog 187 #[.slice (some ⟨g, o, none⟩) its.length cap, .int .i64 its.length, byF] w fun e w' => e = .returned (.tuple #[]) ∧ ∃ its', PermOn 0 its.length its its' ∧ SortedOn 0 its.length its' ∧ RowI w' F g o its' ∧ Chg (fun b => b = g) w w' := by
  have HH := Lib.hid h; clear h
  obtain ⟨n, hn⟩ : ∃ n, its.length = n := ⟨_, rfl⟩
  rw [hn] at hl ⊢
  go_enter Tryz.func187, Tryz.ntmps187
  go_wp2_with fail
  go_loopw [7, 8] (fun i k wr => ∃ (a q : Nat) (m : List It), a ≤ n ∧ a = q * 20 ∧ i = .int .i64 a ∧ k = .int .i64 (a + 20 : Nat) ∧ PermOn 0 n its m ∧ RunD 20 a m ∧ RowI wr F g o m ∧ Chg (fun b => b = g) w wr) (fun _ k _ => n + 20 - (intOf k).toNat)
  case atStart => exact ⟨0, 0, its, Nat.zero_le _, rfl, rfl, rfl, PermOn.refl _ _ _, RunD.zero (by decide) _, HH.out, Chg.refl _ _⟩
  case round =>
    clear HH
    obtain ⟨a, q, m, ha, hq, rfl, rfl, hp, hd, hr, hc⟩ := hrel
    have hlm := hp.len
    rw [hn] at hlm
    have HP := Lib.hid hp; have HD := Lib.hid hd; have HR := Lib.hid hr; have HC := Lib.hid hc; have HQ := Lib.hid hq
    clear hp hd hr hc hq
    by_cases hlt : a + 20 ≤ n
    · have i1 : ((a + 20 : Nat) : Int) ≤ (n : Int) := by omega
      have hI := insertion_full m F g o cap a (a + 20) wr HR.out (by omega) (by omega) (by omega)
      rw [hlm] at hI
      have HIN := Lib.hid hI; clear hI hlm
      go_wp2_with fail
      refine HIN.out.mono ?_
      rintro e w2 ⟨rfl, m2, hp2, hs2, hr2, hc2⟩
      have HP2 := Lib.hid (HP.out.trans (hp2.mono (Nat.zero_le _) hlt))
      have HD2 := Lib.hid (HD.out.next HQ.out hp2 hs2)
      have HR2 := Lib.hid hr2; have HC2 := Lib.hid (HC.out.trans hc2)
      clear hp2 hs2 hr2 hc2
      go_wp2
      go_roundw
      case rel => exact ⟨a + 20, q + 1, m2, hlt, by have := HQ.out; omega, rfl, by go_num, HP2.out, HD2.out, HR2.out, HC2.out⟩
      case measure => simp [intOf]; omega
    · have i1 : ¬ ((a + 20 : Nat) : Int) ≤ (n : Int) := by omega
      have hI := insertion_full m F g o cap a n wr HR.out (by omega) ha (by omega)
      rw [hlm] at hI
      have HIN := Lib.hid hI; clear hI hlm
      go_wp2_with fail
      refine HIN.out.mono ?_
      rintro e w2 ⟨rfl, m2, hp2, hs2, hr2, hc2⟩
      have HP2 := Lib.hid (HP.out.trans (hp2.mono (Nat.zero_le _) (Nat.le_refl _)))
      have HRR := Lib.hid (RunD.end HQ.out (HD.out.past hp2) hs2)
      have HR2 := Lib.hid hr2; have HC2 := Lib.hid (HC.out.trans hc2)
      clear hp2 hs2 hr2 hc2 i1 hlt HP HD HR HC HQ HIN
      go_wp2_with fail
      go_loopw [6] (fun k wr => ∃ (s : Nat) (m : List It), 20 ≤ s ∧ s ≤ 2 ^ 47 ∧ k = .int .i64 s ∧ PermOn 0 n its m ∧ RunR s 0 n m ∧ RowI wr F g o m ∧ Chg (fun b => b = g) w wr) (fun k _ => n - (intOf k).toNat)
      case atStart => exact ⟨20, m2, Nat.le_refl _, by omega, rfl, HP2.out, HRR.out, HR2.out, HC2.out⟩
      case round =>
        clear HP2 HRR HR2 HC2
        obtain ⟨s, m3, hs1, hs2, rfl, hp, hd, hr, hc⟩ := hrel
        have HP := Lib.hid hp; have HD := Lib.hid hd; have HR := Lib.hid hr; have HC := Lib.hid hc
        clear hp hd hr hc
        by_cases hsl : s < n
        · have i1 : (s : Int) < (n : Int) := by omega
          obtain ⟨wo, hwo⟩ : ∃ wo : World, wo = wr := ⟨_, rfl⟩
          subst hwo
          go_wp2_with fail
          go_loopw [7, 8] (fun i k wr => ∃ (c q : Nat) (m : List It), c ≤ n ∧ c = q * (2 * s) ∧ i = .int .i64 c ∧ k = .int .i64 (c + 2 * s : Nat) ∧ PermOn 0 n its m ∧ RunD (2 * s) c m ∧ RunR s c n m ∧ RowI wr F g o m ∧ Chg (fun b => b = g) w wr) (fun _ k _ => n + 2 * s - (intOf k).toNat)
          case atStart => exact ⟨0, 0, m3, Nat.zero_le _, by rw [Nat.zero_mul], rfl, by go_num, HP.out, RunD.zero (by omega) _, HD.out, HR.out, HC.out⟩
          case round =>
            clear HP HD HR HC
            obtain ⟨c, q, m, hc, hq, rfl, rfl, hp, hd, hrr, hr, hcc⟩ := hrel
            have hlm := hp.len
            rw [hn] at hlm
            obtain ⟨t1, t2⟩ := hrr.two hq
            have HP := Lib.hid hp; have HD := Lib.hid hd; have HRR := Lib.hid hrr; have HR := Lib.hid hr; have HC := Lib.hid hcc; have HQ := Lib.hid hq
            have HT1 := Lib.hid t1; have HT2 := Lib.hid t2
            clear hp hd hrr hr hcc hq t1 t2
            have e1 : (c : Int) + (s : Int) = ((c + s : Nat) : Int) := by omega
            have HE1 := Lib.hid e1; clear e1
            by_cases hcl : c + 2 * s ≤ n
            · have i2 : ((c + 2 * s : Nat) : Int) ≤ (n : Int) := by omega
              have hI := symMerge_full m.length m F g o cap c (c + s) (c + 2 * s) wr (by omega) HR.out (by omega) (by omega) (by omega) (by omega) (HT1.out.mono (Nat.le_refl _) (by omega)) (HT2.out.mono (Nat.le_refl _) (by omega))
              rw [hlm] at hI
              have HIN := Lib.hid hI; clear hI hlm
              go_wp2_with fail
              rw [HE1.out]
              refine HIN.out.mono ?_
              rintro e w2 ⟨rfl, m2, hp2, hs2, hr2, hc2⟩
              have HP2 := Lib.hid (HP.out.trans (hp2.mono (Nat.zero_le _) hcl))
              have HD2 := Lib.hid (HD.out.next HQ.out hp2 hs2)
              have HRR2 := Lib.hid (HRR.out.past hp2 (by omega))
              have HR2 := Lib.hid hr2; have HC2 := Lib.hid (HC.out.trans hc2)
              have HQ2 := Lib.hid (show c + 2 * s = (q + 1) * (2 * s) by rw [Nat.add_mul, Nat.one_mul, ← HQ.out])
              clear hp2 hs2 hr2 hc2
              go_wp2
              go_roundw
              case rel => exact ⟨c + 2 * s, q + 1, m2, hcl, HQ2.out, rfl, by go_num, HP2.out, HD2.out, HRR2.out, HR2.out, HC2.out⟩
              case measure => simp [intOf]; omega
            · have i2 : ¬ ((c + 2 * s : Nat) : Int) ≤ (n : Int) := by omega
              by_cases hm : c + s < n
              · have i3 : (c : Int) + (s : Int) < (n : Int) := by omega
                have hI := symMerge_full m.length m F g o cap c (c + s) n wr (by omega) HR.out (by omega) (by omega) hm (by omega) (HT1.out.mono (Nat.le_refl _) (by omega)) (HT2.out.mono (Nat.le_refl _) (by omega))
                rw [hlm] at hI
                have HIN := Lib.hid hI; clear hI hlm
                go_wp2_with fail
                rw [HE1.out]
                refine HIN.out.mono ?_
                rintro e w2 ⟨rfl, m2, hp2, hs2, hr2, hc2⟩
                have HP2 := Lib.hid (HP.out.trans (hp2.mono (Nat.zero_le _) (Nat.le_refl _)))
                have HRR2 := Lib.hid (RunD.end HQ.out (HD.out.past hp2) hs2)
                have HR2 := Lib.hid hr2; have HC2 := Lib.hid (HC.out.trans hc2)
                clear hp2 hs2 hr2 hc2 i2 i3
                go_wp2
                go_roundw
                case rel => exact ⟨2 * s, m2, by omega, by omega, by go_num, HP2.out, HRR2.out, HR2.out, HC2.out⟩
                case measure => simp [intOf]; omega
              · have i3 : ¬ (c : Int) + (s : Int) < (n : Int) := by omega
                have HRR2 := Lib.hid (RunD.end (n := n) HQ.out HD.out (HT1.out.mono (Nat.le_refl _) (by omega)))
                go_wp2
                go_roundw
                case rel => exact ⟨2 * s, m, by omega, by omega, by go_num, HP.out, HRR2.out, HR.out, HC.out⟩
                case measure => simp [intOf]; omega
        · have i1 : ¬ (s : Int) < (n : Int) := by omega
          have HS := Lib.hid (show SortedOn 0 n m3 by have := HD.out 0 (by omega); rw [Nat.zero_mul, Nat.zero_add] at this; exact this.mono (Nat.le_refl _) (by omega))
          go_wp2
          go_end0
          exact ⟨rfl, m3, HP.out, HS.out, HR.out, HC.out⟩
/-- in order, with room for entries of one outline -/
def P.le (a b : P.Ent) : Prop := P.cmp a.1 b.1 ≤ 0
theorem sorted_pair {its : List It} (h : SortedOn 0 its.length its) : (its.map (·.e)).Pairwise P.le := by
  rw [List.pairwise_map, List.pairwise_iff_getElem]
  intro i j hi hj hij
  exact h i j _ _ (Nat.zero_le _) hij hj (List.getElem?_eq_getElem hi) (List.getElem?_eq_getElem hj)
/-- what a sort leaves -/
def SortPost (F : Blk) (u : Value) (l : P.Dic) (w : World) (e : Ending) (w' : World) : Prop :=
  e = .returned (.tuple #[]) ∧ ∃ m : P.Dic, m.Perm l ∧ m.Pairwise P.le ∧ Ents w' F u m ∧ Chg F w w'
theorem sortStable_full (u : Value) (l : P.Dic) (F : Blk) (w : World) (hu : Ents w F u l) :
    Calls Tryz.prog 152 #[u, byF] w (SortPost F u l w) := by
  by_cases hne : l = []
  · subst hne
    refine (sortStable_up u [] w hu.read (by intro i j hj; simp at hj)).mono ?_
    rintro e w2 ⟨rfl, hb⟩
    exact ⟨rfl, [], List.Perm.refl _, List.Pairwise.nil, hu.below entE_ok hb, Below.chg hb F⟩
  · obtain ⟨ad, cap, rfl, hl, hcp, hrow0⟩ := hu
    obtain ⟨g, o, G, C, rfl, hrow⟩ := hrow0.resolve_left hne
    clear hrow0
    obtain ⟨its, rfl, hr⟩ := RowI.of hrow
    have hFg := Lib.hid hrow.own
    rw [List.length_map] at hl hcp ⊢
    have HR := Lib.hid hr; have HCP := Lib.hid hcp
    clear hrow hr hcp
    go_enter Tryz.func152, Tryz.ntmps152
    go_wp2_with fail
    refine (stable_full its F g o cap _ HR.out hl).mono ?_
    rintro e w2 ⟨rfl, m, hp, hs, hr, hc⟩
    have HP := Lib.hid hp; have HS := Lib.hid hs; have HR2 := Lib.hid hr; have HC := Lib.hid hc
    clear hp hs hr hc HR
    go_wp2
    go_end0
    have hlen := HP.out.len
    obtain ⟨G', C', hrow'⟩ := HR2.out.to
    refine ⟨rfl, m.map (·.e), HP.out.perm.map _, sorted_pair (by rw [hlen]; exact HS.out), ⟨_, cap, by rw [List.length_map, hlen], by rw [List.length_map, hlen]; exact hl, ⟨by rintro ⟨⟩, by rw [List.length_map, hlen]; exact HCP.out.2⟩, .inr ⟨g, o, G', C', rfl, hrow'⟩⟩, HC.out.mono fun b _ hb => by subst hb; exact hFg.out⟩
end Go.Proofs.YtonhkglilnplbaaGreatDoor
