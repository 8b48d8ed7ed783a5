/- Walks: a dictionary that may be none, an outline of a dictionary, as the cursor draws them. -/
import Derived.Deep.DeepCutAuto
import Derived.Test.YtonhkglilnplbaaGreatDoorCurE3
import Derived.Test.YtonhkglilnplbaaGreatDoorEItems
set_option linter.all false
namespace Go.Proofs.YtonhkglilnplbaaGreatDoor
open Go Go.RowKit
set_option maxHeartbeats 4000000
set_option maxRecDepth 100000
/-- a dictionary that is read as long as some blocks stand -/
def ReadE (lo hi : Nat) (v : World) (u : Value) (l : P.Dic) : Prop := hi ≤ v.heap.size ∧ ∀ v', Kept (Bet lo hi) v v' → EntR v' u l
theorem ReadE.now {lo hi : Nat} {v : World} {u : Value} {l : P.Dic} (h : ReadE lo hi v u l) : EntR v u l := h.2 v ⟨Nat.le_refl _, fun _ _ => rfl⟩
theorem ReadE.chg {lo hi : Nat} {v v' : World} {u : Value} {l : P.Dic} {X : Blk} (h : ReadE lo hi v u l) (hc : Chg X v v') (hX : ∀ b, lo ≤ b → b < hi → ¬ X b) : ReadE lo hi v' u l :=
  ⟨Nat.le_trans h.1 hc.size, fun v2 hk => h.2 v2 ⟨Nat.le_trans hc.size hk.1, fun b hb => (hk.2 b hb).trans (hc.block b (Nat.lt_of_lt_of_le hb.2 h.1) (hX b hb.1 hb.2))⟩⟩
theorem ReadE.wide {lo hi lo' hi' : Nat} {v : World} {u : Value} {l : P.Dic} (h : ReadE lo hi v u l) (h1 : lo' ≤ lo) (h2 : hi ≤ hi') (h3 : hi' ≤ v.heap.size) : ReadE lo' hi' v u l :=
  ⟨h3, fun v2 hk => h.2 v2 (hk.mono fun _ hb => ⟨Nat.le_trans h1 hb.1, Nat.lt_of_lt_of_le hb.2 h2⟩)⟩
theorem Ents.readE {lo hi : Nat} {v : World} {F : Blk} {u : Value} {l : P.Dic} (h : Ents v F u l) (hF : ∀ b, F b → lo ≤ b ∧ b < hi) (hh : hi ≤ v.heap.size) : ReadE lo hi v u l :=
  ⟨hh, fun _ hk => Ents.read (h.keep entE_ok (hk.mono hF))⟩
theorem readE_nil (lo : Nat) (v : World) : ReadE lo v.heap.size v (.slice none 0 0) [] := Ents.readE (F := fun _ => False) (RowO.nil v _) (fun _ h => h.elim) (Nat.le_refl _)
theorem EOk.snoc {v : World} {F G : Blk} {its : List EIt} {e : EIt} (h : EOk v F its) (he : Ints v e.2 e.1.1 e.1.2.1) (hG : ∀ b, e.2 b → G b) (hd : ∀ b, F b → G b → False) : EOk v (fun b => F b ∨ G b) (its ++ [e]) := by
  refine ⟨?_, ?_, ?_⟩
  · intro t ht
    rcases List.mem_append.1 ht with ht | ht
    · exact h.ent t ht
    · simp only [List.mem_cons, List.not_mem_nil, or_false] at ht
      subst ht; exact he
  · intro t ht b hb
    rcases List.mem_append.1 ht with ht | ht
    · exact .inl (h.sub t ht b hb)
    · simp only [List.mem_cons, List.not_mem_nil, or_false] at ht
      subst ht; exact .inr (hG b hb)
  · rw [List.pairwise_append]
    refine ⟨h.apart, by simp, fun a ha b hb x h1 h2 => ?_⟩
    simp only [List.mem_cons, List.not_mem_nil, or_false] at hb
    subst hb
    exact hd x (h.sub a ha x h1) (hG x h2)
/-- how the draw stands behind the switch -/
def ARun (B C K D : Nat) (w v : World) : Prop := ∃ (l : P.Dic) (u : Value), Drawn l ∧ ReadE (w.heap.size + 1) v.heap.size v u l ∧ (∃ a c, u = .slice a l.length c) ∧ DBx D u v ∧ DBx w.heap.size (.slice none 0 0) v ∧ CurPost B C K w v
def AnyDrawn (B C K : Nat) (w : World) (e : Ending) (w' : World) : Prop := ∃ (l : P.Dic) (u : Value), e = .returned (.agg #[u]) ∧ Drawn l ∧ ReadE w.heap.size w'.heap.size w' u l ∧ CurPost B C K w w'
theorem cur_anyDictionary (B C N : Nat) (w : World) (hN : N < 2 ^ 32) (h : IsCur B C N w) :
    Calls Tryz.prog 128 #[.pointer (some ⟨C, 0, none⟩)] w (AnyDrawn B C (N + 2000) w) := by
  obtain ⟨i0, hi, hz0', hz1, hz2'⟩ := info_parts info_ent
  have hlt := h.lt
  have HC := Lib.hid ((CurPost.refl h (Nat.le_refl N)).alloc (.cells #[.slice none 0 0] 32))
  have HD0 := Lib.hid (DBx.new (.slice none 0 0) 32 w)
  clear h
  go_enter Tryz.func128, Tryz.ntmps128
  go_wp2_with fail
  refine (cur_dictionary B C N _ (by omega) HC.out.1).mono ?_
  rintro e w1 ⟨l, u, rfl, hdr, hl9, hpos, hen, hwh, hc⟩
  have hz1' : w.heap.size < w1.heap.size := by have := hc.2.size; simp at this; omega
  have hba := (Below.refl w1.heap.size w1).alloc (Nat.le_refl _) (.cells #[u] 32)
  have HC1 := Lib.hid ((HC.out.trans hc).below hba)
  have HD1 := Lib.hid ((HD0.out.stand hc.2 (by omega)).below hba)
  have HDX := Lib.hid (DBx.new u 32 w1)
  have HEN := Lib.hid (show Ents (w1.alloc (.cells #[u] 32)) (Bet (w.heap.size + 1) w1.heap.size) u l from (by simpa using hen : Ents w1 (Bet (w.heap.size + 1) w1.heap.size) u l).below entE_ok hba)
  have HWH := Lib.hid (show WholeE (w.heap.size + 1) (w1.alloc (.cells #[u] 32)) u l.length from (by simpa using hwh : WholeE (w.heap.size + 1) w1 u l.length).stand (X := fun _ => False) (Below.chg hba _) (fun _ _ _ h => h))
  have HDR := Lib.hid hdr; have HPS := Lib.hid hpos
  obtain ⟨ua, uc, rfl, _, _⟩ := id hen
  clear hc hen hwh hba HC HD0 hdr hpos
  go_wp2_with fail
  refine (cur_pick B C (N + 1000) 20 _ (by omega) (by decide) HC1.out.1).mono ?_
  rintro e w2 ⟨x, hx, rfl, hc⟩
  have HC2 := Lib.hid (HC1.out.trans hc)
  have HD2 := Lib.hid (HD1.out.stand hc.2 (by omega))
  have HDX2 := Lib.hid (HDX.out.stand hc.2 (by omega))
  have HEN2 := Lib.hid (HEN.out.stand entE_ok hc.2 (fun b hb e => by have h1 := hb.1; omega))
  have HWH2 := Lib.hid (HWH.out.stand hc.2 (fun k h1 h2 e => by omega))
  clear hc hx HC1 HD1 HDX HEN HWH
  go_upto_block 0 with fail
  go_cut [] (fun wx => ARun B C (N + 1200) w1.heap.size w wx)
  case first =>
    have hw12 : w1.heap.size < w2.heap.size := HDX2.out.2.2
    by_cases h0 : x = 0
    · subst h0
      -- one entry more
      have HS := Lib.hid (show w2.drew.cell? ⟨w1.heap.size, 0, none⟩ = some (.slice ua l.length uc) ∧ w2.drew.frozen? ⟨w1.heap.size, 0, none⟩ = false from ⟨HDX2.out.1, HDX2.out.2.1⟩)
      go_upto_region 4 with fail
      refine Left.region [7] (S := fun v => v.cell? ⟨w1.heap.size, 0, none⟩ = some (.slice ua l.length uc) ∧ v.frozen? ⟨w1.heap.size, 0, none⟩ = false) (by kernel_rfl) HS.out (fun hS0 => ?_)
      have hdd : Below w2.heap.size w2 w2.drew := (Below.refl _ _).drew
      have HC3 := Lib.hid (HC2.out.below hdd); have HD3 := Lib.hid (HD2.out.below hdd); have HDX3 := Lib.hid (HDX2.out.below hdd)
      have HEN3 := Lib.hid (HEN2.out.below entE_ok hdd); have HWH3 := Lib.hid (HWH2.out.stand (X := fun _ => False) (Below.chg hdd _) (fun _ _ _ h => h))
      have hsd : w2.drew.heap.size = w2.heap.size := rfl
      have HSD := Lib.hid hsd
      clear HC2 HD2 HDX2 HEN2 HWH2 HS hdd hsd
      generalize w2.drew = v0 at *
      refine Left.take (i := 0) (v := .pointer (some ⟨w1.heap.size, 0, none⟩)) rfl (by kernel_rfl) (by kernel_rfl) (by kernel_rfl) (by kernel_rfl) (fun _ _ _ h => h) (Or.inl ⟨by rfl, fun z hz => ?_⟩) hS0 ?_
      · obtain ⟨z1, z2⟩ := hz
        go_simp
      try simp only [List.getElem_toArray, List.getElem_cons_zero, Act.put, List.setIfInBounds_toArray, List.set_cons_zero, List.set_cons_succ]
      refine Left.take (i := 1) (v := .slice ua l.length uc) rfl (by kernel_rfl) (by kernel_rfl) (by kernel_rfl) (by kernel_rfl) (fun _ _ _ h => h) (Or.inl ⟨by rfl, fun z hz => ?_⟩) hS0 ?_
      · obtain ⟨z1, z2⟩ := hz
        go_simp
      try simp only [List.getElem_toArray, List.getElem_cons_zero, List.getElem_cons_succ, Act.put, List.setIfInBounds_toArray, List.set_cons_zero, List.set_cons_succ]
      refine Left.take (i := 2) (v := .pointer (some ⟨C, 0, none⟩)) rfl (by kernel_rfl) (by kernel_rfl) (by kernel_rfl) (by kernel_rfl) (fun _ _ _ h => h) (Or.inl ⟨by rfl, fun z hz => ?_⟩) hS0 ?_
      · obtain ⟨z1, z2⟩ := hz
        go_simp
      try simp only [List.getElem_toArray, List.getElem_cons_zero, List.getElem_cons_succ, Act.put, List.setIfInBounds_toArray, List.set_cons_zero, List.set_cons_succ]
      refine Left.ready (rs := [3]) (by kernel_rfl) (by simp) ?_
      refine Nexts.cons rfl (fun K hK => ?_) Nexts.nil
      go_simp
      refine (cur_entry B C (N + 1002) _ (by omega) HC3.out.1).mono ?_
      rintro e v1 ⟨o, t, y, rfl, ho, ht, hI, hc⟩
      have hz0 : w1.heap.size < v0.heap.size := HDX3.out.2.2
      have hz1v : v0.heap.size ≤ v1.heap.size := hc.2.size
      have HEN4 := Lib.hid (HEN3.out.stand entE_ok hc.2 (fun b hb e => by have h1 := hb.1; omega))
      have HWH4 := Lib.hid (HWH3.out.stand hc.2 (fun k h1 h2 e => by omega))
      have HDX4 := Lib.hid (HDX3.out.stand hc.2 (by omega)); have HD4 := Lib.hid (HD3.out.stand hc.2 (by omega))
      have HC4 := Lib.hid (HC3.out.trans hc); have HI := Lib.hid hI
      refine on_held hK (by decide) ⟨HDX4.out.1, HDX4.out.2.1⟩ (fun hS1 => ?_)
      clear hK K hc hI HEN3 HWH3 HDX3 HD3 HC3
      obtain ⟨yd, yc, rfl, _, _⟩ := id HI.out
      try simp only [List.getElem_toArray, List.getElem_cons_zero, List.getElem_cons_succ, Act.put, List.setIfInBounds_toArray, List.set_cons_zero, List.set_cons_succ]
      refine Left.ready (rs := [4]) (by kernel_rfl) (by simp) ?_
      refine Nexts.cons rfl (fun K hK => ?_) Nexts.nil
      go_simp
      have hbl : Below v1.heap.size v1 (v1.alloc (.cells #[.slice yd o.length yc, .string (S t)] 36)) := (Below.refl _ _).alloc (Nat.le_refl _) _
      have HBL := Lib.hid hbl
      refine on_held hK (by decide) ⟨(HDX4.out.below hbl).1, (HDX4.out.below hbl).2.1⟩ (fun hS2 => ?_)
      clear hK K hbl
      try simp only [List.getElem_toArray, List.getElem_cons_zero, List.getElem_cons_succ, Act.put, List.setIfInBounds_toArray, List.set_cons_zero, List.set_cons_succ]
      refine Left.ready (rs := [5]) (by kernel_rfl) (by simp) ?_
      refine Nexts.cons rfl (fun K hK => ?_) Nexts.nil
      obtain ⟨B1, xs, hB1, hown0⟩ := HWH4.out
      obtain ⟨g, gc, its, hug, hBg, hg, hFg, hits, rfl, hok⟩ := Ents.whole_items HEN4.out hown0 HPS.out
      injection hug with hug1 _ hug3
      subst hug1 hug3
      have HOW := Lib.hid (hown0.alloc (.cells #[.slice yd o.length yc, .string (S t)] 36))
      refine step_append_lies _ rfl _ _ 30 rfl B1 36 i0 (.agg #[.slice none 0 0, .string ⟨#[]⟩]) 2 40 Tryz.underlying30 hi hz0' hz1 hz2' rfl (by decide) (.slice (some ⟨g, 0, none⟩) l.length uc) l.length (ecells its) rfl HOW.out ⟨v1.heap.size, 0, none⟩ 1 1 [.slice yd o.length yc, .string (S t)] rfl rfl ?_ ?_ (Nat.zero_lt_one) ?_ ?_ ?_ _ rfl ?_
      · intro i y hy
        rcases i with _ | _ | i
        · injection hy with hy; subst hy; rw [add0]; go_simp
        · injection hy with hy; subst hy; rw [add0]; go_simp
        · cases hy
      · intro y hy
        simp only [List.mem_cons, List.not_mem_nil, or_false] at hy
        rcases hy with rfl | rfl <;> rfl
      · unfold maxLen; omega
      · omega
      · have h1 := HBL.out.size; omega
      intro g' cap' v3 hown hgr hat hlt3
      have hgr2 : Chg (fun b => (some g : Option Nat) = some b) (v1.alloc (.cells #[.slice yd o.length yc, .string (S t)] 36)) v3 := Chg.grown hgr
      have hat2 : g' = g ∨ g' = v1.heap.size + 1 := by rcases hat with h | h; (left; cases h; rfl); (right; simpa using h)
      have HDX5 := Lib.hid ((HDX4.out.below HBL.out).stand hgr2 (by rintro ⟨⟩; have := hFg.2; omega)); have HD5 := Lib.hid ((HD4.out.below HBL.out).stand hgr2 (by rintro ⟨⟩; have := hFg.1; omega))
      have HC5 := Lib.hid ((HC4.out.below HBL.out).new hgr2 (by rintro b ⟨⟩; have := hFg.1; omega) hlt.2 (by omega))
      have hk13 : ∀ b, b < v1.heap.size → b ≠ g → v3.heap[b]? = v1.heap[b]? := fun b hb hne => (hgr2.block b (by simp; omega) (by rintro ⟨⟩; exact hne rfl)).trans (HBL.out.block b hb)
      have hsz3 : v1.heap.size < v3.heap.size := by have h1 := hgr.size; simp at h1; omega
      have hok3 : EOk v3 (fun b => Bet (w.heap.size + 1) w1.heap.size b ∧ b ≠ g) its := hok.keep ⟨by omega, fun b hb => hk13 b (by have := hb.1.2; omega) hb.2⟩
      have hI3 : Ints v3 (fun b => Bet (v0.heap.size + 1) v1.heap.size b) (.slice yd o.length yc) o := HI.out.keep intE_ok ⟨by omega, fun b hb => hk13 b hb.2 (by have := hFg.2; have := hb.1; omega)⟩
      have hok4 := hok3.snoc (e := ((.slice yd o.length yc, (o, t)), fun b => Bet (v0.heap.size + 1) v1.heap.size b)) (G := fun b => Bet (v0.heap.size + 1) v1.heap.size b) hI3 (fun b hb => hb) (fun b h1 h2 => by have := h1.1.2; have := h2.1; omega)
      have hlenI : (its ++ [(((.slice yd o.length yc, (o, t)), fun b => Bet (v0.heap.size + 1) v1.heap.size b) : EIt)]).length = l.length + 1 := by rw [List.length_append, ← hits, List.length_map]; rfl
      have hents := ents_of_items (c := cap') (by rw [hlenI, ecells_append]; exact hown) hok4 (by rintro b (hb | hb); (have := hb.1.2; omega); (have := hb.2; omega)) (by rintro (hb | hb); (rcases hat2 with h | h; exact hb.2 h; have := hb.1.2; omega); (have h1 := hb.1; have h2 := hb.2; have := hFg.2; omega)) (by rw [hlenI]; omega)
      rw [hlenI, List.map_append, hits] at hents
      have HFIN := Lib.hid (hents.stand (X := fun b => b = w1.heap.size) entE_ok ((Chg.refl (fun b => b = w1.heap.size) v3).setCell (p := ⟨w1.heap.size, 0, none⟩) rfl (.slice (some ⟨g', 0, none⟩) (l.length + 1) cap')) (by rintro b ((hb | hb) | rfl) e; (have := hb.1.2; omega); (have := hb.1; omega); (have := hFg.2; omega)))
      have HG' := Lib.hid (show g' < v3.heap.size ∧ w.heap.size + 1 ≤ g' from ⟨hlt3, by have := hFg.1; omega⟩)
      refine on_held hK (by decide) ⟨HDX5.out.1, HDX5.out.2.1⟩ (fun hS3 => ?_)
      clear hK K hown hgr hat hlt3 hents hok4 hI3 hok3 hk13 hgr2 hat2 hok hits hown0 HOW
      try simp only [List.getElem_toArray, List.getElem_cons_zero, List.getElem_cons_succ, Act.put, List.setIfInBounds_toArray, List.set_cons_zero, List.set_cons_succ]
      refine Left.take (i := 6) (v := .pointer (some ⟨w1.heap.size, 0, none⟩)) rfl (by kernel_rfl) (by kernel_rfl) (by kernel_rfl) (by kernel_rfl) (fun _ _ _ h => h) (Or.inl ⟨by rfl, fun z hz => ?_⟩) hS3 ?_
      · obtain ⟨z1, z2⟩ := hz
        go_simp
      try simp only [List.getElem_toArray, List.getElem_cons_zero, List.getElem_cons_succ, Act.put, List.setIfInBounds_toArray, List.set_cons_zero, List.set_cons_succ]
      refine Left.ready (rs := [7]) (by kernel_rfl) (by simp) ?_
      refine Nexts.cons rfl (fun K hK => ?_) Nexts.nil
      obtain ⟨k0, k1, _⟩ := HDX5.out
      go_simp
      refine on_last hK (by decide) ?_
      clear hK K
      try simp only [List.getElem_toArray, List.getElem_cons_zero, List.getElem_cons_succ, Act.put, List.setIfInBounds_toArray, List.set_cons_zero, List.set_cons_succ]
      refine Left.done (by kernel_rfl) ?_ _
      clear hS0 hS1 hS2 hS3
      go_wp2_with fail
      go_meet
      refine ⟨l ++ [(o, t)], _, ⟨?_, ?_, ?_⟩, ?_, ⟨_, cap', by rw [List.length_append]; rfl⟩, HDX5.out.put, HD5.out.stand ((Chg.refl (fun b => b = w1.heap.size) v3).setCell (p := ⟨w1.heap.size, 0, none⟩) rfl _) (by omega), (HC5.out.set (g := w1.heap.size) (i := 0) (by omega) hlt.2 (by omega) _).mono (by omega)⟩
      · rw [List.length_append]; simp; omega
      · intro e he
        rcases List.mem_append.1 he with he | he
        · exact HDR.out.outs e he
        · simp at he; subst he; show o.length ≤ 8; omega
      · intro e he
        rcases List.mem_append.1 he with he | he
        · exact HDR.out.texts e he
        · simp at he; subst he; exact ht
      · have h := HFIN.out
        refine Ents.readE h (fun b hb => ?_) (Nat.le_refl _)
        have hs : (v3.setCell ⟨w1.heap.size, 0, none⟩ (.slice (some ⟨g', 0, none⟩) (l.length + 1) cap')).heap.size = v3.heap.size := by simp [World.setCell]
        rw [hs]
        rcases hb with (hb | hb) | rfl
        · have := hb.1; exact ⟨this.1, by have := this.2; omega⟩
        · exact ⟨by have := hb.1; omega, by have := hb.2; omega⟩
        · exact ⟨HG'.out.2, HG'.out.1⟩
    have h0' : ¬ (x : Int) = 0 := by omega
    by_cases h1 : x = 1
    · subst h1
      have HS := Lib.hid (show w2.drew.cell? ⟨w1.heap.size, 0, none⟩ = some (.slice ua l.length uc) ∧ w2.drew.frozen? ⟨w1.heap.size, 0, none⟩ = false from ⟨HDX2.out.1, HDX2.out.2.1⟩)
      obtain ⟨B1, xs, hB1, hown0⟩ := HWH2.out
      obtain ⟨g, gc, its, hug, hBg, hg, hFg, hits, _, _⟩ := Ents.whole_items HEN2.out hown0 HPS.out
      injection hug with hug1 _ hug3
      subst hug1 hug3
      clear hown0 hits
      go_upto_region 6 with fail
      refine Left.region [7] (S := fun v => v.cell? ⟨w1.heap.size, 0, none⟩ = some (.slice (some ⟨g, 0, none⟩) l.length uc) ∧ v.frozen? ⟨w1.heap.size, 0, none⟩ = false) (by kernel_rfl) HS.out (fun hS0 => ?_)
      have hdd : Below w2.heap.size w2 w2.drew := (Below.refl _ _).drew
      have HC3 := Lib.hid (HC2.out.below hdd); have HD3 := Lib.hid (HD2.out.below hdd); have HDX3 := Lib.hid (HDX2.out.below hdd)
      have HEN3 := Lib.hid (HEN2.out.below entE_ok hdd)
      have hg0 : g < w2.drew.heap.size := hg
      clear HC2 HD2 HDX2 HEN2 HWH2 HS hdd hg
      generalize w2.drew = v0 at *
      refine Left.take (i := 0) (v := .pointer (some ⟨w1.heap.size, 0, none⟩)) rfl (by kernel_rfl) (by kernel_rfl) (by kernel_rfl) (by kernel_rfl) (fun _ _ _ h => h) (Or.inl ⟨by rfl, fun z hz => ?_⟩) hS0 ?_
      · obtain ⟨z1, z2⟩ := hz
        go_simp
      try simp only [List.getElem_toArray, List.getElem_cons_zero, Act.put, List.setIfInBounds_toArray, List.set_cons_zero, List.set_cons_succ]
      refine Left.take (i := 1) (v := .slice (some ⟨g, 0, none⟩) l.length uc) rfl (by kernel_rfl) (by kernel_rfl) (by kernel_rfl) (by kernel_rfl) (fun _ _ _ h => h) (Or.inl ⟨by rfl, fun z hz => ?_⟩) hS0 ?_
      · obtain ⟨z1, z2⟩ := hz
        go_simp
      try simp only [List.getElem_toArray, List.getElem_cons_zero, List.getElem_cons_succ, Act.put, List.setIfInBounds_toArray, List.set_cons_zero, List.set_cons_succ]
      refine Left.take (i := 2) (v := .pointer (some ⟨C, 0, none⟩)) rfl (by kernel_rfl) (by kernel_rfl) (by kernel_rfl) (by kernel_rfl) (fun _ _ _ h => h) (Or.inl ⟨by rfl, fun z hz => ?_⟩) hS0 ?_
      · obtain ⟨z1, z2⟩ := hz
        go_simp
      try simp only [List.getElem_toArray, List.getElem_cons_zero, List.getElem_cons_succ, Act.put, List.setIfInBounds_toArray, List.set_cons_zero, List.set_cons_succ]
      refine Left.ready (rs := [3]) (by kernel_rfl) (by simp) ?_
      refine Nexts.cons rfl (fun K hK => ?_) Nexts.nil
      go_simp
      have hbl : Below v0.heap.size v0 (v0.alloc (.cells #[.string (S []), .string (S [123]), .string (S [97, 32, 32, 98])] 9)) := (Below.refl _ _).alloc (Nat.le_refl _) _
      have HL := Lib.hid (lit_strs [[], [123], [97, 32, 32, 98]] v0 9)
      have HC4 := Lib.hid (HC3.out.below hbl); have HD4 := Lib.hid (HD3.out.below hbl); have HDX4 := Lib.hid (HDX3.out.below hbl); have HEN4 := Lib.hid (HEN3.out.below entE_ok hbl)
      refine on_held hK (by decide) ⟨(HDX3.out.below hbl).1, (HDX3.out.below hbl).2.1⟩ (fun hS1 => ?_)
      clear hK K hbl
      try simp only [List.getElem_toArray, List.getElem_cons_zero, List.getElem_cons_succ, Act.put, List.setIfInBounds_toArray, List.set_cons_zero, List.set_cons_succ]
      refine Left.ready (rs := [4]) (by kernel_rfl) (by simp) ?_
      refine Nexts.cons rfl (fun K hK => ?_) Nexts.nil
      have hlt0 : C < v0.heap.size := by have := HDX3.out.2.2; omega
      clear HC3 HD3 HDX3 HEN3
      go_simp
      refine (cur_of B C (N + 1002) v0.heap.size 3 [[], [123], [97, 32, 32, 98]] _ (by omega) (by decide) (by decide) (by simp) (by omega) HL.out HC4.out.1).mono ?_
      rintro e v1 ⟨s, hs, rfl, hc⟩
      have HSL := Lib.hid (show s.length ≤ 300 from Nat.le_trans ((by decide : ∀ s ∈ ([[], [123], [97, 32, 32, 98]] : List Str), s.length ≤ 4) s hs) (by decide))
      have HC5 := Lib.hid (HC4.out.trans hc); have HD5 := Lib.hid (HD4.out.stand hc.2 (by omega)); have HDX5 := Lib.hid (HDX4.out.stand hc.2 (by omega)); have HEN5 := Lib.hid (HEN4.out.stand entE_ok hc.2 (fun b hb e => by have h1 := hb.1; omega))
      have hz1v : v0.heap.size < v1.heap.size := by have h := hc.2.size; simp at h; omega
      refine on_held hK (by decide) ⟨HDX5.out.1, HDX5.out.2.1⟩ (fun hS2 => ?_)
      clear hK K hc hs HC4 HD4 HDX4 HEN4 HL
      obtain ⟨adq, cpq, heq, hl30, hcp, hrow⟩ := HEN5.out
      injection heq with heq1 _ heq3
      obtain ⟨gq, oq, Gq, Cq, hq1, hr⟩ := hrow.resolve_left (by intro e; have := HPS.out; rw [e] at this; exact absurd this (Nat.lt_irrefl _))
      rw [hq1] at heq1
      injection heq1 with heq1
      injection heq1 with hq2 hq3
      subst hq2 hq3
      obtain ⟨xx, hCC, hII⟩ := hr.el 0 HPS.out
      have hcl0 := hr.cel 0 HPS.out
      have e1 := hcl0 1 (by rw [hCC]; simp)
      simp only [hCC, List.getElem_cons_zero, List.getElem_cons_succ, Nat.zero_mul, Nat.add_zero, Nat.zero_add] at e1
      have hset : Chg (fun b => b = g) v1 (v1.setCell ⟨g, 1, none⟩ (.string (S s))) := (Chg.refl (fun b => b = g) v1).setCell (p := ⟨g, 1, none⟩) rfl _
      have hput := hr.put_cell entE_ok 0 HPS.out 1 (by decide) (.string (S s)) ((l[0]'HPS.out).1, s) (by rw [hCC]; exact ⟨xx, rfl, hII.stand intE_ok (by simpa using hset) (fun b hb e => (hr.sub 0 HPS.out b hb).2 e)⟩)
      simp only [Nat.zero_mul, Nat.zero_add, Nat.add_zero] at hput
      have HPUT := Lib.hid (show Ents (v1.setCell ⟨g, 1, none⟩ (.string (S s))) (Bet (w.heap.size + 1) w1.heap.size) (.slice (some ⟨g, 0, none⟩) (l.set 0 ((l[0]'HPS.out).1, s)).length uc) (l.set 0 ((l[0]'HPS.out).1, s)) from ⟨_, uc, rfl, by rw [List.length_set]; omega, ⟨(fun h => by cases h), by rw [List.length_set]; omega⟩, .inr ⟨g, 0, _, _, rfl, hput⟩⟩)
      have HD6 := Lib.hid (HD5.out.stand hset (by have := hFg.1; omega)); have HDX6 := Lib.hid (HDX5.out.stand hset (by have := hFg.2; omega))
      have HC6 := Lib.hid (HC5.out.set (g := g) (i := 1) (by have := hFg.1; omega) hlt.2 (by omega) (.string (S s)))
      have f1 := e1.2; have c1 := e1.1
      have p1 : (0 : Int) < (l.length : Int) := by have := HPS.out; omega
      have p2 : 0 < l.length := HPS.out
      clear hput hset hII hcl0 hr hrow e1 hCC
      try simp only [List.getElem_toArray, List.getElem_cons_zero, List.getElem_cons_succ, Act.put, List.setIfInBounds_toArray, List.set_cons_zero, List.set_cons_succ]
      refine Left.take (i := 5) (v := .pointer (some ⟨g, 0, none⟩)) rfl (by kernel_rfl) (by kernel_rfl) (by kernel_rfl) (by kernel_rfl) (fun _ _ _ h => h) (Or.inl ⟨by rfl, fun z hz => ?_⟩) hS2 ?_
      · obtain ⟨z1, z2⟩ := hz
        go_simp
      try simp only [List.getElem_toArray, List.getElem_cons_zero, List.getElem_cons_succ, Act.put, List.setIfInBounds_toArray, List.set_cons_zero, List.set_cons_succ]
      refine Left.take (i := 6) (v := .pointer (some ⟨g, 1, none⟩)) rfl (by kernel_rfl) (by kernel_rfl) (by kernel_rfl) (by kernel_rfl) (fun _ _ _ h => h) (Or.inl ⟨by rfl, fun z hz => ?_⟩) hS2 ?_
      · obtain ⟨z1, z2⟩ := hz
        go_simp
      try simp only [List.getElem_toArray, List.getElem_cons_zero, List.getElem_cons_succ, Act.put, List.setIfInBounds_toArray, List.set_cons_zero, List.set_cons_succ]
      refine Left.ready (rs := [7]) (by kernel_rfl) (by simp) ?_
      refine Nexts.cons rfl (fun K hK => ?_) Nexts.nil
      go_simp
      refine on_last hK (by decide) ?_
      clear hK K
      try simp only [List.getElem_toArray, List.getElem_cons_zero, List.getElem_cons_succ, Act.put, List.setIfInBounds_toArray, List.set_cons_zero, List.set_cons_succ]
      refine Left.done (by kernel_rfl) ?_ _
      clear hS0 hS1 hS2
      go_wp2_with fail
      go_meet
      have hl' : (l.set 0 ((l[0]'HPS.out).1, s)).length = l.length := by rw [List.length_set]
      refine ⟨l.set 0 ((l[0]'HPS.out).1, s), _, ⟨?_, ?_, ?_⟩, ?_, ⟨some ⟨g, 0, none⟩, uc, rfl⟩, by rw [hl']; exact HDX6.out, HD6.out, HC6.out.mono (by omega)⟩
      · rw [hl']; omega
      · intro e he
        rcases List.mem_or_eq_of_mem_set he with he | rfl
        · exact HDR.out.outs e he
        · exact HDR.out.outs (l[0]'HPS.out) (List.getElem_mem HPS.out)
      · intro e he
        rcases List.mem_or_eq_of_mem_set he with he | rfl
        · exact HDR.out.texts e he
        · exact HSL.out
      · refine Ents.readE HPUT.out (fun b hb => ⟨hb.1, ?_⟩) (Nat.le_refl _)
        have := hb.2; have := HDX6.out.2.2; omega
    have h1' : ¬ (x : Int) = 1 := by omega
    by_cases h2 : x = 2
    · subst h2
      have HS := Lib.hid (show w2.drew.cell? ⟨w1.heap.size, 0, none⟩ = some (.slice ua l.length uc) ∧ w2.drew.frozen? ⟨w1.heap.size, 0, none⟩ = false from ⟨HDX2.out.1, HDX2.out.2.1⟩)
      obtain ⟨B1, xs, hB1, hown0⟩ := HWH2.out
      obtain ⟨g, gc, its, hug, hBg, hg, hFg, hits, _, _⟩ := Ents.whole_items HEN2.out hown0 HPS.out
      injection hug with hug1 _ hug3
      subst hug1 hug3
      clear hown0 hits
      go_upto_region 8 with fail
      refine Left.region [6] (S := fun v => v.cell? ⟨w1.heap.size, 0, none⟩ = some (.slice (some ⟨g, 0, none⟩) l.length uc) ∧ v.frozen? ⟨w1.heap.size, 0, none⟩ = false) (by kernel_rfl) HS.out (fun hS0 => ?_)
      have hdd : Below w2.heap.size w2 w2.drew := (Below.refl _ _).drew
      have HC3 := Lib.hid (HC2.out.below hdd); have HD3 := Lib.hid (HD2.out.below hdd); have HDX3 := Lib.hid (HDX2.out.below hdd)
      have HEN3 := Lib.hid (HEN2.out.below entE_ok hdd)
      have hg0 : g < w2.drew.heap.size := hg
      clear HC2 HD2 HDX2 HEN2 HWH2 HS hdd hg
      generalize w2.drew = v0 at *
      refine Left.take (i := 0) (v := .pointer (some ⟨w1.heap.size, 0, none⟩)) rfl (by kernel_rfl) (by kernel_rfl) (by kernel_rfl) (by kernel_rfl) (fun _ _ _ h => h) (Or.inl ⟨by rfl, fun z hz => ?_⟩) hS0 ?_
      · obtain ⟨z1, z2⟩ := hz
        go_simp
      try simp only [List.getElem_toArray, List.getElem_cons_zero, Act.put, List.setIfInBounds_toArray, List.set_cons_zero, List.set_cons_succ]
      refine Left.take (i := 1) (v := .slice (some ⟨g, 0, none⟩) l.length uc) rfl (by kernel_rfl) (by kernel_rfl) (by kernel_rfl) (by kernel_rfl) (fun _ _ _ h => h) (Or.inl ⟨by rfl, fun z hz => ?_⟩) hS0 ?_
      · obtain ⟨z1, z2⟩ := hz
        go_simp
      try simp only [List.getElem_toArray, List.getElem_cons_zero, List.getElem_cons_succ, Act.put, List.setIfInBounds_toArray, List.set_cons_zero, List.set_cons_succ]
      refine Left.take (i := 2) (v := .pointer (some ⟨C, 0, none⟩)) rfl (by kernel_rfl) (by kernel_rfl) (by kernel_rfl) (by kernel_rfl) (fun _ _ _ h => h) (Or.inl ⟨by rfl, fun z hz => ?_⟩) hS0 ?_
      · obtain ⟨z1, z2⟩ := hz
        go_simp
      try simp only [List.getElem_toArray, List.getElem_cons_zero, List.getElem_cons_succ, Act.put, List.setIfInBounds_toArray, List.set_cons_zero, List.set_cons_succ]
      refine Left.ready (rs := [3]) (by kernel_rfl) (by simp) ?_
      refine Nexts.cons rfl (fun K hK => ?_) Nexts.nil
      go_simp
      refine (cur_anyOutline B C (N + 1002) _ (by omega) HC3.out.1).mono ?_
      rintro e v1 ⟨o, y, rfl, ho, hown, hc⟩
      have hI : Ints v1 (Bet v0.heap.size v1.heap.size) y o := ints_of_owns hown (by omega)
      have HI := Lib.hid hI
      have HC5 := Lib.hid (HC3.out.trans hc); have HD5 := Lib.hid (HD3.out.stand hc.2 (by omega)); have HDX5 := Lib.hid (HDX3.out.stand hc.2 (by omega)); have HEN5 := Lib.hid (HEN3.out.stand entE_ok hc.2 (fun b hb e => by have h1 := hb.1; omega))
      have hz0v : w1.heap.size < v0.heap.size := HDX3.out.2.2
      have hz1v : v0.heap.size ≤ v1.heap.size := hc.2.size
      refine on_held hK (by decide) ⟨HDX5.out.1, HDX5.out.2.1⟩ (fun hS2 => ?_)
      clear hK K hc hown HC3 HD3 HDX3 HEN3
      obtain ⟨yd, yc, rfl, _, _⟩ := hI
      obtain ⟨adq, cpq, heq, hl30, hcp, hrow⟩ := HEN5.out
      injection heq with heq1 _ heq3
      obtain ⟨gq, oq, Gq, Cq, hq1, hr⟩ := hrow.resolve_left (by intro e; have := HPS.out; rw [e] at this; exact absurd this (Nat.lt_irrefl _))
      rw [hq1] at heq1
      injection heq1 with heq1
      injection heq1 with hq2 hq3
      subst hq2 hq3
      obtain ⟨xx, hCC, hII⟩ := hr.el 0 HPS.out
      have hcl0 := hr.cel 0 HPS.out
      have e0 := hcl0 0 (by rw [hCC]; simp)
      simp only [hCC, List.getElem_cons_zero, Nat.zero_mul, Nat.add_zero] at e0
      have hsz : (v1.setCell ⟨g, 0, none⟩ (.slice yd o.length yc)).heap.size = v1.heap.size := by simp [World.setCell]
      have hset : Chg (fun b => b = g) v1 (v1.setCell ⟨g, 0, none⟩ (.slice yd o.length yc)) := (Chg.refl (fun b => b = g) v1).setCell (p := ⟨g, 0, none⟩) rfl _
      have hput := hr.put entE_ok (v' := v1.setCell ⟨g, 0, none⟩ (.slice yd o.length yc)) 0 HPS.out (fun b => Bet (w.heap.size + 1) w1.heap.size b ∨ Bet v0.heap.size v1.heap.size b) (Bet v0.heap.size v1.heap.size) [.slice yd o.length yc, .string (S (l[0]'HPS.out).2)] (o, (l[0]'HPS.out).2)
        (fun b hb => .inl hb) (fun b hb => by rw [hsz]; rcases hb with hb | hb; (have := hb.2; omega); exact hb.2) (by rw [hsz]; exact Nat.le_refl _)
        (by
          have e := hcl0.set_at 0 (by rw [hCC]; simp) (.slice yd o.length yc)
          rw [hCC] at e
          simpa using e) rfl ⟨_, rfl, HI.out.stand intE_ok hset (fun b hb e => by have := hb.1; have := hFg.2; omega)⟩ (fun b hb => ⟨.inr hb, by have := hb.1; have := hFg.2; omega⟩)
        (fun i hi hij b h1 h2 => by have h3 := (hr.sub i hi b h1).1.2; have h4 := h2.1; omega)
        (fun i hi hij => (hr.cel i hi).set_other (by have := hr.wid i hi; omega) _)
        (fun i hi hij b hb => Below.heap_setCell _ _ _ _ (hr.sub i hi b hb).2)
      have HPUT := Lib.hid (show Ents (v1.setCell ⟨g, 0, none⟩ (.slice yd o.length yc)) (fun b => Bet (w.heap.size + 1) w1.heap.size b ∨ Bet v0.heap.size v1.heap.size b) (.slice (some ⟨g, 0, none⟩) (l.set 0 (o, (l[0]'HPS.out).2)).length uc) (l.set 0 (o, (l[0]'HPS.out).2)) from ⟨_, uc, rfl, by rw [List.length_set]; omega, ⟨(fun h => by cases h), by rw [List.length_set]; omega⟩, .inr ⟨g, 0, _, _, rfl, hput⟩⟩)
      have HD6 := Lib.hid (HD5.out.stand hset (by have := hFg.1; omega)); have HDX6 := Lib.hid (HDX5.out.stand hset (by have := hFg.2; omega))
      have HC6 := Lib.hid (HC5.out.set (g := g) (i := 0) (by have := hFg.1; omega) hlt.2 (by omega) (.slice yd o.length yc))
      have f1 := e0.2; have c1 := e0.1
      have p1 : (0 : Int) < (l.length : Int) := by have := HPS.out; omega
      have p2 : 0 < l.length := HPS.out
      have HSZ := Lib.hid hsz
      clear hput hset hII hcl0 hr hrow e0 hCC hsz
      try simp only [List.getElem_toArray, List.getElem_cons_zero, List.getElem_cons_succ, Act.put, List.setIfInBounds_toArray, List.set_cons_zero, List.set_cons_succ]
      refine Left.take (i := 4) (v := .pointer (some ⟨g, 0, none⟩)) rfl (by kernel_rfl) (by kernel_rfl) (by kernel_rfl) (by kernel_rfl) (fun _ _ _ h => h) (Or.inl ⟨by rfl, fun z hz => ?_⟩) hS2 ?_
      · obtain ⟨z1, z2⟩ := hz
        go_simp
      try simp only [List.getElem_toArray, List.getElem_cons_zero, List.getElem_cons_succ, Act.put, List.setIfInBounds_toArray, List.set_cons_zero, List.set_cons_succ]
      refine Left.take (i := 5) (v := .pointer (some ⟨g, 0, none⟩)) rfl (by kernel_rfl) (by kernel_rfl) (by kernel_rfl) (by kernel_rfl) (fun _ _ _ h => h) (Or.inl ⟨by rfl, fun z hz => ?_⟩) hS2 ?_
      · obtain ⟨z1, z2⟩ := hz
        go_simp
      try simp only [List.getElem_toArray, List.getElem_cons_zero, List.getElem_cons_succ, Act.put, List.setIfInBounds_toArray, List.set_cons_zero, List.set_cons_succ]
      refine Left.ready (rs := [6]) (by kernel_rfl) (by simp) ?_
      refine Nexts.cons rfl (fun K hK => ?_) Nexts.nil
      go_simp
      refine on_last hK (by decide) ?_
      clear hK K
      try simp only [List.getElem_toArray, List.getElem_cons_zero, List.getElem_cons_succ, Act.put, List.setIfInBounds_toArray, List.set_cons_zero, List.set_cons_succ]
      refine Left.done (by kernel_rfl) ?_ _
      clear hS0 hS2
      go_wp2_with fail
      go_meet
      have hl' : (l.set 0 (o, (l[0]'HPS.out).2)).length = l.length := by rw [List.length_set]
      refine ⟨l.set 0 (o, (l[0]'HPS.out).2), _, ⟨?_, ?_, ?_⟩, ?_, ⟨some ⟨g, 0, none⟩, uc, rfl⟩, by rw [hl']; exact HDX6.out, HD6.out, HC6.out.mono (by omega)⟩
      · rw [hl']; omega
      · intro e he
        rcases List.mem_or_eq_of_mem_set he with he | rfl
        · exact HDR.out.outs e he
        · exact ho
      · intro e he
        rcases List.mem_or_eq_of_mem_set he with he | rfl
        · exact HDR.out.texts e he
        · exact HDR.out.texts (l[0]'HPS.out) (List.getElem_mem HPS.out)
      · refine Ents.readE HPUT.out (fun b hb => ?_) (Nat.le_refl _)
        rw [HSZ.out]
        rcases hb with hb | hb
        · exact ⟨hb.1, by have := hb.2; omega⟩
        · exact ⟨by have := hb.1; omega, hb.2⟩
    have h2' : ¬ (x : Int) = 2 := by omega
    by_cases h3 : x = 3
    · subst h3
      obtain ⟨k0, k1, _⟩ := HDX2.out
      go_wp2
      go_meet
      have hsz : (w2.setCell ⟨w1.heap.size, 0, none⟩ (.slice none 0 0)).heap.size = w2.heap.size := by simp [World.setCell]
      refine ⟨[], .slice none 0 0, ⟨by simp, (fun e h => by cases h), (fun e h => by cases h)⟩, ?_, ⟨none, 0, rfl⟩, HDX2.out.put, HD2.out.stand ((Chg.refl (fun b => b = w1.heap.size) w2).setCell (p := ⟨w1.heap.size, 0, none⟩) rfl _) (by omega), (HC2.out.set (g := w1.heap.size) (i := 0) (by omega) hlt.2 (by omega) _).mono (by omega)⟩
      exact readE_nil _ _
    have h3' : ¬ (x : Int) = 3 := by omega
    go_wp2
    go_meet
    exact ⟨l, _, HDR.out, Ents.readE HEN2.out (fun b hb => ⟨hb.1, by have := hb.2; omega⟩) (Nat.le_refl _), ⟨_, _, rfl⟩, HDX2.out, HD2.out, HC2.out.mono (by omega)⟩
  case rest =>
    clear HEN2 HWH2 HDX2 HD2 HC2 HDR
    obtain ⟨l', u', hdr', hre, ⟨ua', uc', rfl⟩, hdx, hd0, hcp⟩ := hcut
    have HDR' := Lib.hid hdr'; have HRE := Lib.hid hre; have HDX' := Lib.hid hdx; have HD' := Lib.hid hd0; have HCP := Lib.hid hcp
    clear hdr' hre hdx hd0 hcp
    go_wp2_with fail
    refine (cur_one B C (N + 1200) 40 _ (by omega) (by decide) HCP.out.1).mono ?_
    rintro e w3 ⟨b, rfl, hc⟩
    have HCP3 := Lib.hid (HCP.out.trans hc)
    have hzD : w1.heap.size < w3.heap.size := by have h1 := HDX'.out.2.2; have h2 := hc.2.size; omega
    have HDX3 := Lib.hid (HDX'.out.stand hc.2 (by omega)); have HD3 := Lib.hid (HD'.out.stand hc.2 (by omega))
    have HRE3 := Lib.hid (HRE.out.chg hc.2 (fun b h1 h2 e => by omega))
    have hzc : wc.heap.size ≤ w3.heap.size := hc.2.size
    clear hc HDX' HD' HRE HCP
    cases b
    · obtain ⟨k0, k1, _⟩ := HDX3.out
      obtain ⟨r0, r1, _⟩ := HD3.out
      go_wp2
      have HSET := Lib.hid ((Chg.refl (fun b => b = w.heap.size) w3).setCell (p := ⟨w.heap.size, 0, none⟩) rfl (.slice ua' l'.length uc'))
      refine bodyPost_ret (v := .agg #[(.slice ua' l'.length uc')]) (by simp [results, Tryz.results128, go_sem, r0]) rfl ⟨l', _, rfl, HDR'.out, ?_, (HCP3.out.set (g := w.heap.size) (i := 0) (Nat.le_refl _) hlt.2 (by omega) _).mono (by omega)⟩
      exact ((HRE3.out).chg HSET.out (fun b h1 h2 e => by omega)).wide (by omega) (by simp [World.setCell]; omega) (Nat.le_refl _)
    · have hst : Chg (fun b => b = w1.heap.size) w3 (w3.setCell ⟨w1.heap.size, 0, none⟩ (.slice none 0 0)) := (Chg.refl (fun b => b = w1.heap.size) w3).setCell (p := ⟨w1.heap.size, 0, none⟩) rfl _
      have hss : (w3.setCell ⟨w1.heap.size, 0, none⟩ (.slice none 0 0)).heap.size = w3.heap.size := by simp [World.setCell]
      have HDX4 := Lib.hid (show DBx w1.heap.size (.slice none 0 0) (w3.setCell ⟨w1.heap.size, 0, none⟩ (.slice none 0 0)) from HDX3.out.put)
      have HD4 := Lib.hid (HD3.out.stand hst (by omega)); have HCP4 := Lib.hid (HCP3.out.set (g := w1.heap.size) (i := 0) (by omega) hlt.2 (by omega) (.slice none 0 0))
      have HAC := Lib.hid (show Acc 36 2 entE (w1.heap.size + 1) (w3.setCell ⟨w1.heap.size, 0, none⟩ (.slice none 0 0)) (.slice none 0 0) [] [] from Acc.nil (World.ownsRow_nil _ _ _ _) (by rw [hss]; omega))
      obtain ⟨k0, k1, _⟩ := HDX3.out
      clear hst hss HRE3 HDR'
      go_upto_block 1 with fail
      generalize w3.setCell ⟨w1.heap.size, 0, none⟩ (.slice none 0 0) = w4 at *
      clear k0 k1 HDX3 HD3 HCP3
      go_wp2_with fail
      go_loopw [4] (fun n wr => ∃ (k : Nat) (l : P.Dic) (u : Value) (xs : List Value), 1 ≤ k ∧ l.length + 1 = k ∧ k ≤ 42 ∧ (∀ e ∈ l, e.1.length ≤ 8 ∧ e.2.length ≤ 300) ∧ n = .int .i64 k ∧ Acc 36 2 entE (w1.heap.size + 1) wr u l xs ∧ DBx w1.heap.size u wr ∧ DBx w.heap.size (.slice none 0 0) wr ∧ CurPost B C (N + 1300 + 2 * k) w wr) (fun n _ => 50 - (intOf n).toNat)
      case atStart => exact ⟨1, [], _, [], by omega, rfl, by omega, (fun e h => by cases h), rfl, HAC.out, HDX4.out, HD4.out, HCP4.out.mono (by omega)⟩
      case round =>
        clear HAC HDX4 HD4 HCP4
        obtain ⟨k, l2, u2, xs, hk1, hlk, hk2, hall, rfl, hacc, hdx, hd0, hcp⟩ := hrel
        have HACC := Lib.hid hacc; have HDX5 := Lib.hid hdx; have HD5 := Lib.hid hd0; have HCP5 := Lib.hid hcp; have HALL := Lib.hid hall
        obtain ⟨u2a, u2c, rfl⟩ := hacc.form
        have hla : l2.length + 1 ≤ k := by omega
        have hlb : k ≤ l2.length + 1 := by omega
        clear hacc hdx hd0 hcp hall hlk
        go_wp2_with fail
        refine (cur_pick B C (N + 1300 + 2 * k) 2 _ (by omega) (by decide) HCP5.out.1).mono ?_
        rintro e w5 ⟨z, hz, rfl, hc⟩
        have hz2 : z < 2 := by omega
        have hwz : w1.heap.size < wr.heap.size := HDX5.out.2.2
        have hwz5 : wr.heap.size ≤ w5.heap.size := hc.2.size
        have HDX6 := Lib.hid (HDX5.out.stand hc.2 (by omega)); have HD6 := Lib.hid (HD5.out.stand hc.2 (by omega)); have HCP6 := Lib.hid (HCP5.out.trans hc)
        have HACC6 := Lib.hid (HACC.out.stand entE_ok hc.2 (fun b e => by omega))
        clear hc hz HDX5 HD5 HCP5 HACC
        by_cases hle : k ≤ 40 + z
        · have hle' : (k : Int) ≤ 40 + (z : Int) := by omega
          have hb1 : Below w5.heap.size w5 (w5.alloc (.cells #[.int .i64 k] 3)) := (Below.refl _ _).alloc (Nat.le_refl _) _
          have hb2 : Below (w5.alloc (.cells #[.int .i64 k] 3)).heap.size (w5.alloc (.cells #[.int .i64 k] 3)) ((w5.alloc (.cells #[.int .i64 k] 3)).alloc (.cells #[.slice (some ⟨w5.heap.size, 0, none⟩) 1 1, .string (S [97])] 36)) := (Below.refl _ _).alloc (Nat.le_refl _) _
          have HB1 := Lib.hid hb1; have HB2 := Lib.hid hb2
          have HII := Lib.hid (show Ints (w5.alloc (.cells #[.int .i64 k] 3)) (Bet w5.heap.size (w5.alloc (.cells #[.int .i64 k] 3)).heap.size) (.slice (some ⟨w5.heap.size, 0, none⟩) 1 1) [(k : Int)] from ints_of_owns (l := [(k : Int)]) (by have h := World.ownsRow_lit (base := w5.heap.size) (e := 3) (size := 1) w5 #[.int .i64 k] 1 (Nat.le_refl _) (by decide) (by simp); simpa [ints] using h) (by simp))
          have HACC7 := Lib.hid ((HACC6.out.keep entE_ok hb1).keep entE_ok hb2)
          have HOW7 := Lib.hid HACC7.out.owns
          have HWZ := Lib.hid (show w1.heap.size + 1 ≤ w5.heap.size by omega)
          obtain ⟨k0, k1, _⟩ := HDX6.out
          have hllen : l2.length ≤ 41 := by omega
          clear hb1 hb2
          go_wp2_with (at_builtin; refine wpList_append_lies _ rfl _ _ 30 rfl (w1.heap.size + 1) 36 i0 (.agg #[.slice none 0 0, .string ⟨#[]⟩]) 2 40 Tryz.underlying30 hi hz0' hz1 hz2' rfl (by decide) (.slice u2a l2.length u2c) l2.length xs rfl HOW7.out ⟨w5.heap.size + 1, 0, none⟩ 1 1 [.slice (some ⟨w5.heap.size, 0, none⟩) 1 1, .string (S [97])] rfl rfl ?_ ?_ (Nat.zero_lt_one) ?_ ?_ ?_ _ rfl ?_)
          all_goals first | exact ⟨rfl, rfl⟩ | (intro y hy; simp only [List.mem_cons, List.not_mem_nil, or_false] at hy; rcases hy with rfl | rfl <;> rfl) | (unfold maxLen; omega) | omega | (have h1 := HWZ.out; simp; omega) | (intro i y hy; rcases i with _ | _ | i; (injection hy with hy; subst hy; rw [add0]; go_simp); (injection hy with hy; subst hy; rw [add0]; go_simp); cases hy) | skip
          intro g' cap' v3 hown hgr hat hlt3
          have hgrc := Chg.grown hgr
          have hown7 := World.ownsRow.lt HACC7.out.owns
          have HAC8 := Lib.hid (HACC6.out.snoc (a := ([(k : Int)], [97])) (cs := [.slice (some ⟨w5.heap.size, 0, none⟩) 1 1, .string (S [97])]) (v1 := w5.alloc (.cells #[.int .i64 k] 3)) (v3 := v3) (g := g') (cap := cap') (F := Bet w5.heap.size (w5.alloc (.cells #[.int .i64 k] 3)).heap.size) entE_ok HB1.out (fun b hb => hb) (entE_mk HII.out) rfl HB2.out hown hgr (by simpa using hat))
          have HDX8 := Lib.hid (((HDX6.out.below HB1.out).below HB2.out).stand hgrc (fun e => by have := hown7 _ e; omega)); have HD8 := Lib.hid (((HD6.out.below HB1.out).below HB2.out).stand hgrc (fun e => by have := hown7 _ e; omega))
          have HCP8 := Lib.hid (((HCP6.out.below HB1.out).below HB2.out).new hgrc (fun b e => by have := hown7 _ e; omega) hlt.2 (by omega))
          obtain ⟨k0', k1', _⟩ := HDX8.out
          have hst : Chg (fun b => b = w1.heap.size) v3 (v3.setCell ⟨w1.heap.size, 0, none⟩ (.slice (some ⟨g', 0, none⟩) (l2.length + 1) cap')) := (Chg.refl (fun b => b = w1.heap.size) v3).setCell (p := ⟨w1.heap.size, 0, none⟩) rfl _
          have HAC9 := Lib.hid (HAC8.out.stand entE_ok hst (fun b e => by omega))
          have HD9 := Lib.hid (HD8.out.stand hst (by omega)); have HDX9 := Lib.hid (show DBx w1.heap.size (.slice (some ⟨g', 0, none⟩) (l2.length + 1) cap') (v3.setCell ⟨w1.heap.size, 0, none⟩ (.slice (some ⟨g', 0, none⟩) (l2.length + 1) cap')) from HDX8.out.put)
          have HCP9 := Lib.hid (HCP8.out.set (g := w1.heap.size) (i := 0) (by omega) hlt.2 (by omega) (.slice (some ⟨g', 0, none⟩) (l2.length + 1) cap'))
          clear hown hgr hat hlt3 hgrc hown7 hst HAC8 HD8 HDX8 HCP8 k0 k1
          go_wp2
          go_roundw
          case rel => exact ⟨k + 1, l2 ++ [([(k : Int)], [97])], _, _, by omega, by rw [List.length_append]; simp; omega, by omega, (fun e he => by rcases List.mem_append.1 he with he | he; exact HALL.out e he; simp at he; subst he; exact ⟨by simp, by simp⟩), by go_num, HAC9.out, HDX9.out, HD9.out, HCP9.out.mono (by omega)⟩
          case measure => simp [intOf]; omega
        · have hle' : ¬ (k : Int) ≤ 40 + (z : Int) := by omega
          obtain ⟨k0, k1, _⟩ := HDX6.out
          obtain ⟨r0, r1, _⟩ := HD6.out
          have HROW := Lib.hid (HACC6.out.row (by omega))
          go_wp2
          have HSET := Lib.hid ((Chg.refl (fun b => b = w.heap.size) w5).setCell (p := ⟨w.heap.size, 0, none⟩) rfl (.slice u2a l2.length u2c))
          refine bodyPost_ret (v := .agg #[(.slice u2a l2.length u2c)]) (by simp [results, Tryz.results128, go_sem, r0]) rfl ⟨l2, _, rfl, ⟨by omega, fun e he => (HALL.out e he).1, fun e he => (HALL.out e he).2⟩, ?_, (HCP6.out.set (g := w.heap.size) (i := 0) (Nat.le_refl _) hlt.2 (by omega) _).mono (by omega)⟩
          exact ((Ents.readE (lo := w1.heap.size + 1) (hi := w5.heap.size) HROW.out (fun b hb => hb) (Nat.le_refl _)).chg HSET.out (fun b h1 h2 e => by omega)).wide (by omega) (by simp [World.setCell]) (Nat.le_refl _)
end Go.Proofs.YtonhkglilnplbaaGreatDoor
