/- Walks: a stack of layers, as the cursor draws it. -/
import Derived.Test.YtonhkglilnplbaaGreatDoorCurE6
set_option linter.all false
namespace Go.Proofs.YtonhkglilnplbaaGreatDoor
open Go Go.RowKit
set_option maxHeartbeats 4000000
set_option maxRecDepth 100000
def StackDrawn (B C K : Nat) (w : World) (e : Ending) (w' : World) : Prop := ∃ (l : P.Lays) (d : P.Dic) (u ud : Value), e = .returned (.tuple #[.agg #[u], .agg #[ud]]) ∧ DrawnL l ∧ Drawn d ∧ ReadL w.heap.size w'.heap.size w' u l ∧ ReadE w.heap.size w'.heap.size w' ud d ∧ CurPost B C K w w'
/-- how the draw stands: results' boxes, the stack, the dictionary in block D, the cursor -/
structure SRun (B C K D H : Nat) (w : World) (ud : Value) (d : P.Dic) (u : Value) (its : List LIt) (v : World) : Prop where
  low : w.heap.size + 3 ≤ D ∧ D < H ∧ H ≤ v.heap.size
  own : LOwn (w.heap.size + 3) (D + 1) H v u its
  dic : ReadE (w.heap.size + 3) D v ud d
  r0 : DBx w.heap.size (.slice none 0 0) v
  r1 : DBx (w.heap.size + 1) (.slice none 0 0) v
  st : DBx (w.heap.size + 2) u v
  bx : DBx D ud v
  cur : CurPost B C K w v
theorem SRun.stand {B C K K' D H : Nat} {w v v' : World} {ud u : Value} {d : P.Dic} {its : List LIt} (h : SRun B C K D H w ud d u its v) (hc : CurPost B C K' v v') (hC : C < w.heap.size) : SRun B C K' D H w ud d u its v' := by
  obtain ⟨h1, h2, h3, h4, h5, h6, h7, h8⟩ := h
  have hz := hc.2.size
  exact ⟨by omega, h2.stand hc.2 (fun k h1 h2 e => by omega), h3.chg hc.2 (fun b h1 h2 e => by omega), h4.stand hc.2 (by omega), h5.stand hc.2 (by omega), h6.stand hc.2 (by omega), h7.stand hc.2 (by omega), h8.trans hc⟩
theorem SRun.below {B C K D H : Nat} {w v v' : World} {ud u : Value} {d : P.Dic} {its : List LIt} (h : SRun B C K D H w ud d u its v) (hb : Below v.heap.size v v') : SRun B C K D H w ud d u its v' := by
  obtain ⟨h1, h2, h3, h4, h5, h6, h7, h8⟩ := h
  have hz := hb.size
  have hc : Chg (fun _ => False) v v' := Below.chg hb _
  exact ⟨by omega, h2.stand hc (fun _ _ _ h => h), h3.chg hc (fun _ _ _ h => h), h4.below hb, h5.below hb, h6.below hb, h7.below hb, h8.below hb⟩
theorem SRun.mono {B C K K' D H : Nat} {w v : World} {ud u : Value} {d : P.Dic} {its : List LIt} (h : SRun B C K D H w ud d u its v) (hK : K ≤ K') : SRun B C K' D H w ud d u its v := ⟨h.1, h.2, h.3, h.4, h.5, h.6, h.7, h.8.mono hK⟩
theorem SRun.set {B C K D H X : Nat} {w v : World} {ud u : Value} {d : P.Dic} {its : List LIt} (h : SRun B C K D H w ud d u its v) (hX : H ≤ X) (hC : B ≤ C ∧ C < w.heap.size) (x : Value) : SRun B C K D H w ud d u its (v.setCell ⟨X, 0, none⟩ x) := by
  obtain ⟨h1, h2, h3, h4, h5, h6, h7, h8⟩ := h
  have hs : (v.setCell ⟨X, 0, none⟩ x).heap.size = v.heap.size := by simp [World.setCell]
  have hv : Chg (fun b => b = X) v (v.setCell ⟨X, 0, none⟩ x) := (Chg.refl (fun b => b = X) v).setCell (p := ⟨X, 0, none⟩) rfl _
  exact ⟨by omega, h2.stand hv (fun k _ h2 e => by omega), h3.chg hv (fun b _ h2 e => by omega), h4.stand hv (by omega), h5.stand hv (by omega), h6.stand hv (by omega), h7.stand hv (by omega), h8.set (by omega) hC.2 (by omega) _⟩
theorem SRun.grow {B C K K' D H lo hi g cap : Nat} {w v v2 v3 : World} {ud u x : Value} {d dx : P.Dic} {its : List LIt} {b : Bool} (h : SRun B C K D H w ud d u its v) (hx : ReadE lo hi v x dx) (hd : Drawn dx) (hlo : w.heap.size + 3 ≤ lo) (hs : hi ≤ D ∨ H ≤ lo)
    (hb : Below v.heap.size v v2) (hown : v3.ownsRow (D + 1) 74 2 (.slice (some ⟨g, 0, none⟩) (its.length + 1) cap) (its.length + 1) (lcells its ++ [x, .bool b])) (hgr : v2.grownBy v3 u.ownBlock) (hat : u.ownBlock = some g ∨ g = v2.heap.size) (hg : g < v3.heap.size) (hC : B ≤ C ∧ C < w.heap.size) (hK : K ≤ K') :
    SRun B C K' D (v3.setCell ⟨w.heap.size + 2, 0, none⟩ (.slice (some ⟨g, 0, none⟩) (its.length + 1) cap)).heap.size w ud d (.slice (some ⟨g, 0, none⟩) (its.length + 1) cap) (its ++ [(x, (dx, b))]) (v3.setCell ⟨w.heap.size + 2, 0, none⟩ (.slice (some ⟨g, 0, none⟩) (its.length + 1) cap)) := by
  have hgr2 : Chg (fun b => u.ownBlock = some b) v2 v3 := Chg.grown hgr
  have h2 := h.below hb
  have hz1 : v.heap.size ≤ v2.heap.size := hb.size
  have hz2 : v2.heap.size ≤ v3.heap.size := hgr.size
  have hown1 := h.own
  have hob : ∀ k, u.ownBlock = some k → D + 1 ≤ k ∧ k < H := fun k hk => ⟨(World.ownsRow.lt hown1.1 k hk).1, hown1.2.2.1 k hk⟩
  have hlow := h.low
  have hset : Chg (fun b => b = w.heap.size + 2) v3 (v3.setCell ⟨w.heap.size + 2, 0, none⟩ (.slice (some ⟨g, 0, none⟩) (its.length + 1) cap)) := (Chg.refl (fun b => b = w.heap.size + 2) v3).setCell (p := ⟨w.heap.size + 2, 0, none⟩) rfl _
  have hsz : (v3.setCell ⟨w.heap.size + 2, 0, none⟩ (.slice (some ⟨g, 0, none⟩) (its.length + 1) cap)).heap.size = v3.heap.size := by simp [World.setCell]
  have hdc := h2.dic.1
  refine ⟨by omega, ?_, ?_, (h2.r0.stand hgr2 (fun e => by have := hob _ e; omega)).stand hset (by omega), (h2.r1.stand hgr2 (fun e => by have := hob _ e; omega)).stand hset (by omega), (h2.st.stand hgr2 (fun e => by have := hob _ e; omega)).put, (h2.bx.stand hgr2 (fun e => by have := hob _ e; omega)).stand hset (by omega), ?_⟩
  · rw [hsz]
    refine (hown1.snoc hx hd hlo (fun k h1 h2 e => ?_) hb hown hgr hat hg).stand hset (fun k h1 _ e => by omega)
    have := hob k e
    rcases hs with hs | hs <;> omega
  · refine (h2.dic.chg hgr2 (fun k h1 h2 e => ?_)).chg hset (fun k h1 _ e => by omega)
    have := hob k e
    omega
  · exact ((h2.cur.new hgr2 (fun b hb => by have := hob b hb; omega) hC.2 (by omega)).set (g := w.heap.size + 2) (i := 0) (by omega) hC.2 (by omega) _).mono hK
/-- the results are written -/
theorem SRun.res {B C K K' D H : Nat} {w v : World} {ud u : Value} {d : P.Dic} {its : List LIt} (h : SRun B C K D H w ud d u its v) (x y : Value) (hC : B ≤ C ∧ C < w.heap.size) (hl : its.length ≤ 5) (hd : Drawn d) (hK : K ≤ K') : StackDrawn B C K' w (.returned (.tuple #[.agg #[u], .agg #[ud]])) ((v.setCell ⟨w.heap.size, 0, none⟩ x).setCell ⟨w.heap.size + 1, 0, none⟩ y).drew := by
  have hc : Chg (fun b => b = w.heap.size ∨ b = w.heap.size + 1) v ((v.setCell ⟨w.heap.size, 0, none⟩ x).setCell ⟨w.heap.size + 1, 0, none⟩ y).drew := (((Chg.refl _ v).setCell (p := ⟨w.heap.size, 0, none⟩) (.inl rfl) _).setCell (p := ⟨w.heap.size + 1, 0, none⟩) (.inr rfl) _).drew
  have hz := hc.size
  have hlow := h.low
  have hown := h.own
  refine ⟨its.map (·.2), d, u, ud, rfl, ⟨by rw [List.length_map]; exact hl, fun t ht => ?_⟩, hd, ?_, ?_, (((h.cur.set (g := w.heap.size) (i := 0) (Nat.le_refl _) hC.2 (by omega) _).set (g := w.heap.size + 1) (i := 0) (by omega) hC.2 (by omega) _).drew).mono hK⟩
  · obtain ⟨a, ha, rfl⟩ := List.mem_map.1 ht
    exact (hown.2.2.2 a ha).1
  · exact ((hown.read (lo := w.heap.size + 3) (by omega) (Nat.le_refl _)).chg hc (fun b h1 h2 e => by omega)).wide (by omega) (by omega) (Nat.le_refl _)
  · exact (h.dic.chg hc (fun b h1 h2 e => by omega)).wide (by omega) (by omega) (Nat.le_refl _)
/-- how a round stands: the dictionary in block X -/
def XRun (B C K D H X : Nat) (w : World) (ud : Value) (d : P.Dic) (u : Value) (its : List LIt) (v : World) : Prop :=
  ∃ (lo hi : Nat) (xa : Option Addr) (l : P.Dic) (xc : Nat), True ∧ Drawn l ∧ w.heap.size + 3 ≤ lo ∧ (hi ≤ D ∨ H ≤ lo) ∧ ReadE lo hi v (.slice xa l.length xc) l ∧ DBx X (.slice xa l.length xc) v ∧ H ≤ X ∧ SRun B C K D H w ud d u its v
theorem XRun.cur {B C K D H X : Nat} {w v : World} {ud u : Value} {d : P.Dic} {its : List LIt} (h : XRun B C K D H X w ud d u its v) : CurPost B C K w v := by
  obtain ⟨_, _, _, _, _, _, _, _, _, _, _, _, h⟩ := h; exact h.cur
theorem XRun.stand {B C K K' D H X : Nat} {w v v' : World} {ud u : Value} {d : P.Dic} {its : List LIt} (h : XRun B C K D H X w ud d u its v) (hc : CurPost B C K' v v') (hC : C < w.heap.size) : XRun B C K' D H X w ud d u its v' := by
  obtain ⟨lo, hi, xa, l, xc, h0, h1, h2, h3, h4, h5, h6, h7⟩ := h
  exact ⟨lo, hi, xa, l, xc, h0, h1, h2, h3, h4.chg hc.2 (fun b _ _ e => by omega), h5.stand hc.2 (by have := h7.low; omega), h6, h7.stand hc hC⟩
theorem XRun.box {B C K D H X : Nat} {w v : World} {ud u : Value} {d : P.Dic} {its : List LIt} (h : XRun B C K D H X w ud d u its v) : X < v.heap.size := by
  obtain ⟨_, _, _, _, _, _, _, _, _, _, h, _, _⟩ := h; exact h.2.2
theorem XRun.mono {B C K K' D H X : Nat} {w v : World} {ud u : Value} {d : P.Dic} {its : List LIt} (h : XRun B C K D H X w ud d u its v) (hK : K ≤ K') : XRun B C K' D H X w ud d u its v := by
  obtain ⟨lo, hi, xa, l, xc, h0, h1, h2, h3, h4, h5, h6, h7⟩ := h
  exact ⟨lo, hi, xa, l, xc, h0, h1, h2, h3, h4, h5, h6, h7.mono hK⟩
/-- the layer's dictionary is the drawn one -/
theorem XRun.alias {B C K D H X : Nat} {w v : World} {ad : Option Addr} {c : Nat} {u : Value} {d : P.Dic} {its : List LIt} (h : XRun B C K D H X w (.slice ad d.length c) d u its v) (hC : B ≤ C ∧ C < w.heap.size) (hd : Drawn d) : XRun B C K D H X w (.slice ad d.length c) d u its (v.setCell ⟨X, 0, none⟩ (.slice ad d.length c)) := by
  obtain ⟨lo, hi, xa, l, xc, h0, h1, h2, h3, h4, h5, h6, h7⟩ := h
  have hv : Chg (fun b => b = X) v (v.setCell ⟨X, 0, none⟩ (.slice ad d.length c)) := (Chg.refl (fun b => b = X) v).setCell (p := ⟨X, 0, none⟩) rfl _
  have := h7.low
  exact ⟨w.heap.size + 3, D, ad, d, c, trivial, hd, Nat.le_refl _, .inl (Nat.le_refl _), h7.dic.chg hv (fun b _ h2 e => by omega), h5.put, h6, h7.set h6 hC _⟩
/-- another dictionary is drawn for the layer -/
theorem XRun.anew {B C K D H X lo' : Nat} {w v : World} {ad : Option Addr} {c : Nat} {u ud : Value} {d l' : P.Dic} {its : List LIt} (h : XRun B C K D H X w ud d u its v) (hC : B ≤ C ∧ C < w.heap.size) (hd : Drawn l') (hX : X < lo') (hr : ReadE lo' v.heap.size v (.slice ad l'.length c) l') : XRun B C K D H X w ud d u its (v.setCell ⟨X, 0, none⟩ (.slice ad l'.length c)) := by
  obtain ⟨lo, hi, xa, l, xc, h0, h1, h2, h3, h4, h5, h6, h7⟩ := h
  have hv : Chg (fun b => b = X) v (v.setCell ⟨X, 0, none⟩ (.slice ad l'.length c)) := (Chg.refl (fun b => b = X) v).setCell (p := ⟨X, 0, none⟩) rfl _
  have := h7.low
  exact ⟨lo', v.heap.size, ad, l', c, trivial, hd, by omega, .inr (by omega), hr.chg hv (fun b _ h2 e => by omega), h5.put, h6, h7.set h6 hC _⟩
theorem l8Draw (B C N : Nat) (w : World) (hN : N < 2 ^ 30) (h : IsCur B C N w) :
    Calls Tryz.prog 105 #[.pointer (some ⟨C, 0, none⟩)] w (StackDrawn B C (N + 20000) w) := by
  obtain ⟨i0, hi, hz0', hz1, hz2'⟩ := info_parts info_lay
  have hlt := h.lt
  have hba : Below w.heap.size w (((w.alloc (.cells #[.slice none 0 0] 52)).alloc (.cells #[.slice none 0 0] 32)).alloc (.cells #[.slice none 0 0] 52)) := (((Below.refl w.heap.size w).alloc (Nat.le_refl _) _).alloc (by simp) _).alloc (by simp; omega) _
  have HC := Lib.hid ((CurPost.refl h (Nat.le_refl N)).below hba)
  have HB0 := Lib.hid (((DBx.new (.slice none 0 0) 52 w).below ((Below.refl _ _).alloc (Nat.le_refl _) (.cells #[.slice none 0 0] 32))).below ((Below.refl _ _).alloc (Nat.le_refl _) (.cells #[.slice none 0 0] 52)))
  have HB1 := Lib.hid (show DBx (w.heap.size + 1) (.slice none 0 0) (((w.alloc (.cells #[.slice none 0 0] 52)).alloc (.cells #[.slice none 0 0] 32)).alloc (.cells #[.slice none 0 0] 52)) by
    have h := (DBx.new (.slice none 0 0) 32 (w.alloc (.cells #[.slice none 0 0] 52))).below ((Below.refl _ _).alloc (Nat.le_refl _) (.cells #[.slice none 0 0] 52)); simpa using h)
  have HB2 := Lib.hid (show DBx (w.heap.size + 2) (.slice none 0 0) (((w.alloc (.cells #[.slice none 0 0] 52)).alloc (.cells #[.slice none 0 0] 32)).alloc (.cells #[.slice none 0 0] 52)) by
    have h := DBx.new (.slice none 0 0) 52 ((w.alloc (.cells #[.slice none 0 0] 52)).alloc (.cells #[.slice none 0 0] 32)); simpa using h)
  clear h hba
  go_enter Tryz.func105, Tryz.ntmps105
  go_wp2_with fail
  refine (cur_dictionary B C N _ (by omega) HC.out.1).mono ?_
  rintro e w1 ⟨d, ud, rfl, hdr, hl9, hpos, hen, hwh, hc⟩
  have hz1' : w.heap.size + 3 ≤ w1.heap.size := by have := hc.2.size; simp at this; omega
  have hba := (Below.refl w1.heap.size w1).alloc (Nat.le_refl _) (.cells #[ud] 32)
  have HR := Lib.hid (show SRun B C (N + 1000) w1.heap.size (w1.alloc (.cells #[ud] 32)).heap.size w ud d (.slice none 0 0) [] (w1.alloc (.cells #[ud] 32)) from
    ⟨⟨hz1', by simp, Nat.le_refl _⟩, LOwn.nil (by omega) (by simp), (Ents.readE (lo := w.heap.size + 3) (hi := w1.heap.size) (show Ents w1 (Bet (w.heap.size + 3) w1.heap.size) ud d by have h := hen; simp at h; exact h) (fun _ hb => hb) (Nat.le_refl _)).chg (Below.chg hba (fun _ => False)) (fun _ _ _ h => h), (HB0.out.stand hc.2 (by omega)).below hba, (HB1.out.stand hc.2 (by omega)).below hba, (HB2.out.stand hc.2 (by omega)).below hba, DBx.new _ _ _, (HC.out.trans hc).below hba⟩)
  have HDR := Lib.hid hdr
  obtain ⟨uda, udc, rfl, _, _⟩ := id hen
  clear hdr hl9 hpos hen hwh hc hba HC HB0 HB1 HB2
  go_wp2_with fail
  refine (cur_pick B C (N + 1000) 4 _ (by omega) (by decide) HR.out.cur.1).mono ?_
  rintro e w2 ⟨x, hx, rfl, hc⟩
  have hx4 : x ≤ 3 := by omega
  have HR2 := Lib.hid (HR.out.stand hc hlt.2)
  clear hx hc HR
  go_wp2_with fail
  refine (cur_one B C (N + 1002) 15 _ (by omega) (by decide) HR2.out.cur.1).mono ?_
  rintro e w3 ⟨b, rfl, hc⟩
  have HR3 := Lib.hid (HR2.out.stand hc hlt.2)
  clear hc HR2
  go_upto_if 15 with fail
  go_cut [6] (fun n wx => ∃ k : Nat, k ≤ 5 ∧ n = .int .i64 k ∧ SRun B C (N + 1006) w1.heap.size (w1.alloc (.cells #[.slice uda d.length udc] 32)).heap.size w (.slice uda d.length udc) d (.slice none 0 0) [] wx)
  case first =>
    cases b
    · go_wp2
      go_meet
      exact ⟨x, by omega, rfl, HR3.out.mono (by omega)⟩
    · go_wp2_with fail
      refine (cur_pick B C (N + 1004) 2 _ (by omega) (by decide) HR3.out.cur.1).mono ?_
      rintro e w4 ⟨y, hy, rfl, hc⟩
      have hy2 : y < 2 := by omega
      have HR4 := Lib.hid (HR3.out.stand hc hlt.2)
      clear hc HR3 hy
      go_wp2
      go_meet
      exact ⟨4 + y, by omega, by go_num, HR4.out⟩
  case rest =>
    obtain ⟨k, hk5, rfl, hr⟩ := hcut
    have HR4 := Lib.hid hr
    clear hr HR3
    go_wp2_with fail
    go_loopw [7] (fun i wr => ∃ (j : Nat) (its : List LIt) (u : Value), j ≤ k ∧ its.length = j ∧ i = .int .i64 j ∧ SRun B C (N + 1006 + 3100 * j) w1.heap.size wr.heap.size w (.slice uda d.length udc) d u its wr) (fun i _ => k - (intOf i).toNat)
    case atStart =>
      obtain ⟨⟨h1, h1', h1''⟩, h2, h3, h4, h5, h6, h7, h8⟩ := HR4.out
      exact ⟨0, [], _, by omega, rfl, rfl, ⟨h1, by omega, Nat.le_refl _⟩, LOwn.nil (by omega) (by omega), h3, h4, h5, h6, h7, h8.mono (by omega)⟩
    case round =>
      clear HR4
      obtain ⟨j, its, u, hjk, hlen, rfl, hr⟩ := hrel
      have HL := Lib.hid hlen
      have hj5 : j ≤ 5 := by omega
      have hi5 : its.length ≤ 5 := by omega
      clear hlen
      obtain ⟨ua, uc, rfl⟩ := hr.own.form
      by_cases hj : j < k
      · have hji : (j : Int) < (k : Int) := by omega
        have HR5 := Lib.hid hr
        clear hr
        go_wp2_with fail
        refine (cur_dictionary B C (N + 1006 + 3100 * j) _ (by omega) HR5.out.cur.1).mono ?_
        rintro e w5 ⟨lx, ux, rfl, hdx, hl9, hpos, hen, hwh, hc⟩
        have hzr : w1.heap.size < wr.heap.size := by have := HR5.out.low; omega
        have hzw : wr.heap.size ≤ w5.heap.size := hc.2.size
        have hba := (Below.refl w5.heap.size w5).alloc (Nat.le_refl _) (.cells #[ux] 32)
        obtain ⟨uxa, uxc, rfl, _, _⟩ := id hen
        have HX := Lib.hid (show XRun B C (N + 1006 + 3100 * j + 1000) w1.heap.size wr.heap.size w5.heap.size w (.slice uda d.length udc) d (.slice ua its.length uc) its (w5.alloc (.cells #[.slice uxa lx.length uxc] 32)) from
          ⟨_, _, uxa, lx, uxc, trivial, hdx, by have := HR5.out.low; omega, .inr (Nat.le_refl _), (Ents.readE hen (fun _ hb => hb) (Nat.le_refl _)).chg (Below.chg hba (fun _ => False)) (fun _ _ _ h => h), DBx.new _ _ _, hzw, (HR5.out.stand hc hlt.2).below hba⟩)
        clear hdx hl9 hpos hen hwh hc HR5
        go_upto_region 10 with fail
        go_cut [31] (fun b wx => ∃ bb : Bool, b = .bool bb ∧ XRun B C (N + 1006 + 3100 * j + 1002) w1.heap.size wr.heap.size w5.heap.size w (.slice uda d.length udc) d (.slice ua its.length uc) its wx)
        case first =>
          by_cases hj0 : j = 0
          · subst hj0
            go_wp2_with fail
            refine (cur_one B C (N + 1006 + 3100 * 0 + 1000) 2 _ (by omega) (by decide) HX.out.cur.1).mono ?_
            rintro e w6 ⟨b, rfl, hc⟩
            have HX2 := Lib.hid (HX.out.stand hc hlt.2)
            clear hc HX
            go_wp2
            go_meet
            exact ⟨b, rfl, HX2.out⟩
          · have hj0' : ¬ (j : Int) = 0 := by omega
            go_wp2
            go_meet
            exact ⟨false, by simp, HX.out.mono (by omega)⟩
        case rest =>
          obtain ⟨bb, rfl, hx⟩ := hcut
          have HX3 := Lib.hid hx
          clear hx HX
          go_upto_if 31 with fail
          go_cut [] (fun wy => XRun B C (N + 1006 + 3100 * j + 1002) w1.heap.size wr.heap.size w5.heap.size w (.slice uda d.length udc) d (.slice ua its.length uc) its wy)
          case first =>
            cases bb
            · go_wp2
              go_meet
              exact HX3.out
            · have HALI := Lib.hid (HX3.out.alias hlt HDR.out)
              obtain ⟨lo, hi', xa, lx, xc, _, _, _, _, _, hbx, _, hsr⟩ := HX3.out
              have hbd := hsr.bx
              obtain ⟨k0, k1, _⟩ := hbx
              obtain ⟨k2, k3, _⟩ := hbd
              go_wp2
              go_meet
              exact HALI.out
          case rest =>
            have HX4 := Lib.hid hcut
            clear hcut HX3
            go_wp2_with fail
            refine (cur_one B C (N + 1006 + 3100 * j + 1002) 30 _ (by omega) (by decide) HX4.out.cur.1).mono ?_
            rintro e w6 ⟨b, rfl, hc⟩
            have HX5 := Lib.hid (HX4.out.stand hc hlt.2)
            clear hc HX4
            go_upto_if 34 with fail
            go_cut [] (fun wz => XRun B C (N + 1006 + 3100 * j + 3010) w1.heap.size wr.heap.size w5.heap.size w (.slice uda d.length udc) d (.slice ua its.length uc) its wz)
            case first =>
              cases b
              · go_wp2
                go_meet
                exact HX5.out.mono (by omega)
              · go_wp2_with fail
                refine (cur_anyDictionary B C (N + 1006 + 3100 * j + 1004) _ (by omega) HX5.out.cur.1).mono ?_
                rintro e w7 ⟨la, va, rfl, hda, hra, hc⟩
                have HX6 := Lib.hid (HX5.out.stand hc hlt.2)
                have hX6 : w5.heap.size < w6.heap.size := HX5.out.box
                obtain ⟨aa, ac, rfl, _, _⟩ := hra.now
                have HALI := Lib.hid (HX6.out.anew hlt hda hX6 hra)
                obtain ⟨lo, hi', xa, lx, xc, _, _, _, _, _, hbx, _, hsr⟩ := HX6.out
                obtain ⟨k0, k1, _⟩ := hbx
                clear hc HX5 hda hra
                go_wp2
                go_meet
                exact HALI.out.mono (by omega)
            case rest =>
              clear HX5
              obtain ⟨lo, hi', xa, lx, xc, _, hdx, hlo, hside, hre, hbx, hHX, hsr⟩ := hcut
              have HS := Lib.hid (show wc.drew.cell? ⟨w.heap.size + 2, 0, none⟩ = some (.slice ua its.length uc) ∧ wc.drew.frozen? ⟨w.heap.size + 2, 0, none⟩ = false ∧ wc.drew.cell? ⟨w5.heap.size, 0, none⟩ = some (.slice xa lx.length xc) from ⟨hsr.st.1, hsr.st.2.1, hbx.1⟩)
              have HR6 := Lib.hid (hsr.below (Below.refl wc.heap.size wc).drew)
              have HRE := Lib.hid (hre.chg (Below.chg (Below.refl wc.heap.size wc).drew (fun _ => False)) (fun _ _ _ h => h))
              have HBX := Lib.hid (hbx.below (Below.refl wc.heap.size wc).drew)
              have HDX := Lib.hid hdx; have HSD := Lib.hid hside
              go_upto_region 14 with fail
              clear hsr hre hbx hdx hside
              refine Left.region [10] (S := fun v => v.cell? ⟨w.heap.size + 2, 0, none⟩ = some (.slice ua its.length uc) ∧ v.frozen? ⟨w.heap.size + 2, 0, none⟩ = false ∧ v.cell? ⟨w5.heap.size, 0, none⟩ = some (.slice xa lx.length xc)) (by kernel_rfl) HS.out (fun hS0 => ?_)
              generalize wc.drew = v0 at *
              refine Left.take (i := 0) (v := .pointer (some ⟨w.heap.size + 2, 0, none⟩)) rfl (by kernel_rfl) (by kernel_rfl) (by kernel_rfl) (by kernel_rfl) (fun _ _ _ h => h) (Or.inl ⟨by rfl, fun z hz => ?_⟩) hS0 ?_
              · obtain ⟨z1, z2, z3⟩ := hz
                go_simp
              try simp only [List.getElem_toArray, List.getElem_cons_zero, Act.put, List.setIfInBounds_toArray, List.set_cons_zero, List.set_cons_succ]
              refine Left.take (i := 1) (v := .slice ua its.length uc) rfl (by kernel_rfl) (by kernel_rfl) (by kernel_rfl) (by kernel_rfl) (fun _ _ _ h => h) (Or.inl ⟨by rfl, fun z hz => ?_⟩) hS0 ?_
              · obtain ⟨z1, z2, z3⟩ := hz
                go_simp
              try simp only [List.getElem_toArray, List.getElem_cons_zero, List.getElem_cons_succ, Act.put, List.setIfInBounds_toArray, List.set_cons_zero, List.set_cons_succ]
              refine Left.take (i := 2) (v := .agg #[.slice xa lx.length xc]) rfl (by kernel_rfl) (by kernel_rfl) (by kernel_rfl) (by kernel_rfl) (fun _ _ _ h => h) (Or.inl ⟨by rfl, fun z hz => ?_⟩) hS0 ?_
              · obtain ⟨z1, z2, z3⟩ := hz
                go_simp
              try simp only [List.getElem_toArray, List.getElem_cons_zero, List.getElem_cons_succ, Act.put, List.setIfInBounds_toArray, List.set_cons_zero, List.set_cons_succ]
              refine Left.take (i := 3) (v := .pointer (some ⟨C, 0, none⟩)) rfl (by kernel_rfl) (by kernel_rfl) (by kernel_rfl) (by kernel_rfl) (fun _ _ _ h => h) (Or.inl ⟨by rfl, fun z hz => ?_⟩) hS0 ?_
              · obtain ⟨z1, z2, z3⟩ := hz
                go_simp
              try simp only [List.getElem_toArray, List.getElem_cons_zero, List.getElem_cons_succ, Act.put, List.setIfInBounds_toArray, List.set_cons_zero, List.set_cons_succ]
              refine Left.ready (rs := [4]) (by kernel_rfl) (by simp) ?_
              refine Nexts.cons rfl (fun K hK => ?_) Nexts.nil
              go_simp
              refine (cur_pick B C (N + 1006 + 3100 * j + 3010) 5 _ (by omega) (by decide) HR6.out.cur.1).mono ?_
              rintro e v1 ⟨y, hy, rfl, hc⟩
              have hX1 : w5.heap.size < v0.heap.size := HBX.out.2.2
              have HR7 := Lib.hid (HR6.out.stand hc hlt.2)
              have HRE2 := Lib.hid (HRE.out.chg hc.2 (fun b _ _ e => by omega))
              have HBX2 := Lib.hid (HBX.out.stand hc.2 (by have := HR6.out.low; omega))
              refine on_held hK (by decide) ⟨HR7.out.st.1, HR7.out.st.2.1, HBX2.out.1⟩ (fun hS1 => ?_)
              clear hK K hc hy HR6 HRE HBX
              try simp only [List.getElem_toArray, List.getElem_cons_zero, List.getElem_cons_succ, Act.put, List.setIfInBounds_toArray, List.set_cons_zero, List.set_cons_succ]
              refine Left.take (i := 5) (v := .bool (decide ((0 : Int) < (y : Int)))) rfl (by kernel_rfl) (by kernel_rfl) (by kernel_rfl) (by kernel_rfl) (fun _ _ _ h => h) (Or.inl ⟨by rfl, fun z hz => ?_⟩) hS1 ?_
              · obtain ⟨z1, z2, z3⟩ := hz
                go_simp
              try simp only [List.getElem_toArray, List.getElem_cons_zero, List.getElem_cons_succ, Act.put, List.setIfInBounds_toArray, List.set_cons_zero, List.set_cons_succ]
              generalize decide ((0 : Int) < (y : Int)) = en at *
              refine Left.take (i := 6) (v := .agg #[.slice xa lx.length xc, .bool en]) rfl (by kernel_rfl) (by kernel_rfl) (by kernel_rfl) (by kernel_rfl) (fun _ _ _ h => h) (Or.inl ⟨by rfl, fun z hz => ?_⟩) hS1 ?_
              · obtain ⟨z1, z2, z3⟩ := hz
                go_simp
              try simp only [List.getElem_toArray, List.getElem_cons_zero, List.getElem_cons_succ, Act.put, List.setIfInBounds_toArray, List.set_cons_zero, List.set_cons_succ]
              refine Left.ready (rs := [7]) (by kernel_rfl) (by simp) ?_
              refine Nexts.cons rfl (fun K hK => ?_) Nexts.nil
              go_simp
              have hbl : Below v1.heap.size v1 (v1.alloc (.cells #[.slice xa lx.length xc, .bool en] 74)) := (Below.refl _ _).alloc (Nat.le_refl _) _
              have HBL := Lib.hid hbl
              have HR8 := Lib.hid (HR7.out.below hbl)
              refine on_held hK (by decide) ⟨HR8.out.st.1, HR8.out.st.2.1, (HBX2.out.below hbl).1⟩ (fun hS2 => ?_)
              clear hK K hbl
              try simp only [List.getElem_toArray, List.getElem_cons_zero, List.getElem_cons_succ, Act.put, List.setIfInBounds_toArray, List.set_cons_zero, List.set_cons_succ]
              refine Left.ready (rs := [8]) (by kernel_rfl) (by simp) ?_
              refine Nexts.cons rfl (fun K hK => ?_) Nexts.nil
              refine step_append_lies _ rfl _ _ 50 rfl (w1.heap.size + 1) 74 i0 (.agg #[.slice none 0 0, .bool false]) 2 32 Tryz.underlying50 hi hz0' hz1 hz2' rfl (by decide) (.slice ua its.length uc) its.length (lcells its) rfl HR8.out.own.1 ⟨v1.heap.size, 0, none⟩ 1 1 [.slice xa lx.length xc, .bool en] rfl rfl ?_ ?_ (Nat.zero_lt_one) ?_ ?_ ?_ _ rfl ?_
              · intro i y hy
                rcases i with _ | _ | i
                · injection hy with hy; subst hy; rw [add0]; go_simp
                · injection hy with hy; subst hy; rw [add0]; go_simp
                · cases hy
              · intro y hy
                simp only [List.mem_cons, List.not_mem_nil, or_false] at hy
                rcases hy with rfl | rfl <;> rfl
              · unfold maxLen; omega
              · omega
              · have h1 := HR8.out.low; omega
              intro g' cap' v3 hown hgr hat hlt3
              have hgr2 : Chg (fun b => (Value.slice ua its.length uc).ownBlock = some b) (v1.alloc (.cells #[.slice xa lx.length xc, .bool en] 74)) v3 := Chg.grown hgr
              have HRUN := Lib.hid (HR7.out.grow HRE2.out HDX.out hlo HSD.out HBL.out hown hgr hat hlt3 hlt (K' := N + 1006 + 3100 * (j + 1)) (by omega))
              have HOB := Lib.hid (fun k hk => World.ownsRow.lt HR8.out.own.1 k hk)
              have HST := Lib.hid (HR8.out.st.stand hgr2 (fun e => by have h1 := HOB.out _ e; have h2 := HR8.out.low; omega))
              have HX3' := Lib.hid ((HBX2.out.below HBL.out).stand hgr2 (fun e => by have h1 := HR7.out.own.2.2.1 _ e; omega))
              refine on_held hK (by decide) ⟨HST.out.1, HST.out.2.1, HX3'.out.1⟩ (fun hS3 => ?_)
              clear hK K hown hgr hat hlt3 hgr2
              try simp only [List.getElem_toArray, List.getElem_cons_zero, List.getElem_cons_succ, Act.put, List.setIfInBounds_toArray, List.set_cons_zero, List.set_cons_succ]
              refine Left.take (i := 9) (v := .pointer (some ⟨w.heap.size + 2, 0, none⟩)) rfl (by kernel_rfl) (by kernel_rfl) (by kernel_rfl) (by kernel_rfl) (fun _ _ _ h => h) (Or.inl ⟨by rfl, fun z hz => ?_⟩) hS3 ?_
              · obtain ⟨z1, z2, z3⟩ := hz
                go_simp
              try simp only [List.getElem_toArray, List.getElem_cons_zero, List.getElem_cons_succ, Act.put, List.setIfInBounds_toArray, List.set_cons_zero, List.set_cons_succ]
              refine Left.ready (rs := [10]) (by kernel_rfl) (by simp) ?_
              refine Nexts.cons rfl (fun K hK => ?_) Nexts.nil
              obtain ⟨k0, k1, _⟩ := HST.out
              go_simp
              refine on_last hK (by decide) ?_
              clear hK K
              try simp only [List.getElem_toArray, List.getElem_cons_zero, List.getElem_cons_succ, Act.put, List.setIfInBounds_toArray, List.set_cons_zero, List.set_cons_succ]
              refine Left.done (by kernel_rfl) ?_ _
              have HFIN := Lib.hid HRUN.out
              have HLN := Lib.hid (show (its ++ [(Value.slice xa lx.length xc, (lx, en))]).length = its.length + 1 by simp)
              clear hS0 hS1 hS2 hS3 HST HX3' HRUN HOB HR7 HR8 HRE2 HBX2 HBL HS k0 k1
              generalize v3.setCell ⟨w.heap.size + 2, 0, none⟩ (.slice (some ⟨g', 0, none⟩) (its.length + 1) cap') = v4 at *
              go_wp2
              go_roundw
              case rel => exact ⟨j + 1, _, _, by omega, by rw [HLN.out, HL.out], by go_num, HFIN.out⟩
              case measure => simp [intOf]; omega
      · have hjk' : ¬ (j : Int) < (k : Int) := by omega
        have HR5 := Lib.hid hr
        obtain ⟨k0, k1, k2⟩ := hr.r0
        obtain ⟨k3, k4, k5⟩ := hr.r1
        obtain ⟨k6, k7, k8⟩ := hr.st
        obtain ⟨k9, k10, k11⟩ := hr.bx
        clear hr
        go_wp2
        go_region
        have HRR := Lib.hid (HR5.out.res (K' := N + 20000) (.slice ua its.length uc) (.slice uda d.length udc) hlt hi5 HDR.out (by omega))
        go_wp2
        refine bodyPost_ret (v := .tuple #[.agg #[.slice ua its.length uc], .agg #[.slice uda d.length udc]]) (by simp [results, Tryz.results105, go_sem, k0, k3]) rfl ?_
        exact HRR.out
end Go.Proofs.YtonhkglilnplbaaGreatDoor
