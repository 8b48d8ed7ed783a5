/- Walks: the draws of FnStackShadowed: a stack from bytes; a dictionary of single strokes; a stack for Flatten. Walks: the laws' own comparison of dictionaries that are equal. Walks: rCut: other bytes out of a draw's bytes. -/
import Derived.Deep.DeepCutAuto
import Derived.Deep.RegionHeld
import Derived.Laws.BitsLemmas
import Derived.Test.YtngbkdlicknmhaaGreatDoorCurE8
import Derived.Test.YtngbkdlicknmhaaGreatDoorRDict
import Derived.Test.YtngbkdlicknmhaaGreatDoorCurE3
namespace Go.Proofs.YtngbkdlicknmhaaGreatDoor
section
open Go Go.RowKit
set_option maxHeartbeats 4000000
set_option maxRecDepth 100000
/-- single strokes from one on -/
def P.wide (f : Int) : Nat → P.Dic
  | 0 => []
  | n + 1 => P.wide f n ++ [([f + n], [97])]
end
section
open Go Go.RowKit
set_option maxHeartbeats 4000000
set_option maxRecDepth 100000
end
section
open Go Go.RowKit
set_option maxHeartbeats 4000000
set_option maxRecDepth 100000
def bytesV (bs : List Nat) : List Value := bs.map fun (b : Nat) => Value.int .u8 (b : Int)
theorem info_u8 : (Tryz.prog.info? 5).map (fun i => (i.zero, i.size, i.bytes)) = some (some (.int .u8 0), 1, 1) := by kernel_rfl
theorem xor_byte (b k : Nat) : ∃ c : Nat, c < 256 ∧ bits .xor .u8 (b : Int) (k : Int) = (c : Int) := by
  have h := (BitVec.ofInt 8 (b : Int) ^^^ BitVec.ofInt 8 (k : Int)).isLt
  refine ⟨(BitVec.ofInt 8 (b : Int) ^^^ BitVec.ofInt 8 (k : Int)).toNat, h, ?_⟩
  show IntKind.u8.wrap ((BitVec.ofInt 8 (b : Int) ^^^ BitVec.ofInt 8 (k : Int)).toNat : Int) = _
  rw [IntKind.wrap_u8]
  omega
theorem rCut (cv : Value) (k : Nat) (w : World) (hc : CodeIs w cv) (hk : k = 1 ∨ k = 2) :
    Calls Tryz.prog 50 #[cv, .int .i64 k] w fun e w' => ∃ u, e = .returned u ∧ CodeIs w' u ∧ Below w.heap.size w w' := by
  obtain ⟨i0, hi, hz0, hz1, hz2⟩ := info_parts info_u8
  obtain ⟨ad, n, cap, rfl, hn, hr⟩ := hc
  have HR := Lib.hid hr
  clear hr
  obtain ⟨r, hr50, hrr⟩ : ∃ r : Nat, r < 50 ∧ (n : Int) % 50 = (r : Int) := ⟨n % 50, by omega, by omega⟩
  obtain ⟨q, hq, hqq⟩ : ∃ q : Nat, q < 256 ∧ (37 * (k : Int) + (r : Int)) = (q : Int) := ⟨37 * k + r, by omega, by omega⟩
  have hk3 : k < 3 := by omega
  have hk1 : 1 ≤ k := by omega
  clear hk
  go_enter Tryz.func50, Tryz.ntmps50
  go_wp2_with fail
  clear hrr hqq
  have HO := Lib.hid (show (w.alloc (.cells #[.int .u8 (q : Int)] 5)).ownsRow w.heap.size 5 1 (.slice (some ⟨w.heap.size, 0, none⟩) 1 1) ([q] : List Nat).length (bytesV [q]) by
    have h := World.ownsRow_lit (base := w.heap.size) (e := 5) (size := 1) w #[.int .u8 (q : Int)] 1 (Nat.le_refl _) (by decide) (by simp); simpa [bytesV] using h)
  have HB := Lib.hid ((Below.refl w.heap.size w).alloc (Nat.le_refl _) (.cells #[.int .u8 (q : Int)] 5))
  go_loopw [5, 6] (fun s i wr => ∃ (j : Nat) (bs : List Nat), k ≤ j ∧ (j ≤ n ∨ j = k) ∧ bs.length + k = j + 1 ∧ i = .int .i64 j ∧ (∀ b ∈ bs, b < 256) ∧ wr.ownsRow w.heap.size 5 1 s bs.length (bytesV bs) ∧ Below w.heap.size w wr) (fun _ i _ => n - (intOf i).toNat)
  case atStart => exact ⟨k, [q], Nat.le_refl _, .inr rfl, by simp; omega, rfl, by simpa using hq, HO.out, HB.out⟩
  case round =>
    clear HO HB
    obtain ⟨j, bs, hkj, hjn, hlen, rfl, hall, hown, hb⟩ := hrel
    have HA := Lib.hid hall; have HOW := Lib.hid hown; have HB := Lib.hid hb
    have hbl : bs.length ≤ 65537 := by omega
    have HLEN := Lib.hid hlen
    clear hlen hall hown
    by_cases hlt : j < n
    · have i1 : (j : Int) < (n : Int) := by omega
      obtain ⟨g, o, rfl, hg, hcell⟩ := HR.out.resolve_left (by omega)
      obtain ⟨b, hb256, c0⟩ := hcell j hlt
      have c1 := (hb.cell (p := ⟨g, o + j, none⟩) hg).trans c0
      clear hcell c0 hb
      obtain ⟨c, hc256, hx⟩ := xor_byte b k
      obtain ⟨ua, uc, rfl⟩ : ∃ ua uc, u5 = .slice ua bs.length uc := by
        rcases HOW.out.2 with ⟨rfl, h0⟩ | ⟨g2, cap2, cur, hv, _⟩
        · exact ⟨none, 0, by rw [h0]⟩
        · exact ⟨_, cap2, hv⟩
      have hbl1 : Below wr.heap.size wr (wr.alloc (.cells #[.int .u8 (c : Int)] 5)) := (Below.refl _ _).alloc (Nat.le_refl _) _
      have HBL := Lib.hid hbl1
      have HOW2 := Lib.hid (own_kept HOW.out hbl1 (Nat.le_refl _))
      have HWZ := Lib.hid HB.out.size
      clear hbl1
      go_wp2_with (at_builtin; refine wpList_append_lies _ rfl _ _ 22 rfl w.heap.size 5 i0 (.int .u8 0) 1 1 Tryz.underlying22 hi hz0 hz1 hz2 rfl (by decide) (.slice ua bs.length uc) bs.length _ rfl HOW2.out ⟨wr.heap.size, 0, none⟩ 1 1 [.int .u8 (c : Int)] rfl rfl ?_ ?_ (Nat.zero_lt_one) ?_ ?_ ?_ _ rfl ?_)
      all_goals first | exact ⟨rfl, rfl⟩ | (intro y hy; simp only [List.mem_cons, List.not_mem_nil, or_false] at hy; rcases hy with rfl <;> rfl) | (unfold maxLen; omega) | omega | (have h1 := HWZ.out; simp; omega) | (intro i y hy; rcases i with _ | i; (injection hy with hy; subst hy; rw [add0]; go_simp); cases hy) | skip
      intro g' cap' v3 hown hgr hat hlt3
      have hgrc := Chg.grown hgr
      have hown7 := World.ownsRow.lt HOW2.out
      have HO3 := Lib.hid (show v3.ownsRow w.heap.size 5 1 (.slice (some ⟨g', 0, none⟩) (bs.length + 1) cap') (bs ++ [c]).length (bytesV (bs ++ [c])) by simpa [bytesV] using hown)
      have HB3 := Lib.hid ((HB.out.trans (HBL.out.mono HB.out.size)).trans (hgrc.below (B := w.heap.size) (by have := HB.out.size; simp; omega) (fun b e => by have := hown7 _ e; omega)))
      have HA3 := Lib.hid (show ∀ x ∈ bs ++ [c], x < 256 from fun x hx => by rcases List.mem_append.1 hx with hx | hx; (exact HA.out x hx); (simp at hx; omega))
      clear hown hgr hat hlt3 hgrc hown7 hx
      go_wp2
      go_roundw
      case rel => exact ⟨j + 1, bs ++ [c], by omega, by omega, by rw [List.length_append]; have := HLEN.out; simp; omega, by go_num, HA3.out, HO3.out, HB3.out⟩
      case measure => simp [intOf]; omega
    · clear hb
      have i1 : ¬ (j : Int) < (n : Int) := by omega
      have hbn : bs.length ≤ 65536 := by have := HLEN.out; omega
      go_wp2
      go_ret
      refine ⟨_, rfl, ?_, HB.out⟩
      rcases id HOW.out.2 with ⟨rfl, h0⟩ | ⟨g2, cap2, cur, rfl, _⟩
      · exact ⟨none, 0, 0, rfl, by omega, .inl rfl⟩
      · have hlt2 := World.ownsRow.lt HOW.out g2 rfl
        refine ⟨_, bs.length, cap2, rfl, hbn, .inr ⟨g2, 0, rfl, hlt2.2, fun i hi => ⟨bs[i], HA.out _ (List.getElem_mem hi), ?_⟩⟩⟩
        have h := World.ownsRow.cellAt HOW.out i (by omega)
        rw [Nat.zero_add, h]
        unfold bytesV
        rw [List.getElem?_map, List.getElem?_eq_getElem hi]
        rfl
end
end Go.Proofs.YtngbkdlicknmhaaGreatDoor
