/- The library's variables at a row's first world. -/
import Derived.Test.YtbjfpceoamiaoaaDoorLaw
namespace Go.Proofs.YtbjfpceoamiaoaaDoor
open Go Go.RowKit
theorem tab_of_vars {P : Program} {W : World} {name : String} {k : IntKind} {zs : List Int} {g : Nat} {t e : TypeId} {n : Nat}
    (hg : P.globalNamed name = some g) (hty : (P.globals[g]?).map (·.type) = some t) (ht : P.underlying t = some (.array n e)) (he : P.underlying e = some (.int k)) (hce : P.cellsOf e = 1) (hct : P.cellsOf t = n) :
    ∀ (laid : List (String × DataW Unit)) (ps : List MemPlace), (name, Lib.tabData k zs) ∈ laid → DataW.LaidVars P W laid ps → Lib.TabIs P W name k zs
  | [], _, h, _ => by cases h
  | (m, d) :: r, ps, h, hl => by
    obtain ⟨g', t', cs, fuel, p, q, hg', ht', hvar, hd, hrest, _⟩ := hl
    rcases List.mem_cons.1 h with h | h
    · injection h with h1 h2
      subst h1 h2
      obtain rfl := Option.some.inj (hg.symm.trans hg')
      obtain rfl := Option.some.inj (hty.symm.trans ht')
      unfold Lib.TabIs
      rw [hvar, ← Lib.cells_of_tab ht he hce hct hd]
    · exact tab_of_vars hg hty ht he hce hct r _ h hrest
theorem env_of {W : World} (hsh : W.ShapedOpen Tryd.prog) (h : laidMetH Tryd.prog [("math/bits.deBruijn32tab", Rows.laid_math_bits_deBruijn32tab), ("math/bits.deBruijn64tab", Rows.laid_math_bits_deBruijn64tab), ("internal/strconv.uint64pow10", Rows.laid_internal_strconv_uint64pow10)] W) : Env W := by
  have hm : laidMet Tryd.prog [("math/bits.deBruijn32tab", Rows.laid_math_bits_deBruijn32tab), ("math/bits.deBruijn64tab", Rows.laid_math_bits_deBruijn64tab), ("internal/strconv.uint64pow10", Rows.laid_internal_strconv_uint64pow10)] W := h
  obtain ⟨ps, hv, _⟩ := hm
  have htab : Lib.TabIs Tryd.prog W "internal/strconv.uint64pow10" .u64 Lib.pow10Tab :=
    tab_of_vars (t := 117) (e := 68) (n := 20) g_pow10 (by kernel_rfl) Tryd.underlying117 Tryd.underlying68 (by kernel_rfl) (by kernel_rfl) _ _ (List.mem_cons_of_mem _ (List.mem_cons_of_mem _ (List.mem_cons_self ..))) hv
  obtain ⟨m, hc⟩ := Tryd.laysM145.s1_3 W hsh
  have h1 : 0 < W.heap.size := World.block_lt_of_cell? W _ hc
  have h2 : 1 < W.heap.size := World.block_lt_of_cell? W _ (htab.cell g_pow10 0 (by decide))
  exact ⟨by unfold EB; omega, ⟨m, hc⟩, htab⟩
end Go.Proofs.YtbjfpceoamiaoaaDoor
