/- What the rows of the laws on texts share: four tables as they are laid. -/
import Derived.Test.YthmfkdlncnjjoaaDoorRb
import Derived.Test.YthmfkdlncnjjoaaDoorTw
import Derived.Lib.LaidTab
namespace Go.Proofs.YthmfkdlncnjjoaaDoor
open Go.ChangeShapes Go.WideShapes Go.ChangeAt Go.RowKit
set_option linter.unusedVariables false
def laid4 : List (String × DataW Unit) := [("math/bits.deBruijn32tab", Rows.laid_math_bits_deBruijn32tab), ("math/bits.deBruijn64tab", Rows.laid_math_bits_deBruijn64tab), ("internal/strconv.uint64pow10", Rows.laid_internal_strconv_uint64pow10), ("loop.example/cothreads/impl.instrTable", Rows.laid_loop_example_cothreads_impl_instrTable)]
theorem door_met4 (os : Os) (args : Array Value) : laidMetH Tryd.prog laid4 ((World.doorLaid Tryd.prog 50 os).forCall (fun _ _ => 0) ⟨#[], args, []⟩).memory :=
  laidMetH_of_parts3 (fuel := 8) (laidMet_of_run' 8 (by kernel_rfl) (by kernel_rfl)) (by kernel_rfl) (by kernel_rfl)
theorem globPty : (Tryd.prog.globals[1]?).map (·.type) = some 73 := by kernel_rfl
theorem pow_laid {H : Type} : (Rows.laid_internal_strconv_uint64pow10 : DataW H) = Lib.tabData .u64 Lib.pow10Tab := rfl
theorem tab_of_laid4 {W : World} (h : laidMetH Tryd.prog laid4 W) : Tab W ∧ TabQ W := by
  rw [MakeChecks.laidMetH_plain _ _ _ (by kernel_rfl)] at h
  obtain ⟨ps, ⟨g1, t1, cs1, f1, p1, q1, _, _, _, _, ⟨g2, t2, cs2, f2, p2, q2, _, _, _, _, ⟨g3, t3, cs3, f3, p3, q3, hg, ht, hv, hd, hl, _⟩, _⟩, _⟩, _, _⟩ := h
  refine ⟨tab_of_vars hl, ?_⟩
  obtain rfl := Option.some.inj (globP.symm.trans hg)
  obtain rfl := Option.some.inj (globPty.symm.trans ht)
  rw [pow_laid] at hd
  have e := Lib.cells_of_tab Tryd.underlying73 Tryd.underlying67 (by kernel_rfl) (by kernel_rfl) hd
  refine ⟨?_, ?_⟩
  · unfold TabP Lib.TabIs
    rw [hv, ← e]
  · rcases Nat.lt_or_ge 1 W.heap.size with h | h
    · exact h
    · unfold World.var? at hv
      simp only [globP, Option.bind_some, Array.getElem?_eq_none h] at hv
      cases hv
end Go.Proofs.YthmfkdlncnjjoaaDoor
