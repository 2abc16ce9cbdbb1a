/- From the row's condition to the table that the walks read; the named variable reads as it did. -/
import Derived.Test.YthmfkdlncnjjoaaDoorTb
import Derived.Test.YthmfkdlncnjjoaaDoorRows
import Derived.ProofKit
import Derived.LaidMore
import Derived.OpenShut
import Derived.MakeChecks
import Derived.Carry
import Derived.ChangeVars
namespace Go.Proofs.YthmfkdlncnjjoaaDoor
open Go.ChangeShapes Go.WideShapes Go.ChangeAt Go.RowKit IM
set_option linter.unusedVariables false
def rowD {H : Type} (op : Int) : DataW H := .agg [.lit (.string (nameOf op)), .lit (.int .i64 (opc op)), .lit (.int .i64 (f3 op)), .lit (.int .i64 (f7 op))]
theorem laid_rows {H : Type} : (Rows.laid_loop_example_cothreads_impl_instrTable : DataW H) = .agg ((List.range 21).map fun j : Nat => rowD (Int.ofNat j + 1)) := rfl
section
variable {H : Type} {enc : TypeId × Value → H} {P : Program} {w : World} {base : Nat} {sp : Nat → Bool} {held : Bool}
theorem row4 {t a b : TypeId} {f0 f1 f2 f3 : Field} {fuel : Nat} {cs : List Value} {l : List UInt8} {x y z : Int} {p : List MemPlace}
    (hs : P.underlying t = some (.struct #[f0, f1, f2, f3])) (hC : P.cellsOf t = 4) (h0 : (f0.offset, f0.type) = (0, a)) (h1 : (f1.offset, f1.type) = (1, b)) (h2 : (f2.offset, f2.type) = (2, b)) (h3 : (f3.offset, f3.type) = (3, b))
    (ha : P.underlying a = some .string) (hb : P.underlying b = some (.int .i64)) (ca : P.cellsOf a = 1) (cb : P.cellsOf b = 1)
    (h : DataW.trod enc P w base sp held fuel t cs = some (.agg [.lit (.string l), .lit (.int .i64 x), .lit (.int .i64 y), .lit (.int .i64 z)], p)) : cs = [.string ⟨l.toArray⟩, .int .i64 x, .int .i64 y, .int .i64 z] := by
  obtain ⟨xs, n, _, hx, hlen, hxl, hg⟩ := DataW.trod_struct hs h
  rw [hC] at hlen
  simp only [Prod.mk.injEq] at h0 h1 h2 h3
  match cs, hlen with
  | [c0, c1, c2, c3], _ =>
    have g0 := hg 0 f0 rfl
    have g1 := hg 1 f1 rfl
    have g2 := hg 2 f2 rfl
    have g3 := hg 3 f3 rfl
    rw [h0.1, h0.2, ca] at g0
    rw [h1.1, h1.2, cb] at g1
    rw [h2.1, h2.2, cb] at g2
    rw [h3.1, h3.2, cb] at g3
    match xs, hxl with
    | [x0, x1, x2, x3], _ =>
      obtain ⟨s, e0, q0, _⟩ := DataW.trod_string ha g0
      obtain ⟨n1, e1, q1, _⟩ := DataW.trod_int hb g1
      obtain ⟨n2, e2, q2, _⟩ := DataW.trod_int hb g2
      obtain ⟨n3, e3, q3, _⟩ := DataW.trod_int hb g3
      subst q0 q1 q2 q3
      simp only [Prod.mk.injEq, List.map_cons, List.map_nil, DataW.agg.injEq, List.cons.injEq, DataW.lit.injEq, Lit.string.injEq, Lit.int.injEq, true_and, and_true] at hx
      obtain ⟨⟨r0, r1, r2, r3⟩, _⟩ := hx
      subst r1 r2 r3
      have r0' : s = ⟨l.toArray⟩ := by rw [r0]
      simp at e0 e1 e2 e3
      rw [e0, e1, e2, e3, r0']
theorem rows_of {t e a b : TypeId} {f0 f1 f2 f3 : Field} {fuel : Nat} {cs : List Value} {p : List MemPlace}
    (ht : P.underlying t = some (.array 21 e)) (hT : P.cellsOf t = 84)
    (hs : P.underlying e = some (.struct #[f0, f1, f2, f3])) (hC : P.cellsOf e = 4) (h0 : (f0.offset, f0.type) = (0, a)) (h1 : (f1.offset, f1.type) = (1, b)) (h2 : (f2.offset, f2.type) = (2, b)) (h3 : (f3.offset, f3.type) = (3, b))
    (ha : P.underlying a = some .string) (hb : P.underlying b = some (.int .i64)) (ca : P.cellsOf a = 1) (cb : P.cellsOf b = 1)
    (h : DataW.trod enc P w base sp held fuel t cs = some (.agg ((List.range 21).map fun j : Nat => rowD (Int.ofNat j + 1)), p)) : cs = tabCells := by
  obtain ⟨xs, m, _, hx, hlen, hxl, hel⟩ := DataW.trod_array ht h
  rw [hT] at hlen
  rw [hC] at hel
  have hx1 : xs.map (·.1) = (List.range 21).map fun j : Nat => (rowD (Int.ofNat j + 1) : DataW H) := by
    have := congrArg Prod.fst hx
    simpa using this.symm
  have hrow : ∀ j, j < 21 → (cs.drop (j * 4)).take 4 = rowOf (Int.ofNat j + 1) := by
    intro j hj
    have hj' : j < xs.length := by omega
    have e := hel j hj
    rw [List.getElem?_eq_getElem hj'] at e
    have e2 : (xs[j]'hj').1 = rowD (Int.ofNat j + 1) := by
      have := congrArg (·[j]?) hx1
      simpa [hj, hj'] using this
    have e3 : xs[j]'hj' = (rowD (Int.ofNat j + 1), (xs[j]'hj').2) := by rw [← e2]
    rw [e3] at e
    exact row4 hs hC h0 h1 h2 h3 ha hb ca cb e
  apply List.ext_getElem?
  intro i
  by_cases hi : i < 84
  · have hj : i / 4 < 21 := by omega
    have hk : i % 4 < 4 := by omega
    have e := congrArg (·[i % 4]?) (hrow (i / 4) hj)
    simp only [List.getElem?_take, List.getElem?_drop, if_pos hk] at e
    have e2 := tab_row (i / 4) (i % 4) hj hk
    have e3 : i / 4 * 4 + i % 4 = i := by omega
    rw [e3] at e e2
    rw [e, e2]
  · rw [List.getElem?_eq_none (by omega), List.getElem?_eq_none (by have : tabCells.length = 84 := rfl; omega)]
end
theorem globTy : (Tryd.prog.globals[0]?).map (·.type) = some 45 := by kernel_rfl
theorem tab_of_vars {W : World} {ps : List MemPlace} (h : DataW.LaidVars Tryd.prog W [("loop.example/cothreads/impl.instrTable", Rows.laid_loop_example_cothreads_impl_instrTable)] ps) : Tab W := by
  obtain ⟨g, t, cs, fuel, p, q, hg, ht, hv, hd, _, _⟩ := h
  obtain rfl := Option.some.inj (glob.symm.trans hg)
  obtain rfl := Option.some.inj (globTy.symm.trans ht)
  rw [laid_rows] at hd
  have e := rows_of Tryd.underlying45 (by kernel_rfl) Tryd.underlying44 (by kernel_rfl) (by kernel_rfl) (by kernel_rfl) (by kernel_rfl) (by kernel_rfl) Tryd.underlying9 Tryd.underlying3 (by kernel_rfl) (by kernel_rfl) hd
  refine ⟨_, glob, ?_, ?_⟩
  · rcases Nat.lt_or_ge 0 W.heap.size with h | h
    · exact h
    · unfold World.var? at hv
      simp only [glob, Option.bind_some, Array.getElem?_eq_none h] at hv
      cases hv
  · rw [hv, ← e]
theorem vars_keep {H : Type} {enc : TypeId × Value → H} {W W' : World} {gs : List (DataW H)} {q : List MemPlace} (hl : laidOutB Tryd.prog = true) (hT : Tab W)
    (h : DataW.TrodVars enc Tryd.prog W (fun _ => true) ["loop.example/cothreads/impl.instrTable"] gs q) (bel : Below W.heap.size W W') :
    ∃ d, gs = [d] ∧ DataW.TrodVars enc Tryd.prog W' (fun b => decide (b < W.heap.size)) ["loop.example/cothreads/impl.instrTable"] [d] q := by
  obtain ⟨g, t, cs, fuel, d, p, rfl, hg, ht, hv, hd, rfl⟩ := trodVars_one h
  have hg' := hg
  obtain rfl := Option.some.inj (glob.symm.trans hg)
  obtain rfl := Option.some.inj (globTy.symm.trans ht)
  obtain ⟨g', hg2, hlt, _⟩ := hT
  obtain rfl := Option.some.inj (hg'.symm.trans hg2)
  have hd' : DataW.Trod enc Tryd.prog W 0 (fun _ => true) true 45 (.agg cs) d p := ⟨fuel, hd⟩
  have lt : ∀ x ∈ p, x.block < W.heap.size := DataW.trod_lt fuel _ _ _ hd
  obtain ⟨fuel', hd2⟩ := Below.trod hl (by kernel_rfl) (of_decide_eq_true (by kernel_rfl)) hd' bel lt
  exact ⟨d, rfl, trodVars_mk1 hg' globTy (var?_below bel hg' hlt hv) hd2⟩
end Go.Proofs.YthmfkdlncnjjoaaDoor
