/- The table of instructions, as it is laid. -/
import Derived.Test.YthmfkdlncnjjoaaDoorEn
import Derived.Test.YthmfkdlncnjjoaaDoorDr
import Derived.Lib.LaidTab
import Derived.WalkSmall
namespace Go.Proofs.YthmfkdlncnjjoaaDoor
open Go.RowKit IM
set_option linter.unusedSimpArgs false
def nameOf (op : Int) : List UInt8 := if op = 1 then [97, 100, 100] else if op = 2 then [115, 117, 98] else if op = 3 then [109, 117, 108] else if op = 4 then [100, 105, 118] else if op = 5 then [114, 101, 109] else if op = 6 then [97, 110, 100] else if op = 7 then [111, 114] else if op = 8 then [120, 111, 114] else if op = 9 then [115, 108, 108] else if op = 10 then [115, 114, 97] else if op = 11 then [115, 108, 116] else if op = 12 then [97, 100, 100, 105] else if op = 13 then [115, 108, 116, 105, 117] else if op = 14 then [108, 119] else if op = 15 then [106, 97, 108, 114] else if op = 16 then [115, 119] else if op = 17 then [98, 101, 113] else if op = 18 then [98, 110, 101] else if op = 19 then [108, 117, 105] else if op = 20 then [106, 97, 108] else [101, 99, 97, 108, 108]
def rowOf (op : Int) : List Value := [.string ⟨(nameOf op).toArray⟩, .int .i64 (opc op), .int .i64 (f3 op), .int .i64 (f7 op)]
def tabCells : List Value := (List.range 21).flatMap (fun j : Nat => rowOf (Int.ofNat j + 1))
/-- The table reads as it is laid. -/
def Tab (w : World) : Prop := ∃ g, Tryd.prog.globalNamed "loop.example/cothreads/impl.instrTable" = some g ∧ g < w.heap.size ∧ w.var? Tryd.prog "loop.example/cothreads/impl.instrTable" = some tabCells.toArray
theorem glob : Tryd.prog.globalNamed "loop.example/cothreads/impl.instrTable" = some 0 := by kernel_rfl
theorem Tab.cell {w : World} (h : Tab w) (i : Nat) : w.cell? ⟨0, i, none⟩ = tabCells[i]? := by
  obtain ⟨g, hg, _, hv⟩ := h
  have := World.var?_cell hg hv i
  obtain rfl := Option.some.inj (hg.symm.trans glob)
  simpa using this
theorem tab_row (j k : Nat) (hj : j < 21) (hk : k < 4) : tabCells[j * 4 + k]? = (rowOf (Int.ofNat j + 1))[k]? := by
  rcases (by omega : j = 0 ∨ j = 1 ∨ j = 2 ∨ j = 3 ∨ j = 4 ∨ j = 5 ∨ j = 6 ∨ j = 7 ∨ j = 8 ∨ j = 9 ∨ j = 10 ∨ j = 11 ∨ j = 12 ∨ j = 13 ∨ j = 14 ∨ j = 15 ∨ j = 16 ∨ j = 17 ∨ j = 18 ∨ j = 19 ∨ j = 20) with rfl | rfl | rfl | rfl | rfl | rfl | rfl | rfl | rfl | rfl | rfl | rfl | rfl | rfl | rfl | rfl | rfl | rfl | rfl | rfl | rfl
  all_goals
    rcases (by omega : k = 0 ∨ k = 1 ∨ k = 2 ∨ k = 3) with rfl | rfl | rfl | rfl <;> rfl
theorem Tab.row {w : World} (h : Tab w) (op : Int) (h1 : 1 ≤ op) (h2 : op ≤ 21) :
    w.cell? ⟨0, (op.toNat - 1) * 4, none⟩ = some (.string ⟨(nameOf op).toArray⟩) ∧ w.cell? ⟨0, (op.toNat - 1) * 4 + 1, none⟩ = some (.int .i64 (opc op)) ∧
    w.cell? ⟨0, (op.toNat - 1) * 4 + 2, none⟩ = some (.int .i64 (f3 op)) ∧ w.cell? ⟨0, (op.toNat - 1) * 4 + 3, none⟩ = some (.int .i64 (f7 op)) := by
  have e : Int.ofNat (op - 1).toNat + 1 = op := by simp; omega
  have hj : (op - 1).toNat < 21 := by omega
  have t0 := tab_row (op - 1).toNat 0 hj (by omega)
  have t1 := tab_row (op - 1).toNat 1 hj (by omega)
  have t2 := tab_row (op - 1).toNat 2 hj (by omega)
  have t3 := tab_row (op - 1).toNat 3 hj (by omega)
  rw [e] at t0 t1 t2 t3
  have e2 : op.toNat - 1 = (op - 1).toNat := by omega
  rw [e2]
  exact ⟨(h.cell _).trans t0, (h.cell _).trans t1, (h.cell _).trans t2, (h.cell _).trans t3⟩
theorem Tab.below {w w' : World} (h : Tab w) (hb : Below w.heap.size w w') : Tab w' := by
  obtain ⟨g, hg, hlt, hv⟩ := h
  exact ⟨g, hg, Nat.lt_of_lt_of_le hlt hb.size, var?_below hb hg hlt hv⟩
end Go.Proofs.YthmfkdlncnjjoaaDoor
