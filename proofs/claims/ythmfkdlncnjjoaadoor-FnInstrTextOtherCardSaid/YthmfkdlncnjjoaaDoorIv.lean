/- The walks of InstrValid, the program's and the reference's: both answer IM.iv. -/
import Derived.Test.YthmfkdlncnjjoaaDoorBa
import Derived.Test.YthmfkdlncnjjoaaDoorIm
namespace Go.Proofs.YthmfkdlncnjjoaaDoor
open Go.RowKit IM
set_option linter.unusedSimpArgs false
theorem tm2 (x : Int) : (x.tmod 2 = 0) = (x % 2 = 0) := propext ⟨fun h => by have := Int.dvd_of_tmod_eq_zero h; omega, fun h => Int.tmod_eq_zero_of_dvd (by omega)⟩
def fmt (op : Int) : Int := if 1 ≤ op ∧ op ≤ 11 then 82 else if 12 ≤ op ∧ op ≤ 15 then 73 else if op = 16 then 83 else if op = 17 ∨ op = 18 then 66 else if op = 19 then 85 else if op = 20 then 74 else if op = 21 then 69 else 32
set_option maxHeartbeats 400000 in
theorem formatOf_any (op : Int) (w : World) :
    Calls Tryd.prog 31 #[.int .i64 op] w fun e w' => e = .returned (.int .u8 (fmt op)) ∧ w = w' := by
  go_enter Tryd.func31, Tryd.ntmps31
  go_wp2
  all_goals
    go_ret
    refine ⟨ret_int ?_, rfl⟩
    try simp only [beq_iff_eq, beq_eq_false_iff_ne] at *
    unfold fmt
    (repeat' split) <;> omega
set_option maxHeartbeats 400000 in
theorem isMachineReg_any (r : Int) (w : World) :
    Calls Tryd.prog 50 #[.int .i64 r] w fun e w' => e = .returned (.bool (decide (reg r))) ∧ w = w' := by
  go_enter Tryd.func50, Tryd.ntmps50
  go_wp2
  all_goals
    go_ret
    refine ⟨ret_bool ?_, rfl⟩
    first | exact decide_eq_decide.mpr ⟨fun h => ⟨by omega, h⟩, fun h => h.2⟩ | exact (decide_eq_false (by unfold reg; omega)).symm
theorem fmt_cases (op : Int) : (fmt op = 82 ∧ 1 ≤ op ∧ op ≤ 11) ∨ (fmt op = 73 ∧ 12 ≤ op ∧ op ≤ 15) ∨ (fmt op = 83 ∧ op = 16) ∨ (fmt op = 66 ∧ 17 ≤ op ∧ op ≤ 18) ∨ (fmt op = 85 ∧ op = 19) ∨ (fmt op = 74 ∧ op = 20) ∨ (fmt op = 69 ∧ op = 21) ∨ (fmt op = 32 ∧ (op < 1 ∨ 21 < op)) := by
  unfold fmt
  (repeat' split) <;> omega
set_option maxRecDepth 100000 in
set_option maxHeartbeats 4000000 in
theorem instrValid_any (op rd rs rt imm : Int) (w : World) :
    Calls Tryd.prog 25 #[.agg #[.int .i64 op, .int .i64 rd, .int .i64 rs, .int .i64 rt, .int .i64 imm]] w fun e w' => e = .returned (.bool (iv op rd rs rt imm)) ∧ Below w.heap.size w w' := by
  have hf := fmt_cases op
  go_enter Tryd.func25, Tryd.ntmps25
  go_wp2
  go_quiet ((go_at_call 50; exact q_of (isMachineReg_any _ _)))
  rcases hf with ⟨hf, h1, h2⟩ | ⟨hf, h1, h2⟩ | ⟨hf, h1⟩ | ⟨hf, h1, h2⟩ | ⟨hf, h1⟩ | ⟨hf, h1⟩ | ⟨hf, h1⟩ | ⟨hf, h1⟩
  all_goals
    have H := Lib.hid h1; clear h1
    go_wp2_with (first | (go_at_call 31; refine (formatOf_any _ _).mono ?_; rintro e w' ⟨rfl, rfl⟩))
  all_goals
    have h1 := H.out
    clear H
    go_ret
    refine ⟨ret_bool ?_, by repeat (first | exact Below.refl _ _ | apply bl_alloc | apply bl_drewN | apply bl_drew)⟩
    try simp only [beq_iff_eq, beq_eq_false_iff_ne, ne_eq] at *
    rw [Bool.eq_iff_iff]
    simp only [iv_iff, IV, reg, tm2, decide_eq_true_eq, beq_iff_eq, Bool.and_eq_true, Bool.false_eq_true, iff_false, iff_true, Bool.true_eq_false, false_iff, true_iff] at *
    omega
end Go.Proofs.YthmfkdlncnjjoaaDoor
