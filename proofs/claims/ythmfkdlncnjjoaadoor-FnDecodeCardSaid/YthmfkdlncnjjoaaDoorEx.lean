/- Plain laws on the code of an instruction: its lowest bits, its sign, its registers. -/
import Derived.Test.YthmfkdlncnjjoaaDoorEm
namespace Go.Proofs.YthmfkdlncnjjoaaDoor.IM
set_option linter.unusedVariables false
theorem opc_low (op : Int) (h1 : 1 ≤ op) (h2 : op ≤ 21) : opc op % 4 = 3 ∧ opc op / 4 % 8 ≠ 7 ∧ 0 ≤ opc op ∧ opc op < 128 := by
  rcases (by omega : op = 1 ∨ op = 2 ∨ op = 3 ∨ op = 4 ∨ op = 5 ∨ op = 6 ∨ op = 7 ∨ op = 8 ∨ op = 9 ∨ op = 10 ∨ op = 11 ∨ op = 12 ∨ op = 13 ∨ op = 14 ∨ op = 15 ∨ op = 16 ∨ op = 17 ∨ op = 18 ∨ op = 19 ∨ op = 20 ∨ op = 21) with rfl | rfl | rfl | rfl | rfl | rfl | rfl | rfl | rfl | rfl | rfl | rfl | rfl | rfl | rfl | rfl | rfl | rfl | rfl | rfl | rfl
  all_goals decide
theorem E_low {op rd rs rt imm : Int} (h : IV op rd rs rt imm) : E op rd rs rt imm % 4 = 3 ∧ E op rd rs rt imm / 4 % 8 ≠ 7 := by
  have a := (E_opc h).1
  have b := opc_low op h.split.1 h.split.2
  omega
theorem E_fields {op rd rs rt imm : Int} (h : IV op rd rs rt imm) : (op ≠ 16 → op ≠ 17 → op ≠ 18 → E op rd rs rt imm / 128 % 32 = rd) ∧ (op ≠ 19 → op ≠ 20 → E op rd rs rt imm / 32768 % 32 = rs) := by
  have d := dec_E h
  have s := h.split
  by_cases h21 : op = 21
  · subst h21
    have : rd = 0 ∧ rs = 0 := by unfold IV at h; omega
    obtain ⟨rfl, rfl⟩ := this
    exact ⟨fun _ _ _ => by unfold E; simp, fun _ _ => by unfold E; simp⟩
  · refine ⟨fun a b c => ?_, fun a b => ?_⟩
    · have e := d.1
      unfold dRd at e
      by_cases h1 : op ≤ 15
      · rw [if_pos h1] at e; exact e
      · rw [if_neg h1] at e
        by_cases h2 : op = 19
        · rw [if_pos h2] at e; exact e
        · rw [if_neg h2, if_pos (by omega)] at e; exact e
    · have e := d.2.1
      unfold dRs at e
      rw [if_pos (by omega)] at e
      exact e
theorem E_sign {op rd rs rt imm : Int} (h : IV op rd rs rt imm) (ho : (12 ≤ op ∧ op ≤ 18) ∨ op = 20) : (E op rd rs rt imm / 2147483648 % 2 = 1 ↔ imm < 0) ∧ 0 ≤ E op rd rs rt imm / 2147483648 % 2 ∧ E op rd rs rt imm / 2147483648 % 2 < 2 := by
  have a := f3_bd op
  have c := opc_low op h.split.1 h.split.2
  refine ⟨?_, by omega, by omega⟩
  unfold IV reg at h
  rcases h with h | h | h | h | h | h | h
  · omega
  · unfold E; rw [if_neg (by omega), if_pos (by omega)]; omega
  · unfold E; rw [if_neg (by omega), if_neg (by omega), if_pos (by omega)]
    have b1 : 0 ≤ imm % 4096 / 32 ∧ imm % 4096 / 32 ≤ 127 := by omega
    have b2 : 0 ≤ imm % 32 ∧ imm % 32 ≤ 31 := by omega
    have b3 : imm % 4096 / 32 ≥ 64 ↔ imm < 0 := by omega
    generalize imm % 4096 / 32 = x1 at *
    generalize imm % 32 = x2 at *
    omega
  · unfold E; rw [if_neg (by omega), if_neg (by omega), if_neg (by omega), if_pos (by omega)]
    have b1 : 0 ≤ imm % 8192 / 4096 ∧ imm % 8192 / 4096 ≤ 1 := by omega
    have b2 : 0 ≤ imm % 2048 / 32 ∧ imm % 2048 / 32 ≤ 63 := by omega
    have b3 : 0 ≤ imm % 32 / 2 ∧ imm % 32 / 2 ≤ 15 := by omega
    have b4 : 0 ≤ imm % 4096 / 2048 ∧ imm % 4096 / 2048 ≤ 1 := by omega
    have b5 : imm % 8192 / 4096 = 1 ↔ imm < 0 := by omega
    generalize imm % 8192 / 4096 = x1 at *
    generalize imm % 2048 / 32 = x2 at *
    generalize imm % 32 / 2 = x3 at *
    generalize imm % 4096 / 2048 = x4 at *
    omega
  · omega
  · unfold E; rw [if_neg (by omega), if_neg (by omega), if_neg (by omega), if_neg (by omega), if_neg (by omega), if_pos (by omega)]
    have b1 : 0 ≤ imm % 2097152 / 1048576 ∧ imm % 2097152 / 1048576 ≤ 1 := by omega
    have b2 : 0 ≤ imm % 2048 / 2 ∧ imm % 2048 / 2 ≤ 1023 := by omega
    have b3 : 0 ≤ imm % 1048576 / 4096 ∧ imm % 1048576 / 4096 ≤ 255 := by omega
    have b4 : 0 ≤ imm % 4096 / 2048 ∧ imm % 4096 / 2048 ≤ 1 := by omega
    have b5 : imm % 2097152 / 1048576 = 1 ↔ imm < 0 := by omega
    generalize imm % 2097152 / 1048576 = x1 at *
    generalize imm % 2048 / 2 = x2 at *
    generalize imm % 1048576 / 4096 = x3 at *
    generalize imm % 4096 / 2048 = x4 at *
    omega
  · omega
end Go.Proofs.YthmfkdlncnjjoaaDoor.IM
