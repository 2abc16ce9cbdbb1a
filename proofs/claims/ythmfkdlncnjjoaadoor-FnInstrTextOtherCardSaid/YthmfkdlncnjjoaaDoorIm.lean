/- Plain laws on the fields of an instruction: no program in sight. -/
namespace Go.Proofs.YthmfkdlncnjjoaaDoor.IM
def reg (r : Int) : Prop := 0 ≤ r ∧ r < 32
def IV (op rd rs rt imm : Int) : Prop :=
  (1 ≤ op ∧ op ≤ 11 ∧ reg rd ∧ reg rs ∧ reg rt ∧ imm = 0) ∨
  (12 ≤ op ∧ op ≤ 15 ∧ reg rd ∧ reg rs ∧ rt = 0 ∧ -2048 ≤ imm ∧ imm ≤ 2047) ∨
  (op = 16 ∧ rd = 0 ∧ reg rs ∧ reg rt ∧ -2048 ≤ imm ∧ imm ≤ 2047) ∨
  (17 ≤ op ∧ op ≤ 18 ∧ rd = 0 ∧ reg rs ∧ reg rt ∧ -4096 ≤ imm ∧ imm ≤ 4094 ∧ imm % 2 = 0) ∨
  (op = 19 ∧ reg rd ∧ rs = 0 ∧ rt = 0 ∧ 0 ≤ imm ∧ imm ≤ 1048575) ∨
  (op = 20 ∧ reg rd ∧ rs = 0 ∧ rt = 0 ∧ -1048576 ≤ imm ∧ imm ≤ 1048574 ∧ imm % 2 = 0) ∨
  (op = 21 ∧ rd = 0 ∧ rs = 0 ∧ rt = 0 ∧ imm = 0)
instance (r : Int) : Decidable (reg r) := by unfold reg; infer_instance
instance (op rd rs rt imm : Int) : Decidable (IV op rd rs rt imm) := by unfold IV; infer_instance
def iv (op rd rs rt imm : Int) : Bool := decide (IV op rd rs rt imm)

theorem iv_iff {op rd rs rt imm : Int} : iv op rd rs rt imm = true ↔ IV op rd rs rt imm := decide_eq_true_iff
def f3 (op : Int) : Int := if op = 4 then 4 else if op = 5 then 6 else if op = 6 then 7 else if op = 7 then 6 else if op = 8 then 4 else if op = 9 then 1 else if op = 10 then 5 else if op = 11 then 2 else if op = 13 then 3 else if op = 14 then 2 else if op = 16 then 2 else if op = 18 then 1 else 0
def f7 (op : Int) : Int := if op = 2 then 32 else if op = 3 then 1 else if op = 4 then 1 else if op = 5 then 1 else if op = 10 then 32 else 0
def opc (op : Int) : Int := if op ≤ 11 then 51 else if op ≤ 13 then 19 else if op = 14 then 3 else if op = 15 then 103 else if op = 16 then 35 else if op ≤ 18 then 99 else if op = 19 then 55 else if op = 20 then 111 else 115

def E (op rd rs rt imm : Int) : Int :=
  if op ≤ 11 then f7 op * 33554432 + rt * 1048576 + rs * 32768 + f3 op * 4096 + rd * 128 + 51
  else if op ≤ 15 then imm % 4096 * 1048576 + rs * 32768 + f3 op * 4096 + rd * 128 + opc op
  else if op = 16 then imm % 4096 / 32 * 33554432 + rt * 1048576 + rs * 32768 + f3 op * 4096 + imm % 32 * 128 + 35
  else if op ≤ 18 then imm % 8192 / 4096 * 2147483648 + imm % 2048 / 32 * 33554432 + rt * 1048576 + rs * 32768 + f3 op * 4096 + imm % 32 / 2 * 256 + imm % 4096 / 2048 * 128 + 99
  else if op = 19 then imm * 4096 + rd * 128 + 55
  else if op = 20 then imm % 2097152 / 1048576 * 2147483648 + imm % 2048 / 2 * 2097152 + imm % 4096 / 2048 * 1048576 + imm % 1048576 / 4096 * 4096 + rd * 128 + 111
  else 115

theorem f3_bd (op : Int) : 0 ≤ f3 op ∧ f3 op ≤ 7 := by unfold f3; repeat' split
                                                       all_goals omega
theorem f7_bd (op : Int) : 0 ≤ f7 op ∧ f7 op ≤ 32 := by unfold f7; repeat' split
                                                        all_goals omega
end Go.Proofs.YthmfkdlncnjjoaaDoor.IM
