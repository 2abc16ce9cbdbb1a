/- Plain laws on the code of an instruction: what is encoded is decoded, and the other way. -/
import Derived.Test.YthmfkdlncnjjoaaDoorIm
namespace Go.Proofs.YthmfkdlncnjjoaaDoor.IM
def sx (x h : Int) : Int := if h ≤ x then x - 2 * h else x
def dRd (op u : Int) : Int := if op ≤ 15 then u / 128 % 32 else if op = 19 then u / 128 % 32 else if op = 20 then u / 128 % 32 else 0
def dRs (op u : Int) : Int := if op ≤ 18 then u / 32768 % 32 else 0
def dRt (op u : Int) : Int := if op ≤ 11 then u / 1048576 % 32 else if op ≤ 15 then 0 else if op ≤ 18 then u / 1048576 % 32 else 0
def dIm (op u : Int) : Int :=
  if op ≤ 11 then 0 else if op ≤ 15 then sx (u / 1048576) 2048 else if op = 16 then sx (u / 33554432 * 32 + u / 128 % 32) 2048
  else if op ≤ 18 then sx (u / 2147483648 * 4096 + u / 128 % 2 * 2048 + u / 33554432 % 64 * 32 + u / 256 % 16 * 2) 4096
  else if op = 19 then u / 4096 else if op = 20 then sx (u / 2147483648 * 1048576 + u / 4096 % 256 * 4096 + u / 1048576 % 2 * 2048 + u / 2097152 % 1024 * 2) 1048576 else 0
theorem IV.split {op rd rs rt imm : Int} (h : IV op rd rs rt imm) : 1 ≤ op ∧ op ≤ 21 := by unfold IV at h; omega
theorem E_range {op rd rs rt imm : Int} (h : IV op rd rs rt imm) : 0 ≤ E op rd rs rt imm ∧ E op rd rs rt imm < 4294967296 := by
  have a := f3_bd op
  have b := f7_bd op
  have c : 0 ≤ opc op ∧ opc op ≤ 127 := by unfold opc; (repeat' split) <;> omega
  unfold IV reg at h
  rcases h with h | h | h | h | h | h | h
  · unfold E; rw [if_pos (by omega)]; omega
  · unfold E; rw [if_neg (by omega), if_pos (by omega)]; omega
  · unfold E; rw [if_neg (by omega), if_neg (by omega), if_pos (by omega)]; omega
  · unfold E; rw [if_neg (by omega), if_neg (by omega), if_neg (by omega), if_pos (by omega)]; omega
  · unfold E; rw [if_neg (by omega), if_neg (by omega), if_neg (by omega), if_neg (by omega), if_pos (by omega)]; omega
  · unfold E; rw [if_neg (by omega), if_neg (by omega), if_neg (by omega), if_neg (by omega), if_neg (by omega), if_pos (by omega)]; omega
  · unfold E; rw [if_neg (by omega), if_neg (by omega), if_neg (by omega), if_neg (by omega), if_neg (by omega), if_neg (by omega)]; omega
theorem E_opc {op rd rs rt imm : Int} (h : IV op rd rs rt imm) : E op rd rs rt imm % 128 = opc op ∧ (op ≤ 18 → E op rd rs rt imm / 4096 % 8 = f3 op) ∧ (op ≤ 11 → E op rd rs rt imm / 33554432 = f7 op) := by
  have a := f3_bd op
  have b := f7_bd op
  have c : 0 ≤ opc op ∧ opc op ≤ 127 := by unfold opc; (repeat' split) <;> omega
  unfold IV reg at h
  rcases h with h | h | h | h | h | h | h
  · have e : opc op = 51 := by unfold opc; rw [if_pos (by omega)]
    unfold E; rw [if_pos (by omega), e]; refine ⟨by omega, fun _ => by omega, fun _ => by omega⟩
  · unfold E; rw [if_neg (by omega), if_pos (by omega)]; refine ⟨by omega, fun _ => by omega, fun _ => by omega⟩
  · have e : opc op = 35 := by rw [h.1]; rfl
    unfold E; rw [if_neg (by omega), if_neg (by omega), if_pos (by omega), e]; refine ⟨by omega, fun _ => by omega, fun _ => by omega⟩
  · have e : opc op = 99 := by unfold opc; rw [if_neg (by omega), if_neg (by omega), if_neg (by omega), if_neg (by omega), if_neg (by omega), if_pos (by omega)]
    have b1 : 0 ≤ imm % 8192 / 4096 ∧ imm % 8192 / 4096 ≤ 1 := by omega
    have b2 : 0 ≤ imm % 2048 / 32 ∧ imm % 2048 / 32 ≤ 63 := by omega
    have b3 : 0 ≤ imm % 32 / 2 ∧ imm % 32 / 2 ≤ 15 := by omega
    have b4 : 0 ≤ imm % 4096 / 2048 ∧ imm % 4096 / 2048 ≤ 1 := by omega
    unfold E; rw [if_neg (by omega), if_neg (by omega), if_neg (by omega), if_pos (by omega), e]
    generalize imm % 8192 / 4096 = x1 at *
    generalize imm % 2048 / 32 = x2 at *
    generalize imm % 32 / 2 = x3 at *
    generalize imm % 4096 / 2048 = x4 at *
    refine ⟨by omega, fun _ => by omega, fun _ => by omega⟩
  · have e : opc op = 55 := by rw [h.1]; rfl
    unfold E; rw [if_neg (by omega), if_neg (by omega), if_neg (by omega), if_neg (by omega), if_pos (by omega), e]; refine ⟨by omega, fun _ => by omega, fun _ => by omega⟩
  · have e : opc op = 111 := by rw [h.1]; rfl
    unfold E; rw [if_neg (by omega), if_neg (by omega), if_neg (by omega), if_neg (by omega), if_neg (by omega), if_pos (by omega), e]; refine ⟨by omega, fun _ => by omega, fun _ => by omega⟩
  · have e : opc op = 115 := by rw [h.1]; rfl
    unfold E; rw [if_neg (by omega), if_neg (by omega), if_neg (by omega), if_neg (by omega), if_neg (by omega), if_neg (by omega), e]; refine ⟨by omega, fun _ => by omega, fun _ => by omega⟩
theorem dec_E {op rd rs rt imm : Int} (h : IV op rd rs rt imm) : dRd op (E op rd rs rt imm) = rd ∧ dRs op (E op rd rs rt imm) = rs ∧ dRt op (E op rd rs rt imm) = rt ∧ dIm op (E op rd rs rt imm) = imm := by
  have a := f3_bd op
  have b := f7_bd op
  have c : 0 ≤ opc op ∧ opc op ≤ 127 := by unfold opc; (repeat' split) <;> omega
  unfold IV reg at h
  rcases h with h | h | h | h | h | h | h
  · unfold E dRd dRs dRt dIm
    simp only [if_pos (show op ≤ 11 by omega), if_pos (show op ≤ 15 by omega), if_pos (show op ≤ 18 by omega)]
    refine ⟨?_, ?_, ?_, ?_⟩ <;> omega
  · unfold E dRd dRs dRt dIm sx
    simp only [if_neg (show ¬ op ≤ 11 by omega), if_pos (show op ≤ 15 by omega), if_pos (show op ≤ 18 by omega)]
    refine ⟨?_, ?_, ?_, ?_⟩ <;> (try split) <;> omega
  · unfold E dRd dRs dRt dIm sx
    simp only [if_neg (show ¬ op ≤ 11 by omega), if_neg (show ¬ op ≤ 15 by omega), if_pos (show op ≤ 18 by omega), if_pos (show op = 16 by omega), if_neg (show ¬ op = 19 by omega), if_neg (show ¬ op = 20 by omega)]
    have b1 : 0 ≤ imm % 4096 / 32 ∧ imm % 4096 / 32 ≤ 127 := by omega
    have b2 : 0 ≤ imm % 32 ∧ imm % 32 ≤ 31 := by omega
    have r : imm % 4096 = 32 * (imm % 4096 / 32) + imm % 32 := by omega
    generalize imm % 4096 / 32 = x1 at *
    generalize imm % 32 = x2 at *
    have q : ∃ u, u = x1 * 33554432 + rt * 1048576 + rs * 32768 + f3 op * 4096 + x2 * 128 + 35 := ⟨_, rfl⟩
    obtain ⟨u, hu⟩ := q
    rw [← hu]
    have q0 : u / 33554432 = x1 := by omega
    have q1 : u / 1048576 = x1 * 32 + rt := by omega
    have q2 : u / 32768 = (x1 * 32 + rt) * 32 + rs := by omega
    have q3 : u / 128 = ((x1 * 32 + rt) * 32 + rs) * 256 + f3 op * 32 + x2 := by omega
    have m0 : u / 128 % 32 = x2 := by rw [q3]; omega
    have m1 : u / 1048576 % 32 = rt := by rw [q1]; omega
    have m2 : u / 32768 % 32 = rs := by rw [q2]; omega
    clear hu q1 q2 q3
    refine ⟨?_, ?_, ?_, ?_⟩ <;> (try split) <;> omega
  · unfold E dRd dRs dRt dIm sx
    simp only [if_neg (show ¬ op ≤ 11 by omega), if_neg (show ¬ op ≤ 15 by omega), if_pos (show op ≤ 18 by omega), if_neg (show ¬ op = 16 by omega), if_neg (show ¬ op = 19 by omega), if_neg (show ¬ op = 20 by omega)]
    have b1 : 0 ≤ imm % 8192 / 4096 ∧ imm % 8192 / 4096 ≤ 1 := by omega
    have b2 : 0 ≤ imm % 2048 / 32 ∧ imm % 2048 / 32 ≤ 63 := by omega
    have b3 : 0 ≤ imm % 32 / 2 ∧ imm % 32 / 2 ≤ 15 := by omega
    have b4 : 0 ≤ imm % 4096 / 2048 ∧ imm % 4096 / 2048 ≤ 1 := by omega
    have r : imm % 8192 = 4096 * (imm % 8192 / 4096) + 2048 * (imm % 4096 / 2048) + 32 * (imm % 2048 / 32) + 2 * (imm % 32 / 2) := by omega
    generalize imm % 8192 / 4096 = x1 at *
    generalize imm % 2048 / 32 = x2 at *
    generalize imm % 32 / 2 = x3 at *
    generalize imm % 4096 / 2048 = x4 at *
    have q : ∃ u, u = x1 * 2147483648 + x2 * 33554432 + rt * 1048576 + rs * 32768 + f3 op * 4096 + x3 * 256 + x4 * 128 + 99 := ⟨_, rfl⟩
    obtain ⟨u, hu⟩ := q
    rw [← hu]
    have q0 : u / 2147483648 = x1 := by omega
    have q1 : u / 33554432 = x1 * 64 + x2 := by omega
    have q2 : u / 1048576 = (x1 * 64 + x2) * 32 + rt := by omega
    have q3 : u / 32768 = ((x1 * 64 + x2) * 32 + rt) * 32 + rs := by omega
    have q4 : u / 256 = (((x1 * 64 + x2) * 32 + rt) * 32 + rs) * 128 + f3 op * 16 + x3 := by omega
    have q5 : u / 128 = ((((x1 * 64 + x2) * 32 + rt) * 32 + rs) * 128 + f3 op * 16 + x3) * 2 + x4 := by omega
    have m0 : u / 128 % 2 = x4 := by rw [q5]; omega
    have m1 : u / 33554432 % 64 = x2 := by rw [q1]; omega
    have m2 : u / 256 % 16 = x3 := by rw [q4]; omega
    have m3 : u / 1048576 % 32 = rt := by rw [q2]; omega
    have m4 : u / 32768 % 32 = rs := by rw [q3]; omega
    clear hu q1 q2 q3 q4 q5
    refine ⟨?_, ?_, ?_, ?_⟩ <;> (try split) <;> omega
  · unfold E dRd dRs dRt dIm sx
    simp only [if_neg (show ¬ op ≤ 11 by omega), if_neg (show ¬ op ≤ 15 by omega), if_neg (show ¬ op ≤ 18 by omega), if_neg (show ¬ op = 16 by omega), if_pos (show op = 19 by omega)]
    refine ⟨?_, ?_, ?_, ?_⟩ <;> omega
  · unfold E dRd dRs dRt dIm sx
    simp only [if_neg (show ¬ op ≤ 11 by omega), if_neg (show ¬ op ≤ 15 by omega), if_neg (show ¬ op ≤ 18 by omega), if_neg (show ¬ op = 16 by omega), if_neg (show ¬ op = 19 by omega), if_pos (show op = 20 by omega)]
    have b1 : 0 ≤ imm % 2097152 / 1048576 ∧ imm % 2097152 / 1048576 ≤ 1 := by omega
    have b2 : 0 ≤ imm % 2048 / 2 ∧ imm % 2048 / 2 ≤ 1023 := by omega
    have b3 : 0 ≤ imm % 1048576 / 4096 ∧ imm % 1048576 / 4096 ≤ 255 := by omega
    have b4 : 0 ≤ imm % 4096 / 2048 ∧ imm % 4096 / 2048 ≤ 1 := by omega
    have r : imm % 2097152 = 1048576 * (imm % 2097152 / 1048576) + 4096 * (imm % 1048576 / 4096) + 2048 * (imm % 4096 / 2048) + 2 * (imm % 2048 / 2) := by omega
    generalize imm % 2097152 / 1048576 = x1 at *
    generalize imm % 2048 / 2 = x2 at *
    generalize imm % 1048576 / 4096 = x3 at *
    generalize imm % 4096 / 2048 = x4 at *
    have q : ∃ u, u = x1 * 2147483648 + x2 * 2097152 + x4 * 1048576 + x3 * 4096 + rd * 128 + 111 := ⟨_, rfl⟩
    obtain ⟨u, hu⟩ := q
    rw [← hu]
    have q0 : u / 2147483648 = x1 := by omega
    have q1 : u / 2097152 = x1 * 1024 + x2 := by omega
    have q2 : u / 1048576 = (x1 * 1024 + x2) * 2 + x4 := by omega
    have q3 : u / 4096 = ((x1 * 1024 + x2) * 2 + x4) * 256 + x3 := by omega
    have q4 : u / 128 = (((x1 * 1024 + x2) * 2 + x4) * 256 + x3) * 32 + rd := by omega
    have m0 : u / 4096 % 256 = x3 := by rw [q3]; omega
    have m1 : u / 1048576 % 2 = x4 := by rw [q2]; omega
    have m2 : u / 2097152 % 1024 = x2 := by rw [q1]; omega
    have m3 : u / 128 % 32 = rd := by rw [q4]; omega
    clear hu q1 q2 q3 q4
    refine ⟨?_, ?_, ?_, ?_⟩ <;> (try split) <;> omega
  · unfold E dRd dRs dRt dIm sx
    simp only [if_neg (show ¬ op ≤ 11 by omega), if_neg (show ¬ op ≤ 15 by omega), if_neg (show ¬ op ≤ 18 by omega), if_neg (show ¬ op = 16 by omega), if_neg (show ¬ op = 19 by omega), if_neg (show ¬ op = 20 by omega)]
    refine ⟨?_, ?_, ?_, ?_⟩ <;> omega
theorem dec_valid (op u : Int) (h1 : 1 ≤ op) (h2 : op ≤ 21) (u0 : 0 ≤ u) (u1 : u < 4294967296) : IV op (dRd op u) (dRs op u) (dRt op u) (dIm op u) := by
  rcases (by omega : op ≤ 11 ∨ (12 ≤ op ∧ op ≤ 15) ∨ op = 16 ∨ (17 ≤ op ∧ op ≤ 18) ∨ op = 19 ∨ op = 20 ∨ op = 21) with h | h | h | h | h | h | h
  · have a0 : dRd op u = u / 128 % 32 := by unfold dRd; (repeat' split) <;> first | rfl | omega
    have a1 : dRs op u = u / 32768 % 32 := by unfold dRs; (repeat' split) <;> first | rfl | omega
    have a2 : dRt op u = u / 1048576 % 32 := by unfold dRt; (repeat' split) <;> first | rfl | omega
    have a3 : dIm op u = 0 := by unfold dIm; (repeat' split) <;> first | rfl | omega
    rw [a0, a1, a2, a3]
    unfold IV reg
    refine .inl ?_
    omega
  · have a0 : dRd op u = u / 128 % 32 := by unfold dRd; (repeat' split) <;> first | rfl | omega
    have a1 : dRs op u = u / 32768 % 32 := by unfold dRs; (repeat' split) <;> first | rfl | omega
    have a2 : dRt op u = 0 := by unfold dRt; (repeat' split) <;> first | rfl | omega
    have a3 : dIm op u = sx (u / 1048576) 2048 := by unfold dIm; (repeat' split) <;> first | rfl | omega
    rw [a0, a1, a2, a3]
    unfold IV reg
    refine .inr (.inl ?_)
    unfold sx
    split <;> omega
  · have a0 : dRd op u = 0 := by unfold dRd; (repeat' split) <;> first | rfl | omega
    have a1 : dRs op u = u / 32768 % 32 := by unfold dRs; (repeat' split) <;> first | rfl | omega
    have a2 : dRt op u = u / 1048576 % 32 := by unfold dRt; (repeat' split) <;> first | rfl | omega
    have a3 : dIm op u = sx (u / 33554432 * 32 + u / 128 % 32) 2048 := by unfold dIm; (repeat' split) <;> first | rfl | omega
    rw [a0, a1, a2, a3]
    unfold IV reg
    refine .inr (.inr (.inl ?_))
    unfold sx
    split <;> omega
  · have a0 : dRd op u = 0 := by unfold dRd; (repeat' split) <;> first | rfl | omega
    have a1 : dRs op u = u / 32768 % 32 := by unfold dRs; (repeat' split) <;> first | rfl | omega
    have a2 : dRt op u = u / 1048576 % 32 := by unfold dRt; (repeat' split) <;> first | rfl | omega
    have a3 : dIm op u = sx (u / 2147483648 * 4096 + u / 128 % 2 * 2048 + u / 33554432 % 64 * 32 + u / 256 % 16 * 2) 4096 := by unfold dIm; (repeat' split) <;> first | rfl | omega
    rw [a0, a1, a2, a3]
    unfold IV reg
    refine .inr (.inr (.inr (.inl ?_)))
    unfold sx
    split <;> omega
  · have a0 : dRd op u = u / 128 % 32 := by unfold dRd; (repeat' split) <;> first | rfl | omega
    have a1 : dRs op u = 0 := by unfold dRs; (repeat' split) <;> first | rfl | omega
    have a2 : dRt op u = 0 := by unfold dRt; (repeat' split) <;> first | rfl | omega
    have a3 : dIm op u = u / 4096 := by unfold dIm; (repeat' split) <;> first | rfl | omega
    rw [a0, a1, a2, a3]
    unfold IV reg
    refine .inr (.inr (.inr (.inr (.inl ?_))))
    omega
  · have a0 : dRd op u = u / 128 % 32 := by unfold dRd; (repeat' split) <;> first | rfl | omega
    have a1 : dRs op u = 0 := by unfold dRs; (repeat' split) <;> first | rfl | omega
    have a2 : dRt op u = 0 := by unfold dRt; (repeat' split) <;> first | rfl | omega
    have a3 : dIm op u = sx (u / 2147483648 * 1048576 + u / 4096 % 256 * 4096 + u / 1048576 % 2 * 2048 + u / 2097152 % 1024 * 2) 1048576 := by unfold dIm; (repeat' split) <;> first | rfl | omega
    rw [a0, a1, a2, a3]
    unfold IV reg
    refine .inr (.inr (.inr (.inr (.inr (.inl ?_)))))
    unfold sx
    split <;> omega
  · have a0 : dRd op u = 0 := by unfold dRd; (repeat' split) <;> first | rfl | omega
    have a1 : dRs op u = 0 := by unfold dRs; (repeat' split) <;> first | rfl | omega
    have a2 : dRt op u = 0 := by unfold dRt; (repeat' split) <;> first | rfl | omega
    have a3 : dIm op u = 0 := by unfold dIm; (repeat' split) <;> first | rfl | omega
    rw [a0, a1, a2, a3]
    unfold IV reg
    refine .inr (.inr (.inr (.inr (.inr (.inr ?_)))))
    omega
end Go.Proofs.YthmfkdlncnjjoaaDoor.IM
