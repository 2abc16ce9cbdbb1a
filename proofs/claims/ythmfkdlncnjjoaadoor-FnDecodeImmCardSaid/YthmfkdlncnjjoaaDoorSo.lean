/- The walk of the reference's InstrDecode. -/
import Derived.Test.YthmfkdlncnjjoaaDoorSd
import Derived.Test.YthmfkdlncnjjoaaDoorDb
namespace Go.Proofs.YthmfkdlncnjjoaaDoor
open Go.RowKit IM
set_option linter.unusedSimpArgs false
set_option linter.unusedVariables false
def mR (u : Int) (k : Nat) : Prop := u / 4096 % 8 = f3 k ∧ u / 33554432 % 128 = f7 k
instance (u : Int) (k : Nat) : Decidable (mR u k) := by unfold mR; infer_instance
def firstR (u : Int) : Nat → Nat → Int
  | 0, _ => 0
  | n + 1, k => if mR u k then (k : Int) else firstR u n (k + 1)
theorem firstR_hit (u : Int) (n : Nat) : ∀ k j : Nat, k ≤ j → j < k + n → mR u j → ∃ r : Nat, firstR u n k = r ∧ k ≤ r ∧ r < k + n ∧ mR u r := by
  induction n with
  | zero => intro k j h1 h2; omega
  | succ n ih =>
    intro k j h1 h2 h
    unfold firstR
    by_cases hk : mR u k
    · rw [if_pos hk]; exact ⟨k, rfl, by omega, by omega, hk⟩
    · rw [if_neg hk]
      have hne : k ≠ j := fun e => hk (e ▸ h)
      obtain ⟨r, e, a, b, c⟩ := ih (k + 1) j (by omega) (by omega) h
      exact ⟨r, e, by omega, by omega, c⟩
theorem firstR_bd (u : Int) (n : Nat) : ∀ k : Nat, 0 ≤ firstR u n k ∧ firstR u n k < k + n + 1 := by
  induction n with
  | zero => intro k; unfold firstR; omega
  | succ n ih =>
    intro k
    unfold firstR
    split
    · omega
    · have := ih (k + 1); omega
def opR (u : Int) : Int := if u % 128 = 51 then firstR u 11 1 else if u % 128 = 19 then (if u / 4096 % 8 = 0 then 12 else 13) else if u % 128 = 3 then 14 else if u % 128 = 103 then 15 else if u % 128 = 35 then 16 else if u % 128 = 99 then (if u / 4096 % 8 = 0 then 17 else 18) else if u % 128 = 55 then 19 else if u % 128 = 111 then 20 else if u % 128 = 115 then 21 else 0
theorem opR_bd (u : Int) : 0 ≤ opR u ∧ opR u ≤ 21 := by
  have := firstR_bd u 11 1
  unfold opR
  (repeat' split) <;> omega
theorem opR_hit {u op : Int} (h : Hit u op) : opR u = op := by
  have hm := h.mB
  obtain ⟨h1, h2, _⟩ := h
  have hm' := hm
  unfold mB at hm
  rw [decide_eq_true_eq] at hm
  obtain ⟨a, b, c⟩ := hm
  by_cases ho : op ≤ 11
  · have e : opc op = 51 := by unfold opc; rw [if_pos ho]
    have b' := b (by omega)
    have c' := c ho
    obtain ⟨r, er, r1, r2, r3⟩ := firstR_hit u 11 1 op.toNat (by omega) (by omega) (by unfold mR; rw [Int.toNat_of_nonneg (by omega)]; exact ⟨b'.symm, c'.symm⟩)
    unfold opR
    rw [if_pos (by omega), er]
    refine mB_one (by omega) (by omega) h1 h2 ?_ hm'
    have er2 : opc r = 51 := by unfold opc; rw [if_pos (by omega)]
    unfold mB
    rw [decide_eq_true_eq]
    exact ⟨by omega, fun _ => r3.1.symm, fun _ => r3.2.symm⟩
  · rcases (by omega : op = 12 ∨ op = 13 ∨ op = 14 ∨ op = 15 ∨ op = 16 ∨ op = 17 ∨ op = 18 ∨ op = 19 ∨ op = 20 ∨ op = 21) with rfl | rfl | rfl | rfl | rfl | rfl | rfl | rfl | rfl | rfl
    · rw [show opc 12 = 19 from rfl] at a
      have b' := b (by omega)
      rw [show f3 12 = 0 from rfl] at b'
      clear b c hm'
      unfold opR
      rw [if_neg (by omega), if_pos (by omega), if_pos (by omega)]
    · rw [show opc 13 = 19 from rfl] at a
      have b' := b (by omega)
      rw [show f3 13 = 3 from rfl] at b'
      clear b c hm'
      unfold opR
      rw [if_neg (by omega), if_pos (by omega), if_neg (by omega)]
    · rw [show opc 14 = 3 from rfl] at a
      clear b c hm'
      unfold opR
      rw [if_neg (by omega), if_neg (by omega), if_pos (by omega)]
    · rw [show opc 15 = 103 from rfl] at a
      clear b c hm'
      unfold opR
      rw [if_neg (by omega), if_neg (by omega), if_neg (by omega), if_pos (by omega)]
    · rw [show opc 16 = 35 from rfl] at a
      clear b c hm'
      unfold opR
      rw [if_neg (by omega), if_neg (by omega), if_neg (by omega), if_neg (by omega), if_pos (by omega)]
    · rw [show opc 17 = 99 from rfl] at a
      have b' := b (by omega)
      rw [show f3 17 = 0 from rfl] at b'
      clear b c hm'
      unfold opR
      rw [if_neg (by omega), if_neg (by omega), if_neg (by omega), if_neg (by omega), if_neg (by omega), if_pos (by omega), if_pos (by omega)]
    · rw [show opc 18 = 99 from rfl] at a
      have b' := b (by omega)
      rw [show f3 18 = 1 from rfl] at b'
      clear b c hm'
      unfold opR
      rw [if_neg (by omega), if_neg (by omega), if_neg (by omega), if_neg (by omega), if_neg (by omega), if_pos (by omega), if_neg (by omega)]
    · rw [show opc 19 = 55 from rfl] at a
      clear b c hm'
      unfold opR
      rw [if_neg (by omega), if_neg (by omega), if_neg (by omega), if_neg (by omega), if_neg (by omega), if_neg (by omega), if_pos (by omega)]
    · rw [show opc 20 = 111 from rfl] at a
      clear b c hm'
      unfold opR
      rw [if_neg (by omega), if_neg (by omega), if_neg (by omega), if_neg (by omega), if_neg (by omega), if_neg (by omega), if_neg (by omega), if_pos (by omega)]
    · rw [show opc 21 = 115 from rfl] at a
      clear b c hm'
      unfold opR
      rw [if_neg (by omega), if_neg (by omega), if_neg (by omega), if_neg (by omega), if_neg (by omega), if_neg (by omega), if_neg (by omega), if_neg (by omega), if_pos (by omega)]
set_option maxRecDepth 100000 in
set_option maxHeartbeats 1000000 in
theorem l42Op_R (u : Int) (w : World) (h0 : 0 ≤ u) (h1 : u < 4294967296) (hm : u % 128 = 51) :
    Calls Tryd.prog 36 #[.int .i64 u] w fun e w' => e = .returned (.int .i64 (opR u)) ∧ Below w.heap.size w w' := by
  have e0 : ∀ W : World, Calls Tryd.prog 56 #[.int .i64 u, .int .i64 0, .int .i64 7] W fun e w' => e = .returned (.int .i64 51) ∧ ∃ n, w' = W.drewN n := fun W => by
    have := sb0_7 u W h0 h1
    rwa [show u / 1 % 128 = 51 by omega] at this
  have c1 := fun W => sb12_3 u W h0 h1
  have c2 := fun W => sb25_7 u W h0 h1
  have eR : opR u = firstR u 11 1 := by unfold opR; rw [if_pos hm]
  rw [eR]
  clear hm eR
  go_enter Tryd.func36, Tryd.ntmps36
  go_wp2_with (go_at_call 56; (with_reducible refine (e0 _).mono ?_); rintro e w' ⟨rfl, nq, rfl⟩)
  go_loopw [3] (fun o wr => ∃ k : Nat, 1 ≤ k ∧ k ≤ 12 ∧ o = .int .i64 k ∧ Hid (Below w.heap.size w wr) ∧ Hid (firstR u (12 - k) k = firstR u 11 1)) (fun o _ => 22 - (intOf o).toNat)
  case atStart => exact ⟨1, Nat.le_refl _, by omega, rfl, Lib.hid (bl_drewN (Below.refl _ _) _), Lib.hid rfl⟩
  case round =>
    obtain ⟨k, hk1, hk2, rfl, hB, hF⟩ := hrel
    by_cases hlt : k ≤ 11
    · obtain ⟨n, hn⟩ : ∃ n, 12 - k = n + 1 := ⟨11 - k, by omega⟩
      have hF' := hF.out
      rw [hn, firstR] at hF'
      have c3 := fun W => l42Three_any k W (by omega) (by omega)
      have c4 := fun W => l42Seven_any k W (by omega) (by omega)
      have hn2 : n = 12 - (k + 1) := by omega
      by_cases h3 : u / 4096 % 8 = f3 k
      · by_cases h7 : u / 33554432 % 128 = f7 k
        · rw [if_pos ⟨h3, h7⟩] at hF'
          have HF := Lib.hid hF'.symm
          clear hF'
          have hz3 : (u / 4096 % 8 == f3 k) = true := by simp; exact h3
          have hz7 : (u / 33554432 % 128 == f7 k) = true := by simp; exact h7
          have H7 := Lib.hid h7
          clear h7
          have H3 := Lib.hid h3
          clear h3
          have c1 := c1; have c2 := c2; have c3 := c3; have c4 := c4
          generalize u / 4096 % 8 = g3 at *
          generalize u / 33554432 % 128 = g7 at *
          generalize f3 k = x3 at *
          generalize f7 k = x7 at *
          clear hn hn2
          go_wp2_with (first | (go_at_call 56; (with_reducible refine (c1 _).mono ?_); rintro e w' ⟨rfl, n1, rfl⟩) | (go_at_call 56; (with_reducible refine (c2 _).mono ?_); rintro e w' ⟨rfl, n2, rfl⟩) | (go_at_call 62; (with_reducible refine (c3 _).mono ?_); rintro e w1 ⟨rfl, hb⟩; have Q1 := Lib.hid (bl_tr hb (by repeat (with_reducible first | exact hB.out | apply bl_alloc | apply bl_drewN | apply bl_drew))); clear hb) | (go_at_call 60; (with_reducible refine (c4 _).mono ?_); rintro e w1 ⟨rfl, hb⟩; have Q2 := Lib.hid (bl_tr hb (by repeat (with_reducible first | exact Q1.out | apply bl_alloc | apply bl_drewN | apply bl_drew))); clear hb))
          go_ret
          exact ⟨ret_int HF.out.symm, by repeat (with_reducible first | exact Q2.out | apply bl_drewN | apply bl_drew)⟩
        · rw [if_neg (fun h => h7 h.2), hn2] at hF'
          have HF := Lib.hid hF'
          clear hF'
          have hz3 : (u / 4096 % 8 == f3 k) = true := by simp; exact h3
          have hz7 : (u / 33554432 % 128 == f7 k) = false := by simp; exact h7
          have H7 := Lib.hid h7
          clear h7
          have H3 := Lib.hid h3
          clear h3
          have c1 := c1; have c2 := c2; have c3 := c3; have c4 := c4
          generalize u / 4096 % 8 = g3 at *
          generalize u / 33554432 % 128 = g7 at *
          generalize f3 k = x3 at *
          generalize f7 k = x7 at *
          clear hn hn2
          go_wp2_with (first | (go_at_call 56; (with_reducible refine (c1 _).mono ?_); rintro e w' ⟨rfl, n1, rfl⟩) | (go_at_call 56; (with_reducible refine (c2 _).mono ?_); rintro e w' ⟨rfl, n2, rfl⟩) | (go_at_call 62; (with_reducible refine (c3 _).mono ?_); rintro e w1 ⟨rfl, hb⟩; have Q1 := Lib.hid (bl_tr hb (by repeat (with_reducible first | exact hB.out | apply bl_alloc | apply bl_drewN | apply bl_drew))); clear hb) | (go_at_call 60; (with_reducible refine (c4 _).mono ?_); rintro e w1 ⟨rfl, hb⟩; have Q2 := Lib.hid (bl_tr hb (by repeat (with_reducible first | exact Q1.out | apply bl_alloc | apply bl_drewN | apply bl_drew))); clear hb))
          go_roundw
          case rel => exact ⟨k + 1, by omega, by omega, by go_num, Lib.hid (by repeat (with_reducible first | exact Q2.out | apply bl_drewN | apply bl_drew)), HF⟩
          case measure => simp [intOf]; omega
      · rw [if_neg (fun h => h3 h.1), hn2] at hF'
        have HF := Lib.hid hF'
        clear hF'
        have hz3 : (u / 4096 % 8 == f3 k) = false := by simp; exact h3
        have H3 := Lib.hid h3
        clear h3
        have c1 := c1; have c2 := c2; have c3 := c3; have c4 := c4
        generalize u / 4096 % 8 = g3 at *
        generalize u / 33554432 % 128 = g7 at *
        generalize f3 k = x3 at *
        generalize f7 k = x7 at *
        clear hn hn2
        go_wp2_with (first | (go_at_call 56; (with_reducible refine (c1 _).mono ?_); rintro e w' ⟨rfl, n1, rfl⟩) | (go_at_call 56; (with_reducible refine (c2 _).mono ?_); rintro e w' ⟨rfl, n2, rfl⟩) | (go_at_call 62; (with_reducible refine (c3 _).mono ?_); rintro e w1 ⟨rfl, hb⟩; have Q1 := Lib.hid (bl_tr hb (by repeat (with_reducible first | exact hB.out | apply bl_alloc | apply bl_drewN | apply bl_drew))); clear hb) | (go_at_call 60; (with_reducible refine (c4 _).mono ?_); rintro e w1 ⟨rfl, hb⟩; have Q2 := Lib.hid (bl_tr hb (by repeat (with_reducible first | exact Q1.out | apply bl_alloc | apply bl_drewN | apply bl_drew))); clear hb))
        go_roundw
        case rel => exact ⟨k + 1, by omega, by omega, by go_num, Lib.hid (by repeat (with_reducible first | exact Q1.out | apply bl_drewN | apply bl_drew)), HF⟩
        case measure => simp [intOf]; omega
    · have hF' := hF.out
      have hk : 12 - k = 0 := by omega
      rw [hk, firstR] at hF'
      have HF := Lib.hid hF'
      clear hF' hk
      go_wp2
      go_ret
      exact ⟨ret_int HF.out, by repeat (with_reducible first | exact hB.out | apply bl_drewN | apply bl_drew)⟩
set_option maxRecDepth 100000 in
set_option maxHeartbeats 1000000 in
theorem l42Op_N (u : Int) (w : World) (h0 : 0 ≤ u) (h1 : u < 4294967296) (hm : u % 128 ≠ 51) :
    Calls Tryd.prog 36 #[.int .i64 u] w fun e w' => e = .returned (.int .i64 (opR u)) ∧ Below w.heap.size w w' := by
  have c0 : ∀ W : World, Calls Tryd.prog 56 #[.int .i64 u, .int .i64 0, .int .i64 7] W fun e w' => e = .returned (.int .i64 (u % 128)) ∧ ∃ n, w' = W.drewN n := fun W => by
    have := sb0_7 u W h0 h1
    rwa [show u / 1 % 128 = u % 128 by omega] at this
  have c1 := fun W => sb12_3 u W h0 h1
  have hz : (u % 128 == 51) = false := by simp; exact hm
  have eR : opR u = if u % 128 = 19 then (if u / 4096 % 8 = 0 then 12 else 13) else if u % 128 = 3 then 14 else if u % 128 = 103 then 15 else if u % 128 = 35 then 16 else if u % 128 = 99 then (if u / 4096 % 8 = 0 then 17 else 18) else if u % 128 = 55 then 19 else if u % 128 = 111 then 20 else if u % 128 = 115 then 21 else 0 := by unfold opR; rw [if_neg hm]
  rw [eR]
  clear hm eR
  generalize u % 128 = m at *
  generalize u / 4096 % 8 = g at *
  go_enter Tryd.func36, Tryd.ntmps36
  go_wp2_with (first | (go_at_call 56; (with_reducible refine (c0 _).mono ?_); rintro e w' ⟨rfl, nq, rfl⟩) | (go_at_call 56; (with_reducible refine (c1 _).mono ?_); rintro e w' ⟨rfl, nq, rfl⟩))
  all_goals
    go_ret
    refine ⟨ret_int ?_, by repeat (first | (with_reducible exact Below.refl _ _) | (with_reducible apply bl_alloc) | (with_reducible apply bl_drewN) | (with_reducible apply bl_drew))⟩
    clear c0 c1
    try simp only [beq_iff_eq, beq_eq_false_iff_ne, ne_eq] at *
    try ((repeat' split) <;> omega)
theorem l42Op_any (u : Int) (w : World) (h0 : 0 ≤ u) (h1 : u < 4294967296) :
    Calls Tryd.prog 36 #[.int .i64 u] w fun e w' => e = .returned (.int .i64 (opR u)) ∧ Below w.heap.size w w' := by
  by_cases hm : u % 128 = 51
  · exact l42Op_R u w h0 h1 hm
  · exact l42Op_N u w h0 h1 hm
end Go.Proofs.YthmfkdlncnjjoaaDoor
