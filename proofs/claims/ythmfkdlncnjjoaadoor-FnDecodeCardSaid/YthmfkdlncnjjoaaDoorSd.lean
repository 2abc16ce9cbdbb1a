/- The walks of the reference's decoder: SignExtend, l42Fields. -/
import Derived.Test.YthmfkdlncnjjoaaDoorSf
import Derived.Outline
namespace Go.Proofs.YthmfkdlncnjjoaaDoor
open Go.RowKit IM
set_option linter.unusedSimpArgs false
set_option linter.unusedVariables false
set_option maxHeartbeats 400000 in
theorem ssx12 (u : Int) (w : World) (h0 : 0 ≤ u) (h1 : u < 4096) : Calls Tryd.prog 63 #[.int .i64 u, .int .i64 12] w fun e w' => e = .returned (.int .i64 (sx u 2048)) ∧ w = w' := by
  have c1 : ∀ W : World, Calls Tryd.prog 69 #[.int .i64 12] W fun e w' => e = .returned (.int .i64 4096) ∧ W = w' := fun W => l1Power_at 12 4096 W (by omega) rfl
  have c2 : ∀ W : World, Calls Tryd.prog 69 #[.int .i64 11] W fun e w' => e = .returned (.int .i64 2048) ∧ W = w' := fun W => l1Power_at 11 2048 W (by omega) rfl
  go_enter Tryd.func63, Tryd.ntmps63
  go_wp2_with (first | (go_at_call 35; refine (l6In_yes _ _ _ _ (by omega) (by omega)).mono ?_; rintro e w' ⟨rfl, rfl⟩) | (go_at_call 69; (with_reducible refine (c1 _).mono ?_); rintro e w' ⟨rfl, rfl⟩) | (go_at_call 69; (with_reducible refine (c2 _).mono ?_); rintro e w' ⟨rfl, rfl⟩))
  all_goals
    go_ret
    refine ⟨ret_int ?_, rfl⟩
    unfold sx
    first | (rw [if_pos (by omega)]; done) | (rw [if_pos (by omega)]; omega) | (rw [if_neg (by omega)])
set_option maxHeartbeats 400000 in
theorem ssx13 (u : Int) (w : World) (h0 : 0 ≤ u) (h1 : u < 8192) : Calls Tryd.prog 63 #[.int .i64 u, .int .i64 13] w fun e w' => e = .returned (.int .i64 (sx u 4096)) ∧ w = w' := by
  have c1 : ∀ W : World, Calls Tryd.prog 69 #[.int .i64 13] W fun e w' => e = .returned (.int .i64 8192) ∧ W = w' := fun W => l1Power_at 13 8192 W (by omega) rfl
  have c2 : ∀ W : World, Calls Tryd.prog 69 #[.int .i64 12] W fun e w' => e = .returned (.int .i64 4096) ∧ W = w' := fun W => l1Power_at 12 4096 W (by omega) rfl
  go_enter Tryd.func63, Tryd.ntmps63
  go_wp2_with (first | (go_at_call 35; refine (l6In_yes _ _ _ _ (by omega) (by omega)).mono ?_; rintro e w' ⟨rfl, rfl⟩) | (go_at_call 69; (with_reducible refine (c1 _).mono ?_); rintro e w' ⟨rfl, rfl⟩) | (go_at_call 69; (with_reducible refine (c2 _).mono ?_); rintro e w' ⟨rfl, rfl⟩))
  all_goals
    go_ret
    refine ⟨ret_int ?_, rfl⟩
    unfold sx
    first | (rw [if_pos (by omega)]; done) | (rw [if_pos (by omega)]; omega) | (rw [if_neg (by omega)])
set_option maxHeartbeats 400000 in
theorem ssx21 (u : Int) (w : World) (h0 : 0 ≤ u) (h1 : u < 2097152) : Calls Tryd.prog 63 #[.int .i64 u, .int .i64 21] w fun e w' => e = .returned (.int .i64 (sx u 1048576)) ∧ w = w' := by
  have c1 : ∀ W : World, Calls Tryd.prog 69 #[.int .i64 21] W fun e w' => e = .returned (.int .i64 2097152) ∧ W = w' := fun W => l1Power_at 21 2097152 W (by omega) rfl
  have c2 : ∀ W : World, Calls Tryd.prog 69 #[.int .i64 20] W fun e w' => e = .returned (.int .i64 1048576) ∧ W = w' := fun W => l1Power_at 20 1048576 W (by omega) rfl
  go_enter Tryd.func63, Tryd.ntmps63
  go_wp2_with (first | (go_at_call 35; refine (l6In_yes _ _ _ _ (by omega) (by omega)).mono ?_; rintro e w' ⟨rfl, rfl⟩) | (go_at_call 69; (with_reducible refine (c1 _).mono ?_); rintro e w' ⟨rfl, rfl⟩) | (go_at_call 69; (with_reducible refine (c2 _).mono ?_); rintro e w' ⟨rfl, rfl⟩))
  all_goals
    go_ret
    refine ⟨ret_int ?_, rfl⟩
    unfold sx
    first | (rw [if_pos (by omega)]; done) | (rw [if_pos (by omega)]; omega) | (rw [if_neg (by omega)])
set_option maxRecDepth 100000 in
set_option maxHeartbeats 1000000 in
theorem fields_R (op u : Int) (w : World) (o0 : 1 ≤ op) (o1 : op ≤ 11) (h0 : 0 ≤ u) (h1 : u < 4294967296) :
    Calls Tryd.prog 37 #[.int .i64 op, .int .i64 u] w fun e w' => e = .returned (.agg #[.int .i64 op, .int .i64 (dRd op u), .int .i64 (dRs op u), .int .i64 (dRt op u), .int .i64 (dIm op u)]) ∧ Below w.heap.size w w' := by
  have c1 := fun W => sb7_5 u W h0 h1
  have c2 := fun W => sb15_5 u W h0 h1
  have c3 := fun W => sb20_5 u W h0 h1
  go_enter Tryd.func37, Tryd.ntmps37
  go_wp2_with (first | (go_at_call 56; (with_reducible refine (c1 _).mono ?_); rintro e w' ⟨rfl, nq, rfl⟩) | (go_at_call 56; (with_reducible refine (c2 _).mono ?_); rintro e w' ⟨rfl, nq, rfl⟩) | (go_at_call 56; (with_reducible refine (c3 _).mono ?_); rintro e w' ⟨rfl, nq, rfl⟩))
  all_goals
    refine bodyPost_ret (v := .agg #[.int .i64 op, .int .i64 (u / 128 % 32), .int .i64 (u / 32768 % 32), .int .i64 (u / 1048576 % 32), .int .i64 (0)]) (by simp [results, Tryd.results37, go_sem, *]) rfl ⟨?_, by repeat (first | (with_reducible exact Below.refl _ _) | (with_reducible apply bl_alloc) | (with_reducible apply bl_drewN) | (with_reducible apply bl_drew) | (with_reducible refine Below.setCell ?_ (by first | exact Nat.le_refl _ | omega) _))⟩
    have a0 : dRd op u = u / 128 % 32 := by unfold dRd; (repeat' split) <;> first | rfl | omega
    have a1 : dRs op u = u / 32768 % 32 := by unfold dRs; (repeat' split) <;> first | rfl | omega
    have a2 : dRt op u = u / 1048576 % 32 := by unfold dRt; (repeat' split) <;> first | rfl | omega
    have a3 : dIm op u = 0 := by unfold dIm; (repeat' split) <;> first | rfl | omega
    rw [a0, a1, a2, a3]
set_option maxRecDepth 100000 in
set_option maxHeartbeats 1000000 in
theorem fields_I (op u : Int) (w : World) (o0 : 12 ≤ op) (o1 : op ≤ 15) (h0 : 0 ≤ u) (h1 : u < 4294967296) :
    Calls Tryd.prog 37 #[.int .i64 op, .int .i64 u] w fun e w' => e = .returned (.agg #[.int .i64 op, .int .i64 (dRd op u), .int .i64 (dRs op u), .int .i64 (dRt op u), .int .i64 (dIm op u)]) ∧ Below w.heap.size w w' := by
  have c1 := fun W => sb7_5 u W h0 h1
  have c2 := fun W => sb15_5 u W h0 h1
  have c3 := fun W => sb20_5 u W h0 h1
  have e5 : u / 1048576 % 4096 = u / 1048576 := by omega
  have c5 : ∀ W : World, Calls Tryd.prog 56 #[.int .i64 u, .int .i64 20, .int .i64 12] W fun e w' => e = .returned (.int .i64 (u / 1048576)) ∧ ∃ n, w' = W.drewN n := fun W => e5 ▸ sb20_12 u W h0 h1
  have cs := fun W => ssx12 (u / 1048576) W (by omega) (by omega)
  clear e5
  go_enter Tryd.func37, Tryd.ntmps37
  go_wp2_with (first | (go_at_call 56; (with_reducible refine (c1 _).mono ?_); rintro e w' ⟨rfl, nq, rfl⟩) | (go_at_call 56; (with_reducible refine (c2 _).mono ?_); rintro e w' ⟨rfl, nq, rfl⟩) | (go_at_call 56; (with_reducible refine (c3 _).mono ?_); rintro e w' ⟨rfl, nq, rfl⟩) | (go_at_call 56; (with_reducible refine (c5 _).mono ?_); rintro e w' ⟨rfl, nq, rfl⟩) | (go_at_call 63; (with_reducible refine (cs _).mono ?_); rintro e w' ⟨rfl, rfl⟩))
  all_goals
    refine bodyPost_ret (v := .agg #[.int .i64 op, .int .i64 (u / 128 % 32), .int .i64 (u / 32768 % 32), .int .i64 (0), .int .i64 (sx (u / 1048576) 2048)]) (by simp [results, Tryd.results37, go_sem, *]) rfl ⟨?_, by repeat (first | (with_reducible exact Below.refl _ _) | (with_reducible apply bl_alloc) | (with_reducible apply bl_drewN) | (with_reducible apply bl_drew) | (with_reducible refine Below.setCell ?_ (by first | exact Nat.le_refl _ | omega) _))⟩
    have a0 : dRd op u = u / 128 % 32 := by unfold dRd; (repeat' split) <;> first | rfl | omega
    have a1 : dRs op u = u / 32768 % 32 := by unfold dRs; (repeat' split) <;> first | rfl | omega
    have a2 : dRt op u = 0 := by unfold dRt; (repeat' split) <;> first | rfl | omega
    have a3 : dIm op u = sx (u / 1048576) 2048 := by unfold dIm; (repeat' split) <;> first | rfl | omega
    rw [a0, a1, a2, a3]
set_option maxRecDepth 100000 in
set_option maxHeartbeats 1000000 in
theorem fields_S (op u : Int) (w : World) (o0 : 16 ≤ op) (o1 : op ≤ 16) (h0 : 0 ≤ u) (h1 : u < 4294967296) :
    Calls Tryd.prog 37 #[.int .i64 op, .int .i64 u] w fun e w' => e = .returned (.agg #[.int .i64 op, .int .i64 (dRd op u), .int .i64 (dRs op u), .int .i64 (dRt op u), .int .i64 (dIm op u)]) ∧ Below w.heap.size w w' := by
  have k16 : (op == 16) = true := by simp; omega
  have k17 : (op == 17) = false := by simp; omega
  have k18 : (op == 18) = false := by simp; omega
  have k19 : (op == 19) = false := by simp; omega
  have k20 : (op == 20) = false := by simp; omega
  have c1 := fun W => sb7_5 u W h0 h1
  have c2 := fun W => sb15_5 u W h0 h1
  have c3 := fun W => sb20_5 u W h0 h1
  have e5 : u / 33554432 % 128 = u / 33554432 := by omega
  have c5 : ∀ W : World, Calls Tryd.prog 56 #[.int .i64 u, .int .i64 25, .int .i64 7] W fun e w' => e = .returned (.int .i64 (u / 33554432)) ∧ ∃ n, w' = W.drewN n := fun W => e5 ▸ sb25_7 u W h0 h1
  have cs := fun W => ssx12 (u / 33554432 * 32 + u / 128 % 32) W (by omega) (by omega)
  clear e5
  go_enter Tryd.func37, Tryd.ntmps37
  go_wp2_with (first | (go_at_call 56; (with_reducible refine (c1 _).mono ?_); rintro e w' ⟨rfl, nq, rfl⟩) | (go_at_call 56; (with_reducible refine (c2 _).mono ?_); rintro e w' ⟨rfl, nq, rfl⟩) | (go_at_call 56; (with_reducible refine (c3 _).mono ?_); rintro e w' ⟨rfl, nq, rfl⟩) | (go_at_call 56; (with_reducible refine (c5 _).mono ?_); rintro e w' ⟨rfl, nq, rfl⟩) | (go_at_call 63; (with_reducible refine (cs _).mono ?_); rintro e w' ⟨rfl, rfl⟩))
  all_goals
    refine bodyPost_ret (v := .agg #[.int .i64 op, .int .i64 (0), .int .i64 (u / 32768 % 32), .int .i64 (u / 1048576 % 32), .int .i64 (sx (u / 33554432 * 32 + u / 128 % 32) 2048)]) (by simp [results, Tryd.results37, go_sem, *]) rfl ⟨?_, by repeat (first | (with_reducible exact Below.refl _ _) | (with_reducible apply bl_alloc) | (with_reducible apply bl_drewN) | (with_reducible apply bl_drew) | (with_reducible refine Below.setCell ?_ (by first | exact Nat.le_refl _ | omega) _))⟩
    have a0 : dRd op u = 0 := by unfold dRd; (repeat' split) <;> first | rfl | omega
    have a1 : dRs op u = u / 32768 % 32 := by unfold dRs; (repeat' split) <;> first | rfl | omega
    have a2 : dRt op u = u / 1048576 % 32 := by unfold dRt; (repeat' split) <;> first | rfl | omega
    have a3 : dIm op u = sx (u / 33554432 * 32 + u / 128 % 32) 2048 := by unfold dIm; (repeat' split) <;> first | rfl | omega
    rw [a0, a1, a2, a3]
set_option maxRecDepth 100000 in
set_option maxHeartbeats 1000000 in
theorem fields_B (op u : Int) (w : World) (o0 : 17 ≤ op) (o1 : op ≤ 17) (h0 : 0 ≤ u) (h1 : u < 4294967296) :
    Calls Tryd.prog 37 #[.int .i64 op, .int .i64 u] w fun e w' => e = .returned (.agg #[.int .i64 op, .int .i64 (dRd op u), .int .i64 (dRs op u), .int .i64 (dRt op u), .int .i64 (dIm op u)]) ∧ Below w.heap.size w w' := by
  have k16 : (op == 16) = false := by simp; omega
  have k17 : (op == 17) = true := by simp; omega
  have k18 : (op == 18) = false := by simp; omega
  have k19 : (op == 19) = false := by simp; omega
  have k20 : (op == 20) = false := by simp; omega
  have c1 := fun W => sb7_5 u W h0 h1
  have c2 := fun W => sb15_5 u W h0 h1
  have c3 := fun W => sb20_5 u W h0 h1
  have e5 : u / 2147483648 % 2 = u / 2147483648 := by omega
  have c5 : ∀ W : World, Calls Tryd.prog 56 #[.int .i64 u, .int .i64 31, .int .i64 1] W fun e w' => e = .returned (.int .i64 (u / 2147483648)) ∧ ∃ n, w' = W.drewN n := fun W => e5 ▸ sb31_1 u W h0 h1
  have c6 := fun W => sb7_1 u W h0 h1
  have c7 := fun W => sb25_6 u W h0 h1
  have c8 := fun W => sb8_4 u W h0 h1
  have cs := fun W => ssx13 (u / 2147483648 * 4096 + u / 128 % 2 * 2048 + u / 33554432 % 64 * 32 + u / 256 % 16 * 2) W (by omega) (by omega)
  clear e5
  go_enter Tryd.func37, Tryd.ntmps37
  go_wp2_with (first | (go_at_call 56; (with_reducible refine (c1 _).mono ?_); rintro e w' ⟨rfl, nq, rfl⟩) | (go_at_call 56; (with_reducible refine (c2 _).mono ?_); rintro e w' ⟨rfl, nq, rfl⟩) | (go_at_call 56; (with_reducible refine (c3 _).mono ?_); rintro e w' ⟨rfl, nq, rfl⟩) | (go_at_call 56; (with_reducible refine (c5 _).mono ?_); rintro e w' ⟨rfl, nq, rfl⟩) | (go_at_call 56; (with_reducible refine (c6 _).mono ?_); rintro e w' ⟨rfl, nq, rfl⟩) | (go_at_call 56; (with_reducible refine (c7 _).mono ?_); rintro e w' ⟨rfl, nq, rfl⟩) | (go_at_call 56; (with_reducible refine (c8 _).mono ?_); rintro e w' ⟨rfl, nq, rfl⟩) | (go_at_call 63; (with_reducible refine (cs _).mono ?_); rintro e w' ⟨rfl, rfl⟩))
  all_goals
    refine bodyPost_ret (v := .agg #[.int .i64 op, .int .i64 (0), .int .i64 (u / 32768 % 32), .int .i64 (u / 1048576 % 32), .int .i64 (sx (u / 2147483648 * 4096 + u / 128 % 2 * 2048 + u / 33554432 % 64 * 32 + u / 256 % 16 * 2) 4096)]) (by simp [results, Tryd.results37, go_sem, *]) rfl ⟨?_, by repeat (first | (with_reducible exact Below.refl _ _) | (with_reducible apply bl_alloc) | (with_reducible apply bl_drewN) | (with_reducible apply bl_drew) | (with_reducible refine Below.setCell ?_ (by first | exact Nat.le_refl _ | omega) _))⟩
    have a0 : dRd op u = 0 := by unfold dRd; (repeat' split) <;> first | rfl | omega
    have a1 : dRs op u = u / 32768 % 32 := by unfold dRs; (repeat' split) <;> first | rfl | omega
    have a2 : dRt op u = u / 1048576 % 32 := by unfold dRt; (repeat' split) <;> first | rfl | omega
    have a3 : dIm op u = sx (u / 2147483648 * 4096 + u / 128 % 2 * 2048 + u / 33554432 % 64 * 32 + u / 256 % 16 * 2) 4096 := by unfold dIm; (repeat' split) <;> first | rfl | omega
    rw [a0, a1, a2, a3]
set_option maxRecDepth 100000 in
set_option maxHeartbeats 1000000 in
theorem fields_C (op u : Int) (w : World) (o0 : 18 ≤ op) (o1 : op ≤ 18) (h0 : 0 ≤ u) (h1 : u < 4294967296) :
    Calls Tryd.prog 37 #[.int .i64 op, .int .i64 u] w fun e w' => e = .returned (.agg #[.int .i64 op, .int .i64 (dRd op u), .int .i64 (dRs op u), .int .i64 (dRt op u), .int .i64 (dIm op u)]) ∧ Below w.heap.size w w' := by
  have k16 : (op == 16) = false := by simp; omega
  have k17 : (op == 17) = false := by simp; omega
  have k18 : (op == 18) = true := by simp; omega
  have k19 : (op == 19) = false := by simp; omega
  have k20 : (op == 20) = false := by simp; omega
  have c1 := fun W => sb7_5 u W h0 h1
  have c2 := fun W => sb15_5 u W h0 h1
  have c3 := fun W => sb20_5 u W h0 h1
  have e5 : u / 2147483648 % 2 = u / 2147483648 := by omega
  have c5 : ∀ W : World, Calls Tryd.prog 56 #[.int .i64 u, .int .i64 31, .int .i64 1] W fun e w' => e = .returned (.int .i64 (u / 2147483648)) ∧ ∃ n, w' = W.drewN n := fun W => e5 ▸ sb31_1 u W h0 h1
  have c6 := fun W => sb7_1 u W h0 h1
  have c7 := fun W => sb25_6 u W h0 h1
  have c8 := fun W => sb8_4 u W h0 h1
  have cs := fun W => ssx13 (u / 2147483648 * 4096 + u / 128 % 2 * 2048 + u / 33554432 % 64 * 32 + u / 256 % 16 * 2) W (by omega) (by omega)
  clear e5
  go_enter Tryd.func37, Tryd.ntmps37
  go_wp2_with (first | (go_at_call 56; (with_reducible refine (c1 _).mono ?_); rintro e w' ⟨rfl, nq, rfl⟩) | (go_at_call 56; (with_reducible refine (c2 _).mono ?_); rintro e w' ⟨rfl, nq, rfl⟩) | (go_at_call 56; (with_reducible refine (c3 _).mono ?_); rintro e w' ⟨rfl, nq, rfl⟩) | (go_at_call 56; (with_reducible refine (c5 _).mono ?_); rintro e w' ⟨rfl, nq, rfl⟩) | (go_at_call 56; (with_reducible refine (c6 _).mono ?_); rintro e w' ⟨rfl, nq, rfl⟩) | (go_at_call 56; (with_reducible refine (c7 _).mono ?_); rintro e w' ⟨rfl, nq, rfl⟩) | (go_at_call 56; (with_reducible refine (c8 _).mono ?_); rintro e w' ⟨rfl, nq, rfl⟩) | (go_at_call 63; (with_reducible refine (cs _).mono ?_); rintro e w' ⟨rfl, rfl⟩))
  all_goals
    refine bodyPost_ret (v := .agg #[.int .i64 op, .int .i64 (0), .int .i64 (u / 32768 % 32), .int .i64 (u / 1048576 % 32), .int .i64 (sx (u / 2147483648 * 4096 + u / 128 % 2 * 2048 + u / 33554432 % 64 * 32 + u / 256 % 16 * 2) 4096)]) (by simp [results, Tryd.results37, go_sem, *]) rfl ⟨?_, by repeat (first | (with_reducible exact Below.refl _ _) | (with_reducible apply bl_alloc) | (with_reducible apply bl_drewN) | (with_reducible apply bl_drew) | (with_reducible refine Below.setCell ?_ (by first | exact Nat.le_refl _ | omega) _))⟩
    have a0 : dRd op u = 0 := by unfold dRd; (repeat' split) <;> first | rfl | omega
    have a1 : dRs op u = u / 32768 % 32 := by unfold dRs; (repeat' split) <;> first | rfl | omega
    have a2 : dRt op u = u / 1048576 % 32 := by unfold dRt; (repeat' split) <;> first | rfl | omega
    have a3 : dIm op u = sx (u / 2147483648 * 4096 + u / 128 % 2 * 2048 + u / 33554432 % 64 * 32 + u / 256 % 16 * 2) 4096 := by unfold dIm; (repeat' split) <;> first | rfl | omega
    rw [a0, a1, a2, a3]
set_option maxRecDepth 100000 in
set_option maxHeartbeats 1000000 in
theorem fields_U (op u : Int) (w : World) (o0 : 19 ≤ op) (o1 : op ≤ 19) (h0 : 0 ≤ u) (h1 : u < 4294967296) :
    Calls Tryd.prog 37 #[.int .i64 op, .int .i64 u] w fun e w' => e = .returned (.agg #[.int .i64 op, .int .i64 (dRd op u), .int .i64 (dRs op u), .int .i64 (dRt op u), .int .i64 (dIm op u)]) ∧ Below w.heap.size w w' := by
  have k16 : (op == 16) = false := by simp; omega
  have k17 : (op == 17) = false := by simp; omega
  have k18 : (op == 18) = false := by simp; omega
  have k19 : (op == 19) = true := by simp; omega
  have k20 : (op == 20) = false := by simp; omega
  have c1 := fun W => sb7_5 u W h0 h1
  have c2 := fun W => sb15_5 u W h0 h1
  have c3 := fun W => sb20_5 u W h0 h1
  have e5 : u / 4096 % 1048576 = u / 4096 := by omega
  have c5 : ∀ W : World, Calls Tryd.prog 56 #[.int .i64 u, .int .i64 12, .int .i64 20] W fun e w' => e = .returned (.int .i64 (u / 4096)) ∧ ∃ n, w' = W.drewN n := fun W => e5 ▸ sb12_20 u W h0 h1
  clear e5
  go_enter Tryd.func37, Tryd.ntmps37
  go_wp2_with (first | (go_at_call 56; (with_reducible refine (c1 _).mono ?_); rintro e w' ⟨rfl, nq, rfl⟩) | (go_at_call 56; (with_reducible refine (c2 _).mono ?_); rintro e w' ⟨rfl, nq, rfl⟩) | (go_at_call 56; (with_reducible refine (c3 _).mono ?_); rintro e w' ⟨rfl, nq, rfl⟩) | (go_at_call 56; (with_reducible refine (c5 _).mono ?_); rintro e w' ⟨rfl, nq, rfl⟩))
  all_goals
    refine bodyPost_ret (v := .agg #[.int .i64 op, .int .i64 (u / 128 % 32), .int .i64 (0), .int .i64 (0), .int .i64 (u / 4096)]) (by simp [results, Tryd.results37, go_sem, *]) rfl ⟨?_, by repeat (first | (with_reducible exact Below.refl _ _) | (with_reducible apply bl_alloc) | (with_reducible apply bl_drewN) | (with_reducible apply bl_drew) | (with_reducible refine Below.setCell ?_ (by first | exact Nat.le_refl _ | omega) _))⟩
    have a0 : dRd op u = u / 128 % 32 := by unfold dRd; (repeat' split) <;> first | rfl | omega
    have a1 : dRs op u = 0 := by unfold dRs; (repeat' split) <;> first | rfl | omega
    have a2 : dRt op u = 0 := by unfold dRt; (repeat' split) <;> first | rfl | omega
    have a3 : dIm op u = u / 4096 := by unfold dIm; (repeat' split) <;> first | rfl | omega
    rw [a0, a1, a2, a3]
set_option maxRecDepth 100000 in
set_option maxHeartbeats 1000000 in
theorem fields_J (op u : Int) (w : World) (o0 : 20 ≤ op) (o1 : op ≤ 20) (h0 : 0 ≤ u) (h1 : u < 4294967296) :
    Calls Tryd.prog 37 #[.int .i64 op, .int .i64 u] w fun e w' => e = .returned (.agg #[.int .i64 op, .int .i64 (dRd op u), .int .i64 (dRs op u), .int .i64 (dRt op u), .int .i64 (dIm op u)]) ∧ Below w.heap.size w w' := by
  have k16 : (op == 16) = false := by simp; omega
  have k17 : (op == 17) = false := by simp; omega
  have k18 : (op == 18) = false := by simp; omega
  have k19 : (op == 19) = false := by simp; omega
  have k20 : (op == 20) = true := by simp; omega
  have c1 := fun W => sb7_5 u W h0 h1
  have c2 := fun W => sb15_5 u W h0 h1
  have c3 := fun W => sb20_5 u W h0 h1
  have e5 : u / 2147483648 % 2 = u / 2147483648 := by omega
  have c5 : ∀ W : World, Calls Tryd.prog 56 #[.int .i64 u, .int .i64 31, .int .i64 1] W fun e w' => e = .returned (.int .i64 (u / 2147483648)) ∧ ∃ n, w' = W.drewN n := fun W => e5 ▸ sb31_1 u W h0 h1
  have c6 := fun W => sb12_8 u W h0 h1
  have c7 := fun W => sb20_1 u W h0 h1
  have c8 := fun W => sb21_10 u W h0 h1
  have cs := fun W => ssx21 (u / 2147483648 * 1048576 + u / 4096 % 256 * 4096 + u / 1048576 % 2 * 2048 + u / 2097152 % 1024 * 2) W (by omega) (by omega)
  clear e5
  go_enter Tryd.func37, Tryd.ntmps37
  go_wp2_with (first | (go_at_call 56; (with_reducible refine (c1 _).mono ?_); rintro e w' ⟨rfl, nq, rfl⟩) | (go_at_call 56; (with_reducible refine (c2 _).mono ?_); rintro e w' ⟨rfl, nq, rfl⟩) | (go_at_call 56; (with_reducible refine (c3 _).mono ?_); rintro e w' ⟨rfl, nq, rfl⟩) | (go_at_call 56; (with_reducible refine (c5 _).mono ?_); rintro e w' ⟨rfl, nq, rfl⟩) | (go_at_call 56; (with_reducible refine (c6 _).mono ?_); rintro e w' ⟨rfl, nq, rfl⟩) | (go_at_call 56; (with_reducible refine (c7 _).mono ?_); rintro e w' ⟨rfl, nq, rfl⟩) | (go_at_call 56; (with_reducible refine (c8 _).mono ?_); rintro e w' ⟨rfl, nq, rfl⟩) | (go_at_call 63; (with_reducible refine (cs _).mono ?_); rintro e w' ⟨rfl, rfl⟩))
  all_goals
    refine bodyPost_ret (v := .agg #[.int .i64 op, .int .i64 (u / 128 % 32), .int .i64 (0), .int .i64 (0), .int .i64 (sx (u / 2147483648 * 1048576 + u / 4096 % 256 * 4096 + u / 1048576 % 2 * 2048 + u / 2097152 % 1024 * 2) 1048576)]) (by simp [results, Tryd.results37, go_sem, *]) rfl ⟨?_, by repeat (first | (with_reducible exact Below.refl _ _) | (with_reducible apply bl_alloc) | (with_reducible apply bl_drewN) | (with_reducible apply bl_drew) | (with_reducible refine Below.setCell ?_ (by first | exact Nat.le_refl _ | omega) _))⟩
    have a0 : dRd op u = u / 128 % 32 := by unfold dRd; (repeat' split) <;> first | rfl | omega
    have a1 : dRs op u = 0 := by unfold dRs; (repeat' split) <;> first | rfl | omega
    have a2 : dRt op u = 0 := by unfold dRt; (repeat' split) <;> first | rfl | omega
    have a3 : dIm op u = sx (u / 2147483648 * 1048576 + u / 4096 % 256 * 4096 + u / 1048576 % 2 * 2048 + u / 2097152 % 1024 * 2) 1048576 := by unfold dIm; (repeat' split) <;> first | rfl | omega
    rw [a0, a1, a2, a3]
set_option maxRecDepth 100000 in
set_option maxHeartbeats 1000000 in
theorem fields_E (op u : Int) (w : World) (o0 : 21 ≤ op) (o1 : op ≤ 21) (h0 : 0 ≤ u) (h1 : u < 4294967296) :
    Calls Tryd.prog 37 #[.int .i64 op, .int .i64 u] w fun e w' => e = .returned (.agg #[.int .i64 op, .int .i64 (dRd op u), .int .i64 (dRs op u), .int .i64 (dRt op u), .int .i64 (dIm op u)]) ∧ Below w.heap.size w w' := by
  have k16 : (op == 16) = false := by simp; omega
  have k17 : (op == 17) = false := by simp; omega
  have k18 : (op == 18) = false := by simp; omega
  have k19 : (op == 19) = false := by simp; omega
  have k20 : (op == 20) = false := by simp; omega
  have c1 := fun W => sb7_5 u W h0 h1
  have c2 := fun W => sb15_5 u W h0 h1
  have c3 := fun W => sb20_5 u W h0 h1
  go_enter Tryd.func37, Tryd.ntmps37
  go_wp2_with (first | (go_at_call 56; (with_reducible refine (c1 _).mono ?_); rintro e w' ⟨rfl, nq, rfl⟩) | (go_at_call 56; (with_reducible refine (c2 _).mono ?_); rintro e w' ⟨rfl, nq, rfl⟩) | (go_at_call 56; (with_reducible refine (c3 _).mono ?_); rintro e w' ⟨rfl, nq, rfl⟩))
  all_goals
    refine bodyPost_ret (v := .agg #[.int .i64 op, .int .i64 (0), .int .i64 (0), .int .i64 (0), .int .i64 (0)]) (by simp [results, Tryd.results37, go_sem, *]) rfl ⟨?_, by repeat (first | (with_reducible exact Below.refl _ _) | (with_reducible apply bl_alloc) | (with_reducible apply bl_drewN) | (with_reducible apply bl_drew) | (with_reducible refine Below.setCell ?_ (by first | exact Nat.le_refl _ | omega) _))⟩
    have a0 : dRd op u = 0 := by unfold dRd; (repeat' split) <;> first | rfl | omega
    have a1 : dRs op u = 0 := by unfold dRs; (repeat' split) <;> first | rfl | omega
    have a2 : dRt op u = 0 := by unfold dRt; (repeat' split) <;> first | rfl | omega
    have a3 : dIm op u = 0 := by unfold dIm; (repeat' split) <;> first | rfl | omega
    rw [a0, a1, a2, a3]
theorem fields_any (op u : Int) (w : World) (o0 : 1 ≤ op) (o1 : op ≤ 21) (h0 : 0 ≤ u) (h1 : u < 4294967296) :
    Calls Tryd.prog 37 #[.int .i64 op, .int .i64 u] w fun e w' => e = .returned (.agg #[.int .i64 op, .int .i64 (dRd op u), .int .i64 (dRs op u), .int .i64 (dRt op u), .int .i64 (dIm op u)]) ∧ Below w.heap.size w w' := by
  rcases (by omega : op ≤ 11 ∨ (12 ≤ op ∧ op ≤ 15) ∨ (16 ≤ op ∧ op ≤ 16) ∨ (17 ≤ op ∧ op ≤ 17) ∨ (18 ≤ op ∧ op ≤ 18) ∨ (19 ≤ op ∧ op ≤ 19) ∨ (20 ≤ op ∧ op ≤ 20) ∨ 21 ≤ op) with k | k | k | k | k | k | k | k
  · exact fields_R op u w o0 k h0 h1
  · exact fields_I op u w k.1 k.2 h0 h1
  · exact fields_S op u w k.1 k.2 h0 h1
  · exact fields_B op u w k.1 k.2 h0 h1
  · exact fields_C op u w k.1 k.2 h0 h1
  · exact fields_U op u w k.1 k.2 h0 h1
  · exact fields_J op u w k.1 k.2 h0 h1
  · exact fields_E op u w k o1 h0 h1
end Go.Proofs.YthmfkdlncnjjoaaDoor
