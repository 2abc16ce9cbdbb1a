/- The walks of the program's decoder: SignExtend, decodeAs, matches. -/
import Derived.Test.YthmfkdlncnjjoaaDoorTb
import Derived.Test.YthmfkdlncnjjoaaDoorEm
import Derived.Test.YthmfkdlncnjjoaaDoorOr
import Derived.Test.YthmfkdlncnjjoaaDoorDr
import Derived.Outline
namespace Go.Proofs.YthmfkdlncnjjoaaDoor
open Go.RowKit IM
set_option linter.unusedSimpArgs false
set_option linter.unusedVariables false
theorem ib7_5 (u : Int) (w : World) (h0 : 0 ≤ u) (h1 : u < 4294967296) : Calls Tryd.prog 18 #[.int .i64 u, .int .i64 7, .int .i64 5] w fun e w' => e = .returned (.int .i64 (u / 128 % 32)) ∧ ∃ n, w' = w.drewN n := by
  have := bits_any u 7 5 w h0 h1 (by omega) (by omega) (by omega) (by omega)
  rwa [show bitsOf u 7 5 = u / 128 % 32 by unfold bitsOf; simp] at this
theorem ib15_5 (u : Int) (w : World) (h0 : 0 ≤ u) (h1 : u < 4294967296) : Calls Tryd.prog 18 #[.int .i64 u, .int .i64 15, .int .i64 5] w fun e w' => e = .returned (.int .i64 (u / 32768 % 32)) ∧ ∃ n, w' = w.drewN n := by
  have := bits_any u 15 5 w h0 h1 (by omega) (by omega) (by omega) (by omega)
  rwa [show bitsOf u 15 5 = u / 32768 % 32 by unfold bitsOf; simp] at this
theorem ib20_5 (u : Int) (w : World) (h0 : 0 ≤ u) (h1 : u < 4294967296) : Calls Tryd.prog 18 #[.int .i64 u, .int .i64 20, .int .i64 5] w fun e w' => e = .returned (.int .i64 (u / 1048576 % 32)) ∧ ∃ n, w' = w.drewN n := by
  have := bits_any u 20 5 w h0 h1 (by omega) (by omega) (by omega) (by omega)
  rwa [show bitsOf u 20 5 = u / 1048576 % 32 by unfold bitsOf; simp] at this
theorem ib12_3 (u : Int) (w : World) (h0 : 0 ≤ u) (h1 : u < 4294967296) : Calls Tryd.prog 18 #[.int .i64 u, .int .i64 12, .int .i64 3] w fun e w' => e = .returned (.int .i64 (u / 4096 % 8)) ∧ ∃ n, w' = w.drewN n := by
  have := bits_any u 12 3 w h0 h1 (by omega) (by omega) (by omega) (by omega)
  rwa [show bitsOf u 12 3 = u / 4096 % 8 by unfold bitsOf; simp] at this
theorem ib25_7 (u : Int) (w : World) (h0 : 0 ≤ u) (h1 : u < 4294967296) : Calls Tryd.prog 18 #[.int .i64 u, .int .i64 25, .int .i64 7] w fun e w' => e = .returned (.int .i64 (u / 33554432 % 128)) ∧ ∃ n, w' = w.drewN n := by
  have := bits_any u 25 7 w h0 h1 (by omega) (by omega) (by omega) (by omega)
  rwa [show bitsOf u 25 7 = u / 33554432 % 128 by unfold bitsOf; simp] at this
theorem ib20_12 (u : Int) (w : World) (h0 : 0 ≤ u) (h1 : u < 4294967296) : Calls Tryd.prog 18 #[.int .i64 u, .int .i64 20, .int .i64 12] w fun e w' => e = .returned (.int .i64 (u / 1048576 % 4096)) ∧ ∃ n, w' = w.drewN n := by
  have := bits_any u 20 12 w h0 h1 (by omega) (by omega) (by omega) (by omega)
  rwa [show bitsOf u 20 12 = u / 1048576 % 4096 by unfold bitsOf; simp] at this
theorem ib31_1 (u : Int) (w : World) (h0 : 0 ≤ u) (h1 : u < 4294967296) : Calls Tryd.prog 18 #[.int .i64 u, .int .i64 31, .int .i64 1] w fun e w' => e = .returned (.int .i64 (u / 2147483648 % 2)) ∧ ∃ n, w' = w.drewN n := by
  have := bits_any u 31 1 w h0 h1 (by omega) (by omega) (by omega) (by omega)
  rwa [show bitsOf u 31 1 = u / 2147483648 % 2 by unfold bitsOf; simp] at this
theorem ib7_1 (u : Int) (w : World) (h0 : 0 ≤ u) (h1 : u < 4294967296) : Calls Tryd.prog 18 #[.int .i64 u, .int .i64 7, .int .i64 1] w fun e w' => e = .returned (.int .i64 (u / 128 % 2)) ∧ ∃ n, w' = w.drewN n := by
  have := bits_any u 7 1 w h0 h1 (by omega) (by omega) (by omega) (by omega)
  rwa [show bitsOf u 7 1 = u / 128 % 2 by unfold bitsOf; simp] at this
theorem ib25_6 (u : Int) (w : World) (h0 : 0 ≤ u) (h1 : u < 4294967296) : Calls Tryd.prog 18 #[.int .i64 u, .int .i64 25, .int .i64 6] w fun e w' => e = .returned (.int .i64 (u / 33554432 % 64)) ∧ ∃ n, w' = w.drewN n := by
  have := bits_any u 25 6 w h0 h1 (by omega) (by omega) (by omega) (by omega)
  rwa [show bitsOf u 25 6 = u / 33554432 % 64 by unfold bitsOf; simp] at this
theorem ib8_4 (u : Int) (w : World) (h0 : 0 ≤ u) (h1 : u < 4294967296) : Calls Tryd.prog 18 #[.int .i64 u, .int .i64 8, .int .i64 4] w fun e w' => e = .returned (.int .i64 (u / 256 % 16)) ∧ ∃ n, w' = w.drewN n := by
  have := bits_any u 8 4 w h0 h1 (by omega) (by omega) (by omega) (by omega)
  rwa [show bitsOf u 8 4 = u / 256 % 16 by unfold bitsOf; simp] at this
theorem ib12_20 (u : Int) (w : World) (h0 : 0 ≤ u) (h1 : u < 4294967296) : Calls Tryd.prog 18 #[.int .i64 u, .int .i64 12, .int .i64 20] w fun e w' => e = .returned (.int .i64 (u / 4096 % 1048576)) ∧ ∃ n, w' = w.drewN n := by
  have := bits_any u 12 20 w h0 h1 (by omega) (by omega) (by omega) (by omega)
  rwa [show bitsOf u 12 20 = u / 4096 % 1048576 by unfold bitsOf; simp] at this
theorem ib12_8 (u : Int) (w : World) (h0 : 0 ≤ u) (h1 : u < 4294967296) : Calls Tryd.prog 18 #[.int .i64 u, .int .i64 12, .int .i64 8] w fun e w' => e = .returned (.int .i64 (u / 4096 % 256)) ∧ ∃ n, w' = w.drewN n := by
  have := bits_any u 12 8 w h0 h1 (by omega) (by omega) (by omega) (by omega)
  rwa [show bitsOf u 12 8 = u / 4096 % 256 by unfold bitsOf; simp] at this
theorem ib20_1 (u : Int) (w : World) (h0 : 0 ≤ u) (h1 : u < 4294967296) : Calls Tryd.prog 18 #[.int .i64 u, .int .i64 20, .int .i64 1] w fun e w' => e = .returned (.int .i64 (u / 1048576 % 2)) ∧ ∃ n, w' = w.drewN n := by
  have := bits_any u 20 1 w h0 h1 (by omega) (by omega) (by omega) (by omega)
  rwa [show bitsOf u 20 1 = u / 1048576 % 2 by unfold bitsOf; simp] at this
theorem ib21_10 (u : Int) (w : World) (h0 : 0 ≤ u) (h1 : u < 4294967296) : Calls Tryd.prog 18 #[.int .i64 u, .int .i64 21, .int .i64 10] w fun e w' => e = .returned (.int .i64 (u / 2097152 % 1024)) ∧ ∃ n, w' = w.drewN n := by
  have := bits_any u 21 10 w h0 h1 (by omega) (by omega) (by omega) (by omega)
  rwa [show bitsOf u 21 10 = u / 2097152 % 1024 by unfold bitsOf; simp] at this
set_option maxHeartbeats 400000 in
theorem isx12 (u : Int) (w : World) (h0 : 0 ≤ u) (h1 : u < 4096) : Calls Tryd.prog 64 #[.int .i64 u, .int .i64 12] w fun e w' => e = .returned (.int .i64 (sx u 2048)) ∧ w = w' := by
  go_enter Tryd.func64, Tryd.ntmps64
  go_wp2
  all_goals
    go_ret
    refine ⟨ret_int ?_, rfl⟩
    unfold sx
    first | (rw [if_pos (by omega)]; done) | (rw [if_pos (by omega)]; omega) | (rw [if_neg (by omega)])
set_option maxHeartbeats 400000 in
theorem isx13 (u : Int) (w : World) (h0 : 0 ≤ u) (h1 : u < 8192) : Calls Tryd.prog 64 #[.int .i64 u, .int .i64 13] w fun e w' => e = .returned (.int .i64 (sx u 4096)) ∧ w = w' := by
  go_enter Tryd.func64, Tryd.ntmps64
  go_wp2
  all_goals
    go_ret
    refine ⟨ret_int ?_, rfl⟩
    unfold sx
    first | (rw [if_pos (by omega)]; done) | (rw [if_pos (by omega)]; omega) | (rw [if_neg (by omega)])
set_option maxHeartbeats 400000 in
theorem isx21 (u : Int) (w : World) (h0 : 0 ≤ u) (h1 : u < 2097152) : Calls Tryd.prog 64 #[.int .i64 u, .int .i64 21] w fun e w' => e = .returned (.int .i64 (sx u 1048576)) ∧ w = w' := by
  go_enter Tryd.func64, Tryd.ntmps64
  go_wp2
  all_goals
    go_ret
    refine ⟨ret_int ?_, rfl⟩
    unfold sx
    first | (rw [if_pos (by omega)]; done) | (rw [if_pos (by omega)]; omega) | (rw [if_neg (by omega)])
set_option maxRecDepth 100000 in
set_option maxHeartbeats 1000000 in
theorem decodeAs_R (op u : Int) (w : World) (o0 : 1 ≤ op) (o1 : op ≤ 11) (h0 : 0 ≤ u) (h1 : u < 4294967296) :
    Calls Tryd.prog 39 #[.int .i64 op, .int .i64 u] w fun e w' => e = .returned (.agg #[.int .i64 op, .int .i64 (dRd op u), .int .i64 (dRs op u), .int .i64 (dRt op u), .int .i64 (dIm op u)]) ∧ Below w.heap.size w w' := by
  have hf : fmt op = 82 := by unfold fmt; (repeat' split) <;> omega
  have c1 := fun W => ib7_5 u W h0 h1
  have c2 := fun W => ib15_5 u W h0 h1
  have c3 := fun W => ib20_5 u W h0 h1
  go_enter Tryd.func39, Tryd.ntmps39
  go_wp2_with (first | (go_at_call 31; refine (formatOf_any _ _).mono ?_; rintro e w' ⟨rfl, rfl⟩) | (go_at_call 18; (with_reducible refine (c1 _).mono ?_); rintro e w' ⟨rfl, nq, rfl⟩) | (go_at_call 18; (with_reducible refine (c2 _).mono ?_); rintro e w' ⟨rfl, nq, rfl⟩) | (go_at_call 18; (with_reducible refine (c3 _).mono ?_); rintro e w' ⟨rfl, nq, rfl⟩))
  refine bodyPost_ret (v := .agg #[.int .i64 op, .int .i64 (u / 128 % 32), .int .i64 (u / 32768 % 32), .int .i64 (u / 1048576 % 32), .int .i64 (0)]) (by simp [results, Tryd.results39, go_sem, *]) rfl ⟨?_, by repeat (first | (with_reducible exact Below.refl _ _) | (with_reducible apply bl_alloc) | (with_reducible apply bl_drewN) | (with_reducible apply bl_drew) | (with_reducible refine Below.setCell ?_ (by first | exact Nat.le_refl _ | omega) _))⟩
  have a0 : dRd op u = u / 128 % 32 := by unfold dRd; (repeat' split) <;> first | rfl | omega
  have a1 : dRs op u = u / 32768 % 32 := by unfold dRs; (repeat' split) <;> first | rfl | omega
  have a2 : dRt op u = u / 1048576 % 32 := by unfold dRt; (repeat' split) <;> first | rfl | omega
  have a3 : dIm op u = 0 := by unfold dIm; (repeat' split) <;> first | rfl | omega
  rw [a0, a1, a2, a3]
set_option maxRecDepth 100000 in
set_option maxHeartbeats 1000000 in
theorem decodeAs_I (op u : Int) (w : World) (o0 : 12 ≤ op) (o1 : op ≤ 15) (h0 : 0 ≤ u) (h1 : u < 4294967296) :
    Calls Tryd.prog 39 #[.int .i64 op, .int .i64 u] w fun e w' => e = .returned (.agg #[.int .i64 op, .int .i64 (dRd op u), .int .i64 (dRs op u), .int .i64 (dRt op u), .int .i64 (dIm op u)]) ∧ Below w.heap.size w w' := by
  have hf : fmt op = 73 := by unfold fmt; (repeat' split) <;> omega
  have c1 := fun W => ib7_5 u W h0 h1
  have c2 := fun W => ib15_5 u W h0 h1
  have c3 := fun W => ib20_5 u W h0 h1
  have e5 : u / 1048576 % 4096 = u / 1048576 := by omega
  have c5 : ∀ W : World, Calls Tryd.prog 18 #[.int .i64 u, .int .i64 20, .int .i64 12] W fun e w' => e = .returned (.int .i64 (u / 1048576)) ∧ ∃ n, w' = W.drewN n := fun W => e5 ▸ ib20_12 u W h0 h1
  have cs := fun W => isx12 (u / 1048576) W (by omega) (by omega)
  clear e5
  go_enter Tryd.func39, Tryd.ntmps39
  go_wp2_with (first | (go_at_call 31; refine (formatOf_any _ _).mono ?_; rintro e w' ⟨rfl, rfl⟩) | (go_at_call 18; (with_reducible refine (c1 _).mono ?_); rintro e w' ⟨rfl, nq, rfl⟩) | (go_at_call 18; (with_reducible refine (c2 _).mono ?_); rintro e w' ⟨rfl, nq, rfl⟩) | (go_at_call 18; (with_reducible refine (c3 _).mono ?_); rintro e w' ⟨rfl, nq, rfl⟩) | (go_at_call 18; (with_reducible refine (c5 _).mono ?_); rintro e w' ⟨rfl, nq, rfl⟩) | (go_at_call 64; (with_reducible refine (cs _).mono ?_); rintro e w' ⟨rfl, rfl⟩))
  refine bodyPost_ret (v := .agg #[.int .i64 op, .int .i64 (u / 128 % 32), .int .i64 (u / 32768 % 32), .int .i64 (0), .int .i64 (sx (u / 1048576) 2048)]) (by simp [results, Tryd.results39, go_sem, *]) rfl ⟨?_, by repeat (first | (with_reducible exact Below.refl _ _) | (with_reducible apply bl_alloc) | (with_reducible apply bl_drewN) | (with_reducible apply bl_drew) | (with_reducible refine Below.setCell ?_ (by first | exact Nat.le_refl _ | omega) _))⟩
  have a0 : dRd op u = u / 128 % 32 := by unfold dRd; (repeat' split) <;> first | rfl | omega
  have a1 : dRs op u = u / 32768 % 32 := by unfold dRs; (repeat' split) <;> first | rfl | omega
  have a2 : dRt op u = 0 := by unfold dRt; (repeat' split) <;> first | rfl | omega
  have a3 : dIm op u = sx (u / 1048576) 2048 := by unfold dIm; (repeat' split) <;> first | rfl | omega
  rw [a0, a1, a2, a3]
set_option maxRecDepth 100000 in
set_option maxHeartbeats 1000000 in
theorem decodeAs_S (op u : Int) (w : World) (o0 : 16 ≤ op) (o1 : op ≤ 16) (h0 : 0 ≤ u) (h1 : u < 4294967296) :
    Calls Tryd.prog 39 #[.int .i64 op, .int .i64 u] w fun e w' => e = .returned (.agg #[.int .i64 op, .int .i64 (dRd op u), .int .i64 (dRs op u), .int .i64 (dRt op u), .int .i64 (dIm op u)]) ∧ Below w.heap.size w w' := by
  have hf : fmt op = 83 := by unfold fmt; (repeat' split) <;> omega
  have c1 := fun W => ib7_5 u W h0 h1
  have c2 := fun W => ib15_5 u W h0 h1
  have c3 := fun W => ib20_5 u W h0 h1
  have e5 : u / 33554432 % 128 = u / 33554432 := by omega
  have c5 : ∀ W : World, Calls Tryd.prog 18 #[.int .i64 u, .int .i64 25, .int .i64 7] W fun e w' => e = .returned (.int .i64 (u / 33554432)) ∧ ∃ n, w' = W.drewN n := fun W => e5 ▸ ib25_7 u W h0 h1
  have eo : bits .or .i64 (u / 33554432 * 32) (u / 128 % 32) = u / 33554432 * 32 + u / 128 % 32 := or_low _ _ 1 32 5 0 rfl rfl (by omega) (by omega) (by omega) (by omega) (by omega) (by omega) (by omega) (by omega)
  have cs : ∀ W : World, Calls Tryd.prog 64 #[.int .i64 (bits .or .i64 (u / 33554432 * 32) (u / 128 % 32)), .int .i64 12] W fun e w' => e = .returned (.int .i64 (sx (u / 33554432 * 32 + u / 128 % 32) 2048)) ∧ W = w' := fun W => by rw [eo]; exact isx12 _ W (by omega) (by omega)
  clear e5 eo
  go_enter Tryd.func39, Tryd.ntmps39
  go_wp2_with (first | (go_at_call 31; refine (formatOf_any _ _).mono ?_; rintro e w' ⟨rfl, rfl⟩) | (go_at_call 18; (with_reducible refine (c1 _).mono ?_); rintro e w' ⟨rfl, nq, rfl⟩) | (go_at_call 18; (with_reducible refine (c2 _).mono ?_); rintro e w' ⟨rfl, nq, rfl⟩) | (go_at_call 18; (with_reducible refine (c3 _).mono ?_); rintro e w' ⟨rfl, nq, rfl⟩) | (go_at_call 18; (with_reducible refine (c5 _).mono ?_); rintro e w' ⟨rfl, nq, rfl⟩) | (go_at_call 64; (with_reducible refine (cs _).mono ?_); rintro e w' ⟨rfl, rfl⟩))
  refine bodyPost_ret (v := .agg #[.int .i64 op, .int .i64 (0), .int .i64 (u / 32768 % 32), .int .i64 (u / 1048576 % 32), .int .i64 (sx (u / 33554432 * 32 + u / 128 % 32) 2048)]) (by simp [results, Tryd.results39, go_sem, *]) rfl ⟨?_, by repeat (first | (with_reducible exact Below.refl _ _) | (with_reducible apply bl_alloc) | (with_reducible apply bl_drewN) | (with_reducible apply bl_drew) | (with_reducible refine Below.setCell ?_ (by first | exact Nat.le_refl _ | omega) _))⟩
  have a0 : dRd op u = 0 := by unfold dRd; (repeat' split) <;> first | rfl | omega
  have a1 : dRs op u = u / 32768 % 32 := by unfold dRs; (repeat' split) <;> first | rfl | omega
  have a2 : dRt op u = u / 1048576 % 32 := by unfold dRt; (repeat' split) <;> first | rfl | omega
  have a3 : dIm op u = sx (u / 33554432 * 32 + u / 128 % 32) 2048 := by unfold dIm; (repeat' split) <;> first | rfl | omega
  rw [a0, a1, a2, a3]
set_option maxRecDepth 100000 in
set_option maxHeartbeats 1000000 in
theorem decodeAs_B (op u : Int) (w : World) (o0 : 17 ≤ op) (o1 : op ≤ 18) (h0 : 0 ≤ u) (h1 : u < 4294967296) :
    Calls Tryd.prog 39 #[.int .i64 op, .int .i64 u] w fun e w' => e = .returned (.agg #[.int .i64 op, .int .i64 (dRd op u), .int .i64 (dRs op u), .int .i64 (dRt op u), .int .i64 (dIm op u)]) ∧ Below w.heap.size w w' := by
  have hf : fmt op = 66 := by unfold fmt; (repeat' split) <;> omega
  have c1 := fun W => ib7_5 u W h0 h1
  have c2 := fun W => ib15_5 u W h0 h1
  have c3 := fun W => ib20_5 u W h0 h1
  have e5 : u / 2147483648 % 2 = u / 2147483648 := by omega
  have c5 : ∀ W : World, Calls Tryd.prog 18 #[.int .i64 u, .int .i64 31, .int .i64 1] W fun e w' => e = .returned (.int .i64 (u / 2147483648)) ∧ ∃ n, w' = W.drewN n := fun W => e5 ▸ ib31_1 u W h0 h1
  have c6 := fun W => ib7_1 u W h0 h1
  have c7 := fun W => ib25_6 u W h0 h1
  have c8 := fun W => ib8_4 u W h0 h1
  have eo : bits .or .i64 (bits .or .i64 (bits .or .i64 (u / 2147483648 * 4096) (u / 128 % 2 * 2048)) (u / 33554432 % 64 * 32)) (u / 256 % 16 * 2) = u / 2147483648 * 4096 + u / 128 % 2 * 2048 + u / 33554432 % 64 * 32 + u / 256 % 16 * 2 := by
    have b1 : 0 ≤ u / 2147483648 ∧ u / 2147483648 ≤ 1 := by omega
    have b2 : 0 ≤ u / 128 % 2 ∧ u / 128 % 2 ≤ 1 := by omega
    have b3 : 0 ≤ u / 33554432 % 64 ∧ u / 33554432 % 64 ≤ 63 := by omega
    have b4 : 0 ≤ u / 256 % 16 ∧ u / 256 % 16 ≤ 15 := by omega
    generalize u / 2147483648 = x1 at *
    generalize u / 128 % 2 = x2 at *
    generalize u / 33554432 % 64 = x3 at *
    generalize u / 256 % 16 = x4 at *
    rw [or_low (x1 * 4096) (x2 * 2048) 1 4096 12 0 rfl rfl (by omega) (by omega) (by omega) (by omega) (by omega) (by omega) (by omega) (by omega),
      or_low (x1 * 4096 + x2 * 2048) (x3 * 32) 1 2048 11 0 rfl rfl (by omega) (by omega) (by omega) (by omega) (by omega) (by omega) (by omega) (by omega),
      or_low (x1 * 4096 + x2 * 2048 + x3 * 32) (x4 * 2) 1 32 5 0 rfl rfl (by omega) (by omega) (by omega) (by omega) (by omega) (by omega) (by omega) (by omega)]
  have cs : ∀ W : World, Calls Tryd.prog 64 #[.int .i64 (bits .or .i64 (bits .or .i64 (bits .or .i64 (u / 2147483648 * 4096) (u / 128 % 2 * 2048)) (u / 33554432 % 64 * 32)) (u / 256 % 16 * 2)), .int .i64 13] W fun e w' => e = .returned (.int .i64 (sx (u / 2147483648 * 4096 + u / 128 % 2 * 2048 + u / 33554432 % 64 * 32 + u / 256 % 16 * 2) 4096)) ∧ W = w' := fun W => by rw [eo]; exact isx13 _ W (by omega) (by omega)
  clear e5 eo
  go_enter Tryd.func39, Tryd.ntmps39
  go_wp2_with (first | (go_at_call 31; refine (formatOf_any _ _).mono ?_; rintro e w' ⟨rfl, rfl⟩) | (go_at_call 18; (with_reducible refine (c1 _).mono ?_); rintro e w' ⟨rfl, nq, rfl⟩) | (go_at_call 18; (with_reducible refine (c2 _).mono ?_); rintro e w' ⟨rfl, nq, rfl⟩) | (go_at_call 18; (with_reducible refine (c3 _).mono ?_); rintro e w' ⟨rfl, nq, rfl⟩) | (go_at_call 18; (with_reducible refine (c5 _).mono ?_); rintro e w' ⟨rfl, nq, rfl⟩) | (go_at_call 18; (with_reducible refine (c6 _).mono ?_); rintro e w' ⟨rfl, nq, rfl⟩) | (go_at_call 18; (with_reducible refine (c7 _).mono ?_); rintro e w' ⟨rfl, nq, rfl⟩) | (go_at_call 18; (with_reducible refine (c8 _).mono ?_); rintro e w' ⟨rfl, nq, rfl⟩) | (go_at_call 64; (with_reducible refine (cs _).mono ?_); rintro e w' ⟨rfl, rfl⟩))
  refine bodyPost_ret (v := .agg #[.int .i64 op, .int .i64 (0), .int .i64 (u / 32768 % 32), .int .i64 (u / 1048576 % 32), .int .i64 (sx (u / 2147483648 * 4096 + u / 128 % 2 * 2048 + u / 33554432 % 64 * 32 + u / 256 % 16 * 2) 4096)]) (by simp [results, Tryd.results39, go_sem, *]) rfl ⟨?_, by repeat (first | (with_reducible exact Below.refl _ _) | (with_reducible apply bl_alloc) | (with_reducible apply bl_drewN) | (with_reducible apply bl_drew) | (with_reducible refine Below.setCell ?_ (by first | exact Nat.le_refl _ | omega) _))⟩
  have a0 : dRd op u = 0 := by unfold dRd; (repeat' split) <;> first | rfl | omega
  have a1 : dRs op u = u / 32768 % 32 := by unfold dRs; (repeat' split) <;> first | rfl | omega
  have a2 : dRt op u = u / 1048576 % 32 := by unfold dRt; (repeat' split) <;> first | rfl | omega
  have a3 : dIm op u = sx (u / 2147483648 * 4096 + u / 128 % 2 * 2048 + u / 33554432 % 64 * 32 + u / 256 % 16 * 2) 4096 := by unfold dIm; (repeat' split) <;> first | rfl | omega
  rw [a0, a1, a2, a3]
set_option maxRecDepth 100000 in
set_option maxHeartbeats 1000000 in
theorem decodeAs_U (op u : Int) (w : World) (o0 : 19 ≤ op) (o1 : op ≤ 19) (h0 : 0 ≤ u) (h1 : u < 4294967296) :
    Calls Tryd.prog 39 #[.int .i64 op, .int .i64 u] w fun e w' => e = .returned (.agg #[.int .i64 op, .int .i64 (dRd op u), .int .i64 (dRs op u), .int .i64 (dRt op u), .int .i64 (dIm op u)]) ∧ Below w.heap.size w w' := by
  have hf : fmt op = 85 := by unfold fmt; (repeat' split) <;> omega
  have c1 := fun W => ib7_5 u W h0 h1
  have c2 := fun W => ib15_5 u W h0 h1
  have c3 := fun W => ib20_5 u W h0 h1
  have e5 : u / 4096 % 1048576 = u / 4096 := by omega
  have c5 : ∀ W : World, Calls Tryd.prog 18 #[.int .i64 u, .int .i64 12, .int .i64 20] W fun e w' => e = .returned (.int .i64 (u / 4096)) ∧ ∃ n, w' = W.drewN n := fun W => e5 ▸ ib12_20 u W h0 h1
  clear e5
  go_enter Tryd.func39, Tryd.ntmps39
  go_wp2_with (first | (go_at_call 31; refine (formatOf_any _ _).mono ?_; rintro e w' ⟨rfl, rfl⟩) | (go_at_call 18; (with_reducible refine (c1 _).mono ?_); rintro e w' ⟨rfl, nq, rfl⟩) | (go_at_call 18; (with_reducible refine (c2 _).mono ?_); rintro e w' ⟨rfl, nq, rfl⟩) | (go_at_call 18; (with_reducible refine (c3 _).mono ?_); rintro e w' ⟨rfl, nq, rfl⟩) | (go_at_call 18; (with_reducible refine (c5 _).mono ?_); rintro e w' ⟨rfl, nq, rfl⟩))
  refine bodyPost_ret (v := .agg #[.int .i64 op, .int .i64 (u / 128 % 32), .int .i64 (0), .int .i64 (0), .int .i64 (u / 4096)]) (by simp [results, Tryd.results39, go_sem, *]) rfl ⟨?_, by repeat (first | (with_reducible exact Below.refl _ _) | (with_reducible apply bl_alloc) | (with_reducible apply bl_drewN) | (with_reducible apply bl_drew) | (with_reducible refine Below.setCell ?_ (by first | exact Nat.le_refl _ | omega) _))⟩
  have a0 : dRd op u = u / 128 % 32 := by unfold dRd; (repeat' split) <;> first | rfl | omega
  have a1 : dRs op u = 0 := by unfold dRs; (repeat' split) <;> first | rfl | omega
  have a2 : dRt op u = 0 := by unfold dRt; (repeat' split) <;> first | rfl | omega
  have a3 : dIm op u = u / 4096 := by unfold dIm; (repeat' split) <;> first | rfl | omega
  rw [a0, a1, a2, a3]
set_option maxRecDepth 100000 in
set_option maxHeartbeats 1000000 in
theorem decodeAs_J (op u : Int) (w : World) (o0 : 20 ≤ op) (o1 : op ≤ 20) (h0 : 0 ≤ u) (h1 : u < 4294967296) :
    Calls Tryd.prog 39 #[.int .i64 op, .int .i64 u] w fun e w' => e = .returned (.agg #[.int .i64 op, .int .i64 (dRd op u), .int .i64 (dRs op u), .int .i64 (dRt op u), .int .i64 (dIm op u)]) ∧ Below w.heap.size w w' := by
  have hf : fmt op = 74 := by unfold fmt; (repeat' split) <;> omega
  have c1 := fun W => ib7_5 u W h0 h1
  have c2 := fun W => ib15_5 u W h0 h1
  have c3 := fun W => ib20_5 u W h0 h1
  have e5 : u / 2147483648 % 2 = u / 2147483648 := by omega
  have c5 : ∀ W : World, Calls Tryd.prog 18 #[.int .i64 u, .int .i64 31, .int .i64 1] W fun e w' => e = .returned (.int .i64 (u / 2147483648)) ∧ ∃ n, w' = W.drewN n := fun W => e5 ▸ ib31_1 u W h0 h1
  have c6 := fun W => ib12_8 u W h0 h1
  have c7 := fun W => ib20_1 u W h0 h1
  have c8 := fun W => ib21_10 u W h0 h1
  have eo : bits .or .i64 (bits .or .i64 (bits .or .i64 (u / 2147483648 * 1048576) (u / 4096 % 256 * 4096)) (u / 1048576 % 2 * 2048)) (u / 2097152 % 1024 * 2) = u / 2147483648 * 1048576 + u / 4096 % 256 * 4096 + u / 1048576 % 2 * 2048 + u / 2097152 % 1024 * 2 := by
    have b1 : 0 ≤ u / 2147483648 ∧ u / 2147483648 ≤ 1 := by omega
    have b2 : 0 ≤ u / 4096 % 256 ∧ u / 4096 % 256 ≤ 255 := by omega
    have b3 : 0 ≤ u / 1048576 % 2 ∧ u / 1048576 % 2 ≤ 1 := by omega
    have b4 : 0 ≤ u / 2097152 % 1024 ∧ u / 2097152 % 1024 ≤ 1023 := by omega
    generalize u / 2147483648 = x1 at *
    generalize u / 4096 % 256 = x2 at *
    generalize u / 1048576 % 2 = x3 at *
    generalize u / 2097152 % 1024 = x4 at *
    rw [or_low (x1 * 1048576) (x2 * 4096) 1 1048576 20 0 rfl rfl (by omega) (by omega) (by omega) (by omega) (by omega) (by omega) (by omega) (by omega),
      or_low (x1 * 1048576 + x2 * 4096) (x3 * 2048) 1 4096 12 0 rfl rfl (by omega) (by omega) (by omega) (by omega) (by omega) (by omega) (by omega) (by omega),
      or_low (x1 * 1048576 + x2 * 4096 + x3 * 2048) (x4 * 2) 1 2048 11 0 rfl rfl (by omega) (by omega) (by omega) (by omega) (by omega) (by omega) (by omega) (by omega)]
  have cs : ∀ W : World, Calls Tryd.prog 64 #[.int .i64 (bits .or .i64 (bits .or .i64 (bits .or .i64 (u / 2147483648 * 1048576) (u / 4096 % 256 * 4096)) (u / 1048576 % 2 * 2048)) (u / 2097152 % 1024 * 2)), .int .i64 21] W fun e w' => e = .returned (.int .i64 (sx (u / 2147483648 * 1048576 + u / 4096 % 256 * 4096 + u / 1048576 % 2 * 2048 + u / 2097152 % 1024 * 2) 1048576)) ∧ W = w' := fun W => by rw [eo]; exact isx21 _ W (by omega) (by omega)
  clear e5 eo
  go_enter Tryd.func39, Tryd.ntmps39
  go_wp2_with (first | (go_at_call 31; refine (formatOf_any _ _).mono ?_; rintro e w' ⟨rfl, rfl⟩) | (go_at_call 18; (with_reducible refine (c1 _).mono ?_); rintro e w' ⟨rfl, nq, rfl⟩) | (go_at_call 18; (with_reducible refine (c2 _).mono ?_); rintro e w' ⟨rfl, nq, rfl⟩) | (go_at_call 18; (with_reducible refine (c3 _).mono ?_); rintro e w' ⟨rfl, nq, rfl⟩) | (go_at_call 18; (with_reducible refine (c5 _).mono ?_); rintro e w' ⟨rfl, nq, rfl⟩) | (go_at_call 18; (with_reducible refine (c6 _).mono ?_); rintro e w' ⟨rfl, nq, rfl⟩) | (go_at_call 18; (with_reducible refine (c7 _).mono ?_); rintro e w' ⟨rfl, nq, rfl⟩) | (go_at_call 18; (with_reducible refine (c8 _).mono ?_); rintro e w' ⟨rfl, nq, rfl⟩) | (go_at_call 64; (with_reducible refine (cs _).mono ?_); rintro e w' ⟨rfl, rfl⟩))
  refine bodyPost_ret (v := .agg #[.int .i64 op, .int .i64 (u / 128 % 32), .int .i64 (0), .int .i64 (0), .int .i64 (sx (u / 2147483648 * 1048576 + u / 4096 % 256 * 4096 + u / 1048576 % 2 * 2048 + u / 2097152 % 1024 * 2) 1048576)]) (by simp [results, Tryd.results39, go_sem, *]) rfl ⟨?_, by repeat (first | (with_reducible exact Below.refl _ _) | (with_reducible apply bl_alloc) | (with_reducible apply bl_drewN) | (with_reducible apply bl_drew) | (with_reducible refine Below.setCell ?_ (by first | exact Nat.le_refl _ | omega) _))⟩
  have a0 : dRd op u = u / 128 % 32 := by unfold dRd; (repeat' split) <;> first | rfl | omega
  have a1 : dRs op u = 0 := by unfold dRs; (repeat' split) <;> first | rfl | omega
  have a2 : dRt op u = 0 := by unfold dRt; (repeat' split) <;> first | rfl | omega
  have a3 : dIm op u = sx (u / 2147483648 * 1048576 + u / 4096 % 256 * 4096 + u / 1048576 % 2 * 2048 + u / 2097152 % 1024 * 2) 1048576 := by unfold dIm; (repeat' split) <;> first | rfl | omega
  rw [a0, a1, a2, a3]
set_option maxRecDepth 100000 in
set_option maxHeartbeats 1000000 in
theorem decodeAs_E (op u : Int) (w : World) (o0 : 21 ≤ op) (o1 : op ≤ 21) (h0 : 0 ≤ u) (h1 : u < 4294967296) :
    Calls Tryd.prog 39 #[.int .i64 op, .int .i64 u] w fun e w' => e = .returned (.agg #[.int .i64 op, .int .i64 (dRd op u), .int .i64 (dRs op u), .int .i64 (dRt op u), .int .i64 (dIm op u)]) ∧ Below w.heap.size w w' := by
  have hf : fmt op = 69 := by unfold fmt; (repeat' split) <;> omega
  have c1 := fun W => ib7_5 u W h0 h1
  have c2 := fun W => ib15_5 u W h0 h1
  have c3 := fun W => ib20_5 u W h0 h1
  go_enter Tryd.func39, Tryd.ntmps39
  go_wp2_with (first | (go_at_call 31; refine (formatOf_any _ _).mono ?_; rintro e w' ⟨rfl, rfl⟩) | (go_at_call 18; (with_reducible refine (c1 _).mono ?_); rintro e w' ⟨rfl, nq, rfl⟩) | (go_at_call 18; (with_reducible refine (c2 _).mono ?_); rintro e w' ⟨rfl, nq, rfl⟩) | (go_at_call 18; (with_reducible refine (c3 _).mono ?_); rintro e w' ⟨rfl, nq, rfl⟩))
  refine bodyPost_ret (v := .agg #[.int .i64 op, .int .i64 (0), .int .i64 (0), .int .i64 (0), .int .i64 (0)]) (by simp [results, Tryd.results39, go_sem, *]) rfl ⟨?_, by repeat (first | (with_reducible exact Below.refl _ _) | (with_reducible apply bl_alloc) | (with_reducible apply bl_drewN) | (with_reducible apply bl_drew) | (with_reducible refine Below.setCell ?_ (by first | exact Nat.le_refl _ | omega) _))⟩
  have a0 : dRd op u = 0 := by unfold dRd; (repeat' split) <;> first | rfl | omega
  have a1 : dRs op u = 0 := by unfold dRs; (repeat' split) <;> first | rfl | omega
  have a2 : dRt op u = 0 := by unfold dRt; (repeat' split) <;> first | rfl | omega
  have a3 : dIm op u = 0 := by unfold dIm; (repeat' split) <;> first | rfl | omega
  rw [a0, a1, a2, a3]
theorem decodeAs_any (op u : Int) (w : World) (o0 : 1 ≤ op) (o1 : op ≤ 21) (h0 : 0 ≤ u) (h1 : u < 4294967296) :
    Calls Tryd.prog 39 #[.int .i64 op, .int .i64 u] w fun e w' => e = .returned (.agg #[.int .i64 op, .int .i64 (dRd op u), .int .i64 (dRs op u), .int .i64 (dRt op u), .int .i64 (dIm op u)]) ∧ Below w.heap.size w w' := by
  rcases (by omega : op ≤ 11 ∨ (12 ≤ op ∧ op ≤ 15) ∨ (16 ≤ op ∧ op ≤ 16) ∨ (17 ≤ op ∧ op ≤ 18) ∨ (19 ≤ op ∧ op ≤ 19) ∨ (20 ≤ op ∧ op ≤ 20) ∨ 21 ≤ op) with k | k | k | k | k | k | k
  · exact decodeAs_R op u w o0 k h0 h1
  · exact decodeAs_I op u w k.1 k.2 h0 h1
  · exact decodeAs_S op u w k.1 k.2 h0 h1
  · exact decodeAs_B op u w k.1 k.2 h0 h1
  · exact decodeAs_U op u w k.1 k.2 h0 h1
  · exact decodeAs_J op u w k.1 k.2 h0 h1
  · exact decodeAs_E op u w k o1 h0 h1
end Go.Proofs.YthmfkdlncnjjoaaDoor
