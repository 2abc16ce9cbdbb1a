/- The walks of the reference's encoder: l42Encode of a valid instruction is IM.E. -/
import Derived.Test.YthmfkdlncnjjoaaDoorEn
import Derived.Test.YthmfkdlncnjjoaaDoorEm
import Derived.Test.YthmfkdlncnjjoaaDoorDr
import Derived.LoopTactic
import Derived.Deep.RegionHeld3
import Derived.Outline
namespace Go.Proofs.YthmfkdlncnjjoaaDoor
open Go.RowKit IM
set_option linter.unusedVariables false
set_option linter.unusedSimpArgs false
theorem pow_step (k : Nat) : (2 : Int) ^ (k + 1) = 2 ^ k * 2 := Int.pow_succ 2 k
set_option maxHeartbeats 400000 in
theorem l1Power_any (n : Nat) (w : World) (hn : n ≤ 62) :
    Calls Tryd.prog 69 #[.int .i64 (n : Int)] w fun e w' => e = .returned (.int .i64 ((2 : Int) ^ n)) ∧ w = w' := by
  go_enter Tryd.func69, Tryd.ntmps69
  go_wp2
  go_loop [3, 4] (fun o i => ∃ k : Nat, k ≤ n ∧ i = .int .i64 k ∧ o = .int .i64 ((2 : Int) ^ k)) (fun _ i => n - (intOf i).toNat)
  case atStart => exact ⟨0, Nat.zero_le _, rfl, rfl⟩
  case round =>
    obtain ⟨k, hk, rfl, rfl⟩ := hrel
    have p0 := pow_pos k
    by_cases hlt : k < n
    · have p1 := pow_le k 61 (by omega)
      have p2 : (2 : Int) ^ k ≤ 2305843009213693952 := p1
      have H := Lib.hid (pow_step k)
      clear p1
      go_wp2
      go_round
      case rel => exact ⟨k + 1, by omega, by go_num, by rw [H.out]⟩
      case measure => simp [intOf]; omega
    · go_wp2
      go_ret
      obtain rfl : n = k := by omega
      exact ⟨rfl, rfl⟩
set_option maxHeartbeats 400000 in
theorem l42Mod_any (n p : Int) (w : World) (h0 : -p ≤ n) (h1 : n < p) (p1 : p ≤ 4194304) :
    Calls Tryd.prog 54 #[.int .i64 n, .int .i64 p] w fun e w' => e = .returned (.int .i64 (n % p)) ∧ w = w' := by
  have H := Lib.hid (fun h : n < 0 => (Int.emod_eq_of_lt (show 0 ≤ n + p by omega) (show n + p < p by omega)).symm.trans (Int.add_emod_right n p))
  have H2 := Lib.hid (fun h : 0 ≤ n => (Int.emod_eq_of_lt h h1).symm)
  go_enter Tryd.func54, Tryd.ntmps54
  go_wp2
  all_goals
    go_ret
    exact ⟨ret_int (by first | exact H.out (by assumption) | exact H2.out (by assumption)), rfl⟩
theorem new_cell (w : World) (cs : Array Value) (T i : Nat) (v : Value) (h : cs[i]? = some v) : (w.alloc (.cells cs T)).cell? ⟨w.heap.size, i, none⟩ = some v := by
  unfold World.cell?
  rw [new_blk w _]
  exact h
def threes : Array Value := #[.int .i64 0, .int .i64 0, .int .i64 0, .int .i64 4, .int .i64 6, .int .i64 7, .int .i64 6, .int .i64 4, .int .i64 1, .int .i64 5, .int .i64 2, .int .i64 0, .int .i64 3, .int .i64 2, .int .i64 0, .int .i64 2, .int .i64 0, .int .i64 1, .int .i64 0, .int .i64 0, .int .i64 0]
theorem threes_at (op : Int) (h0 : 1 ≤ op) (h1 : op ≤ 21) : threes[op.toNat - 1]? = some (.int .i64 (f3 op)) := by
  rcases (by omega : op = 1 ∨ op = 2 ∨ op = 3 ∨ op = 4 ∨ op = 5 ∨ op = 6 ∨ op = 7 ∨ op = 8 ∨ op = 9 ∨ op = 10 ∨ op = 11 ∨ op = 12 ∨ op = 13 ∨ op = 14 ∨ op = 15 ∨ op = 16 ∨ op = 17 ∨ op = 18 ∨ op = 19 ∨ op = 20 ∨ op = 21) with rfl | rfl | rfl | rfl | rfl | rfl | rfl | rfl | rfl | rfl | rfl | rfl | rfl | rfl | rfl | rfl | rfl | rfl | rfl | rfl | rfl
  all_goals rfl
def sevens : Array Value := #[.int .i64 0, .int .i64 32, .int .i64 1, .int .i64 1, .int .i64 1, .int .i64 0, .int .i64 0, .int .i64 0, .int .i64 0, .int .i64 32, .int .i64 0]
theorem sevens_at (op : Int) (h0 : 1 ≤ op) (h1 : op ≤ 11) : sevens[op.toNat - 1]? = some (.int .i64 (f7 op)) := by
  rcases (by omega : op = 1 ∨ op = 2 ∨ op = 3 ∨ op = 4 ∨ op = 5 ∨ op = 6 ∨ op = 7 ∨ op = 8 ∨ op = 9 ∨ op = 10 ∨ op = 11) with rfl | rfl | rfl | rfl | rfl | rfl | rfl | rfl | rfl | rfl | rfl
  all_goals rfl
set_option maxRecDepth 100000 in
set_option maxHeartbeats 1000000 in
theorem l42Three_any (op : Int) (w : World) (h0 : 1 ≤ op) (h1 : op ≤ 21) :
    Calls Tryd.prog 62 #[.int .i64 op] w fun e w' => e = .returned (.int .i64 (f3 op)) ∧ Below w.heap.size w w' := by
  have hc := new_cell w threes 3 _ _ (threes_at op h0 h1)
  unfold threes at hc
  go_enter Tryd.func62, Tryd.ntmps62
  go_wp2
  go_ret
  exact ⟨rfl, by repeat (first | (with_reducible exact Below.refl _ _) | (with_reducible apply bl_alloc) | (with_reducible apply bl_drewN) | (with_reducible apply bl_drew))⟩
set_option maxRecDepth 100000 in
set_option maxHeartbeats 1000000 in
theorem l42Seven_any (op : Int) (w : World) (h0 : 1 ≤ op) (h1 : op ≤ 11) :
    Calls Tryd.prog 60 #[.int .i64 op] w fun e w' => e = .returned (.int .i64 (f7 op)) ∧ Below w.heap.size w w' := by
  have hc := new_cell w sevens 3 _ _ (sevens_at op h0 h1)
  unfold sevens at hc
  go_enter Tryd.func60, Tryd.ntmps60
  go_wp2
  go_ret
  exact ⟨rfl, by repeat (first | (with_reducible exact Below.refl _ _) | (with_reducible apply bl_alloc) | (with_reducible apply bl_drewN) | (with_reducible apply bl_drew))⟩
set_option maxHeartbeats 400000 in
theorem l42Put_any (n : Int) (bit : Nat) (L : Int) (w : World) (hb : bit ≤ 31) (hL : (2 : Int) ^ bit = L) (h0 : 0 ≤ n) (h1 : n ≤ 4294967295) :
    Calls Tryd.prog 55 #[.int .i64 n, .int .i64 (bit : Int)] w fun e w' => e = .returned (.int .i64 (n * L)) ∧ w = w' := by
  have p1 := pow_le bit 31 (by omega)
  have p2 : L ≤ 2147483648 := by rw [← hL]; exact p1
  have p3 : 0 < L := by rw [← hL]; exact pow_pos bit
  have hw : wrap64 (n * L) = n * L := by
    have a : n * L ≤ 4294967295 * 2147483648 := Int.mul_le_mul h1 p2 (by omega) (by omega)
    have b : 0 ≤ n * L := Int.mul_nonneg h0 (by omega)
    unfold wrap64
    omega
  have H := Lib.hid hw
  have HL := Lib.hid hL
  clear hw hL p1
  go_enter Tryd.func55, Tryd.ntmps55
  go_wp2_with (go_at_call 69; refine (l1Power_any bit _ (by omega)).mono ?_; rw [HL.out]; rintro e w' ⟨rfl, rfl⟩)
  go_ret
  exact ⟨ret_int H.out, rfl⟩
theorem l6In_yes (n lo hi : Int) (w : World) (h0 : lo ≤ n) (h1 : n ≤ hi) :
    Calls Tryd.prog 35 #[.int .i64 n, .int .i64 lo, .int .i64 hi] w fun e w' => e = .returned (.bool true) ∧ w = w' :=
  (l6In_any n lo hi w).mono fun e w' h => ⟨by rw [h.1, decide_eq_true ⟨h0, h1⟩], h.2⟩
theorem l1Power_at (n : Nat) (L : Int) (w : World) (hn : n ≤ 62) (hL : (2 : Int) ^ n = L) :
    Calls Tryd.prog 69 #[.int .i64 (n : Int)] w fun e w' => e = .returned (.int .i64 L) ∧ w = w' := hL ▸ l1Power_any n w hn
set_option maxHeartbeats 1000000 in
theorem specBits_any (u : Int) (low many : Nat) (L M : Int) (w : World) (h0 : 0 ≤ u) (h1 : u < 4294967296) (l1 : low ≤ 31) (m0 : 1 ≤ many) (m1 : many ≤ 32 - low) (hL : (2 : Int) ^ low = L) (hM : (2 : Int) ^ many = M) :
    Calls Tryd.prog 56 #[.int .i64 u, .int .i64 (low : Int), .int .i64 (many : Int)] w fun e w' => e = .returned (.int .i64 (u / L % M)) ∧ ∃ n, w' = w.drewN n := by
  have p3 : 1 ≤ L := by rw [← hL]; exact pow_pos low
  have p4 : 1 ≤ M := by rw [← hM]; exact pow_pos many
  have d0 : 0 ≤ u / L := Int.ediv_nonneg h0 (by omega)
  have HL := Lib.hid hL
  have HM := Lib.hid hM
  clear hM hL
  have cl := fun W => l1Power_at low L W (by omega) HL.out
  have cm := fun W => l1Power_at many M W (by omega) HM.out
  go_enter Tryd.func56, Tryd.ntmps56
  go_wp2_with (first | (go_at_call 35; refine (l6In_yes _ _ _ _ (by omega) (by omega)).mono ?_; rintro e w' ⟨rfl, rfl⟩))
  go_quiet ((first | (go_at_call 69; with_reducible exact q_of (cl _)) | (go_at_call 69; with_reducible exact q_of (cm _))))
  go_wp2
  go_ret
  exact ⟨ret_int rfl, _, rfl⟩
set_option maxRecDepth 100000 in
set_option maxHeartbeats 1000000 in
theorem l42Mid_any (op rd rs rt imm o : Int) (w : World) (h0 : 1 ≤ op) (h1 : op ≤ 21) (a0 : 0 ≤ rs) (a1 : rs < 32) (o0 : 0 ≤ o) (o1 : o ≤ 127) :
    Calls Tryd.prog 57 #[.agg #[.int .i64 op, .int .i64 rd, .int .i64 rs, .int .i64 rt, .int .i64 imm], .int .i64 o] w fun e w' => e = .returned (.int .i64 (rs * 32768 + f3 op * 4096 + o)) ∧ Below w.heap.size w w' := by
  obtain ⟨q0, q1⟩ := f3_bd op
  have kc := Lib.hid (new_blk w (.cells #[.int .i64 op, .int .i64 rd, .int .i64 rs, .int .i64 rt, .int .i64 imm] 26))
  have Q := Lib.hid (bl_alloc (Below.refl w.heap.size w) (.cells #[.int .i64 op, .int .i64 rd, .int .i64 rs, .int .i64 rt, .int .i64 imm] 26))
  go_enter Tryd.func57, Tryd.ntmps57
  go_wp2
  go_region_held3 (fun w' => w'.cell? ⟨w.heap.size, 0, none⟩ = some (.int .i64 op) ∧ w'.cell? ⟨w.heap.size, 2, none⟩ = some (.int .i64 rs)) (first | (simp [*]; done) | (go_simp; done) | (constructor <;> go_simp)) (first | (go_at_call 55; refine (l42Put_any rs 15 32768 _ (by omega) rfl (by omega) (by omega)).mono ?_; rintro e w' ⟨rfl, rfl⟩) | (go_at_call 55; refine (l42Put_any (f3 op) 12 4096 _ (by omega) rfl (by omega) (by omega)).mono ?_; rintro e w' ⟨rfl, rfl⟩) | (go_at_call 62; refine (l42Three_any _ _ h0 h1).mono ?_; rintro e w1 ⟨rfl, hb⟩; obtain ⟨u0, u1, u2, u3, u4⟩ := five (bl_keep hb kc.out); have Qn := Lib.hid (bl_tr hb (by repeat (with_reducible first | exact Q.out | apply bl_drewN | apply bl_drew)))))
  go_wp2
  go_ret
  have w1' : IntKind.i64.wrap (rs * 32768 + f3 op * 4096) = rs * 32768 + f3 op * 4096 := IntWalk.i64_in _ (by omega)
  have w2' : IntKind.i64.wrap (rs * 32768 + f3 op * 4096 + o) = rs * 32768 + f3 op * 4096 + o := IntWalk.i64_in _ (by omega)
  exact ⟨ret_int (by simp only [w1', w2']), by repeat (with_reducible first | exact Qn.out | apply bl_drewN | apply bl_drew)⟩
theorem put7 (n : Int) (w : World) (h0 : 0 ≤ n) (h1 : n ≤ 4294967295) : Calls Tryd.prog 55 #[.int .i64 n, .int .i64 7] w fun e w' => e = .returned (.int .i64 (n * 128)) ∧ w = w' := l42Put_any n 7 128 w (by omega) rfl h0 h1
theorem put8 (n : Int) (w : World) (h0 : 0 ≤ n) (h1 : n ≤ 4294967295) : Calls Tryd.prog 55 #[.int .i64 n, .int .i64 8] w fun e w' => e = .returned (.int .i64 (n * 256)) ∧ w = w' := l42Put_any n 8 256 w (by omega) rfl h0 h1
theorem put12 (n : Int) (w : World) (h0 : 0 ≤ n) (h1 : n ≤ 4294967295) : Calls Tryd.prog 55 #[.int .i64 n, .int .i64 12] w fun e w' => e = .returned (.int .i64 (n * 4096)) ∧ w = w' := l42Put_any n 12 4096 w (by omega) rfl h0 h1
theorem put15 (n : Int) (w : World) (h0 : 0 ≤ n) (h1 : n ≤ 4294967295) : Calls Tryd.prog 55 #[.int .i64 n, .int .i64 15] w fun e w' => e = .returned (.int .i64 (n * 32768)) ∧ w = w' := l42Put_any n 15 32768 w (by omega) rfl h0 h1
theorem put20 (n : Int) (w : World) (h0 : 0 ≤ n) (h1 : n ≤ 4294967295) : Calls Tryd.prog 55 #[.int .i64 n, .int .i64 20] w fun e w' => e = .returned (.int .i64 (n * 1048576)) ∧ w = w' := l42Put_any n 20 1048576 w (by omega) rfl h0 h1
theorem put21 (n : Int) (w : World) (h0 : 0 ≤ n) (h1 : n ≤ 4294967295) : Calls Tryd.prog 55 #[.int .i64 n, .int .i64 21] w fun e w' => e = .returned (.int .i64 (n * 2097152)) ∧ w = w' := l42Put_any n 21 2097152 w (by omega) rfl h0 h1
theorem put25 (n : Int) (w : World) (h0 : 0 ≤ n) (h1 : n ≤ 4294967295) : Calls Tryd.prog 55 #[.int .i64 n, .int .i64 25] w fun e w' => e = .returned (.int .i64 (n * 33554432)) ∧ w = w' := l42Put_any n 25 33554432 w (by omega) rfl h0 h1
theorem put31 (n : Int) (w : World) (h0 : 0 ≤ n) (h1 : n ≤ 4294967295) : Calls Tryd.prog 55 #[.int .i64 n, .int .i64 31] w fun e w' => e = .returned (.int .i64 (n * 2147483648)) ∧ w = w' := l42Put_any n 31 2147483648 w (by omega) rfl h0 h1
theorem sb0_7 (u : Int) (w : World) (h0 : 0 ≤ u) (h1 : u < 4294967296) : Calls Tryd.prog 56 #[.int .i64 u, .int .i64 0, .int .i64 7] w fun e w' => e = .returned (.int .i64 (u / 1 % 128)) ∧ ∃ n, w' = w.drewN n := specBits_any u 0 7 1 128 w h0 h1 (by omega) (by omega) (by omega) rfl rfl
theorem sb12_3 (u : Int) (w : World) (h0 : 0 ≤ u) (h1 : u < 4294967296) : Calls Tryd.prog 56 #[.int .i64 u, .int .i64 12, .int .i64 3] w fun e w' => e = .returned (.int .i64 (u / 4096 % 8)) ∧ ∃ n, w' = w.drewN n := specBits_any u 12 3 4096 8 w h0 h1 (by omega) (by omega) (by omega) rfl rfl
theorem sb25_7 (u : Int) (w : World) (h0 : 0 ≤ u) (h1 : u < 4294967296) : Calls Tryd.prog 56 #[.int .i64 u, .int .i64 25, .int .i64 7] w fun e w' => e = .returned (.int .i64 (u / 33554432 % 128)) ∧ ∃ n, w' = w.drewN n := specBits_any u 25 7 33554432 128 w h0 h1 (by omega) (by omega) (by omega) rfl rfl
theorem sb7_5 (u : Int) (w : World) (h0 : 0 ≤ u) (h1 : u < 4294967296) : Calls Tryd.prog 56 #[.int .i64 u, .int .i64 7, .int .i64 5] w fun e w' => e = .returned (.int .i64 (u / 128 % 32)) ∧ ∃ n, w' = w.drewN n := specBits_any u 7 5 128 32 w h0 h1 (by omega) (by omega) (by omega) rfl rfl
theorem sb15_5 (u : Int) (w : World) (h0 : 0 ≤ u) (h1 : u < 4294967296) : Calls Tryd.prog 56 #[.int .i64 u, .int .i64 15, .int .i64 5] w fun e w' => e = .returned (.int .i64 (u / 32768 % 32)) ∧ ∃ n, w' = w.drewN n := specBits_any u 15 5 32768 32 w h0 h1 (by omega) (by omega) (by omega) rfl rfl
theorem sb20_5 (u : Int) (w : World) (h0 : 0 ≤ u) (h1 : u < 4294967296) : Calls Tryd.prog 56 #[.int .i64 u, .int .i64 20, .int .i64 5] w fun e w' => e = .returned (.int .i64 (u / 1048576 % 32)) ∧ ∃ n, w' = w.drewN n := specBits_any u 20 5 1048576 32 w h0 h1 (by omega) (by omega) (by omega) rfl rfl
theorem sb20_12 (u : Int) (w : World) (h0 : 0 ≤ u) (h1 : u < 4294967296) : Calls Tryd.prog 56 #[.int .i64 u, .int .i64 20, .int .i64 12] w fun e w' => e = .returned (.int .i64 (u / 1048576 % 4096)) ∧ ∃ n, w' = w.drewN n := specBits_any u 20 12 1048576 4096 w h0 h1 (by omega) (by omega) (by omega) rfl rfl
theorem sb31_1 (u : Int) (w : World) (h0 : 0 ≤ u) (h1 : u < 4294967296) : Calls Tryd.prog 56 #[.int .i64 u, .int .i64 31, .int .i64 1] w fun e w' => e = .returned (.int .i64 (u / 2147483648 % 2)) ∧ ∃ n, w' = w.drewN n := specBits_any u 31 1 2147483648 2 w h0 h1 (by omega) (by omega) (by omega) rfl rfl
theorem sb7_1 (u : Int) (w : World) (h0 : 0 ≤ u) (h1 : u < 4294967296) : Calls Tryd.prog 56 #[.int .i64 u, .int .i64 7, .int .i64 1] w fun e w' => e = .returned (.int .i64 (u / 128 % 2)) ∧ ∃ n, w' = w.drewN n := specBits_any u 7 1 128 2 w h0 h1 (by omega) (by omega) (by omega) rfl rfl
theorem sb25_6 (u : Int) (w : World) (h0 : 0 ≤ u) (h1 : u < 4294967296) : Calls Tryd.prog 56 #[.int .i64 u, .int .i64 25, .int .i64 6] w fun e w' => e = .returned (.int .i64 (u / 33554432 % 64)) ∧ ∃ n, w' = w.drewN n := specBits_any u 25 6 33554432 64 w h0 h1 (by omega) (by omega) (by omega) rfl rfl
theorem sb8_4 (u : Int) (w : World) (h0 : 0 ≤ u) (h1 : u < 4294967296) : Calls Tryd.prog 56 #[.int .i64 u, .int .i64 8, .int .i64 4] w fun e w' => e = .returned (.int .i64 (u / 256 % 16)) ∧ ∃ n, w' = w.drewN n := specBits_any u 8 4 256 16 w h0 h1 (by omega) (by omega) (by omega) rfl rfl
theorem sb12_20 (u : Int) (w : World) (h0 : 0 ≤ u) (h1 : u < 4294967296) : Calls Tryd.prog 56 #[.int .i64 u, .int .i64 12, .int .i64 20] w fun e w' => e = .returned (.int .i64 (u / 4096 % 1048576)) ∧ ∃ n, w' = w.drewN n := specBits_any u 12 20 4096 1048576 w h0 h1 (by omega) (by omega) (by omega) rfl rfl
theorem sb12_8 (u : Int) (w : World) (h0 : 0 ≤ u) (h1 : u < 4294967296) : Calls Tryd.prog 56 #[.int .i64 u, .int .i64 12, .int .i64 8] w fun e w' => e = .returned (.int .i64 (u / 4096 % 256)) ∧ ∃ n, w' = w.drewN n := specBits_any u 12 8 4096 256 w h0 h1 (by omega) (by omega) (by omega) rfl rfl
theorem sb20_1 (u : Int) (w : World) (h0 : 0 ≤ u) (h1 : u < 4294967296) : Calls Tryd.prog 56 #[.int .i64 u, .int .i64 20, .int .i64 1] w fun e w' => e = .returned (.int .i64 (u / 1048576 % 2)) ∧ ∃ n, w' = w.drewN n := specBits_any u 20 1 1048576 2 w h0 h1 (by omega) (by omega) (by omega) rfl rfl
theorem sb21_10 (u : Int) (w : World) (h0 : 0 ≤ u) (h1 : u < 4294967296) : Calls Tryd.prog 56 #[.int .i64 u, .int .i64 21, .int .i64 10] w fun e w' => e = .returned (.int .i64 (u / 2097152 % 1024)) ∧ ∃ n, w' = w.drewN n := specBits_any u 21 10 2097152 1024 w h0 h1 (by omega) (by omega) (by omega) rfl rfl
theorem sb12_1 (u : Int) (w : World) (h0 : 0 ≤ u) (h1 : u < 4294967296) : Calls Tryd.prog 56 #[.int .i64 u, .int .i64 12, .int .i64 1] w fun e w' => e = .returned (.int .i64 (u / 4096 % 2)) ∧ ∃ n, w' = w.drewN n := specBits_any u 12 1 4096 2 w h0 h1 (by omega) (by omega) (by omega) rfl rfl
theorem sb5_6 (u : Int) (w : World) (h0 : 0 ≤ u) (h1 : u < 4294967296) : Calls Tryd.prog 56 #[.int .i64 u, .int .i64 5, .int .i64 6] w fun e w' => e = .returned (.int .i64 (u / 32 % 64)) ∧ ∃ n, w' = w.drewN n := specBits_any u 5 6 32 64 w h0 h1 (by omega) (by omega) (by omega) rfl rfl
theorem sb1_4 (u : Int) (w : World) (h0 : 0 ≤ u) (h1 : u < 4294967296) : Calls Tryd.prog 56 #[.int .i64 u, .int .i64 1, .int .i64 4] w fun e w' => e = .returned (.int .i64 (u / 2 % 16)) ∧ ∃ n, w' = w.drewN n := specBits_any u 1 4 2 16 w h0 h1 (by omega) (by omega) (by omega) rfl rfl
theorem sb11_1 (u : Int) (w : World) (h0 : 0 ≤ u) (h1 : u < 4294967296) : Calls Tryd.prog 56 #[.int .i64 u, .int .i64 11, .int .i64 1] w fun e w' => e = .returned (.int .i64 (u / 2048 % 2)) ∧ ∃ n, w' = w.drewN n := specBits_any u 11 1 2048 2 w h0 h1 (by omega) (by omega) (by omega) rfl rfl
theorem sb5_7 (u : Int) (w : World) (h0 : 0 ≤ u) (h1 : u < 4294967296) : Calls Tryd.prog 56 #[.int .i64 u, .int .i64 5, .int .i64 7] w fun e w' => e = .returned (.int .i64 (u / 32 % 128)) ∧ ∃ n, w' = w.drewN n := specBits_any u 5 7 32 128 w h0 h1 (by omega) (by omega) (by omega) rfl rfl
theorem sb0_5 (u : Int) (w : World) (h0 : 0 ≤ u) (h1 : u < 4294967296) : Calls Tryd.prog 56 #[.int .i64 u, .int .i64 0, .int .i64 5] w fun e w' => e = .returned (.int .i64 (u / 1 % 32)) ∧ ∃ n, w' = w.drewN n := specBits_any u 0 5 1 32 w h0 h1 (by omega) (by omega) (by omega) rfl rfl
theorem sb1_10 (u : Int) (w : World) (h0 : 0 ≤ u) (h1 : u < 4294967296) : Calls Tryd.prog 56 #[.int .i64 u, .int .i64 1, .int .i64 10] w fun e w' => e = .returned (.int .i64 (u / 2 % 1024)) ∧ ∃ n, w' = w.drewN n := specBits_any u 1 10 2 1024 w h0 h1 (by omega) (by omega) (by omega) rfl rfl
set_option maxRecDepth 100000 in
set_option maxHeartbeats 1000000 in
theorem l42Imm_any (op rd rs rt imm o : Int) (w : World) (h0 : 1 ≤ op) (h1 : op ≤ 21) (b0 : 0 ≤ rs) (b1 : rs < 32) (a0 : 0 ≤ rd) (a1 : rd < 32) (i0 : -2048 ≤ imm) (i1 : imm ≤ 2047) (o0 : 0 ≤ o) (o1 : o ≤ 127) :
    Calls Tryd.prog 53 #[.agg #[.int .i64 op, .int .i64 rd, .int .i64 rs, .int .i64 rt, .int .i64 imm], .int .i64 o] w fun e w' => e = .returned (.int .i64 (imm % 4096 * 1048576 + (rs * 32768 + f3 op * 4096 + o) + rd * 128)) ∧ Below w.heap.size w w' := by
  obtain ⟨q0, q1⟩ := f3_bd op
  have kc := Lib.hid (new_blk w (.cells #[.int .i64 op, .int .i64 rd, .int .i64 rs, .int .i64 rt, .int .i64 imm] 26))
  have Q := Lib.hid (bl_alloc (Below.refl w.heap.size w) (.cells #[.int .i64 op, .int .i64 rd, .int .i64 rs, .int .i64 rt, .int .i64 imm] 26))
  go_enter Tryd.func53, Tryd.ntmps53
  go_wp2
  go_region_held3 (fun w' => w'.cell? ⟨w.heap.size, 0, none⟩ = some (.int .i64 op) ∧ w'.cell? ⟨w.heap.size, 1, none⟩ = some (.int .i64 rd) ∧ w'.cell? ⟨w.heap.size, 2, none⟩ = some (.int .i64 rs) ∧ w'.cell? ⟨w.heap.size, 3, none⟩ = some (.int .i64 rt) ∧ w'.cell? ⟨w.heap.size, 4, none⟩ = some (.int .i64 imm)) (first | (simp [*]; done) | (go_simp; done) | (refine ⟨?_, ?_, ?_, ?_, ?_⟩ <;> go_simp)) (first | (go_at_call 54; (with_reducible refine (l42Mod_any _ _ _ (by omega) (by omega) (by omega)).mono ?_); rintro e w' ⟨rfl, rfl⟩) | (go_at_call 55; (with_reducible refine (put20 _ _ (by omega) (by omega)).mono ?_); rintro e w' ⟨rfl, rfl⟩) | (go_at_call 55; (with_reducible refine (put7 _ _ (by omega) (by omega)).mono ?_); rintro e w' ⟨rfl, rfl⟩) | (go_at_call 57; (with_reducible refine (l42Mid_any _ _ _ _ _ o _ h0 h1 b0 b1 (by omega) (by omega)).mono ?_); rintro e w1 ⟨rfl, hb⟩; obtain ⟨u0, u1, u2, u3, u4⟩ := five (bl_keep hb kc.out); have Qn := Lib.hid (bl_tr hb (by repeat (with_reducible first | exact Q.out | apply bl_drewN | apply bl_drew)))))
  go_wp2
  go_ret
  have w1' : IntKind.i64.wrap (imm % 4096 * 1048576 + (rs * 32768 + f3 op * 4096 + o)) = imm % 4096 * 1048576 + (rs * 32768 + f3 op * 4096 + o) := IntWalk.i64_in _ (by omega)
  have w2' : IntKind.i64.wrap (imm % 4096 * 1048576 + (rs * 32768 + f3 op * 4096 + o) + rd * 128) = imm % 4096 * 1048576 + (rs * 32768 + f3 op * 4096 + o) + rd * 128 := IntWalk.i64_in _ (by omega)
  exact ⟨ret_int (by simp only [w1', w2']), by repeat (with_reducible first | exact Qn.out | apply bl_drewN | apply bl_drew)⟩
end Go.Proofs.YthmfkdlncnjjoaaDoor
