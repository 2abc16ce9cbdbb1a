/- The walks of Bits, Unsigned and InstrEncode: the program's. -/
import Derived.Test.YthmfkdlncnjjoaaDoorIs
import Derived.Laws.BitsAllLaws
import Derived.IntWalk
namespace Go.Proofs.YthmfkdlncnjjoaaDoor
open Go.RowKit IM
set_option linter.unusedSimpArgs false
set_option maxHeartbeats 400000 in
theorem isUnsigned_any (u : Int) (w : World) :
    Calls Tryd.prog 34 #[.int .i64 u] w fun e w' => e = .returned (.bool (decide (0 ≤ u ∧ u < 4294967296))) ∧ w = w' := by
  go_enter Tryd.func34, Tryd.ntmps34
  go_wp2
  all_goals
    go_ret
    refine ⟨ret_bool (Bool.eq_iff_iff.2 ?_), rfl⟩
    simp only [decide_eq_true_eq, Bool.and_eq_true, Bool.false_eq_true, false_iff]
    omega
def bitsOf (u low many : Int) : Int := u / 2 ^ low.toNat % 2 ^ many.toNat
theorem pow_le (m n : Nat) (h : m ≤ n) : (2 : Int) ^ m ≤ 2 ^ n := by exact_mod_cast Nat.pow_le_pow_right (by decide) h
theorem pow_pos (m : Nat) : (0 : Int) < 2 ^ m := by exact_mod_cast Nat.two_pow_pos m
theorem mask_bits (u low many : Int) (h0 : 0 ≤ u) (h1 : u < 4294967296) (m0 : 1 ≤ many) (m1 : many ≤ 32) : bits .and .i64 (u / 2 ^ low.toNat) (wrap64 (wrap64 (2 ^ many.toNat) - 1)) = bitsOf u low many := by
  have p1 := pow_le many.toNat 32 (by omega)
  have p0 := pow_pos many.toNat
  have e : wrap64 (wrap64 ((2 : Int) ^ many.toNat) - 1) = 2 ^ many.toNat - 1 := by unfold wrap64; omega
  have d0 : 0 ≤ u / 2 ^ low.toNat := Int.ediv_nonneg h0 (Int.le_of_lt (pow_pos _))
  have d1 : u / 2 ^ low.toNat ≤ u := Int.ediv_le_self _ h0
  rw [e]
  exact bits_mask .i64 40 (by decide) (fun n a b => IntWalk.i64_in n (by omega)) many.toNat (by omega) _ d0 (by omega)
set_option maxHeartbeats 400000 in
theorem bits_any (u low many : Int) (w : World) (h0 : 0 ≤ u) (h1 : u < 4294967296) (l0 : 0 ≤ low) (l1 : low ≤ 31) (m0 : 1 ≤ many) (m1 : many ≤ 32 - low) :
    Calls Tryd.prog 18 #[.int .i64 u, .int .i64 low, .int .i64 many] w fun e w' => e = .returned (.int .i64 (bitsOf u low many)) ∧ ∃ n, w' = w.drewN n := by
  have E := Lib.hid (mask_bits u low many h0 h1 m0 (by omega))
  go_enter Tryd.func18, Tryd.ntmps18
  go_wp2_with (first | (go_at_call 34; refine (isUnsigned_any _ _).mono ?_; rintro e w' ⟨rfl, rfl⟩))
  go_quiet (fail)
  go_wp2
  go_ret
  exact ⟨ret_int E.out, _, rfl⟩
set_option maxHeartbeats 400000 in
theorem unsigned_any (n : Int) (w : World) (h0 : -2147483648 ≤ n) (h1 : n ≤ 2147483647) :
    Calls Tryd.prog 29 #[.int .i64 n] w fun e w' => e = .returned (.int .i64 (n % 4294967296)) ∧ w = w' := by
  go_enter Tryd.func29, Tryd.ntmps29
  go_wp2
  go_ret
  exact ⟨rfl, rfl⟩
theorem bitsOf_bd (u low many : Int) : 0 ≤ bitsOf u low many ∧ bitsOf u low many < 2 ^ many.toNat := by
  have p0 := pow_pos many.toNat
  unfold bitsOf
  exact ⟨Int.emod_nonneg _ (by omega), Int.emod_lt_of_pos _ p0⟩
set_option maxHeartbeats 400000 in
theorem part_any (a : Addr) (m low many place : Int) (w : World) (hc : w.cell? a = some (.int .i64 m)) (h0 : 0 ≤ m) (h1 : m < 4294967296) (l0 : 0 ≤ low) (l1 : low ≤ 31) (m0 : 1 ≤ many) (m1 : many ≤ 32 - low) (p0 : 0 ≤ place) (p1 : place ≤ 31) :
    Calls Tryd.prog 30 #[.int .i64 low, .int .i64 many, .int .i64 place, .pointer (some a)] w fun e w' => e = .returned (.int .i64 (bitsOf m low many * 2 ^ place.toNat)) ∧ ∃ n, w' = w.drewN n := by
  have hb := bitsOf_bd m low many
  have hw : wrap64 (bitsOf m low many * 2 ^ place.toNat) = bitsOf m low many * 2 ^ place.toNat := by
    have q1 := pow_le many.toNat 32 (by omega)
    have q2 := pow_le place.toNat 31 (by omega)
    have q3 := pow_pos place.toNat
    have h3 : bitsOf m low many * 2 ^ place.toNat ≤ 4294967295 * 2147483648 := Int.mul_le_mul (by omega) (by omega) (by omega) (by omega)
    have h4 : 0 ≤ bitsOf m low many * 2 ^ place.toNat := Int.mul_nonneg hb.1 (by omega)
    unfold wrap64
    omega
  have E := Lib.hid hw
  clear hw hb
  go_enter Tryd.func30, Tryd.ntmps30
  go_wp2_with (first | (go_at_call 18; refine (bits_any _ _ _ _ h0 h1 l0 l1 m0 m1).mono ?_; rintro e w' ⟨rfl, nq, rfl⟩))
  go_ret
  exact ⟨ret_int E.out, _, rfl⟩
end Go.Proofs.YthmfkdlncnjjoaaDoor
