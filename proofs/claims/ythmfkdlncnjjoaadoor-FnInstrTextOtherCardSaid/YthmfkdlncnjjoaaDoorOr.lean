/- Fields put together by 'or'. -/
import Derived.Test.YthmfkdlncnjjoaaDoorBa
import Derived.Laws.BitsAllLaws
import Derived.IntWalk
namespace Go.Proofs.YthmfkdlncnjjoaaDoor
open Go.RowKit
set_option linter.unusedVariables false
theorem nat_put (hi o v m l : Nat) (hl : l ≤ m) (ho : o < 2 ^ l) (hv : v * 2 ^ l < 2 ^ m) : (hi * 2 ^ m + o) ||| (v * 2 ^ l) = hi * 2 ^ m + v * 2 ^ l + o := by
  have hp : 2 ^ l ≤ 2 ^ m := Nat.pow_le_pow_right (by decide) hl
  have h1 : hi * 2 ^ m + o = hi * 2 ^ m ||| o := (nat_join m _ _ (Nat.mul_mod_left _ _) (Nat.lt_of_lt_of_le ho hp)).symm
  have h2 : v * 2 ^ l ||| o = v * 2 ^ l + o := nat_join l _ _ (Nat.mul_mod_left _ _) ho
  have h4 : v * 2 ^ l + o < 2 ^ m := by
    obtain ⟨d, rfl⟩ : ∃ d, m = l + d := ⟨m - l, by omega⟩
    rw [Nat.pow_add, Nat.mul_comm (2 ^ l)] at hv ⊢
    have hvd : v < 2 ^ d := Nat.lt_of_mul_lt_mul_right hv
    calc v * 2 ^ l + o < v * 2 ^ l + 2 ^ l := by omega
      _ = (v + 1) * 2 ^ l := by rw [Nat.add_mul, Nat.one_mul]
      _ ≤ 2 ^ d * 2 ^ l := Nat.mul_le_mul_right _ hvd
  have h3 : hi * 2 ^ m ||| (v * 2 ^ l + o) = hi * 2 ^ m + (v * 2 ^ l + o) := nat_join m _ _ (Nat.mul_mod_left _ _) h4
  rw [h1, Nat.or_assoc, Nat.or_comm o, h2, h3]
  omega
/-- A field v put at bit l into a number that is empty from bit l to bit m. -/
theorem or_put (x v : Int) (m l : Nat) (hl : l ≤ m) (hm : m ≤ 40) (x0 : 0 ≤ x) (x1 : x < 2 ^ 40) (hx : x % 2 ^ m < 2 ^ l) (v0 : 0 ≤ v) (v1 : v * 2 ^ l < 2 ^ m) : bits .or .i64 x (v * 2 ^ l) = x + v * 2 ^ l := by
  obtain ⟨a, rfl⟩ := Int.eq_ofNat_of_zero_le x0
  obtain ⟨b, rfl⟩ := Int.eq_ofNat_of_zero_le v0
  have ha : a < 2 ^ 40 := by exact_mod_cast x1
  have hb : b * 2 ^ l < 2 ^ m := by exact_mod_cast v1
  have hm' : a % 2 ^ m < 2 ^ l := by exact_mod_cast hx
  have hmm : (2 : Nat) ^ m ≤ 2 ^ 40 := Nat.pow_le_pow_right (by decide) hm
  have e : ((b : Int) * 2 ^ l) = ((b * 2 ^ l : Nat) : Int) := by push_cast; rfl
  rw [e, (bits_nat .i64 40 (by decide) (fun n p q => IntWalk.i64_in n (by omega)) a (b * 2 ^ l) ha (by omega)).2]
  have hd := Nat.div_add_mod a (2 ^ m)
  have hp := nat_put (a / 2 ^ m) (a % 2 ^ m) b m l hl hm' hb
  rw [Nat.mul_comm] at hd
  rw [hd] at hp
  rw [hp]
  have : a / 2 ^ m * 2 ^ m + b * 2 ^ l + a % 2 ^ m = a + b * 2 ^ l := by omega
  rw [this]
  push_cast
  rfl
theorem or_at (x v L M : Int) (m l : Nat) (hL : (2 : Int) ^ l = L) (hM : (2 : Int) ^ m = M) (hl : l ≤ m) (hm : m ≤ 40) (x0 : 0 ≤ x) (x1 : x < 1099511627776) (hx : x % M < L) (v0 : 0 ≤ v) (v1 : v * L < M) : bits .or .i64 x (v * L) = x + v * L := by
  subst hL hM
  exact or_put x v m l hl hm x0 (by omega) hx v0 v1
theorem or_low (x v L M : Int) (m l : Nat) (hL : (2 : Int) ^ l = L) (hM : (2 : Int) ^ m = M) (hl : l ≤ m) (hm : m ≤ 40) (x0 : 0 ≤ x) (x1 : x < 1099511627776) (hx : x % M < L) (v0 : 0 ≤ v) (v1 : v < M) (hv : v % L = 0) : bits .or .i64 x v = x + v := by
  have hp : 0 < L := by rw [← hL]; exact_mod_cast Nat.two_pow_pos l
  have e : v = v / L * L := (Int.ediv_mul_cancel (Int.dvd_of_emod_eq_zero hv)).symm
  have h := or_at x (v / L) L M m l hL hM hl hm x0 x1 hx (Int.ediv_nonneg v0 (by omega)) (by omega)
  rw [← e] at h
  exact h
theorem regs_or (rt rs c o : Int) (a0 : 0 ≤ rt) (a1 : rt < 32) (b0 : 0 ≤ rs) (b1 : rs < 32) (c0 : 0 ≤ c) (c1 : c ≤ 7) (o0 : 0 ≤ o) (o1 : o ≤ 127) :
    bits .or .i64 (bits .or .i64 (bits .or .i64 (rt * 1048576) (rs * 32768)) (wrap64 (c * 4096))) o = rt * 1048576 + rs * 32768 + c * 4096 + o := by
  have w : wrap64 (c * 4096) = c * 4096 := by unfold wrap64; omega
  rw [w, or_low (rt * 1048576) (rs * 32768) 1 1048576 20 0 rfl rfl (by omega) (by omega) (by omega) (by omega) (by omega) (by omega) (by omega) (by omega),
    or_low (rt * 1048576 + rs * 32768) (c * 4096) 1 32768 15 0 rfl rfl (by omega) (by omega) (by omega) (by omega) (by omega) (by omega) (by omega) (by omega),
    or_low (rt * 1048576 + rs * 32768 + c * 4096) o 1 4096 12 0 rfl rfl (by omega) (by omega) (by omega) (by omega) (by omega) (by omega) (by omega) (by omega)]
theorem or_R (f7 R c rd o : Int) (hR : R = c * 4096 + o) (R0 : 0 ≤ R) (R1 : R < 33554432) (o0 : 0 ≤ o) (o1 : o ≤ 127) (f0 : 0 ≤ f7) (f1 : f7 ≤ 127) (d0 : 0 ≤ rd) (d1 : rd < 32) :
    bits .or .i64 (bits .or .i64 (wrap64 (f7 * 33554432)) R) (rd * 128) = f7 * 33554432 + R + rd * 128 := by
  have w : wrap64 (f7 * 33554432) = f7 * 33554432 := by unfold wrap64; omega
  rw [w, or_low (f7 * 33554432) R 1 33554432 25 0 rfl rfl (by omega) (by omega) (by omega) (by omega) (by omega) (by omega) (by omega) (by omega),
    or_at (f7 * 33554432 + R) rd 128 4096 12 7 rfl rfl (by omega) (by omega) (by omega) (by omega) (by omega) (by omega) (by omega)]
theorem regs0_or (x rt rs c o : Int) (hx : x = rt * 1048576) (a0 : 0 ≤ rt) (a1 : rt < 32) (b0 : 0 ≤ rs) (b1 : rs < 32) (c0 : 0 ≤ c) (c1 : c ≤ 7) (o0 : 0 ≤ o) (o1 : o ≤ 127) :
    bits .or .i64 (bits .or .i64 (bits .or .i64 x (rs * 32768)) (wrap64 (c * 4096))) o = rt * 1048576 + rs * 32768 + c * 4096 + o := by
  rw [hx]
  exact regs_or rt rs c o a0 a1 b0 b1 c0 c1 o0 o1
theorem or_I (P R rd : Int) (o : Int) (hR : R % 4096 = o) (R0 : 0 ≤ R) (R1 : R < 1048576) (o1 : o ≤ 127) (p0 : 0 ≤ P) (p1 : P < 4096) (d0 : 0 ≤ rd) (d1 : rd < 32) :
    bits .or .i64 (bits .or .i64 (P * 1048576) R) (rd * 128) = P * 1048576 + R + rd * 128 := by
  rw [or_low (P * 1048576) R 1 1048576 20 0 rfl rfl (by omega) (by omega) (by omega) (by omega) (by omega) (by omega) (by omega) (by omega),
    or_at (P * 1048576 + R) rd 128 4096 12 7 rfl rfl (by omega) (by omega) (by omega) (by omega) (by omega) (by omega) (by omega)]
theorem or_S (P R T : Int) (o : Int) (hR : R % 4096 = o) (R0 : 0 ≤ R) (R1 : R < 33554432) (o1 : o ≤ 127) (p0 : 0 ≤ P) (p1 : P < 128) (d0 : 0 ≤ T) (d1 : T < 32) :
    bits .or .i64 (bits .or .i64 (P * 33554432) R) (T * 128) = P * 33554432 + R + T * 128 := by
  rw [or_low (P * 33554432) R 1 33554432 25 0 rfl rfl (by omega) (by omega) (by omega) (by omega) (by omega) (by omega) (by omega) (by omega),
    or_at (P * 33554432 + R) T 128 4096 12 7 rfl rfl (by omega) (by omega) (by omega) (by omega) (by omega) (by omega) (by omega)]
theorem or_B (A C R D F : Int) (o : Int) (hR : R % 4096 = o) (R0 : 0 ≤ R) (R1 : R < 33554432) (o0 : 0 ≤ o) (o1 : o ≤ 127) (a0 : 0 ≤ A) (a1 : A < 2) (c0 : 0 ≤ C) (c1 : C < 64) (d0 : 0 ≤ D) (d1 : D < 16) (f0 : 0 ≤ F) (f1 : F < 2) :
    bits .or .i64 (bits .or .i64 (bits .or .i64 (bits .or .i64 (A * 2147483648) (C * 33554432)) R) (D * 256)) (F * 128) = A * 2147483648 + C * 33554432 + R + D * 256 + F * 128 := by
  rw [or_low (A * 2147483648) (C * 33554432) 1 2147483648 31 0 rfl rfl (by omega) (by omega) (by omega) (by omega) (by omega) (by omega) (by omega) (by omega),
    or_low (A * 2147483648 + C * 33554432) R 1 33554432 25 0 rfl rfl (by omega) (by omega) (by omega) (by omega) (by omega) (by omega) (by omega) (by omega),
    or_at (A * 2147483648 + C * 33554432 + R) D 256 4096 12 8 rfl rfl (by omega) (by omega) (by omega) (by omega) (by omega) (by omega) (by omega),
    or_at (A * 2147483648 + C * 33554432 + R + D * 256) F 128 256 8 7 rfl rfl (by omega) (by omega) (by omega) (by omega) (by omega) (by omega) (by omega)]
theorem or_U (P rd o : Int) (p0 : 0 ≤ P) (p1 : P < 1048576) (d0 : 0 ≤ rd) (d1 : rd < 32) (o0 : 0 ≤ o) (o1 : o ≤ 127) :
    bits .or .i64 (bits .or .i64 (P * 4096) (rd * 128)) o = P * 4096 + rd * 128 + o := by
  rw [or_low (P * 4096) (rd * 128) 1 4096 12 0 rfl rfl (by omega) (by omega) (by omega) (by omega) (by omega) (by omega) (by omega) (by omega),
    or_low (P * 4096 + rd * 128) o 1 128 7 0 rfl rfl (by omega) (by omega) (by omega) (by omega) (by omega) (by omega) (by omega) (by omega)]
theorem or_J (A B C D rd o : Int) (a0 : 0 ≤ A) (a1 : A < 2) (b0 : 0 ≤ B) (b1 : B < 1024) (c0 : 0 ≤ C) (c1 : C < 2) (e0 : 0 ≤ D) (e1 : D < 256) (d0 : 0 ≤ rd) (d1 : rd < 32) (o0 : 0 ≤ o) (o1 : o ≤ 127) :
    bits .or .i64 (bits .or .i64 (bits .or .i64 (bits .or .i64 (bits .or .i64 (A * 2147483648) (B * 2097152)) (C * 1048576)) (D * 4096)) (rd * 128)) o = A * 2147483648 + B * 2097152 + C * 1048576 + D * 4096 + rd * 128 + o := by
  rw [or_low (A * 2147483648) (B * 2097152) 1 2147483648 31 0 rfl rfl (by omega) (by omega) (by omega) (by omega) (by omega) (by omega) (by omega) (by omega),
    or_low (A * 2147483648 + B * 2097152) (C * 1048576) 1 2097152 21 0 rfl rfl (by omega) (by omega) (by omega) (by omega) (by omega) (by omega) (by omega) (by omega),
    or_low (A * 2147483648 + B * 2097152 + C * 1048576) (D * 4096) 1 1048576 20 0 rfl rfl (by omega) (by omega) (by omega) (by omega) (by omega) (by omega) (by omega) (by omega),
    or_low (A * 2147483648 + B * 2097152 + C * 1048576 + D * 4096) (rd * 128) 1 4096 12 0 rfl rfl (by omega) (by omega) (by omega) (by omega) (by omega) (by omega) (by omega) (by omega),
    or_low (A * 2147483648 + B * 2097152 + C * 1048576 + D * 4096 + rd * 128) o 1 128 7 0 rfl rfl (by omega) (by omega) (by omega) (by omega) (by omega) (by omega) (by omega) (by omega)]
end Go.Proofs.YthmfkdlncnjjoaaDoor
