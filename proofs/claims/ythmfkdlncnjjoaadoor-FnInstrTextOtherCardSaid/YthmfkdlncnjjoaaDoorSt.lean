/- The walk of the reference's l6Dec: a number in decimals. -/
import Derived.Test.YthmfkdlncnjjoaaDoorIs
import Derived.Lib.ItoaNum
import Derived.Lib.ItoaMem
import Derived.Laws.BytesArg
import Derived.Outline
import Derived.IntWalk
import Derived.Deep.RegionWith
import Derived.Test.YthmfkdlncnjjoaaDoorDr
namespace Go.Proofs.YthmfkdlncnjjoaaDoor
open Go.RowKit
set_option linter.unusedSimpArgs false
set_option linter.unusedVariables false
def strL (l : List UInt8) : ByteArray := ⟨l.toArray⟩
theorem strL_append (a b : List UInt8) : strL a ++ strL b = strL (a ++ b) := by
  apply ByteArray.ext
  simp [strL]
theorem one_byte (w : World) (x : Int) : (convert 29 9 (.slice (some ⟨w.heap.size, 0, none⟩) 1 1)).run Tryd.prog (w.alloc (.cells #[.int .u8 x] 5)) = .ok (.string (strL [UInt8.ofNat x.toNat])) (w.alloc (.cells #[.int .u8 x] 5)) :=
  run_convert_bytes_arg _ 29 5 Tryd.underlying29 Tryd.underlying5 w.heap.size 0 1 1 [x] rfl (fun i hi => by
    obtain rfl : i = 0 := by omega
    have e : (w.alloc (.cells #[.int .u8 x] 5)).heap[w.heap.size]? = some (.cells #[.int .u8 x] 5) := by
      show (w.heap.push _)[w.heap.size]? = _
      simp
    unfold World.cell?
    simp only [Nat.add_zero]
    rw [e]
    rfl) 9 Tryd.underlying9
theorem byte_at (w : World) (b : Nat) (x : Int) (h : w.heap[b]? = some (.cells #[.int .u8 x] 5)) : (convert 29 9 (.slice (some ⟨b, 0, none⟩) 1 1)).run Tryd.prog w = .ok (.string (strL [UInt8.ofNat x.toNat])) w :=
  run_convert_bytes_arg _ 29 5 Tryd.underlying29 Tryd.underlying5 b 0 1 1 [x] rfl (fun i hi => by
    obtain rfl : i = 0 := by omega
    unfold World.cell?
    simp only [Nat.add_zero]
    rw [h]
    rfl) 9 Tryd.underlying9
theorem dec_small (n : Nat) (h : n < 10) : strL [UInt8.ofNat (48 + (n : Int)).toNat] = strL (Lib.decDigits n) := by
  rw [Lib.decDigits_one h]
  have e : (48 + (n : Int)).toNat = 48 + n := by omega
  rw [e]
theorem dec_big (n : Nat) (h : ¬ n < 10) : strL (Lib.decDigits (n / 10)) ++ strL [UInt8.ofNat (48 + ((n : Int) % 10)).toNat] = strL (Lib.decDigits n) := by
  rw [strL_append, Lib.decDigits.eq_def n, dif_neg h]
  have e : (48 + ((n : Int) % 10)).toNat = 48 + n % 10 := by omega
  rw [e]
theorem strL_size (l : List UInt8) : (strL l).size = l.length := by simp [strL, ByteArray.size]
theorem nd_le (k : Nat) : ∀ u, u ≤ k → Lib.nDigits u ≤ u + 1 := by
  induction k with
  | zero => intro u h; obtain rfl : u = 0 := by omega
            rw [Lib.nDigits.eq_def]; simp
  | succ k ih =>
    intro u h
    rw [Lib.nDigits.eq_def]
    split
    · omega
    · have := ih (u / 10) (by omega); omega
theorem dec_size (u : Nat) : (strL (Lib.decDigits u)).size ≤ u + 1 := by rw [strL_size, Lib.decDigits_length]; exact nd_le u u (Nat.le_refl _)
theorem itoa_size (n : Int) : (strL (Lib.itoa n)).size ≤ n.natAbs + 2 := by
  unfold Lib.itoa
  split
  · have := dec_size n.natAbs
    rw [strL_size] at this ⊢
    simp; omega
  · have := dec_size n.toNat
    omega
set_option maxHeartbeats 1000000 in
theorem l6Dec_nat (k : Nat) : ∀ (n : Nat) (w : World), n ≤ k → n ≤ 4294967296 →
    Calls Tryd.prog 41 #[.int .i64 (n : Int)] w fun e w' => e = .returned (.string (strL (Lib.decDigits n))) ∧ Below w.heap.size w w' := by
  induction k with
  | zero =>
    intro n w hk hb
    obtain rfl : n = 0 := by omega
    have kc := one_byte w 48
    go_enter Tryd.func41, Tryd.ntmps41
    go_wp2_with fail
    go_ret
    exact ⟨by rw [← dec_small 0 (by omega)]; rfl, bl_alloc (Below.refl _ _) _⟩
  | succ k ih =>
    intro n w hk hb
    by_cases hn : n < 10
    · have kc := one_byte w (48 + (n : Int))
      rw [dec_small n hn] at kc
      go_enter Tryd.func41, Tryd.ntmps41
      go_wp2_with fail
      go_ret
      exact ⟨rfl, bl_alloc (Below.refl _ _) _⟩
    · have kc := fun W : World => one_byte W (48 + ((n : Int) % 10))
      have H := Lib.hid (dec_big n hn)
      have H3 := Lib.hid (show strL (Lib.decDigits (n / 10)) ++ strL [48 + UInt8.ofNat (n % 10)] = strL (Lib.decDigits n) by rw [← dec_big n hn, show (48 + ((n : Int) % 10)).toNat = 48 + n % 10 by omega, UInt8.ofNat_add]; rfl)
      have H2 := Lib.hid (show strL (Lib.decDigits (n / 10)) ++ strL [UInt8.ofNat (48 + n % 10)] = strL (Lib.decDigits n) by rw [← dec_big n hn, show (48 + ((n : Int) % 10)).toNat = 48 + n % 10 by omega])
      go_enter Tryd.func41, Tryd.ntmps41
      go_wp2_with (go_at_call 41; fail)
      have en : ((n / 10 : Nat) : Int) = (n : Int) / 10 := by omega
      have wq : IntKind.i64.wrap ((n : Int) / 10) = (n : Int) / 10 := IntWalk.i64_in _ (by omega)
      have cih : ∀ W : World, Calls Tryd.prog 41 #[.int .i64 (IntKind.i64.wrap ((n : Int) / 10))] W fun e w' => e = .returned (.string (strL (Lib.decDigits (n / 10)))) ∧ Below W.heap.size W w' := fun W => by rw [wq, ← en]; exact ih (n / 10) W (by omega) (by omega)
      clear en wq
      have z1 : (strL (Lib.decDigits (n / 10))).size ≤ 4294967297 := by have := dec_size (n / 10); omega
      have z2 : (strL [UInt8.ofNat (48 + ((n : Int) % 10)).toNat]).size ≤ 1 := by rw [strL_size]; simp
      have tm : (n : Int).tmod 10 = (n : Int) % 10 := Int.tmod_eq_emod_of_nonneg (by omega)
      have w2 : IntKind.i64.wrap (48 + (n : Int) % 10) = 48 + (n : Int) % 10 := IntWalk.i64_in _ (by omega)
      have w3 : IntKind.u8.wrap (48 + (n : Int) % 10) = 48 + (n : Int) % 10 := by simp [IntKind.wrap, IntKind.signed, IntKind.bits]; omega
      have kd1 := byte_at (w.alloc (.cells #[.int .u8 (48 + (n : Int) % 10)] 5)).drew w.heap.size _ (new_blk w _)
      have kd2 := byte_at (w.alloc (.cells #[.int .u8 (48 + (n : Int) % 10)] 5)).drew.drew w.heap.size _ (new_blk w _)
      have kd3 := byte_at (w.alloc (.cells #[.int .u8 (48 + (n : Int) % 10)] 5)).drew.drew.drew w.heap.size _ (new_blk w _)
      go_region_with (go_at_call 41; (with_reducible refine (cih _).mono ?_); rintro e w1 ⟨rfl, hb1⟩; first | (have kx := byte_at w1 _ _ (bl_keep hb1 (new_blk w _)); have Q1 : Hid (Below w.heap.size w w1) := Lib.hid (bl_tr hb1 (by repeat (with_reducible first | exact Below.refl _ _ | apply bl_alloc | apply bl_drewN | apply bl_drew))); clear hb1) | (have Q1 : Hid (Below w.heap.size w w1) := Lib.hid (bl_tr hb1 (by repeat (with_reducible first | exact Below.refl _ _ | apply bl_alloc | apply bl_drewN | apply bl_drew))); clear hb1))
      all_goals
        go_wp2
        go_ret
        exact ⟨by first | (rw [← H3.out]; rfl) | (rw [← H2.out]; rfl) | (rw [← H.out]; rfl), by repeat (with_reducible first | exact Q1.out | apply bl_alloc | apply bl_drewN | apply bl_drew)⟩
set_option maxHeartbeats 1000000 in
theorem l6Dec_any (n : Int) (w : World) (h0 : -4294967296 ≤ n) (h1 : n ≤ 4294967296) :
    Calls Tryd.prog 41 #[.int .i64 n] w fun e w' => e = .returned (.string (strL (Lib.itoa n))) ∧ Below w.heap.size w w' := by
  by_cases hn : n < 0
  · obtain ⟨m, hm⟩ := Int.eq_ofNat_of_zero_le (show 0 ≤ -n by omega)
    obtain rfl : n = -(m : Int) := by omega
    have c1 := fun W => l6Dec_nat m m W (Nat.le_refl _) (by omega)
    have H := Lib.hid (show (⟨#[45]⟩ : ByteArray) ++ strL (Lib.decDigits m) = strL (Lib.itoa (-(m : Int))) by rw [show (⟨#[45]⟩ : ByteArray) = strL [45] from rfl, strL_append, Lib.itoa_neg m (by omega)]; rfl)
    clear hm
    have z1 : (strL (Lib.decDigits m)).size ≤ 4294967297 := by have := dec_size m; omega
    go_enter Tryd.func41, Tryd.ntmps41
    go_wp2_with (go_at_call 41; (with_reducible refine (c1 _).mono ?_); rintro e w1 ⟨rfl, hb1⟩; have Q1 := Lib.hid hb1; clear hb1)
    go_outline
    go_ret
    exact ⟨by rw [← H.out]; rfl, Q1.out⟩
  · obtain ⟨m, rfl⟩ := Int.eq_ofNat_of_zero_le (show 0 ≤ n by omega)
    have := l6Dec_nat m m w (Nat.le_refl _) (by omega)
    rwa [← Lib.itoa_nonneg] at this
end Go.Proofs.YthmfkdlncnjjoaaDoor
