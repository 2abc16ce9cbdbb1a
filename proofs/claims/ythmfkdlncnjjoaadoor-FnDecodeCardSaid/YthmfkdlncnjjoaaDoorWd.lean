/- The draw of a word: l91Word, and Wrap, Unsigned. -/
import Derived.Test.YthmfkdlncnjjoaaDoorDi
import Derived.Test.YthmfkdlncnjjoaaDoorIs
import Derived.Outline
namespace Go.Proofs.YthmfkdlncnjjoaaDoor
open Go.RowKit IM
set_option linter.unusedSimpArgs false
set_option linter.unusedVariables false
def wrapS (n : Int) : Int := (n + 2147483648) % 4294967296 - 2147483648
theorem wrapS_bd (n : Int) : -2147483648 ≤ wrapS n ∧ wrapS n ≤ 2147483647 := by unfold wrapS; omega
theorem tmod_wrap (n : Int) : (2147483647 < n.tmod 4294967296 → wrapS n = n.tmod 4294967296 - 4294967296) ∧ (n.tmod 4294967296 < -2147483648 → wrapS n = n.tmod 4294967296 + 4294967296) ∧ (n.tmod 4294967296 ≤ 2147483647 → -2147483648 ≤ n.tmod 4294967296 → wrapS n = n.tmod 4294967296) ∧ -4294967296 < n.tmod 4294967296 ∧ n.tmod 4294967296 < 4294967296 := by
  unfold wrapS
  rcases (by omega : n < 0 ∨ 0 ≤ n) with h | h
  · have e : n.tmod 4294967296 = -((-n) % 4294967296) := by
      have := Int.neg_tmod (-n) 4294967296
      rw [Int.neg_neg] at this
      rw [this, Int.tmod_eq_emod_of_nonneg (by omega)]
    rw [e]; omega
  · rw [Int.tmod_eq_emod_of_nonneg h]; omega
set_option maxHeartbeats 400000 in
theorem wrap_any (n : Int) (w : World) :
    Calls Tryd.prog 49 #[.int .i64 n] w fun e w' => e = .returned (.int .i64 (wrapS n)) ∧ w = w' := by
  obtain ⟨h1, h2, h3, h4, h5⟩ := tmod_wrap n
  have H := Lib.hid (And.intro h1 (And.intro h2 h3))
  clear h1 h2 h3
  go_enter Tryd.func49, Tryd.ntmps49
  go_wp2
  all_goals
    go_ret
    refine ⟨ret_int ?_, rfl⟩
    first | (rw [H.out.1 (by omega)]; done) | (rw [H.out.2.1 (by omega)]; done) | (rw [H.out.2.2 (by omega) (by omega)]; done) | (rw [H.out.1 (by omega)]; unfold wrap64; omega) | (rw [H.out.2.1 (by omega)]; unfold wrap64; omega)
theorem specWord_any (n : Int) (w : World) :
    Calls Tryd.prog 68 #[.int .i64 n] w fun e w' => e = .returned (.bool (decide (-2147483648 ≤ n ∧ n ≤ 2147483647))) ∧ w = w' := by
  go_enter Tryd.func68, Tryd.ntmps68
  go_wp2_with (first | (go_at_call 35; (with_reducible refine (l6In_any _ _ _ _).mono ?_); rintro e w' ⟨rfl, rfl⟩))
  go_ret
  refine ⟨ret_bool (Bool.eq_iff_iff.2 ?_), rfl⟩
  simp only [Bool.and_eq_true, decide_eq_true_eq]
theorem unsignedS_any (n : Int) (w : World) :
    Calls Tryd.prog 47 #[.int .i64 n] w fun e w' => (∃ v : Int, e = .returned (.int .i64 v)) ∧ w = w' := by
  have c1 := fun W => specWord_any n W
  by_cases h : -2147483648 ≤ n ∧ n ≤ 2147483647
  · rw [decide_eq_true h] at c1
    go_enter Tryd.func47, Tryd.ntmps47
    go_wp2_with (first | (go_at_call 68; (with_reducible refine (c1 _).mono ?_); rintro e w' ⟨rfl, rfl⟩))
    all_goals
      go_ret
      exact ⟨⟨_, rfl⟩, rfl⟩
  · rw [decide_eq_false h] at c1
    clear h
    go_enter Tryd.func47, Tryd.ntmps47
    go_wp2_with (first | (go_at_call 68; (with_reducible refine (c1 _).mono ?_); rintro e w' ⟨rfl, rfl⟩))
    all_goals
      go_ret
      exact ⟨⟨_, rfl⟩, rfl⟩
theorem new_cell2 (w : World) (cs : Array Value) (T i : Nat) (v : Value) (h : cs[i]? = some v) : (w.alloc (.cells cs T)).cell? ⟨w.heap.size, i, none⟩ = some v := by
  unfold World.cell?
  rw [new_blk w _]
  exact h
def words8 : Array Value := #[.int .i64 (-2147483648), .int .i64 2147483647, .int .i64 (-1), .int .i64 0, .int .i64 1, .int .i64 (-2147483647), .int .i64 65536, .int .i64 (-65536)]
theorem words8_at (v : Int) (h0 : 0 ≤ v) (h1 : v < 8) : ∃ x : Int, words8[v.toNat]? = some (.int .i64 x) ∧ -2147483648 ≤ x ∧ x ≤ 2147483647 := by
  rcases (by omega : v = 0 ∨ v = 1 ∨ v = 2 ∨ v = 3 ∨ v = 4 ∨ v = 5 ∨ v = 6 ∨ v = 7) with rfl | rfl | rfl | rfl | rfl | rfl | rfl | rfl
  all_goals exact ⟨_, rfl, by decide, by decide⟩
theorem Only.cellAt {g : Nat} {a c : World} (h : Only g a c) {b i : Nat} {v : Value} (hc : a.cell? ⟨b, i, none⟩ = some v) (hne : b ≠ g) : c.cell? ⟨b, i, none⟩ = some v :=
  (h.cell.1 b i (World.block_lt_of_cell? a _ hc) hne).trans hc
set_option maxRecDepth 100000 in
set_option maxHeartbeats 2000000 in
theorem l91Word_any (B g N : Nat) (w : World) (h : Rd B w g N) (hN : N ≤ 1000000) :
    Calls Tryd.prog 48 #[.pointer (some ⟨g, 0, none⟩)] w (PkL B g (N + 5) (-2147483648) 2147483647 w) := by
  go_enter Tryd.func48, Tryd.ntmps48
  go_wp2_with fail
  refine (pick_any B g N _ _ h (by omega)).mono ?_
  rintro e w1 ⟨v, rfl, h0, h1, h2, hr, ho⟩
  have h3 := h1 (by omega)
  clear h1 h2
  have hne : w1.heap.size ≠ g := by have := hr.lt; omega
  rcases (by omega : v = 0 ∨ v = 1 ∨ v = 2 ∨ 3 ≤ v) with rfl | rfl | rfl | hv
  · go_wp2_with fail
    refine (pick_any B g (N + 1) _ _ (hr.below (bl_alloc (Below.refl _ _) _)) (by omega)).mono ?_
    rintro e w2 ⟨v2, rfl, k0, k1, k2, hr2, ho2⟩
    have k3 := k1 (by omega)
    obtain ⟨x, hx, x0, x1⟩ := words8_at v2 k0 k3
    have hc := new_cell2 w1 words8 3 _ _ hx
    unfold words8 at hc
    have hc2 := ho2.cellAt hc hne
    clear k1 k2 hx hc
    go_wp2
    go_ret
    exact ⟨_, rfl, by omega, by omega, hr2.mono (by omega), (ho.alloc _).trans ho2⟩
  · go_wp2_with fail
    refine (pick_any B g (N + 1) _ _ hr (by omega)).mono ?_
    rintro e w2 ⟨y1, rfl, k01, k11, k21, hr2, ho2⟩
    have k31 := k11 (by omega)
    clear k11 k21
    go_wp2_with fail
    refine (pick_any B g (N + 2) _ _ hr2 (by omega)).mono ?_
    rintro e w3 ⟨y2, rfl, k02, k12, k22, hr3, ho3⟩
    have k32 := k12 (by omega)
    clear k12 k22
    go_wp2_with fail
    refine (pick_any B g (N + 3) _ _ hr3 (by omega)).mono ?_
    rintro e w4 ⟨y3, rfl, k03, k13, k23, hr4, ho4⟩
    have k33 := k13 (by omega)
    clear k13 k23
    go_wp2_with fail
    refine (pick_any B g (N + 4) _ _ hr4 (by omega)).mono ?_
    rintro e w5 ⟨y4, rfl, k04, k14, k24, hr5, ho5⟩
    have k34 := k14 (by omega)
    clear k14 k24
    go_wp2_with (go_at_call 49; (with_reducible refine (wrap_any _ _).mono ?_); rintro e w' ⟨rfl, rfl⟩)
    go_ret
    have bd := wrapS_bd
    exact ⟨_, rfl, (bd _).1, (bd _).2, hr5, ho.trans (ho2.trans (ho3.trans (ho4.trans ho5)))⟩
  · go_wp2_with fail
    refine (pick_any B g (N + 1) _ _ hr (by omega)).mono ?_
    rintro e w2 ⟨v2, rfl, k0, k1, k2, hr2, ho2⟩
    have k3 := k1 (by omega)
    clear k1 k2
    go_wp2
    go_ret
    exact ⟨_, rfl, by omega, by omega, hr2.mono (by omega), ho.trans ho2⟩
  · go_wp2_with fail
    refine (pick_any B g (N + 1) _ _ hr (by omega)).mono ?_
    rintro e w2 ⟨v2, rfl, k0, k1, k2, hr2, ho2⟩
    have k3 := k1 (by omega)
    clear k1 k2
    go_wp2
    go_ret
    exact ⟨_, rfl, by omega, by omega, hr2.mono (by omega), ho.trans ho2⟩
end Go.Proofs.YthmfkdlncnjjoaaDoor
