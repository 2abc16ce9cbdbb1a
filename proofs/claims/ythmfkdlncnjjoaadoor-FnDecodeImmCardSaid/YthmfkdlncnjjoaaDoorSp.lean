/- The walk of the reference's InstrDecode: what both decoders answer. -/
import Derived.Test.YthmfkdlncnjjoaaDoorSo
namespace Go.Proofs.YthmfkdlncnjjoaaDoor
open Go.RowKit IM
set_option linter.unusedSimpArgs false
set_option linter.unusedVariables false
theorem l6In_no (n lo hi : Int) (w : World) (h : ¬ (lo ≤ n ∧ n ≤ hi)) :
    Calls Tryd.prog 35 #[.int .i64 n, .int .i64 lo, .int .i64 hi] w fun e w' => e = .returned (.bool false) ∧ w = w' :=
  (l6In_any n lo hi w).mono fun e w' h' => ⟨by rw [h'.1, decide_eq_false h], h'.2⟩
theorem dec_zero {u : Int} {w w' : World} (h : ∀ op, ¬ Hit u op) (hb : Below w.heap.size w w') : DecP u w (.returned (.tuple #[.agg #[.int .i64 0, .int .i64 0, .int .i64 0, .int .i64 0, .int .i64 0], .bool false])) w' := ⟨.inr ⟨h, rfl⟩, hb⟩
set_option maxRecDepth 100000 in
set_option maxHeartbeats 2000000 in
theorem specDecode_any (u : Int) (w : World) :
    Calls Tryd.prog 19 #[.int .i64 u] w (DecP u w) := by
  by_cases h : 0 ≤ u ∧ u ≤ 4294967295
  · obtain ⟨h0, h1⟩ := h
    have c0 := fun W => l6In_yes u 0 4294967295 W h0 h1
    have c1 := fun W => l42Op_any u W h0 (by omega)
    have bd := opR_bd u
    by_cases hz : opR u = 0
    · have HN := Lib.hid (fun op (hh : Hit u op) => show False by have := opR_hit hh; have := hh.1; omega)
      rw [hz] at c1
      clear hz bd
      go_enter Tryd.func19, Tryd.ntmps19
      go_wp2_with (first | (go_at_call 35; (with_reducible refine (c0 _).mono ?_); rintro e w' ⟨rfl, rfl⟩) | (go_at_call 36; fail))
      refine (c1 _).mono ?_
      rintro e w1 ⟨rfl, hb1⟩
      have k1 := Lib.hid (bl_keep hb1 (new_blk w _))
      have cu := unfrozen k1.out
      obtain ⟨z0, z1, z2, z3, z4⟩ := five k1.out
      have Q1 := Lib.hid (bl_tr hb1 (by repeat (with_reducible first | exact Below.refl _ _ | apply bl_alloc) : Below w.heap.size w _))
      clear hb1
      go_wp2
      refine bodyPost_ret (v := .tuple #[.agg #[.int .i64 0, .int .i64 0, .int .i64 0, .int .i64 0, .int .i64 0], .bool false]) (by simp [results, Tryd.results19, go_sem, *]) rfl (dec_zero HN.out ?_)
      repeat (first | (with_reducible exact Q1.out) | (with_reducible apply bl_alloc) | (with_reducible apply bl_drewN) | (with_reducible apply bl_drew) | (with_reducible refine Below.setCell ?_ (by first | exact Nat.le_refl _ | omega) _))
    · have HZ := Lib.hid hz
      have hv := dec_valid (opR u) u (by omega) bd.2 h0 (by omega)
      have hz1 : (opR u == 0) = false := by simp; exact hz
      have HB := Lib.hid bd
      by_cases hE : E (opR u) (dRd (opR u) u) (dRs (opR u) u) (dRt (opR u) u) (dIm (opR u) u) = u
      · have HH := Lib.hid (show Hit u (opR u) from ⟨by omega, bd.2, h0, by omega, hE⟩)
        have hu : (u != u) = false := by simp
        have c3 : ∀ W, Calls Tryd.prog 28 _ W _ := fun W => l42Encode_any _ _ _ _ _ W hv
        rw [hE] at c3
        have c2 := fun W => fields_any (opR u) u W (by omega) bd.2 h0 (by omega)
        clear hE hv hz bd
        go_enter Tryd.func19, Tryd.ntmps19
        go_wp2_with (first | (go_at_call 35; (with_reducible refine (c0 _).mono ?_); rintro e w' ⟨rfl, rfl⟩) | (go_at_call 36; fail))
        refine (c1 _).mono ?_
        rintro e w1 ⟨rfl, hb1⟩
        have k1 := Lib.hid (bl_keep hb1 (new_blk w _))
        have Q1 := Lib.hid (bl_tr hb1 (by repeat (with_reducible first | exact Below.refl _ _ | apply bl_alloc) : Below w.heap.size w _))
        clear hb1
        go_wp2_with (first | (go_at_call 36; fail))
        refine (c1 _).mono ?_
        rintro e w2 ⟨rfl, hb2⟩
        have k2 := Lib.hid (bl_keep hb2 k1.out)
        have Q2 := Lib.hid (bl_tr hb2 Q1.out)
        clear hb2
        go_wp2_with (first | (go_at_call 37; fail))
        refine (c2 _).mono ?_
        rintro e w3 ⟨rfl, hb3⟩
        have Q3 := Lib.hid (bl_tr hb3 Q2.out)
        go_wp2_with (first | (go_at_call 28; (with_reducible refine (c3 _).mono ?_)))
        rintro e w4 ⟨rfl, hb4⟩
        have k4 := Lib.hid (bl_keep hb4 (new_blk w3 _))
        have k4c := Lib.hid (bl_keep hb4 (blk_alloc (bl_keep hb3 k2.out) _))
        have cu := unfrozen k4c.out
        have nz : w.heap.size < w3.heap.size := lt_blk (bl_keep hb3 k2.out)
        obtain ⟨e0, e1, e2, e3, e4⟩ := five k4.out
        obtain ⟨z0, z1, z2, z3, z4⟩ := five k4c.out
        have Q4 := Lib.hid (bl_tr hb4 (by repeat (with_reducible first | exact Q3.out | apply bl_alloc)))
        clear hb4 hb3
        go_wp2
        refine bodyPost_ret (v := .tuple #[.agg #[.int .i64 (opR u), .int .i64 (dRd (opR u) u), .int .i64 (dRs (opR u) u), .int .i64 (dRt (opR u) u), .int .i64 (dIm (opR u) u)], .bool true]) (by simp [results, Tryd.results19, go_sem, *]) rfl ⟨.inl ⟨_, HH.out, rfl⟩, ?_⟩
        repeat (first | (with_reducible exact Q4.out) | (with_reducible apply bl_alloc) | (with_reducible apply bl_drewN) | (with_reducible apply bl_drew) | (with_reducible refine Below.setCell ?_ (by first | exact Nat.le_refl _ | omega) _))
      · have HN := Lib.hid (fun op (hh : Hit u op) => show False by have e := opR_hit hh; rw [e] at hE; exact hE hh.2.2.2.2)
        have hu : (E (opR u) (dRd (opR u) u) (dRs (opR u) u) (dRt (opR u) u) (dIm (opR u) u) != u) = true := by simp; exact hE
        have c3 := fun W => l42Encode_any _ _ _ _ _ W hv
        have c2 := fun W => fields_any (opR u) u W (by omega) bd.2 h0 (by omega)
        clear hE hv hz bd
        go_enter Tryd.func19, Tryd.ntmps19
        go_wp2_with (first | (go_at_call 35; (with_reducible refine (c0 _).mono ?_); rintro e w' ⟨rfl, rfl⟩) | (go_at_call 36; fail))
        refine (c1 _).mono ?_
        rintro e w1 ⟨rfl, hb1⟩
        have k1 := Lib.hid (bl_keep hb1 (new_blk w _))
        have Q1 := Lib.hid (bl_tr hb1 (by repeat (with_reducible first | exact Below.refl _ _ | apply bl_alloc) : Below w.heap.size w _))
        clear hb1
        go_wp2_with (first | (go_at_call 36; fail))
        refine (c1 _).mono ?_
        rintro e w2 ⟨rfl, hb2⟩
        have k2 := Lib.hid (bl_keep hb2 k1.out)
        have Q2 := Lib.hid (bl_tr hb2 Q1.out)
        clear hb2
        go_wp2_with (first | (go_at_call 37; fail))
        refine (c2 _).mono ?_
        rintro e w3 ⟨rfl, hb3⟩
        have Q3 := Lib.hid (bl_tr hb3 Q2.out)
        go_wp2_with (first | (go_at_call 28; (with_reducible refine (c3 _).mono ?_)))
        rintro e w4 ⟨rfl, hb4⟩
        have k4c := Lib.hid (bl_keep hb4 (blk_alloc (bl_keep hb3 k2.out) _))
        have cu := unfrozen k4c.out
        obtain ⟨z0, z1, z2, z3, z4⟩ := five k4c.out
        have Q4 := Lib.hid (bl_tr hb4 (by repeat (with_reducible first | exact Q3.out | apply bl_alloc)))
        clear hb4 hb3
        generalize E (opR u) (dRd (opR u) u) (dRs (opR u) u) (dRt (opR u) u) (dIm (opR u) u) = z at *
        go_wp2
        refine bodyPost_ret (v := .tuple #[.agg #[.int .i64 0, .int .i64 0, .int .i64 0, .int .i64 0, .int .i64 0], .bool false]) (by simp [results, Tryd.results19, go_sem, *]) rfl (dec_zero HN.out ?_)
        repeat (first | (with_reducible exact Q4.out) | (with_reducible apply bl_alloc) | (with_reducible apply bl_drewN) | (with_reducible apply bl_drew) | (with_reducible refine Below.setCell ?_ (by first | exact Nat.le_refl _ | omega) _))
  · have c0 := fun W => l6In_no u 0 4294967295 W h
    have HN := Lib.hid (fun op (hh : Hit u op) => show False by have := hh.2.2.1; have := hh.2.2.2.1; omega)
    clear h
    go_enter Tryd.func19, Tryd.ntmps19
    go_wp2_with (first | (go_at_call 35; (with_reducible refine (c0 _).mono ?_); rintro e w' ⟨rfl, rfl⟩))
    refine bodyPost_ret (v := .tuple #[.agg #[.int .i64 0, .int .i64 0, .int .i64 0, .int .i64 0, .int .i64 0], .bool false]) (by simp [results, Tryd.results19, go_sem, *]) rfl (dec_zero HN.out ?_)
    repeat (first | (with_reducible exact Below.refl _ _) | (with_reducible apply bl_alloc) | (with_reducible apply bl_drewN) | (with_reducible apply bl_drew) | (with_reducible refine Below.setCell ?_ (by first | exact Nat.le_refl _ | omega) _))
end Go.Proofs.YthmfkdlncnjjoaaDoor
