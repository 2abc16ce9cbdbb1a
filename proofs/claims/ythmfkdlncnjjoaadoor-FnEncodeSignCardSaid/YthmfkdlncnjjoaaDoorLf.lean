/- The walks of FnEncodeLow, FnEncodeFields, FnEncodeSign: each returns true. -/
import Derived.Test.YthmfkdlncnjjoaaDoorLe
import Derived.Test.YthmfkdlncnjjoaaDoorDx
import Derived.Test.YthmfkdlncnjjoaaDoorEx
import Derived.Outline
namespace Go.Proofs.YthmfkdlncnjjoaaDoor
open Go.RowKit IM
set_option linter.unusedSimpArgs false
set_option linter.unusedVariables false
set_option maxRecDepth 100000 in
set_option maxHeartbeats 2000000 in
theorem encodeLow_walk (A : Option Addr) (n c : Nat) (bs : List Int) (w : World) (h : Bytes w A n bs) (hc : n ≤ c) (hn : n ≤ 9223372036854775807) (hT : Tab w) :
    Calls Tryd.prog 5 #[.slice A n c] w (Ret1 w) := by
  have HT := Lib.hid hT
  clear hT
  by_cases hl : 1048576 < n
  · go_enter Tryd.func5, Tryd.ntmps5
    go_wp2
    go_ret
    exact ⟨rfl, by repeat (first | (with_reducible exact Below.refl _ _) | (with_reducible apply bl_alloc) | (with_reducible apply bl_drewN) | (with_reducible apply bl_drew))⟩
  · go_enter Tryd.func5, Tryd.ntmps5
    go_wp2_with fail
    refine (drawEncode_any A n c bs _ (by repeat (with_reducible first | exact h | apply Bytes.alloc)) hc hn).mono ?_
    rintro e w1 ⟨op, rd, rs, rt, imm, rfl, hb1⟩
    have Q1 := Lib.hid (bl_tr hb1 (by repeat (with_reducible first | exact Below.refl _ _ | apply bl_alloc) : Below w.heap.size w _))
    clear hb1
    go_wp2_with fail
    refine (instrEncode_v _ _ _ _ _ _ (HT.out.below (by repeat (with_reducible first | exact Q1.out | apply bl_alloc)))).mono ?_
    rintro e w2 ⟨rfl, hb2⟩
    have kc := Lib.hid (bl_keep hb2 (new_blk w1 _))
    obtain ⟨d0, d1, d2, d3, d4⟩ := five kc.out
    have dl := lt_blk kc.out
    have Q2 := Lib.hid (bl_tr hb2 (by repeat (with_reducible first | exact Q1.out | apply bl_alloc)))
    clear hb2
    go_wp2_with fail
    refine (specEncode_v _ _ _ _ _ _).mono ?_
    rintro e w3 ⟨rfl, hb3⟩
    clear d0 d1 d2 d3 d4
    have kn := Lib.hid (bl_keep hb3 kc.out)
    obtain ⟨e0, e1, e2, e3, e4⟩ := five kn.out
    have Q3 := Lib.hid (bl_tr hb3 (by repeat (with_reducible first | exact Q2.out | apply bl_alloc)))
    clear hb3
    have h2 : (iv op rd rs rt imm != iv op rd rs rt imm) = false := by simp
    have h3 : (iv op rd rs rt imm == iv op rd rs rt imm) = true := by simp
    have h4 : (encV op rd rs rt imm != encV op rd rs rt imm) = false := by simp
    have h5 : (encV op rd rs rt imm == encV op rd rs rt imm) = true := by simp
    cases hv : iv op rd rs rt imm with
    | false =>
      rw [hv] at h2 h3
      generalize encV op rd rs rt imm = r at *
      go_wp2
      go_ret
      exact ⟨rfl, Q3.out⟩
    | true =>
      rw [hv] at h2 h3
      have hV := iv_iff.1 hv
      rw [encV_yes hv] at *
      have er := E_range hV
      have lo := E_low hV
      have c1 : ∀ W : World, Calls Tryd.prog 18 #[.int .i64 (E op rd rs rt imm), .int .i64 0, .int .i64 2] W fun e w' => e = .returned (.int .i64 3) ∧ ∃ n, w' = W.drewN n := fun W => by
        have := bits_any (E op rd rs rt imm) 0 2 W er.1 er.2 (by omega) (by omega) (by omega) (by omega)
        rwa [show bitsOf (E op rd rs rt imm) 0 2 = 3 by unfold bitsOf; simp; omega] at this
      have c2 : ∀ W : World, Calls Tryd.prog 18 #[.int .i64 (E op rd rs rt imm), .int .i64 2, .int .i64 3] W fun e w' => e = .returned (.int .i64 (E op rd rs rt imm / 4 % 8)) ∧ ∃ n, w' = W.drewN n := fun W => by
        have := bits_any (E op rd rs rt imm) 2 3 W er.1 er.2 (by omega) (by omega) (by omega) (by omega)
        rwa [show bitsOf (E op rd rs rt imm) 2 3 = E op rd rs rt imm / 4 % 8 by unfold bitsOf; simp] at this
      have hz : (E op rd rs rt imm / 4 % 8 != 7) = true := by simp; exact lo.2
      clear lo hV er
      generalize E op rd rs rt imm / 4 % 8 = z at *
      generalize E op rd rs rt imm = r at *
      go_wp2_with (first | (go_at_call 18; (with_reducible refine (c1 _).mono ?_); rintro e w4 ⟨rfl, k1, rfl⟩) | (go_at_call 18; (with_reducible refine (c2 _).mono ?_); rintro e w4 ⟨rfl, k2, rfl⟩))
      go_ret
      exact ⟨rfl, by repeat (with_reducible first | exact Q3.out | apply bl_drewN | apply bl_drew)⟩
set_option maxRecDepth 100000 in
set_option maxHeartbeats 2000000 in
theorem encodeFields_walk (A : Option Addr) (n c : Nat) (bs : List Int) (w : World) (h : Bytes w A n bs) (hc : n ≤ c) (hn : n ≤ 9223372036854775807) (hT : Tab w) :
    Calls Tryd.prog 4 #[.slice A n c] w (Ret1 w) := by
  have HT := Lib.hid hT
  clear hT
  by_cases hl : 1048576 < n
  · go_enter Tryd.func4, Tryd.ntmps4
    go_wp2
    go_ret
    exact ⟨rfl, by repeat (first | (with_reducible exact Below.refl _ _) | (with_reducible apply bl_alloc) | (with_reducible apply bl_drewN) | (with_reducible apply bl_drew))⟩
  · go_enter Tryd.func4, Tryd.ntmps4
    go_wp2_with fail
    refine (drawEncode_any A n c bs _ (by repeat (with_reducible first | exact h | apply Bytes.alloc)) hc hn).mono ?_
    rintro e w1 ⟨op, rd, rs, rt, imm, rfl, hb1⟩
    have Q1 := Lib.hid (bl_tr hb1 (by repeat (with_reducible first | exact Below.refl _ _ | apply bl_alloc) : Below w.heap.size w _))
    clear hb1
    go_wp2_with fail
    refine (instrEncode_v _ _ _ _ _ _ (HT.out.below (by repeat (with_reducible first | exact Q1.out | apply bl_alloc)))).mono ?_
    rintro e w2 ⟨rfl, hb2⟩
    have kc := Lib.hid (bl_keep hb2 (new_blk w1 _))
    obtain ⟨d0, d1, d2, d3, d4⟩ := five kc.out
    have dl := lt_blk kc.out
    have Q2 := Lib.hid (bl_tr hb2 (by repeat (with_reducible first | exact Q1.out | apply bl_alloc)))
    clear hb2
    go_wp2_with fail
    refine (specEncode_v _ _ _ _ _ _).mono ?_
    rintro e w3 ⟨rfl, hb3⟩
    clear d0 d1 d2 d3 d4
    have kn := Lib.hid (bl_keep hb3 kc.out)
    obtain ⟨e0, e1, e2, e3, e4⟩ := five kn.out
    have Q3 := Lib.hid (bl_tr hb3 (by repeat (with_reducible first | exact Q2.out | apply bl_alloc)))
    clear hb3
    have h2 : (iv op rd rs rt imm != iv op rd rs rt imm) = false := by simp
    have h3 : (iv op rd rs rt imm == iv op rd rs rt imm) = true := by simp
    have h4 : (encV op rd rs rt imm != encV op rd rs rt imm) = false := by simp
    have h5 : (encV op rd rs rt imm == encV op rd rs rt imm) = true := by simp
    cases hv : iv op rd rs rt imm with
    | false =>
      rw [hv] at h2 h3
      generalize encV op rd rs rt imm = r at *
      go_wp2
      go_ret
      exact ⟨rfl, Q3.out⟩
    | true =>
      rw [hv] at h2 h3
      have hV := iv_iff.1 hv
      rw [encV_yes hv] at *
      have er := E_range hV
      have lo := E_fields hV
      have sp := hV.split
      have r1 : (rd == rd) = true := by simp
      have r2 : (rs == rs) = true := by simp
      rcases (by omega : op ≤ 15 ∨ (16 ≤ op ∧ op ≤ 16) ∨ (17 ≤ op ∧ op ≤ 17) ∨ (18 ≤ op ∧ op ≤ 18) ∨ (19 ≤ op ∧ op ≤ 19) ∨ (20 ≤ op ∧ op ≤ 20) ∨ 21 ≤ op) with ho | ⟨ho, ho'⟩ | ⟨ho, ho'⟩ | ⟨ho, ho'⟩ | ⟨ho, ho'⟩ | ⟨ho, ho'⟩ | ho
      · clear hV
        have k16 : (op == 16) = false := by simp; omega
        have k17 : (op == 17) = false := by simp; omega
        have k18 : (op == 18) = false := by simp; omega
        have k19 : (op == 19) = false := by simp; omega
        have k20 : (op == 20) = false := by simp; omega
        have c1 : ∀ W : World, Calls Tryd.prog 18 #[.int .i64 (E op rd rs rt imm), .int .i64 7, .int .i64 5] W fun e w' => e = .returned (.int .i64 rd) ∧ ∃ n, w' = W.drewN n := fun W => by
          have := bits_any (E op rd rs rt imm) 7 5 W er.1 er.2 (by omega) (by omega) (by omega) (by omega)
          rwa [show bitsOf (E op rd rs rt imm) 7 5 = rd by unfold bitsOf; simp; exact lo.1 (by omega) (by omega) (by omega)] at this
        have c2 : ∀ W : World, Calls Tryd.prog 18 #[.int .i64 (E op rd rs rt imm), .int .i64 15, .int .i64 5] W fun e w' => e = .returned (.int .i64 rs) ∧ ∃ n, w' = W.drewN n := fun W => by
          have := bits_any (E op rd rs rt imm) 15 5 W er.1 er.2 (by omega) (by omega) (by omega) (by omega)
          rwa [show bitsOf (E op rd rs rt imm) 15 5 = rs by unfold bitsOf; simp; exact lo.2 (by omega) (by omega)] at this
        clear lo er sp ho 
        generalize E op rd rs rt imm = r at *
        go_wp2
        go_quiet ((first | (go_at_call 18; (with_reducible first | exact Calls.quiet_of (c1 _) | exact qa_of (c1 _))) | (go_at_call 18; (with_reducible first | exact Calls.quiet_of (c2 _) | exact qa_of (c2 _)))))
        go_wp2
        go_ret
        exact ⟨rfl, by repeat (with_reducible first | exact Q3.out | apply bl_drewN | apply bl_drew)⟩
      · clear hV
        have k16 : (op == 16) = true := by simp; omega
        have k17 : (op == 17) = false := by simp; omega
        have k18 : (op == 18) = false := by simp; omega
        have k19 : (op == 19) = false := by simp; omega
        have k20 : (op == 20) = false := by simp; omega
        have c2 : ∀ W : World, Calls Tryd.prog 18 #[.int .i64 (E op rd rs rt imm), .int .i64 15, .int .i64 5] W fun e w' => e = .returned (.int .i64 rs) ∧ ∃ n, w' = W.drewN n := fun W => by
          have := bits_any (E op rd rs rt imm) 15 5 W er.1 er.2 (by omega) (by omega) (by omega) (by omega)
          rwa [show bitsOf (E op rd rs rt imm) 15 5 = rs by unfold bitsOf; simp; exact lo.2 (by omega) (by omega)] at this
        clear lo er sp ho ho'
        generalize E op rd rs rt imm = r at *
        go_wp2
        go_quiet ((first | (go_at_call 18; (with_reducible first | exact Calls.quiet_of (c2 _) | exact qa_of (c2 _)))))
        go_wp2
        go_ret
        exact ⟨rfl, by repeat (with_reducible first | exact Q3.out | apply bl_drewN | apply bl_drew)⟩
      · clear hV
        have k16 : (op == 16) = false := by simp; omega
        have k17 : (op == 17) = true := by simp; omega
        have k18 : (op == 18) = false := by simp; omega
        have k19 : (op == 19) = false := by simp; omega
        have k20 : (op == 20) = false := by simp; omega
        have c2 : ∀ W : World, Calls Tryd.prog 18 #[.int .i64 (E op rd rs rt imm), .int .i64 15, .int .i64 5] W fun e w' => e = .returned (.int .i64 rs) ∧ ∃ n, w' = W.drewN n := fun W => by
          have := bits_any (E op rd rs rt imm) 15 5 W er.1 er.2 (by omega) (by omega) (by omega) (by omega)
          rwa [show bitsOf (E op rd rs rt imm) 15 5 = rs by unfold bitsOf; simp; exact lo.2 (by omega) (by omega)] at this
        clear lo er sp ho ho'
        generalize E op rd rs rt imm = r at *
        go_wp2
        go_quiet ((first | (go_at_call 18; (with_reducible first | exact Calls.quiet_of (c2 _) | exact qa_of (c2 _)))))
        go_wp2
        go_ret
        exact ⟨rfl, by repeat (with_reducible first | exact Q3.out | apply bl_drewN | apply bl_drew)⟩
      · clear hV
        have k16 : (op == 16) = false := by simp; omega
        have k17 : (op == 17) = false := by simp; omega
        have k18 : (op == 18) = true := by simp; omega
        have k19 : (op == 19) = false := by simp; omega
        have k20 : (op == 20) = false := by simp; omega
        have c2 : ∀ W : World, Calls Tryd.prog 18 #[.int .i64 (E op rd rs rt imm), .int .i64 15, .int .i64 5] W fun e w' => e = .returned (.int .i64 rs) ∧ ∃ n, w' = W.drewN n := fun W => by
          have := bits_any (E op rd rs rt imm) 15 5 W er.1 er.2 (by omega) (by omega) (by omega) (by omega)
          rwa [show bitsOf (E op rd rs rt imm) 15 5 = rs by unfold bitsOf; simp; exact lo.2 (by omega) (by omega)] at this
        clear lo er sp ho ho'
        generalize E op rd rs rt imm = r at *
        go_wp2
        go_quiet ((first | (go_at_call 18; (with_reducible first | exact Calls.quiet_of (c2 _) | exact qa_of (c2 _)))))
        go_wp2
        go_ret
        exact ⟨rfl, by repeat (with_reducible first | exact Q3.out | apply bl_drewN | apply bl_drew)⟩
      · clear hV
        have k16 : (op == 16) = false := by simp; omega
        have k17 : (op == 17) = false := by simp; omega
        have k18 : (op == 18) = false := by simp; omega
        have k19 : (op == 19) = true := by simp; omega
        have k20 : (op == 20) = false := by simp; omega
        have c1 : ∀ W : World, Calls Tryd.prog 18 #[.int .i64 (E op rd rs rt imm), .int .i64 7, .int .i64 5] W fun e w' => e = .returned (.int .i64 rd) ∧ ∃ n, w' = W.drewN n := fun W => by
          have := bits_any (E op rd rs rt imm) 7 5 W er.1 er.2 (by omega) (by omega) (by omega) (by omega)
          rwa [show bitsOf (E op rd rs rt imm) 7 5 = rd by unfold bitsOf; simp; exact lo.1 (by omega) (by omega) (by omega)] at this
        clear lo er sp ho ho'
        generalize E op rd rs rt imm = r at *
        go_wp2
        go_quiet ((first | (go_at_call 18; (with_reducible first | exact Calls.quiet_of (c1 _) | exact qa_of (c1 _)))))
        go_wp2
        go_ret
        exact ⟨rfl, by repeat (with_reducible first | exact Q3.out | apply bl_drewN | apply bl_drew)⟩
      · clear hV
        have k16 : (op == 16) = false := by simp; omega
        have k17 : (op == 17) = false := by simp; omega
        have k18 : (op == 18) = false := by simp; omega
        have k19 : (op == 19) = false := by simp; omega
        have k20 : (op == 20) = true := by simp; omega
        have c1 : ∀ W : World, Calls Tryd.prog 18 #[.int .i64 (E op rd rs rt imm), .int .i64 7, .int .i64 5] W fun e w' => e = .returned (.int .i64 rd) ∧ ∃ n, w' = W.drewN n := fun W => by
          have := bits_any (E op rd rs rt imm) 7 5 W er.1 er.2 (by omega) (by omega) (by omega) (by omega)
          rwa [show bitsOf (E op rd rs rt imm) 7 5 = rd by unfold bitsOf; simp; exact lo.1 (by omega) (by omega) (by omega)] at this
        clear lo er sp ho ho'
        generalize E op rd rs rt imm = r at *
        go_wp2
        go_quiet ((first | (go_at_call 18; (with_reducible first | exact Calls.quiet_of (c1 _) | exact qa_of (c1 _)))))
        go_wp2
        go_ret
        exact ⟨rfl, by repeat (with_reducible first | exact Q3.out | apply bl_drewN | apply bl_drew)⟩
      · clear hV
        have k16 : (op == 16) = false := by simp; omega
        have k17 : (op == 17) = false := by simp; omega
        have k18 : (op == 18) = false := by simp; omega
        have k19 : (op == 19) = false := by simp; omega
        have k20 : (op == 20) = false := by simp; omega
        have c1 : ∀ W : World, Calls Tryd.prog 18 #[.int .i64 (E op rd rs rt imm), .int .i64 7, .int .i64 5] W fun e w' => e = .returned (.int .i64 rd) ∧ ∃ n, w' = W.drewN n := fun W => by
          have := bits_any (E op rd rs rt imm) 7 5 W er.1 er.2 (by omega) (by omega) (by omega) (by omega)
          rwa [show bitsOf (E op rd rs rt imm) 7 5 = rd by unfold bitsOf; simp; exact lo.1 (by omega) (by omega) (by omega)] at this
        have c2 : ∀ W : World, Calls Tryd.prog 18 #[.int .i64 (E op rd rs rt imm), .int .i64 15, .int .i64 5] W fun e w' => e = .returned (.int .i64 rs) ∧ ∃ n, w' = W.drewN n := fun W => by
          have := bits_any (E op rd rs rt imm) 15 5 W er.1 er.2 (by omega) (by omega) (by omega) (by omega)
          rwa [show bitsOf (E op rd rs rt imm) 15 5 = rs by unfold bitsOf; simp; exact lo.2 (by omega) (by omega)] at this
        clear lo er sp ho 
        generalize E op rd rs rt imm = r at *
        go_wp2
        go_quiet ((first | (go_at_call 18; (with_reducible first | exact Calls.quiet_of (c1 _) | exact qa_of (c1 _))) | (go_at_call 18; (with_reducible first | exact Calls.quiet_of (c2 _) | exact qa_of (c2 _)))))
        go_wp2
        go_ret
        exact ⟨rfl, by repeat (with_reducible first | exact Q3.out | apply bl_drewN | apply bl_drew)⟩
set_option maxRecDepth 100000 in
set_option maxHeartbeats 2000000 in
theorem encodeSign_walk (A : Option Addr) (n c : Nat) (bs : List Int) (w : World) (h : Bytes w A n bs) (hc : n ≤ c) (hn : n ≤ 9223372036854775807) (hT : Tab w) :
    Calls Tryd.prog 6 #[.slice A n c] w (Ret1 w) := by
  have HT := Lib.hid hT
  clear hT
  by_cases hl : 1048576 < n
  · go_enter Tryd.func6, Tryd.ntmps6
    go_wp2
    go_ret
    exact ⟨rfl, by repeat (first | (with_reducible exact Below.refl _ _) | (with_reducible apply bl_alloc) | (with_reducible apply bl_drewN) | (with_reducible apply bl_drew))⟩
  · go_enter Tryd.func6, Tryd.ntmps6
    go_wp2_with fail
    refine (drawEncode_any A n c bs _ (by repeat (with_reducible first | exact h | apply Bytes.alloc)) hc hn).mono ?_
    rintro e w1 ⟨op, rd, rs, rt, imm, rfl, hb1⟩
    have Q1 := Lib.hid (bl_tr hb1 (by repeat (with_reducible first | exact Below.refl _ _ | apply bl_alloc) : Below w.heap.size w _))
    clear hb1
    go_wp2_with fail
    refine (instrEncode_v _ _ _ _ _ _ (HT.out.below (by repeat (with_reducible first | exact Q1.out | apply bl_alloc)))).mono ?_
    rintro e w2 ⟨rfl, hb2⟩
    have kc := Lib.hid (bl_keep hb2 (new_blk w1 _))
    obtain ⟨d0, d1, d2, d3, d4⟩ := five kc.out
    have dl := lt_blk kc.out
    have Q2 := Lib.hid (bl_tr hb2 (by repeat (with_reducible first | exact Q1.out | apply bl_alloc)))
    clear hb2
    go_wp2_with fail
    refine (specEncode_v _ _ _ _ _ _).mono ?_
    rintro e w3 ⟨rfl, hb3⟩
    clear d0 d1 d2 d3 d4
    have kn := Lib.hid (bl_keep hb3 kc.out)
    obtain ⟨e0, e1, e2, e3, e4⟩ := five kn.out
    have Q3 := Lib.hid (bl_tr hb3 (by repeat (with_reducible first | exact Q2.out | apply bl_alloc)))
    clear hb3
    have h2 : (iv op rd rs rt imm != iv op rd rs rt imm) = false := by simp
    have h3 : (iv op rd rs rt imm == iv op rd rs rt imm) = true := by simp
    have h4 : (encV op rd rs rt imm != encV op rd rs rt imm) = false := by simp
    have h5 : (encV op rd rs rt imm == encV op rd rs rt imm) = true := by simp
    cases hv : iv op rd rs rt imm with
    | false =>
      rw [hv] at h2 h3
      generalize encV op rd rs rt imm = r at *
      go_wp2
      go_ret
      exact ⟨rfl, Q3.out⟩
    | true =>
      rw [hv] at h2 h3
      have hV := iv_iff.1 hv
      rw [encV_yes hv] at *
      have er := E_range hV
      have sp := hV.split
      rcases (by omega : op ≤ 11 ∨ ((12 ≤ op ∧ op ≤ 18) ∧ imm < 0) ∨ ((12 ≤ op ∧ op ≤ 18) ∧ 0 ≤ imm) ∨ (19 ≤ op ∧ op ≤ 19) ∨ ((20 ≤ op ∧ op ≤ 20) ∧ imm < 0) ∨ ((20 ≤ op ∧ op ≤ 20) ∧ 0 ≤ imm) ∨ 21 ≤ op) with ho | ⟨⟨ho, ho'⟩, hi⟩ | ⟨⟨ho, ho'⟩, hi⟩ | ⟨ho, ho'⟩ | ⟨⟨ho, ho'⟩, hi⟩ | ⟨⟨ho, ho'⟩, hi⟩ | ho
      · skip
        have f1 : decide (12 ≤ op) = false := by simp; omega
        have f2 : decide (op ≤ 18) = true := by simp; omega
        have f3' : (op == 20) = false := by simp; omega
        clear hV er sp
        generalize E op rd rs rt imm = r at *
        go_wp2
        go_quiet ((first | fail))
        go_wp2
        try (go_quiet ((first | fail)); go_wp2)
        go_ret
        exact ⟨rfl, by repeat (with_reducible first | exact Q3.out | apply bl_drewN | apply bl_drew)⟩
      · skip
        have f1 : decide (12 ≤ op) = true := by simp; omega
        have f2 : decide (op ≤ 18) = true := by simp; omega
        have f3' : (op == 20) = false := by simp; omega
        have c1 : ∀ W : World, Calls Tryd.prog 18 #[.int .i64 (E op rd rs rt imm), .int .i64 31, .int .i64 1] W fun e w' => e = .returned (.int .i64 1) ∧ ∃ n, w' = W.drewN n := fun W => by
          have := bits_any (E op rd rs rt imm) 31 1 W er.1 er.2 (by omega) (by omega) (by omega) (by omega)
          have lo := E_sign hV (by omega)
          rwa [show bitsOf (E op rd rs rt imm) 31 1 = 1 by unfold bitsOf; simp; omega] at this
        have f4 : decide (imm < 0) = true := by simp; omega
        clear hV er sp
        generalize E op rd rs rt imm = r at *
        go_wp2
        go_quiet ((first | (go_at_call 18; (with_reducible first | exact Calls.quiet_of (c1 _) | exact qa_of (c1 _)))))
        go_wp2
        try (go_quiet ((first | (go_at_call 18; (with_reducible first | exact Calls.quiet_of (c1 _) | exact qa_of (c1 _))))); go_wp2)
        go_ret
        exact ⟨rfl, by repeat (with_reducible first | exact Q3.out | apply bl_drewN | apply bl_drew)⟩
      · skip
        have f1 : decide (12 ≤ op) = true := by simp; omega
        have f2 : decide (op ≤ 18) = true := by simp; omega
        have f3' : (op == 20) = false := by simp; omega
        have c1 : ∀ W : World, Calls Tryd.prog 18 #[.int .i64 (E op rd rs rt imm), .int .i64 31, .int .i64 1] W fun e w' => e = .returned (.int .i64 0) ∧ ∃ n, w' = W.drewN n := fun W => by
          have := bits_any (E op rd rs rt imm) 31 1 W er.1 er.2 (by omega) (by omega) (by omega) (by omega)
          have lo := E_sign hV (by omega)
          rwa [show bitsOf (E op rd rs rt imm) 31 1 = 0 by unfold bitsOf; simp; omega] at this
        have f4 : decide (imm < 0) = false := by simp; omega
        clear hV er sp
        generalize E op rd rs rt imm = r at *
        go_wp2
        go_quiet ((first | (go_at_call 18; (with_reducible first | exact Calls.quiet_of (c1 _) | exact qa_of (c1 _)))))
        go_wp2
        try (go_quiet ((first | (go_at_call 18; (with_reducible first | exact Calls.quiet_of (c1 _) | exact qa_of (c1 _))))); go_wp2)
        go_ret
        exact ⟨rfl, by repeat (with_reducible first | exact Q3.out | apply bl_drewN | apply bl_drew)⟩
      · skip
        have f1 : decide (12 ≤ op) = true := by simp; omega
        have f2 : decide (op ≤ 18) = false := by simp; omega
        have f3' : (op == 20) = false := by simp; omega
        clear hV er sp
        generalize E op rd rs rt imm = r at *
        go_wp2
        go_quiet ((first | fail))
        go_wp2
        try (go_quiet ((first | fail)); go_wp2)
        go_ret
        exact ⟨rfl, by repeat (with_reducible first | exact Q3.out | apply bl_drewN | apply bl_drew)⟩
      · skip
        have f1 : decide (12 ≤ op) = true := by simp; omega
        have f2 : decide (op ≤ 18) = false := by simp; omega
        have f3' : (op == 20) = true := by simp; omega
        have c1 : ∀ W : World, Calls Tryd.prog 18 #[.int .i64 (E op rd rs rt imm), .int .i64 31, .int .i64 1] W fun e w' => e = .returned (.int .i64 1) ∧ ∃ n, w' = W.drewN n := fun W => by
          have := bits_any (E op rd rs rt imm) 31 1 W er.1 er.2 (by omega) (by omega) (by omega) (by omega)
          have lo := E_sign hV (by omega)
          rwa [show bitsOf (E op rd rs rt imm) 31 1 = 1 by unfold bitsOf; simp; omega] at this
        have f4 : decide (imm < 0) = true := by simp; omega
        clear hV er sp
        generalize E op rd rs rt imm = r at *
        go_wp2
        go_quiet ((first | (go_at_call 18; (with_reducible first | exact Calls.quiet_of (c1 _) | exact qa_of (c1 _)))))
        go_wp2
        try (go_quiet ((first | (go_at_call 18; (with_reducible first | exact Calls.quiet_of (c1 _) | exact qa_of (c1 _))))); go_wp2)
        go_ret
        exact ⟨rfl, by repeat (with_reducible first | exact Q3.out | apply bl_drewN | apply bl_drew)⟩
      · skip
        have f1 : decide (12 ≤ op) = true := by simp; omega
        have f2 : decide (op ≤ 18) = false := by simp; omega
        have f3' : (op == 20) = true := by simp; omega
        have c1 : ∀ W : World, Calls Tryd.prog 18 #[.int .i64 (E op rd rs rt imm), .int .i64 31, .int .i64 1] W fun e w' => e = .returned (.int .i64 0) ∧ ∃ n, w' = W.drewN n := fun W => by
          have := bits_any (E op rd rs rt imm) 31 1 W er.1 er.2 (by omega) (by omega) (by omega) (by omega)
          have lo := E_sign hV (by omega)
          rwa [show bitsOf (E op rd rs rt imm) 31 1 = 0 by unfold bitsOf; simp; omega] at this
        have f4 : decide (imm < 0) = false := by simp; omega
        clear hV er sp
        generalize E op rd rs rt imm = r at *
        go_wp2
        go_quiet ((first | (go_at_call 18; (with_reducible first | exact Calls.quiet_of (c1 _) | exact qa_of (c1 _)))))
        go_wp2
        try (go_quiet ((first | (go_at_call 18; (with_reducible first | exact Calls.quiet_of (c1 _) | exact qa_of (c1 _))))); go_wp2)
        go_ret
        exact ⟨rfl, by repeat (with_reducible first | exact Q3.out | apply bl_drewN | apply bl_drew)⟩
      · skip
        have f1 : decide (12 ≤ op) = true := by simp; omega
        have f2 : decide (op ≤ 18) = false := by simp; omega
        have f3' : (op == 20) = false := by simp; omega
        clear hV er sp
        generalize E op rd rs rt imm = r at *
        go_wp2
        go_quiet ((first | fail))
        go_wp2
        try (go_quiet ((first | fail)); go_wp2)
        go_ret
        exact ⟨rfl, by repeat (with_reducible first | exact Q3.out | apply bl_drewN | apply bl_drew)⟩
end Go.Proofs.YthmfkdlncnjjoaaDoor
