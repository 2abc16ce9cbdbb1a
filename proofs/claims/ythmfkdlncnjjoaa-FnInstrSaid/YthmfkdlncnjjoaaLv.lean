/- The walks of three laws on InstrValid: each returns true. -/
import Derived.Test.YthmfkdlncnjjoaaIs
import Derived.Test.YthmfkdlncnjjoaaDv
namespace Go.Proofs.Ythmfkdlncnjjoaa
open Go.RowKit IM
set_option linter.unusedSimpArgs false
def Ret1 (w : World) (e : Ending) (w' : World) : Prop := e = .returned (.bool true) ∧ Below w.heap.size w w'
theorem toInstr_any (op rd rs rt imm : Int) (w : World) :
    Calls Try.prog 7 #[.agg #[.int .i64 op, .int .i64 rd, .int .i64 rs, .int .i64 rt, .int .i64 imm]] w fun e w' => e = .returned (.agg #[.int .i64 op, .int .i64 rd, .int .i64 rs, .int .i64 rt, .int .i64 imm]) ∧ Below w.heap.size w w' := by
  go_enter Try.func7, Try.ntmps7
  go_wp2
  refine bodyPost_ret (v := .agg #[.int .i64 op, .int .i64 rd, .int .i64 rs, .int .i64 rt, .int .i64 imm]) (by simp [results, Try.results7, go_sem]) rfl ⟨rfl, ?_⟩
  repeat (first | (with_reducible exact Below.refl _ _) | (with_reducible apply bl_alloc) | (with_reducible apply bl_drewN) | (with_reducible apply bl_drew))
set_option maxHeartbeats 1000000 in
theorem exactValid_walk (op rd rs rt imm : Int) (w : World) :
    Calls Try.prog 3 #[.agg #[.int .i64 op, .int .i64 rd, .int .i64 rs, .int .i64 rt, .int .i64 imm]] w (Ret1 w) := by
  go_enter Try.func3, Try.ntmps3
  go_wp2_with fail
  refine (toInstr_any _ _ _ _ _ _).mono ?_
  rintro e w1 ⟨rfl, hb1⟩
  have kc := Lib.hid (bl_keep hb1 (new_blk w _))
  obtain ⟨e0, e1, e2, e3, e4⟩ := five kc.out
  have Q := Lib.hid (bl_tr hb1 (bl_alloc (Below.refl w.heap.size w) _))
  clear hb1
  go_wp2_with fail
  refine (specValid_any _ _ _ _ _ _).mono ?_
  rintro e w2 ⟨rfl, hb2⟩
  obtain ⟨f0, f1, f2, f3, f4⟩ := five (bl_keep hb2 kc.out)
  have Q2 := Lib.hid (bl_tr hb2 Q.out)
  clear hb2 Q e0 e1 e2 e3 e4
  go_wp2_with fail
  refine (toInstr_any _ _ _ _ _ _).mono ?_
  rintro e w3 ⟨rfl, hb3⟩
  have Q3 := Lib.hid (bl_tr hb3 Q2.out)
  clear hb3 Q2 f0 f1 f2 f3 f4
  go_wp2_with fail
  refine (instrValid_any _ _ _ _ _ _).mono ?_
  rintro e w4 ⟨rfl, hb4⟩
  have Q4 := Lib.hid (bl_tr hb4 Q3.out)
  clear hb4 Q3
  have hz : (iv op rd rs rt imm != iv op rd rs rt imm) = false := by simp
  go_wp2
  go_ret
  exact ⟨rfl, Q4.out⟩
set_option maxRecDepth 100000 in
set_option maxHeartbeats 4000000 in
theorem instr_walk (A : Option Addr) (n c : Nat) (bs : List Int) (w : World) (h : Bytes w A n bs) (hc : n ≤ c) (hn : n ≤ 9223372036854775807) :
    Calls Try.prog 4 #[.slice A n c] w (Ret1 w) := by
  by_cases hl : 1048576 < n
  · go_enter Try.func4, Try.ntmps4
    go_wp2
    go_ret
    exact ⟨rfl, by repeat (first | (with_reducible exact Below.refl _ _) | (with_reducible apply bl_alloc) | (with_reducible apply bl_drewN) | (with_reducible apply bl_drew))⟩
  · go_enter Try.func4, Try.ntmps4
    go_wp2_with fail
    refine (drawValid_any A n c bs _ (by repeat (with_reducible first | exact h | apply Bytes.alloc)) hc hn).mono ?_
    rintro e w1 ⟨op, rd, rs, rt, imm, rfl, hb1⟩
    go_wp2_with fail
    refine (instrValid_any _ _ _ _ _ _).mono ?_
    rintro e w2 ⟨rfl, hb2⟩
    have kc := Lib.hid (bl_keep hb2 (new_blk w1 _))
    obtain ⟨e0, e1, e2, e3, e4⟩ := five kc.out
    have Q := Lib.hid (bl_tr hb2 (bl_alloc hb1 _))
    clear hb2 hb1
    go_wp2_with fail
    refine (specValid_any _ _ _ _ _ _).mono ?_
    rintro e w3 ⟨rfl, hb3⟩
    have kn := Lib.hid (bl_keep hb3 kc.out)
    clear e0 e1 e2 e3 e4
    obtain ⟨e0, e1, e2, e3, e4⟩ := five kn.out
    have Q2 := Lib.hid (bl_tr hb3 Q.out)
    clear hb3 kc Q
    have hz : (iv op rd rs rt imm != iv op rd rs rt imm) = false := by simp
    have hz2 : (iv op rd rs rt imm == iv op rd rs rt imm) = true := by simp
    cases hv : iv op rd rs rt imm with
    | false =>
      rw [hv] at hz hz2
      go_wp2
      go_ret
      exact ⟨rfl, Q2.out⟩
    | true =>
      rw [hv] at hz hz2
      have hV : IV op rd rs rt imm := iv_iff.1 hv
      have v1 : iv op 32 rs rt imm = false := by rw [Bool.eq_false_iff]; intro hh; have := iv_iff.1 hh; unfold IV reg at *; omega
      have v2 : iv op rd 32 rt imm = false := by rw [Bool.eq_false_iff]; intro hh; have := iv_iff.1 hh; unfold IV reg at *; omega
      have v3 : iv op rd rs 32 imm = false := by rw [Bool.eq_false_iff]; intro hh; have := iv_iff.1 hh; unfold IV reg at *; omega
      have v4 : iv op rd rs rt 2097152 = false := by rw [Bool.eq_false_iff]; intro hh; have := iv_iff.1 hh; unfold IV reg at *; omega
      have v5 : iv 0 rd rs rt imm = false := by rw [Bool.eq_false_iff]; intro hh; have := iv_iff.1 hh; unfold IV reg at *; omega
      have v6 : iv 22 rd rs rt imm = false := by rw [Bool.eq_false_iff]; intro hh; have := iv_iff.1 hh; unfold IV reg at *; omega
      clear hV
      have z0 : w1.heap.size < w3.heap.size := lt_blk kn.out
      have z1 : w1.heap.size < w3.heap.size + 1 := by omega
      have z2 : w1.heap.size < w3.heap.size + 2 := by omega
      have z3 : w1.heap.size < w3.heap.size + 3 := by omega
      have z4 : w1.heap.size < w3.heap.size + 4 := by omega
      have z5 : w1.heap.size < w3.heap.size + 5 := by omega
      go_wp2_with fail
      refine (instrValid_any _ _ _ _ _ _).mono ?_
      rintro e u1 ⟨rfl, hb⟩
      have b2 := bl_keep hb (blk_alloc (blk_alloc (blk_alloc (blk_alloc (new_blk (w3.alloc _) _) _) _) _) _)
      have b3 := bl_keep hb (blk_alloc (blk_alloc (blk_alloc (new_blk ((w3.alloc _).alloc _) _) _) _) _)
      have b4 := bl_keep hb (blk_alloc (blk_alloc (new_blk (((w3.alloc _).alloc _).alloc _) _) _) _)
      have b5 := bl_keep hb (blk_alloc (new_blk ((((w3.alloc _).alloc _).alloc _).alloc _) _) _)
      have b6 := bl_keep hb (new_blk (((((w3.alloc _).alloc _).alloc _).alloc _).alloc _) _)
      simp only [World.size_alloc, Nat.add_assoc, Nat.reduceAdd] at b2 b3 b4 b5 b6
      have Q1 := Lib.hid (bl_tr hb (by repeat (first | (with_reducible exact Q2.out) | (with_reducible apply bl_alloc))))
      clear hb Q2 kn e0 e1 e2 e3 e4
      have B2 := Lib.hid b2
      have B3 := Lib.hid b3
      have B4 := Lib.hid b4
      have B5 := Lib.hid b5
      have B6 := Lib.hid b6
      clear b2 b3 b4 b5 b6
      obtain ⟨e0, e1, e2, e3, e4⟩ := five B2.out
      go_wp2_with fail
      refine (instrValid_any _ _ _ _ _ _).mono ?_
      rintro e u2 ⟨rfl, hb⟩
      have b3 := Lib.hid (bl_keep hb B3.out)
      have b4 := Lib.hid (bl_keep hb B4.out)
      have b5 := Lib.hid (bl_keep hb B5.out)
      have b6 := Lib.hid (bl_keep hb B6.out)
      have Qn := Lib.hid (bl_tr hb Q1.out)
      clear hb Q1 e0 e1 e2 e3 e4 B2 B3 B4 B5 B6
      have Q1 := Qn
      clear Qn
      have B3 := b3
      clear b3
      have B4 := b4
      clear b4
      have B5 := b5
      clear b5
      have B6 := b6
      clear b6
      obtain ⟨e0, e1, e2, e3, e4⟩ := five B3.out
      go_wp2_with fail
      refine (instrValid_any _ _ _ _ _ _).mono ?_
      rintro e u3 ⟨rfl, hb⟩
      have b4 := Lib.hid (bl_keep hb B4.out)
      have b5 := Lib.hid (bl_keep hb B5.out)
      have b6 := Lib.hid (bl_keep hb B6.out)
      have Qn := Lib.hid (bl_tr hb Q1.out)
      clear hb Q1 e0 e1 e2 e3 e4 B3 B4 B5 B6
      have Q1 := Qn
      clear Qn
      have B4 := b4
      clear b4
      have B5 := b5
      clear b5
      have B6 := b6
      clear b6
      obtain ⟨e0, e1, e2, e3, e4⟩ := five B4.out
      go_wp2_with fail
      refine (instrValid_any _ _ _ _ _ _).mono ?_
      rintro e u4 ⟨rfl, hb⟩
      have b5 := Lib.hid (bl_keep hb B5.out)
      have b6 := Lib.hid (bl_keep hb B6.out)
      have Qn := Lib.hid (bl_tr hb Q1.out)
      clear hb Q1 e0 e1 e2 e3 e4 B4 B5 B6
      have Q1 := Qn
      clear Qn
      have B5 := b5
      clear b5
      have B6 := b6
      clear b6
      obtain ⟨e0, e1, e2, e3, e4⟩ := five B5.out
      go_wp2_with fail
      refine (instrValid_any _ _ _ _ _ _).mono ?_
      rintro e u5 ⟨rfl, hb⟩
      have b6 := Lib.hid (bl_keep hb B6.out)
      have Qn := Lib.hid (bl_tr hb Q1.out)
      clear hb Q1 e0 e1 e2 e3 e4 B5 B6
      have Q1 := Qn
      clear Qn
      have B6 := b6
      clear b6
      obtain ⟨e0, e1, e2, e3, e4⟩ := five B6.out
      go_wp2_with fail
      refine (instrValid_any _ _ _ _ _ _).mono ?_
      rintro e u6 ⟨rfl, hb⟩
      have Qn := Lib.hid (bl_tr hb Q1.out)
      clear hb Q1 e0 e1 e2 e3 e4 B6
      have Q1 := Qn
      clear Qn
      go_wp2
      go_ret
      exact ⟨rfl, Q1.out⟩
set_option maxRecDepth 100000 in
set_option maxHeartbeats 4000000 in
theorem instrOther_walk (A A2 : Option Addr) (n c n2 c2 : Nat) (bs : List Int) (w : World) (h : Bytes w A n bs) (hc : n ≤ c) (hn : n ≤ 9223372036854775807) (hn2 : n2 ≤ 9223372036854775807) :
    Calls Try.prog 5 #[.slice A n c, .slice A2 n2 c2] w (Ret1 w) := by
  by_cases hl : 1048576 < n ∨ 1048576 < n2
  · by_cases hl1 : 1048576 < n
    · go_enter Try.func5, Try.ntmps5
      go_wp2
      go_ret
      exact ⟨rfl, by repeat (first | (with_reducible exact Below.refl _ _) | (with_reducible apply bl_alloc) | (with_reducible apply bl_drewN) | (with_reducible apply bl_drew))⟩
    · have hl2 : 1048576 < n2 := by omega
      go_enter Try.func5, Try.ntmps5
      go_wp2
      go_ret
      exact ⟨rfl, by repeat (first | (with_reducible exact Below.refl _ _) | (with_reducible apply bl_alloc) | (with_reducible apply bl_drewN) | (with_reducible apply bl_drew))⟩
  · have l1 : ¬ 1048576 < n := by omega
    have l2 : ¬ 1048576 < n2 := by omega
    clear hl
    go_enter Try.func5, Try.ntmps5
    go_wp2_with fail
    refine (drawValid_any A n c bs _ (by repeat (with_reducible first | exact h | apply Bytes.alloc)) hc hn).mono ?_
    rintro e w1 ⟨op, rd, rs, rt, imm, rfl, hb1⟩
    go_wp2_with fail
    refine (instrValid_any _ _ _ _ _ _).mono ?_
    rintro e w2 ⟨rfl, hb2⟩
    have kc := Lib.hid (bl_keep hb2 (new_blk w1 _))
    obtain ⟨e0, e1, e2, e3, e4⟩ := five kc.out
    have Q := Lib.hid (bl_tr hb2 (bl_alloc hb1 _))
    clear hb2 hb1
    go_wp2_with fail
    refine (specValid_any _ _ _ _ _ _).mono ?_
    rintro e w3 ⟨rfl, hb3⟩
    have kn := Lib.hid (bl_keep hb3 kc.out)
    clear e0 e1 e2 e3 e4
    obtain ⟨e0, e1, e2, e3, e4⟩ := five kn.out
    have Q2 := Lib.hid (bl_tr hb3 Q.out)
    clear hb3 kc Q
    have hz : (iv op rd rs rt imm != iv op rd rs rt imm) = false := by simp
    have hz2 : (iv op rd rs rt imm == iv op rd rs rt imm) = true := by simp
    cases hv : iv op rd rs rt imm with
    | false =>
      rw [hv] at hz hz2
      go_wp2
      go_ret
      exact ⟨rfl, Q2.out⟩
    | true =>
      rw [hv] at hz hz2
      have hV := Lib.hid (iv_iff.1 hv)
      by_cases ho : 11 < op
      · have ho2 : op ≤ 21 := by have := hV.out; unfold IV reg at this; omega
        go_wp2
        go_ret
        exact ⟨by simp [ho2], Q2.out⟩
      · go_wp2_with fail
        have ho3 : 1 ≤ op := by have := hV.out; unfold IV reg at this; omega
        have hr : reg rd ∧ reg rs ∧ reg rt := by have := hV.out; unfold IV reg at this; unfold reg; omega
        have hx : iv (1 + (n2 : Int) % 11) rs rt rd 0 = true := iv_iff.2 (.inl ⟨by omega, by omega, hr.2.1, hr.2.2, hr.1, rfl⟩)
        clear hr
        refine (instrValid_any _ _ _ _ _ _).mono ?_
        rintro e w4 ⟨rfl, hb4⟩
        have Q4 := Lib.hid (bl_tr hb4 (by repeat (first | (with_reducible exact Q2.out) | (with_reducible apply bl_alloc))))
        clear hb4
        go_wp2
        go_ret
        exact ⟨rfl, Q4.out⟩
end Go.Proofs.Ythmfkdlncnjjoaa
