/- The draws of an instruction that may be spoilt. -/
import Derived.Test.YthmfkdlncnjjoaaDoorDi
namespace Go.Proofs.YthmfkdlncnjjoaaDoor
open Go.RowKit IM
set_option linter.unusedSimpArgs false
def InsA (B g N : Nat) (w : World) (e : Ending) (w' : World) : Prop := ∃ op rd rs rt imm : Int, e = .returned (.agg #[.int .i64 op, .int .i64 rd, .int .i64 rs, .int .i64 rt, .int .i64 imm]) ∧ Rd B w' g N ∧ Only g w w'
def DrI (w : World) (e : Ending) (w' : World) : Prop := ∃ op rd rs rt imm : Int, e = .returned (.agg #[.int .i64 op, .int .i64 rd, .int .i64 rs, .int .i64 rt, .int .i64 imm]) ∧ Below w.heap.size w w'
theorem insA_end {B g N N' : Nat} {w W : World} {op rd rs rt imm : Int} (hr : Rd B W g N') (hN : N' ≤ N) (hQ : Only g w W) : InsA B g N w (.returned (.agg #[.int .i64 op, .int .i64 rd, .int .i64 rs, .int .i64 rt, .int .i64 imm])) W :=
  ⟨op, rd, rs, rt, imm, rfl, hr.mono hN, hQ⟩
set_option maxRecDepth 100000 in
set_option maxHeartbeats 4000000 in
theorem l94Wrong_any (B g N : Nat) (w : World) (h : Rd B w g N) (hN : N ≤ 10000) :
    Calls Tryd.prog 32 #[.pointer (some ⟨g, 0, none⟩)] w (InsA B g (N + 10) w) := by
  have hne : w.heap.size ≠ g := by have := h.lt; omega
  have zB : B ≤ w.heap.size := by obtain ⟨_, _, _, _, _, _, _, _, z⟩ := h; exact z
  go_enter Tryd.func32, Tryd.ntmps32
  go_wp2_with fail
  refine (l94Instr_any B g N _ ?_ (by omega)).mono ?_
  focus (repeat (with_reducible first | assumption | apply Rd.alloc | apply Rd.drewN | apply Rd.drew))
  rintro e w1 ⟨op, rd, rs, rt, imm, rfl, hiv, hr, ho⟩
  have kc := Lib.hid (ho.keep (new_blk w _) hne)
  have hne1 : w1.heap.size ≠ g := by have := hr.lt; omega
  go_wp2_with fail
  refine (pick_any B g (N + 8) _ _ ?_ (by omega)).mono ?_
  focus (repeat (with_reducible first | assumption | apply Rd.alloc | apply Rd.drewN | apply Rd.drew))
  rintro e w2 ⟨x, rfl, x0, x1, x2, hr2, ho2⟩
  clear x1 x2
  have jc := Lib.hid (ho2.keep (new_blk w1 _) hne1)
  have kn := Lib.hid (ho2.keep (blk_alloc kc.out _) hne)
  have n1 : w.heap.size ≠ w1.heap.size := by have := lt_blk kc.out; omega
  have n2 : w1.heap.size ≠ w.heap.size := Ne.symm n1
  obtain ⟨e0, e1, e2, e3, e4⟩ := five jc.out
  have ef := unfrozen jc.out
  obtain ⟨r0, r1, r2, r3, r4⟩ := five kn.out
  have rf := unfrozen kn.out
  have hne2 : w2.heap.size ≠ g := by have := hr2.lt; omega
  have s1 := Nat.le_of_lt (lt_blk kc.out)
  have z1 : B ≤ w1.heap.size := by omega
  have Q2 := Lib.hid ((((Only.refl g w).alloc _).trans ho).trans ((Only.refl g w1).alloc _ |>.trans ho2))
  clear ho ho2 kc
  go_wp2_with fail
  · refine (pick_any B g (N + 9) _ _ ?_ (by omega)).mono ?_
    focus (repeat (with_reducible first | assumption | apply Rd.alloc | apply Rd.drewN | apply Rd.drew))
    rintro e w3 ⟨y, rfl, y0, y1, y2, hr3, ho3⟩
    have y3 := y1 (by omega)
    clear y1 y2
    obtain ⟨e0, e1, e2, e3, e4⟩ := five (ho3.keep (blk_alloc jc.out _) hne1)
    have ef := unfrozen (ho3.keep (blk_alloc jc.out _) hne1)
    obtain ⟨r0, r1, r2, r3, r4⟩ := five (ho3.keep (blk_alloc kn.out _) hne)
    have rf := unfrozen (ho3.keep (blk_alloc kn.out _) hne)
    have Q3 := Lib.hid (Q2.out.trans ((Only.refl g w2).alloc _ |>.trans ho3))
    obtain ⟨oc, of⟩ := ho3.cell
    clear ho3
    have hy : y = 0 ∨ y = 1 := by omega
    clear y0 y3
    rcases hy with rfl | rfl
    · go_wp2
      clear oc of
      refine bodyPost_ret (v := .agg #[.int .i64 op, .int .i64 (-1), .int .i64 rs, .int .i64 rt, .int .i64 imm]) (by simp [results, Tryd.results32, go_sem, *]) rfl (insA_end (N' := N + 10) ?_ (by omega) ?_)
      · repeat (first | (with_reducible exact hr3) | (with_reducible refine Rd.set ?_ (by assumption) (by omega) _))
      · repeat (first | (with_reducible exact Q3.out) | (with_reducible refine Only.setNew ?_ (by first | exact Nat.le_refl _ | exact s1) _))
    · go_wp2
      clear oc of
      refine bodyPost_ret (v := .agg #[.int .i64 op, .int .i64 32, .int .i64 rs, .int .i64 rt, .int .i64 imm]) (by simp [results, Tryd.results32, go_sem, *]) rfl (insA_end (N' := N + 10) ?_ (by omega) ?_)
      · repeat (first | (with_reducible exact hr3) | (with_reducible refine Rd.set ?_ (by assumption) (by omega) _))
      · repeat (first | (with_reducible exact Q3.out) | (with_reducible refine Only.setNew ?_ (by first | exact Nat.le_refl _ | exact s1) _))
  · refine (pick_any B g (N + 9) _ _ ?_ (by omega)).mono ?_
    focus (repeat (with_reducible first | assumption | apply Rd.alloc | apply Rd.drewN | apply Rd.drew))
    rintro e w3 ⟨y, rfl, y0, y1, y2, hr3, ho3⟩
    have y3 := y1 (by omega)
    clear y1 y2
    obtain ⟨e0, e1, e2, e3, e4⟩ := five (ho3.keep (blk_alloc jc.out _) hne1)
    have ef := unfrozen (ho3.keep (blk_alloc jc.out _) hne1)
    obtain ⟨r0, r1, r2, r3, r4⟩ := five (ho3.keep (blk_alloc kn.out _) hne)
    have rf := unfrozen (ho3.keep (blk_alloc kn.out _) hne)
    have Q3 := Lib.hid (Q2.out.trans ((Only.refl g w2).alloc _ |>.trans ho3))
    obtain ⟨oc, of⟩ := ho3.cell
    clear ho3
    have hy : y = 0 ∨ y = 1 ∨ y = 2 ∨ y = 3 ∨ y = 4 := by omega
    clear y0 y3
    rcases hy with rfl | rfl | rfl | rfl | rfl
    · go_wp2
      clear oc of
      refine bodyPost_ret (v := .agg #[.int .i64 op, .int .i64 rd, .int .i64 rs, .int .i64 rt, .int .i64 2048]) (by simp [results, Tryd.results32, go_sem, *]) rfl (insA_end (N' := N + 10) ?_ (by omega) ?_)
      · repeat (first | (with_reducible exact hr3) | (with_reducible refine Rd.set ?_ (by assumption) (by omega) _))
      · repeat (first | (with_reducible exact Q3.out) | (with_reducible refine Only.setNew ?_ (by first | exact Nat.le_refl _ | exact s1) _))
    · go_wp2
      clear oc of
      refine bodyPost_ret (v := .agg #[.int .i64 op, .int .i64 rd, .int .i64 rs, .int .i64 rt, .int .i64 (-2049)]) (by simp [results, Tryd.results32, go_sem, *]) rfl (insA_end (N' := N + 10) ?_ (by omega) ?_)
      · repeat (first | (with_reducible exact hr3) | (with_reducible refine Rd.set ?_ (by assumption) (by omega) _))
      · repeat (first | (with_reducible exact Q3.out) | (with_reducible refine Only.setNew ?_ (by first | exact Nat.le_refl _ | exact s1) _))
    · go_wp2
      clear oc of
      refine bodyPost_ret (v := .agg #[.int .i64 op, .int .i64 rd, .int .i64 rs, .int .i64 rt, .int .i64 4096]) (by simp [results, Tryd.results32, go_sem, *]) rfl (insA_end (N' := N + 10) ?_ (by omega) ?_)
      · repeat (first | (with_reducible exact hr3) | (with_reducible refine Rd.set ?_ (by assumption) (by omega) _))
      · repeat (first | (with_reducible exact Q3.out) | (with_reducible refine Only.setNew ?_ (by first | exact Nat.le_refl _ | exact s1) _))
    · go_wp2
      clear oc of
      refine bodyPost_ret (v := .agg #[.int .i64 op, .int .i64 rd, .int .i64 rs, .int .i64 rt, .int .i64 1048576]) (by simp [results, Tryd.results32, go_sem, *]) rfl (insA_end (N' := N + 10) ?_ (by omega) ?_)
      · repeat (first | (with_reducible exact hr3) | (with_reducible refine Rd.set ?_ (by assumption) (by omega) _))
      · repeat (first | (with_reducible exact Q3.out) | (with_reducible refine Only.setNew ?_ (by first | exact Nat.le_refl _ | exact s1) _))
    · go_wp2
      clear oc of
      refine bodyPost_ret (v := .agg #[.int .i64 op, .int .i64 rd, .int .i64 rs, .int .i64 rt, .int .i64 3]) (by simp [results, Tryd.results32, go_sem, *]) rfl (insA_end (N' := N + 10) ?_ (by omega) ?_)
      · repeat (first | (with_reducible exact hr3) | (with_reducible refine Rd.set ?_ (by assumption) (by omega) _))
      · repeat (first | (with_reducible exact Q3.out) | (with_reducible refine Only.setNew ?_ (by first | exact Nat.le_refl _ | exact s1) _))
  · refine (pick_any B g (N + 9) _ _ ?_ (by omega)).mono ?_
    focus (repeat (with_reducible first | assumption | apply Rd.alloc | apply Rd.drewN | apply Rd.drew))
    rintro e w3 ⟨y, rfl, y0, y1, y2, hr3, ho3⟩
    have y3 := y1 (by omega)
    clear y1 y2
    obtain ⟨e0, e1, e2, e3, e4⟩ := five (ho3.keep (blk_alloc jc.out _) hne1)
    have ef := unfrozen (ho3.keep (blk_alloc jc.out _) hne1)
    obtain ⟨r0, r1, r2, r3, r4⟩ := five (ho3.keep (blk_alloc kn.out _) hne)
    have rf := unfrozen (ho3.keep (blk_alloc kn.out _) hne)
    have Q3 := Lib.hid (Q2.out.trans ((Only.refl g w2).alloc _ |>.trans ho3))
    obtain ⟨oc, of⟩ := ho3.cell
    clear ho3
    have hy : y = 0 ∨ y = 1 := by omega
    clear y0 y3
    rcases hy with rfl | rfl
    · go_wp2
      clear oc of
      refine bodyPost_ret (v := .agg #[.int .i64 0, .int .i64 rd, .int .i64 rs, .int .i64 rt, .int .i64 imm]) (by simp [results, Tryd.results32, go_sem, *]) rfl (insA_end (N' := N + 10) ?_ (by omega) ?_)
      · repeat (first | (with_reducible exact hr3) | (with_reducible refine Rd.set ?_ (by assumption) (by omega) _))
      · repeat (first | (with_reducible exact Q3.out) | (with_reducible refine Only.setNew ?_ (by first | exact Nat.le_refl _ | exact s1) _))
    · go_wp2
      clear oc of
      refine bodyPost_ret (v := .agg #[.int .i64 22, .int .i64 rd, .int .i64 rs, .int .i64 rt, .int .i64 imm]) (by simp [results, Tryd.results32, go_sem, *]) rfl (insA_end (N' := N + 10) ?_ (by omega) ?_)
      · repeat (first | (with_reducible exact hr3) | (with_reducible refine Rd.set ?_ (by assumption) (by omega) _))
      · repeat (first | (with_reducible exact Q3.out) | (with_reducible refine Only.setNew ?_ (by first | exact Nat.le_refl _ | exact s1) _))
  · refine bodyPost_ret (v := .agg #[.int .i64 op, .int .i64 rd, .int .i64 rs, .int .i64 31, .int .i64 imm]) (by simp [results, Tryd.results32, go_sem, *]) rfl (insA_end (N' := N + 9) ?_ (by omega) ?_)
    · repeat (first | (with_reducible exact hr2) | (with_reducible refine Rd.set ?_ (by assumption) (by omega) _))
    · repeat (first | (with_reducible exact Q2.out) | (with_reducible refine Only.setNew ?_ (by first | exact Nat.le_refl _ | exact s1) _))
  · refine bodyPost_ret (v := .agg #[.int .i64 op, .int .i64 rd, .int .i64 rs, .int .i64 rt, .int .i64 imm]) (by simp [results, Tryd.results32, go_sem, *]) rfl (insA_end (N' := N + 9) ?_ (by omega) ?_)
    · repeat (first | (with_reducible exact hr2) | (with_reducible refine Rd.set ?_ (by assumption) (by omega) _))
    · repeat (first | (with_reducible exact Q2.out) | (with_reducible refine Only.setNew ?_ (by first | exact Nat.le_refl _ | exact s1) _))
end Go.Proofs.YthmfkdlncnjjoaaDoor
