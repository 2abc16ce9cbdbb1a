/- The walk of FnInstrText: it returns true. -/
import Derived.Test.YthmfkdlncnjjoaaDoorLt
import Derived.Test.YthmfkdlncnjjoaaDoorDx
import Derived.Test.YthmfkdlncnjjoaaDoorTp
import Derived.Outline
import Derived.Laws.Closers25b
namespace Go.Proofs.YthmfkdlncnjjoaaDoor
open Go.RowKit IM
set_option linter.unusedSimpArgs false
set_option linter.unusedVariables false
theorem strL_nil : (strL []).toList.isEmpty = true := by
  rw [List.isEmpty_iff]
  exact (toList_nil_iff_emptyBytes _).2 rfl
theorem strL_cons (c : UInt8) (l : List UInt8) : (strL (c :: l)).toList.isEmpty = false := by
  rw [← Bool.not_eq_true, List.isEmpty_iff, toList_nil_iff_emptyBytes]
  intro h
  have := congrArg ByteArray.size h
  rw [strL_size] at this
  simp at this
theorem text_pos {op rd rs rt imm : Int} (h : IV op rd rs rt imm) : 0 < (textL op rd rs rt imm).length := by
  have ho := h.split
  obtain ⟨t, e, _⟩ := text_split op rd rs rt imm
  obtain ⟨n1, n2⟩ := names_ok ⟨op.toNat, by omega⟩ (by show 1 ≤ op.toNat; omega)
  have eo : Int.ofNat op.toNat = op := by simp; omega
  simp only [eo] at n2
  have := List.length_pos_iff.2 n2
  rw [e, List.length_append]; omega
theorem text_facts {op rd rs rt imm : Int} (h : IV op rd rs rt imm) : (strL (textL op rd rs rt imm)).toList.isEmpty = false ∧ (strL (textL op rd rs rt imm)).size ≤ 24 ∧ ∀ h0 : 0 < (strL (textL op rd rs rt imm)).size, 97 ≤ ((strL (textL op rd rs rt imm))[0]'h0).toNat ∧ ((strL (textL op rd rs rt imm))[0]'h0).toNat ≤ 122 := by
  have ho := h.split
  obtain ⟨t, e, _⟩ := text_split op rd rs rt imm
  obtain ⟨n1, n2⟩ := names_ok ⟨op.toNat, by omega⟩ (by show 1 ≤ op.toNat; omega)
  have eo : Int.ofNat op.toNat = op := by simp; omega
  simp only [eo] at n1 n2
  have hl := text_len h
  cases hn : nameOf op with
  | nil => exact absurd hn n2
  | cons c r =>
    rw [hn] at n1 e
    rw [e] at hl ⊢
    have hc : 97 ≤ c ∧ c ≤ 122 := by
      simp only [List.all_cons, Bool.and_eq_true, decide_eq_true_eq] at n1
      exact n1.1
    refine ⟨strL_cons _ _, by rw [strL_size]; exact hl, fun h0 => ?_⟩
    show 97 ≤ c.toNat ∧ c.toNat ≤ 122
    exact ⟨hc.1, hc.2⟩
set_option maxRecDepth 100000 in
set_option maxHeartbeats 2000000 in
theorem instrText_walk (A : Option Addr) (n c : Nat) (bs : List Int) (w : World) (h : Bytes w A n bs) (hc : n ≤ c) (hn : n ≤ 9223372036854775807) (hT : Tab w) (hP : TabQ w) :
    Calls Tryd.prog 12 #[.slice A n c] w (Ret1 w) := by
  have HT := Lib.hid hT
  have HP := Lib.hid hP
  clear hT hP
  by_cases hl : 1048576 < n
  · go_enter Tryd.func12, Tryd.ntmps12
    go_wp2
    go_ret
    exact ⟨rfl, by repeat (first | (with_reducible exact Below.refl _ _) | (with_reducible apply bl_alloc) | (with_reducible apply bl_drewN) | (with_reducible apply bl_drew))⟩
  · go_enter Tryd.func12, Tryd.ntmps12
    go_wp2_with fail
    refine (drawText_any A n c bs _ (by repeat (with_reducible first | exact h | apply Bytes.alloc)) hc hn).mono ?_
    rintro e w1 ⟨op, rd, rs, rt, imm, rfl, hb1⟩
    have Q1 := Lib.hid (bl_tr hb1 (by repeat (with_reducible first | exact Below.refl _ _ | apply bl_alloc) : Below w.heap.size w _))
    clear hb1
    go_wp2_with fail
    refine (instrText_any _ _ _ _ _ _ (HT.out.below (by repeat (with_reducible first | exact Q1.out | apply bl_alloc))) (HP.out.below (by repeat (with_reducible first | exact Q1.out | apply bl_alloc)))).mono ?_
    rintro e w2 ⟨rfl, hb2⟩
    have kc := Lib.hid (bl_keep hb2 (new_blk w1 _))
    obtain ⟨d0, d1, d2, d3, d4⟩ := five kc.out
    have dl := lt_blk kc.out
    have Q2 := Lib.hid (bl_tr hb2 (by repeat (with_reducible first | exact Q1.out | apply bl_alloc)))
    clear hb2
    go_wp2_with fail
    refine (specText_any _ _ _ _ _ _).mono ?_
    rintro e w3 ⟨rfl, hb3⟩
    clear d0 d1 d2 d3 d4
    have kn := Lib.hid (bl_keep hb3 kc.out)
    obtain ⟨e0, e1, e2, e3, e4⟩ := five kn.out
    have Q3 := Lib.hid (bl_tr hb3 (by repeat (with_reducible first | exact Q2.out | apply bl_alloc)))
    clear hb3
    cases hv : iv op rd rs rt imm with
    | false =>
      rw [textV_no hv]
      have x0 := strL_nil
      go_wp2
      go_ret
      exact ⟨rfl, Q3.out⟩
    | true =>
      rw [textV_yes hv]
      have hV := iv_iff.1 hv
      obtain ⟨s0, s1, s2⟩ := text_facts hV
      have s4 : 0 < (strL (textL op rd rs rt imm)).size := by
        obtain ⟨t, e, _⟩ := text_split op rd rs rt imm
        have := text_pos hV
        rw [strL_size]; exact this
      generalize strL (textL op rd rs rt imm) = s at *
      have c1 : ∀ W : World, Calls Tryd.prog 25 #[.agg #[.int .i64 op, .int .i64 rd, .int .i64 rs, .int .i64 rt, .int .i64 imm]] W fun e w' => e = .returned (.bool true) ∧ Below W.heap.size W w' := fun W => by
        have := instrValid_any op rd rs rt imm W
        rwa [hv] at this
      clear hV hv
      have x1 : s.toList.isEmpty = false := s0
      have x2 : ¬ (s.toList = []) := by intro h; rw [h] at x1; cases x1
      have s3 : 0 < s.size := s4
      obtain ⟨b0, b1⟩ := s2 s3
      clear s2 s4
      go_wp2_with (go_at_call 25; fail)
      refine (c1 _).mono ?_
      rintro e w5 ⟨rfl, hb5⟩
      have Q5 := Lib.hid (bl_tr hb5 (by repeat (with_reducible first | exact Q3.out | apply bl_alloc | apply bl_drewN | apply bl_drew)))
      clear hb5 c1
      go_wp2
      go_ret
      exact ⟨ret_bool (decide_eq_true (by omega)), by repeat (with_reducible first | exact Q5.out | apply bl_alloc | apply bl_drewN | apply bl_drew)⟩
end Go.Proofs.YthmfkdlncnjjoaaDoor
