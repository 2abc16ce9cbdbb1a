/- The walk of FnEncode: it returns true. -/
import Derived.Test.YthmfkdlncnjjoaaDoorLg
import Derived.Test.YthmfkdlncnjjoaaDoorDx
import Derived.Test.YthmfkdlncnjjoaaDoorEx
import Derived.Outline
namespace Go.Proofs.YthmfkdlncnjjoaaDoor
open Go.RowKit IM
set_option linter.unusedSimpArgs false
set_option linter.unusedVariables false
set_option maxRecDepth 100000 in
set_option maxHeartbeats 2000000 in
theorem encode_walk (A : Option Addr) (n c : Nat) (bs : List Int) (w : World) (h : Bytes w A n bs) (hc : n ≤ c) (hn : n ≤ 9223372036854775807) (hT : Tab w) :
    Calls Tryd.prog 8 #[.slice A n c] w (Ret1 w) := by
  have HT := Lib.hid hT
  clear hT
  by_cases hl : 1048576 < n
  · go_enter Tryd.func8, Tryd.ntmps8
    go_wp2
    go_ret
    exact ⟨rfl, by repeat (first | (with_reducible exact Below.refl _ _) | (with_reducible apply bl_alloc) | (with_reducible apply bl_drewN) | (with_reducible apply bl_drew))⟩
  · go_enter Tryd.func8, Tryd.ntmps8
    go_wp2_with fail
    refine (drawEncode_any A n c bs _ (by repeat (with_reducible first | exact h | apply Bytes.alloc)) hc hn).mono ?_
    rintro e w1 ⟨op, rd, rs, rt, imm, rfl, hb1⟩
    have Q1 := Lib.hid (bl_tr hb1 (by repeat (with_reducible first | exact Below.refl _ _ | apply bl_alloc) : Below w.heap.size w _))
    clear hb1
    go_wp2_with fail
    refine (instrEncode_v _ _ _ _ _ _ (HT.out.below (by repeat (with_reducible first | exact Q1.out | apply bl_alloc)))).mono ?_
    rintro e w2 ⟨rfl, hb2⟩
    have kc := Lib.hid (bl_keep hb2 (new_blk w1 _))
    obtain ⟨d0, d1, d2, d3, d4⟩ := five kc.out
    have dl := lt_blk kc.out
    have Q2 := Lib.hid (bl_tr hb2 (by repeat (with_reducible first | exact Q1.out | apply bl_alloc)))
    clear hb2
    go_wp2_with fail
    refine (specEncode_v _ _ _ _ _ _).mono ?_
    rintro e w3 ⟨rfl, hb3⟩
    clear d0 d1 d2 d3 d4
    have kn := Lib.hid (bl_keep hb3 kc.out)
    obtain ⟨e0, e1, e2, e3, e4⟩ := five kn.out
    have Q3 := Lib.hid (bl_tr hb3 (by repeat (with_reducible first | exact Q2.out | apply bl_alloc)))
    clear hb3
    have h2 : (iv op rd rs rt imm != iv op rd rs rt imm) = false := by simp
    have h3 : (iv op rd rs rt imm == iv op rd rs rt imm) = true := by simp
    have h4 : (encV op rd rs rt imm != encV op rd rs rt imm) = false := by simp
    have h5 : (encV op rd rs rt imm == encV op rd rs rt imm) = true := by simp
    cases hv : iv op rd rs rt imm with
    | false =>
      rw [hv] at h2 h3
      generalize encV op rd rs rt imm = r at *
      go_wp2
      go_ret
      exact ⟨rfl, Q3.out⟩
    | true =>
      rw [hv] at h2 h3
      have hV := iv_iff.1 hv
      rw [encV_yes hv] at *
      have er := E_range hV
      have de := dec_E hV
      have hH : Hit (E op rd rs rt imm) op := ⟨hV.split.1, hV.split.2, er.1, er.2, by rw [de.1, de.2.1, de.2.2.1, de.2.2.2]⟩
      have c1 : ∀ W : World, Tab W → Calls Tryd.prog 20 #[.int .i64 (E op rd rs rt imm)] W fun e w' => e = .returned (.tuple #[.agg #[.int .i64 op, .int .i64 rd, .int .i64 rs, .int .i64 rt, .int .i64 imm], .bool true]) ∧ Below W.heap.size W w' := fun W hT => by
        have := instrDecode_yes W hT hH
        unfold DecYes at this
        rwa [de.1, de.2.1, de.2.2.1, de.2.2.2] at this
      have er2 : E op rd rs rt imm ≤ 4294967295 := by omega
      have er1 := er.1
      have r1 : (op == op) = true := by simp
      have r2 : (rd == rd) = true := by simp
      have r3 : (rs == rs) = true := by simp
      have r4 : (rt == rt) = true := by simp
      have r5 : (imm == imm) = true := by simp
      clear hH de hV er
      generalize E op rd rs rt imm = r at *
      go_wp2_with (go_at_call 20; fail)
      refine (c1 _ (HT.out.below (by repeat (with_reducible first | exact Q3.out | apply bl_alloc)))).mono ?_
      rintro e w4 ⟨rfl, hb4⟩
      have k4 := Lib.hid (bl_keep hb4 kn.out)
      clear e0 e1 e2 e3 e4
      obtain ⟨e0, e1, e2, e3, e4⟩ := five k4.out
      have l4 := lt_blk k4.out
      have Q4 := Lib.hid (bl_tr hb4 (by repeat (with_reducible first | exact Q3.out | apply bl_alloc)))
      clear hb4 c1
      go_wp2
      go_outline
      go_ret
      exact ⟨rfl, by repeat (with_reducible first | exact Q4.out | apply bl_alloc | apply bl_drewN | apply bl_drew)⟩
end Go.Proofs.YthmfkdlncnjjoaaDoor
