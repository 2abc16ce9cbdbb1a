/- The walk of FnInstrTextOther: it returns true. -/
import Derived.Test.YthmfkdlncnjjoaaDoorLu
import Derived.Test.YthmfkdlncnjjoaaDoorTq
import Derived.LoopTactic
import Derived.Deep.RegionHeld3
import Derived.Outline
namespace Go.Proofs.YthmfkdlncnjjoaaDoor
open Go.RowKit IM
set_option linter.unusedSimpArgs false
set_option linter.unusedVariables false
theorem toList_ne {t s : ByteArray} (h : ¬ (t = s)) : (t.toList == s.toList) = false := by
  rw [beq_eq_false_iff_ne]
  intro e
  rw [ByteArray.toList_eq, ByteArray.toList_eq] at e
  exact h (ByteArray.ext (Array.toList_inj.1 e))
theorem cell_blk {w : World} {b T : Nat} {cs : Array Value} (h : w.heap[b]? = some (.cells cs T (0, 0))) (i : Nat) (v : Value) (hv : cs[i]? = some v) : w.cell? ⟨b, i, none⟩ = some v := by
  unfold World.cell?
  rw [h]
  exact hv
set_option maxRecDepth 100000 in
set_option maxHeartbeats 2000000 in
theorem instrTextOther_walk (A A2 : Option Addr) (n c n2 c2 : Nat) (bs : List Int) (w : World) (h : Bytes w A n bs) (hc : n ≤ c) (hn : n ≤ 9223372036854775807) (hn2 : n2 ≤ 9223372036854775807) (hT : Tab w) (hP : TabQ w) :
    Calls Tryd.prog 13 #[.slice A n c, .slice A2 n2 c2] w (Ret1 w) := by
  have HT := Lib.hid hT
  have HP := Lib.hid hP
  clear hT hP
  by_cases hl : 1048576 < n ∨ 1048576 < n2
  · by_cases hl1 : 1048576 < n
    · go_enter Tryd.func13, Tryd.ntmps13
      go_wp2
      go_ret
      exact ⟨rfl, by repeat (first | (with_reducible exact Below.refl _ _) | (with_reducible apply bl_alloc) | (with_reducible apply bl_drewN) | (with_reducible apply bl_drew))⟩
    have hl2 : 1048576 < n2 := by omega
    clear hl
    go_enter Tryd.func13, Tryd.ntmps13
    go_wp2
    go_ret
    exact ⟨rfl, by repeat (first | (with_reducible exact Below.refl _ _) | (with_reducible apply bl_alloc) | (with_reducible apply bl_drewN) | (with_reducible apply bl_drew))⟩
  · have hl1 : ¬ 1048576 < n := by omega
    have hl2 : ¬ 1048576 < n2 := by omega
    clear hl
    go_enter Tryd.func13, Tryd.ntmps13
    go_wp2_with fail
    refine (drawText_any A n c bs _ (by repeat (with_reducible first | exact h | apply Bytes.alloc)) hc hn).mono ?_
    rintro e w1 ⟨op, rd, rs, rt, imm, rfl, hb1⟩
    have Q1 := Lib.hid (bl_tr hb1 (by repeat (with_reducible first | exact Below.refl _ _ | apply bl_alloc) : Below w.heap.size w _))
    clear hb1
    go_wp2_with fail
    refine (instrText_any _ _ _ _ _ _ (HT.out.below (by repeat (with_reducible first | exact Q1.out | apply bl_alloc))) (HP.out.below (by repeat (with_reducible first | exact Q1.out | apply bl_alloc)))).mono ?_
    rintro e w2 ⟨rfl, hb2⟩
    have kc := Lib.hid (bl_keep hb2 (new_blk w1 _))
    obtain ⟨d0, d1, d2, d3, d4⟩ := five kc.out
    have dl := lt_blk kc.out
    have Q2 := Lib.hid (bl_tr hb2 (by repeat (with_reducible first | exact Q1.out | apply bl_alloc)))
    clear hb2
    go_wp2_with fail
    refine (specText_any _ _ _ _ _ _).mono ?_
    rintro e w3 ⟨rfl, hb3⟩
    clear d0 d1 d2 d3 d4
    have kn := Lib.hid (bl_keep hb3 kc.out)
    obtain ⟨e0, e1, e2, e3, e4⟩ := five kn.out
    have Q3 := Lib.hid (bl_tr hb3 (by repeat (with_reducible first | exact Q2.out | apply bl_alloc)))
    clear hb3
    cases hv : iv op rd rs rt imm with
    | false =>
      rw [textV_no hv]
      have x0 := strL_nil
      go_wp2
      go_ret
      exact ⟨rfl, Q3.out⟩
    | true =>
      rw [textV_yes hv]
      have hV := iv_iff.1 hv
      obtain ⟨s0, s1, s2⟩ := text_facts hV
      have bd : 0 ≤ rd ∧ rd < 32 ∧ 0 ≤ rs ∧ rs < 32 ∧ 0 ≤ rt ∧ rt < 32 ∧ 1 ≤ op ∧ op ≤ 21 ∧ -1048576 ≤ imm ∧ imm ≤ 1048575 := by unfold IV reg at hV; omega
      have HV := Lib.hid hV
      generalize hs : strL (textL op rd rs rt imm) = s at *
      have HS := Lib.hid hs
      clear hV hv s1 s2 hs
      obtain ⟨b0, b1, b2, b3, b4, b5, b6, b7, b8, b9⟩ := bd
      have kl := lt_blk kn.out
      go_wp2
      have r0 : (rd + (1 + (n2 : Int) % 31)) % 32 ≠ rd := by omega
      have r1 : (rs + (1 + (n2 : Int) % 31)) % 32 ≠ rs := by omega
      have r2 : (rt + (1 + (n2 : Int) % 31)) % 32 ≠ rt := by omega
      have r3 : imm + 2 * (1 + (n2 : Int) % 31) ≠ imm := by omega
      have r4 : 1 + (op - 1 + (1 + (n2 : Int) % 31) % 20 + 1) % 21 ≠ op := by omega
      have r5 : 1 ≤ 1 + (op - 1 + (1 + (n2 : Int) % 31) % 20 + 1) % 21 ∧ 1 + (op - 1 + (1 + (n2 : Int) % 31) % 20 + 1) % 21 ≤ 21 := by omega
      generalize (rd + (1 + (n2 : Int) % 31)) % 32 = rd2 at *
      generalize (rs + (1 + (n2 : Int) % 31)) % 32 = rs2 at *
      generalize (rt + (1 + (n2 : Int) % 31)) % 32 = rt2 at *
      generalize imm + 2 * (1 + (n2 : Int) % 31) = im2 at *
      generalize 1 + (op - 1 + (1 + (n2 : Int) % 31) % 20 + 1) % 21 = op2 at *
      have T0 := Lib.hid (strL_ne (textV_ne (op' := op) (rd' := rd2) (rs' := rs) (rt' := rt) (imm' := imm) HV.out (fun h2 e => r0 (text_rd h2 HV.out e))))
      have T1 := Lib.hid (strL_ne (textV_ne (op' := op) (rd' := rd) (rs' := rs2) (rt' := rt) (imm' := imm) HV.out (fun h2 e => r1 (text_rs h2 HV.out e))))
      have T2 := Lib.hid (strL_ne (textV_ne (op' := op) (rd' := rd) (rs' := rs) (rt' := rt2) (imm' := imm) HV.out (fun h2 e => r2 (text_rt h2 HV.out e))))
      have T3 := Lib.hid (strL_ne (textV_ne (op' := op) (rd' := rd) (rs' := rs) (rt' := rt) (imm' := im2) HV.out (fun h2 e => r3 (text_imm h2 HV.out e))))
      have T4 := Lib.hid (strL_ne (textV_ne (op' := op2) (rd' := rd) (rs' := rs) (rt' := rt) (imm' := imm) HV.out (fun h2 e => r4 (text_op r5.1 r5.2 b6 b7 e))))
      have LB := Lib.hid (new_blk w3 (.cells #[.int .i64 op, .int .i64 rd2, .int .i64 rs, .int .i64 rt, .int .i64 imm, .int .i64 op, .int .i64 rd, .int .i64 rs2, .int .i64 rt, .int .i64 imm, .int .i64 op, .int .i64 rd, .int .i64 rs, .int .i64 rt2, .int .i64 imm, .int .i64 op, .int .i64 rd, .int .i64 rs, .int .i64 rt, .int .i64 im2, .int .i64 op2, .int .i64 rd, .int .i64 rs, .int .i64 rt, .int .i64 imm] 26))
      have q0 : (rd2 == rd) = false := by simp; exact r0
      have q1 : (rs2 == rs) = false := by simp; exact r1
      have q2 : (rt2 == rt) = false := by simp; exact r2
      have q3 : (im2 == imm) = false := by simp; exact r3
      have q4 : (op2 == op) = false := by simp; exact r4
      clear r0 r1 r2 r3 r4 r5
      go_loopw [10] (fun o wr => ∃ k : Nat, k ≤ 5 ∧ o = .int .i64 k ∧ Hid (Below w.heap.size w wr) ∧ Hid (wr.heap[w3.heap.size]? = some (.cells #[.int .i64 op, .int .i64 rd2, .int .i64 rs, .int .i64 rt, .int .i64 imm, .int .i64 op, .int .i64 rd, .int .i64 rs2, .int .i64 rt, .int .i64 imm, .int .i64 op, .int .i64 rd, .int .i64 rs, .int .i64 rt2, .int .i64 imm, .int .i64 op, .int .i64 rd, .int .i64 rs, .int .i64 rt, .int .i64 im2, .int .i64 op2, .int .i64 rd, .int .i64 rs, .int .i64 rt, .int .i64 imm] 26)) ∧ Hid (wr.heap[w1.heap.size]? = some (.cells #[.int .i64 op, .int .i64 rd, .int .i64 rs, .int .i64 rt, .int .i64 imm] 26))) (fun o _ => 22 - (intOf o).toNat)
      case atStart => exact ⟨0, by omega, rfl, Lib.hid (bl_alloc Q3.out _), LB, Lib.hid (blk_alloc kn.out _)⟩
      case round =>
        obtain ⟨k, hk, rfl, hB, hL, hI⟩ := hrel
        clear e0 e1 e2 e3 e4
        have e0 := five hI.out
        obtain ⟨e0, e1, e2, e3, e4⟩ := e0
        rcases (by omega : k = 0 ∨ k = 1 ∨ k = 2 ∨ k = 3 ∨ k = 4 ∨ k = 5) with rfl | rfl | rfl | rfl | rfl | rfl
        · have l0 := cell_blk hL.out 0 _ rfl
          have l1 := cell_blk hL.out 1 _ rfl
          have l2 := cell_blk hL.out 2 _ rfl
          have l3 := cell_blk hL.out 3 _ rfl
          have l4 := cell_blk hL.out 4 _ rfl
          have hne : ¬ (strL (textV op rd2 rs rt imm) = s) := by rw [← HS.out]; exact T0.out
          have cT : ∀ W : World, Below wr.heap.size wr W → Calls Tryd.prog 23 #[.agg #[.int .i64 op, .int .i64 rd2, .int .i64 rs, .int .i64 rt, .int .i64 imm]] W fun e w' => e = .returned (.string (strL (textV op rd2 rs rt imm))) ∧ Below W.heap.size W w' := fun W hW => instrText_any _ _ _ _ _ W (HT.out.below (bl_tr hW hB.out)) (HP.out.below (bl_tr hW hB.out))
          generalize strL (textV op rd2 rs rt imm) = t at *
          have hd : (t.toList == s.toList) = false := toList_ne hne
          go_wp2
          go_region_held3 (fun w' => w'.cell? ⟨w3.heap.size, 0, none⟩ = some (.int .i64 op) ∧ w'.cell? ⟨w3.heap.size, 1, none⟩ = some (.int .i64 rd2) ∧ w'.cell? ⟨w3.heap.size, 2, none⟩ = some (.int .i64 rs) ∧ w'.cell? ⟨w3.heap.size, 3, none⟩ = some (.int .i64 rt) ∧ w'.cell? ⟨w3.heap.size, 4, none⟩ = some (.int .i64 imm) ∧ w'.cell? ⟨w1.heap.size, 0, none⟩ = some (.int .i64 op) ∧ w'.cell? ⟨w1.heap.size, 1, none⟩ = some (.int .i64 rd) ∧ w'.cell? ⟨w1.heap.size, 2, none⟩ = some (.int .i64 rs) ∧ w'.cell? ⟨w1.heap.size, 3, none⟩ = some (.int .i64 rt) ∧ w'.cell? ⟨w1.heap.size, 4, none⟩ = some (.int .i64 imm)) (first | (simp [*]; done) | (go_simp; done) | (refine ⟨?_, ?_, ?_, ?_, ?_, ?_, ?_, ?_, ?_, ?_⟩ <;> go_simp)) (first | (go_at_call 23; (with_reducible refine (cT _ (by repeat (with_reducible first | exact Below.refl _ _ | apply bl_drewN | apply bl_drew))).mono ?_); rintro e v5 ⟨rfl, hb⟩; have hL5 := bl_keep hb hL.out; have hI5 := bl_keep hb hI.out; obtain ⟨u0, u1, u2, u3, u4⟩ := five hI5; have v0 := cell_blk hL5 0 _ rfl; have v1 := cell_blk hL5 1 _ rfl; have v2 := cell_blk hL5 2 _ rfl; have v3 := cell_blk hL5 3 _ rfl; have v4 := cell_blk hL5 4 _ rfl; have HL5 := Lib.hid hL5; have HI5 := Lib.hid hI5; clear hL5 hI5; have Q5 : Hid (Below w.heap.size w v5) := Lib.hid (bl_tr hb (by repeat (with_reducible first | exact hB.out | apply bl_drewN | apply bl_drew))); clear hb))
          go_wp2
          go_roundw
          case rel => exact ⟨1, by omega, rfl, Lib.hid (by repeat (with_reducible first | exact Q5.out | apply bl_drewN | apply bl_drew)), HL5, HI5⟩
          case measure => simp [intOf]
        · have l0 := cell_blk hL.out 5 _ rfl
          have l1 := cell_blk hL.out 6 _ rfl
          have l2 := cell_blk hL.out 7 _ rfl
          have l3 := cell_blk hL.out 8 _ rfl
          have l4 := cell_blk hL.out 9 _ rfl
          have hne : ¬ (strL (textV op rd rs2 rt imm) = s) := by rw [← HS.out]; exact T1.out
          have cT : ∀ W : World, Below wr.heap.size wr W → Calls Tryd.prog 23 #[.agg #[.int .i64 op, .int .i64 rd, .int .i64 rs2, .int .i64 rt, .int .i64 imm]] W fun e w' => e = .returned (.string (strL (textV op rd rs2 rt imm))) ∧ Below W.heap.size W w' := fun W hW => instrText_any _ _ _ _ _ W (HT.out.below (bl_tr hW hB.out)) (HP.out.below (bl_tr hW hB.out))
          generalize strL (textV op rd rs2 rt imm) = t at *
          have hd : (t.toList == s.toList) = false := toList_ne hne
          go_wp2
          go_region_held3 (fun w' => w'.cell? ⟨w3.heap.size, 5, none⟩ = some (.int .i64 op) ∧ w'.cell? ⟨w3.heap.size, 6, none⟩ = some (.int .i64 rd) ∧ w'.cell? ⟨w3.heap.size, 7, none⟩ = some (.int .i64 rs2) ∧ w'.cell? ⟨w3.heap.size, 8, none⟩ = some (.int .i64 rt) ∧ w'.cell? ⟨w3.heap.size, 9, none⟩ = some (.int .i64 imm) ∧ w'.cell? ⟨w1.heap.size, 0, none⟩ = some (.int .i64 op) ∧ w'.cell? ⟨w1.heap.size, 1, none⟩ = some (.int .i64 rd) ∧ w'.cell? ⟨w1.heap.size, 2, none⟩ = some (.int .i64 rs) ∧ w'.cell? ⟨w1.heap.size, 3, none⟩ = some (.int .i64 rt) ∧ w'.cell? ⟨w1.heap.size, 4, none⟩ = some (.int .i64 imm)) (first | (simp [*]; done) | (go_simp; done) | (refine ⟨?_, ?_, ?_, ?_, ?_, ?_, ?_, ?_, ?_, ?_⟩ <;> go_simp)) (first | (go_at_call 23; (with_reducible refine (cT _ (by repeat (with_reducible first | exact Below.refl _ _ | apply bl_drewN | apply bl_drew))).mono ?_); rintro e v5 ⟨rfl, hb⟩; have hL5 := bl_keep hb hL.out; have hI5 := bl_keep hb hI.out; obtain ⟨u0, u1, u2, u3, u4⟩ := five hI5; have v0 := cell_blk hL5 5 _ rfl; have v1 := cell_blk hL5 6 _ rfl; have v2 := cell_blk hL5 7 _ rfl; have v3 := cell_blk hL5 8 _ rfl; have v4 := cell_blk hL5 9 _ rfl; have HL5 := Lib.hid hL5; have HI5 := Lib.hid hI5; clear hL5 hI5; have Q5 : Hid (Below w.heap.size w v5) := Lib.hid (bl_tr hb (by repeat (with_reducible first | exact hB.out | apply bl_drewN | apply bl_drew))); clear hb))
          go_wp2
          go_roundw
          case rel => exact ⟨2, by omega, rfl, Lib.hid (by repeat (with_reducible first | exact Q5.out | apply bl_drewN | apply bl_drew)), HL5, HI5⟩
          case measure => simp [intOf]
        · have l0 := cell_blk hL.out 10 _ rfl
          have l1 := cell_blk hL.out 11 _ rfl
          have l2 := cell_blk hL.out 12 _ rfl
          have l3 := cell_blk hL.out 13 _ rfl
          have l4 := cell_blk hL.out 14 _ rfl
          have hne : ¬ (strL (textV op rd rs rt2 imm) = s) := by rw [← HS.out]; exact T2.out
          have cT : ∀ W : World, Below wr.heap.size wr W → Calls Tryd.prog 23 #[.agg #[.int .i64 op, .int .i64 rd, .int .i64 rs, .int .i64 rt2, .int .i64 imm]] W fun e w' => e = .returned (.string (strL (textV op rd rs rt2 imm))) ∧ Below W.heap.size W w' := fun W hW => instrText_any _ _ _ _ _ W (HT.out.below (bl_tr hW hB.out)) (HP.out.below (bl_tr hW hB.out))
          generalize strL (textV op rd rs rt2 imm) = t at *
          have hd : (t.toList == s.toList) = false := toList_ne hne
          go_wp2
          go_region_held3 (fun w' => w'.cell? ⟨w3.heap.size, 10, none⟩ = some (.int .i64 op) ∧ w'.cell? ⟨w3.heap.size, 11, none⟩ = some (.int .i64 rd) ∧ w'.cell? ⟨w3.heap.size, 12, none⟩ = some (.int .i64 rs) ∧ w'.cell? ⟨w3.heap.size, 13, none⟩ = some (.int .i64 rt2) ∧ w'.cell? ⟨w3.heap.size, 14, none⟩ = some (.int .i64 imm) ∧ w'.cell? ⟨w1.heap.size, 0, none⟩ = some (.int .i64 op) ∧ w'.cell? ⟨w1.heap.size, 1, none⟩ = some (.int .i64 rd) ∧ w'.cell? ⟨w1.heap.size, 2, none⟩ = some (.int .i64 rs) ∧ w'.cell? ⟨w1.heap.size, 3, none⟩ = some (.int .i64 rt) ∧ w'.cell? ⟨w1.heap.size, 4, none⟩ = some (.int .i64 imm)) (first | (simp [*]; done) | (go_simp; done) | (refine ⟨?_, ?_, ?_, ?_, ?_, ?_, ?_, ?_, ?_, ?_⟩ <;> go_simp)) (first | (go_at_call 23; (with_reducible refine (cT _ (by repeat (with_reducible first | exact Below.refl _ _ | apply bl_drewN | apply bl_drew))).mono ?_); rintro e v5 ⟨rfl, hb⟩; have hL5 := bl_keep hb hL.out; have hI5 := bl_keep hb hI.out; obtain ⟨u0, u1, u2, u3, u4⟩ := five hI5; have v0 := cell_blk hL5 10 _ rfl; have v1 := cell_blk hL5 11 _ rfl; have v2 := cell_blk hL5 12 _ rfl; have v3 := cell_blk hL5 13 _ rfl; have v4 := cell_blk hL5 14 _ rfl; have HL5 := Lib.hid hL5; have HI5 := Lib.hid hI5; clear hL5 hI5; have Q5 : Hid (Below w.heap.size w v5) := Lib.hid (bl_tr hb (by repeat (with_reducible first | exact hB.out | apply bl_drewN | apply bl_drew))); clear hb))
          go_wp2
          go_roundw
          case rel => exact ⟨3, by omega, rfl, Lib.hid (by repeat (with_reducible first | exact Q5.out | apply bl_drewN | apply bl_drew)), HL5, HI5⟩
          case measure => simp [intOf]
        · have l0 := cell_blk hL.out 15 _ rfl
          have l1 := cell_blk hL.out 16 _ rfl
          have l2 := cell_blk hL.out 17 _ rfl
          have l3 := cell_blk hL.out 18 _ rfl
          have l4 := cell_blk hL.out 19 _ rfl
          have hne : ¬ (strL (textV op rd rs rt im2) = s) := by rw [← HS.out]; exact T3.out
          have cT : ∀ W : World, Below wr.heap.size wr W → Calls Tryd.prog 23 #[.agg #[.int .i64 op, .int .i64 rd, .int .i64 rs, .int .i64 rt, .int .i64 im2]] W fun e w' => e = .returned (.string (strL (textV op rd rs rt im2))) ∧ Below W.heap.size W w' := fun W hW => instrText_any _ _ _ _ _ W (HT.out.below (bl_tr hW hB.out)) (HP.out.below (bl_tr hW hB.out))
          generalize strL (textV op rd rs rt im2) = t at *
          have hd : (t.toList == s.toList) = false := toList_ne hne
          go_wp2
          go_region_held3 (fun w' => w'.cell? ⟨w3.heap.size, 15, none⟩ = some (.int .i64 op) ∧ w'.cell? ⟨w3.heap.size, 16, none⟩ = some (.int .i64 rd) ∧ w'.cell? ⟨w3.heap.size, 17, none⟩ = some (.int .i64 rs) ∧ w'.cell? ⟨w3.heap.size, 18, none⟩ = some (.int .i64 rt) ∧ w'.cell? ⟨w3.heap.size, 19, none⟩ = some (.int .i64 im2) ∧ w'.cell? ⟨w1.heap.size, 0, none⟩ = some (.int .i64 op) ∧ w'.cell? ⟨w1.heap.size, 1, none⟩ = some (.int .i64 rd) ∧ w'.cell? ⟨w1.heap.size, 2, none⟩ = some (.int .i64 rs) ∧ w'.cell? ⟨w1.heap.size, 3, none⟩ = some (.int .i64 rt) ∧ w'.cell? ⟨w1.heap.size, 4, none⟩ = some (.int .i64 imm)) (first | (simp [*]; done) | (go_simp; done) | (refine ⟨?_, ?_, ?_, ?_, ?_, ?_, ?_, ?_, ?_, ?_⟩ <;> go_simp)) (first | (go_at_call 23; (with_reducible refine (cT _ (by repeat (with_reducible first | exact Below.refl _ _ | apply bl_drewN | apply bl_drew))).mono ?_); rintro e v5 ⟨rfl, hb⟩; have hL5 := bl_keep hb hL.out; have hI5 := bl_keep hb hI.out; obtain ⟨u0, u1, u2, u3, u4⟩ := five hI5; have v0 := cell_blk hL5 15 _ rfl; have v1 := cell_blk hL5 16 _ rfl; have v2 := cell_blk hL5 17 _ rfl; have v3 := cell_blk hL5 18 _ rfl; have v4 := cell_blk hL5 19 _ rfl; have HL5 := Lib.hid hL5; have HI5 := Lib.hid hI5; clear hL5 hI5; have Q5 : Hid (Below w.heap.size w v5) := Lib.hid (bl_tr hb (by repeat (with_reducible first | exact hB.out | apply bl_drewN | apply bl_drew))); clear hb))
          go_wp2
          go_roundw
          case rel => exact ⟨4, by omega, rfl, Lib.hid (by repeat (with_reducible first | exact Q5.out | apply bl_drewN | apply bl_drew)), HL5, HI5⟩
          case measure => simp [intOf]
        · have l0 := cell_blk hL.out 20 _ rfl
          have l1 := cell_blk hL.out 21 _ rfl
          have l2 := cell_blk hL.out 22 _ rfl
          have l3 := cell_blk hL.out 23 _ rfl
          have l4 := cell_blk hL.out 24 _ rfl
          have hne : ¬ (strL (textV op2 rd rs rt imm) = s) := by rw [← HS.out]; exact T4.out
          have cT : ∀ W : World, Below wr.heap.size wr W → Calls Tryd.prog 23 #[.agg #[.int .i64 op2, .int .i64 rd, .int .i64 rs, .int .i64 rt, .int .i64 imm]] W fun e w' => e = .returned (.string (strL (textV op2 rd rs rt imm))) ∧ Below W.heap.size W w' := fun W hW => instrText_any _ _ _ _ _ W (HT.out.below (bl_tr hW hB.out)) (HP.out.below (bl_tr hW hB.out))
          generalize strL (textV op2 rd rs rt imm) = t at *
          have hd : (t.toList == s.toList) = false := toList_ne hne
          go_wp2
          go_region_held3 (fun w' => w'.cell? ⟨w3.heap.size, 20, none⟩ = some (.int .i64 op2) ∧ w'.cell? ⟨w3.heap.size, 21, none⟩ = some (.int .i64 rd) ∧ w'.cell? ⟨w3.heap.size, 22, none⟩ = some (.int .i64 rs) ∧ w'.cell? ⟨w3.heap.size, 23, none⟩ = some (.int .i64 rt) ∧ w'.cell? ⟨w3.heap.size, 24, none⟩ = some (.int .i64 imm) ∧ w'.cell? ⟨w1.heap.size, 0, none⟩ = some (.int .i64 op) ∧ w'.cell? ⟨w1.heap.size, 1, none⟩ = some (.int .i64 rd) ∧ w'.cell? ⟨w1.heap.size, 2, none⟩ = some (.int .i64 rs) ∧ w'.cell? ⟨w1.heap.size, 3, none⟩ = some (.int .i64 rt) ∧ w'.cell? ⟨w1.heap.size, 4, none⟩ = some (.int .i64 imm)) (first | (simp [*]; done) | (go_simp; done) | (refine ⟨?_, ?_, ?_, ?_, ?_, ?_, ?_, ?_, ?_, ?_⟩ <;> go_simp)) (first | (go_at_call 23; (with_reducible refine (cT _ (by repeat (with_reducible first | exact Below.refl _ _ | apply bl_drewN | apply bl_drew))).mono ?_); rintro e v5 ⟨rfl, hb⟩; have hL5 := bl_keep hb hL.out; have hI5 := bl_keep hb hI.out; obtain ⟨u0, u1, u2, u3, u4⟩ := five hI5; have v0 := cell_blk hL5 20 _ rfl; have v1 := cell_blk hL5 21 _ rfl; have v2 := cell_blk hL5 22 _ rfl; have v3 := cell_blk hL5 23 _ rfl; have v4 := cell_blk hL5 24 _ rfl; have HL5 := Lib.hid hL5; have HI5 := Lib.hid hI5; clear hL5 hI5; have Q5 : Hid (Below w.heap.size w v5) := Lib.hid (bl_tr hb (by repeat (with_reducible first | exact hB.out | apply bl_drewN | apply bl_drew))); clear hb))
          go_wp2
          go_roundw
          case rel => exact ⟨5, by omega, rfl, Lib.hid (by repeat (with_reducible first | exact Q5.out | apply bl_drewN | apply bl_drew)), HL5, HI5⟩
          case measure => simp [intOf]
        · go_wp2
          go_ret
          exact ⟨rfl, hB.out⟩
end Go.Proofs.YthmfkdlncnjjoaaDoor
