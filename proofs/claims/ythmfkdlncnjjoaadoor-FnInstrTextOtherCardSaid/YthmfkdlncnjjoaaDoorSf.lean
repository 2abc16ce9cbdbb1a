/- The walks of the reference's encoder, continued: branches, jumps, l42Encode, InstrEncode. -/
import Derived.Test.YthmfkdlncnjjoaaDoorSe
namespace Go.Proofs.YthmfkdlncnjjoaaDoor
open Go.RowKit IM
set_option linter.unusedVariables false
set_option linter.unusedSimpArgs false
set_option maxRecDepth 100000 in
set_option maxHeartbeats 1000000 in
theorem l42Branch_any (op rd rs rt imm : Int) (w : World) (h0 : 1 ≤ op) (h1 : op ≤ 21) (a0 : 0 ≤ rt) (a1 : rt < 32) (b0 : 0 ≤ rs) (b1 : rs < 32) (i0 : -4096 ≤ imm) (i1 : imm ≤ 4094) :
    Calls Tryd.prog 58 #[.agg #[.int .i64 op, .int .i64 rd, .int .i64 rs, .int .i64 rt, .int .i64 imm]] w fun e w' => e = .returned (.int .i64 (imm % 8192 / 4096 * 2147483648 + imm % 2048 / 32 * 33554432 + rt * 1048576 + rs * 32768 + f3 op * 4096 + imm % 32 / 2 * 256 + imm % 4096 / 2048 * 128 + 99)) ∧ Below w.heap.size w w' := by
  obtain ⟨q0, q1⟩ := f3_bd op
  have kc := Lib.hid (new_blk w (.cells #[.int .i64 op, .int .i64 rd, .int .i64 rs, .int .i64 rt, .int .i64 imm] 26))
  have Q := Lib.hid (bl_alloc (Below.refl w.heap.size w) (.cells #[.int .i64 op, .int .i64 rd, .int .i64 rs, .int .i64 rt, .int .i64 imm] 26))
  go_enter Tryd.func58, Tryd.ntmps58
  go_wp2_with (go_at_call 54; (with_reducible refine (l42Mod_any _ _ _ (by omega) (by omega) (by omega)).mono ?_); rintro e w' ⟨rfl, rfl⟩)
  have m0 : 0 ≤ imm % 8192 := by omega
  have m1 : imm % 8192 < 8192 := by omega
  have c1 := fun W => sb12_1 (imm % 8192) W m0 (by omega)
  have c2 := fun W => sb5_6 (imm % 8192) W m0 (by omega)
  have c3 := fun W => put31 (imm % 8192 / 4096 % 2) W (by omega) (by omega)
  have c4 := fun W => put25 (imm % 8192 / 32 % 64) W (by omega) (by omega)
  have c5 := fun W => put20 rt W (by omega) (by omega)
  go_quiet ((first | (go_at_call 56; with_reducible exact Calls.quiet_of (c1 _)) | (go_at_call 56; with_reducible exact Calls.quiet_of (c2 _)) | (go_at_call 55; with_reducible exact q_of (c3 _)) | (go_at_call 55; with_reducible exact q_of (c4 _)) | (go_at_call 55; with_reducible exact q_of (c5 _))))
  have d1 := fun W => sb1_4 (imm % 8192) W m0 (by omega)
  have d2 := fun W => sb11_1 (imm % 8192) W m0 (by omega)
  have d3 := fun W => put8 (imm % 8192 / 2 % 16) W (by omega) (by omega)
  have d4 := fun W => put7 (imm % 8192 / 2048 % 2) W (by omega) (by omega)
  have d5 := fun W => l42Mid_any op rd rs rt imm 99 W h0 h1 b0 b1 (by omega) (by omega)
  go_wp2_with (first | (go_at_call 56; (with_reducible refine (d1 _).mono ?_); rintro e w' ⟨rfl, nq, rfl⟩) | (go_at_call 56; (with_reducible refine (d2 _).mono ?_); rintro e w' ⟨rfl, nq, rfl⟩) | (go_at_call 55; (with_reducible refine (d3 _).mono ?_); rintro e w' ⟨rfl, rfl⟩) | (go_at_call 55; (with_reducible refine (d4 _).mono ?_); rintro e w' ⟨rfl, rfl⟩) | (go_at_call 57; (with_reducible refine (d5 _).mono ?_); rintro e w1 ⟨rfl, hb⟩; obtain ⟨u0, u1, u2, u3, u4⟩ := five (bl_keep hb kc.out); have Qn := Lib.hid (bl_tr hb (by repeat (with_reducible first | exact Q.out | apply bl_drewN | apply bl_drew)))))
  go_ret
  refine ⟨ret_int ?_, by repeat (with_reducible first | exact Qn.out | apply bl_drewN | apply bl_drew)⟩
  clear c1 c2 c3 c4 c5 d1 d2 d3 d4 d5
  try simp only [IntKind.wrap_i64]
  try unfold wrap64
  omega
set_option maxRecDepth 100000 in
set_option maxHeartbeats 1000000 in
theorem l42Jump_any (op rd rs rt imm : Int) (w : World) (h0 : 1 ≤ op) (h1 : op ≤ 21) (a0 : 0 ≤ rd) (a1 : rd < 32) (i0 : -1048576 ≤ imm) (i1 : imm ≤ 1048574) :
    Calls Tryd.prog 59 #[.agg #[.int .i64 op, .int .i64 rd, .int .i64 rs, .int .i64 rt, .int .i64 imm]] w fun e w' => e = .returned (.int .i64 (imm % 2097152 / 1048576 * 2147483648 + imm % 2048 / 2 * 2097152 + imm % 4096 / 2048 * 1048576 + imm % 1048576 / 4096 * 4096 + rd * 128 + 111)) ∧ Below w.heap.size w w' := by
  obtain ⟨q0, q1⟩ := f3_bd op
  have kc := Lib.hid (new_blk w (.cells #[.int .i64 op, .int .i64 rd, .int .i64 rs, .int .i64 rt, .int .i64 imm] 26))
  have Q := Lib.hid (bl_alloc (Below.refl w.heap.size w) (.cells #[.int .i64 op, .int .i64 rd, .int .i64 rs, .int .i64 rt, .int .i64 imm] 26))
  go_enter Tryd.func59, Tryd.ntmps59
  go_wp2_with (first | (go_at_call 54; (with_reducible refine (l42Mod_any _ _ _ (by omega) (by omega) (by omega)).mono ?_); rintro e w' ⟨rfl, rfl⟩) | (go_at_call 55; (with_reducible refine (put31 _ _ (by omega) (by omega)).mono ?_); rintro e w' ⟨rfl, rfl⟩) | (go_at_call 55; (with_reducible refine (put21 _ _ (by omega) (by omega)).mono ?_); rintro e w' ⟨rfl, rfl⟩) | (go_at_call 55; (with_reducible refine (put20 _ _ (by omega) (by omega)).mono ?_); rintro e w' ⟨rfl, rfl⟩) | (go_at_call 55; (with_reducible refine (put12 _ _ (by omega) (by omega)).mono ?_); rintro e w' ⟨rfl, rfl⟩) | (go_at_call 55; (with_reducible refine (put7 _ _ (by omega) (by omega)).mono ?_); rintro e w' ⟨rfl, rfl⟩) | (go_at_call 56; (with_reducible refine (sb20_1 _ _ (by omega) (by omega)).mono ?_); rintro e w' ⟨rfl, nq, rfl⟩) | (go_at_call 56; (with_reducible refine (sb1_10 _ _ (by omega) (by omega)).mono ?_); rintro e w' ⟨rfl, nq, rfl⟩) | (go_at_call 56; (with_reducible refine (sb11_1 _ _ (by omega) (by omega)).mono ?_); rintro e w' ⟨rfl, nq, rfl⟩) | (go_at_call 56; (with_reducible refine (sb12_8 _ _ (by omega) (by omega)).mono ?_); rintro e w' ⟨rfl, nq, rfl⟩))
  have m0 : 0 ≤ imm % 2097152 := by omega
  have m1 : imm % 2097152 < 2097152 := by omega
  have g0 : 0 ≤ imm % 2097152 / 1048576 % 2 * 2147483648 + imm % 2097152 / 2 % 1024 * 2097152 + imm % 2097152 / 2048 % 2 * 1048576 := by omega
  have g1 : imm % 2097152 / 1048576 % 2 * 2147483648 + imm % 2097152 / 2 % 1024 * 2097152 + imm % 2097152 / 2048 % 2 * 1048576 ≤ 8589934592 := by omega
  generalize hH : imm % 2097152 / 1048576 % 2 * 2147483648 + imm % 2097152 / 2 % 1024 * 2097152 + imm % 2097152 / 2048 % 2 * 1048576 = H at *
  have GH := Lib.hid hH
  clear hH
  have c1 := fun W => sb12_8 (imm % 2097152) W m0 (by omega)
  have c3 := fun W => put12 (imm % 2097152 / 4096 % 256) W (by omega) (by omega)
  have c5 := fun W => put7 rd W (by omega) (by omega)
  go_quiet ((first | (go_at_call 56; with_reducible exact qa_of (c1 _)) | (go_at_call 55; with_reducible exact qa_same (c3 _)) | (go_at_call 55; with_reducible exact qa_same (c5 _))))
  go_wp2
  go_ret
  refine ⟨ret_int ?_, by repeat (with_reducible first | exact Q.out | apply bl_drewN | apply bl_drew)⟩
  rw [← GH.out]
  clear c1 c3 c5
  try simp only [IntKind.wrap_i64]
  try unfold wrap64
  omega
set_option maxRecDepth 100000 in
set_option maxHeartbeats 4000000 in
theorem l42Encode_any (op rd rs rt imm : Int) (w : World) (hV : IV op rd rs rt imm) :
    Calls Tryd.prog 28 #[.agg #[.int .i64 op, .int .i64 rd, .int .i64 rs, .int .i64 rt, .int .i64 imm]] w fun e w' => e = .returned (.int .i64 (E op rd rs rt imm)) ∧ Below w.heap.size w w' := by
  obtain ⟨q0, q1⟩ := f3_bd op
  obtain ⟨r0, r1⟩ := f7_bd op
  have kc := Lib.hid (new_blk w (.cells #[.int .i64 op, .int .i64 rd, .int .i64 rs, .int .i64 rt, .int .i64 imm] 26))
  have Q := Lib.hid (bl_alloc (Below.refl w.heap.size w) (.cells #[.int .i64 op, .int .i64 rd, .int .i64 rs, .int .i64 rt, .int .i64 imm] 26))
  rcases (by have := hV.split; omega : (1 ≤ op ∧ op ≤ 11) ∨ (12 ≤ op ∧ op ≤ 13) ∨ (14 ≤ op ∧ op ≤ 14) ∨ (15 ≤ op ∧ op ≤ 15) ∨ (16 ≤ op ∧ op ≤ 16) ∨ (17 ≤ op ∧ op ≤ 18) ∨ (19 ≤ op ∧ op ≤ 19) ∨ (20 ≤ op ∧ op ≤ 20) ∨ (21 ≤ op ∧ op ≤ 21)) with ⟨h0, h1⟩ | ⟨h0, h1⟩ | ⟨h0, h1⟩ | ⟨h0, h1⟩ | ⟨h0, h1⟩ | ⟨h0, h1⟩ | ⟨h0, h1⟩ | ⟨h0, h1⟩ | ⟨h0, h1⟩
  · have hr : reg rd ∧ reg rs ∧ reg rt ∧ imm = 0 := by unfold IV reg at hV; unfold reg; omega
    obtain ⟨⟨a0, a1⟩, ⟨b0, b1⟩, ⟨d0, d1⟩, rfl⟩ := hr
    clear hV
    have c1 := fun W => l42Seven_any op W h0 h1
    have c2 := fun W => put25 (f7 op) W (by omega) (by omega)
    have c3 := fun W => put20 rt W (by omega) (by omega)
    have c4 := fun W => l42Mid_any op rd rs rt 0 51 W (by omega) (by omega) b0 b1 (by omega) (by omega)
    have c5 := fun W => put7 rd W (by omega) (by omega)
    go_enter Tryd.func28, Tryd.ntmps28
    go_wp2
    go_region_held3 (fun w' => w'.cell? ⟨w.heap.size, 0, none⟩ = some (.int .i64 op) ∧ w'.cell? ⟨w.heap.size, 1, none⟩ = some (.int .i64 rd) ∧ w'.cell? ⟨w.heap.size, 2, none⟩ = some (.int .i64 rs) ∧ w'.cell? ⟨w.heap.size, 3, none⟩ = some (.int .i64 rt) ∧ w'.cell? ⟨w.heap.size, 4, none⟩ = some (.int .i64 0)) (first | (simp [*]; done) | (go_simp; done) | (refine ⟨?_, ?_, ?_, ?_, ?_⟩ <;> go_simp)) (first | (go_at_call 55; (with_reducible refine (c2 _).mono ?_); rintro e w' ⟨rfl, rfl⟩) | (go_at_call 55; (with_reducible refine (c3 _).mono ?_); rintro e w' ⟨rfl, rfl⟩) | (go_at_call 55; (with_reducible refine (c5 _).mono ?_); rintro e w' ⟨rfl, rfl⟩) | (go_at_call 60; (with_reducible refine (c1 _).mono ?_); rintro e w1 ⟨rfl, hb⟩; have kn := bl_keep hb kc.out; obtain ⟨u0, u1, u2, u3, u4⟩ := five kn; have Q1k := Lib.hid kn; clear kn; have Q1 := Lib.hid (bl_tr hb (by repeat (with_reducible first | exact Q.out | apply bl_drewN | apply bl_drew))); clear hb) | (go_at_call 57; (with_reducible refine (c4 _).mono ?_); rintro e w1 ⟨rfl, hb⟩; have kn := bl_keep hb Q1k.out; obtain ⟨u0, u1, u2, u3, u4⟩ := five kn; have Q2k := Lib.hid kn; clear kn; have Q2 := Lib.hid (bl_tr hb (by repeat (with_reducible first | exact Q1.out | apply bl_drewN | apply bl_drew))); clear hb))
    go_wp2
    go_ret
    refine ⟨ret_int ?_, by repeat (with_reducible first | exact Q2.out | apply bl_drewN | apply bl_drew)⟩
    clear c1 c2 c3 c4 c5
    unfold E
    rw [if_pos (by omega)]
    try simp only [IntKind.wrap_i64]
    try unfold wrap64
    omega
  · have hr : reg rd ∧ reg rs ∧ rt = 0 ∧ -2048 ≤ imm ∧ imm ≤ 2047 := by unfold IV reg at hV; unfold reg; omega
    obtain ⟨⟨a0, a1⟩, ⟨b0, b1⟩, rfl, i0, i1⟩ := hr
    clear hV
    have c1 := fun W => l42Imm_any op rd rs 0 imm 19 W (by omega) (by omega) b0 b1 a0 a1 i0 i1 (by omega) (by omega)
    go_enter Tryd.func28, Tryd.ntmps28
    go_wp2_with (go_at_call 53; (with_reducible refine (c1 _).mono ?_); rintro e w1 ⟨rfl, hb⟩; have Qn := Lib.hid (bl_tr hb (by repeat (with_reducible first | exact Q.out | apply bl_drewN | apply bl_drew))))
    all_goals
      go_ret
      refine ⟨ret_int ?_, Qn.out⟩
      have qo : opc op = 19 := by unfold opc; (repeat' split) <;> omega
      unfold E
      rw [if_neg (by omega), if_pos (by omega), qo]
      omega
  · have hr : reg rd ∧ reg rs ∧ rt = 0 ∧ -2048 ≤ imm ∧ imm ≤ 2047 := by unfold IV reg at hV; unfold reg; omega
    obtain ⟨⟨a0, a1⟩, ⟨b0, b1⟩, rfl, i0, i1⟩ := hr
    clear hV
    have c1 := fun W => l42Imm_any op rd rs 0 imm 3 W (by omega) (by omega) b0 b1 a0 a1 i0 i1 (by omega) (by omega)
    go_enter Tryd.func28, Tryd.ntmps28
    go_wp2_with (go_at_call 53; (with_reducible refine (c1 _).mono ?_); rintro e w1 ⟨rfl, hb⟩; have Qn := Lib.hid (bl_tr hb (by repeat (with_reducible first | exact Q.out | apply bl_drewN | apply bl_drew))))
    all_goals
      go_ret
      refine ⟨ret_int ?_, Qn.out⟩
      have qo : opc op = 3 := by unfold opc; (repeat' split) <;> omega
      unfold E
      rw [if_neg (by omega), if_pos (by omega), qo]
      omega
  · have hr : reg rd ∧ reg rs ∧ rt = 0 ∧ -2048 ≤ imm ∧ imm ≤ 2047 := by unfold IV reg at hV; unfold reg; omega
    obtain ⟨⟨a0, a1⟩, ⟨b0, b1⟩, rfl, i0, i1⟩ := hr
    clear hV
    have c1 := fun W => l42Imm_any op rd rs 0 imm 103 W (by omega) (by omega) b0 b1 a0 a1 i0 i1 (by omega) (by omega)
    go_enter Tryd.func28, Tryd.ntmps28
    go_wp2_with (go_at_call 53; (with_reducible refine (c1 _).mono ?_); rintro e w1 ⟨rfl, hb⟩; have Qn := Lib.hid (bl_tr hb (by repeat (with_reducible first | exact Q.out | apply bl_drewN | apply bl_drew))))
    all_goals
      go_ret
      refine ⟨ret_int ?_, Qn.out⟩
      have qo : opc op = 103 := by unfold opc; (repeat' split) <;> omega
      unfold E
      rw [if_neg (by omega), if_pos (by omega), qo]
      omega
  · have hr : rd = 0 ∧ reg rs ∧ reg rt ∧ -2048 ≤ imm ∧ imm ≤ 2047 := by unfold IV reg at hV; unfold reg; omega
    obtain ⟨rfl, ⟨b0, b1⟩, ⟨d0, d1⟩, i0, i1⟩ := hr
    clear hV
    have m0 : 0 ≤ imm % 4096 := by omega
    have m1 : imm % 4096 < 4096 := by omega
    have c0 := fun W => l42Mod_any imm 4096 W (by omega) (by omega) (by omega)
    have c1 := fun W => sb5_7 (imm % 4096) W m0 (by omega)
    have c2 := fun W => sb0_5 (imm % 4096) W m0 (by omega)
    have c3 := fun W => put25 (imm % 4096 / 32 % 128) W (by omega) (by omega)
    have c4 := fun W => put20 rt W (by omega) (by omega)
    have c5 := fun W => put7 (imm % 4096 / 1 % 32) W (by omega) (by omega)
    have c5' := fun W => put7 (imm % 32) W (by omega) (by omega)
    have c6 := fun W => l42Mid_any op 0 rs rt imm 35 W (by omega) (by omega) b0 b1 (by omega) (by omega)
    go_enter Tryd.func28, Tryd.ntmps28
    go_wp2_with (go_at_call 54; (with_reducible refine (c0 _).mono ?_); rintro e w' ⟨rfl, rfl⟩)
    go_region_held3 (fun w' => w'.cell? ⟨w.heap.size, 0, none⟩ = some (.int .i64 op) ∧ w'.cell? ⟨w.heap.size, 1, none⟩ = some (.int .i64 0) ∧ w'.cell? ⟨w.heap.size, 2, none⟩ = some (.int .i64 rs) ∧ w'.cell? ⟨w.heap.size, 3, none⟩ = some (.int .i64 rt) ∧ w'.cell? ⟨w.heap.size, 4, none⟩ = some (.int .i64 imm)) (first | (simp [*]; done) | (go_simp; done) | (refine ⟨?_, ?_, ?_, ?_, ?_⟩ <;> go_simp)) (first | (go_at_call 56; (with_reducible refine (c1 _).mono ?_); rintro e w' ⟨rfl, nq, rfl⟩) | (go_at_call 56; (with_reducible refine (c2 _).mono ?_); rintro e w' ⟨rfl, nq, rfl⟩) | (go_at_call 55; (with_reducible refine (c3 _).mono ?_); rintro e w' ⟨rfl, rfl⟩) | (go_at_call 55; (with_reducible refine (c4 _).mono ?_); rintro e w' ⟨rfl, rfl⟩) | (go_at_call 55; (with_reducible refine (c5 _).mono ?_); rintro e w' ⟨rfl, rfl⟩) | (go_at_call 55; (with_reducible refine (c5' _).mono ?_); rintro e w' ⟨rfl, rfl⟩) | (go_at_call 57; (with_reducible refine (c6 _).mono ?_); rintro e w1 ⟨rfl, hb⟩; have kn := bl_keep hb kc.out; obtain ⟨u0, u1, u2, u3, u4⟩ := five kn; have Q2k := Lib.hid kn; clear kn; have Q2 := Lib.hid (bl_tr hb (by repeat (with_reducible first | exact Q.out | apply bl_drewN | apply bl_drew))); clear hb))
    go_wp2
    go_ret
    refine ⟨ret_int ?_, by repeat (with_reducible first | exact Q2.out | apply bl_drewN | apply bl_drew)⟩
    clear c0 c1 c2 c3 c4 c5 c5' c6
    unfold E
    rw [if_neg (by omega), if_neg (by omega), if_pos (by omega)]
    have b1 : 0 ≤ imm % 4096 / 32 ∧ imm % 4096 / 32 ≤ 127 := by omega
    have b2 : 0 ≤ imm % 32 ∧ imm % 32 ≤ 31 := by omega
    have hx : imm % 4096 / 32 % 128 = imm % 4096 / 32 := by omega
    simp only [hx]
    clear hx m0 m1
    generalize imm % 4096 / 32 = x1 at *
    generalize imm % 32 = x2 at *
    try simp only [IntKind.wrap_i64]
    try unfold wrap64
    omega
  · have hr : rd = 0 ∧ reg rs ∧ reg rt ∧ -4096 ≤ imm ∧ imm ≤ 4094 := by unfold IV reg at hV; unfold reg; omega
    obtain ⟨rfl, ⟨b0, b1⟩, ⟨d0, d1⟩, i0, i1⟩ := hr
    clear hV
    have c1 := fun W => l42Branch_any op 0 rs rt imm W (by omega) (by omega) d0 d1 b0 b1 i0 i1
    go_enter Tryd.func28, Tryd.ntmps28
    go_wp2_with (go_at_call 58; (with_reducible refine (c1 _).mono ?_); rintro e w1 ⟨rfl, hb⟩; have Qn := Lib.hid (bl_tr hb (by repeat (with_reducible first | exact Q.out | apply bl_drewN | apply bl_drew))))
    all_goals
      go_ret
      refine ⟨ret_int ?_, Qn.out⟩
      unfold E
      rw [if_neg (by omega), if_neg (by omega), if_neg (by omega), if_pos (by omega)]
  · have hr : reg rd ∧ rs = 0 ∧ rt = 0 ∧ 0 ≤ imm ∧ imm ≤ 1048575 := by unfold IV reg at hV; unfold reg; omega
    obtain ⟨⟨a0, a1⟩, rfl, rfl, i0, i1⟩ := hr
    clear hV
    have c1 := fun W => put12 imm W (by omega) (by omega)
    have c2 := fun W => put7 rd W (by omega) (by omega)
    go_enter Tryd.func28, Tryd.ntmps28
    go_wp2
    go_quiet ((first | (go_at_call 55; with_reducible exact q_of (c1 _)) | (go_at_call 55; with_reducible exact q_of (c2 _))))
    go_wp2
    go_ret
    refine ⟨ret_int ?_, by repeat (with_reducible first | exact Q.out | apply bl_drewN | apply bl_drew)⟩
    clear c1 c2
    unfold E
    rw [if_neg (by omega), if_neg (by omega), if_neg (by omega), if_neg (by omega), if_pos (by omega)]
  · have hr : reg rd ∧ rs = 0 ∧ rt = 0 ∧ -1048576 ≤ imm ∧ imm ≤ 1048574 := by unfold IV reg at hV; unfold reg; omega
    obtain ⟨⟨a0, a1⟩, rfl, rfl, i0, i1⟩ := hr
    clear hV
    have c1 := fun W => l42Jump_any op rd 0 0 imm W (by omega) (by omega) a0 a1 i0 i1
    go_enter Tryd.func28, Tryd.ntmps28
    go_wp2_with (go_at_call 59; (with_reducible refine (c1 _).mono ?_); rintro e w1 ⟨rfl, hb⟩; have Qn := Lib.hid (bl_tr hb (by repeat (with_reducible first | exact Q.out | apply bl_drewN | apply bl_drew))))
    all_goals
      go_ret
      refine ⟨ret_int ?_, Qn.out⟩
      unfold E
      rw [if_neg (by omega), if_neg (by omega), if_neg (by omega), if_neg (by omega), if_neg (by omega), if_pos (by omega)]
  · have hr : rd = 0 ∧ rs = 0 ∧ rt = 0 ∧ imm = 0 := by unfold IV reg at hV; omega
    obtain ⟨rfl, rfl, rfl, rfl⟩ := hr
    clear hV
    go_enter Tryd.func28, Tryd.ntmps28
    go_wp2
    all_goals
      go_ret
      refine ⟨ret_int ?_, Q.out⟩
      unfold E
      rw [if_neg (by omega), if_neg (by omega), if_neg (by omega), if_neg (by omega), if_neg (by omega), if_neg (by omega)]
end Go.Proofs.YthmfkdlncnjjoaaDoor
