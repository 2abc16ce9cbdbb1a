/- The walk of the program's InstrEncode: IM.E of a valid instruction, and true. -/
import Derived.Test.YthmfkdlncnjjoaaDoorTb
import Derived.Test.YthmfkdlncnjjoaaDoorEm
import Derived.Test.YthmfkdlncnjjoaaDoorOr
namespace Go.Proofs.YthmfkdlncnjjoaaDoor
open Go.RowKit IM
set_option linter.unusedVariables false
set_option linter.unusedSimpArgs false
def EncP (op rd rs rt imm : Int) (w : World) (e : Ending) (w' : World) : Prop := e = .returned (.tuple #[.int .i64 (if iv op rd rs rt imm = true then E op rd rs rt imm else 0), .bool (iv op rd rs rt imm)]) ∧ Below w.heap.size w w'
set_option maxRecDepth 100000 in
set_option maxHeartbeats 1000000 in
theorem encode_no (op rd rs rt imm : Int) (w : World) (h : iv op rd rs rt imm = false) :
    Calls Tryd.prog 16 #[.agg #[.int .i64 op, .int .i64 rd, .int .i64 rs, .int .i64 rt, .int .i64 imm]] w (EncP op rd rs rt imm w) := by
  have hP := Lib.hid h
  go_enter Tryd.func16, Tryd.ntmps16
  go_wp2_with fail
  refine (instrValid_any _ _ _ _ _ _).mono ?_
  rintro e w1 ⟨rfl, hb⟩
  have Q := Lib.hid (bl_tr hb (bl_alloc (Below.refl w.heap.size w) _))
  clear hb
  go_wp2
  go_ret2
  refine ⟨by rw [hP.out]; rfl, Q.out⟩
set_option maxRecDepth 100000 in
set_option maxHeartbeats 1000000 in
theorem encode_R (op rd rs rt imm : Int) (w : World) (h : iv op rd rs rt imm = true) (hT : Tab w) (h1 : op ≤ 11) :
    Calls Tryd.prog 16 #[.agg #[.int .i64 op, .int .i64 rd, .int .i64 rs, .int .i64 rt, .int .i64 imm]] w (EncP op rd rs rt imm w) := by
  have hV := iv_iff.1 h
  have ho := hV.split
  have hv : reg rd ∧ reg rs ∧ reg rt ∧ imm = 0 := by unfold IV reg at hV; unfold reg; omega
  obtain ⟨⟨a0, a1⟩, ⟨b0, b1⟩, ⟨c0, c1⟩, rfl⟩ := hv
  have HT := Lib.hid hT
  clear hV hT
  go_enter Tryd.func16, Tryd.ntmps16
  go_wp2_with fail
  refine (instrValid_any _ _ _ _ _ _).mono ?_
  rintro e w1 ⟨rfl, hb⟩
  have Q := Lib.hid (bl_tr hb (bl_alloc (Below.refl w.heap.size w) _))
  have kc := Lib.hid (bl_keep hb (new_blk w _))
  obtain ⟨e0, e1, e2, e3, e4⟩ := five kc.out
  obtain ⟨t0, t1, t2, t3⟩ := (HT.out.below Q.out).row op ho.1 ho.2
  have z0 := lt_blk kc.out
  have z1 : w.heap.size < w1.heap.size + 1 := by omega
  clear hb
  go_wp2_with fail
  refine (unsigned_any 0 _ (by omega) (by omega)).mono ?_
  rintro e w2 ⟨rfl, rfl⟩
  have hf : fmt op = 82 := by unfold fmt; rw [if_pos (by omega)]
  go_wp2_with (go_at_call 31; refine (formatOf_any _ _).mono ?_; rintro e w' ⟨rfl, rfl⟩)
  go_ret2
  have HE : bits .or .i64 (bits .or .i64 (wrap64 (f7 op * 33554432)) (bits .or .i64 (bits .or .i64 (bits .or .i64 (rt * 1048576) (rs * 32768)) (wrap64 (f3 op * 4096))) (opc op))) (rd * 128) = E op rd rs rt 0 := by
    have q3 := f3_bd op
    have q7 := f7_bd op
    have qo : opc op = 51 := by unfold opc; rw [if_pos h1]
    rw [regs_or rt rs (f3 op) (opc op) c0 c1 b0 b1 q3.1 q3.2 (by omega) (by omega), or_R (f7 op) _ (rt * 256 + rs * 8 + f3 op) rd (opc op) (by omega) (by omega) (by omega) (by omega) (by omega) q7.1 (by omega) a0 a1]
    unfold E
    rw [if_pos h1]
    omega
  refine ⟨?_, ?_⟩
  · rw [h, if_pos rfl, ← HE]
    rfl
  · repeat (first | (with_reducible exact Q.out) | (with_reducible apply bl_alloc))
theorem bo_0_12 (x : Int) : bitsOf (x % 4294967296) 0 12 = x % 4096 := by simp [bitsOf] <;> omega
theorem bo_5_7 (x : Int) : bitsOf (x % 4294967296) 5 7 = x % 4096 / 32 := by simp [bitsOf] <;> omega
theorem bo_0_5 (x : Int) : bitsOf (x % 4294967296) 0 5 = x % 32 := by simp [bitsOf] <;> omega
theorem bo_12_1 (x : Int) : bitsOf (x % 4294967296) 12 1 = x % 8192 / 4096 := by simp [bitsOf] <;> omega
theorem bo_5_6 (x : Int) : bitsOf (x % 4294967296) 5 6 = x % 2048 / 32 := by simp [bitsOf] <;> omega
theorem bo_1_4 (x : Int) : bitsOf (x % 4294967296) 1 4 = x % 32 / 2 := by simp [bitsOf] <;> omega
theorem bo_11_1 (x : Int) : bitsOf (x % 4294967296) 11 1 = x % 4096 / 2048 := by simp [bitsOf] <;> omega
theorem bo_0_20 (x : Int) : bitsOf (x % 4294967296) 0 20 = x % 1048576 := by simp [bitsOf] <;> omega
theorem bo_20_1 (x : Int) : bitsOf (x % 4294967296) 20 1 = x % 2097152 / 1048576 := by simp [bitsOf] <;> omega
theorem bo_1_10 (x : Int) : bitsOf (x % 4294967296) 1 10 = x % 2048 / 2 := by simp [bitsOf] <;> omega
theorem bo_12_8 (x : Int) : bitsOf (x % 4294967296) 12 8 = x % 1048576 / 4096 := by simp [bitsOf] <;> omega
set_option maxRecDepth 100000 in
set_option maxHeartbeats 1000000 in
theorem encode_I (op rd rs rt imm : Int) (w : World) (h : iv op rd rs rt imm = true) (hT : Tab w) (h1 : 12 ≤ op) (h2 : op ≤ 15) :
    Calls Tryd.prog 16 #[.agg #[.int .i64 op, .int .i64 rd, .int .i64 rs, .int .i64 rt, .int .i64 imm]] w (EncP op rd rs rt imm w) := by
  have hV := iv_iff.1 h
  have ho := hV.split
  have hv : reg rd ∧ reg rs ∧ rt = 0 ∧ -2048 ≤ imm ∧ imm ≤ 2047 := by unfold IV reg at hV; unfold reg; omega
  obtain ⟨⟨a0, a1⟩, ⟨b0, b1⟩, rfl, i0, i1⟩ := hv
  have HT := Lib.hid hT
  clear hV hT
  go_enter Tryd.func16, Tryd.ntmps16
  go_wp2_with fail
  refine (instrValid_any _ _ _ _ _ _).mono ?_
  rintro e w1 ⟨rfl, hb⟩
  have Q := Lib.hid (bl_tr hb (bl_alloc (Below.refl w.heap.size w) _))
  have kc := Lib.hid (bl_keep hb (new_blk w _))
  obtain ⟨e0, e1, e2, e3, e4⟩ := five kc.out
  obtain ⟨t0, t1, t2, t3⟩ := (HT.out.below Q.out).row op (by omega) (by omega)
  have z0 := lt_blk kc.out
  have z1 : w.heap.size < w1.heap.size + 1 := by omega
  clear hb
  go_wp2_with fail
  refine (unsigned_any imm _ (by omega) (by omega)).mono ?_
  rintro e w2 ⟨rfl, rfl⟩
  have hf : fmt op = 73 := by unfold fmt; rw [if_neg (by omega), if_pos (by omega)]
  have m0 : 0 ≤ imm % 4294967296 := by omega
  have m1 : imm % 4294967296 < 4294967296 := by omega
  go_wp2_with (go_at_call 31; refine (formatOf_any _ _).mono ?_; rintro e w' ⟨rfl, rfl⟩)
  go_quiet ((go_at_call 30; exact Calls.quiet_of (part_any _ (imm % 4294967296) _ _ _ _ (by go_simp) m0 m1 (by omega) (by omega) (by omega) (by omega) (by omega) (by omega))))
  go_wp2
  go_ret2
  have HE : bits .or .i64 (bits .or .i64 (bitsOf (imm % 4294967296) 0 12 * 1048576) (bits .or .i64 (bits .or .i64 (bits .or .i64 0 (rs * 32768)) (wrap64 (f3 op * 4096))) (opc op))) (rd * 128) = E op rd rs 0 imm := by
    have q3 := f3_bd op
    have qo : 0 ≤ opc op ∧ opc op ≤ 127 := by unfold opc; (repeat' split) <;> omega
    rw [regs0_or 0 0 rs (f3 op) (opc op) rfl (by omega) (by omega) b0 b1 q3.1 q3.2 qo.1 qo.2, bo_0_12, or_I (imm % 4096) _ rd (opc op) (by omega) (by omega) (by omega) qo.2 (by omega) (by omega) a0 a1]
    unfold E
    rw [if_neg (by omega), if_pos h2]
    omega
  refine ⟨?_, ?_⟩
  · rw [h, if_pos rfl, ← HE]
    rfl
  · repeat (first | (with_reducible exact Q.out) | (with_reducible apply bl_alloc) | (with_reducible apply bl_drewN) | (with_reducible apply bl_drew))
set_option maxRecDepth 100000 in
set_option maxHeartbeats 1000000 in
theorem encode_S (op rd rs rt imm : Int) (w : World) (h : iv op rd rs rt imm = true) (hT : Tab w) (h1 : 16 ≤ op) (h2 : op ≤ 16) :
    Calls Tryd.prog 16 #[.agg #[.int .i64 op, .int .i64 rd, .int .i64 rs, .int .i64 rt, .int .i64 imm]] w (EncP op rd rs rt imm w) := by
  have hV := iv_iff.1 h
  have ho := hV.split
  have hv : rd = 0 ∧ reg rs ∧ reg rt ∧ -2048 ≤ imm ∧ imm ≤ 2047 := by unfold IV reg at hV; unfold reg; omega
  obtain ⟨rfl, ⟨b0, b1⟩, ⟨c0, c1⟩, i0, i1⟩ := hv
  have HT := Lib.hid hT
  clear hV hT
  go_enter Tryd.func16, Tryd.ntmps16
  go_wp2_with fail
  refine (instrValid_any _ _ _ _ _ _).mono ?_
  rintro e w1 ⟨rfl, hb⟩
  have Q := Lib.hid (bl_tr hb (bl_alloc (Below.refl w.heap.size w) _))
  have kc := Lib.hid (bl_keep hb (new_blk w _))
  obtain ⟨e0, e1, e2, e3, e4⟩ := five kc.out
  obtain ⟨t0, t1, t2, t3⟩ := (HT.out.below Q.out).row op (by omega) (by omega)
  have z0 := lt_blk kc.out
  have z1 : w.heap.size < w1.heap.size + 1 := by omega
  clear hb
  go_wp2_with fail
  refine (unsigned_any imm _ (by omega) (by omega)).mono ?_
  rintro e w2 ⟨rfl, rfl⟩
  have hf : fmt op = 83 := by unfold fmt; rw [if_neg (by omega), if_neg (by omega), if_pos (by omega)]
  have m0 : 0 ≤ imm % 4294967296 := by omega
  have m1 : imm % 4294967296 < 4294967296 := by omega
  go_wp2_with (first | (go_at_call 31; refine (formatOf_any _ _).mono ?_; rintro e w' ⟨rfl, rfl⟩) | (go_at_call 30; refine (part_any _ (imm % 4294967296) _ _ _ _ (by go_simp) m0 m1 (by omega) (by omega) (by omega) (by omega) (by omega) (by omega)).mono ?_; rintro e w2 ⟨rfl, nq1, rfl⟩))
  go_ret2
  have HE : bits .or .i64 (bits .or .i64 (bitsOf (imm % 4294967296) 5 7 * 33554432) (bits .or .i64 (bits .or .i64 (bits .or .i64 (rt * 1048576) (rs * 32768)) (wrap64 (f3 op * 4096))) (opc op))) (bitsOf (imm % 4294967296) 0 5 * 128) = E op 0 rs rt imm := by
    have q3 := f3_bd op
    have qo : opc op = 35 := by unfold opc; rw [if_neg (by omega), if_neg (by omega), if_neg (by omega), if_neg (by omega), if_pos (by omega)]
    rw [regs_or rt rs (f3 op) (opc op) c0 c1 b0 b1 q3.1 q3.2 (by omega) (by omega), bo_5_7, bo_0_5, or_S (imm % 4096 / 32) _ (imm % 32) (opc op) (by omega) (by omega) (by omega) (by omega) (by omega) (by omega) (by omega) (by omega)]
    unfold E
    rw [if_neg (by omega), if_neg (by omega), if_pos (by omega)]
    omega
  refine ⟨?_, ?_⟩
  · rw [h, if_pos rfl, ← HE]
    rfl
  · repeat (first | (with_reducible exact Q.out) | (with_reducible apply bl_alloc) | (with_reducible apply bl_drewN) | (with_reducible apply bl_drew))
set_option maxRecDepth 100000 in
set_option maxHeartbeats 1000000 in
theorem encode_B (op rd rs rt imm : Int) (w : World) (h : iv op rd rs rt imm = true) (hT : Tab w) (h1 : 17 ≤ op) (h2 : op ≤ 18) :
    Calls Tryd.prog 16 #[.agg #[.int .i64 op, .int .i64 rd, .int .i64 rs, .int .i64 rt, .int .i64 imm]] w (EncP op rd rs rt imm w) := by
  have hV := iv_iff.1 h
  have ho := hV.split
  have hv : rd = 0 ∧ reg rs ∧ reg rt ∧ -4096 ≤ imm ∧ imm ≤ 4094 ∧ imm % 2 = 0 := by unfold IV reg at hV; unfold reg; omega
  obtain ⟨rfl, ⟨b0, b1⟩, ⟨c0, c1⟩, i0, i1, i2⟩ := hv
  clear i2
  have HT := Lib.hid hT
  clear hV hT
  go_enter Tryd.func16, Tryd.ntmps16
  go_wp2_with fail
  refine (instrValid_any _ _ _ _ _ _).mono ?_
  rintro e w1 ⟨rfl, hb⟩
  have Q := Lib.hid (bl_tr hb (bl_alloc (Below.refl w.heap.size w) _))
  have kc := Lib.hid (bl_keep hb (new_blk w _))
  obtain ⟨e0, e1, e2, e3, e4⟩ := five kc.out
  obtain ⟨t0, t1, t2, t3⟩ := (HT.out.below Q.out).row op (by omega) (by omega)
  have z0 := lt_blk kc.out
  have z1 : w.heap.size < w1.heap.size + 1 := by omega
  clear hb
  go_wp2_with fail
  refine (unsigned_any imm _ (by omega) (by omega)).mono ?_
  rintro e w2 ⟨rfl, rfl⟩
  have hf : fmt op = 66 := by unfold fmt; rw [if_neg (by omega), if_neg (by omega), if_neg (by omega), if_pos (by omega)]
  have m0 : 0 ≤ imm % 4294967296 := by omega
  have m1 : imm % 4294967296 < 4294967296 := by omega
  go_wp2_with (first | (go_at_call 31; refine (formatOf_any _ _).mono ?_; rintro e w' ⟨rfl, rfl⟩) | (go_at_call 30; refine (part_any _ (imm % 4294967296) _ _ _ _ (by go_simp) m0 m1 (by omega) (by omega) (by omega) (by omega) (by omega) (by omega)).mono ?_; rintro e w2 ⟨rfl, nq1, rfl⟩))
  go_ret2
  have HE : bits .or .i64 (bits .or .i64 (bits .or .i64 (bits .or .i64 (bitsOf (imm % 4294967296) 12 1 * 2147483648) (bitsOf (imm % 4294967296) 5 6 * 33554432)) (bits .or .i64 (bits .or .i64 (bits .or .i64 (rt * 1048576) (rs * 32768)) (wrap64 (f3 op * 4096))) (opc op))) (bitsOf (imm % 4294967296) 1 4 * 256)) (bitsOf (imm % 4294967296) 11 1 * 128) = E op 0 rs rt imm := by
    have q3 := f3_bd op
    have qo : opc op = 99 := by unfold opc; rw [if_neg (by omega), if_neg (by omega), if_neg (by omega), if_neg (by omega), if_neg (by omega), if_pos (by omega)]
    have b1' : 0 ≤ imm % 8192 / 4096 ∧ imm % 8192 / 4096 ≤ 1 := by omega
    have b2' : 0 ≤ imm % 2048 / 32 ∧ imm % 2048 / 32 ≤ 63 := by omega
    have b3' : 0 ≤ imm % 32 / 2 ∧ imm % 32 / 2 ≤ 15 := by omega
    have b4' : 0 ≤ imm % 4096 / 2048 ∧ imm % 4096 / 2048 ≤ 1 := by omega
    rw [regs_or rt rs (f3 op) (opc op) c0 c1 b0 b1 q3.1 q3.2 (by omega) (by omega), bo_12_1, bo_5_6, bo_1_4, bo_11_1, or_B (imm % 8192 / 4096) (imm % 2048 / 32) _ (imm % 32 / 2) (imm % 4096 / 2048) (opc op) (by omega) (by omega) (by omega) (by omega) (by omega) b1'.1 (by omega) b2'.1 (by omega) b3'.1 (by omega) b4'.1 (by omega)]
    unfold E
    rw [if_neg (by omega), if_neg (by omega), if_neg (by omega), if_pos h2, qo]
    omega
  refine ⟨?_, ?_⟩
  · rw [h, if_pos rfl, ← HE]
    rfl
  · repeat (first | (with_reducible exact Q.out) | (with_reducible apply bl_alloc) | (with_reducible apply bl_drewN) | (with_reducible apply bl_drew))
set_option maxRecDepth 100000 in
set_option maxHeartbeats 1000000 in
theorem encode_U (op rd rs rt imm : Int) (w : World) (h : iv op rd rs rt imm = true) (hT : Tab w) (h1 : 19 ≤ op) (h2 : op ≤ 19) :
    Calls Tryd.prog 16 #[.agg #[.int .i64 op, .int .i64 rd, .int .i64 rs, .int .i64 rt, .int .i64 imm]] w (EncP op rd rs rt imm w) := by
  have hV := iv_iff.1 h
  have ho := hV.split
  have hv : reg rd ∧ rs = 0 ∧ rt = 0 ∧ 0 ≤ imm ∧ imm ≤ 1048575 := by unfold IV reg at hV; unfold reg; omega
  obtain ⟨⟨a0, a1⟩, rfl, rfl, i0, i1⟩ := hv
  have HT := Lib.hid hT
  clear hV hT
  go_enter Tryd.func16, Tryd.ntmps16
  go_wp2_with fail
  refine (instrValid_any _ _ _ _ _ _).mono ?_
  rintro e w1 ⟨rfl, hb⟩
  have Q := Lib.hid (bl_tr hb (bl_alloc (Below.refl w.heap.size w) _))
  have kc := Lib.hid (bl_keep hb (new_blk w _))
  obtain ⟨e0, e1, e2, e3, e4⟩ := five kc.out
  obtain ⟨t0, t1, t2, t3⟩ := (HT.out.below Q.out).row op (by omega) (by omega)
  have z0 := lt_blk kc.out
  have z1 : w.heap.size < w1.heap.size + 1 := by omega
  clear hb
  go_wp2_with fail
  refine (unsigned_any imm _ (by omega) (by omega)).mono ?_
  rintro e w2 ⟨rfl, rfl⟩
  have hf : fmt op = 85 := by unfold fmt; rw [if_neg (by omega), if_neg (by omega), if_neg (by omega), if_neg (by omega), if_pos (by omega)]
  have m0 : 0 ≤ imm % 4294967296 := by omega
  have m1 : imm % 4294967296 < 4294967296 := by omega
  go_wp2_with (go_at_call 31; refine (formatOf_any _ _).mono ?_; rintro e w' ⟨rfl, rfl⟩)
  go_quiet ((go_at_call 30; exact Calls.quiet_of (part_any _ (imm % 4294967296) _ _ _ _ (by go_simp) m0 m1 (by omega) (by omega) (by omega) (by omega) (by omega) (by omega))))
  go_wp2
  go_ret2
  have HE : bits .or .i64 (bits .or .i64 (bitsOf (imm % 4294967296) 0 20 * 4096) (rd * 128)) (opc op) = E op rd 0 0 imm := by
    have qo : opc op = 55 := by unfold opc; rw [if_neg (by omega), if_neg (by omega), if_neg (by omega), if_neg (by omega), if_neg (by omega), if_neg (by omega), if_pos (by omega)]
    rw [bo_0_20, or_U (imm % 1048576) rd (opc op) (by omega) (by omega) a0 a1 (by omega) (by omega)]
    unfold E
    rw [if_neg (by omega), if_neg (by omega), if_neg (by omega), if_neg (by omega), if_pos (by omega)]
    omega
  refine ⟨?_, ?_⟩
  · rw [h, if_pos rfl, ← HE]
    rfl
  · repeat (first | (with_reducible exact Q.out) | (with_reducible apply bl_alloc) | (with_reducible apply bl_drewN) | (with_reducible apply bl_drew))
set_option maxRecDepth 100000 in
set_option maxHeartbeats 1000000 in
theorem encode_J (op rd rs rt imm : Int) (w : World) (h : iv op rd rs rt imm = true) (hT : Tab w) (h1 : 20 ≤ op) (h2 : op ≤ 20) :
    Calls Tryd.prog 16 #[.agg #[.int .i64 op, .int .i64 rd, .int .i64 rs, .int .i64 rt, .int .i64 imm]] w (EncP op rd rs rt imm w) := by
  have hV := iv_iff.1 h
  have ho := hV.split
  have hv : reg rd ∧ rs = 0 ∧ rt = 0 ∧ -1048576 ≤ imm ∧ imm ≤ 1048574 ∧ imm % 2 = 0 := by unfold IV reg at hV; unfold reg; omega
  obtain ⟨⟨a0, a1⟩, rfl, rfl, i0, i1, i2⟩ := hv
  have HT := Lib.hid hT
  clear hV hT
  go_enter Tryd.func16, Tryd.ntmps16
  go_wp2_with fail
  refine (instrValid_any _ _ _ _ _ _).mono ?_
  rintro e w1 ⟨rfl, hb⟩
  have Q := Lib.hid (bl_tr hb (bl_alloc (Below.refl w.heap.size w) _))
  have kc := Lib.hid (bl_keep hb (new_blk w _))
  obtain ⟨e0, e1, e2, e3, e4⟩ := five kc.out
  obtain ⟨t0, t1, t2, t3⟩ := (HT.out.below Q.out).row op (by omega) (by omega)
  have z0 := lt_blk kc.out
  have z1 : w.heap.size < w1.heap.size + 1 := by omega
  clear hb
  go_wp2_with fail
  refine (unsigned_any imm _ (by omega) (by omega)).mono ?_
  rintro e w2 ⟨rfl, rfl⟩
  have hf : fmt op = 74 := by unfold fmt; rw [if_neg (by omega), if_neg (by omega), if_neg (by omega), if_neg (by omega), if_neg (by omega), if_pos (by omega)]
  have m0 : 0 ≤ imm % 4294967296 := by omega
  have m1 : imm % 4294967296 < 4294967296 := by omega
  go_wp2_with (first | (go_at_call 31; refine (formatOf_any _ _).mono ?_; rintro e w' ⟨rfl, rfl⟩) | (go_at_call 30; refine (part_any _ (imm % 4294967296) _ _ _ _ (by go_simp) m0 m1 (by omega) (by omega) (by omega) (by omega) (by omega) (by omega)).mono ?_; rintro e w2 ⟨rfl, nq1, rfl⟩))
  go_quiet ((go_at_call 30; exact Calls.quiet_of (part_any _ (imm % 4294967296) _ _ _ _ (by go_simp) m0 m1 (by omega) (by omega) (by omega) (by omega) (by omega) (by omega))))
  go_wp2
  go_ret2
  have HE : bits .or .i64 (bits .or .i64 (bits .or .i64 (bits .or .i64 (bits .or .i64 (bitsOf (imm % 4294967296) 20 1 * 2147483648) (bitsOf (imm % 4294967296) 1 10 * 2097152)) (bitsOf (imm % 4294967296) 11 1 * 1048576)) (bitsOf (imm % 4294967296) 12 8 * 4096)) (rd * 128)) (opc op) = E op rd 0 0 imm := by
    have qo : opc op = 111 := by unfold opc; rw [if_neg (by omega), if_neg (by omega), if_neg (by omega), if_neg (by omega), if_neg (by omega), if_neg (by omega), if_neg (by omega), if_pos (by omega)]
    have b1' : 0 ≤ imm % 2097152 / 1048576 ∧ imm % 2097152 / 1048576 ≤ 1 := by omega
    have b2' : 0 ≤ imm % 2048 / 2 ∧ imm % 2048 / 2 ≤ 1023 := by omega
    have b3' : 0 ≤ imm % 1048576 / 4096 ∧ imm % 1048576 / 4096 ≤ 255 := by omega
    have b4' : 0 ≤ imm % 4096 / 2048 ∧ imm % 4096 / 2048 ≤ 1 := by omega
    rw [bo_20_1, bo_1_10, bo_11_1, bo_12_8, or_J (imm % 2097152 / 1048576) (imm % 2048 / 2) (imm % 4096 / 2048) (imm % 1048576 / 4096) rd (opc op) b1'.1 (by omega) b2'.1 (by omega) b4'.1 (by omega) b3'.1 (by omega) a0 a1 (by omega) (by omega)]
    unfold E
    rw [if_neg (by omega), if_neg (by omega), if_neg (by omega), if_neg (by omega), if_neg (by omega), if_pos (by omega)]
    omega
  refine ⟨?_, ?_⟩
  · rw [h, if_pos rfl, ← HE]
    rfl
  · repeat (first | (with_reducible exact Q.out) | (with_reducible apply bl_alloc) | (with_reducible apply bl_drewN) | (with_reducible apply bl_drew))
set_option maxRecDepth 100000 in
set_option maxHeartbeats 1000000 in
theorem encode_E (op rd rs rt imm : Int) (w : World) (h : iv op rd rs rt imm = true) (hT : Tab w) (h1 : 21 ≤ op) :
    Calls Tryd.prog 16 #[.agg #[.int .i64 op, .int .i64 rd, .int .i64 rs, .int .i64 rt, .int .i64 imm]] w (EncP op rd rs rt imm w) := by
  have hV := iv_iff.1 h
  have ho := hV.split
  have hv : rd = 0 ∧ rs = 0 ∧ rt = 0 ∧ imm = 0 := by unfold IV reg at hV; omega
  obtain ⟨rfl, rfl, rfl, rfl⟩ := hv
  have HT := Lib.hid hT
  clear hV hT
  go_enter Tryd.func16, Tryd.ntmps16
  go_wp2_with fail
  refine (instrValid_any _ _ _ _ _ _).mono ?_
  rintro e w1 ⟨rfl, hb⟩
  have Q := Lib.hid (bl_tr hb (bl_alloc (Below.refl w.heap.size w) _))
  have kc := Lib.hid (bl_keep hb (new_blk w _))
  obtain ⟨e0, e1, e2, e3, e4⟩ := five kc.out
  obtain ⟨t0, t1, t2, t3⟩ := (HT.out.below Q.out).row op (by omega) (by omega)
  have z0 := lt_blk kc.out
  have z1 : w.heap.size < w1.heap.size + 1 := by omega
  clear hb
  go_wp2_with fail
  refine (unsigned_any 0 _ (by omega) (by omega)).mono ?_
  rintro e w2 ⟨rfl, rfl⟩
  have hf : fmt op = 69 := by unfold fmt; rw [if_neg (by omega), if_neg (by omega), if_neg (by omega), if_neg (by omega), if_neg (by omega), if_neg (by omega), if_pos (by omega)]
  go_wp2_with (go_at_call 31; refine (formatOf_any _ _).mono ?_; rintro e w' ⟨rfl, rfl⟩)
  go_ret2
  have HE : opc op = E op 0 0 0 0 := by
    have qo : opc op = 115 := by unfold opc; rw [if_neg (by omega), if_neg (by omega), if_neg (by omega), if_neg (by omega), if_neg (by omega), if_neg (by omega), if_neg (by omega), if_neg (by omega)]
    unfold E
    rw [if_neg (by omega), if_neg (by omega), if_neg (by omega), if_neg (by omega), if_neg (by omega), if_neg (by omega), qo]
  refine ⟨?_, ?_⟩
  · rw [h, if_pos rfl, ← HE]
    rfl
  · repeat (first | (with_reducible exact Q.out) | (with_reducible apply bl_alloc) | (with_reducible apply bl_drewN) | (with_reducible apply bl_drew))
theorem instrEncode_any (op rd rs rt imm : Int) (w : World) (hT : Tab w) :
    Calls Tryd.prog 16 #[.agg #[.int .i64 op, .int .i64 rd, .int .i64 rs, .int .i64 rt, .int .i64 imm]] w (EncP op rd rs rt imm w) := by
  cases h : iv op rd rs rt imm with
  | false => exact encode_no op rd rs rt imm w h
  | true =>
    rcases (by omega : op ≤ 11 ∨ (12 ≤ op ∧ op ≤ 15) ∨ (16 ≤ op ∧ op ≤ 16) ∨ (17 ≤ op ∧ op ≤ 18) ∨ (19 ≤ op ∧ op ≤ 19) ∨ (20 ≤ op ∧ op ≤ 20) ∨ 21 ≤ op) with k | k | k | k | k | k | k
    · exact encode_R op rd rs rt imm w h hT k
    · exact encode_I op rd rs rt imm w h hT k.1 k.2
    · exact encode_S op rd rs rt imm w h hT k.1 k.2
    · exact encode_B op rd rs rt imm w h hT k.1 k.2
    · exact encode_U op rd rs rt imm w h hT k.1 k.2
    · exact encode_J op rd rs rt imm w h hT k.1 k.2
    · exact encode_E op rd rs rt imm w h hT k
end Go.Proofs.YthmfkdlncnjjoaaDoor
