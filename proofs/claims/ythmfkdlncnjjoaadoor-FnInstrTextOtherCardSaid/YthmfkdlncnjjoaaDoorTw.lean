/- The walk of the program's InstrText. -/
import Derived.Test.YthmfkdlncnjjoaaDoorTb
import Derived.Test.YthmfkdlncnjjoaaDoorEm
import Derived.Test.YthmfkdlncnjjoaaDoorSt
import Derived.Test.YthmfkdlncnjjoaaDoorShelf
import Derived.Outline
import Derived.Deep.RegionHeld3
import Derived.Lib.AppendIntMem
namespace Go.Proofs.YthmfkdlncnjjoaaDoor
open Go.RowKit IM
set_option linter.unusedSimpArgs false
set_option linter.unusedVariables false
def X (r : Int) : List UInt8 := 120 :: Lib.itoa r
def textL (op rd rs rt imm : Int) : List UInt8 :=
  if op ≤ 11 then nameOf op ++ [32] ++ X rd ++ [44, 32] ++ X rs ++ [44, 32] ++ X rt
  else if op ≤ 13 then nameOf op ++ [32] ++ X rd ++ [44, 32] ++ X rs ++ [44, 32] ++ Lib.itoa imm
  else if op ≤ 15 then nameOf op ++ [32] ++ X rd ++ [44, 32] ++ Lib.itoa imm ++ [40] ++ X rs ++ [41]
  else if op = 16 then nameOf op ++ [32] ++ X rt ++ [44, 32] ++ Lib.itoa imm ++ [40] ++ X rs ++ [41]
  else if op ≤ 18 then nameOf op ++ [32] ++ X rs ++ [44, 32] ++ X rt ++ [44, 32] ++ Lib.itoa imm
  else if op ≤ 20 then nameOf op ++ [32] ++ X rd ++ [44, 32] ++ Lib.itoa imm
  else nameOf op
def textV (op rd rs rt imm : Int) : List UInt8 := if iv op rd rs rt imm = true then textL op rd rs rt imm else []
theorem X_size (r : Int) (h0 : 0 ≤ r) (h1 : r < 32) : (strL (X r)).size ≤ 40 := by
  have := itoa_size r
  rw [strL_size] at this ⊢
  simp only [X, List.length_cons]
  omega
theorem name_len (op : Int) : (nameOf op).length ≤ 5 := by
  by_cases h1 : op = 1
  · subst h1; decide
  by_cases h2 : op = 2
  · subst h2; decide
  by_cases h3 : op = 3
  · subst h3; decide
  by_cases h4 : op = 4
  · subst h4; decide
  by_cases h5 : op = 5
  · subst h5; decide
  by_cases h6 : op = 6
  · subst h6; decide
  by_cases h7 : op = 7
  · subst h7; decide
  by_cases h8 : op = 8
  · subst h8; decide
  by_cases h9 : op = 9
  · subst h9; decide
  by_cases h10 : op = 10
  · subst h10; decide
  by_cases h11 : op = 11
  · subst h11; decide
  by_cases h12 : op = 12
  · subst h12; decide
  by_cases h13 : op = 13
  · subst h13; decide
  by_cases h14 : op = 14
  · subst h14; decide
  by_cases h15 : op = 15
  · subst h15; decide
  by_cases h16 : op = 16
  · subst h16; decide
  by_cases h17 : op = 17
  · subst h17; decide
  by_cases h18 : op = 18
  · subst h18; decide
  by_cases h19 : op = 19
  · subst h19; decide
  by_cases h20 : op = 20
  · subst h20; decide
  simp [nameOf, h1, h2, h3, h4, h5, h6, h7, h8, h9, h10, h11, h12, h13, h14, h15, h16, h17, h18, h19, h20]
theorem name_size (op : Int) : (strL (nameOf op)).size ≤ 5 := by rw [strL_size]; exact name_len op
set_option maxHeartbeats 1000000 in
theorem machineRegText_any (r : Int) (w : World) (h0 : 0 ≤ r) (h1 : r < 32) :
    Calls Tryd.prog 43 #[.int .i64 r] w fun e w' => e = .returned (.string (strL (X r))) ∧ w = w' := by
  obtain ⟨n, rfl⟩ := Int.eq_ofNat_of_zero_le h0
  have c1 : ∀ W : World, Calls Tryd.prog 44 #[.int .i64 (n : Int)] W fun e w' => e = .returned (.string (strL (Lib.decDigits n))) ∧ W = w' := fun W => (Tryd.strconv_Itoa_small n (by omega) W).mono fun _ _ h => ⟨h.1, h.2.symm⟩
  have z1 : (strL (Lib.decDigits n)).size ≤ 100 := by have := dec_size n; omega
  have H := Lib.hid (show (⟨#[120]⟩ : ByteArray) ++ strL (Lib.decDigits n) = strL (X n) by rw [show (⟨#[120]⟩ : ByteArray) = strL [120] from rfl, strL_append, X, Lib.itoa_nonneg]; rfl)
  go_enter Tryd.func43, Tryd.ntmps43
  go_wp2_with (go_at_call 44; (with_reducible refine (c1 _).mono ?_); rintro e w' ⟨rfl, rfl⟩)
  go_ret
  exact ⟨by rw [← H.out]; rfl, rfl⟩
def TabP (w : World) : Prop := Lib.TabIs Tryd.prog w "internal/strconv.uint64pow10" .u64 Lib.pow10Tab
theorem globP : Tryd.prog.globalNamed "internal/strconv.uint64pow10" = some 1 := by kernel_rfl
def TabQ (w : World) : Prop := TabP w ∧ 1 < w.heap.size
theorem TabQ.below {w w' : World} (h : TabQ w) (hb : Below w.heap.size w w') : TabQ w' :=
  ⟨var?_below hb globP h.2 h.1, Nat.lt_of_lt_of_le h.2 hb.size⟩
theorem itoaBig (n : Int) (w : World) (h0 : -9223372036854775808 ≤ n) (h1 : n ≤ 9223372036854775807) (hP : TabQ w) :
    Calls Tryd.prog 44 #[.int .i64 n] w fun e w' => e = .returned (.string (strL (Lib.itoa n))) ∧ Below w.heap.size w w' :=
  (Tryd.strconv_Itoa n h0 h1 w hP.1).mono fun _ _ ⟨h, k, os, e⟩ => ⟨h, e ▸ Lib.below_grow _ _ (Nat.le_refl _) _ _⟩
set_option maxRecDepth 100000 in
set_option maxHeartbeats 2000000 in
theorem text_R (op rd rs rt imm : Int) (w : World) (h : iv op rd rs rt imm = true) (hT : Tab w) (hP : TabQ w) (h1 : op ≤ 11) :
    Calls Tryd.prog 23 #[.agg #[.int .i64 op, .int .i64 rd, .int .i64 rs, .int .i64 rt, .int .i64 imm]] w fun e w' => e = .returned (.string (strL (textL op rd rs rt imm))) ∧ Below w.heap.size w w' := by
  have hV := iv_iff.1 h
  have ho := hV.split
  have hv : (0 ≤ rd ∧ rd < 32) ∧ (0 ≤ rs ∧ rs < 32) ∧ (0 ≤ rt ∧ rt < 32) ∧ imm = 0 := by unfold IV reg at hV; omega
  obtain ⟨⟨a0, a1⟩, ⟨b0, b1⟩, ⟨c0, c1⟩, rfl⟩ := hv
  have HT := Lib.hid hT
  have HP := Lib.hid hP
  clear hV hT hP
  have m1 := fun W => machineRegText_any (rd) W (by omega) (by omega)
  have m2 := fun W => machineRegText_any (rs) W (by omega) (by omega)
  have m3 := fun W => machineRegText_any (rt) W (by omega) (by omega)
  have z0 := name_size op
  have z1 := X_size (rd) (by omega) (by omega)
  have z2 := X_size (rs) (by omega) (by omega)
  have z3 := X_size (rt) (by omega) (by omega)
  have z4 : (strL (Lib.itoa (0))).size ≤ 4000000 := by have := itoa_size (0); omega
  have i0 : -9223372036854775808 ≤ (0 : Int) := by omega
  have i1 : (0 : Int) ≤ 9223372036854775807 := by omega
  have HE := Lib.hid (show strL (nameOf op) ++ (⟨#[32]⟩ : ByteArray) ++ strL (X rd) ++ (⟨#[44, 32]⟩ : ByteArray) ++ strL (X rs) ++ (⟨#[44, 32]⟩ : ByteArray) ++ strL (X rt) = strL (textL op rd rs rt 0) by
    unfold textL
    rw [if_pos (by omega)]
    simp only [show (⟨#[32]⟩ : ByteArray) = strL [32] from rfl, show (⟨#[44, 32]⟩ : ByteArray) = strL [44, 32] from rfl, strL_append])
  go_enter Tryd.func23, Tryd.ntmps23
  go_wp2_with fail
  refine (instrValid_any _ _ _ _ _ _).mono ?_
  rintro e w1 ⟨rfl, hb⟩
  have Q := Lib.hid (bl_tr hb (bl_alloc (Below.refl w.heap.size w) _))
  have HQ := Lib.hid (HP.out.below Q.out)
  have cI := fun W (hW : Below w1.heap.size w1 W) => itoaBig (0) W i0 i1 (HQ.out.below hW)
  have kc := Lib.hid (bl_keep hb (new_blk w _))
  obtain ⟨e0, e1, e2, e3, e4⟩ := five kc.out
  obtain ⟨t0, t1, t2, t3⟩ := (HT.out.below Q.out).row op ho.1 ho.2
  have t0' : w1.cell? ⟨0, (op.toNat - 1) * 4, none⟩ = some (.string (strL (nameOf op))) := t0
  clear t0 hb
  have hf : fmt op = 82 := by unfold fmt; rw [if_pos (by omega)]
  go_wp2_with fail
  go_region_held3 (fun w' => w'.cell? ⟨w.heap.size, 0, none⟩ = some (.int .i64 op) ∧ w'.cell? ⟨w.heap.size, 1, none⟩ = some (.int .i64 rd) ∧ w'.cell? ⟨w.heap.size, 2, none⟩ = some (.int .i64 rs) ∧ w'.cell? ⟨w.heap.size, 3, none⟩ = some (.int .i64 rt) ∧ w'.cell? ⟨w.heap.size, 4, none⟩ = some (.int .i64 0)) (first | (simp [*]; done) | (go_simp; done) | (refine ⟨?_, ?_, ?_, ?_, ?_⟩ <;> go_simp)) (first | (go_at_call 43; (with_reducible refine (m1 _).mono ?_); rintro e w' ⟨rfl, rfl⟩) | (go_at_call 43; (with_reducible refine (m2 _).mono ?_); rintro e w' ⟨rfl, rfl⟩) | (go_at_call 43; (with_reducible refine (m3 _).mono ?_); rintro e w' ⟨rfl, rfl⟩) | (go_at_call 44; (with_reducible refine (cI _ (by repeat (with_reducible first | exact Below.refl _ _ | apply bl_drewN | apply bl_drew))).mono ?_); rintro e w2 ⟨rfl, hb⟩; obtain ⟨u0, u1, u2, u3, u4⟩ := five (bl_keep hb kc.out); have Q2 : Hid (Below w.heap.size w w2) := Lib.hid (bl_tr hb (by repeat (with_reducible first | exact Q.out | apply bl_drewN | apply bl_drew))); clear hb))
  go_wp2_with (first | (go_at_call 31; refine (formatOf_any _ _).mono ?_; rintro e w' ⟨rfl, rfl⟩))
  all_goals
    go_ret
    exact ⟨by rw [← HE.out]; rfl, by repeat (with_reducible first | exact Q2.out | apply bl_drewN | apply bl_drew)⟩
set_option maxRecDepth 100000 in
set_option maxHeartbeats 2000000 in
theorem text_I (op rd rs rt imm : Int) (w : World) (h : iv op rd rs rt imm = true) (hT : Tab w) (hP : TabQ w) (h1 : 12 ≤ op) (h2 : op ≤ 13) :
    Calls Tryd.prog 23 #[.agg #[.int .i64 op, .int .i64 rd, .int .i64 rs, .int .i64 rt, .int .i64 imm]] w fun e w' => e = .returned (.string (strL (textL op rd rs rt imm))) ∧ Below w.heap.size w w' := by
  have hV := iv_iff.1 h
  have ho := hV.split
  have hv : (0 ≤ rd ∧ rd < 32) ∧ (0 ≤ rs ∧ rs < 32) ∧ rt = 0 ∧ -2048 ≤ imm ∧ imm ≤ 2047 := by unfold IV reg at hV; omega
  obtain ⟨⟨a0, a1⟩, ⟨b0, b1⟩, rfl, j0, j1⟩ := hv
  have HT := Lib.hid hT
  have HP := Lib.hid hP
  clear hV hT hP
  have m1 := fun W => machineRegText_any (rd) W (by omega) (by omega)
  have m2 := fun W => machineRegText_any (rs) W (by omega) (by omega)
  have m3 := fun W => machineRegText_any (0) W (by omega) (by omega)
  have z0 := name_size op
  have z1 := X_size (rd) (by omega) (by omega)
  have z2 := X_size (rs) (by omega) (by omega)
  have z3 := X_size (0) (by omega) (by omega)
  have z4 : (strL (Lib.itoa (imm))).size ≤ 4000000 := by have := itoa_size (imm); omega
  have i0 : -9223372036854775808 ≤ (imm : Int) := by omega
  have i1 : (imm : Int) ≤ 9223372036854775807 := by omega
  have HE := Lib.hid (show strL (nameOf op) ++ (⟨#[32]⟩ : ByteArray) ++ strL (X rd) ++ (⟨#[44, 32]⟩ : ByteArray) ++ strL (X rs) ++ (⟨#[44, 32]⟩ : ByteArray) ++ strL (Lib.itoa imm) = strL (textL op rd rs 0 imm) by
    unfold textL
    rw [if_neg (by omega), if_pos (by omega)]
    simp only [show (⟨#[32]⟩ : ByteArray) = strL [32] from rfl, show (⟨#[44, 32]⟩ : ByteArray) = strL [44, 32] from rfl, strL_append])
  go_enter Tryd.func23, Tryd.ntmps23
  go_wp2_with fail
  refine (instrValid_any _ _ _ _ _ _).mono ?_
  rintro e w1 ⟨rfl, hb⟩
  have Q := Lib.hid (bl_tr hb (bl_alloc (Below.refl w.heap.size w) _))
  have HQ := Lib.hid (HP.out.below Q.out)
  have cI := fun W (hW : Below w1.heap.size w1 W) => itoaBig (imm) W i0 i1 (HQ.out.below hW)
  have kc := Lib.hid (bl_keep hb (new_blk w _))
  obtain ⟨e0, e1, e2, e3, e4⟩ := five kc.out
  obtain ⟨t0, t1, t2, t3⟩ := (HT.out.below Q.out).row op ho.1 ho.2
  have t0' : w1.cell? ⟨0, (op.toNat - 1) * 4, none⟩ = some (.string (strL (nameOf op))) := t0
  clear t0 hb
  have hf : fmt op = 73 := by unfold fmt; rw [if_neg (by omega), if_pos (by omega)]
  go_wp2_with fail
  go_region_held3 (fun w' => w'.cell? ⟨w.heap.size, 0, none⟩ = some (.int .i64 op) ∧ w'.cell? ⟨w.heap.size, 1, none⟩ = some (.int .i64 rd) ∧ w'.cell? ⟨w.heap.size, 2, none⟩ = some (.int .i64 rs) ∧ w'.cell? ⟨w.heap.size, 3, none⟩ = some (.int .i64 0) ∧ w'.cell? ⟨w.heap.size, 4, none⟩ = some (.int .i64 imm)) (first | (simp [*]; done) | (go_simp; done) | (refine ⟨?_, ?_, ?_, ?_, ?_⟩ <;> go_simp)) (first | (go_at_call 43; (with_reducible refine (m1 _).mono ?_); rintro e w' ⟨rfl, rfl⟩) | (go_at_call 43; (with_reducible refine (m2 _).mono ?_); rintro e w' ⟨rfl, rfl⟩) | (go_at_call 43; (with_reducible refine (m3 _).mono ?_); rintro e w' ⟨rfl, rfl⟩) | (go_at_call 44; (with_reducible refine (cI _ (by repeat (with_reducible first | exact Below.refl _ _ | apply bl_drewN | apply bl_drew))).mono ?_); rintro e w2 ⟨rfl, hb⟩; obtain ⟨u0, u1, u2, u3, u4⟩ := five (bl_keep hb kc.out); have Q2 : Hid (Below w.heap.size w w2) := Lib.hid (bl_tr hb (by repeat (with_reducible first | exact Q.out | apply bl_drewN | apply bl_drew))); clear hb))
  have g1 : (op == 14) = false := by simp; omega
  have g2 : (op == 15) = false := by simp; omega
  go_wp2_with (first | (go_at_call 31; refine (formatOf_any _ _).mono ?_; rintro e w' ⟨rfl, rfl⟩))
  all_goals
    go_ret
    exact ⟨by rw [← HE.out]; rfl, by repeat (with_reducible first | exact Q2.out | apply bl_drewN | apply bl_drew)⟩
set_option maxRecDepth 100000 in
set_option maxHeartbeats 2000000 in
theorem text_L (op rd rs rt imm : Int) (w : World) (h : iv op rd rs rt imm = true) (hT : Tab w) (hP : TabQ w) (h1 : 14 ≤ op) (h2 : op ≤ 14) :
    Calls Tryd.prog 23 #[.agg #[.int .i64 op, .int .i64 rd, .int .i64 rs, .int .i64 rt, .int .i64 imm]] w fun e w' => e = .returned (.string (strL (textL op rd rs rt imm))) ∧ Below w.heap.size w w' := by
  have hV := iv_iff.1 h
  have ho := hV.split
  have hv : (0 ≤ rd ∧ rd < 32) ∧ (0 ≤ rs ∧ rs < 32) ∧ rt = 0 ∧ -2048 ≤ imm ∧ imm ≤ 2047 := by unfold IV reg at hV; omega
  obtain ⟨⟨a0, a1⟩, ⟨b0, b1⟩, rfl, j0, j1⟩ := hv
  have HT := Lib.hid hT
  have HP := Lib.hid hP
  clear hV hT hP
  have m1 := fun W => machineRegText_any (rd) W (by omega) (by omega)
  have m2 := fun W => machineRegText_any (rs) W (by omega) (by omega)
  have m3 := fun W => machineRegText_any (0) W (by omega) (by omega)
  have z0 := name_size op
  have z1 := X_size (rd) (by omega) (by omega)
  have z2 := X_size (rs) (by omega) (by omega)
  have z3 := X_size (0) (by omega) (by omega)
  have z4 : (strL (Lib.itoa (imm))).size ≤ 4000000 := by have := itoa_size (imm); omega
  have i0 : -9223372036854775808 ≤ (imm : Int) := by omega
  have i1 : (imm : Int) ≤ 9223372036854775807 := by omega
  have HE := Lib.hid (show strL (nameOf op) ++ (⟨#[32]⟩ : ByteArray) ++ strL (X rd) ++ (⟨#[44, 32]⟩ : ByteArray) ++ strL (Lib.itoa imm) ++ (⟨#[40]⟩ : ByteArray) ++ strL (X rs) ++ (⟨#[41]⟩ : ByteArray) = strL (textL op rd rs 0 imm) by
    unfold textL
    rw [if_neg (by omega), if_neg (by omega), if_pos (by omega)]
    simp only [show (⟨#[32]⟩ : ByteArray) = strL [32] from rfl, show (⟨#[40]⟩ : ByteArray) = strL [40] from rfl, show (⟨#[41]⟩ : ByteArray) = strL [41] from rfl, show (⟨#[44, 32]⟩ : ByteArray) = strL [44, 32] from rfl, strL_append])
  go_enter Tryd.func23, Tryd.ntmps23
  go_wp2_with fail
  refine (instrValid_any _ _ _ _ _ _).mono ?_
  rintro e w1 ⟨rfl, hb⟩
  have Q := Lib.hid (bl_tr hb (bl_alloc (Below.refl w.heap.size w) _))
  have HQ := Lib.hid (HP.out.below Q.out)
  have cI := fun W (hW : Below w1.heap.size w1 W) => itoaBig (imm) W i0 i1 (HQ.out.below hW)
  have kc := Lib.hid (bl_keep hb (new_blk w _))
  obtain ⟨e0, e1, e2, e3, e4⟩ := five kc.out
  obtain ⟨t0, t1, t2, t3⟩ := (HT.out.below Q.out).row op ho.1 ho.2
  have t0' : w1.cell? ⟨0, (op.toNat - 1) * 4, none⟩ = some (.string (strL (nameOf op))) := t0
  clear t0 hb
  have hf : fmt op = 73 := by unfold fmt; rw [if_neg (by omega), if_pos (by omega)]
  go_wp2_with fail
  go_region_held3 (fun w' => w'.cell? ⟨w.heap.size, 0, none⟩ = some (.int .i64 op) ∧ w'.cell? ⟨w.heap.size, 1, none⟩ = some (.int .i64 rd) ∧ w'.cell? ⟨w.heap.size, 2, none⟩ = some (.int .i64 rs) ∧ w'.cell? ⟨w.heap.size, 3, none⟩ = some (.int .i64 0) ∧ w'.cell? ⟨w.heap.size, 4, none⟩ = some (.int .i64 imm)) (first | (simp [*]; done) | (go_simp; done) | (refine ⟨?_, ?_, ?_, ?_, ?_⟩ <;> go_simp)) (first | (go_at_call 43; (with_reducible refine (m1 _).mono ?_); rintro e w' ⟨rfl, rfl⟩) | (go_at_call 43; (with_reducible refine (m2 _).mono ?_); rintro e w' ⟨rfl, rfl⟩) | (go_at_call 43; (with_reducible refine (m3 _).mono ?_); rintro e w' ⟨rfl, rfl⟩) | (go_at_call 44; (with_reducible refine (cI _ (by repeat (with_reducible first | exact Below.refl _ _ | apply bl_drewN | apply bl_drew))).mono ?_); rintro e w2 ⟨rfl, hb⟩; obtain ⟨u0, u1, u2, u3, u4⟩ := five (bl_keep hb kc.out); have Q2 : Hid (Below w.heap.size w w2) := Lib.hid (bl_tr hb (by repeat (with_reducible first | exact Q.out | apply bl_drewN | apply bl_drew))); clear hb))
  have g1 : (op == 14) = true := by simp; omega
  have g2 : (op == 15) = false := by simp; omega
  go_wp2_with (first | (go_at_call 31; refine (formatOf_any _ _).mono ?_; rintro e w' ⟨rfl, rfl⟩))
  all_goals
    go_ret
    exact ⟨by rw [← HE.out]; rfl, by repeat (with_reducible first | exact Q2.out | apply bl_drewN | apply bl_drew)⟩
set_option maxRecDepth 100000 in
set_option maxHeartbeats 2000000 in
theorem text_M (op rd rs rt imm : Int) (w : World) (h : iv op rd rs rt imm = true) (hT : Tab w) (hP : TabQ w) (h1 : 15 ≤ op) (h2 : op ≤ 15) :
    Calls Tryd.prog 23 #[.agg #[.int .i64 op, .int .i64 rd, .int .i64 rs, .int .i64 rt, .int .i64 imm]] w fun e w' => e = .returned (.string (strL (textL op rd rs rt imm))) ∧ Below w.heap.size w w' := by
  have hV := iv_iff.1 h
  have ho := hV.split
  have hv : (0 ≤ rd ∧ rd < 32) ∧ (0 ≤ rs ∧ rs < 32) ∧ rt = 0 ∧ -2048 ≤ imm ∧ imm ≤ 2047 := by unfold IV reg at hV; omega
  obtain ⟨⟨a0, a1⟩, ⟨b0, b1⟩, rfl, j0, j1⟩ := hv
  have HT := Lib.hid hT
  have HP := Lib.hid hP
  clear hV hT hP
  have m1 := fun W => machineRegText_any (rd) W (by omega) (by omega)
  have m2 := fun W => machineRegText_any (rs) W (by omega) (by omega)
  have m3 := fun W => machineRegText_any (0) W (by omega) (by omega)
  have z0 := name_size op
  have z1 := X_size (rd) (by omega) (by omega)
  have z2 := X_size (rs) (by omega) (by omega)
  have z3 := X_size (0) (by omega) (by omega)
  have z4 : (strL (Lib.itoa (imm))).size ≤ 4000000 := by have := itoa_size (imm); omega
  have i0 : -9223372036854775808 ≤ (imm : Int) := by omega
  have i1 : (imm : Int) ≤ 9223372036854775807 := by omega
  have HE := Lib.hid (show strL (nameOf op) ++ (⟨#[32]⟩ : ByteArray) ++ strL (X rd) ++ (⟨#[44, 32]⟩ : ByteArray) ++ strL (Lib.itoa imm) ++ (⟨#[40]⟩ : ByteArray) ++ strL (X rs) ++ (⟨#[41]⟩ : ByteArray) = strL (textL op rd rs 0 imm) by
    unfold textL
    rw [if_neg (by omega), if_neg (by omega), if_pos (by omega)]
    simp only [show (⟨#[32]⟩ : ByteArray) = strL [32] from rfl, show (⟨#[40]⟩ : ByteArray) = strL [40] from rfl, show (⟨#[41]⟩ : ByteArray) = strL [41] from rfl, show (⟨#[44, 32]⟩ : ByteArray) = strL [44, 32] from rfl, strL_append])
  go_enter Tryd.func23, Tryd.ntmps23
  go_wp2_with fail
  refine (instrValid_any _ _ _ _ _ _).mono ?_
  rintro e w1 ⟨rfl, hb⟩
  have Q := Lib.hid (bl_tr hb (bl_alloc (Below.refl w.heap.size w) _))
  have HQ := Lib.hid (HP.out.below Q.out)
  have cI := fun W (hW : Below w1.heap.size w1 W) => itoaBig (imm) W i0 i1 (HQ.out.below hW)
  have kc := Lib.hid (bl_keep hb (new_blk w _))
  obtain ⟨e0, e1, e2, e3, e4⟩ := five kc.out
  obtain ⟨t0, t1, t2, t3⟩ := (HT.out.below Q.out).row op ho.1 ho.2
  have t0' : w1.cell? ⟨0, (op.toNat - 1) * 4, none⟩ = some (.string (strL (nameOf op))) := t0
  clear t0 hb
  have hf : fmt op = 73 := by unfold fmt; rw [if_neg (by omega), if_pos (by omega)]
  go_wp2_with fail
  go_region_held3 (fun w' => w'.cell? ⟨w.heap.size, 0, none⟩ = some (.int .i64 op) ∧ w'.cell? ⟨w.heap.size, 1, none⟩ = some (.int .i64 rd) ∧ w'.cell? ⟨w.heap.size, 2, none⟩ = some (.int .i64 rs) ∧ w'.cell? ⟨w.heap.size, 3, none⟩ = some (.int .i64 0) ∧ w'.cell? ⟨w.heap.size, 4, none⟩ = some (.int .i64 imm)) (first | (simp [*]; done) | (go_simp; done) | (refine ⟨?_, ?_, ?_, ?_, ?_⟩ <;> go_simp)) (first | (go_at_call 43; (with_reducible refine (m1 _).mono ?_); rintro e w' ⟨rfl, rfl⟩) | (go_at_call 43; (with_reducible refine (m2 _).mono ?_); rintro e w' ⟨rfl, rfl⟩) | (go_at_call 43; (with_reducible refine (m3 _).mono ?_); rintro e w' ⟨rfl, rfl⟩) | (go_at_call 44; (with_reducible refine (cI _ (by repeat (with_reducible first | exact Below.refl _ _ | apply bl_drewN | apply bl_drew))).mono ?_); rintro e w2 ⟨rfl, hb⟩; obtain ⟨u0, u1, u2, u3, u4⟩ := five (bl_keep hb kc.out); have Q2 : Hid (Below w.heap.size w w2) := Lib.hid (bl_tr hb (by repeat (with_reducible first | exact Q.out | apply bl_drewN | apply bl_drew))); clear hb))
  have g1 : (op == 14) = false := by simp; omega
  have g2 : (op == 15) = true := by simp; omega
  go_wp2_with (first | (go_at_call 31; refine (formatOf_any _ _).mono ?_; rintro e w' ⟨rfl, rfl⟩))
  all_goals
    go_ret
    exact ⟨by rw [← HE.out]; rfl, by repeat (with_reducible first | exact Q2.out | apply bl_drewN | apply bl_drew)⟩
set_option maxRecDepth 100000 in
set_option maxHeartbeats 2000000 in
theorem text_S (op rd rs rt imm : Int) (w : World) (h : iv op rd rs rt imm = true) (hT : Tab w) (hP : TabQ w) (h1 : 16 ≤ op) (h2 : op ≤ 16) :
    Calls Tryd.prog 23 #[.agg #[.int .i64 op, .int .i64 rd, .int .i64 rs, .int .i64 rt, .int .i64 imm]] w fun e w' => e = .returned (.string (strL (textL op rd rs rt imm))) ∧ Below w.heap.size w w' := by
  have hV := iv_iff.1 h
  have ho := hV.split
  have hv : rd = 0 ∧ (0 ≤ rs ∧ rs < 32) ∧ (0 ≤ rt ∧ rt < 32) ∧ -2048 ≤ imm ∧ imm ≤ 2047 := by unfold IV reg at hV; omega
  obtain ⟨rfl, ⟨a0, a1⟩, ⟨b0, b1⟩, j0, j1⟩ := hv
  have HT := Lib.hid hT
  have HP := Lib.hid hP
  clear hV hT hP
  have m1 := fun W => machineRegText_any (0) W (by omega) (by omega)
  have m2 := fun W => machineRegText_any (rs) W (by omega) (by omega)
  have m3 := fun W => machineRegText_any (rt) W (by omega) (by omega)
  have z0 := name_size op
  have z1 := X_size (0) (by omega) (by omega)
  have z2 := X_size (rs) (by omega) (by omega)
  have z3 := X_size (rt) (by omega) (by omega)
  have z4 : (strL (Lib.itoa (imm))).size ≤ 4000000 := by have := itoa_size (imm); omega
  have i0 : -9223372036854775808 ≤ (imm : Int) := by omega
  have i1 : (imm : Int) ≤ 9223372036854775807 := by omega
  have HE := Lib.hid (show strL (nameOf op) ++ (⟨#[32]⟩ : ByteArray) ++ strL (X rt) ++ (⟨#[44, 32]⟩ : ByteArray) ++ strL (Lib.itoa imm) ++ (⟨#[40]⟩ : ByteArray) ++ strL (X rs) ++ (⟨#[41]⟩ : ByteArray) = strL (textL op 0 rs rt imm) by
    unfold textL
    rw [if_neg (by omega), if_neg (by omega), if_neg (by omega), if_pos (by omega)]
    simp only [show (⟨#[32]⟩ : ByteArray) = strL [32] from rfl, show (⟨#[40]⟩ : ByteArray) = strL [40] from rfl, show (⟨#[41]⟩ : ByteArray) = strL [41] from rfl, show (⟨#[44, 32]⟩ : ByteArray) = strL [44, 32] from rfl, strL_append])
  go_enter Tryd.func23, Tryd.ntmps23
  go_wp2_with fail
  refine (instrValid_any _ _ _ _ _ _).mono ?_
  rintro e w1 ⟨rfl, hb⟩
  have Q := Lib.hid (bl_tr hb (bl_alloc (Below.refl w.heap.size w) _))
  have HQ := Lib.hid (HP.out.below Q.out)
  have cI := fun W (hW : Below w1.heap.size w1 W) => itoaBig (imm) W i0 i1 (HQ.out.below hW)
  have kc := Lib.hid (bl_keep hb (new_blk w _))
  obtain ⟨e0, e1, e2, e3, e4⟩ := five kc.out
  obtain ⟨t0, t1, t2, t3⟩ := (HT.out.below Q.out).row op ho.1 ho.2
  have t0' : w1.cell? ⟨0, (op.toNat - 1) * 4, none⟩ = some (.string (strL (nameOf op))) := t0
  clear t0 hb
  have hf : fmt op = 83 := by unfold fmt; rw [if_neg (by omega), if_neg (by omega), if_pos (by omega)]
  go_wp2_with fail
  go_region_held3 (fun w' => w'.cell? ⟨w.heap.size, 0, none⟩ = some (.int .i64 op) ∧ w'.cell? ⟨w.heap.size, 1, none⟩ = some (.int .i64 0) ∧ w'.cell? ⟨w.heap.size, 2, none⟩ = some (.int .i64 rs) ∧ w'.cell? ⟨w.heap.size, 3, none⟩ = some (.int .i64 rt) ∧ w'.cell? ⟨w.heap.size, 4, none⟩ = some (.int .i64 imm)) (first | (simp [*]; done) | (go_simp; done) | (refine ⟨?_, ?_, ?_, ?_, ?_⟩ <;> go_simp)) (first | (go_at_call 43; (with_reducible refine (m1 _).mono ?_); rintro e w' ⟨rfl, rfl⟩) | (go_at_call 43; (with_reducible refine (m2 _).mono ?_); rintro e w' ⟨rfl, rfl⟩) | (go_at_call 43; (with_reducible refine (m3 _).mono ?_); rintro e w' ⟨rfl, rfl⟩) | (go_at_call 44; (with_reducible refine (cI _ (by repeat (with_reducible first | exact Below.refl _ _ | apply bl_drewN | apply bl_drew))).mono ?_); rintro e w2 ⟨rfl, hb⟩; obtain ⟨u0, u1, u2, u3, u4⟩ := five (bl_keep hb kc.out); have Q2 : Hid (Below w.heap.size w w2) := Lib.hid (bl_tr hb (by repeat (with_reducible first | exact Q.out | apply bl_drewN | apply bl_drew))); clear hb))
  go_wp2_with (first | (go_at_call 31; refine (formatOf_any _ _).mono ?_; rintro e w' ⟨rfl, rfl⟩))
  all_goals
    go_ret
    exact ⟨by rw [← HE.out]; rfl, by repeat (with_reducible first | exact Q2.out | apply bl_drewN | apply bl_drew)⟩
set_option maxRecDepth 100000 in
set_option maxHeartbeats 2000000 in
theorem text_B (op rd rs rt imm : Int) (w : World) (h : iv op rd rs rt imm = true) (hT : Tab w) (hP : TabQ w) (h1 : 17 ≤ op) (h2 : op ≤ 18) :
    Calls Tryd.prog 23 #[.agg #[.int .i64 op, .int .i64 rd, .int .i64 rs, .int .i64 rt, .int .i64 imm]] w fun e w' => e = .returned (.string (strL (textL op rd rs rt imm))) ∧ Below w.heap.size w w' := by
  have hV := iv_iff.1 h
  have ho := hV.split
  have hv : rd = 0 ∧ (0 ≤ rs ∧ rs < 32) ∧ (0 ≤ rt ∧ rt < 32) ∧ -4096 ≤ imm ∧ imm ≤ 4094 := by unfold IV reg at hV; omega
  obtain ⟨rfl, ⟨a0, a1⟩, ⟨b0, b1⟩, j0, j1⟩ := hv
  have HT := Lib.hid hT
  have HP := Lib.hid hP
  clear hV hT hP
  have m1 := fun W => machineRegText_any (0) W (by omega) (by omega)
  have m2 := fun W => machineRegText_any (rs) W (by omega) (by omega)
  have m3 := fun W => machineRegText_any (rt) W (by omega) (by omega)
  have z0 := name_size op
  have z1 := X_size (0) (by omega) (by omega)
  have z2 := X_size (rs) (by omega) (by omega)
  have z3 := X_size (rt) (by omega) (by omega)
  have z4 : (strL (Lib.itoa (imm))).size ≤ 4000000 := by have := itoa_size (imm); omega
  have i0 : -9223372036854775808 ≤ (imm : Int) := by omega
  have i1 : (imm : Int) ≤ 9223372036854775807 := by omega
  have HE := Lib.hid (show strL (nameOf op) ++ (⟨#[32]⟩ : ByteArray) ++ strL (X rs) ++ (⟨#[44, 32]⟩ : ByteArray) ++ strL (X rt) ++ (⟨#[44, 32]⟩ : ByteArray) ++ strL (Lib.itoa imm) = strL (textL op 0 rs rt imm) by
    unfold textL
    rw [if_neg (by omega), if_neg (by omega), if_neg (by omega), if_neg (by omega), if_pos (by omega)]
    simp only [show (⟨#[32]⟩ : ByteArray) = strL [32] from rfl, show (⟨#[44, 32]⟩ : ByteArray) = strL [44, 32] from rfl, strL_append])
  go_enter Tryd.func23, Tryd.ntmps23
  go_wp2_with fail
  refine (instrValid_any _ _ _ _ _ _).mono ?_
  rintro e w1 ⟨rfl, hb⟩
  have Q := Lib.hid (bl_tr hb (bl_alloc (Below.refl w.heap.size w) _))
  have HQ := Lib.hid (HP.out.below Q.out)
  have cI := fun W (hW : Below w1.heap.size w1 W) => itoaBig (imm) W i0 i1 (HQ.out.below hW)
  have kc := Lib.hid (bl_keep hb (new_blk w _))
  obtain ⟨e0, e1, e2, e3, e4⟩ := five kc.out
  obtain ⟨t0, t1, t2, t3⟩ := (HT.out.below Q.out).row op ho.1 ho.2
  have t0' : w1.cell? ⟨0, (op.toNat - 1) * 4, none⟩ = some (.string (strL (nameOf op))) := t0
  clear t0 hb
  have hf : fmt op = 66 := by unfold fmt; rw [if_neg (by omega), if_neg (by omega), if_neg (by omega), if_pos (by omega)]
  go_wp2_with fail
  go_region_held3 (fun w' => w'.cell? ⟨w.heap.size, 0, none⟩ = some (.int .i64 op) ∧ w'.cell? ⟨w.heap.size, 1, none⟩ = some (.int .i64 0) ∧ w'.cell? ⟨w.heap.size, 2, none⟩ = some (.int .i64 rs) ∧ w'.cell? ⟨w.heap.size, 3, none⟩ = some (.int .i64 rt) ∧ w'.cell? ⟨w.heap.size, 4, none⟩ = some (.int .i64 imm)) (first | (simp [*]; done) | (go_simp; done) | (refine ⟨?_, ?_, ?_, ?_, ?_⟩ <;> go_simp)) (first | (go_at_call 43; (with_reducible refine (m1 _).mono ?_); rintro e w' ⟨rfl, rfl⟩) | (go_at_call 43; (with_reducible refine (m2 _).mono ?_); rintro e w' ⟨rfl, rfl⟩) | (go_at_call 43; (with_reducible refine (m3 _).mono ?_); rintro e w' ⟨rfl, rfl⟩) | (go_at_call 44; (with_reducible refine (cI _ (by repeat (with_reducible first | exact Below.refl _ _ | apply bl_drewN | apply bl_drew))).mono ?_); rintro e w2 ⟨rfl, hb⟩; obtain ⟨u0, u1, u2, u3, u4⟩ := five (bl_keep hb kc.out); have Q2 : Hid (Below w.heap.size w w2) := Lib.hid (bl_tr hb (by repeat (with_reducible first | exact Q.out | apply bl_drewN | apply bl_drew))); clear hb))
  go_wp2_with (first | (go_at_call 31; refine (formatOf_any _ _).mono ?_; rintro e w' ⟨rfl, rfl⟩))
  all_goals
    go_ret
    exact ⟨by rw [← HE.out]; rfl, by repeat (with_reducible first | exact Q2.out | apply bl_drewN | apply bl_drew)⟩
set_option maxRecDepth 100000 in
set_option maxHeartbeats 2000000 in
theorem text_U (op rd rs rt imm : Int) (w : World) (h : iv op rd rs rt imm = true) (hT : Tab w) (hP : TabQ w) (h1 : 19 ≤ op) (h2 : op ≤ 19) :
    Calls Tryd.prog 23 #[.agg #[.int .i64 op, .int .i64 rd, .int .i64 rs, .int .i64 rt, .int .i64 imm]] w fun e w' => e = .returned (.string (strL (textL op rd rs rt imm))) ∧ Below w.heap.size w w' := by
  have hV := iv_iff.1 h
  have ho := hV.split
  have hv : (0 ≤ rd ∧ rd < 32) ∧ rs = 0 ∧ rt = 0 ∧ 0 ≤ imm ∧ imm ≤ 1048575 := by unfold IV reg at hV; omega
  obtain ⟨⟨a0, a1⟩, rfl, rfl, j0, j1⟩ := hv
  have HT := Lib.hid hT
  have HP := Lib.hid hP
  clear hV hT hP
  have m1 := fun W => machineRegText_any (rd) W (by omega) (by omega)
  have m2 := fun W => machineRegText_any (0) W (by omega) (by omega)
  have m3 := fun W => machineRegText_any (0) W (by omega) (by omega)
  have z0 := name_size op
  have z1 := X_size (rd) (by omega) (by omega)
  have z2 := X_size (0) (by omega) (by omega)
  have z3 := X_size (0) (by omega) (by omega)
  have z4 : (strL (Lib.itoa (imm))).size ≤ 4000000 := by have := itoa_size (imm); omega
  have i0 : -9223372036854775808 ≤ (imm : Int) := by omega
  have i1 : (imm : Int) ≤ 9223372036854775807 := by omega
  have HE := Lib.hid (show strL (nameOf op) ++ (⟨#[32]⟩ : ByteArray) ++ strL (X rd) ++ (⟨#[44, 32]⟩ : ByteArray) ++ strL (Lib.itoa imm) = strL (textL op rd 0 0 imm) by
    unfold textL
    rw [if_neg (by omega), if_neg (by omega), if_neg (by omega), if_neg (by omega), if_neg (by omega), if_pos (by omega)]
    simp only [show (⟨#[32]⟩ : ByteArray) = strL [32] from rfl, show (⟨#[44, 32]⟩ : ByteArray) = strL [44, 32] from rfl, strL_append])
  go_enter Tryd.func23, Tryd.ntmps23
  go_wp2_with fail
  refine (instrValid_any _ _ _ _ _ _).mono ?_
  rintro e w1 ⟨rfl, hb⟩
  have Q := Lib.hid (bl_tr hb (bl_alloc (Below.refl w.heap.size w) _))
  have HQ := Lib.hid (HP.out.below Q.out)
  have cI := fun W (hW : Below w1.heap.size w1 W) => itoaBig (imm) W i0 i1 (HQ.out.below hW)
  have kc := Lib.hid (bl_keep hb (new_blk w _))
  obtain ⟨e0, e1, e2, e3, e4⟩ := five kc.out
  obtain ⟨t0, t1, t2, t3⟩ := (HT.out.below Q.out).row op ho.1 ho.2
  have t0' : w1.cell? ⟨0, (op.toNat - 1) * 4, none⟩ = some (.string (strL (nameOf op))) := t0
  clear t0 hb
  have hf : fmt op = 85 := by unfold fmt; rw [if_neg (by omega), if_neg (by omega), if_neg (by omega), if_neg (by omega), if_pos (by omega)]
  go_wp2_with fail
  go_region_held3 (fun w' => w'.cell? ⟨w.heap.size, 0, none⟩ = some (.int .i64 op) ∧ w'.cell? ⟨w.heap.size, 1, none⟩ = some (.int .i64 rd) ∧ w'.cell? ⟨w.heap.size, 2, none⟩ = some (.int .i64 0) ∧ w'.cell? ⟨w.heap.size, 3, none⟩ = some (.int .i64 0) ∧ w'.cell? ⟨w.heap.size, 4, none⟩ = some (.int .i64 imm)) (first | (simp [*]; done) | (go_simp; done) | (refine ⟨?_, ?_, ?_, ?_, ?_⟩ <;> go_simp)) (first | (go_at_call 43; (with_reducible refine (m1 _).mono ?_); rintro e w' ⟨rfl, rfl⟩) | (go_at_call 43; (with_reducible refine (m2 _).mono ?_); rintro e w' ⟨rfl, rfl⟩) | (go_at_call 43; (with_reducible refine (m3 _).mono ?_); rintro e w' ⟨rfl, rfl⟩) | (go_at_call 44; (with_reducible refine (cI _ (by repeat (with_reducible first | exact Below.refl _ _ | apply bl_drewN | apply bl_drew))).mono ?_); rintro e w2 ⟨rfl, hb⟩; obtain ⟨u0, u1, u2, u3, u4⟩ := five (bl_keep hb kc.out); have Q2 : Hid (Below w.heap.size w w2) := Lib.hid (bl_tr hb (by repeat (with_reducible first | exact Q.out | apply bl_drewN | apply bl_drew))); clear hb))
  go_wp2_with (first | (go_at_call 31; refine (formatOf_any _ _).mono ?_; rintro e w' ⟨rfl, rfl⟩))
  all_goals
    go_ret
    exact ⟨by rw [← HE.out]; rfl, by repeat (with_reducible first | exact Q2.out | apply bl_drewN | apply bl_drew)⟩
set_option maxRecDepth 100000 in
set_option maxHeartbeats 2000000 in
theorem text_J (op rd rs rt imm : Int) (w : World) (h : iv op rd rs rt imm = true) (hT : Tab w) (hP : TabQ w) (h1 : 20 ≤ op) (h2 : op ≤ 20) :
    Calls Tryd.prog 23 #[.agg #[.int .i64 op, .int .i64 rd, .int .i64 rs, .int .i64 rt, .int .i64 imm]] w fun e w' => e = .returned (.string (strL (textL op rd rs rt imm))) ∧ Below w.heap.size w w' := by
  have hV := iv_iff.1 h
  have ho := hV.split
  have hv : (0 ≤ rd ∧ rd < 32) ∧ rs = 0 ∧ rt = 0 ∧ -1048576 ≤ imm ∧ imm ≤ 1048574 := by unfold IV reg at hV; omega
  obtain ⟨⟨a0, a1⟩, rfl, rfl, j0, j1⟩ := hv
  have HT := Lib.hid hT
  have HP := Lib.hid hP
  clear hV hT hP
  have m1 := fun W => machineRegText_any (rd) W (by omega) (by omega)
  have m2 := fun W => machineRegText_any (0) W (by omega) (by omega)
  have m3 := fun W => machineRegText_any (0) W (by omega) (by omega)
  have z0 := name_size op
  have z1 := X_size (rd) (by omega) (by omega)
  have z2 := X_size (0) (by omega) (by omega)
  have z3 := X_size (0) (by omega) (by omega)
  have z4 : (strL (Lib.itoa (imm))).size ≤ 4000000 := by have := itoa_size (imm); omega
  have i0 : -9223372036854775808 ≤ (imm : Int) := by omega
  have i1 : (imm : Int) ≤ 9223372036854775807 := by omega
  have HE := Lib.hid (show strL (nameOf op) ++ (⟨#[32]⟩ : ByteArray) ++ strL (X rd) ++ (⟨#[44, 32]⟩ : ByteArray) ++ strL (Lib.itoa imm) = strL (textL op rd 0 0 imm) by
    unfold textL
    rw [if_neg (by omega), if_neg (by omega), if_neg (by omega), if_neg (by omega), if_neg (by omega), if_pos (by omega)]
    simp only [show (⟨#[32]⟩ : ByteArray) = strL [32] from rfl, show (⟨#[44, 32]⟩ : ByteArray) = strL [44, 32] from rfl, strL_append])
  go_enter Tryd.func23, Tryd.ntmps23
  go_wp2_with fail
  refine (instrValid_any _ _ _ _ _ _).mono ?_
  rintro e w1 ⟨rfl, hb⟩
  have Q := Lib.hid (bl_tr hb (bl_alloc (Below.refl w.heap.size w) _))
  have HQ := Lib.hid (HP.out.below Q.out)
  have cI := fun W (hW : Below w1.heap.size w1 W) => itoaBig (imm) W i0 i1 (HQ.out.below hW)
  have kc := Lib.hid (bl_keep hb (new_blk w _))
  obtain ⟨e0, e1, e2, e3, e4⟩ := five kc.out
  obtain ⟨t0, t1, t2, t3⟩ := (HT.out.below Q.out).row op ho.1 ho.2
  have t0' : w1.cell? ⟨0, (op.toNat - 1) * 4, none⟩ = some (.string (strL (nameOf op))) := t0
  clear t0 hb
  have hf : fmt op = 74 := by unfold fmt; rw [if_neg (by omega), if_neg (by omega), if_neg (by omega), if_neg (by omega), if_neg (by omega), if_pos (by omega)]
  go_wp2_with fail
  go_region_held3 (fun w' => w'.cell? ⟨w.heap.size, 0, none⟩ = some (.int .i64 op) ∧ w'.cell? ⟨w.heap.size, 1, none⟩ = some (.int .i64 rd) ∧ w'.cell? ⟨w.heap.size, 2, none⟩ = some (.int .i64 0) ∧ w'.cell? ⟨w.heap.size, 3, none⟩ = some (.int .i64 0) ∧ w'.cell? ⟨w.heap.size, 4, none⟩ = some (.int .i64 imm)) (first | (simp [*]; done) | (go_simp; done) | (refine ⟨?_, ?_, ?_, ?_, ?_⟩ <;> go_simp)) (first | (go_at_call 43; (with_reducible refine (m1 _).mono ?_); rintro e w' ⟨rfl, rfl⟩) | (go_at_call 43; (with_reducible refine (m2 _).mono ?_); rintro e w' ⟨rfl, rfl⟩) | (go_at_call 43; (with_reducible refine (m3 _).mono ?_); rintro e w' ⟨rfl, rfl⟩) | (go_at_call 44; (with_reducible refine (cI _ (by repeat (with_reducible first | exact Below.refl _ _ | apply bl_drewN | apply bl_drew))).mono ?_); rintro e w2 ⟨rfl, hb⟩; obtain ⟨u0, u1, u2, u3, u4⟩ := five (bl_keep hb kc.out); have Q2 : Hid (Below w.heap.size w w2) := Lib.hid (bl_tr hb (by repeat (with_reducible first | exact Q.out | apply bl_drewN | apply bl_drew))); clear hb))
  go_wp2_with (first | (go_at_call 31; refine (formatOf_any _ _).mono ?_; rintro e w' ⟨rfl, rfl⟩))
  all_goals
    go_ret
    exact ⟨by rw [← HE.out]; rfl, by repeat (with_reducible first | exact Q2.out | apply bl_drewN | apply bl_drew)⟩
set_option maxRecDepth 100000 in
set_option maxHeartbeats 2000000 in
theorem text_E (op rd rs rt imm : Int) (w : World) (h : iv op rd rs rt imm = true) (hT : Tab w) (hP : TabQ w) (h1 : 21 ≤ op) :
    Calls Tryd.prog 23 #[.agg #[.int .i64 op, .int .i64 rd, .int .i64 rs, .int .i64 rt, .int .i64 imm]] w fun e w' => e = .returned (.string (strL (textL op rd rs rt imm))) ∧ Below w.heap.size w w' := by
  have hV := iv_iff.1 h
  have ho := hV.split
  have hv : rd = 0 ∧ rs = 0 ∧ rt = 0 ∧ imm = 0 := by unfold IV reg at hV; omega
  obtain ⟨rfl, rfl, rfl, rfl⟩ := hv
  have HT := Lib.hid hT
  have HP := Lib.hid hP
  clear hV hT hP
  have m1 := fun W => machineRegText_any (0) W (by omega) (by omega)
  have m2 := fun W => machineRegText_any (0) W (by omega) (by omega)
  have m3 := fun W => machineRegText_any (0) W (by omega) (by omega)
  have z0 := name_size op
  have z1 := X_size (0) (by omega) (by omega)
  have z2 := X_size (0) (by omega) (by omega)
  have z3 := X_size (0) (by omega) (by omega)
  have z4 : (strL (Lib.itoa (0))).size ≤ 4000000 := by have := itoa_size (0); omega
  have i0 : -9223372036854775808 ≤ (0 : Int) := by omega
  have i1 : (0 : Int) ≤ 9223372036854775807 := by omega
  have HE := Lib.hid (show strL (nameOf op) = strL (textL op 0 0 0 0) by
    unfold textL
    rw [if_neg (by omega), if_neg (by omega), if_neg (by omega), if_neg (by omega), if_neg (by omega), if_neg (by omega)]
    skip)
  go_enter Tryd.func23, Tryd.ntmps23
  go_wp2_with fail
  refine (instrValid_any _ _ _ _ _ _).mono ?_
  rintro e w1 ⟨rfl, hb⟩
  have Q := Lib.hid (bl_tr hb (bl_alloc (Below.refl w.heap.size w) _))
  have HQ := Lib.hid (HP.out.below Q.out)
  have cI := fun W (hW : Below w1.heap.size w1 W) => itoaBig (0) W i0 i1 (HQ.out.below hW)
  have kc := Lib.hid (bl_keep hb (new_blk w _))
  obtain ⟨e0, e1, e2, e3, e4⟩ := five kc.out
  obtain ⟨t0, t1, t2, t3⟩ := (HT.out.below Q.out).row op ho.1 ho.2
  have t0' : w1.cell? ⟨0, (op.toNat - 1) * 4, none⟩ = some (.string (strL (nameOf op))) := t0
  clear t0 hb
  have hf : fmt op = 69 := by unfold fmt; rw [if_neg (by omega), if_neg (by omega), if_neg (by omega), if_neg (by omega), if_neg (by omega), if_neg (by omega), if_pos (by omega)]
  go_wp2_with fail
  go_region_held3 (fun w' => w'.cell? ⟨w.heap.size, 0, none⟩ = some (.int .i64 op) ∧ w'.cell? ⟨w.heap.size, 1, none⟩ = some (.int .i64 0) ∧ w'.cell? ⟨w.heap.size, 2, none⟩ = some (.int .i64 0) ∧ w'.cell? ⟨w.heap.size, 3, none⟩ = some (.int .i64 0) ∧ w'.cell? ⟨w.heap.size, 4, none⟩ = some (.int .i64 0)) (first | (simp [*]; done) | (go_simp; done) | (refine ⟨?_, ?_, ?_, ?_, ?_⟩ <;> go_simp)) (first | (go_at_call 43; (with_reducible refine (m1 _).mono ?_); rintro e w' ⟨rfl, rfl⟩) | (go_at_call 43; (with_reducible refine (m2 _).mono ?_); rintro e w' ⟨rfl, rfl⟩) | (go_at_call 43; (with_reducible refine (m3 _).mono ?_); rintro e w' ⟨rfl, rfl⟩) | (go_at_call 44; (with_reducible refine (cI _ (by repeat (with_reducible first | exact Below.refl _ _ | apply bl_drewN | apply bl_drew))).mono ?_); rintro e w2 ⟨rfl, hb⟩; obtain ⟨u0, u1, u2, u3, u4⟩ := five (bl_keep hb kc.out); have Q2 : Hid (Below w.heap.size w w2) := Lib.hid (bl_tr hb (by repeat (with_reducible first | exact Q.out | apply bl_drewN | apply bl_drew))); clear hb))
  go_wp2_with (first | (go_at_call 31; refine (formatOf_any _ _).mono ?_; rintro e w' ⟨rfl, rfl⟩))
  all_goals
    go_ret
    exact ⟨by rw [← HE.out]; rfl, by repeat (with_reducible first | exact Q2.out | apply bl_drewN | apply bl_drew)⟩
theorem text_no (op rd rs rt imm : Int) (w : World) (h : iv op rd rs rt imm = false) :
    Calls Tryd.prog 23 #[.agg #[.int .i64 op, .int .i64 rd, .int .i64 rs, .int .i64 rt, .int .i64 imm]] w fun e w' => e = .returned (.string (strL [])) ∧ Below w.heap.size w w' := by
  go_enter Tryd.func23, Tryd.ntmps23
  go_wp2_with fail
  refine (instrValid_any _ _ _ _ _ _).mono ?_
  rw [h]
  rintro e w1 ⟨rfl, hb⟩
  have Q := Lib.hid (bl_tr hb (bl_alloc (Below.refl w.heap.size w) _))
  clear hb
  go_wp2
  go_ret
  exact ⟨rfl, Q.out⟩
def TxP (op rd rs rt imm : Int) (w : World) (e : Ending) (w' : World) : Prop := e = .returned (.string (strL (textV op rd rs rt imm))) ∧ Below w.heap.size w w'
theorem textV_yes {op rd rs rt imm : Int} (h : iv op rd rs rt imm = true) : textV op rd rs rt imm = textL op rd rs rt imm := by unfold textV; rw [if_pos h]
theorem textV_no {op rd rs rt imm : Int} (h : iv op rd rs rt imm = false) : textV op rd rs rt imm = [] := by unfold textV; rw [if_neg (by rw [h]; decide)]
theorem instrText_any (op rd rs rt imm : Int) (w : World) (hT : Tab w) (hP : TabQ w) :
    Calls Tryd.prog 23 #[.agg #[.int .i64 op, .int .i64 rd, .int .i64 rs, .int .i64 rt, .int .i64 imm]] w (TxP op rd rs rt imm w) := by
  cases h : iv op rd rs rt imm with
  | false => unfold TxP; rw [textV_no h]; exact text_no op rd rs rt imm w h
  | true =>
    unfold TxP; rw [textV_yes h]
    rcases (by omega : op ≤ 11 ∨ (12 ≤ op ∧ op ≤ 13) ∨ (14 ≤ op ∧ op ≤ 14) ∨ (15 ≤ op ∧ op ≤ 15) ∨ (16 ≤ op ∧ op ≤ 16) ∨ (17 ≤ op ∧ op ≤ 18) ∨ (19 ≤ op ∧ op ≤ 19) ∨ (20 ≤ op ∧ op ≤ 20) ∨ 21 ≤ op) with k | k | k | k | k | k | k | k | k
    · exact text_R op rd rs rt imm w h hT hP k
    · exact text_I op rd rs rt imm w h hT hP k.1 k.2
    · exact text_L op rd rs rt imm w h hT hP k.1 k.2
    · exact text_M op rd rs rt imm w h hT hP k.1 k.2
    · exact text_S op rd rs rt imm w h hT hP k.1 k.2
    · exact text_B op rd rs rt imm w h hT hP k.1 k.2
    · exact text_U op rd rs rt imm w h hT hP k.1 k.2
    · exact text_J op rd rs rt imm w h hT hP k.1 k.2
    · exact text_E op rd rs rt imm w h hT hP k
end Go.Proofs.YthmfkdlncnjjoaaDoor
