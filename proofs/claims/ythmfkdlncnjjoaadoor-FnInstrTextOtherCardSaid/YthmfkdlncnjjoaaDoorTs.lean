/- The walk of the reference's InstrText. -/
import Derived.Test.YthmfkdlncnjjoaaDoorTw
import Derived.Laws.Concat
namespace Go.Proofs.YthmfkdlncnjjoaaDoor
open Go.RowKit IM
set_option linter.unusedSimpArgs false
set_option linter.unusedVariables false
def names21 : Array Value := #[.string ⟨#[97, 100, 100]⟩, .string ⟨#[115, 117, 98]⟩, .string ⟨#[109, 117, 108]⟩, .string ⟨#[100, 105, 118]⟩, .string ⟨#[114, 101, 109]⟩, .string ⟨#[97, 110, 100]⟩, .string ⟨#[111, 114]⟩, .string ⟨#[120, 111, 114]⟩, .string ⟨#[115, 108, 108]⟩, .string ⟨#[115, 114, 97]⟩, .string ⟨#[115, 108, 116]⟩, .string ⟨#[97, 100, 100, 105]⟩, .string ⟨#[115, 108, 116, 105, 117]⟩, .string ⟨#[108, 119]⟩, .string ⟨#[106, 97, 108, 114]⟩, .string ⟨#[115, 119]⟩, .string ⟨#[98, 101, 113]⟩, .string ⟨#[98, 110, 101]⟩, .string ⟨#[108, 117, 105]⟩, .string ⟨#[106, 97, 108]⟩, .string ⟨#[101, 99, 97, 108, 108]⟩]
theorem names21_at (op : Int) (h0 : 1 ≤ op) (h1 : op ≤ 21) : names21[op.toNat - 1]? = some (.string (strL (nameOf op))) := by
  rcases (by omega : op = 1 ∨ op = 2 ∨ op = 3 ∨ op = 4 ∨ op = 5 ∨ op = 6 ∨ op = 7 ∨ op = 8 ∨ op = 9 ∨ op = 10 ∨ op = 11 ∨ op = 12 ∨ op = 13 ∨ op = 14 ∨ op = 15 ∨ op = 16 ∨ op = 17 ∨ op = 18 ∨ op = 19 ∨ op = 20 ∨ op = 21) with rfl | rfl | rfl | rfl | rfl | rfl | rfl | rfl | rfl | rfl | rfl | rfl | rfl | rfl | rfl | rfl | rfl | rfl | rfl | rfl | rfl
  all_goals rfl
theorem new_cell3 (w : World) (cs : Array Value) (T i : Nat) (v : Value) (h : cs[i]? = some v) : (w.alloc (.cells cs T)).cell? ⟨w.heap.size, i, none⟩ = some v := by
  unfold World.cell?
  rw [new_blk w _]
  exact h
set_option maxRecDepth 100000 in
set_option maxHeartbeats 1000000 in
theorem l42Name_any (op : Int) (w : World) (h0 : 1 ≤ op) (h1 : op ≤ 21) :
    Calls Tryd.prog 40 #[.int .i64 op] w fun e w' => e = .returned (.string (strL (nameOf op))) ∧ Below w.heap.size w w' := by
  have hc := new_cell3 w names21 9 _ _ (names21_at op h0 h1)
  unfold names21 at hc
  go_enter Tryd.func40, Tryd.ntmps40
  go_wp2
  go_ret
  exact ⟨rfl, by repeat (first | (with_reducible exact Below.refl _ _) | (with_reducible apply bl_alloc) | (with_reducible apply bl_drewN) | (with_reducible apply bl_drew))⟩
set_option maxHeartbeats 1000000 in
theorem l42X_any (r : Int) (w : World) (h0 : 0 ≤ r) (h1 : r < 32) :
    Calls Tryd.prog 42 #[.int .i64 r] w fun e w' => e = .returned (.string (strL (X r))) ∧ Below w.heap.size w w' := by
  have c1 := fun W => l6Dec_any r W (by omega) (by omega)
  have z1 : (strL (Lib.itoa r)).size ≤ 100 := by have := itoa_size r; omega
  have H := Lib.hid (show (⟨#[120]⟩ : ByteArray) ++ strL (Lib.itoa r) = strL (X r) by rw [show (⟨#[120]⟩ : ByteArray) = strL [120] from rfl, strL_append, X]; rfl)
  go_enter Tryd.func42, Tryd.ntmps42
  go_wp2_with (go_at_call 41; (with_reducible refine (c1 _).mono ?_); rintro e w1 ⟨rfl, hb⟩; have Q1 := Lib.hid hb; clear hb)
  go_ret
  exact ⟨by rw [← H.out]; rfl, Q1.out⟩
set_option maxRecDepth 100000 in
set_option maxHeartbeats 2000000 in
theorem stext_R (op rd rs rt imm : Int) (w : World) (h : iv op rd rs rt imm = true) (h1 : op ≤ 11) :
    Calls Tryd.prog 22 #[.agg #[.int .i64 op, .int .i64 rd, .int .i64 rs, .int .i64 rt, .int .i64 imm]] w fun e w' => e = .returned (.string (strL (textL op rd rs rt imm))) ∧ Below w.heap.size w w' := by
  have hV := iv_iff.1 h
  have ho := hV.split
  have hv : (0 ≤ rd ∧ rd < 32) ∧ (0 ≤ rs ∧ rs < 32) ∧ (0 ≤ rt ∧ rt < 32) ∧ imm = 0 := by unfold IV reg at hV; omega
  obtain ⟨⟨a0, a1⟩, ⟨b0, b1⟩, ⟨c0, c1⟩, rfl⟩ := hv
  clear hV
  have m1 := fun W => l42X_any (rd) W (by omega) (by omega)
  have m2 := fun W => l42X_any (rs) W (by omega) (by omega)
  have m3 := fun W => l42X_any (rt) W (by omega) (by omega)
  have cN := fun W => l42Name_any op W ho.1 ho.2
  have cD := fun W => l6Dec_any (0) W (by omega) (by omega)
  have z0 := name_size op
  have z1 := X_size (rd) (by omega) (by omega)
  have z2 := X_size (rs) (by omega) (by omega)
  have z3 := X_size (rt) (by omega) (by omega)
  have z4 : (strL (Lib.itoa (0))).size ≤ 4000000 := by have := itoa_size (0); omega
  have l1 : (⟨#[32]⟩ : ByteArray).size = 1 := rfl
  have l2 : (⟨#[44, 32]⟩ : ByteArray).size = 2 := rfl
  have l3 : (⟨#[40]⟩ : ByteArray).size = 1 := rfl
  have l4 : (⟨#[41]⟩ : ByteArray).size = 1 := rfl
  have s0 := fun W : World => run_string_add_sum (P := Tryd.prog) W (strL (nameOf op)) ((⟨#[32]⟩ : ByteArray)) (by (try simp only [ByteArray.size_append]); omega)
  have s1 := fun W : World => run_string_add_sum (P := Tryd.prog) W (strL (nameOf op) ++ (⟨#[32]⟩ : ByteArray)) (strL (X rd)) (by (try simp only [ByteArray.size_append]); omega)
  have s2 := fun W : World => run_string_add_sum (P := Tryd.prog) W (strL (nameOf op) ++ (⟨#[32]⟩ : ByteArray) ++ strL (X rd)) ((⟨#[44, 32]⟩ : ByteArray)) (by (try simp only [ByteArray.size_append]); omega)
  have s3 := fun W : World => run_string_add_sum (P := Tryd.prog) W (strL (nameOf op) ++ (⟨#[32]⟩ : ByteArray) ++ strL (X rd) ++ (⟨#[44, 32]⟩ : ByteArray)) (strL (X rs)) (by (try simp only [ByteArray.size_append]); omega)
  have s4 := fun W : World => run_string_add_sum (P := Tryd.prog) W (strL (nameOf op) ++ (⟨#[32]⟩ : ByteArray) ++ strL (X rd) ++ (⟨#[44, 32]⟩ : ByteArray) ++ strL (X rs)) ((⟨#[44, 32]⟩ : ByteArray)) (by (try simp only [ByteArray.size_append]); omega)
  have s5 := fun W : World => run_string_add_sum (P := Tryd.prog) W (strL (nameOf op) ++ (⟨#[32]⟩ : ByteArray) ++ strL (X rd) ++ (⟨#[44, 32]⟩ : ByteArray) ++ strL (X rs) ++ (⟨#[44, 32]⟩ : ByteArray)) (strL (X rt)) (by (try simp only [ByteArray.size_append]); omega)
  clear l1 l2 l3 l4
  have k12 : (op == 12) = false := by simp; omega
  have k13 : (op == 13) = false := by simp; omega
  have k14 : (op == 14) = false := by simp; omega
  have k15 : (op == 15) = false := by simp; omega
  have k16 : (op == 16) = false := by simp; omega
  have k17 : (op == 17) = false := by simp; omega
  have k18 : (op == 18) = false := by simp; omega
  have k19 : (op == 19) = false := by simp; omega
  have k20 : (op == 20) = false := by simp; omega
  have HE := Lib.hid (show strL (nameOf op) ++ (⟨#[32]⟩ : ByteArray) ++ strL (X rd) ++ (⟨#[44, 32]⟩ : ByteArray) ++ strL (X rs) ++ (⟨#[44, 32]⟩ : ByteArray) ++ strL (X rt) = strL (textL op rd rs rt 0) by
    unfold textL
    rw [if_pos (by omega)]
    simp only [show (⟨#[32]⟩ : ByteArray) = strL [32] from rfl, show (⟨#[44, 32]⟩ : ByteArray) = strL [44, 32] from rfl, strL_append])
  go_enter Tryd.func22, Tryd.ntmps22
  go_wp2_with fail
  refine (specValid_any _ _ _ _ _ _).mono ?_
  rw [h]
  rintro e w1 ⟨rfl, hb⟩
  have Q := Lib.hid (bl_tr hb (bl_alloc (Below.refl w.heap.size w) _))
  have kc := Lib.hid (bl_keep hb (new_blk w _))
  obtain ⟨e0, e1, e2, e3, e4⟩ := five kc.out
  clear hb
  go_wp2_with (go_at_call 40; fail)
  refine (cN _).mono ?_
  rintro e w2 ⟨rfl, hb⟩
  have QN := Lib.hid (bl_tr hb Q.out)
  have kn := Lib.hid (bl_keep hb kc.out)
  clear e0 e1 e2 e3 e4 hb
  obtain ⟨e0, e1, e2, e3, e4⟩ := five kn.out
  go_wp2_with (go_at_call 41; fail)
  refine (cD _).mono ?_
  rintro e w3 ⟨rfl, hb⟩
  have QD := Lib.hid (bl_tr hb QN.out)
  have kd := Lib.hid (bl_keep hb kn.out)
  clear e0 e1 e2 e3 e4 hb
  obtain ⟨e0, e1, e2, e3, e4⟩ := five kd.out
  go_wp2_with fail
  go_region_held3 (fun w' => w'.cell? ⟨w.heap.size, 0, none⟩ = some (.int .i64 op) ∧ w'.cell? ⟨w.heap.size, 1, none⟩ = some (.int .i64 rd) ∧ w'.cell? ⟨w.heap.size, 2, none⟩ = some (.int .i64 rs) ∧ w'.cell? ⟨w.heap.size, 3, none⟩ = some (.int .i64 rt) ∧ w'.cell? ⟨w.heap.size, 4, none⟩ = some (.int .i64 0)) (first | (simp [*]; done) | (go_simp; done) | (refine ⟨?_, ?_, ?_, ?_, ?_⟩ <;> go_simp)) (first | (go_at_call 42; (with_reducible refine (m1 _).mono ?_); rintro e v10 ⟨rfl, hb⟩; have kn := bl_keep hb kd.out; obtain ⟨u0, u1, u2, u3, u4⟩ := five kn; have K10 := Lib.hid kn; clear kn; have Q10 : Hid (Below w.heap.size w v10) := Lib.hid (bl_tr hb (by repeat (with_reducible first | exact QD.out | apply bl_alloc | apply bl_drewN | apply bl_drew))); clear hb) | (go_at_call 42; (with_reducible refine (m2 _).mono ?_); rintro e v11 ⟨rfl, hb⟩; have kn := bl_keep hb K10.out; obtain ⟨u0, u1, u2, u3, u4⟩ := five kn; have K11 := Lib.hid kn; clear kn; have Q11 : Hid (Below w.heap.size w v11) := Lib.hid (bl_tr hb (by repeat (with_reducible first | exact Q10.out | apply bl_alloc | apply bl_drewN | apply bl_drew))); clear hb) | (go_at_call 42; (with_reducible refine (m3 _).mono ?_); rintro e v12 ⟨rfl, hb⟩; have kn := bl_keep hb K11.out; obtain ⟨u0, u1, u2, u3, u4⟩ := five kn; have K12 := Lib.hid kn; clear kn; have Q12 : Hid (Below w.heap.size w v12) := Lib.hid (bl_tr hb (by repeat (with_reducible first | exact Q11.out | apply bl_alloc | apply bl_drewN | apply bl_drew))); clear hb))
  go_wp2
  go_ret
  exact ⟨by rw [← HE.out]; rfl, by repeat (with_reducible first | exact Q12.out | apply bl_drewN | apply bl_drew)⟩
set_option maxRecDepth 100000 in
set_option maxHeartbeats 2000000 in
theorem stext_I0 (op rd rs rt imm : Int) (w : World) (h : iv op rd rs rt imm = true) (h1 : 12 ≤ op) (h2 : op ≤ 12) :
    Calls Tryd.prog 22 #[.agg #[.int .i64 op, .int .i64 rd, .int .i64 rs, .int .i64 rt, .int .i64 imm]] w fun e w' => e = .returned (.string (strL (textL op rd rs rt imm))) ∧ Below w.heap.size w w' := by
  have hV := iv_iff.1 h
  have ho := hV.split
  have hv : (0 ≤ rd ∧ rd < 32) ∧ (0 ≤ rs ∧ rs < 32) ∧ rt = 0 ∧ -2048 ≤ imm ∧ imm ≤ 2047 := by unfold IV reg at hV; omega
  obtain ⟨⟨a0, a1⟩, ⟨b0, b1⟩, rfl, j0, j1⟩ := hv
  clear hV
  have m1 := fun W => l42X_any (rd) W (by omega) (by omega)
  have m2 := fun W => l42X_any (rs) W (by omega) (by omega)
  have m3 := fun W => l42X_any (0) W (by omega) (by omega)
  have cN := fun W => l42Name_any op W ho.1 ho.2
  have cD := fun W => l6Dec_any (imm) W (by omega) (by omega)
  have z0 := name_size op
  have z1 := X_size (rd) (by omega) (by omega)
  have z2 := X_size (rs) (by omega) (by omega)
  have z3 := X_size (0) (by omega) (by omega)
  have z4 : (strL (Lib.itoa (imm))).size ≤ 4000000 := by have := itoa_size (imm); omega
  have l1 : (⟨#[32]⟩ : ByteArray).size = 1 := rfl
  have l2 : (⟨#[44, 32]⟩ : ByteArray).size = 2 := rfl
  have l3 : (⟨#[40]⟩ : ByteArray).size = 1 := rfl
  have l4 : (⟨#[41]⟩ : ByteArray).size = 1 := rfl
  have s0 := fun W : World => run_string_add_sum (P := Tryd.prog) W (strL (nameOf op)) ((⟨#[32]⟩ : ByteArray)) (by (try simp only [ByteArray.size_append]); omega)
  have s1 := fun W : World => run_string_add_sum (P := Tryd.prog) W (strL (nameOf op) ++ (⟨#[32]⟩ : ByteArray)) (strL (X rd)) (by (try simp only [ByteArray.size_append]); omega)
  have s2 := fun W : World => run_string_add_sum (P := Tryd.prog) W (strL (nameOf op) ++ (⟨#[32]⟩ : ByteArray) ++ strL (X rd)) ((⟨#[44, 32]⟩ : ByteArray)) (by (try simp only [ByteArray.size_append]); omega)
  have s3 := fun W : World => run_string_add_sum (P := Tryd.prog) W (strL (nameOf op) ++ (⟨#[32]⟩ : ByteArray) ++ strL (X rd) ++ (⟨#[44, 32]⟩ : ByteArray)) (strL (X rs)) (by (try simp only [ByteArray.size_append]); omega)
  have s4 := fun W : World => run_string_add_sum (P := Tryd.prog) W (strL (nameOf op) ++ (⟨#[32]⟩ : ByteArray) ++ strL (X rd) ++ (⟨#[44, 32]⟩ : ByteArray) ++ strL (X rs)) ((⟨#[44, 32]⟩ : ByteArray)) (by (try simp only [ByteArray.size_append]); omega)
  have s5 := fun W : World => run_string_add_sum (P := Tryd.prog) W (strL (nameOf op) ++ (⟨#[32]⟩ : ByteArray) ++ strL (X rd) ++ (⟨#[44, 32]⟩ : ByteArray) ++ strL (X rs) ++ (⟨#[44, 32]⟩ : ByteArray)) (strL (Lib.itoa imm)) (by (try simp only [ByteArray.size_append]); omega)
  clear l1 l2 l3 l4
  have k12 : (op == 12) = true := by simp; omega
  have k13 : (op == 13) = false := by simp; omega
  have k14 : (op == 14) = false := by simp; omega
  have k15 : (op == 15) = false := by simp; omega
  have k16 : (op == 16) = false := by simp; omega
  have k17 : (op == 17) = false := by simp; omega
  have k18 : (op == 18) = false := by simp; omega
  have k19 : (op == 19) = false := by simp; omega
  have k20 : (op == 20) = false := by simp; omega
  have HE := Lib.hid (show strL (nameOf op) ++ (⟨#[32]⟩ : ByteArray) ++ strL (X rd) ++ (⟨#[44, 32]⟩ : ByteArray) ++ strL (X rs) ++ (⟨#[44, 32]⟩ : ByteArray) ++ strL (Lib.itoa imm) = strL (textL op rd rs 0 imm) by
    unfold textL
    rw [if_neg (by omega), if_pos (by omega)]
    simp only [show (⟨#[32]⟩ : ByteArray) = strL [32] from rfl, show (⟨#[44, 32]⟩ : ByteArray) = strL [44, 32] from rfl, strL_append])
  go_enter Tryd.func22, Tryd.ntmps22
  go_wp2_with fail
  refine (specValid_any _ _ _ _ _ _).mono ?_
  rw [h]
  rintro e w1 ⟨rfl, hb⟩
  have Q := Lib.hid (bl_tr hb (bl_alloc (Below.refl w.heap.size w) _))
  have kc := Lib.hid (bl_keep hb (new_blk w _))
  obtain ⟨e0, e1, e2, e3, e4⟩ := five kc.out
  clear hb
  go_wp2_with (go_at_call 40; fail)
  refine (cN _).mono ?_
  rintro e w2 ⟨rfl, hb⟩
  have QN := Lib.hid (bl_tr hb Q.out)
  have kn := Lib.hid (bl_keep hb kc.out)
  clear e0 e1 e2 e3 e4 hb
  obtain ⟨e0, e1, e2, e3, e4⟩ := five kn.out
  go_wp2_with (go_at_call 41; fail)
  refine (cD _).mono ?_
  rintro e w3 ⟨rfl, hb⟩
  have QD := Lib.hid (bl_tr hb QN.out)
  have kd := Lib.hid (bl_keep hb kn.out)
  clear e0 e1 e2 e3 e4 hb
  obtain ⟨e0, e1, e2, e3, e4⟩ := five kd.out
  go_wp2_with fail
  go_region_held3 (fun w' => w'.cell? ⟨w.heap.size, 0, none⟩ = some (.int .i64 op) ∧ w'.cell? ⟨w.heap.size, 1, none⟩ = some (.int .i64 rd) ∧ w'.cell? ⟨w.heap.size, 2, none⟩ = some (.int .i64 rs) ∧ w'.cell? ⟨w.heap.size, 3, none⟩ = some (.int .i64 0) ∧ w'.cell? ⟨w.heap.size, 4, none⟩ = some (.int .i64 imm)) (first | (simp [*]; done) | (go_simp; done) | (refine ⟨?_, ?_, ?_, ?_, ?_⟩ <;> go_simp)) (first | (go_at_call 42; (with_reducible refine (m1 _).mono ?_); rintro e v10 ⟨rfl, hb⟩; have kn := bl_keep hb kd.out; obtain ⟨u0, u1, u2, u3, u4⟩ := five kn; have K10 := Lib.hid kn; clear kn; have Q10 : Hid (Below w.heap.size w v10) := Lib.hid (bl_tr hb (by repeat (with_reducible first | exact QD.out | apply bl_alloc | apply bl_drewN | apply bl_drew))); clear hb) | (go_at_call 42; (with_reducible refine (m2 _).mono ?_); rintro e v11 ⟨rfl, hb⟩; have kn := bl_keep hb K10.out; obtain ⟨u0, u1, u2, u3, u4⟩ := five kn; have K11 := Lib.hid kn; clear kn; have Q11 : Hid (Below w.heap.size w v11) := Lib.hid (bl_tr hb (by repeat (with_reducible first | exact Q10.out | apply bl_alloc | apply bl_drewN | apply bl_drew))); clear hb))
  go_wp2
  go_ret
  exact ⟨by rw [← HE.out]; rfl, by repeat (with_reducible first | exact Q11.out | apply bl_drewN | apply bl_drew)⟩
set_option maxRecDepth 100000 in
set_option maxHeartbeats 2000000 in
theorem stext_I1 (op rd rs rt imm : Int) (w : World) (h : iv op rd rs rt imm = true) (h1 : 13 ≤ op) (h2 : op ≤ 13) :
    Calls Tryd.prog 22 #[.agg #[.int .i64 op, .int .i64 rd, .int .i64 rs, .int .i64 rt, .int .i64 imm]] w fun e w' => e = .returned (.string (strL (textL op rd rs rt imm))) ∧ Below w.heap.size w w' := by
  have hV := iv_iff.1 h
  have ho := hV.split
  have hv : (0 ≤ rd ∧ rd < 32) ∧ (0 ≤ rs ∧ rs < 32) ∧ rt = 0 ∧ -2048 ≤ imm ∧ imm ≤ 2047 := by unfold IV reg at hV; omega
  obtain ⟨⟨a0, a1⟩, ⟨b0, b1⟩, rfl, j0, j1⟩ := hv
  clear hV
  have m1 := fun W => l42X_any (rd) W (by omega) (by omega)
  have m2 := fun W => l42X_any (rs) W (by omega) (by omega)
  have m3 := fun W => l42X_any (0) W (by omega) (by omega)
  have cN := fun W => l42Name_any op W ho.1 ho.2
  have cD := fun W => l6Dec_any (imm) W (by omega) (by omega)
  have z0 := name_size op
  have z1 := X_size (rd) (by omega) (by omega)
  have z2 := X_size (rs) (by omega) (by omega)
  have z3 := X_size (0) (by omega) (by omega)
  have z4 : (strL (Lib.itoa (imm))).size ≤ 4000000 := by have := itoa_size (imm); omega
  have l1 : (⟨#[32]⟩ : ByteArray).size = 1 := rfl
  have l2 : (⟨#[44, 32]⟩ : ByteArray).size = 2 := rfl
  have l3 : (⟨#[40]⟩ : ByteArray).size = 1 := rfl
  have l4 : (⟨#[41]⟩ : ByteArray).size = 1 := rfl
  have s0 := fun W : World => run_string_add_sum (P := Tryd.prog) W (strL (nameOf op)) ((⟨#[32]⟩ : ByteArray)) (by (try simp only [ByteArray.size_append]); omega)
  have s1 := fun W : World => run_string_add_sum (P := Tryd.prog) W (strL (nameOf op) ++ (⟨#[32]⟩ : ByteArray)) (strL (X rd)) (by (try simp only [ByteArray.size_append]); omega)
  have s2 := fun W : World => run_string_add_sum (P := Tryd.prog) W (strL (nameOf op) ++ (⟨#[32]⟩ : ByteArray) ++ strL (X rd)) ((⟨#[44, 32]⟩ : ByteArray)) (by (try simp only [ByteArray.size_append]); omega)
  have s3 := fun W : World => run_string_add_sum (P := Tryd.prog) W (strL (nameOf op) ++ (⟨#[32]⟩ : ByteArray) ++ strL (X rd) ++ (⟨#[44, 32]⟩ : ByteArray)) (strL (X rs)) (by (try simp only [ByteArray.size_append]); omega)
  have s4 := fun W : World => run_string_add_sum (P := Tryd.prog) W (strL (nameOf op) ++ (⟨#[32]⟩ : ByteArray) ++ strL (X rd) ++ (⟨#[44, 32]⟩ : ByteArray) ++ strL (X rs)) ((⟨#[44, 32]⟩ : ByteArray)) (by (try simp only [ByteArray.size_append]); omega)
  have s5 := fun W : World => run_string_add_sum (P := Tryd.prog) W (strL (nameOf op) ++ (⟨#[32]⟩ : ByteArray) ++ strL (X rd) ++ (⟨#[44, 32]⟩ : ByteArray) ++ strL (X rs) ++ (⟨#[44, 32]⟩ : ByteArray)) (strL (Lib.itoa imm)) (by (try simp only [ByteArray.size_append]); omega)
  clear l1 l2 l3 l4
  have k12 : (op == 12) = false := by simp; omega
  have k13 : (op == 13) = true := by simp; omega
  have k14 : (op == 14) = false := by simp; omega
  have k15 : (op == 15) = false := by simp; omega
  have k16 : (op == 16) = false := by simp; omega
  have k17 : (op == 17) = false := by simp; omega
  have k18 : (op == 18) = false := by simp; omega
  have k19 : (op == 19) = false := by simp; omega
  have k20 : (op == 20) = false := by simp; omega
  have HE := Lib.hid (show strL (nameOf op) ++ (⟨#[32]⟩ : ByteArray) ++ strL (X rd) ++ (⟨#[44, 32]⟩ : ByteArray) ++ strL (X rs) ++ (⟨#[44, 32]⟩ : ByteArray) ++ strL (Lib.itoa imm) = strL (textL op rd rs 0 imm) by
    unfold textL
    rw [if_neg (by omega), if_pos (by omega)]
    simp only [show (⟨#[32]⟩ : ByteArray) = strL [32] from rfl, show (⟨#[44, 32]⟩ : ByteArray) = strL [44, 32] from rfl, strL_append])
  go_enter Tryd.func22, Tryd.ntmps22
  go_wp2_with fail
  refine (specValid_any _ _ _ _ _ _).mono ?_
  rw [h]
  rintro e w1 ⟨rfl, hb⟩
  have Q := Lib.hid (bl_tr hb (bl_alloc (Below.refl w.heap.size w) _))
  have kc := Lib.hid (bl_keep hb (new_blk w _))
  obtain ⟨e0, e1, e2, e3, e4⟩ := five kc.out
  clear hb
  go_wp2_with (go_at_call 40; fail)
  refine (cN _).mono ?_
  rintro e w2 ⟨rfl, hb⟩
  have QN := Lib.hid (bl_tr hb Q.out)
  have kn := Lib.hid (bl_keep hb kc.out)
  clear e0 e1 e2 e3 e4 hb
  obtain ⟨e0, e1, e2, e3, e4⟩ := five kn.out
  go_wp2_with (go_at_call 41; fail)
  refine (cD _).mono ?_
  rintro e w3 ⟨rfl, hb⟩
  have QD := Lib.hid (bl_tr hb QN.out)
  have kd := Lib.hid (bl_keep hb kn.out)
  clear e0 e1 e2 e3 e4 hb
  obtain ⟨e0, e1, e2, e3, e4⟩ := five kd.out
  go_wp2_with fail
  go_region_held3 (fun w' => w'.cell? ⟨w.heap.size, 0, none⟩ = some (.int .i64 op) ∧ w'.cell? ⟨w.heap.size, 1, none⟩ = some (.int .i64 rd) ∧ w'.cell? ⟨w.heap.size, 2, none⟩ = some (.int .i64 rs) ∧ w'.cell? ⟨w.heap.size, 3, none⟩ = some (.int .i64 0) ∧ w'.cell? ⟨w.heap.size, 4, none⟩ = some (.int .i64 imm)) (first | (simp [*]; done) | (go_simp; done) | (refine ⟨?_, ?_, ?_, ?_, ?_⟩ <;> go_simp)) (first | (go_at_call 42; (with_reducible refine (m1 _).mono ?_); rintro e v10 ⟨rfl, hb⟩; have kn := bl_keep hb kd.out; obtain ⟨u0, u1, u2, u3, u4⟩ := five kn; have K10 := Lib.hid kn; clear kn; have Q10 : Hid (Below w.heap.size w v10) := Lib.hid (bl_tr hb (by repeat (with_reducible first | exact QD.out | apply bl_alloc | apply bl_drewN | apply bl_drew))); clear hb) | (go_at_call 42; (with_reducible refine (m2 _).mono ?_); rintro e v11 ⟨rfl, hb⟩; have kn := bl_keep hb K10.out; obtain ⟨u0, u1, u2, u3, u4⟩ := five kn; have K11 := Lib.hid kn; clear kn; have Q11 : Hid (Below w.heap.size w v11) := Lib.hid (bl_tr hb (by repeat (with_reducible first | exact Q10.out | apply bl_alloc | apply bl_drewN | apply bl_drew))); clear hb))
  go_wp2
  go_ret
  exact ⟨by rw [← HE.out]; rfl, by repeat (with_reducible first | exact Q11.out | apply bl_drewN | apply bl_drew)⟩
set_option maxRecDepth 100000 in
set_option maxHeartbeats 2000000 in
theorem stext_L (op rd rs rt imm : Int) (w : World) (h : iv op rd rs rt imm = true) (h1 : 14 ≤ op) (h2 : op ≤ 14) :
    Calls Tryd.prog 22 #[.agg #[.int .i64 op, .int .i64 rd, .int .i64 rs, .int .i64 rt, .int .i64 imm]] w fun e w' => e = .returned (.string (strL (textL op rd rs rt imm))) ∧ Below w.heap.size w w' := by
  have hV := iv_iff.1 h
  have ho := hV.split
  have hv : (0 ≤ rd ∧ rd < 32) ∧ (0 ≤ rs ∧ rs < 32) ∧ rt = 0 ∧ -2048 ≤ imm ∧ imm ≤ 2047 := by unfold IV reg at hV; omega
  obtain ⟨⟨a0, a1⟩, ⟨b0, b1⟩, rfl, j0, j1⟩ := hv
  clear hV
  have m1 := fun W => l42X_any (rd) W (by omega) (by omega)
  have m2 := fun W => l42X_any (rs) W (by omega) (by omega)
  have m3 := fun W => l42X_any (0) W (by omega) (by omega)
  have cN := fun W => l42Name_any op W ho.1 ho.2
  have cD := fun W => l6Dec_any (imm) W (by omega) (by omega)
  have z0 := name_size op
  have z1 := X_size (rd) (by omega) (by omega)
  have z2 := X_size (rs) (by omega) (by omega)
  have z3 := X_size (0) (by omega) (by omega)
  have z4 : (strL (Lib.itoa (imm))).size ≤ 4000000 := by have := itoa_size (imm); omega
  have l1 : (⟨#[32]⟩ : ByteArray).size = 1 := rfl
  have l2 : (⟨#[44, 32]⟩ : ByteArray).size = 2 := rfl
  have l3 : (⟨#[40]⟩ : ByteArray).size = 1 := rfl
  have l4 : (⟨#[41]⟩ : ByteArray).size = 1 := rfl
  have s0 := fun W : World => run_string_add_sum (P := Tryd.prog) W (strL (nameOf op)) ((⟨#[32]⟩ : ByteArray)) (by (try simp only [ByteArray.size_append]); omega)
  have s1 := fun W : World => run_string_add_sum (P := Tryd.prog) W (strL (nameOf op) ++ (⟨#[32]⟩ : ByteArray)) (strL (X rd)) (by (try simp only [ByteArray.size_append]); omega)
  have s2 := fun W : World => run_string_add_sum (P := Tryd.prog) W (strL (nameOf op) ++ (⟨#[32]⟩ : ByteArray) ++ strL (X rd)) ((⟨#[44, 32]⟩ : ByteArray)) (by (try simp only [ByteArray.size_append]); omega)
  have s3 := fun W : World => run_string_add_sum (P := Tryd.prog) W (strL (nameOf op) ++ (⟨#[32]⟩ : ByteArray) ++ strL (X rd) ++ (⟨#[44, 32]⟩ : ByteArray)) (strL (Lib.itoa imm)) (by (try simp only [ByteArray.size_append]); omega)
  have s4 := fun W : World => run_string_add_sum (P := Tryd.prog) W (strL (nameOf op) ++ (⟨#[32]⟩ : ByteArray) ++ strL (X rd) ++ (⟨#[44, 32]⟩ : ByteArray) ++ strL (Lib.itoa imm)) ((⟨#[40]⟩ : ByteArray)) (by (try simp only [ByteArray.size_append]); omega)
  have s5 := fun W : World => run_string_add_sum (P := Tryd.prog) W (strL (nameOf op) ++ (⟨#[32]⟩ : ByteArray) ++ strL (X rd) ++ (⟨#[44, 32]⟩ : ByteArray) ++ strL (Lib.itoa imm) ++ (⟨#[40]⟩ : ByteArray)) (strL (X rs)) (by (try simp only [ByteArray.size_append]); omega)
  have s6 := fun W : World => run_string_add_sum (P := Tryd.prog) W (strL (nameOf op) ++ (⟨#[32]⟩ : ByteArray) ++ strL (X rd) ++ (⟨#[44, 32]⟩ : ByteArray) ++ strL (Lib.itoa imm) ++ (⟨#[40]⟩ : ByteArray) ++ strL (X rs)) ((⟨#[41]⟩ : ByteArray)) (by (try simp only [ByteArray.size_append]); omega)
  clear l1 l2 l3 l4
  have k12 : (op == 12) = false := by simp; omega
  have k13 : (op == 13) = false := by simp; omega
  have k14 : (op == 14) = true := by simp; omega
  have k15 : (op == 15) = false := by simp; omega
  have k16 : (op == 16) = false := by simp; omega
  have k17 : (op == 17) = false := by simp; omega
  have k18 : (op == 18) = false := by simp; omega
  have k19 : (op == 19) = false := by simp; omega
  have k20 : (op == 20) = false := by simp; omega
  have HE := Lib.hid (show strL (nameOf op) ++ (⟨#[32]⟩ : ByteArray) ++ strL (X rd) ++ (⟨#[44, 32]⟩ : ByteArray) ++ strL (Lib.itoa imm) ++ (⟨#[40]⟩ : ByteArray) ++ strL (X rs) ++ (⟨#[41]⟩ : ByteArray) = strL (textL op rd rs 0 imm) by
    unfold textL
    rw [if_neg (by omega), if_neg (by omega), if_pos (by omega)]
    simp only [show (⟨#[32]⟩ : ByteArray) = strL [32] from rfl, show (⟨#[40]⟩ : ByteArray) = strL [40] from rfl, show (⟨#[41]⟩ : ByteArray) = strL [41] from rfl, show (⟨#[44, 32]⟩ : ByteArray) = strL [44, 32] from rfl, strL_append])
  go_enter Tryd.func22, Tryd.ntmps22
  go_wp2_with fail
  refine (specValid_any _ _ _ _ _ _).mono ?_
  rw [h]
  rintro e w1 ⟨rfl, hb⟩
  have Q := Lib.hid (bl_tr hb (bl_alloc (Below.refl w.heap.size w) _))
  have kc := Lib.hid (bl_keep hb (new_blk w _))
  obtain ⟨e0, e1, e2, e3, e4⟩ := five kc.out
  clear hb
  go_wp2_with (go_at_call 40; fail)
  refine (cN _).mono ?_
  rintro e w2 ⟨rfl, hb⟩
  have QN := Lib.hid (bl_tr hb Q.out)
  have kn := Lib.hid (bl_keep hb kc.out)
  clear e0 e1 e2 e3 e4 hb
  obtain ⟨e0, e1, e2, e3, e4⟩ := five kn.out
  go_wp2_with (go_at_call 41; fail)
  refine (cD _).mono ?_
  rintro e w3 ⟨rfl, hb⟩
  have QD := Lib.hid (bl_tr hb QN.out)
  have kd := Lib.hid (bl_keep hb kn.out)
  clear e0 e1 e2 e3 e4 hb
  obtain ⟨e0, e1, e2, e3, e4⟩ := five kd.out
  go_wp2_with fail
  go_region_held3 (fun w' => w'.cell? ⟨w.heap.size, 0, none⟩ = some (.int .i64 op) ∧ w'.cell? ⟨w.heap.size, 1, none⟩ = some (.int .i64 rd) ∧ w'.cell? ⟨w.heap.size, 2, none⟩ = some (.int .i64 rs) ∧ w'.cell? ⟨w.heap.size, 3, none⟩ = some (.int .i64 0) ∧ w'.cell? ⟨w.heap.size, 4, none⟩ = some (.int .i64 imm)) (first | (simp [*]; done) | (go_simp; done) | (refine ⟨?_, ?_, ?_, ?_, ?_⟩ <;> go_simp)) (first | (go_at_call 42; (with_reducible refine (m1 _).mono ?_); rintro e v10 ⟨rfl, hb⟩; have kn := bl_keep hb kd.out; obtain ⟨u0, u1, u2, u3, u4⟩ := five kn; have K10 := Lib.hid kn; clear kn; have Q10 : Hid (Below w.heap.size w v10) := Lib.hid (bl_tr hb (by repeat (with_reducible first | exact QD.out | apply bl_alloc | apply bl_drewN | apply bl_drew))); clear hb) | (go_at_call 42; (with_reducible refine (m2 _).mono ?_); rintro e v11 ⟨rfl, hb⟩; have kn := bl_keep hb K10.out; obtain ⟨u0, u1, u2, u3, u4⟩ := five kn; have K11 := Lib.hid kn; clear kn; have Q11 : Hid (Below w.heap.size w v11) := Lib.hid (bl_tr hb (by repeat (with_reducible first | exact Q10.out | apply bl_alloc | apply bl_drewN | apply bl_drew))); clear hb))
  go_wp2
  go_ret
  exact ⟨by rw [← HE.out]; rfl, by repeat (with_reducible first | exact Q11.out | apply bl_drewN | apply bl_drew)⟩
set_option maxRecDepth 100000 in
set_option maxHeartbeats 2000000 in
theorem stext_M (op rd rs rt imm : Int) (w : World) (h : iv op rd rs rt imm = true) (h1 : 15 ≤ op) (h2 : op ≤ 15) :
    Calls Tryd.prog 22 #[.agg #[.int .i64 op, .int .i64 rd, .int .i64 rs, .int .i64 rt, .int .i64 imm]] w fun e w' => e = .returned (.string (strL (textL op rd rs rt imm))) ∧ Below w.heap.size w w' := by
  have hV := iv_iff.1 h
  have ho := hV.split
  have hv : (0 ≤ rd ∧ rd < 32) ∧ (0 ≤ rs ∧ rs < 32) ∧ rt = 0 ∧ -2048 ≤ imm ∧ imm ≤ 2047 := by unfold IV reg at hV; omega
  obtain ⟨⟨a0, a1⟩, ⟨b0, b1⟩, rfl, j0, j1⟩ := hv
  clear hV
  have m1 := fun W => l42X_any (rd) W (by omega) (by omega)
  have m2 := fun W => l42X_any (rs) W (by omega) (by omega)
  have m3 := fun W => l42X_any (0) W (by omega) (by omega)
  have cN := fun W => l42Name_any op W ho.1 ho.2
  have cD := fun W => l6Dec_any (imm) W (by omega) (by omega)
  have z0 := name_size op
  have z1 := X_size (rd) (by omega) (by omega)
  have z2 := X_size (rs) (by omega) (by omega)
  have z3 := X_size (0) (by omega) (by omega)
  have z4 : (strL (Lib.itoa (imm))).size ≤ 4000000 := by have := itoa_size (imm); omega
  have l1 : (⟨#[32]⟩ : ByteArray).size = 1 := rfl
  have l2 : (⟨#[44, 32]⟩ : ByteArray).size = 2 := rfl
  have l3 : (⟨#[40]⟩ : ByteArray).size = 1 := rfl
  have l4 : (⟨#[41]⟩ : ByteArray).size = 1 := rfl
  have s0 := fun W : World => run_string_add_sum (P := Tryd.prog) W (strL (nameOf op)) ((⟨#[32]⟩ : ByteArray)) (by (try simp only [ByteArray.size_append]); omega)
  have s1 := fun W : World => run_string_add_sum (P := Tryd.prog) W (strL (nameOf op) ++ (⟨#[32]⟩ : ByteArray)) (strL (X rd)) (by (try simp only [ByteArray.size_append]); omega)
  have s2 := fun W : World => run_string_add_sum (P := Tryd.prog) W (strL (nameOf op) ++ (⟨#[32]⟩ : ByteArray) ++ strL (X rd)) ((⟨#[44, 32]⟩ : ByteArray)) (by (try simp only [ByteArray.size_append]); omega)
  have s3 := fun W : World => run_string_add_sum (P := Tryd.prog) W (strL (nameOf op) ++ (⟨#[32]⟩ : ByteArray) ++ strL (X rd) ++ (⟨#[44, 32]⟩ : ByteArray)) (strL (Lib.itoa imm)) (by (try simp only [ByteArray.size_append]); omega)
  have s4 := fun W : World => run_string_add_sum (P := Tryd.prog) W (strL (nameOf op) ++ (⟨#[32]⟩ : ByteArray) ++ strL (X rd) ++ (⟨#[44, 32]⟩ : ByteArray) ++ strL (Lib.itoa imm)) ((⟨#[40]⟩ : ByteArray)) (by (try simp only [ByteArray.size_append]); omega)
  have s5 := fun W : World => run_string_add_sum (P := Tryd.prog) W (strL (nameOf op) ++ (⟨#[32]⟩ : ByteArray) ++ strL (X rd) ++ (⟨#[44, 32]⟩ : ByteArray) ++ strL (Lib.itoa imm) ++ (⟨#[40]⟩ : ByteArray)) (strL (X rs)) (by (try simp only [ByteArray.size_append]); omega)
  have s6 := fun W : World => run_string_add_sum (P := Tryd.prog) W (strL (nameOf op) ++ (⟨#[32]⟩ : ByteArray) ++ strL (X rd) ++ (⟨#[44, 32]⟩ : ByteArray) ++ strL (Lib.itoa imm) ++ (⟨#[40]⟩ : ByteArray) ++ strL (X rs)) ((⟨#[41]⟩ : ByteArray)) (by (try simp only [ByteArray.size_append]); omega)
  clear l1 l2 l3 l4
  have k12 : (op == 12) = false := by simp; omega
  have k13 : (op == 13) = false := by simp; omega
  have k14 : (op == 14) = false := by simp; omega
  have k15 : (op == 15) = true := by simp; omega
  have k16 : (op == 16) = false := by simp; omega
  have k17 : (op == 17) = false := by simp; omega
  have k18 : (op == 18) = false := by simp; omega
  have k19 : (op == 19) = false := by simp; omega
  have k20 : (op == 20) = false := by simp; omega
  have HE := Lib.hid (show strL (nameOf op) ++ (⟨#[32]⟩ : ByteArray) ++ strL (X rd) ++ (⟨#[44, 32]⟩ : ByteArray) ++ strL (Lib.itoa imm) ++ (⟨#[40]⟩ : ByteArray) ++ strL (X rs) ++ (⟨#[41]⟩ : ByteArray) = strL (textL op rd rs 0 imm) by
    unfold textL
    rw [if_neg (by omega), if_neg (by omega), if_pos (by omega)]
    simp only [show (⟨#[32]⟩ : ByteArray) = strL [32] from rfl, show (⟨#[40]⟩ : ByteArray) = strL [40] from rfl, show (⟨#[41]⟩ : ByteArray) = strL [41] from rfl, show (⟨#[44, 32]⟩ : ByteArray) = strL [44, 32] from rfl, strL_append])
  go_enter Tryd.func22, Tryd.ntmps22
  go_wp2_with fail
  refine (specValid_any _ _ _ _ _ _).mono ?_
  rw [h]
  rintro e w1 ⟨rfl, hb⟩
  have Q := Lib.hid (bl_tr hb (bl_alloc (Below.refl w.heap.size w) _))
  have kc := Lib.hid (bl_keep hb (new_blk w _))
  obtain ⟨e0, e1, e2, e3, e4⟩ := five kc.out
  clear hb
  go_wp2_with (go_at_call 40; fail)
  refine (cN _).mono ?_
  rintro e w2 ⟨rfl, hb⟩
  have QN := Lib.hid (bl_tr hb Q.out)
  have kn := Lib.hid (bl_keep hb kc.out)
  clear e0 e1 e2 e3 e4 hb
  obtain ⟨e0, e1, e2, e3, e4⟩ := five kn.out
  go_wp2_with (go_at_call 41; fail)
  refine (cD _).mono ?_
  rintro e w3 ⟨rfl, hb⟩
  have QD := Lib.hid (bl_tr hb QN.out)
  have kd := Lib.hid (bl_keep hb kn.out)
  clear e0 e1 e2 e3 e4 hb
  obtain ⟨e0, e1, e2, e3, e4⟩ := five kd.out
  go_wp2_with fail
  go_region_held3 (fun w' => w'.cell? ⟨w.heap.size, 0, none⟩ = some (.int .i64 op) ∧ w'.cell? ⟨w.heap.size, 1, none⟩ = some (.int .i64 rd) ∧ w'.cell? ⟨w.heap.size, 2, none⟩ = some (.int .i64 rs) ∧ w'.cell? ⟨w.heap.size, 3, none⟩ = some (.int .i64 0) ∧ w'.cell? ⟨w.heap.size, 4, none⟩ = some (.int .i64 imm)) (first | (simp [*]; done) | (go_simp; done) | (refine ⟨?_, ?_, ?_, ?_, ?_⟩ <;> go_simp)) (first | (go_at_call 42; (with_reducible refine (m1 _).mono ?_); rintro e v10 ⟨rfl, hb⟩; have kn := bl_keep hb kd.out; obtain ⟨u0, u1, u2, u3, u4⟩ := five kn; have K10 := Lib.hid kn; clear kn; have Q10 : Hid (Below w.heap.size w v10) := Lib.hid (bl_tr hb (by repeat (with_reducible first | exact QD.out | apply bl_alloc | apply bl_drewN | apply bl_drew))); clear hb) | (go_at_call 42; (with_reducible refine (m2 _).mono ?_); rintro e v11 ⟨rfl, hb⟩; have kn := bl_keep hb K10.out; obtain ⟨u0, u1, u2, u3, u4⟩ := five kn; have K11 := Lib.hid kn; clear kn; have Q11 : Hid (Below w.heap.size w v11) := Lib.hid (bl_tr hb (by repeat (with_reducible first | exact Q10.out | apply bl_alloc | apply bl_drewN | apply bl_drew))); clear hb))
  go_wp2
  go_ret
  exact ⟨by rw [← HE.out]; rfl, by repeat (with_reducible first | exact Q11.out | apply bl_drewN | apply bl_drew)⟩
set_option maxRecDepth 100000 in
set_option maxHeartbeats 2000000 in
theorem stext_S (op rd rs rt imm : Int) (w : World) (h : iv op rd rs rt imm = true) (h1 : 16 ≤ op) (h2 : op ≤ 16) :
    Calls Tryd.prog 22 #[.agg #[.int .i64 op, .int .i64 rd, .int .i64 rs, .int .i64 rt, .int .i64 imm]] w fun e w' => e = .returned (.string (strL (textL op rd rs rt imm))) ∧ Below w.heap.size w w' := by
  have hV := iv_iff.1 h
  have ho := hV.split
  have hv : rd = 0 ∧ (0 ≤ rs ∧ rs < 32) ∧ (0 ≤ rt ∧ rt < 32) ∧ -2048 ≤ imm ∧ imm ≤ 2047 := by unfold IV reg at hV; omega
  obtain ⟨rfl, ⟨a0, a1⟩, ⟨b0, b1⟩, j0, j1⟩ := hv
  clear hV
  have m1 := fun W => l42X_any (0) W (by omega) (by omega)
  have m2 := fun W => l42X_any (rs) W (by omega) (by omega)
  have m3 := fun W => l42X_any (rt) W (by omega) (by omega)
  have cN := fun W => l42Name_any op W ho.1 ho.2
  have cD := fun W => l6Dec_any (imm) W (by omega) (by omega)
  have z0 := name_size op
  have z1 := X_size (0) (by omega) (by omega)
  have z2 := X_size (rs) (by omega) (by omega)
  have z3 := X_size (rt) (by omega) (by omega)
  have z4 : (strL (Lib.itoa (imm))).size ≤ 4000000 := by have := itoa_size (imm); omega
  have l1 : (⟨#[32]⟩ : ByteArray).size = 1 := rfl
  have l2 : (⟨#[44, 32]⟩ : ByteArray).size = 2 := rfl
  have l3 : (⟨#[40]⟩ : ByteArray).size = 1 := rfl
  have l4 : (⟨#[41]⟩ : ByteArray).size = 1 := rfl
  have s0 := fun W : World => run_string_add_sum (P := Tryd.prog) W (strL (nameOf op)) ((⟨#[32]⟩ : ByteArray)) (by (try simp only [ByteArray.size_append]); omega)
  have s1 := fun W : World => run_string_add_sum (P := Tryd.prog) W (strL (nameOf op) ++ (⟨#[32]⟩ : ByteArray)) (strL (X rt)) (by (try simp only [ByteArray.size_append]); omega)
  have s2 := fun W : World => run_string_add_sum (P := Tryd.prog) W (strL (nameOf op) ++ (⟨#[32]⟩ : ByteArray) ++ strL (X rt)) ((⟨#[44, 32]⟩ : ByteArray)) (by (try simp only [ByteArray.size_append]); omega)
  have s3 := fun W : World => run_string_add_sum (P := Tryd.prog) W (strL (nameOf op) ++ (⟨#[32]⟩ : ByteArray) ++ strL (X rt) ++ (⟨#[44, 32]⟩ : ByteArray)) (strL (Lib.itoa imm)) (by (try simp only [ByteArray.size_append]); omega)
  have s4 := fun W : World => run_string_add_sum (P := Tryd.prog) W (strL (nameOf op) ++ (⟨#[32]⟩ : ByteArray) ++ strL (X rt) ++ (⟨#[44, 32]⟩ : ByteArray) ++ strL (Lib.itoa imm)) ((⟨#[40]⟩ : ByteArray)) (by (try simp only [ByteArray.size_append]); omega)
  have s5 := fun W : World => run_string_add_sum (P := Tryd.prog) W (strL (nameOf op) ++ (⟨#[32]⟩ : ByteArray) ++ strL (X rt) ++ (⟨#[44, 32]⟩ : ByteArray) ++ strL (Lib.itoa imm) ++ (⟨#[40]⟩ : ByteArray)) (strL (X rs)) (by (try simp only [ByteArray.size_append]); omega)
  have s6 := fun W : World => run_string_add_sum (P := Tryd.prog) W (strL (nameOf op) ++ (⟨#[32]⟩ : ByteArray) ++ strL (X rt) ++ (⟨#[44, 32]⟩ : ByteArray) ++ strL (Lib.itoa imm) ++ (⟨#[40]⟩ : ByteArray) ++ strL (X rs)) ((⟨#[41]⟩ : ByteArray)) (by (try simp only [ByteArray.size_append]); omega)
  clear l1 l2 l3 l4
  have k12 : (op == 12) = false := by simp; omega
  have k13 : (op == 13) = false := by simp; omega
  have k14 : (op == 14) = false := by simp; omega
  have k15 : (op == 15) = false := by simp; omega
  have k16 : (op == 16) = true := by simp; omega
  have k17 : (op == 17) = false := by simp; omega
  have k18 : (op == 18) = false := by simp; omega
  have k19 : (op == 19) = false := by simp; omega
  have k20 : (op == 20) = false := by simp; omega
  have HE := Lib.hid (show strL (nameOf op) ++ (⟨#[32]⟩ : ByteArray) ++ strL (X rt) ++ (⟨#[44, 32]⟩ : ByteArray) ++ strL (Lib.itoa imm) ++ (⟨#[40]⟩ : ByteArray) ++ strL (X rs) ++ (⟨#[41]⟩ : ByteArray) = strL (textL op 0 rs rt imm) by
    unfold textL
    rw [if_neg (by omega), if_neg (by omega), if_neg (by omega), if_pos (by omega)]
    simp only [show (⟨#[32]⟩ : ByteArray) = strL [32] from rfl, show (⟨#[40]⟩ : ByteArray) = strL [40] from rfl, show (⟨#[41]⟩ : ByteArray) = strL [41] from rfl, show (⟨#[44, 32]⟩ : ByteArray) = strL [44, 32] from rfl, strL_append])
  go_enter Tryd.func22, Tryd.ntmps22
  go_wp2_with fail
  refine (specValid_any _ _ _ _ _ _).mono ?_
  rw [h]
  rintro e w1 ⟨rfl, hb⟩
  have Q := Lib.hid (bl_tr hb (bl_alloc (Below.refl w.heap.size w) _))
  have kc := Lib.hid (bl_keep hb (new_blk w _))
  obtain ⟨e0, e1, e2, e3, e4⟩ := five kc.out
  clear hb
  go_wp2_with (go_at_call 40; fail)
  refine (cN _).mono ?_
  rintro e w2 ⟨rfl, hb⟩
  have QN := Lib.hid (bl_tr hb Q.out)
  have kn := Lib.hid (bl_keep hb kc.out)
  clear e0 e1 e2 e3 e4 hb
  obtain ⟨e0, e1, e2, e3, e4⟩ := five kn.out
  go_wp2_with (go_at_call 41; fail)
  refine (cD _).mono ?_
  rintro e w3 ⟨rfl, hb⟩
  have QD := Lib.hid (bl_tr hb QN.out)
  have kd := Lib.hid (bl_keep hb kn.out)
  clear e0 e1 e2 e3 e4 hb
  obtain ⟨e0, e1, e2, e3, e4⟩ := five kd.out
  go_wp2_with fail
  go_region_held3 (fun w' => w'.cell? ⟨w.heap.size, 0, none⟩ = some (.int .i64 op) ∧ w'.cell? ⟨w.heap.size, 1, none⟩ = some (.int .i64 0) ∧ w'.cell? ⟨w.heap.size, 2, none⟩ = some (.int .i64 rs) ∧ w'.cell? ⟨w.heap.size, 3, none⟩ = some (.int .i64 rt) ∧ w'.cell? ⟨w.heap.size, 4, none⟩ = some (.int .i64 imm)) (first | (simp [*]; done) | (go_simp; done) | (refine ⟨?_, ?_, ?_, ?_, ?_⟩ <;> go_simp)) (first | (go_at_call 42; (with_reducible refine (m3 _).mono ?_); rintro e v10 ⟨rfl, hb⟩; have kn := bl_keep hb kd.out; obtain ⟨u0, u1, u2, u3, u4⟩ := five kn; have K10 := Lib.hid kn; clear kn; have Q10 : Hid (Below w.heap.size w v10) := Lib.hid (bl_tr hb (by repeat (with_reducible first | exact QD.out | apply bl_alloc | apply bl_drewN | apply bl_drew))); clear hb) | (go_at_call 42; (with_reducible refine (m2 _).mono ?_); rintro e v11 ⟨rfl, hb⟩; have kn := bl_keep hb K10.out; obtain ⟨u0, u1, u2, u3, u4⟩ := five kn; have K11 := Lib.hid kn; clear kn; have Q11 : Hid (Below w.heap.size w v11) := Lib.hid (bl_tr hb (by repeat (with_reducible first | exact Q10.out | apply bl_alloc | apply bl_drewN | apply bl_drew))); clear hb))
  go_wp2
  go_ret
  exact ⟨by rw [← HE.out]; rfl, by repeat (with_reducible first | exact Q11.out | apply bl_drewN | apply bl_drew)⟩
set_option maxRecDepth 100000 in
set_option maxHeartbeats 2000000 in
theorem stext_B0 (op rd rs rt imm : Int) (w : World) (h : iv op rd rs rt imm = true) (h1 : 17 ≤ op) (h2 : op ≤ 17) :
    Calls Tryd.prog 22 #[.agg #[.int .i64 op, .int .i64 rd, .int .i64 rs, .int .i64 rt, .int .i64 imm]] w fun e w' => e = .returned (.string (strL (textL op rd rs rt imm))) ∧ Below w.heap.size w w' := by
  have hV := iv_iff.1 h
  have ho := hV.split
  have hv : rd = 0 ∧ (0 ≤ rs ∧ rs < 32) ∧ (0 ≤ rt ∧ rt < 32) ∧ -4096 ≤ imm ∧ imm ≤ 4094 := by unfold IV reg at hV; omega
  obtain ⟨rfl, ⟨a0, a1⟩, ⟨b0, b1⟩, j0, j1⟩ := hv
  clear hV
  have m1 := fun W => l42X_any (0) W (by omega) (by omega)
  have m2 := fun W => l42X_any (rs) W (by omega) (by omega)
  have m3 := fun W => l42X_any (rt) W (by omega) (by omega)
  have cN := fun W => l42Name_any op W ho.1 ho.2
  have cD := fun W => l6Dec_any (imm) W (by omega) (by omega)
  have z0 := name_size op
  have z1 := X_size (0) (by omega) (by omega)
  have z2 := X_size (rs) (by omega) (by omega)
  have z3 := X_size (rt) (by omega) (by omega)
  have z4 : (strL (Lib.itoa (imm))).size ≤ 4000000 := by have := itoa_size (imm); omega
  have l1 : (⟨#[32]⟩ : ByteArray).size = 1 := rfl
  have l2 : (⟨#[44, 32]⟩ : ByteArray).size = 2 := rfl
  have l3 : (⟨#[40]⟩ : ByteArray).size = 1 := rfl
  have l4 : (⟨#[41]⟩ : ByteArray).size = 1 := rfl
  have s0 := fun W : World => run_string_add_sum (P := Tryd.prog) W (strL (nameOf op)) ((⟨#[32]⟩ : ByteArray)) (by (try simp only [ByteArray.size_append]); omega)
  have s1 := fun W : World => run_string_add_sum (P := Tryd.prog) W (strL (nameOf op) ++ (⟨#[32]⟩ : ByteArray)) (strL (X rs)) (by (try simp only [ByteArray.size_append]); omega)
  have s2 := fun W : World => run_string_add_sum (P := Tryd.prog) W (strL (nameOf op) ++ (⟨#[32]⟩ : ByteArray) ++ strL (X rs)) ((⟨#[44, 32]⟩ : ByteArray)) (by (try simp only [ByteArray.size_append]); omega)
  have s3 := fun W : World => run_string_add_sum (P := Tryd.prog) W (strL (nameOf op) ++ (⟨#[32]⟩ : ByteArray) ++ strL (X rs) ++ (⟨#[44, 32]⟩ : ByteArray)) (strL (X rt)) (by (try simp only [ByteArray.size_append]); omega)
  have s4 := fun W : World => run_string_add_sum (P := Tryd.prog) W (strL (nameOf op) ++ (⟨#[32]⟩ : ByteArray) ++ strL (X rs) ++ (⟨#[44, 32]⟩ : ByteArray) ++ strL (X rt)) ((⟨#[44, 32]⟩ : ByteArray)) (by (try simp only [ByteArray.size_append]); omega)
  have s5 := fun W : World => run_string_add_sum (P := Tryd.prog) W (strL (nameOf op) ++ (⟨#[32]⟩ : ByteArray) ++ strL (X rs) ++ (⟨#[44, 32]⟩ : ByteArray) ++ strL (X rt) ++ (⟨#[44, 32]⟩ : ByteArray)) (strL (Lib.itoa imm)) (by (try simp only [ByteArray.size_append]); omega)
  clear l1 l2 l3 l4
  have k12 : (op == 12) = false := by simp; omega
  have k13 : (op == 13) = false := by simp; omega
  have k14 : (op == 14) = false := by simp; omega
  have k15 : (op == 15) = false := by simp; omega
  have k16 : (op == 16) = false := by simp; omega
  have k17 : (op == 17) = true := by simp; omega
  have k18 : (op == 18) = false := by simp; omega
  have k19 : (op == 19) = false := by simp; omega
  have k20 : (op == 20) = false := by simp; omega
  have HE := Lib.hid (show strL (nameOf op) ++ (⟨#[32]⟩ : ByteArray) ++ strL (X rs) ++ (⟨#[44, 32]⟩ : ByteArray) ++ strL (X rt) ++ (⟨#[44, 32]⟩ : ByteArray) ++ strL (Lib.itoa imm) = strL (textL op 0 rs rt imm) by
    unfold textL
    rw [if_neg (by omega), if_neg (by omega), if_neg (by omega), if_neg (by omega), if_pos (by omega)]
    simp only [show (⟨#[32]⟩ : ByteArray) = strL [32] from rfl, show (⟨#[44, 32]⟩ : ByteArray) = strL [44, 32] from rfl, strL_append])
  go_enter Tryd.func22, Tryd.ntmps22
  go_wp2_with fail
  refine (specValid_any _ _ _ _ _ _).mono ?_
  rw [h]
  rintro e w1 ⟨rfl, hb⟩
  have Q := Lib.hid (bl_tr hb (bl_alloc (Below.refl w.heap.size w) _))
  have kc := Lib.hid (bl_keep hb (new_blk w _))
  obtain ⟨e0, e1, e2, e3, e4⟩ := five kc.out
  clear hb
  go_wp2_with (go_at_call 40; fail)
  refine (cN _).mono ?_
  rintro e w2 ⟨rfl, hb⟩
  have QN := Lib.hid (bl_tr hb Q.out)
  have kn := Lib.hid (bl_keep hb kc.out)
  clear e0 e1 e2 e3 e4 hb
  obtain ⟨e0, e1, e2, e3, e4⟩ := five kn.out
  go_wp2_with (go_at_call 41; fail)
  refine (cD _).mono ?_
  rintro e w3 ⟨rfl, hb⟩
  have QD := Lib.hid (bl_tr hb QN.out)
  have kd := Lib.hid (bl_keep hb kn.out)
  clear e0 e1 e2 e3 e4 hb
  obtain ⟨e0, e1, e2, e3, e4⟩ := five kd.out
  go_wp2_with fail
  go_region_held3 (fun w' => w'.cell? ⟨w.heap.size, 0, none⟩ = some (.int .i64 op) ∧ w'.cell? ⟨w.heap.size, 1, none⟩ = some (.int .i64 0) ∧ w'.cell? ⟨w.heap.size, 2, none⟩ = some (.int .i64 rs) ∧ w'.cell? ⟨w.heap.size, 3, none⟩ = some (.int .i64 rt) ∧ w'.cell? ⟨w.heap.size, 4, none⟩ = some (.int .i64 imm)) (first | (simp [*]; done) | (go_simp; done) | (refine ⟨?_, ?_, ?_, ?_, ?_⟩ <;> go_simp)) (first | (go_at_call 42; (with_reducible refine (m2 _).mono ?_); rintro e v10 ⟨rfl, hb⟩; have kn := bl_keep hb kd.out; obtain ⟨u0, u1, u2, u3, u4⟩ := five kn; have K10 := Lib.hid kn; clear kn; have Q10 : Hid (Below w.heap.size w v10) := Lib.hid (bl_tr hb (by repeat (with_reducible first | exact QD.out | apply bl_alloc | apply bl_drewN | apply bl_drew))); clear hb) | (go_at_call 42; (with_reducible refine (m3 _).mono ?_); rintro e v11 ⟨rfl, hb⟩; have kn := bl_keep hb K10.out; obtain ⟨u0, u1, u2, u3, u4⟩ := five kn; have K11 := Lib.hid kn; clear kn; have Q11 : Hid (Below w.heap.size w v11) := Lib.hid (bl_tr hb (by repeat (with_reducible first | exact Q10.out | apply bl_alloc | apply bl_drewN | apply bl_drew))); clear hb))
  go_wp2
  go_ret
  exact ⟨by rw [← HE.out]; rfl, by repeat (with_reducible first | exact Q11.out | apply bl_drewN | apply bl_drew)⟩
set_option maxRecDepth 100000 in
set_option maxHeartbeats 2000000 in
theorem stext_B1 (op rd rs rt imm : Int) (w : World) (h : iv op rd rs rt imm = true) (h1 : 18 ≤ op) (h2 : op ≤ 18) :
    Calls Tryd.prog 22 #[.agg #[.int .i64 op, .int .i64 rd, .int .i64 rs, .int .i64 rt, .int .i64 imm]] w fun e w' => e = .returned (.string (strL (textL op rd rs rt imm))) ∧ Below w.heap.size w w' := by
  have hV := iv_iff.1 h
  have ho := hV.split
  have hv : rd = 0 ∧ (0 ≤ rs ∧ rs < 32) ∧ (0 ≤ rt ∧ rt < 32) ∧ -4096 ≤ imm ∧ imm ≤ 4094 := by unfold IV reg at hV; omega
  obtain ⟨rfl, ⟨a0, a1⟩, ⟨b0, b1⟩, j0, j1⟩ := hv
  clear hV
  have m1 := fun W => l42X_any (0) W (by omega) (by omega)
  have m2 := fun W => l42X_any (rs) W (by omega) (by omega)
  have m3 := fun W => l42X_any (rt) W (by omega) (by omega)
  have cN := fun W => l42Name_any op W ho.1 ho.2
  have cD := fun W => l6Dec_any (imm) W (by omega) (by omega)
  have z0 := name_size op
  have z1 := X_size (0) (by omega) (by omega)
  have z2 := X_size (rs) (by omega) (by omega)
  have z3 := X_size (rt) (by omega) (by omega)
  have z4 : (strL (Lib.itoa (imm))).size ≤ 4000000 := by have := itoa_size (imm); omega
  have l1 : (⟨#[32]⟩ : ByteArray).size = 1 := rfl
  have l2 : (⟨#[44, 32]⟩ : ByteArray).size = 2 := rfl
  have l3 : (⟨#[40]⟩ : ByteArray).size = 1 := rfl
  have l4 : (⟨#[41]⟩ : ByteArray).size = 1 := rfl
  have s0 := fun W : World => run_string_add_sum (P := Tryd.prog) W (strL (nameOf op)) ((⟨#[32]⟩ : ByteArray)) (by (try simp only [ByteArray.size_append]); omega)
  have s1 := fun W : World => run_string_add_sum (P := Tryd.prog) W (strL (nameOf op) ++ (⟨#[32]⟩ : ByteArray)) (strL (X rs)) (by (try simp only [ByteArray.size_append]); omega)
  have s2 := fun W : World => run_string_add_sum (P := Tryd.prog) W (strL (nameOf op) ++ (⟨#[32]⟩ : ByteArray) ++ strL (X rs)) ((⟨#[44, 32]⟩ : ByteArray)) (by (try simp only [ByteArray.size_append]); omega)
  have s3 := fun W : World => run_string_add_sum (P := Tryd.prog) W (strL (nameOf op) ++ (⟨#[32]⟩ : ByteArray) ++ strL (X rs) ++ (⟨#[44, 32]⟩ : ByteArray)) (strL (X rt)) (by (try simp only [ByteArray.size_append]); omega)
  have s4 := fun W : World => run_string_add_sum (P := Tryd.prog) W (strL (nameOf op) ++ (⟨#[32]⟩ : ByteArray) ++ strL (X rs) ++ (⟨#[44, 32]⟩ : ByteArray) ++ strL (X rt)) ((⟨#[44, 32]⟩ : ByteArray)) (by (try simp only [ByteArray.size_append]); omega)
  have s5 := fun W : World => run_string_add_sum (P := Tryd.prog) W (strL (nameOf op) ++ (⟨#[32]⟩ : ByteArray) ++ strL (X rs) ++ (⟨#[44, 32]⟩ : ByteArray) ++ strL (X rt) ++ (⟨#[44, 32]⟩ : ByteArray)) (strL (Lib.itoa imm)) (by (try simp only [ByteArray.size_append]); omega)
  clear l1 l2 l3 l4
  have k12 : (op == 12) = false := by simp; omega
  have k13 : (op == 13) = false := by simp; omega
  have k14 : (op == 14) = false := by simp; omega
  have k15 : (op == 15) = false := by simp; omega
  have k16 : (op == 16) = false := by simp; omega
  have k17 : (op == 17) = false := by simp; omega
  have k18 : (op == 18) = true := by simp; omega
  have k19 : (op == 19) = false := by simp; omega
  have k20 : (op == 20) = false := by simp; omega
  have HE := Lib.hid (show strL (nameOf op) ++ (⟨#[32]⟩ : ByteArray) ++ strL (X rs) ++ (⟨#[44, 32]⟩ : ByteArray) ++ strL (X rt) ++ (⟨#[44, 32]⟩ : ByteArray) ++ strL (Lib.itoa imm) = strL (textL op 0 rs rt imm) by
    unfold textL
    rw [if_neg (by omega), if_neg (by omega), if_neg (by omega), if_neg (by omega), if_pos (by omega)]
    simp only [show (⟨#[32]⟩ : ByteArray) = strL [32] from rfl, show (⟨#[44, 32]⟩ : ByteArray) = strL [44, 32] from rfl, strL_append])
  go_enter Tryd.func22, Tryd.ntmps22
  go_wp2_with fail
  refine (specValid_any _ _ _ _ _ _).mono ?_
  rw [h]
  rintro e w1 ⟨rfl, hb⟩
  have Q := Lib.hid (bl_tr hb (bl_alloc (Below.refl w.heap.size w) _))
  have kc := Lib.hid (bl_keep hb (new_blk w _))
  obtain ⟨e0, e1, e2, e3, e4⟩ := five kc.out
  clear hb
  go_wp2_with (go_at_call 40; fail)
  refine (cN _).mono ?_
  rintro e w2 ⟨rfl, hb⟩
  have QN := Lib.hid (bl_tr hb Q.out)
  have kn := Lib.hid (bl_keep hb kc.out)
  clear e0 e1 e2 e3 e4 hb
  obtain ⟨e0, e1, e2, e3, e4⟩ := five kn.out
  go_wp2_with (go_at_call 41; fail)
  refine (cD _).mono ?_
  rintro e w3 ⟨rfl, hb⟩
  have QD := Lib.hid (bl_tr hb QN.out)
  have kd := Lib.hid (bl_keep hb kn.out)
  clear e0 e1 e2 e3 e4 hb
  obtain ⟨e0, e1, e2, e3, e4⟩ := five kd.out
  go_wp2_with fail
  go_region_held3 (fun w' => w'.cell? ⟨w.heap.size, 0, none⟩ = some (.int .i64 op) ∧ w'.cell? ⟨w.heap.size, 1, none⟩ = some (.int .i64 0) ∧ w'.cell? ⟨w.heap.size, 2, none⟩ = some (.int .i64 rs) ∧ w'.cell? ⟨w.heap.size, 3, none⟩ = some (.int .i64 rt) ∧ w'.cell? ⟨w.heap.size, 4, none⟩ = some (.int .i64 imm)) (first | (simp [*]; done) | (go_simp; done) | (refine ⟨?_, ?_, ?_, ?_, ?_⟩ <;> go_simp)) (first | (go_at_call 42; (with_reducible refine (m2 _).mono ?_); rintro e v10 ⟨rfl, hb⟩; have kn := bl_keep hb kd.out; obtain ⟨u0, u1, u2, u3, u4⟩ := five kn; have K10 := Lib.hid kn; clear kn; have Q10 : Hid (Below w.heap.size w v10) := Lib.hid (bl_tr hb (by repeat (with_reducible first | exact QD.out | apply bl_alloc | apply bl_drewN | apply bl_drew))); clear hb) | (go_at_call 42; (with_reducible refine (m3 _).mono ?_); rintro e v11 ⟨rfl, hb⟩; have kn := bl_keep hb K10.out; obtain ⟨u0, u1, u2, u3, u4⟩ := five kn; have K11 := Lib.hid kn; clear kn; have Q11 : Hid (Below w.heap.size w v11) := Lib.hid (bl_tr hb (by repeat (with_reducible first | exact Q10.out | apply bl_alloc | apply bl_drewN | apply bl_drew))); clear hb))
  go_wp2
  go_ret
  exact ⟨by rw [← HE.out]; rfl, by repeat (with_reducible first | exact Q11.out | apply bl_drewN | apply bl_drew)⟩
set_option maxRecDepth 100000 in
set_option maxHeartbeats 2000000 in
theorem stext_U (op rd rs rt imm : Int) (w : World) (h : iv op rd rs rt imm = true) (h1 : 19 ≤ op) (h2 : op ≤ 19) :
    Calls Tryd.prog 22 #[.agg #[.int .i64 op, .int .i64 rd, .int .i64 rs, .int .i64 rt, .int .i64 imm]] w fun e w' => e = .returned (.string (strL (textL op rd rs rt imm))) ∧ Below w.heap.size w w' := by
  have hV := iv_iff.1 h
  have ho := hV.split
  have hv : (0 ≤ rd ∧ rd < 32) ∧ rs = 0 ∧ rt = 0 ∧ 0 ≤ imm ∧ imm ≤ 1048575 := by unfold IV reg at hV; omega
  obtain ⟨⟨a0, a1⟩, rfl, rfl, j0, j1⟩ := hv
  clear hV
  have m1 := fun W => l42X_any (rd) W (by omega) (by omega)
  have m2 := fun W => l42X_any (0) W (by omega) (by omega)
  have m3 := fun W => l42X_any (0) W (by omega) (by omega)
  have cN := fun W => l42Name_any op W ho.1 ho.2
  have cD := fun W => l6Dec_any (imm) W (by omega) (by omega)
  have z0 := name_size op
  have z1 := X_size (rd) (by omega) (by omega)
  have z2 := X_size (0) (by omega) (by omega)
  have z3 := X_size (0) (by omega) (by omega)
  have z4 : (strL (Lib.itoa (imm))).size ≤ 4000000 := by have := itoa_size (imm); omega
  have l1 : (⟨#[32]⟩ : ByteArray).size = 1 := rfl
  have l2 : (⟨#[44, 32]⟩ : ByteArray).size = 2 := rfl
  have l3 : (⟨#[40]⟩ : ByteArray).size = 1 := rfl
  have l4 : (⟨#[41]⟩ : ByteArray).size = 1 := rfl
  have s0 := fun W : World => run_string_add_sum (P := Tryd.prog) W (strL (nameOf op)) ((⟨#[32]⟩ : ByteArray)) (by (try simp only [ByteArray.size_append]); omega)
  have s1 := fun W : World => run_string_add_sum (P := Tryd.prog) W (strL (nameOf op) ++ (⟨#[32]⟩ : ByteArray)) (strL (X rd)) (by (try simp only [ByteArray.size_append]); omega)
  have s2 := fun W : World => run_string_add_sum (P := Tryd.prog) W (strL (nameOf op) ++ (⟨#[32]⟩ : ByteArray) ++ strL (X rd)) ((⟨#[44, 32]⟩ : ByteArray)) (by (try simp only [ByteArray.size_append]); omega)
  have s3 := fun W : World => run_string_add_sum (P := Tryd.prog) W (strL (nameOf op) ++ (⟨#[32]⟩ : ByteArray) ++ strL (X rd) ++ (⟨#[44, 32]⟩ : ByteArray)) (strL (Lib.itoa imm)) (by (try simp only [ByteArray.size_append]); omega)
  clear l1 l2 l3 l4
  have k12 : (op == 12) = false := by simp; omega
  have k13 : (op == 13) = false := by simp; omega
  have k14 : (op == 14) = false := by simp; omega
  have k15 : (op == 15) = false := by simp; omega
  have k16 : (op == 16) = false := by simp; omega
  have k17 : (op == 17) = false := by simp; omega
  have k18 : (op == 18) = false := by simp; omega
  have k19 : (op == 19) = true := by simp; omega
  have k20 : (op == 20) = false := by simp; omega
  have HE := Lib.hid (show strL (nameOf op) ++ (⟨#[32]⟩ : ByteArray) ++ strL (X rd) ++ (⟨#[44, 32]⟩ : ByteArray) ++ strL (Lib.itoa imm) = strL (textL op rd 0 0 imm) by
    unfold textL
    rw [if_neg (by omega), if_neg (by omega), if_neg (by omega), if_neg (by omega), if_neg (by omega), if_pos (by omega)]
    simp only [show (⟨#[32]⟩ : ByteArray) = strL [32] from rfl, show (⟨#[44, 32]⟩ : ByteArray) = strL [44, 32] from rfl, strL_append])
  go_enter Tryd.func22, Tryd.ntmps22
  go_wp2_with fail
  refine (specValid_any _ _ _ _ _ _).mono ?_
  rw [h]
  rintro e w1 ⟨rfl, hb⟩
  have Q := Lib.hid (bl_tr hb (bl_alloc (Below.refl w.heap.size w) _))
  have kc := Lib.hid (bl_keep hb (new_blk w _))
  obtain ⟨e0, e1, e2, e3, e4⟩ := five kc.out
  clear hb
  go_wp2_with (go_at_call 40; fail)
  refine (cN _).mono ?_
  rintro e w2 ⟨rfl, hb⟩
  have QN := Lib.hid (bl_tr hb Q.out)
  have kn := Lib.hid (bl_keep hb kc.out)
  clear e0 e1 e2 e3 e4 hb
  obtain ⟨e0, e1, e2, e3, e4⟩ := five kn.out
  go_wp2_with (go_at_call 41; fail)
  refine (cD _).mono ?_
  rintro e w3 ⟨rfl, hb⟩
  have QD := Lib.hid (bl_tr hb QN.out)
  have kd := Lib.hid (bl_keep hb kn.out)
  clear e0 e1 e2 e3 e4 hb
  obtain ⟨e0, e1, e2, e3, e4⟩ := five kd.out
  go_wp2_with (first | (go_at_call 42; (with_reducible refine (m1 _).mono ?_); rintro e v10 ⟨rfl, hb⟩; have kn := bl_keep hb kd.out; obtain ⟨u0, u1, u2, u3, u4⟩ := five kn; have K10 := Lib.hid kn; clear kn; have Q10 : Hid (Below w.heap.size w v10) := Lib.hid (bl_tr hb (by repeat (with_reducible first | exact QD.out | apply bl_alloc | apply bl_drewN | apply bl_drew))); clear hb))
  go_ret
  exact ⟨by rw [← HE.out]; rfl, by repeat (with_reducible first | exact Q10.out | apply bl_drewN | apply bl_drew)⟩
set_option maxRecDepth 100000 in
set_option maxHeartbeats 2000000 in
theorem stext_J (op rd rs rt imm : Int) (w : World) (h : iv op rd rs rt imm = true) (h1 : 20 ≤ op) (h2 : op ≤ 20) :
    Calls Tryd.prog 22 #[.agg #[.int .i64 op, .int .i64 rd, .int .i64 rs, .int .i64 rt, .int .i64 imm]] w fun e w' => e = .returned (.string (strL (textL op rd rs rt imm))) ∧ Below w.heap.size w w' := by
  have hV := iv_iff.1 h
  have ho := hV.split
  have hv : (0 ≤ rd ∧ rd < 32) ∧ rs = 0 ∧ rt = 0 ∧ -1048576 ≤ imm ∧ imm ≤ 1048574 := by unfold IV reg at hV; omega
  obtain ⟨⟨a0, a1⟩, rfl, rfl, j0, j1⟩ := hv
  clear hV
  have m1 := fun W => l42X_any (rd) W (by omega) (by omega)
  have m2 := fun W => l42X_any (0) W (by omega) (by omega)
  have m3 := fun W => l42X_any (0) W (by omega) (by omega)
  have cN := fun W => l42Name_any op W ho.1 ho.2
  have cD := fun W => l6Dec_any (imm) W (by omega) (by omega)
  have z0 := name_size op
  have z1 := X_size (rd) (by omega) (by omega)
  have z2 := X_size (0) (by omega) (by omega)
  have z3 := X_size (0) (by omega) (by omega)
  have z4 : (strL (Lib.itoa (imm))).size ≤ 4000000 := by have := itoa_size (imm); omega
  have l1 : (⟨#[32]⟩ : ByteArray).size = 1 := rfl
  have l2 : (⟨#[44, 32]⟩ : ByteArray).size = 2 := rfl
  have l3 : (⟨#[40]⟩ : ByteArray).size = 1 := rfl
  have l4 : (⟨#[41]⟩ : ByteArray).size = 1 := rfl
  have s0 := fun W : World => run_string_add_sum (P := Tryd.prog) W (strL (nameOf op)) ((⟨#[32]⟩ : ByteArray)) (by (try simp only [ByteArray.size_append]); omega)
  have s1 := fun W : World => run_string_add_sum (P := Tryd.prog) W (strL (nameOf op) ++ (⟨#[32]⟩ : ByteArray)) (strL (X rd)) (by (try simp only [ByteArray.size_append]); omega)
  have s2 := fun W : World => run_string_add_sum (P := Tryd.prog) W (strL (nameOf op) ++ (⟨#[32]⟩ : ByteArray) ++ strL (X rd)) ((⟨#[44, 32]⟩ : ByteArray)) (by (try simp only [ByteArray.size_append]); omega)
  have s3 := fun W : World => run_string_add_sum (P := Tryd.prog) W (strL (nameOf op) ++ (⟨#[32]⟩ : ByteArray) ++ strL (X rd) ++ (⟨#[44, 32]⟩ : ByteArray)) (strL (Lib.itoa imm)) (by (try simp only [ByteArray.size_append]); omega)
  clear l1 l2 l3 l4
  have k12 : (op == 12) = false := by simp; omega
  have k13 : (op == 13) = false := by simp; omega
  have k14 : (op == 14) = false := by simp; omega
  have k15 : (op == 15) = false := by simp; omega
  have k16 : (op == 16) = false := by simp; omega
  have k17 : (op == 17) = false := by simp; omega
  have k18 : (op == 18) = false := by simp; omega
  have k19 : (op == 19) = false := by simp; omega
  have k20 : (op == 20) = true := by simp; omega
  have HE := Lib.hid (show strL (nameOf op) ++ (⟨#[32]⟩ : ByteArray) ++ strL (X rd) ++ (⟨#[44, 32]⟩ : ByteArray) ++ strL (Lib.itoa imm) = strL (textL op rd 0 0 imm) by
    unfold textL
    rw [if_neg (by omega), if_neg (by omega), if_neg (by omega), if_neg (by omega), if_neg (by omega), if_pos (by omega)]
    simp only [show (⟨#[32]⟩ : ByteArray) = strL [32] from rfl, show (⟨#[44, 32]⟩ : ByteArray) = strL [44, 32] from rfl, strL_append])
  go_enter Tryd.func22, Tryd.ntmps22
  go_wp2_with fail
  refine (specValid_any _ _ _ _ _ _).mono ?_
  rw [h]
  rintro e w1 ⟨rfl, hb⟩
  have Q := Lib.hid (bl_tr hb (bl_alloc (Below.refl w.heap.size w) _))
  have kc := Lib.hid (bl_keep hb (new_blk w _))
  obtain ⟨e0, e1, e2, e3, e4⟩ := five kc.out
  clear hb
  go_wp2_with (go_at_call 40; fail)
  refine (cN _).mono ?_
  rintro e w2 ⟨rfl, hb⟩
  have QN := Lib.hid (bl_tr hb Q.out)
  have kn := Lib.hid (bl_keep hb kc.out)
  clear e0 e1 e2 e3 e4 hb
  obtain ⟨e0, e1, e2, e3, e4⟩ := five kn.out
  go_wp2_with (go_at_call 41; fail)
  refine (cD _).mono ?_
  rintro e w3 ⟨rfl, hb⟩
  have QD := Lib.hid (bl_tr hb QN.out)
  have kd := Lib.hid (bl_keep hb kn.out)
  clear e0 e1 e2 e3 e4 hb
  obtain ⟨e0, e1, e2, e3, e4⟩ := five kd.out
  go_wp2_with (first | (go_at_call 42; (with_reducible refine (m1 _).mono ?_); rintro e v10 ⟨rfl, hb⟩; have kn := bl_keep hb kd.out; obtain ⟨u0, u1, u2, u3, u4⟩ := five kn; have K10 := Lib.hid kn; clear kn; have Q10 : Hid (Below w.heap.size w v10) := Lib.hid (bl_tr hb (by repeat (with_reducible first | exact QD.out | apply bl_alloc | apply bl_drewN | apply bl_drew))); clear hb))
  go_ret
  exact ⟨by rw [← HE.out]; rfl, by repeat (with_reducible first | exact Q10.out | apply bl_drewN | apply bl_drew)⟩
set_option maxRecDepth 100000 in
set_option maxHeartbeats 2000000 in
theorem stext_E (op rd rs rt imm : Int) (w : World) (h : iv op rd rs rt imm = true) (h1 : 21 ≤ op) :
    Calls Tryd.prog 22 #[.agg #[.int .i64 op, .int .i64 rd, .int .i64 rs, .int .i64 rt, .int .i64 imm]] w fun e w' => e = .returned (.string (strL (textL op rd rs rt imm))) ∧ Below w.heap.size w w' := by
  have hV := iv_iff.1 h
  have ho := hV.split
  have hv : rd = 0 ∧ rs = 0 ∧ rt = 0 ∧ imm = 0 := by unfold IV reg at hV; omega
  obtain ⟨rfl, rfl, rfl, rfl⟩ := hv
  clear hV
  have m1 := fun W => l42X_any (0) W (by omega) (by omega)
  have m2 := fun W => l42X_any (0) W (by omega) (by omega)
  have m3 := fun W => l42X_any (0) W (by omega) (by omega)
  have cN := fun W => l42Name_any op W ho.1 ho.2
  have cD := fun W => l6Dec_any (0) W (by omega) (by omega)
  have z0 := name_size op
  have z1 := X_size (0) (by omega) (by omega)
  have z2 := X_size (0) (by omega) (by omega)
  have z3 := X_size (0) (by omega) (by omega)
  have z4 : (strL (Lib.itoa (0))).size ≤ 4000000 := by have := itoa_size (0); omega
  have l1 : (⟨#[32]⟩ : ByteArray).size = 1 := rfl
  have l2 : (⟨#[44, 32]⟩ : ByteArray).size = 2 := rfl
  have l3 : (⟨#[40]⟩ : ByteArray).size = 1 := rfl
  have l4 : (⟨#[41]⟩ : ByteArray).size = 1 := rfl
  clear l1 l2 l3 l4
  have k12 : (op == 12) = false := by simp; omega
  have k13 : (op == 13) = false := by simp; omega
  have k14 : (op == 14) = false := by simp; omega
  have k15 : (op == 15) = false := by simp; omega
  have k16 : (op == 16) = false := by simp; omega
  have k17 : (op == 17) = false := by simp; omega
  have k18 : (op == 18) = false := by simp; omega
  have k19 : (op == 19) = false := by simp; omega
  have k20 : (op == 20) = false := by simp; omega
  have HE := Lib.hid (show strL (nameOf op) = strL (textL op 0 0 0 0) by
    unfold textL
    rw [if_neg (by omega), if_neg (by omega), if_neg (by omega), if_neg (by omega), if_neg (by omega), if_neg (by omega)]
    skip)
  go_enter Tryd.func22, Tryd.ntmps22
  go_wp2_with fail
  refine (specValid_any _ _ _ _ _ _).mono ?_
  rw [h]
  rintro e w1 ⟨rfl, hb⟩
  have Q := Lib.hid (bl_tr hb (bl_alloc (Below.refl w.heap.size w) _))
  have kc := Lib.hid (bl_keep hb (new_blk w _))
  obtain ⟨e0, e1, e2, e3, e4⟩ := five kc.out
  clear hb
  go_wp2_with (go_at_call 40; fail)
  refine (cN _).mono ?_
  rintro e w2 ⟨rfl, hb⟩
  have QN := Lib.hid (bl_tr hb Q.out)
  have kn := Lib.hid (bl_keep hb kc.out)
  clear e0 e1 e2 e3 e4 hb
  obtain ⟨e0, e1, e2, e3, e4⟩ := five kn.out
  go_wp2_with (go_at_call 41; fail)
  refine (cD _).mono ?_
  rintro e w3 ⟨rfl, hb⟩
  have QD := Lib.hid (bl_tr hb QN.out)
  have kd := Lib.hid (bl_keep hb kn.out)
  clear e0 e1 e2 e3 e4 hb
  obtain ⟨e0, e1, e2, e3, e4⟩ := five kd.out
  go_wp2
  go_ret
  exact ⟨by rw [← HE.out]; rfl, by repeat (with_reducible first | exact QD.out | apply bl_drewN | apply bl_drew)⟩
theorem stext_no (op rd rs rt imm : Int) (w : World) (h : iv op rd rs rt imm = false) :
    Calls Tryd.prog 22 #[.agg #[.int .i64 op, .int .i64 rd, .int .i64 rs, .int .i64 rt, .int .i64 imm]] w fun e w' => e = .returned (.string (strL [])) ∧ Below w.heap.size w w' := by
  go_enter Tryd.func22, Tryd.ntmps22
  go_wp2_with fail
  refine (specValid_any _ _ _ _ _ _).mono ?_
  rw [h]
  rintro e w1 ⟨rfl, hb⟩
  have Q := Lib.hid (bl_tr hb (bl_alloc (Below.refl w.heap.size w) _))
  clear hb
  go_wp2
  go_ret
  exact ⟨rfl, Q.out⟩
theorem specText_any (op rd rs rt imm : Int) (w : World) :
    Calls Tryd.prog 22 #[.agg #[.int .i64 op, .int .i64 rd, .int .i64 rs, .int .i64 rt, .int .i64 imm]] w (TxP op rd rs rt imm w) := by
  cases h : iv op rd rs rt imm with
  | false => unfold TxP; rw [textV_no h]; exact stext_no op rd rs rt imm w h
  | true =>
    unfold TxP; rw [textV_yes h]
    rcases (by omega : op ≤ 11 ∨ (12 ≤ op ∧ op ≤ 12) ∨ (13 ≤ op ∧ op ≤ 13) ∨ (14 ≤ op ∧ op ≤ 14) ∨ (15 ≤ op ∧ op ≤ 15) ∨ (16 ≤ op ∧ op ≤ 16) ∨ (17 ≤ op ∧ op ≤ 17) ∨ (18 ≤ op ∧ op ≤ 18) ∨ (19 ≤ op ∧ op ≤ 19) ∨ (20 ≤ op ∧ op ≤ 20) ∨ 21 ≤ op) with k | k | k | k | k | k | k | k | k | k | k
    · exact stext_R op rd rs rt imm w h k
    · exact stext_I0 op rd rs rt imm w h k.1 k.2
    · exact stext_I1 op rd rs rt imm w h k.1 k.2
    · exact stext_L op rd rs rt imm w h k.1 k.2
    · exact stext_M op rd rs rt imm w h k.1 k.2
    · exact stext_S op rd rs rt imm w h k.1 k.2
    · exact stext_B0 op rd rs rt imm w h k.1 k.2
    · exact stext_B1 op rd rs rt imm w h k.1 k.2
    · exact stext_U op rd rs rt imm w h k.1 k.2
    · exact stext_J op rd rs rt imm w h k.1 k.2
    · exact stext_E op rd rs rt imm w h k
end Go.Proofs.YthmfkdlncnjjoaaDoor
