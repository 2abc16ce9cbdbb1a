/- The draws of an instruction: whatever is drawn, it is five whole numbers. -/
import Derived.Test.YthmfkdlncnjjoaaDoorDr
import Derived.Test.YthmfkdlncnjjoaaDoorIm
import Derived.Deep.RegionHeld3
import Derived.IntWalk
namespace Go.Proofs.YthmfkdlncnjjoaaDoor
open Go.RowKit IM
set_option linter.unusedSimpArgs false
def PkL (B g N : Nat) (lo hi : Int) (w : World) (e : Ending) (w' : World) : Prop := ∃ v : Int, e = .returned (.int .i64 v) ∧ lo ≤ v ∧ v ≤ hi ∧ Rd B w' g N ∧ Only g w w'
theorem l94X_any (B g N : Nat) (w : World) (h : Rd B w g N) (hN : N ≤ 1000000) :
    Calls Tryd.prog 66 #[.pointer (some ⟨g, 0, none⟩)] w (PkL B g (N + 1) 0 31 w) := by
  go_enter Tryd.func66, Tryd.ntmps66
  go_wp2_with fail
  refine (pick_any B g N _ _ h (by omega)).mono ?_
  rintro e w' ⟨v, rfl, h0, h1, h2, hr, ho⟩
  go_wp2
  go_ret
  exact ⟨v, rfl, h0, by have := h1 (by omega); omega, hr, ho⟩
set_option maxHeartbeats 1000000 in
theorem l94Imm_any (B g N : Nat) (w : World) (h : Rd B w g N) (hN : N ≤ 1000000) :
    Calls Tryd.prog 67 #[.pointer (some ⟨g, 0, none⟩)] w (PkL B g (N + 2) (-2048) 2047 w) := by
  go_enter Tryd.func67, Tryd.ntmps67
  go_wp2_with fail
  refine (pick_any B g N _ _ h (by omega)).mono ?_
  rintro e w1 ⟨v, rfl, h0, h1, h2, hr, ho⟩
  clear h1 h2
  have hne : w1.heap.size ≠ g := by have := hr.lt; omega
  go_wp2_with fail
  · refine (pick_any B g (N + 1) _ _ (hr.below (bl_alloc (Below.refl _ _) _)) (by omega)).mono ?_
    rintro e w2 ⟨v2, rfl, k0, k1, k2, hr2, ho2⟩
    have k3 := k1 (by omega)
    obtain ⟨oc, of⟩ := ho2.cell
    have hv : v2 = 0 ∨ v2 = 1 ∨ v2 = 2 ∨ v2 = 3 ∨ v2 = 4 := by omega
    clear k0 k1 k2 k3
    rcases hv with rfl | rfl | rfl | rfl | rfl
    all_goals
      go_wp2
      go_ret
      exact ⟨_, rfl, by omega, by omega, hr2, (ho.alloc _).trans ho2⟩
  · refine (pick_any B g (N + 1) _ _ hr (by omega)).mono ?_
    rintro e w2 ⟨v2, rfl, k0, k1, k2, hr2, ho2⟩
    have k3 := k1 (by omega)
    clear k1 k2
    go_wp2
    go_ret
    exact ⟨_, rfl, by omega, by omega, hr2, ho.trans ho2⟩
def InsV (B g N : Nat) (w : World) (e : Ending) (w' : World) : Prop := ∃ op rd rs rt imm : Int, e = .returned (.agg #[.int .i64 op, .int .i64 rd, .int .i64 rs, .int .i64 rt, .int .i64 imm]) ∧ IV op rd rs rt imm ∧ Rd B w' g N ∧ Only g w w'
theorem ins_post {B g N N' : Nat} {w W : World} {op rd rs rt imm : Int} {a0 a1 a2 a3 a4 : Value} (hv : IV op rd rs rt imm) (hr : Rd B W g N') (hN : N' ≤ N) (hQ : Only g w W) (hne : w.heap.size ≠ g) (hB : B ≤ w.heap.size) :
    InsV B g N w (.returned (.agg #[.int .i64 op, .int .i64 rd, .int .i64 rs, .int .i64 rt, .int .i64 imm])) (((((W.setCell ⟨w.heap.size, 0, none⟩ a0).setCell ⟨w.heap.size, 1, none⟩ a1).setCell ⟨w.heap.size, 2, none⟩ a2).setCell ⟨w.heap.size, 3, none⟩ a3).setCell ⟨w.heap.size, 4, none⟩ a4) :=
  ⟨op, rd, rs, rt, imm, rfl, hv, (((((hr.set hne hB _).set hne hB _).set hne hB _).set hne hB _).set hne hB _).mono hN, ((((hQ.setNew (Nat.le_refl _) _).setNew (Nat.le_refl _) _).setNew (Nat.le_refl _) _).setNew (Nat.le_refl _) _).setNew (Nat.le_refl _) _⟩
set_option maxRecDepth 100000 in
set_option maxHeartbeats 4000000 in
theorem l94Instr_any (B g N : Nat) (w : World) (h : Rd B w g N) (hN : N ≤ 100000) :
    Calls Tryd.prog 45 #[.pointer (some ⟨g, 0, none⟩)] w (InsV B g (N + 8) w) := by
  have hne : w.heap.size ≠ g := by have := h.lt; omega
  go_enter Tryd.func45, Tryd.ntmps45
  go_wp2_with fail
  refine (pick_any B g N _ _ (by repeat (with_reducible first | assumption | apply Rd.alloc)) (by omega)).mono ?_
  rintro e w1 ⟨v, rfl, h0, h1, h2, hr, ho⟩
  have h3 := h1 (by omega)
  clear h1 h2
  have k1 := Lib.hid (ho.keep (new_blk w _) hne)
  go_wp2_with fail
  refine (l94X_any B g (N + 1) _ (by repeat (with_reducible first | assumption | apply Rd.alloc)) (by omega)).mono ?_
  rintro e w2 ⟨rd, rfl, a0, a1, hr2, ho2⟩
  go_wp2_with fail
  refine (l94X_any B g (N + 2) _ (by repeat (with_reducible first | assumption | apply Rd.alloc)) (by omega)).mono ?_
  rintro e w3 ⟨rs, rfl, b0, b1, hr3, ho3⟩
  go_wp2_with fail
  refine (l94X_any B g (N + 3) _ (by repeat (with_reducible first | assumption | apply Rd.alloc)) (by omega)).mono ?_
  rintro e w4 ⟨rt, rfl, c0, c1, hr4, ho4⟩
  have k4 := Lib.hid (ho4.keep (ho3.keep (ho2.keep k1.out hne) hne) hne)
  have n1 : w.heap.size ≠ w4.heap.size := by have := lt_blk k4.out; omega
  have n2 : w4.heap.size ≠ w.heap.size := Ne.symm n1
  have hne4 : w4.heap.size ≠ g := by have := hr4.lt; omega
  go_wp2_with fail
  refine (pick_any B g (N + 4) _ _ (by repeat (with_reducible first | assumption | apply Rd.alloc)) (by omega)).mono ?_
  rintro e w5 ⟨big, rfl, d0, d1, d2, hr5, ho5⟩
  clear d1 d2
  have kc := Lib.hid (ho5.keep (blk_alloc k4.out _) hne)
  have jc := Lib.hid (ho5.keep (new_blk w4 _) hne4)
  have O5 : Only g w w5 := (((((Only.refl g w).alloc _).trans ho).trans ho2).trans ho3).trans ((ho4.alloc _).trans ho5)
  have Qc := Lib.hid O5
  have zb := hr.lt
  have zB : B ≤ w.heap.size := by obtain ⟨_, _, _, _, _, _, _, _, z⟩ := h; exact z
  clear O5 ho ho2 ho3 ho4 ho5 k1 k4 hr hr2 hr3 hr4 h
  obtain ⟨e0, e1, e2, e3, e4⟩ := five jc.out
  obtain ⟨r0, r1, r2, r3, r4⟩ := five kc.out
  have rf := unfrozen kc.out
  have hv : v ≤ 10 ∨ (11 ≤ v ∧ v ≤ 14) ∨ v = 15 ∨ v = 16 ∨ v = 17 ∨ v = 18 ∨ v = 19 ∨ v = 20 := by omega
  rcases hv with hv | ⟨hv, hv1⟩ | hv | hv | hv | hv | hv | hv
  · go_wp2
    refine bodyPost_ret (v := .agg #[.int .i64 (1 + v), .int .i64 rd, .int .i64 rs, .int .i64 rt, .int .i64 0]) (by simp [results, Tryd.results45, go_sem, *]) rfl (ins_post (by unfold IV reg; omega) hr5 (by omega) Qc.out hne zB)
  · go_wp2
    go_region_held3 (fun w' => w'.cell? ⟨w4.heap.size, 1, none⟩ = some (.int .i64 rd) ∧ w'.cell? ⟨w4.heap.size, 2, none⟩ = some (.int .i64 rs)) (first | (simp [*]; done) | (go_simp; done) | (constructor <;> go_simp)) (first | (go_at_call 67; refine (l94Imm_any B g (N + 5) _ ?_ (by omega)).mono ?_; (focus (repeat (with_reducible first | assumption | apply Rd.alloc | apply Rd.drewN | apply Rd.drew))); rintro e w6 ⟨im, rfl, i0, i1, hr6, ho6⟩; obtain ⟨y0, y1, y2, y3, y4⟩ := five (ho6.keep jc.out hne4); obtain ⟨u0, u1, u2, u3, u4⟩ := five (ho6.keep kc.out hne); have uf := unfrozen (ho6.keep kc.out hne); have jn := Lib.hid (ho6.keep jc.out hne4); have kn := Lib.hid (ho6.keep kc.out hne); have Qn := Lib.hid (Qc.out.trans (Only.trans (by repeat (with_reducible first | exact Only.refl _ _ | apply Only.drewN | apply Only.drew)) ho6)); clear ho6 jc kc Qc; have jc := jn; have kc := kn; have Qc := Qn; clear jn kn Qn))
    go_wp2
    refine bodyPost_ret (v := .agg #[.int .i64 (1 + v), .int .i64 rd, .int .i64 rs, .int .i64 0, .int .i64 im]) (by simp [results, Tryd.results45, go_sem, *]) rfl (ins_post (by unfold IV reg; omega) hr6 (by omega) Qc.out hne zB)
  · go_wp2
    go_region_held3 (fun w' => w'.cell? ⟨w4.heap.size, 2, none⟩ = some (.int .i64 rs) ∧ w'.cell? ⟨w4.heap.size, 3, none⟩ = some (.int .i64 rt)) (first | (simp [*]; done) | (go_simp; done) | (constructor <;> go_simp)) (first | (go_at_call 67; refine (l94Imm_any B g (N + 5) _ ?_ (by omega)).mono ?_; (focus (repeat (with_reducible first | assumption | apply Rd.alloc | apply Rd.drewN | apply Rd.drew))); rintro e w6 ⟨im, rfl, i0, i1, hr6, ho6⟩; obtain ⟨y0, y1, y2, y3, y4⟩ := five (ho6.keep jc.out hne4); obtain ⟨u0, u1, u2, u3, u4⟩ := five (ho6.keep kc.out hne); have uf := unfrozen (ho6.keep kc.out hne); have jn := Lib.hid (ho6.keep jc.out hne4); have kn := Lib.hid (ho6.keep kc.out hne); have Qn := Lib.hid (Qc.out.trans (Only.trans (by repeat (with_reducible first | exact Only.refl _ _ | apply Only.drewN | apply Only.drew)) ho6)); clear ho6 jc kc Qc; have jc := jn; have kc := kn; have Qc := Qn; clear jn kn Qn))
    go_wp2
    refine bodyPost_ret (v := .agg #[.int .i64 (1 + v), .int .i64 0, .int .i64 rs, .int .i64 rt, .int .i64 im]) (by simp [results, Tryd.results45, go_sem, *]) rfl (ins_post (by unfold IV reg; omega) hr6 (by omega) Qc.out hne zB)
  · go_wp2
    go_region_held3 (fun w' => w'.cell? ⟨w4.heap.size, 2, none⟩ = some (.int .i64 rs) ∧ w'.cell? ⟨w4.heap.size, 3, none⟩ = some (.int .i64 rt)) (first | (simp [*]; done) | (go_simp; done) | (constructor <;> go_simp)) (first | (go_at_call 67; refine (l94Imm_any B g (N + 5) _ ?_ (by omega)).mono ?_; (focus (repeat (with_reducible first | assumption | apply Rd.alloc | apply Rd.drewN | apply Rd.drew))); rintro e w6 ⟨im, rfl, i0, i1, hr6, ho6⟩; obtain ⟨y0, y1, y2, y3, y4⟩ := five (ho6.keep jc.out hne4); obtain ⟨u0, u1, u2, u3, u4⟩ := five (ho6.keep kc.out hne); have uf := unfrozen (ho6.keep kc.out hne); have jn := Lib.hid (ho6.keep jc.out hne4); have kn := Lib.hid (ho6.keep kc.out hne); have Qn := Lib.hid (Qc.out.trans (Only.trans (by repeat (with_reducible first | exact Only.refl _ _ | apply Only.drewN | apply Only.drew)) ho6)); clear ho6 jc kc Qc; have jc := jn; have kc := kn; have Qc := Qn; clear jn kn Qn))
    go_wp2
    have q1 : IntKind.i64.wrap (2 * im) = 2 * im := IntWalk.i64_in _ (by omega)
    refine bodyPost_ret (v := .agg #[.int .i64 (1 + v), .int .i64 0, .int .i64 rs, .int .i64 rt, .int .i64 (2 * im)]) (by simp [results, Tryd.results45, go_sem, *]) rfl (ins_post (by unfold IV reg; omega) hr6 (by omega) Qc.out hne zB)
  · go_wp2
    go_region_held3 (fun w' => w'.cell? ⟨w4.heap.size, 2, none⟩ = some (.int .i64 rs) ∧ w'.cell? ⟨w4.heap.size, 3, none⟩ = some (.int .i64 rt)) (first | (simp [*]; done) | (go_simp; done) | (constructor <;> go_simp)) (first | (go_at_call 67; refine (l94Imm_any B g (N + 5) _ ?_ (by omega)).mono ?_; (focus (repeat (with_reducible first | assumption | apply Rd.alloc | apply Rd.drewN | apply Rd.drew))); rintro e w6 ⟨im, rfl, i0, i1, hr6, ho6⟩; obtain ⟨y0, y1, y2, y3, y4⟩ := five (ho6.keep jc.out hne4); obtain ⟨u0, u1, u2, u3, u4⟩ := five (ho6.keep kc.out hne); have uf := unfrozen (ho6.keep kc.out hne); have jn := Lib.hid (ho6.keep jc.out hne4); have kn := Lib.hid (ho6.keep kc.out hne); have Qn := Lib.hid (Qc.out.trans (Only.trans (by repeat (with_reducible first | exact Only.refl _ _ | apply Only.drewN | apply Only.drew)) ho6)); clear ho6 jc kc Qc; have jc := jn; have kc := kn; have Qc := Qn; clear jn kn Qn))
    go_wp2
    have q1 : IntKind.i64.wrap (2 * im) = 2 * im := IntWalk.i64_in _ (by omega)
    refine bodyPost_ret (v := .agg #[.int .i64 (1 + v), .int .i64 0, .int .i64 rs, .int .i64 rt, .int .i64 (2 * im)]) (by simp [results, Tryd.results45, go_sem, *]) rfl (ins_post (by unfold IV reg; omega) hr6 (by omega) Qc.out hne zB)
  · go_wp2
    · go_region_held3 (fun w' => w'.cell? ⟨w4.heap.size, 1, none⟩ = some (.int .i64 rd)) (first | (simp [*]; done) | (go_simp; done) | (constructor <;> go_simp)) (first | (go_at_call 46; refine (pick_any B g (N + 5) _ _ ?_ (by omega)).mono ?_; (focus (repeat (with_reducible first | assumption | apply Rd.alloc | apply Rd.drewN | apply Rd.drew))); rintro e w6 ⟨x1, rfl, i0, i1, i2, hr6, ho6⟩; have i3 := i1 (by omega); clear i1 i2; obtain ⟨y0, y1, y2, y3, y4⟩ := five (ho6.keep jc.out hne4); obtain ⟨u0, u1, u2, u3, u4⟩ := five (ho6.keep kc.out hne); have uf := unfrozen (ho6.keep kc.out hne); have jn := Lib.hid (ho6.keep jc.out hne4); have kn := Lib.hid (ho6.keep kc.out hne); have Qn := Lib.hid (Qc.out.trans (Only.trans (by repeat (with_reducible first | exact Only.refl _ _ | apply Only.drewN | apply Only.drew)) ho6)); clear ho6 jc kc Qc; have jc := jn; have kc := kn; have Qc := Qn; clear jn kn Qn) | (go_at_call 46; refine (pick_any B g (N + 6) _ _ ?_ (by omega)).mono ?_; (focus (repeat (with_reducible first | assumption | apply Rd.alloc | apply Rd.drewN | apply Rd.drew))); rintro e w6 ⟨x2, rfl, i0, i1, i2, hr6, ho6⟩; have i3 := i1 (by omega); clear i1 i2; obtain ⟨y0, y1, y2, y3, y4⟩ := five (ho6.keep jc.out hne4); obtain ⟨u0, u1, u2, u3, u4⟩ := five (ho6.keep kc.out hne); have uf := unfrozen (ho6.keep kc.out hne); have jn := Lib.hid (ho6.keep jc.out hne4); have kn := Lib.hid (ho6.keep kc.out hne); have Qn := Lib.hid (Qc.out.trans (Only.trans (by repeat (with_reducible first | exact Only.refl _ _ | apply Only.drewN | apply Only.drew)) ho6)); clear ho6 jc kc Qc; have jc := jn; have kc := kn; have Qc := Qn; clear jn kn Qn) | (go_at_call 46; refine (pick_any B g (N + 7) _ _ ?_ (by omega)).mono ?_; (focus (repeat (with_reducible first | assumption | apply Rd.alloc | apply Rd.drewN | apply Rd.drew))); rintro e w6 ⟨x3, rfl, i0, i1, i2, hr6, ho6⟩; have i3 := i1 (by omega); clear i1 i2; obtain ⟨y0, y1, y2, y3, y4⟩ := five (ho6.keep jc.out hne4); obtain ⟨u0, u1, u2, u3, u4⟩ := five (ho6.keep kc.out hne); have uf := unfrozen (ho6.keep kc.out hne); have jn := Lib.hid (ho6.keep jc.out hne4); have kn := Lib.hid (ho6.keep kc.out hne); have Qn := Lib.hid (Qc.out.trans (Only.trans (by repeat (with_reducible first | exact Only.refl _ _ | apply Only.drewN | apply Only.drew)) ho6)); clear ho6 jc kc Qc; have jc := jn; have kc := kn; have Qc := Qn; clear jn kn Qn))
      go_wp2
      have q1 : IntKind.i64.wrap (x1 * 4096) = x1 * 4096 := IntWalk.i64_in _ (by omega)
      have q2 : IntKind.i64.wrap (x2 * 16) = x2 * 16 := IntWalk.i64_in _ (by omega)
      have q3 : IntKind.i64.wrap (x1 * 4096 + x2 * 16) = x1 * 4096 + x2 * 16 := IntWalk.i64_in _ (by omega)
      have q4 : IntKind.i64.wrap (x1 * 4096 + x2 * 16 + x3) = x1 * 4096 + x2 * 16 + x3 := IntWalk.i64_in _ (by omega)
      refine bodyPost_ret (v := .agg #[.int .i64 (1 + v), .int .i64 rd, .int .i64 0, .int .i64 0, .int .i64 (x1 * 4096 + x2 * 16 + x3)]) (by simp [results, Tryd.results45, go_sem, *]) rfl (ins_post (by unfold IV reg; omega) hr6 (by omega) Qc.out hne zB)
    · go_region_held3 (fun w' => w'.cell? ⟨w4.heap.size, 1, none⟩ = some (.int .i64 rd)) (first | (simp [*]; done) | (go_simp; done) | (constructor <;> go_simp)) (first | (go_at_call 46; refine (pick_any B g (N + 5) _ _ ?_ (by omega)).mono ?_; (focus (repeat (with_reducible first | assumption | apply Rd.alloc | apply Rd.drewN | apply Rd.drew))); rintro e w6 ⟨x1, rfl, i0, i1, i2, hr6, ho6⟩; have i3 := i1 (by omega); clear i1 i2; obtain ⟨y0, y1, y2, y3, y4⟩ := five (ho6.keep jc.out hne4); obtain ⟨u0, u1, u2, u3, u4⟩ := five (ho6.keep kc.out hne); have uf := unfrozen (ho6.keep kc.out hne); have jn := Lib.hid (ho6.keep jc.out hne4); have kn := Lib.hid (ho6.keep kc.out hne); have Qn := Lib.hid (Qc.out.trans (Only.trans (by repeat (with_reducible first | exact Only.refl _ _ | apply Only.drewN | apply Only.drew)) ho6)); clear ho6 jc kc Qc; have jc := jn; have kc := kn; have Qc := Qn; clear jn kn Qn))
      go_wp2
      refine bodyPost_ret (v := .agg #[.int .i64 (1 + v), .int .i64 rd, .int .i64 0, .int .i64 0, .int .i64 x1]) (by simp [results, Tryd.results45, go_sem, *]) rfl (ins_post (by unfold IV reg; omega) hr6 (by omega) Qc.out hne zB)
  · go_wp2
    · go_region_held3 (fun w' => w'.cell? ⟨w4.heap.size, 1, none⟩ = some (.int .i64 rd)) (first | (simp [*]; done) | (go_simp; done) | (constructor <;> go_simp)) (first | (go_at_call 46; refine (pick_any B g (N + 5) _ _ ?_ (by omega)).mono ?_; (focus (repeat (with_reducible first | assumption | apply Rd.alloc | apply Rd.drewN | apply Rd.drew))); rintro e w6 ⟨x1, rfl, i0, i1, i2, hr6, ho6⟩; have i3 := i1 (by omega); clear i1 i2; obtain ⟨y0, y1, y2, y3, y4⟩ := five (ho6.keep jc.out hne4); obtain ⟨u0, u1, u2, u3, u4⟩ := five (ho6.keep kc.out hne); have uf := unfrozen (ho6.keep kc.out hne); have jn := Lib.hid (ho6.keep jc.out hne4); have kn := Lib.hid (ho6.keep kc.out hne); have Qn := Lib.hid (Qc.out.trans (Only.trans (by repeat (with_reducible first | exact Only.refl _ _ | apply Only.drewN | apply Only.drew)) ho6)); clear ho6 jc kc Qc; have jc := jn; have kc := kn; have Qc := Qn; clear jn kn Qn) | (go_at_call 46; refine (pick_any B g (N + 6) _ _ ?_ (by omega)).mono ?_; (focus (repeat (with_reducible first | assumption | apply Rd.alloc | apply Rd.drewN | apply Rd.drew))); rintro e w6 ⟨x2, rfl, i0, i1, i2, hr6, ho6⟩; have i3 := i1 (by omega); clear i1 i2; obtain ⟨y0, y1, y2, y3, y4⟩ := five (ho6.keep jc.out hne4); obtain ⟨u0, u1, u2, u3, u4⟩ := five (ho6.keep kc.out hne); have uf := unfrozen (ho6.keep kc.out hne); have jn := Lib.hid (ho6.keep jc.out hne4); have kn := Lib.hid (ho6.keep kc.out hne); have Qn := Lib.hid (Qc.out.trans (Only.trans (by repeat (with_reducible first | exact Only.refl _ _ | apply Only.drewN | apply Only.drew)) ho6)); clear ho6 jc kc Qc; have jc := jn; have kc := kn; have Qc := Qn; clear jn kn Qn) | (go_at_call 46; refine (pick_any B g (N + 7) _ _ ?_ (by omega)).mono ?_; (focus (repeat (with_reducible first | assumption | apply Rd.alloc | apply Rd.drewN | apply Rd.drew))); rintro e w6 ⟨x3, rfl, i0, i1, i2, hr6, ho6⟩; have i3 := i1 (by omega); clear i1 i2; obtain ⟨y0, y1, y2, y3, y4⟩ := five (ho6.keep jc.out hne4); obtain ⟨u0, u1, u2, u3, u4⟩ := five (ho6.keep kc.out hne); have uf := unfrozen (ho6.keep kc.out hne); have jn := Lib.hid (ho6.keep jc.out hne4); have kn := Lib.hid (ho6.keep kc.out hne); have Qn := Lib.hid (Qc.out.trans (Only.trans (by repeat (with_reducible first | exact Only.refl _ _ | apply Only.drewN | apply Only.drew)) ho6)); clear ho6 jc kc Qc; have jc := jn; have kc := kn; have Qc := Qn; clear jn kn Qn))
      go_wp2
      have q1 : IntKind.i64.wrap (x1 * 4096) = x1 * 4096 := IntWalk.i64_in _ (by omega)
      have q2 : IntKind.i64.wrap (x2 * 16) = x2 * 16 := IntWalk.i64_in _ (by omega)
      have q3 : IntKind.i64.wrap (x1 * 4096 + x2 * 16) = x1 * 4096 + x2 * 16 := IntWalk.i64_in _ (by omega)
      have q4 : IntKind.i64.wrap (x1 * 4096 + x2 * 16 + x3) = x1 * 4096 + x2 * 16 + x3 := IntWalk.i64_in _ (by omega)
      have q5 : IntKind.i64.wrap ((x1 * 4096 + x2 * 16 + x3) * 2) = (x1 * 4096 + x2 * 16 + x3) * 2 := IntWalk.i64_in _ (by omega)
      have q6 : IntKind.i64.wrap ((x1 * 4096 + x2 * 16 + x3) * 2 - 1048576) = (x1 * 4096 + x2 * 16 + x3) * 2 - 1048576 := IntWalk.i64_in _ (by omega)
      refine bodyPost_ret (v := .agg #[.int .i64 (1 + v), .int .i64 rd, .int .i64 0, .int .i64 0, .int .i64 ((x1 * 4096 + x2 * 16 + x3) * 2 - 1048576)]) (by simp [results, Tryd.results45, go_sem, *]) rfl (ins_post (by unfold IV reg; omega) hr6 (by omega) Qc.out hne zB)
    · go_region_held3 (fun w' => w'.cell? ⟨w4.heap.size, 1, none⟩ = some (.int .i64 rd)) (first | (simp [*]; done) | (go_simp; done) | (constructor <;> go_simp)) (first | (go_at_call 67; refine (l94Imm_any B g (N + 5) _ ?_ (by omega)).mono ?_; (focus (repeat (with_reducible first | assumption | apply Rd.alloc | apply Rd.drewN | apply Rd.drew))); rintro e w6 ⟨im, rfl, i0, i1, hr6, ho6⟩; obtain ⟨y0, y1, y2, y3, y4⟩ := five (ho6.keep jc.out hne4); obtain ⟨u0, u1, u2, u3, u4⟩ := five (ho6.keep kc.out hne); have uf := unfrozen (ho6.keep kc.out hne); have jn := Lib.hid (ho6.keep jc.out hne4); have kn := Lib.hid (ho6.keep kc.out hne); have Qn := Lib.hid (Qc.out.trans (Only.trans (by repeat (with_reducible first | exact Only.refl _ _ | apply Only.drewN | apply Only.drew)) ho6)); clear ho6 jc kc Qc; have jc := jn; have kc := kn; have Qc := Qn; clear jn kn Qn))
      go_wp2
      have q1 : IntKind.i64.wrap (2 * im) = 2 * im := IntWalk.i64_in _ (by omega)
      refine bodyPost_ret (v := .agg #[.int .i64 (1 + v), .int .i64 rd, .int .i64 0, .int .i64 0, .int .i64 (2 * im)]) (by simp [results, Tryd.results45, go_sem, *]) rfl (ins_post (by unfold IV reg; omega) hr6 (by omega) Qc.out hne zB)
  · go_wp2
    exact bodyPost_ret (v := .agg #[.int .i64 21, .int .i64 0, .int .i64 0, .int .i64 0, .int .i64 0]) (by simp [results, Tryd.results45, go_sem, *]) rfl (ins_post (by unfold IV reg; omega) hr5 (by omega) Qc.out hne zB)
end Go.Proofs.YthmfkdlncnjjoaaDoor
