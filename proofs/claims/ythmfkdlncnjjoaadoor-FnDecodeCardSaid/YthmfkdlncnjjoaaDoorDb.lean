/- The walk of the program's InstrDecode. -/
import Derived.Test.YthmfkdlncnjjoaaDoorDa
import Derived.Test.YthmfkdlncnjjoaaDoorSg
import Derived.LoopTactic
namespace Go.Proofs.YthmfkdlncnjjoaaDoor
open Go.RowKit IM
set_option linter.unusedSimpArgs false
set_option linter.unusedVariables false
def mB (op u : Int) : Bool := decide (opc op = u % 128 ∧ (op ≤ 18 → f3 op = u / 4096 % 8) ∧ (op ≤ 11 → f7 op = u / 33554432 % 128))
theorem and127 (u : Int) (h0 : 0 ≤ u) (h1 : u < 4294967296) : bits .and .i64 u 127 = u % 128 := by
  have := bits_mask .i64 40 (by decide) (fun n a b => IntWalk.i64_in n (by omega)) 7 (by omega) u h0 (by omega)
  simpa using this
set_option maxRecDepth 100000 in
set_option maxHeartbeats 1000000 in
theorem matches_any (op u : Int) (s : ByteArray) (w : World) (o0 : 1 ≤ op) (o1 : op ≤ 21) (h0 : 0 ≤ u) (h1 : u < 4294967296) :
    Calls Tryd.prog 38 #[.agg #[.string s, .int .i64 (opc op), .int .i64 (f3 op), .int .i64 (f7 op)], .int .i64 op, .int .i64 u] w fun e w' => e = .returned (.bool (mB op u)) ∧ Below w.heap.size w w' := by
  have hf := fmt_cases op
  have ha := and127 u h0 h1
  have c1 := fun W => ib12_3 u W h0 h1
  have c2 := fun W => ib25_7 u W h0 h1
  by_cases hm : opc op = u % 128
  · by_cases hm3 : f3 op = u / 4096 % 8 <;> by_cases hm7 : f7 op = u / 33554432 % 128 <;> rcases hf with ⟨hf, k1, k2⟩ | ⟨hf, k1, k2⟩ | ⟨hf, k1⟩ | ⟨hf, k1, k2⟩ | ⟨hf, k1⟩ | ⟨hf, k1⟩ | ⟨hf, k1⟩ | ⟨hf, k1⟩
    all_goals
      have K := Lib.hid k1; clear k1
      have hz : (opc op != u % 128) = false := by simp; exact hm
      have hz3 := (show (f3 op == u / 4096 % 8) = _ by first | exact beq_iff_eq.2 hm3 | exact beq_eq_false_iff_ne.2 hm3)
      have hz7 := (show (f7 op == u / 33554432 % 128) = _ by first | exact beq_iff_eq.2 hm7 | exact beq_eq_false_iff_ne.2 hm7)
      have M := Lib.hid hm; clear hm
      have M3 := Lib.hid hm3; clear hm3
      have M7 := Lib.hid hm7; clear hm7
      go_enter Tryd.func38, Tryd.ntmps38
      go_wp2_with (first | (go_at_call 31; refine (formatOf_any _ _).mono ?_; rintro e w' ⟨rfl, rfl⟩))
    all_goals
      try (go_quiet ((first | (go_at_call 18; with_reducible exact Calls.quiet_of (c1 _)) | (go_at_call 18; with_reducible exact Calls.quiet_of (c2 _)) | (go_at_call 18; with_reducible exact qa_of (c2 _)))); go_wp2)
    all_goals
      have k1 := K.out
      have hm := M.out
      have hm3 := M3.out
      have hm7 := M7.out
      clear K M M3 M7
      go_ret
      refine ⟨ret_bool ?_, by repeat (first | (with_reducible exact Below.refl _ _) | (with_reducible apply bl_alloc) | (with_reducible apply bl_drewN) | (with_reducible apply bl_drew))⟩
      unfold mB
      rw [Bool.eq_iff_iff]
      simp only [decide_eq_true_eq, beq_iff_eq, beq_eq_false_iff_ne, ne_eq, Bool.and_eq_true, Bool.false_eq_true, false_iff, true_iff] at *
      omega
  · have hz : (opc op != u % 128) = true := by simp; exact hm
    have M := Lib.hid hm; clear hm hf
    go_enter Tryd.func38, Tryd.ntmps38
    go_wp2
    go_ret
    refine ⟨ret_bool ?_, by repeat (first | (with_reducible exact Below.refl _ _) | (with_reducible apply bl_alloc) | (with_reducible apply bl_drewN) | (with_reducible apply bl_drew))⟩
    unfold mB
    rw [eq_comm, decide_eq_false_iff_not]
    exact fun h => M.out h.1
/-- The instruction op encodes to u. -/
def Hit (u op : Int) : Prop := 1 ≤ op ∧ op ≤ 21 ∧ 0 ≤ u ∧ u < 4294967296 ∧ E op (dRd op u) (dRs op u) (dRt op u) (dIm op u) = u
theorem Hit.mB {u op : Int} (h : Hit u op) : mB op u = true := by
  obtain ⟨h1, h2, h3, h4, h5⟩ := h
  have e := E_opc (dec_valid op u h1 h2 h3 h4)
  rw [h5] at e
  unfold Proofs.YthmfkdlncnjjoaaDoor.mB
  rw [decide_eq_true_eq]
  refine ⟨e.1.symm, fun h => (e.2.1 h).symm, fun h => ?_⟩
  have := e.2.2 h
  omega
theorem all_inj : ∀ a b : Fin 22, 1 ≤ a.val → 1 ≤ b.val → opc (Int.ofNat a.val) = opc (Int.ofNat b.val) → (a.val ≤ 18 → b.val ≤ 18 → f3 (Int.ofNat a.val) = f3 (Int.ofNat b.val)) → (a.val ≤ 11 → b.val ≤ 11 → f7 (Int.ofNat a.val) = f7 (Int.ofNat b.val)) → a = b := by decide +kernel
theorem mB_one {u a b : Int} (a1 : 1 ≤ a) (a2 : a ≤ 21) (b1 : 1 ≤ b) (b2 : b ≤ 21) (ha : mB a u = true) (hb : mB b u = true) : a = b := by
  unfold mB at ha hb
  rw [decide_eq_true_eq] at ha hb
  obtain ⟨x, rfl⟩ := Int.eq_ofNat_of_zero_le (show 0 ≤ a by omega)
  obtain ⟨y, rfl⟩ := Int.eq_ofNat_of_zero_le (show 0 ≤ b by omega)
  have := all_inj ⟨x, by omega⟩ ⟨y, by omega⟩ (by show 1 ≤ x; omega) (by show 1 ≤ y; omega) (ha.1.trans hb.1.symm) (fun p q => (ha.2.1 (by simp at p; omega)).trans (hb.2.1 (by simp at q; omega)).symm) (fun p q => (ha.2.2 (by simp at p; omega)).trans (hb.2.2 (by simp at q; omega)).symm)
  simp only [Fin.mk.injEq] at this
  omega
theorem Hit.one {u a b : Int} (ha : Hit u a) (hb : Hit u b) : a = b := mB_one ha.1 ha.2.1 hb.1 hb.2.1 ha.mB hb.mB
theorem instrEncode_ok (op rd rs rt imm : Int) (w : World) (hT : Tab w) (h : iv op rd rs rt imm = true) :
    Calls Tryd.prog 16 #[.agg #[.int .i64 op, .int .i64 rd, .int .i64 rs, .int .i64 rt, .int .i64 imm]] w fun e w' => e = .returned (.tuple #[.int .i64 (E op rd rs rt imm), .bool true]) ∧ Below w.heap.size w w' :=
  (instrEncode_v op rd rs rt imm w hT).mono fun e w' ⟨h1, h2⟩ => ⟨by rw [h1, encV_yes h, h], h2⟩
/-- What both decoders answer. -/
def DecP (u : Int) (w : World) (e : Ending) (w' : World) : Prop :=
  ((∃ op, Hit u op ∧ e = .returned (.tuple #[.agg #[.int .i64 op, .int .i64 (dRd op u), .int .i64 (dRs op u), .int .i64 (dRt op u), .int .i64 (dIm op u)], .bool true])) ∨
   ((∀ op, ¬ Hit u op) ∧ e = .returned (.tuple #[.agg #[.int .i64 0, .int .i64 0, .int .i64 0, .int .i64 0, .int .i64 0], .bool false]))) ∧ Below w.heap.size w w'
set_option maxRecDepth 100000 in
set_option maxHeartbeats 1000000 in
theorem decode_out (u : Int) (w : World) (h : u < 0 ∨ 4294967296 ≤ u) :
    Calls Tryd.prog 20 #[.int .i64 u] w (DecP u w) := by
  have hd : decide (0 ≤ u ∧ u < 4294967296) = false := by rw [decide_eq_false_iff_not]; omega
  have H := Lib.hid h
  clear h
  go_enter Tryd.func20, Tryd.ntmps20
  go_wp2_with (go_at_call 34; refine (isUnsigned_any _ _).mono ?_; rw [hd]; rintro e w' ⟨rfl, rfl⟩)
  refine bodyPost_ret (v := .tuple #[.agg #[.int .i64 0, .int .i64 0, .int .i64 0, .int .i64 0, .int .i64 0], .bool false]) (by simp [results, Tryd.results20, go_sem]) rfl ⟨.inr ⟨fun op hh => ?_, rfl⟩, ?_⟩
  · have := hh.2.2.1; have := hh.2.2.2.1; have := H.out; omega
  · repeat (first | (with_reducible exact Below.refl _ _) | (with_reducible apply bl_alloc) | (with_reducible apply bl_drewN) | (with_reducible apply bl_drew))
set_option maxRecDepth 100000 in
set_option maxHeartbeats 1000000 in
theorem decode_in (u : Int) (w : World) (hT : Tab w) (h0 : 0 ≤ u) (h1 : u < 4294967296) :
    Calls Tryd.prog 20 #[.int .i64 u] w (DecP u w) := by
  have hd : decide (0 ≤ u ∧ u < 4294967296) = true := decide_eq_true ⟨h0, h1⟩
  have HT := Lib.hid hT
  clear hT
  go_enter Tryd.func20, Tryd.ntmps20
  go_wp2_with (go_at_call 34; refine (isUnsigned_any _ _).mono ?_; rw [hd]; rintro e w' ⟨rfl, rfl⟩)
  go_loopw [4] (fun o wr => ∃ k : Nat, 1 ≤ k ∧ k ≤ 22 ∧ o = .int .i64 k ∧ Hid (Below w.heap.size w wr) ∧ Hid (wr.heap[w.heap.size]? = some (.cells #[.int .i64 0, .int .i64 0, .int .i64 0, .int .i64 0, .int .i64 0] 26)) ∧ Hid (∀ j : Int, j < k → ¬ Hit u j)) (fun o _ => 22 - (intOf o).toNat)
  case atStart => exact ⟨1, Nat.le_refl _, by omega, rfl, Lib.hid (bl_alloc (Below.refl _ _) _), Lib.hid (new_blk w _), Lib.hid (fun j hj hh => by have := hh.1; omega)⟩
  case round =>
    obtain ⟨k, hk1, hk2, rfl, hB, hC, hN⟩ := hrel
    by_cases hlt : k ≤ 21
    · obtain ⟨t0, t1, t2, t3⟩ := (HT.out.below hB.out).row k (by omega) (by omega)
      simp only [Int.toNat_natCast] at t0 t1 t2 t3
      go_wp2_with fail
      refine (matches_any k u _ _ (by omega) (by omega) h0 h1).mono ?_
      rintro e w1 ⟨rfl, hb1⟩
      have C1 := Lib.hid (bl_keep hb1 (by repeat (with_reducible first | exact hC.out | apply blk_alloc)))
      have Q1 := Lib.hid (bl_tr hb1 (by repeat (with_reducible first | exact hB.out | apply bl_alloc)))
      clear hb1
      cases hm : mB k u with
      | false =>
        have hN' : ∀ j : Int, j < ((k + 1 : Nat) : Int) → ¬ Hit u j := fun j hj hh => by
          rcases (by omega : j < k ∨ j = k) with h | h
          · exact hN.out j h hh
          · subst h
            have := hh.mB
            rw [hm] at this
            cases this
        have HN := Lib.hid hN'
        clear hN'
        go_wp2
        go_roundw
        case rel => exact ⟨k + 1, by omega, by omega, by go_num, Q1, C1, HN⟩
        case measure => simp [intOf]; omega
      | true =>
        go_wp2_with fail
        refine (decodeAs_any k u _ (by omega) (by omega) h0 h1).mono ?_
        rintro e w2 ⟨rfl, hb2⟩
        have C2 := Lib.hid (bl_keep hb2 (by repeat (with_reducible first | exact C1.out | apply blk_alloc)))
        have Q2 := Lib.hid (bl_tr hb2 (by repeat (with_reducible first | exact Q1.out | apply bl_alloc)))
        clear hb2
        have hv := iv_iff.2 (dec_valid k u (by omega) (by omega) h0 h1)
        have hP := Lib.hid hv
        clear hv
        go_wp2_with fail
        refine (instrEncode_ok _ _ _ _ _ _ (HT.out.below (by repeat (with_reducible first | exact Q2.out | apply bl_alloc))) hP.out).mono ?_
        rintro e w3 ⟨rfl, hb3⟩
        have kc := Lib.hid (bl_keep hb3 (new_blk w2 _))
        obtain ⟨e0, e1, e2, e3, e4⟩ := five kc.out
        have C3 := Lib.hid (bl_keep hb3 (by repeat (with_reducible first | exact C2.out | apply blk_alloc)))
        have cu := unfrozen C3.out
        have Q3 := Lib.hid (bl_tr hb3 (by repeat (with_reducible first | exact Q2.out | apply bl_alloc)))
        clear hb3
        by_cases hE : E k (dRd k u) (dRs k u) (dRt k u) (dIm k u) = u
        · have hH : Hit u k := ⟨by omega, by omega, h0, h1, hE⟩
          have HH := Lib.hid hH
          clear hH
          rw [hE]
          have hz : (u == u) = true := by simp
          obtain ⟨z0, z1, z2, z3, z4⟩ := five C3.out
          go_wp2
          refine bodyPost_ret (v := .tuple #[.agg #[.int .i64 k, .int .i64 (dRd k u), .int .i64 (dRs k u), .int .i64 (dRt k u), .int .i64 (dIm k u)], .bool true]) (by simp [results, Tryd.results20, go_sem, *]) rfl ⟨.inl ⟨k, HH.out, rfl⟩, ?_⟩
          repeat (first | (with_reducible exact Q3.out) | (with_reducible apply bl_alloc) | (with_reducible apply bl_drewN) | (with_reducible apply bl_drew) | (with_reducible refine Below.setCell ?_ (by first | exact Nat.le_refl _ | omega) _))
        · have hz : (E k (dRd k u) (dRs k u) (dRt k u) (dIm k u) == u) = false := by simp; exact hE
          have hN' : ∀ j : Int, j < ((k + 1 : Nat) : Int) → ¬ Hit u j := fun j hj hh => by
            rcases (by omega : j < k ∨ j = k) with h | h
            · exact hN.out j h hh
            · subst h
              exact hE hh.2.2.2.2
          have HN := Lib.hid hN'
          clear hN' hE
          generalize E k (dRd k u) (dRs k u) (dRt k u) (dIm k u) = z at *
          go_wp2
          go_roundw
          case rel => exact ⟨k + 1, by omega, by omega, by go_num, Q3, C3, HN⟩
          case measure => simp [intOf]; omega
    · have cu := unfrozen hC.out
      obtain ⟨z0, z1, z2, z3, z4⟩ := five hC.out
      go_wp2
      refine bodyPost_ret (v := .tuple #[.agg #[.int .i64 0, .int .i64 0, .int .i64 0, .int .i64 0, .int .i64 0], .bool false]) (by simp [results, Tryd.results20, go_sem, *]) rfl ⟨.inr ⟨fun op hh => hN.out op (by have := hh.2.1; omega) hh, rfl⟩, ?_⟩
      repeat (first | (with_reducible exact hB.out) | (with_reducible apply bl_alloc) | (with_reducible apply bl_drewN) | (with_reducible apply bl_drew) | (with_reducible refine Below.setCell ?_ (by first | exact Nat.le_refl _ | omega) _))
theorem instrDecode_any (u : Int) (w : World) (hT : Tab w) :
    Calls Tryd.prog 20 #[.int .i64 u] w (DecP u w) := by
  by_cases h : 0 ≤ u ∧ u < 4294967296
  · exact decode_in u w hT h.1 h.2
  · exact decode_out u w (by omega)
end Go.Proofs.YthmfkdlncnjjoaaDoor
