/- The walks of FnDecode and FnDecodeImm: each returns true. -/
import Derived.Test.YthmfkdlncnjjoaaDoorLg
import Derived.Test.YthmfkdlncnjjoaaDoorWe
import Derived.Test.YthmfkdlncnjjoaaDoorEx
import Derived.Outline
namespace Go.Proofs.YthmfkdlncnjjoaaDoor
open Go.RowKit IM
set_option linter.unusedSimpArgs false
set_option linter.unusedVariables false
theorem blk_drewN {w : World} {b : Nat} {o : Obj} (h : w.heap[b]? = some o) (n : Nat) : (w.drewN n).heap[b]? = some o := h
theorem hit_E {op rd rs rt imm : Int} (hV : IV op rd rs rt imm) : Hit (E op rd rs rt imm) op := by
  have de := dec_E hV
  have er := E_range hV
  exact ⟨hV.split.1, hV.split.2, er.1, er.2, by rw [de.1, de.2.1, de.2.2.1, de.2.2.2]⟩
theorem hit_pack {u op : Int} (h : Hit u op) : ∃ rd rs rt imm, IV op rd rs rt imm ∧ E op rd rs rt imm = u :=
  ⟨_, _, _, _, dec_valid op u h.1 h.2.1 h.2.2.1 h.2.2.2.1, h.2.2.2.2⟩
def DecE (op rd rs rt imm : Int) (w : World) (e : Ending) (w' : World) : Prop := e = .returned (.tuple #[.agg #[.int .i64 op, .int .i64 rd, .int .i64 rs, .int .i64 rt, .int .i64 imm], .bool true]) ∧ Below w.heap.size w w'
theorem decE {u op rd rs rt imm : Int} (hV : IV op rd rs rt imm) (hu : E op rd rs rt imm = u) {w w' : World} {e : Ending} (h : DecYes u op w e w') : DecE op rd rs rt imm w e w' := by
  have de := dec_E hV
  subst hu
  unfold DecYes at h
  rw [de.1, de.2.1, de.2.2.1, de.2.2.2] at h
  exact h
theorem instrDecode_E {u op rd rs rt imm : Int} (w : World) (hV : IV op rd rs rt imm) (hu : E op rd rs rt imm = u) (hT : Tab w) : Calls Tryd.prog 20 #[.int .i64 u] w (DecE op rd rs rt imm w) :=
  (instrDecode_yes w hT (hu ▸ hit_E hV)).mono fun _ _ h => decE hV hu h
theorem specDecode_E {u op rd rs rt imm : Int} (w : World) (hV : IV op rd rs rt imm) (hu : E op rd rs rt imm = u) : Calls Tryd.prog 19 #[.int .i64 u] w (DecE op rd rs rt imm w) :=
  (specDecode_yes w (hu ▸ hit_E hV)).mono fun _ _ h => decE hV hu h
set_option maxRecDepth 100000 in
set_option maxHeartbeats 2000000 in
theorem decode_walk (A : Option Addr) (n c : Nat) (bs : List Int) (w : World) (h : Bytes w A n bs) (hc : n ≤ c) (hn : n ≤ 9223372036854775807) (hT : Tab w) :
    Calls Tryd.prog 10 #[.slice A n c] w (Ret1 w) := by
  have HT := Lib.hid hT
  clear hT
  by_cases hl : 1048576 < n
  · go_enter Tryd.func10, Tryd.ntmps10
    go_wp2
    go_ret
    exact ⟨rfl, by repeat (first | (with_reducible exact Below.refl _ _) | (with_reducible apply bl_alloc) | (with_reducible apply bl_drewN) | (with_reducible apply bl_drew))⟩
  · go_enter Tryd.func10, Tryd.ntmps10
    go_wp2_with fail
    refine (drawDecode_any A n c bs _ (by repeat (with_reducible first | exact h | apply Bytes.alloc)) hc hn).mono ?_
    rintro e w1 ⟨u, rfl, hb1⟩
    have Q1 := Lib.hid (bl_tr hb1 (by repeat (with_reducible first | exact Below.refl _ _ | apply bl_alloc) : Below w.heap.size w _))
    clear hb1
    by_cases hh : ∃ op, Hit u op
    · obtain ⟨op, hh⟩ := hh
      obtain ⟨rd, rs, rt, imm, hV, hu⟩ := hit_pack hh
      have UR := Lib.hid (And.intro hh.2.2.1 hh.2.2.2.1)
      clear hh
      have HV := Lib.hid hV
      have HU := Lib.hid hu
      have sp := hV.split
      clear hV hu
      have r1 : (op == op) = true := by simp
      have r2 : (rd == rd) = true := by simp
      have r3 : (rs == rs) = true := by simp
      have r4 : (rt == rt) = true := by simp
      have r5 : (imm == imm) = true := by simp
      go_wp2_with (go_at_call 20; fail)
      refine (instrDecode_E _ HV.out HU.out (HT.out.below (by repeat (with_reducible first | exact Q1.out | apply bl_alloc)))).mono ?_
      rintro e w2 ⟨rfl, hb2⟩
      have Q2 := Lib.hid (bl_tr hb2 (by repeat (with_reducible first | exact Q1.out | apply bl_alloc)))
      clear hb2
      go_wp2_with (go_at_call 19; fail)
      refine (specDecode_E _ HV.out HU.out).mono ?_
      rintro e w3 ⟨rfl, hb3⟩
      have kc := Lib.hid (bl_keep hb3 (new_blk w2 _))
      have kl := lt_blk kc.out
      obtain ⟨e0, e1, e2, e3, e4⟩ := five kc.out
      have ef := unfrozen kc.out
      have Q3 := Lib.hid (bl_tr hb3 (by repeat (with_reducible first | exact Q2.out | apply bl_alloc)))
      clear hb3
      go_wp2_with (go_at_call 16; fail)
      refine (instrEncode_ok _ _ _ _ _ _ (HT.out.below (by repeat (with_reducible first | exact Q3.out | apply bl_alloc | apply bl_drewN | apply bl_drew))) (iv_iff.2 HV.out)).mono ?_
      rintro e w4 ⟨rfl, hb4⟩
      have k4 := Lib.hid (bl_keep hb4 (by repeat (with_reducible first | exact kc.out | apply blk_alloc)))
      clear e0 e1 e2 e3 e4 kl ef
      have kl := lt_blk k4.out
      obtain ⟨e0, e1, e2, e3, e4⟩ := five k4.out
      have Q4 := Lib.hid (bl_tr hb4 (by repeat (with_reducible first | exact Q3.out | apply bl_alloc | apply bl_drewN | apply bl_drew)))
      clear hb4
      rw [HU.out]
      have hz : (u == u) = true := by simp
      go_wp2_with (go_at_call 25; fail)
      refine (instrValid_any _ _ _ _ _ _).mono ?_
      rw [iv_iff.2 HV.out]
      rintro e w5 ⟨rfl, hb5⟩
      have Q5 := Lib.hid (bl_tr hb5 (by repeat (with_reducible first | exact Q4.out | apply bl_alloc | apply bl_drewN | apply bl_drew)))
      clear hb5
      go_wp2
      go_ret
      exact ⟨rfl, by repeat (with_reducible first | exact Q5.out | apply bl_alloc | apply bl_drewN | apply bl_drew)⟩
    · have HH := Lib.hid (fun op (h : Hit u op) => hh ⟨op, h⟩)
      clear hh
      go_wp2_with (go_at_call 20; fail)
      refine (instrDecode_no _ (HT.out.below (by repeat (with_reducible first | exact Q1.out | apply bl_alloc))) HH.out).mono ?_
      rintro e w2 ⟨rfl, hb2⟩
      have Q2 := Lib.hid (bl_tr hb2 (by repeat (with_reducible first | exact Q1.out | apply bl_alloc)))
      clear hb2
      go_wp2_with (go_at_call 19; fail)
      refine (specDecode_no _ HH.out).mono ?_
      rintro e w3 ⟨rfl, hb3⟩
      have kc := Lib.hid (bl_keep hb3 (new_blk w2 _))
      have kl := lt_blk kc.out
      obtain ⟨e0, e1, e2, e3, e4⟩ := five kc.out
      have Q3 := Lib.hid (bl_tr hb3 (by repeat (with_reducible first | exact Q2.out | apply bl_alloc)))
      clear hb3
      go_wp2
      go_ret
      exact ⟨rfl, by repeat (with_reducible first | exact Q3.out | apply bl_alloc | apply bl_drewN | apply bl_drew)⟩
set_option maxRecDepth 100000 in
set_option maxHeartbeats 2000000 in
theorem decodeImm_walk (A : Option Addr) (n c : Nat) (bs : List Int) (w : World) (h : Bytes w A n bs) (hc : n ≤ c) (hn : n ≤ 9223372036854775807) (hT : Tab w) :
    Calls Tryd.prog 11 #[.slice A n c] w (Ret1 w) := by
  have HT := Lib.hid hT
  clear hT
  by_cases hl : 1048576 < n
  · go_enter Tryd.func11, Tryd.ntmps11
    go_wp2
    go_ret
    exact ⟨rfl, by repeat (first | (with_reducible exact Below.refl _ _) | (with_reducible apply bl_alloc) | (with_reducible apply bl_drewN) | (with_reducible apply bl_drew))⟩
  · go_enter Tryd.func11, Tryd.ntmps11
    go_wp2_with fail
    refine (drawDecode_any A n c bs _ (by repeat (with_reducible first | exact h | apply Bytes.alloc)) hc hn).mono ?_
    rintro e w1 ⟨u, rfl, hb1⟩
    have Q1 := Lib.hid (bl_tr hb1 (by repeat (with_reducible first | exact Below.refl _ _ | apply bl_alloc) : Below w.heap.size w _))
    clear hb1
    by_cases hh : ∃ op, Hit u op
    · obtain ⟨op, hh⟩ := hh
      obtain ⟨rd, rs, rt, imm, hV, hu⟩ := hit_pack hh
      have UR := Lib.hid (And.intro hh.2.2.1 hh.2.2.2.1)
      clear hh
      have HV := Lib.hid hV
      have HU := Lib.hid hu
      have sp := hV.split
      clear hV hu
      have r1 : (op == op) = true := by simp
      have r2 : (rd == rd) = true := by simp
      have r3 : (rs == rs) = true := by simp
      have r4 : (rt == rt) = true := by simp
      have r5 : (imm == imm) = true := by simp
      go_wp2_with (go_at_call 20; fail)
      refine (instrDecode_E _ HV.out HU.out (HT.out.below (by repeat (with_reducible first | exact Q1.out | apply bl_alloc)))).mono ?_
      rintro e w2 ⟨rfl, hb2⟩
      have Q2 := Lib.hid (bl_tr hb2 (by repeat (with_reducible first | exact Q1.out | apply bl_alloc)))
      clear hb2
      go_wp2_with (go_at_call 19; fail)
      refine (specDecode_E _ HV.out HU.out).mono ?_
      rintro e w3 ⟨rfl, hb3⟩
      have kc := Lib.hid (bl_keep hb3 (new_blk w2 _))
      have kl := lt_blk kc.out
      obtain ⟨e0, e1, e2, e3, e4⟩ := five kc.out
      have ef := unfrozen kc.out
      have Q3 := Lib.hid (bl_tr hb3 (by repeat (with_reducible first | exact Q2.out | apply bl_alloc)))
      clear hb3
      rcases (by omega : ((op ≤ 11 ∨ op = 13 ∨ 16 ≤ op)) ∨ (12 ≤ op ∧ op ≤ 12) ∨ (14 ≤ op ∧ op ≤ 14) ∨ (15 ≤ op ∧ op ≤ 15)) with ho | ⟨o0, o1⟩ | ⟨o0, o1⟩ | ⟨o0, o1⟩
      · skip
        have k12 : (op == 12) = false := by simp; omega
        have m12 : (op != 12) = true := by simp; omega
        have k14 : (op == 14) = false := by simp; omega
        have m14 : (op != 14) = true := by simp; omega
        have k15 : (op == 15) = false := by simp; omega
        have m15 : (op != 15) = true := by simp; omega
        have c1 : ∀ W : World, Calls Tryd.prog 25 #[.agg #[.int .i64 op, .int .i64 rd, .int .i64 rs, .int .i64 rt, .int .i64 imm]] W fun e w' => e = .returned (.bool true) ∧ Below W.heap.size W w' := fun W => by
          have := instrValid_any op rd rs rt imm W
          rwa [iv_iff.2 HV.out] at this
        clear ho sp
        go_wp2_with (go_at_call 25; fail)
        refine (c1 _).mono ?_
        rintro e w5 ⟨rfl, hb5⟩
        have Q5 := Lib.hid (bl_tr hb5 (by repeat (with_reducible first | exact Q3.out | apply bl_alloc | apply bl_drewN | apply bl_drew)))
        clear hb5
        go_wp2
        go_ret
        exact ⟨rfl, by repeat (with_reducible first | exact Q5.out | apply bl_alloc | apply bl_drewN | apply bl_drew)⟩
      · skip
        have k12 : (op == 12) = true := by simp; omega
        have m12 : (op != 12) = false := by simp; omega
        have k14 : (op == 14) = false := by simp; omega
        have m14 : (op != 14) = true := by simp; omega
        have k15 : (op == 15) = false := by simp; omega
        have m15 : (op != 15) = true := by simp; omega
        by_cases hi : imm < 0
        · have hV := HV.out
          have sg := E_sign hV (by omega)
          rw [HU.out] at sg
          have ur := UR.out
          have hrt : rt = 0 ∧ -2048 ≤ imm ∧ imm ≤ 2047 := by unfold IV reg at hV; omega
          obtain ⟨rfl, i0, i1⟩ := hrt
          have c1 : ∀ W : World, Calls Tryd.prog 18 #[.int .i64 u, .int .i64 31, .int .i64 1] W fun e w' => e = .returned (.int .i64 1) ∧ ∃ n, w' = W.drewN n := fun W => by
            have := bits_any u 31 1 W ur.1 ur.2 (by omega) (by omega) (by omega) (by omega)
            rwa [show bitsOf u 31 1 = 1 by unfold bitsOf; simp; omega] at this
          have hV2 : IV op rd rs 0 (imm + 2048) := by
            unfold IV reg at hV ⊢
            exact .inr (.inl (by omega))
          have hE2 : E op rd rs 0 (imm + 2048) = u - 2147483648 := by
            have := HU.out
            unfold E at this ⊢
            rw [if_neg (by omega), if_pos (by omega)] at this ⊢
            omega
          have HV2 := Lib.hid hV2
          have HE2 := Lib.hid hE2
          have r6 : (imm + 2048 == imm + 2048) = true := by simp
          obtain ⟨ur0, ur1⟩ := ur
          clear hV hV2 hE2 sg sp
          go_wp2_with (first | (go_at_call 18; (with_reducible refine (c1 _).mono ?_); rintro e w4 ⟨rfl, k1, rfl⟩) | (go_at_call 20; fail))
          refine (instrDecode_E _ HV2.out HE2.out (HT.out.below (by repeat (with_reducible first | exact Q3.out | apply bl_alloc | apply bl_drewN | apply bl_drew)))).mono ?_
          rintro e w5 ⟨rfl, hb5⟩
          have k5 := Lib.hid (bl_keep hb5 (blk_drewN (blk_alloc kc.out _) k1))
          clear e0 e1 e2 e3 e4 kl ef
          have kl := lt_blk k5.out
          obtain ⟨e0, e1, e2, e3, e4⟩ := five k5.out
          have ef := unfrozen k5.out
          have Q5 := Lib.hid (bl_tr hb5 (by repeat (with_reducible first | exact Q3.out | apply bl_alloc | apply bl_drewN | apply bl_drew)))
          clear hb5
          go_wp2
          go_ret
          exact ⟨rfl, by refine bl_alloc (Below.setCell Q5.out ?_ _) _; exact Q2.out.size⟩
        · have hV := HV.out
          have sg := E_sign hV (by omega)
          rw [HU.out] at sg
          have ur := UR.out
          have hrt : rt = 0 ∧ -2048 ≤ imm ∧ imm ≤ 2047 := by unfold IV reg at hV; omega
          obtain ⟨rfl, i0, i1⟩ := hrt
          have c1 : ∀ W : World, Calls Tryd.prog 18 #[.int .i64 u, .int .i64 31, .int .i64 1] W fun e w' => e = .returned (.int .i64 0) ∧ ∃ n, w' = W.drewN n := fun W => by
            have := bits_any u 31 1 W ur.1 ur.2 (by omega) (by omega) (by omega) (by omega)
            rwa [show bitsOf u 31 1 = 0 by unfold bitsOf; simp; omega] at this
          have hV2 : IV op rd rs 0 (imm - 2048) := by
            unfold IV reg at hV ⊢
            exact .inr (.inl (by omega))
          have hE2 : E op rd rs 0 (imm - 2048) = u + 2147483648 := by
            have := HU.out
            unfold E at this ⊢
            rw [if_neg (by omega), if_pos (by omega)] at this ⊢
            omega
          have HV2 := Lib.hid hV2
          have HE2 := Lib.hid hE2
          have r6 : (imm - 2048 == imm - 2048) = true := by simp
          obtain ⟨ur0, ur1⟩ := ur
          clear hV hV2 hE2 sg sp
          go_wp2_with (first | (go_at_call 18; (with_reducible refine (c1 _).mono ?_); rintro e w4 ⟨rfl, k1, rfl⟩) | (go_at_call 20; fail))
          refine (instrDecode_E _ HV2.out HE2.out (HT.out.below (by repeat (with_reducible first | exact Q3.out | apply bl_alloc | apply bl_drewN | apply bl_drew)))).mono ?_
          rintro e w5 ⟨rfl, hb5⟩
          have k5 := Lib.hid (bl_keep hb5 (blk_drewN (blk_alloc kc.out _) k1))
          clear e0 e1 e2 e3 e4 kl ef
          have kl := lt_blk k5.out
          obtain ⟨e0, e1, e2, e3, e4⟩ := five k5.out
          have ef := unfrozen k5.out
          have Q5 := Lib.hid (bl_tr hb5 (by repeat (with_reducible first | exact Q3.out | apply bl_alloc | apply bl_drewN | apply bl_drew)))
          clear hb5
          go_wp2
          go_ret
          exact ⟨rfl, by refine bl_alloc (Below.setCell Q5.out ?_ _) _; exact Q2.out.size⟩
      · skip
        have k12 : (op == 12) = false := by simp; omega
        have m12 : (op != 12) = true := by simp; omega
        have k14 : (op == 14) = true := by simp; omega
        have m14 : (op != 14) = false := by simp; omega
        have k15 : (op == 15) = false := by simp; omega
        have m15 : (op != 15) = true := by simp; omega
        by_cases hi : imm < 0
        · have hV := HV.out
          have sg := E_sign hV (by omega)
          rw [HU.out] at sg
          have ur := UR.out
          have hrt : rt = 0 ∧ -2048 ≤ imm ∧ imm ≤ 2047 := by unfold IV reg at hV; omega
          obtain ⟨rfl, i0, i1⟩ := hrt
          have c1 : ∀ W : World, Calls Tryd.prog 18 #[.int .i64 u, .int .i64 31, .int .i64 1] W fun e w' => e = .returned (.int .i64 1) ∧ ∃ n, w' = W.drewN n := fun W => by
            have := bits_any u 31 1 W ur.1 ur.2 (by omega) (by omega) (by omega) (by omega)
            rwa [show bitsOf u 31 1 = 1 by unfold bitsOf; simp; omega] at this
          have hV2 : IV op rd rs 0 (imm + 2048) := by
            unfold IV reg at hV ⊢
            exact .inr (.inl (by omega))
          have hE2 : E op rd rs 0 (imm + 2048) = u - 2147483648 := by
            have := HU.out
            unfold E at this ⊢
            rw [if_neg (by omega), if_pos (by omega)] at this ⊢
            omega
          have HV2 := Lib.hid hV2
          have HE2 := Lib.hid hE2
          have r6 : (imm + 2048 == imm + 2048) = true := by simp
          obtain ⟨ur0, ur1⟩ := ur
          clear hV hV2 hE2 sg sp
          go_wp2_with (first | (go_at_call 18; (with_reducible refine (c1 _).mono ?_); rintro e w4 ⟨rfl, k1, rfl⟩) | (go_at_call 20; fail))
          refine (instrDecode_E _ HV2.out HE2.out (HT.out.below (by repeat (with_reducible first | exact Q3.out | apply bl_alloc | apply bl_drewN | apply bl_drew)))).mono ?_
          rintro e w5 ⟨rfl, hb5⟩
          have k5 := Lib.hid (bl_keep hb5 (blk_drewN (blk_alloc kc.out _) k1))
          clear e0 e1 e2 e3 e4 kl ef
          have kl := lt_blk k5.out
          obtain ⟨e0, e1, e2, e3, e4⟩ := five k5.out
          have ef := unfrozen k5.out
          have Q5 := Lib.hid (bl_tr hb5 (by repeat (with_reducible first | exact Q3.out | apply bl_alloc | apply bl_drewN | apply bl_drew)))
          clear hb5
          go_wp2
          go_ret
          exact ⟨rfl, by refine bl_alloc (Below.setCell Q5.out ?_ _) _; exact Q2.out.size⟩
        · have hV := HV.out
          have sg := E_sign hV (by omega)
          rw [HU.out] at sg
          have ur := UR.out
          have hrt : rt = 0 ∧ -2048 ≤ imm ∧ imm ≤ 2047 := by unfold IV reg at hV; omega
          obtain ⟨rfl, i0, i1⟩ := hrt
          have c1 : ∀ W : World, Calls Tryd.prog 18 #[.int .i64 u, .int .i64 31, .int .i64 1] W fun e w' => e = .returned (.int .i64 0) ∧ ∃ n, w' = W.drewN n := fun W => by
            have := bits_any u 31 1 W ur.1 ur.2 (by omega) (by omega) (by omega) (by omega)
            rwa [show bitsOf u 31 1 = 0 by unfold bitsOf; simp; omega] at this
          have hV2 : IV op rd rs 0 (imm - 2048) := by
            unfold IV reg at hV ⊢
            exact .inr (.inl (by omega))
          have hE2 : E op rd rs 0 (imm - 2048) = u + 2147483648 := by
            have := HU.out
            unfold E at this ⊢
            rw [if_neg (by omega), if_pos (by omega)] at this ⊢
            omega
          have HV2 := Lib.hid hV2
          have HE2 := Lib.hid hE2
          have r6 : (imm - 2048 == imm - 2048) = true := by simp
          obtain ⟨ur0, ur1⟩ := ur
          clear hV hV2 hE2 sg sp
          go_wp2_with (first | (go_at_call 18; (with_reducible refine (c1 _).mono ?_); rintro e w4 ⟨rfl, k1, rfl⟩) | (go_at_call 20; fail))
          refine (instrDecode_E _ HV2.out HE2.out (HT.out.below (by repeat (with_reducible first | exact Q3.out | apply bl_alloc | apply bl_drewN | apply bl_drew)))).mono ?_
          rintro e w5 ⟨rfl, hb5⟩
          have k5 := Lib.hid (bl_keep hb5 (blk_drewN (blk_alloc kc.out _) k1))
          clear e0 e1 e2 e3 e4 kl ef
          have kl := lt_blk k5.out
          obtain ⟨e0, e1, e2, e3, e4⟩ := five k5.out
          have ef := unfrozen k5.out
          have Q5 := Lib.hid (bl_tr hb5 (by repeat (with_reducible first | exact Q3.out | apply bl_alloc | apply bl_drewN | apply bl_drew)))
          clear hb5
          go_wp2
          go_ret
          exact ⟨rfl, by refine bl_alloc (Below.setCell Q5.out ?_ _) _; exact Q2.out.size⟩
      · skip
        have k12 : (op == 12) = false := by simp; omega
        have m12 : (op != 12) = true := by simp; omega
        have k14 : (op == 14) = false := by simp; omega
        have m14 : (op != 14) = true := by simp; omega
        have k15 : (op == 15) = true := by simp; omega
        have m15 : (op != 15) = false := by simp; omega
        by_cases hi : imm < 0
        · have hV := HV.out
          have sg := E_sign hV (by omega)
          rw [HU.out] at sg
          have ur := UR.out
          have hrt : rt = 0 ∧ -2048 ≤ imm ∧ imm ≤ 2047 := by unfold IV reg at hV; omega
          obtain ⟨rfl, i0, i1⟩ := hrt
          have c1 : ∀ W : World, Calls Tryd.prog 18 #[.int .i64 u, .int .i64 31, .int .i64 1] W fun e w' => e = .returned (.int .i64 1) ∧ ∃ n, w' = W.drewN n := fun W => by
            have := bits_any u 31 1 W ur.1 ur.2 (by omega) (by omega) (by omega) (by omega)
            rwa [show bitsOf u 31 1 = 1 by unfold bitsOf; simp; omega] at this
          have hV2 : IV op rd rs 0 (imm + 2048) := by
            unfold IV reg at hV ⊢
            exact .inr (.inl (by omega))
          have hE2 : E op rd rs 0 (imm + 2048) = u - 2147483648 := by
            have := HU.out
            unfold E at this ⊢
            rw [if_neg (by omega), if_pos (by omega)] at this ⊢
            omega
          have HV2 := Lib.hid hV2
          have HE2 := Lib.hid hE2
          have r6 : (imm + 2048 == imm + 2048) = true := by simp
          obtain ⟨ur0, ur1⟩ := ur
          clear hV hV2 hE2 sg sp
          go_wp2_with (first | (go_at_call 18; (with_reducible refine (c1 _).mono ?_); rintro e w4 ⟨rfl, k1, rfl⟩) | (go_at_call 20; fail))
          refine (instrDecode_E _ HV2.out HE2.out (HT.out.below (by repeat (with_reducible first | exact Q3.out | apply bl_alloc | apply bl_drewN | apply bl_drew)))).mono ?_
          rintro e w5 ⟨rfl, hb5⟩
          have k5 := Lib.hid (bl_keep hb5 (blk_drewN (blk_alloc kc.out _) k1))
          clear e0 e1 e2 e3 e4 kl ef
          have kl := lt_blk k5.out
          obtain ⟨e0, e1, e2, e3, e4⟩ := five k5.out
          have ef := unfrozen k5.out
          have Q5 := Lib.hid (bl_tr hb5 (by repeat (with_reducible first | exact Q3.out | apply bl_alloc | apply bl_drewN | apply bl_drew)))
          clear hb5
          go_wp2
          go_ret
          exact ⟨rfl, by refine bl_alloc (Below.setCell Q5.out ?_ _) _; exact Q2.out.size⟩
        · have hV := HV.out
          have sg := E_sign hV (by omega)
          rw [HU.out] at sg
          have ur := UR.out
          have hrt : rt = 0 ∧ -2048 ≤ imm ∧ imm ≤ 2047 := by unfold IV reg at hV; omega
          obtain ⟨rfl, i0, i1⟩ := hrt
          have c1 : ∀ W : World, Calls Tryd.prog 18 #[.int .i64 u, .int .i64 31, .int .i64 1] W fun e w' => e = .returned (.int .i64 0) ∧ ∃ n, w' = W.drewN n := fun W => by
            have := bits_any u 31 1 W ur.1 ur.2 (by omega) (by omega) (by omega) (by omega)
            rwa [show bitsOf u 31 1 = 0 by unfold bitsOf; simp; omega] at this
          have hV2 : IV op rd rs 0 (imm - 2048) := by
            unfold IV reg at hV ⊢
            exact .inr (.inl (by omega))
          have hE2 : E op rd rs 0 (imm - 2048) = u + 2147483648 := by
            have := HU.out
            unfold E at this ⊢
            rw [if_neg (by omega), if_pos (by omega)] at this ⊢
            omega
          have HV2 := Lib.hid hV2
          have HE2 := Lib.hid hE2
          have r6 : (imm - 2048 == imm - 2048) = true := by simp
          obtain ⟨ur0, ur1⟩ := ur
          clear hV hV2 hE2 sg sp
          go_wp2_with (first | (go_at_call 18; (with_reducible refine (c1 _).mono ?_); rintro e w4 ⟨rfl, k1, rfl⟩) | (go_at_call 20; fail))
          refine (instrDecode_E _ HV2.out HE2.out (HT.out.below (by repeat (with_reducible first | exact Q3.out | apply bl_alloc | apply bl_drewN | apply bl_drew)))).mono ?_
          rintro e w5 ⟨rfl, hb5⟩
          have k5 := Lib.hid (bl_keep hb5 (blk_drewN (blk_alloc kc.out _) k1))
          clear e0 e1 e2 e3 e4 kl ef
          have kl := lt_blk k5.out
          obtain ⟨e0, e1, e2, e3, e4⟩ := five k5.out
          have ef := unfrozen k5.out
          have Q5 := Lib.hid (bl_tr hb5 (by repeat (with_reducible first | exact Q3.out | apply bl_alloc | apply bl_drewN | apply bl_drew)))
          clear hb5
          go_wp2
          go_ret
          exact ⟨rfl, by refine bl_alloc (Below.setCell Q5.out ?_ _) _; exact Q2.out.size⟩
    · have HH := Lib.hid (fun op (h : Hit u op) => hh ⟨op, h⟩)
      clear hh
      go_wp2_with (go_at_call 20; fail)
      refine (instrDecode_no _ (HT.out.below (by repeat (with_reducible first | exact Q1.out | apply bl_alloc))) HH.out).mono ?_
      rintro e w2 ⟨rfl, hb2⟩
      have Q2 := Lib.hid (bl_tr hb2 (by repeat (with_reducible first | exact Q1.out | apply bl_alloc)))
      clear hb2
      go_wp2_with (go_at_call 19; fail)
      refine (specDecode_no _ HH.out).mono ?_
      rintro e w3 ⟨rfl, hb3⟩
      have kc := Lib.hid (bl_keep hb3 (new_blk w2 _))
      have kl := lt_blk kc.out
      obtain ⟨e0, e1, e2, e3, e4⟩ := five kc.out
      have Q3 := Lib.hid (bl_tr hb3 (by repeat (with_reducible first | exact Q2.out | apply bl_alloc)))
      clear hb3
      go_wp2
      go_ret
      exact ⟨rfl, by repeat (with_reducible first | exact Q3.out | apply bl_alloc | apply bl_drewN | apply bl_drew)⟩
end Go.Proofs.YthmfkdlncnjjoaaDoor
