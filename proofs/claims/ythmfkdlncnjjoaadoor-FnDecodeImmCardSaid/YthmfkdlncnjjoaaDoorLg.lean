/- The walk of FnExactInstrDecode: it returns true. -/
import Derived.Test.YthmfkdlncnjjoaaDoorSp
import Derived.Test.YthmfkdlncnjjoaaDoorLe
namespace Go.Proofs.YthmfkdlncnjjoaaDoor
open Go.RowKit IM
set_option linter.unusedSimpArgs false
set_option linter.unusedVariables false
def DecYes (u op : Int) (w : World) (e : Ending) (w' : World) : Prop := e = .returned (.tuple #[.agg #[.int .i64 op, .int .i64 (dRd op u), .int .i64 (dRs op u), .int .i64 (dRt op u), .int .i64 (dIm op u)], .bool true]) ∧ Below w.heap.size w w'
def DecNo (w : World) (e : Ending) (w' : World) : Prop := e = .returned (.tuple #[.agg #[.int .i64 0, .int .i64 0, .int .i64 0, .int .i64 0, .int .i64 0], .bool false]) ∧ Below w.heap.size w w'
theorem DecP.yes {u op : Int} {w w' : World} {e : Ending} (hh : Hit u op) (h : DecP u w e w') : DecYes u op w e w' := by
  rcases h with ⟨⟨op', h1, h2⟩ | ⟨h1, h2⟩, hb⟩
  · rw [Hit.one hh h1]; exact ⟨h2, hb⟩
  · exact absurd hh (h1 op)
theorem DecP.no {u : Int} {w w' : World} {e : Ending} (hh : ∀ op, ¬ Hit u op) (h : DecP u w e w') : DecNo w e w' := by
  rcases h with ⟨⟨op', h1, h2⟩ | ⟨h1, h2⟩, hb⟩
  · exact absurd h1 (hh op')
  · exact ⟨h2, hb⟩
theorem specDecode_yes {u op : Int} (w : World) (h : Hit u op) : Calls Tryd.prog 19 #[.int .i64 u] w (DecYes u op w) := (specDecode_any u w).mono fun _ _ => DecP.yes h
theorem specDecode_no {u : Int} (w : World) (h : ∀ op, ¬ Hit u op) : Calls Tryd.prog 19 #[.int .i64 u] w (DecNo w) := (specDecode_any u w).mono fun _ _ => DecP.no h
theorem instrDecode_yes {u op : Int} (w : World) (hT : Tab w) (h : Hit u op) : Calls Tryd.prog 20 #[.int .i64 u] w (DecYes u op w) := (instrDecode_any u w hT).mono fun _ _ => DecP.yes h
theorem instrDecode_no {u : Int} (w : World) (hT : Tab w) (h : ∀ op, ¬ Hit u op) : Calls Tryd.prog 20 #[.int .i64 u] w (DecNo w) := (instrDecode_any u w hT).mono fun _ _ => DecP.no h
set_option maxRecDepth 100000 in
set_option maxHeartbeats 1000000 in
theorem eqInstr_same (a b c d e : Int) (w : World) :
    Calls Tryd.prog 21 #[.agg #[.int .i64 a, .int .i64 b, .int .i64 c, .int .i64 d, .int .i64 e], .agg #[.int .i64 a, .int .i64 b, .int .i64 c, .int .i64 d, .int .i64 e]] w fun e w' => e = .returned (.bool true) ∧ Below w.heap.size w w' := by
  have h1 : (a == a) = true := by simp
  have h2 : (b == b) = true := by simp
  have h3 : (c == c) = true := by simp
  have h4 : (d == d) = true := by simp
  have h5 : (e == e) = true := by simp
  go_enter Tryd.func21, Tryd.ntmps21
  go_wp2
  go_ret
  exact ⟨rfl, by repeat (first | (with_reducible exact Below.refl _ _) | (with_reducible apply bl_alloc) | (with_reducible apply bl_drewN) | (with_reducible apply bl_drew))⟩
set_option maxRecDepth 100000 in
set_option maxHeartbeats 1000000 in
theorem exactDecode_walk (u : Int) (w : World) (hT : Tab w) :
    Calls Tryd.prog 7 #[.int .i64 u] w (Ret1 w) := by
  have HT := Lib.hid hT
  clear hT
  by_cases h : ∃ op, Hit u op
  · obtain ⟨op, h⟩ := h
    have HH := Lib.hid h
    clear h
    go_enter Tryd.func7, Tryd.ntmps7
    go_wp2_with fail
    refine (specDecode_yes _ HH.out).mono ?_
    rintro e w1 ⟨rfl, hb1⟩
    have Q1 := Lib.hid (bl_tr hb1 (by repeat (with_reducible first | exact Below.refl _ _ | apply bl_alloc) : Below w.heap.size w _))
    clear hb1
    go_wp2_with fail
    refine (instrDecode_yes _ (HT.out.below (by repeat (with_reducible first | exact Q1.out | apply bl_alloc))) HH.out).mono ?_
    rintro e w2 ⟨rfl, hb2⟩
    have Q2 := Lib.hid (bl_tr hb2 (by repeat (with_reducible first | exact Q1.out | apply bl_alloc)))
    have k1 := Lib.hid (bl_keep hb2 (new_blk w1 _))
    obtain ⟨z0, z1, z2, z3, z4⟩ := five k1.out
    have zl := lt_blk k1.out
    clear hb2
    go_wp2_with (go_at_call 21; fail)
    refine (eqInstr_same _ _ _ _ _ _).mono ?_
    rintro e w3 ⟨rfl, hb3⟩
    have Q3 := Lib.hid (bl_tr hb3 (by repeat (with_reducible first | exact Q2.out | apply bl_alloc)))
    clear hb3
    go_wp2
    go_ret
    exact ⟨rfl, Q3.out⟩
  · have HH := Lib.hid (fun op (hh : Hit u op) => h ⟨op, hh⟩)
    clear h
    go_enter Tryd.func7, Tryd.ntmps7
    go_wp2_with fail
    refine (specDecode_no _ HH.out).mono ?_
    rintro e w1 ⟨rfl, hb1⟩
    have Q1 := Lib.hid (bl_tr hb1 (by repeat (with_reducible first | exact Below.refl _ _ | apply bl_alloc) : Below w.heap.size w _))
    clear hb1
    go_wp2_with fail
    refine (instrDecode_no _ (HT.out.below (by repeat (with_reducible first | exact Q1.out | apply bl_alloc))) HH.out).mono ?_
    rintro e w2 ⟨rfl, hb2⟩
    have Q2 := Lib.hid (bl_tr hb2 (by repeat (with_reducible first | exact Q1.out | apply bl_alloc)))
    have k1 := Lib.hid (bl_keep hb2 (new_blk w1 _))
    obtain ⟨z0, z1, z2, z3, z4⟩ := five k1.out
    have zl := lt_blk k1.out
    clear hb2
    go_wp2_with (go_at_call 21; fail)
    refine (eqInstr_same _ _ _ _ _ _).mono ?_
    rintro e w3 ⟨rfl, hb3⟩
    have Q3 := Lib.hid (bl_tr hb3 (by repeat (with_reducible first | exact Q2.out | apply bl_alloc)))
    clear hb3
    go_wp2
    go_ret
    exact ⟨rfl, Q3.out⟩
end Go.Proofs.YthmfkdlncnjjoaaDoor
