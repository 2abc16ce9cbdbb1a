/- The walk of FnExactInstrText: it returns true. -/
import Derived.Test.YthmfkdlncnjjoaaDoorTs
import Derived.Test.YthmfkdlncnjjoaaDoorLe
namespace Go.Proofs.YthmfkdlncnjjoaaDoor
open Go.RowKit IM
set_option linter.unusedSimpArgs false
set_option linter.unusedVariables false
set_option maxRecDepth 100000 in
set_option maxHeartbeats 1000000 in
theorem exactText_walk (op rd rs rt imm : Int) (w : World) (hT : Tab w) (hP : TabQ w) :
    Calls Tryd.prog 9 #[.agg #[.int .i64 op, .int .i64 rd, .int .i64 rs, .int .i64 rt, .int .i64 imm]] w (Ret1 w) := by
  have HT := Lib.hid hT
  have HP := Lib.hid hP
  clear hT hP
  go_enter Tryd.func9, Tryd.ntmps9
  go_wp2_with fail
  refine (toInstr_any _ _ _ _ _ _).mono ?_
  rintro e w1 ⟨rfl, hb1⟩
  have kc := Lib.hid (bl_keep hb1 (new_blk w _))
  obtain ⟨e0, e1, e2, e3, e4⟩ := five kc.out
  have Q := Lib.hid (bl_tr hb1 (bl_alloc (Below.refl w.heap.size w) _))
  clear hb1
  go_wp2_with fail
  refine (specText_any _ _ _ _ _ _).mono ?_
  rintro e w2 ⟨rfl, hb2⟩
  obtain ⟨f0, f1, f2, f3, f4⟩ := five (bl_keep hb2 kc.out)
  have Q2 := Lib.hid (bl_tr hb2 Q.out)
  clear hb2 Q e0 e1 e2 e3 e4
  go_wp2_with fail
  refine (toInstr_any _ _ _ _ _ _).mono ?_
  rintro e w3 ⟨rfl, hb3⟩
  have Q3 := Lib.hid (bl_tr hb3 Q2.out)
  clear hb3 Q2 f0 f1 f2 f3 f4
  go_wp2_with fail
  refine (instrText_any _ _ _ _ _ _ (HT.out.below Q3.out) (HP.out.below Q3.out)).mono ?_
  rintro e w4 ⟨rfl, hb4⟩
  have Q4 := Lib.hid (bl_tr hb4 Q3.out)
  clear hb4 Q3
  generalize strL (textV op rd rs rt imm) = s
  go_wp2
  go_ret
  exact ⟨rfl, Q4.out⟩
end Go.Proofs.YthmfkdlncnjjoaaDoor
