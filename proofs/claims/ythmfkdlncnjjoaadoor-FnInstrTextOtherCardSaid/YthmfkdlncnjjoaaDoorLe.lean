/- The walk of FnExactInstrEncode: it returns true. -/
import Derived.Test.YthmfkdlncnjjoaaDoorSg
namespace Go.Proofs.YthmfkdlncnjjoaaDoor
open Go.RowKit IM
set_option linter.unusedVariables false
set_option linter.unusedSimpArgs false
def Ret1 (w : World) (e : Ending) (w' : World) : Prop := e = .returned (.bool true) ∧ Below w.heap.size w w'
theorem toInstr_any (op rd rs rt imm : Int) (w : World) :
    Calls Tryd.prog 15 #[.agg #[.int .i64 op, .int .i64 rd, .int .i64 rs, .int .i64 rt, .int .i64 imm]] w fun e w' => e = .returned (.agg #[.int .i64 op, .int .i64 rd, .int .i64 rs, .int .i64 rt, .int .i64 imm]) ∧ Below w.heap.size w w' := by
  go_enter Tryd.func15, Tryd.ntmps15
  go_wp2
  refine bodyPost_ret (v := .agg #[.int .i64 op, .int .i64 rd, .int .i64 rs, .int .i64 rt, .int .i64 imm]) (by simp [results, Tryd.results15, go_sem]) rfl ⟨rfl, ?_⟩
  repeat (first | (with_reducible exact Below.refl _ _) | (with_reducible apply bl_alloc) | (with_reducible apply bl_drewN) | (with_reducible apply bl_drew))
set_option maxHeartbeats 1000000 in
theorem exactEncode_walk (op rd rs rt imm : Int) (w : World) (hT : Tab w) :
    Calls Tryd.prog 3 #[.agg #[.int .i64 op, .int .i64 rd, .int .i64 rs, .int .i64 rt, .int .i64 imm]] w (Ret1 w) := by
  have HT := Lib.hid hT
  clear hT
  go_enter Tryd.func3, Tryd.ntmps3
  go_wp2_with fail
  refine (toInstr_any _ _ _ _ _ _).mono ?_
  rintro e w1 ⟨rfl, hb1⟩
  have kc := Lib.hid (bl_keep hb1 (new_blk w _))
  obtain ⟨e0, e1, e2, e3, e4⟩ := five kc.out
  have Q := Lib.hid (bl_tr hb1 (bl_alloc (Below.refl w.heap.size w) _))
  clear hb1
  go_wp2_with fail
  refine (specEncode_v _ _ _ _ _ _).mono ?_
  rintro e w2 ⟨rfl, hb2⟩
  obtain ⟨f0, f1, f2, f3, f4⟩ := five (bl_keep hb2 kc.out)
  have Q2 := Lib.hid (bl_tr hb2 Q.out)
  clear hb2 Q e0 e1 e2 e3 e4
  go_wp2_with fail
  refine (toInstr_any _ _ _ _ _ _).mono ?_
  rintro e w3 ⟨rfl, hb3⟩
  have Q3 := Lib.hid (bl_tr hb3 Q2.out)
  clear hb3 Q2 f0 f1 f2 f3 f4
  go_wp2_with fail
  refine (instrEncode_v _ _ _ _ _ _ (HT.out.below Q3.out)).mono ?_
  rintro e w4 ⟨rfl, hb4⟩
  have Q4 := Lib.hid (bl_tr hb4 Q3.out)
  clear hb4 Q3
  generalize encV op rd rs rt imm = r
  generalize iv op rd rs rt imm = b
  have h1 : (r != r) = false := by simp
  have h2 : (b != b) = false := by simp
  go_wp2
  go_ret
  exact ⟨rfl, Q4.out⟩
end Go.Proofs.YthmfkdlncnjjoaaDoor
