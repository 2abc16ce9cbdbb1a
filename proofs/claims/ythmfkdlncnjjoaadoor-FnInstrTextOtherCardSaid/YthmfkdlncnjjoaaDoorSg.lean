/- The walk of the reference's InstrEncode: IM.E of a valid instruction, and true. -/
import Derived.Test.YthmfkdlncnjjoaaDoorSf
import Derived.Test.YthmfkdlncnjjoaaDoorEw
namespace Go.Proofs.YthmfkdlncnjjoaaDoor
open Go.RowKit IM
set_option linter.unusedVariables false
set_option linter.unusedSimpArgs false
set_option maxRecDepth 100000 in
set_option maxHeartbeats 1000000 in
theorem specEncode_any (op rd rs rt imm : Int) (w : World) :
    Calls Tryd.prog 14 #[.agg #[.int .i64 op, .int .i64 rd, .int .i64 rs, .int .i64 rt, .int .i64 imm]] w (EncP op rd rs rt imm w) := by
  cases h : iv op rd rs rt imm with
  | false =>
    have hP := Lib.hid h
    go_enter Tryd.func14, Tryd.ntmps14
    go_wp2_with fail
    refine (specValid_any _ _ _ _ _ _).mono ?_
    rintro e w1 ⟨rfl, hb⟩
    have Q := Lib.hid (bl_tr hb (bl_alloc (Below.refl w.heap.size w) _))
    clear hb
    go_wp2
    go_ret2
    exact ⟨by rw [hP.out]; rfl, Q.out⟩
  | true =>
    have hP := Lib.hid h
    have hV := Lib.hid (iv_iff.1 h)
    go_enter Tryd.func14, Tryd.ntmps14
    go_wp2_with fail
    refine (specValid_any _ _ _ _ _ _).mono ?_
    rintro e w1 ⟨rfl, hb⟩
    have Q := Lib.hid (bl_tr hb (bl_alloc (Below.refl w.heap.size w) _))
    have kc := Lib.hid (bl_keep hb (new_blk w _))
    obtain ⟨e0, e1, e2, e3, e4⟩ := five kc.out
    clear hb
    go_wp2_with fail
    refine (l42Encode_any _ _ _ _ _ _ hV.out).mono ?_
    rintro e w2 ⟨rfl, hb⟩
    have Q2 := Lib.hid (bl_tr hb Q.out)
    clear hb
    go_wp2
    go_ret2
    exact ⟨by rw [hP.out]; rfl, Q2.out⟩
def encV (op rd rs rt imm : Int) : Int := if iv op rd rs rt imm = true then E op rd rs rt imm else 0
theorem encV_yes {op rd rs rt imm : Int} (h : iv op rd rs rt imm = true) : encV op rd rs rt imm = E op rd rs rt imm := by unfold encV; rw [if_pos h]
def EncW (op rd rs rt imm : Int) (w : World) (e : Ending) (w' : World) : Prop := e = .returned (.tuple #[.int .i64 (encV op rd rs rt imm), .bool (iv op rd rs rt imm)]) ∧ Below w.heap.size w w'
theorem specEncode_v (op rd rs rt imm : Int) (w : World) :
    Calls Tryd.prog 14 #[.agg #[.int .i64 op, .int .i64 rd, .int .i64 rs, .int .i64 rt, .int .i64 imm]] w (EncW op rd rs rt imm w) := specEncode_any op rd rs rt imm w
theorem instrEncode_v (op rd rs rt imm : Int) (w : World) (hT : Tab w) :
    Calls Tryd.prog 16 #[.agg #[.int .i64 op, .int .i64 rd, .int .i64 rs, .int .i64 rt, .int .i64 imm]] w (EncW op rd rs rt imm w) := instrEncode_any op rd rs rt imm w hT
end Go.Proofs.YthmfkdlncnjjoaaDoor
