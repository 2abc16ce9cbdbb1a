/- The draws of an instruction: DrawInstrEncode, DrawInstrText. -/
import Derived.Test.YthmfkdlncnjjoaaDoorDw
namespace Go.Proofs.YthmfkdlncnjjoaaDoor
open Go.RowKit IM
set_option linter.unusedSimpArgs false
set_option maxHeartbeats 400000 in
theorem drawEncode_any (A : Option Addr) (n c : Nat) (bs : List Int) (w : World) (h : Bytes w A n bs) (hc : n ≤ c) (hn : n ≤ 9223372036854775807) :
    Calls Tryd.prog 17 #[.slice A n c] w (DrI w) := by
  go_enter Tryd.func17, Tryd.ntmps17
  go_wp2_with fail
  refine (l6Open_any A n c bs _ (h.alloc _) hc hn).mono ?_
  rintro e w1 ⟨g, rfl, hg, hr, hb⟩
  have hne : w.heap.size ≠ g := by simp at hg; omega
  have kc := Lib.hid ((hb.block _ (lt_blk (new_blk w _))).trans (new_blk w _))
  go_wp2_with fail
  refine (l94Wrong_any _ g 0 _ hr (by omega)).mono ?_
  rintro e w2 ⟨op, rd, rs, rt, imm, rfl, hr2, ho⟩
  obtain ⟨r0, r1, r2, r3, r4⟩ := five (ho.keep kc.out hne)
  have rf := unfrozen (ho.keep kc.out hne)
  have Q : Below w.heap.size w w2 := ho.below ((bl_alloc (Below.refl _ _) _).trans (hb.mono (by simp))) (by simp at hg; omega)
  have Q := Lib.hid Q
  clear hg hb ho kc
  go_wp2
  refine bodyPost_ret (v := .agg #[.int .i64 op, .int .i64 rd, .int .i64 rs, .int .i64 rt, .int .i64 imm]) (by simp [results, Tryd.results17, go_sem, *]) rfl ⟨op, rd, rs, rt, imm, rfl, ?_⟩
  repeat (first | (with_reducible exact Q.out) | (with_reducible refine Below.setCell ?_ (by first | exact Nat.le_refl _ | omega) _))
set_option maxHeartbeats 400000 in
theorem drawText_any (A : Option Addr) (n c : Nat) (bs : List Int) (w : World) (h : Bytes w A n bs) (hc : n ≤ c) (hn : n ≤ 9223372036854775807) :
    Calls Tryd.prog 26 #[.slice A n c] w (DrI w) := by
  go_enter Tryd.func26, Tryd.ntmps26
  go_wp2_with fail
  refine (l6Open_any A n c bs _ (h.alloc _) hc hn).mono ?_
  rintro e w1 ⟨g, rfl, hg, hr, hb⟩
  have hne : w.heap.size ≠ g := by simp at hg; omega
  have kc := Lib.hid ((hb.block _ (lt_blk (new_blk w _))).trans (new_blk w _))
  go_wp2_with fail
  refine (l94Wrong_any _ g 0 _ hr (by omega)).mono ?_
  rintro e w2 ⟨op, rd, rs, rt, imm, rfl, hr2, ho⟩
  obtain ⟨r0, r1, r2, r3, r4⟩ := five (ho.keep kc.out hne)
  have rf := unfrozen (ho.keep kc.out hne)
  have Q : Below w.heap.size w w2 := ho.below ((bl_alloc (Below.refl _ _) _).trans (hb.mono (by simp))) (by simp at hg; omega)
  have Q := Lib.hid Q
  clear hg hb ho kc
  go_wp2
  refine bodyPost_ret (v := .agg #[.int .i64 op, .int .i64 rd, .int .i64 rs, .int .i64 rt, .int .i64 imm]) (by simp [results, Tryd.results26, go_sem, *]) rfl ⟨op, rd, rs, rt, imm, rfl, ?_⟩
  repeat (first | (with_reducible exact Q.out) | (with_reducible refine Below.setCell ?_ (by first | exact Nat.le_refl _ | omega) _))
end Go.Proofs.YthmfkdlncnjjoaaDoor
