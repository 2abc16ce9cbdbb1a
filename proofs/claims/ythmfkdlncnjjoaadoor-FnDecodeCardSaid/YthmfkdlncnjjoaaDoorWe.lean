/- The draw of DrawInstrDecode: whatever is drawn, it is a whole number. -/
import Derived.Test.YthmfkdlncnjjoaaDoorWd
import Derived.Test.YthmfkdlncnjjoaaDoorSf
namespace Go.Proofs.YthmfkdlncnjjoaaDoor
open Go.RowKit IM
set_option linter.unusedSimpArgs false
set_option linter.unusedVariables false
def DrU (w : World) (e : Ending) (w' : World) : Prop := ∃ u : Int, e = .returned (.int .i64 u) ∧ Below w.heap.size w w'
def words5 : Array Value := #[.int .i64 (-1), .int .i64 4294967296, .int .i64 0, .int .i64 4294967295, .int .i64 127]
theorem words5_at (v : Int) (h0 : 0 ≤ v) (h1 : v < 5) : ∃ x : Int, words5[v.toNat]? = some (.int .i64 x) := by
  rcases (by omega : v = 0 ∨ v = 1 ∨ v = 2 ∨ v = 3 ∨ v = 4) with rfl | rfl | rfl | rfl | rfl
  all_goals exact ⟨_, rfl⟩
set_option maxRecDepth 100000 in
set_option maxHeartbeats 2000000 in
theorem drawDecode_any (A : Option Addr) (n c : Nat) (bs : List Int) (w : World) (h : Bytes w A n bs) (hc : n ≤ c) (hn : n ≤ 9223372036854775807) :
    Calls Tryd.prog 24 #[.slice A n c] w (DrU w) := by
  go_enter Tryd.func24, Tryd.ntmps24
  go_wp2_with fail
  refine (l6Open_any A n c bs _ h hc hn).mono ?_
  rintro e w1 ⟨g, rfl, hg, hr, hb⟩
  have HG := Lib.hid hg
  have HB := Lib.hid hb
  clear hg hb
  go_wp2_with fail
  refine (l94Instr_any _ g 0 _ hr (by omega)).mono ?_
  rintro e w2 ⟨op, rd, rs, rt, imm, rfl, hV, hr2, ho2⟩
  have er := E_range hV
  go_wp2_with fail
  refine (l42Encode_any _ _ _ _ _ _ hV).mono ?_
  rintro e w3 ⟨rfl, hb3⟩
  have hr3 := hr2.below hb3
  have ho3 := Lib.hid (ho2.trans (Only.of_below hb3))
  generalize E op rd rs rt imm = u at *
  clear hV hr hr2 hb3 ho2
  go_wp2_with fail
  refine (pick_any _ g 8 _ _ hr3 (by omega)).mono ?_
  rintro e w4 ⟨v, rfl, h0, h1, h2, hr4, ho4⟩
  have h3 := h1 (by omega)
  clear h1 h2
  have O4 := Lib.hid (ho3.out.trans ho4)
  clear ho3 ho4 hr3
  have hne : w4.heap.size ≠ g := by have := hr4.lt; omega
  have fin : ∀ W : World, Only g w1 W → Below w.heap.size w W := fun W ho => ho.below HB.out HG.out
  have FIN := Lib.hid fin
  clear fin
  rcases (by omega : v = 0 ∨ v = 1 ∨ v = 2 ∨ v = 3 ∨ 4 ≤ v) with rfl | rfl | rfl | rfl | hv
  · go_wp2_with fail
    refine (l91Word_any _ g _ _ hr4 (by omega)).mono ?_
    rintro e w5 ⟨x, rfl, x0, x1, hr5, ho5⟩
    have O5 := Lib.hid (O4.out.trans ho5)
    clear ho5
    go_wp2_with fail
    refine (unsignedS_any _ _).mono ?_
    rintro e w6 ⟨⟨y, rfl⟩, rfl⟩
    go_wp2
    go_ret
    exact ⟨_, rfl, FIN.out _ O5.out⟩
  · go_wp2_with fail
    refine (pick_any _ g _ _ _ (hr4.below (bl_alloc (Below.refl _ _) _)) (by omega)).mono ?_
    rintro e w5 ⟨v2, rfl, k0, k1, k2, hr5, ho5⟩
    obtain ⟨x, hx⟩ := words5_at v2 k0 (k1 (by omega))
    have hc' := new_cell2 w4 words5 3 _ _ hx
    unfold words5 at hc'
    have hc2 := ho5.cellAt hc' hne
    have k3 := k1 (by omega)
    have O5 := Lib.hid ((O4.out.alloc _).trans ho5)
    clear k1 k2 hx hc' ho5
    go_wp2
    go_ret
    exact ⟨_, rfl, FIN.out _ O5.out⟩
  · go_wp2_with fail
    refine (pick_any _ g _ _ _ hr4 (by omega)).mono ?_
    rintro e w5 ⟨v2, rfl, k0, k1, k2, hr5, ho5⟩
    have k3 := k1 (by omega)
    have O5 := Lib.hid (O4.out.trans ho5)
    clear k1 k2 ho5
    go_wp2_with (first | (go_at_call 49; (with_reducible refine (wrap_any _ _).mono ?_); rintro e w' ⟨rfl, rfl⟩) | (go_at_call 47; (with_reducible refine (unsignedS_any _ _).mono ?_); rintro e w6 ⟨⟨y, rfl⟩, rfl⟩))
    go_ret
    exact ⟨_, rfl, FIN.out _ O5.out⟩
  · go_wp2_with fail
    refine (pick_any _ g _ _ _ hr4 (by omega)).mono ?_
    rintro e w5 ⟨v2, rfl, k0, k1, k2, hr5, ho5⟩
    have k3 := k1 (by omega)
    have O5 := Lib.hid (O4.out.trans ho5)
    clear k1 k2 ho5
    go_wp2_with (first | (go_at_call 49; (with_reducible refine (wrap_any _ _).mono ?_); rintro e w' ⟨rfl, rfl⟩) | (go_at_call 47; (with_reducible refine (unsignedS_any _ _).mono ?_); rintro e w6 ⟨⟨y, rfl⟩, rfl⟩))
    go_ret
    exact ⟨_, rfl, FIN.out _ O5.out⟩
  · go_wp2
    go_ret
    exact ⟨_, rfl, FIN.out _ O4.out⟩
end Go.Proofs.YthmfkdlncnjjoaaDoor
