/- FnExactPlaceCode holds, for every input. -/
import Derived.Test.YtahbkldagpfcaaaZD3
import Derived.WalkSpells
import Derived.Test.YtahbkldagpfcaaaRows
import Derived.WalkKit
import Derived.ProofKit
import Derived.OpenShut
import Derived.ChangeOld
import Derived.Below
import Derived.SizedLaws
import Derived.Lib.SmallJoins
import Derived.Deep.Slices
import Derived.Deep.Fields
import Derived.ChangeSame
import Derived.DataReads
set_option linter.unusedVariables false
set_option linter.unusedSimpArgs false
namespace Go.Proofs.Ytahbkldagpfcaaa.M
open Go.RowKit Go.Proofs.YtahbkldagpfcaaaW.PrintWords Go.Proofs.YtahbkldagpfcaaaW.PrintLast Go.Proofs.YtahbkldagpfcaaaW.PrintMore PM
/-- A place is taken by a lesser register that interferes. -/
def Bad (c : List SQ) (T : List Nat) (P : List Nat) (r p : Nat) : Prop := ∃ k, k < r ∧ P.getD k 0 = p ∧ Mt c T k r
instance (c : List SQ) (T : List Nat) (P : List Nat) (r p : Nat) : Decidable (Bad c T P r p) := by
  unfold Bad
  exact Nat.decidableExistsLT _
def leastF (b : Nat → Bool) : Nat → Nat → Nat
  | 0, p => p
  | m + 1, p => if b p = true then leastF b m (p + 1) else p
theorem leastF_le (b : Nat → Bool) : ∀ m p, p ≤ leastF b m p ∧ leastF b m p ≤ p + m
  | 0, p => by simp [leastF]
  | m + 1, p => by
    have := leastF_le b m (p + 1)
    unfold leastF
    split <;> omega
theorem leastF_at (b : Nat → Bool) : ∀ m p, b (p + m) = false → b (leastF b m p) = false
  | 0, p, h => h
  | m + 1, p, h => by
    unfold leastF
    split
    · exact leastF_at b m (p + 1) (by rw [show p + 1 + m = p + (m + 1) from by omega]; exact h)
    · rename_i h'
      simpa using h'
/-- The places of the registers below r. -/
def plcs (c : List SQ) (T : List Nat) : Nat → List Nat
  | 0 => []
  | r + 1 => plcs c T r ++ [leastF (fun p => decide (Bad c T (plcs c T r) r p)) r 0]
theorem plcs_len (c : List SQ) (T : List Nat) : ∀ r, (plcs c T r).length = r
  | 0 => rfl
  | r + 1 => by simp [plcs, plcs_len c T r]
theorem getD_append {l : List Nat} {x j : Nat} (h : j < l.length) : (l ++ [x]).getD j 0 = l.getD j 0 := by
  simp [List.getD_eq_getElem?_getD, List.getElem?_append_left h]
theorem plcs_le (c : List SQ) (T : List Nat) : ∀ r j, j < r → (plcs c T r).getD j 0 ≤ j
  | 0, j, h => by omega
  | r + 1, j, h => by
    have hl := plcs_len c T r
    unfold plcs
    by_cases e : j = r
    · subst e
      have : (plcs c T j ++ [leastF (fun p => decide (Bad c T (plcs c T j) j p)) j 0]).getD j 0 = leastF (fun p => decide (Bad c T (plcs c T j) j p)) j 0 := by
        simp [List.getD_eq_getElem?_getD, List.getElem?_append_right (show (plcs c T j).length ≤ j by omega), hl]
      rw [this]
      have := leastF_le (fun p => decide (Bad c T (plcs c T j) j p)) j 0
      omega
    · rw [getD_append (by omega)]
      exact plcs_le c T r j (by omega)
theorem spec_l41Least.in {c : List SQ} (h : CV (qs c)) (T : List Nat) {P : List Nat} {r : Nat} (hl : P.length = r) (hr : r < 12) {p : Nat} {v : Int} (hp : p < 12) (g1 : Bad c T P r p → Ev (fun k => spec_l41Least.l0 k c (rows (abs_ c T)) (ints P) (r : Int) ((p + 1 : Nat) : Int)) v) (g2 : ¬ Bad c T P r p → v = p) :
    ∀ (d j : Nat), j + d = r → ∀ f : Bool, (f = true ↔ ¬ ∃ k, k < j ∧ P.getD k 0 = p ∧ Mt c T k r) → Ev (fun k => spec_l41Least.l1 k c (rows (abs_ c T)) (ints P) (r : Int) (p : Int) f (j : Int)) v
  | 0, j, hj, f, hf => by
    refine Ev.succ ?_
    simp only [spec_l41Least.l1, wrap_up (show p < 9223372036854775807 by omega)]
    refine Ev.neg ?_
    rw [show j = r from by omega] at hf
    by_cases e : f = true
    · refine Ev.pos ?_
      rw [g2 (hf.1 e)]
      exact Ev.pure
    · refine Ev.neg (g1 ?_)
      exact Classical.byContradiction fun x => e (hf.2 x)
  | d + 1, j, hj, f, hf => by
    refine Ev.succ ?_
    simp only [spec_l41Least.l1, ints_len, rd_ints, wrap_up (show j < 9223372036854775807 by omega)]
    refine Ev.pos (Ev.pos (Ev.pos ?_))
    have ih := spec_l41Least.in h T hl hr hp g1 g2 d (j + 1) (by omega)
    have more : (∃ k, k < j + 1 ∧ P.getD k 0 = p ∧ Mt c T k r) ↔ (∃ k, k < j ∧ P.getD k 0 = p ∧ Mt c T k r) ∨ (P.getD j 0 = p ∧ Mt c T j r) := by
      constructor
      · rintro ⟨k, h1, h2⟩
        by_cases e : k = j
        · exact .inr (e ▸ h2)
        · exact .inl ⟨k, by omega, h2⟩
      · rintro (⟨k, h1, h2⟩ | h2)
        · exact ⟨k, by omega, h2⟩
        · exact ⟨j, by omega, h2⟩
    by_cases c1 : P.getD j 0 = p
    · refine Ev.pos (Ev.bind (spec_l41Meet.ev h T (by omega) hr) ?_) (by omega)
      by_cases c2 : Mt c T j r
      · refine Ev.pos (ih false ?_) (decide_eq_true c2)
        rw [more]
        simp only [c1, c2, and_self, or_true, not_true_eq_false, Bool.false_eq_true]
      · refine Ev.neg (ih f ?_) (fun x => c2 (of_decide_eq_true x))
        rw [more, hf]
        simp [c2]
    · refine Ev.neg (ih f ?_) (by omega)
      rw [more, hf]
      simp only [c1, false_and, or_false]
theorem spec_l41Least.out {c : List SQ} (h : CV (qs c)) (T : List Nat) {P : List Nat} {r : Nat} (hl : P.length = r) (hr : r < 12) : ∀ (d p : Nat), p + d = r → Ev (fun k => spec_l41Least.l0 k c (rows (abs_ c T)) (ints P) (r : Int) (p : Int)) ((leastF (fun p => decide (Bad c T P r p)) d p : Nat) : Int)
  | 0, p, hp => by
    refine Ev.succ ?_
    simp only [spec_l41Least.l0]
    rw [show r = p from by omega]
    exact Ev.neg Ev.pure
  | d + 1, p, hp => by
    refine Ev.succ ?_
    simp only [spec_l41Least.l0]
    refine Ev.pos (spec_l41Least.in h T hl hr (by omega) (fun hb => ?_) (fun hb => ?_) r 0 (by omega) true (by simp))
    · have := spec_l41Least.out h T hl hr d (p + 1) (by omega)
      unfold leastF
      rw [if_pos (decide_eq_true hb)]
      exact this
    · unfold leastF
      rw [if_neg (fun x => hb (of_decide_eq_true x))]
theorem spec_places {c : List SQ} (h : CV (qs c)) {T : List Nat} (hT : LT c T) (hl : Ev (fun k => spec_LiveOf.f k c) (rows T)) : Ev (fun k => spec_PlacesOf.f k c) (ints (plcs c T 12)) := by
  have key : ∀ (d p : Nat), p + d = 12 → Ev (fun k => spec_PlacesOf.l0 k c (ints (plcs c T p)) (rows (abs_ c T)) (p : Int)) (ints (plcs c T 12)) := by
    intro d
    induction d with
    | zero =>
      intro p hp
      refine Ev.succ ?_
      simp only [spec_PlacesOf.l0]
      rw [show p = 12 from by omega]
      exact Ev.neg Ev.pure
    | succ d ih =>
      intro p hp
      refine Ev.succ ?_
      have hlen := plcs_len c T p
      simp only [spec_PlacesOf.l0, spec_l41Least.f, ints_len, hlen, wrap_up (show p < 9223372036854775807 by omega)]
      have := spec_l41Least.out h T hlen (by omega) p 0 (by omega)
      refine Ev.pos (Ev.bind this (Ev.pos ?_))
      have := ih (p + 1) (by omega)
      rw [show ints (plcs c T (p + 1)) = ints (plcs c T p) ++ [((leastF (fun x => decide (Bad c T (plcs c T p) p x)) p 0 : Nat) : Int)] from by simp [plcs, ints]] at this
      exact this
  simp only [spec_PlacesOf.f]
  exact Ev.some (Ev.bind (spec_CodeValid.ev c) (Ev.pos (Ev.bind (spec_l41After.ev h hT hl) (key 12 0 rfl)) (decide_eq_true h)))
/-- What is taken by the registers below o. -/
def Tk (M P : List Nat) (r o t : Nat) : Prop := t < 4096 ∧ ∀ x, t.testBit x = true ↔ ∃ k, k < o ∧ P.getD k 0 = x ∧ (M.getD r 0).testBit k = true
theorem impl_placesOf.in {M P : List Nat} {r : Nat} (hM : Tab 12 M) (hr : r < 12) (hl : P.length = 12) (hP : ∀ j, j < r → P.getD j 0 < 12) {v : List Int} (g : ∀ t, Tk M P r r t → Ev (fun k => impl_placesOf.l2 k (ints M) (ints P) (r : Int) (t : Int)) v) :
    ∀ (d o : Nat), o + d = r → ∀ t, Tk M P r o t → Ev (fun k => impl_placesOf.l1 k (ints M) (ints P) (r : Int) (t : Int) (o : Int)) v
  | 0, o, ho, t, ht => by
    refine Ev.succ ?_
    simp only [impl_placesOf.l1]
    rw [show o = r from by omega] at ht
    exact Ev.neg (g t ht)
  | d + 1, o, ho, t, ht => by
    refine Ev.succ ?_
    have hm := hM.2 r
    have hp := hP o (by omega)
    have hw := pow16 hp
    have ht1 := ht.1
    simp only [impl_placesOf.l1, ints_len, rdOf_ints, Int.toNat_natCast, impl_regSet_has.e (show M.getD r 0 < 65536 by omega) (show o < 16 by omega), wrap_up (show o < 9223372036854775807 by omega), wrap_pow hp, bits_or (show t < 65536 by omega) (show 2 ^ P.getD o 0 < 65536 by omega)]
    refine Ev.pos (Ev.pos (Ev.some ?_))
    have more : ∀ x, (∃ k, k < o + 1 ∧ P.getD k 0 = x ∧ (M.getD r 0).testBit k = true) ↔ (∃ k, k < o ∧ P.getD k 0 = x ∧ (M.getD r 0).testBit k = true) ∨ (P.getD o 0 = x ∧ (M.getD r 0).testBit o = true) := by
      intro x
      constructor
      · rintro ⟨k, h1, h2⟩
        by_cases e : k = o
        · exact .inr (e ▸ h2)
        · exact .inl ⟨k, by omega, h2⟩
      · rintro (⟨k, h1, h2⟩ | h2)
        · exact ⟨k, by omega, h2⟩
        · exact ⟨o, by omega, h2⟩
    have ih := impl_placesOf.in hM hr hl hP g d (o + 1) (by omega)
    by_cases hb : (M.getD r 0).testBit o = true
    · refine Ev.pos (Ev.pos (ih _ ⟨or_lt (n := 12) ht1 hw, fun x => ?_⟩))
      rw [more, Nat.testBit_or, Bool.or_eq_true, ht.2 x, Nat.testBit_two_pow, decide_eq_true_eq]
      simp only [hb, and_true]
    · refine Ev.neg (ih t ⟨ht1, fun x => ?_⟩)
      rw [more, ht.2 x]
      simp only [hb, Bool.false_eq_true, and_false, or_false]
theorem impl_placesOf.up {M : List Nat} {r t : Nat} (hr : r < 12) (ht : t < 4096) {b : Nat → Bool} (hb : ∀ x, t.testBit x = b x) {v : List Int} : ∀ (d p : Nat), p + d = r → b r = false → ∀ P : List Nat, P.length = 12 → P.getD r 0 = p → (∀ Q : List Nat, Q = P.set r (leastF b d p) → Ev (fun k => impl_placesOf.l0 k (ints M) (ints Q) ((r + 1 : Nat) : Int)) v) → Ev (fun k => impl_placesOf.l2 k (ints M) (ints P) (r : Int) (t : Int)) v
  | d, p, hp, hbr, P, hl, hpr, g => by
    refine Ev.succ ?_
    simp only [impl_placesOf.l2, ints_len, rdOf_ints, hpr, Int.toNat_natCast, impl_regSet_has.e (show t < 65536 by omega) (show p < 16 by omega), wrap_up (show p < 9223372036854775807 by omega), wrap_up (show r < 9223372036854775807 by omega), ints_set]
    refine Ev.pos (Ev.some ?_)
    by_cases h : t.testBit p = true
    · cases d with
      | zero =>
        rw [hb, show p = r from by omega, hbr] at h
        cases h
      | succ d =>
        refine Ev.pos (impl_placesOf.up hr ht hb d (p + 1) (by omega) hbr (P.set r (p + 1)) (by rw [List.length_set]; exact hl) (by rw [getD_set P r r _ 0 (by omega), if_pos rfl]) fun Q hQ => g Q ?_)
        rw [hQ, List.set_set]
        have : leastF b (d + 1) p = leastF b d (p + 1) := by
          unfold leastF
          rw [if_pos (by rw [← hb]; exact h)]
          cases d <;> rfl
        rw [this]
    · refine Ev.neg (g P ?_)
      have : leastF b d p = p := by
        cases d with
        | zero => rfl
        | succ d =>
          unfold leastF
          rw [if_neg (by rw [← hb]; exact h)]
      rw [this, ← hpr, set_same (by omega)]
theorem impl_places {c : List SQ} {T M : List Nat} (hM : MT c T M) (hm : Ev (fun k => impl_meetings.f k c) (ints M)) : Ev (fun k => impl_placesOf.f k c) (ints (plcs c T 12)) := by
  have key : ∀ (d r : Nat), r + d = 12 → ∀ P : List Nat, P.length = 12 → (∀ j, j < r → P.getD j 0 = (plcs c T r).getD j 0) → (∀ j, r ≤ j → P.getD j 0 = 0) → Ev (fun k => impl_placesOf.l0 k (ints M) (ints P) (r : Int)) (ints (plcs c T 12)) := by
    intro d
    induction d with
    | zero =>
      intro r hr P hl hP h0
      refine Ev.succ ?_
      simp only [impl_placesOf.l0]
      have hr12 : r = 12 := by omega
      subst hr12
      refine Ev.neg (Ev.eq Ev.pure ?_)
      congr 1
      exact list_ext 0 (by rw [hl, plcs_len]) fun i hi => hP i (by omega)
    | succ d ih =>
      intro r hr P hl hP h0
      refine Ev.succ ?_
      simp only [impl_placesOf.l0]
      have hlen := plcs_len c T r
      have hle : ∀ j, j < r → P.getD j 0 ≤ j := fun j hj => by rw [hP j hj]; exact plcs_le c T r j hj
      refine Ev.pos (Ev.pos (impl_placesOf.in hM.tab (by omega) hl (fun j hj => by have := hle j hj; omega) (fun t ht => ?_) r 0 (by omega) 0 ⟨by decide, fun x => by simp⟩))
      have hb : ∀ x, t.testBit x = decide (Bad c T (plcs c T r) r x) := by
        intro x
        apply Bool.eq_iff_iff.2
        rw [ht.2 x, decide_eq_true_eq]
        unfold Bad
        constructor
        · rintro ⟨k, h1, h2, h3⟩
          exact ⟨k, h1, by rw [← hP k h1]; exact h2, ((hM.iff r k (by omega) (by omega)).1 h3).symm⟩
        · rintro ⟨k, h1, h2, h3⟩
          exact ⟨k, h1, by rw [hP k h1]; exact h2, (hM.iff r k (by omega) (by omega)).2 h3.symm⟩
      have hbr : decide (Bad c T (plcs c T r) r r) = false := by
        rw [decide_eq_false_iff_not]
        rintro ⟨k, h1, h2, _⟩
        have := plcs_le c T r k h1
        omega
      refine impl_placesOf.up (b := fun x => decide (Bad c T (plcs c T r) r x)) (by omega) ht.1 hb r 0 (by omega) hbr P hl (h0 r (Nat.le_refl _)) fun Q hQ => ?_
      subst hQ
      refine ih (r + 1) (by omega) _ (by rw [List.length_set]; exact hl) (fun j hj => ?_) (fun j hj => ?_)
      · rw [getD_set P r j _ 0 (by omega)]
        by_cases e : j = r
        · subst e
          rw [if_pos rfl]
          simp [plcs, List.getD_eq_getElem?_getD, List.getElem?_append_right (show (plcs c T j).length ≤ j by omega), hlen]
        · rw [if_neg e, hP j (by omega)]
          simp only [plcs]
          rw [getD_append (by omega)]
      · rw [getD_set P r j _ 0 (by omega), if_neg (by omega)]
        exact h0 j (by omega)
  have z : ∀ i, (List.replicate 12 0).getD i 0 = 0 := by
    intro i
    rw [List.getD_eq_getElem?_getD, List.getElem?_replicate]
    split <;> rfl
  simp only [impl_placesOf.f]
  refine Ev.bind hm ?_
  exact key 12 0 rfl (List.replicate 12 0) rfl (fun j hj => by omega) (fun j _ => z j)
theorem places_ev (c : List SQ) (h : CV (qs c)) : ∃ P : List Nat, P.length = 12 ∧ (∀ j, j < 12 → P.getD j 0 ≤ j) ∧ Ev (fun k => spec_PlacesOf.f k c) (ints P) ∧ Ev (fun k => impl_placesOf.f k c) (ints P) := by
  obtain ⟨T, hT, e1, e2⟩ := live_ev h
  obtain ⟨M, hM, e3⟩ := meet_ev h hT e2
  exact ⟨plcs c T 12, plcs_len c T 12, plcs_le c T 12, spec_places h hT e1, impl_places hM e3⟩
end Go.Proofs.Ytahbkldagpfcaaa.M
namespace Go.Proofs.Ytahbkldagpfcaaa.M
open Go.RowKit Go.Proofs.YtahbkldagpfcaaaW.PrintWords Go.Proofs.YtahbkldagpfcaaaW.PrintLast Go.Proofs.YtahbkldagpfcaaaW.PrintMore
attribute [local go_sem] max2_int min2_int max_two min_two max_three min_three max_four min_four
def laws_eqIntS.l0 : Nat → List Int → List Int → Int → Option (Bool)
 | 0, _, _, _ => none
 | k + 1, x0, x1, x5 => if x5 < (x0.length : Int) then (if 0 ≤ x5 then (if x5 < (x1.length : Int) then (if (rd x0 x5) = (rd x1 x5) then (laws_eqIntS.l0 k x0 x1 (wrap64 (x5 + 1))) else (some false)) else (none)) else (none)) else (some true)
def laws_eqIntS.f (k : Nat) (l0 : List Int) (l1 : List Int) : Option (Bool) := if (l0.length : Int) = (l1.length : Int) then (laws_eqIntS.l0 k l0 l1 0) else (some false)
theorem laws_eqIntS.mono_l : ∀ k, (∀ y0 y1 y2, LeO (laws_eqIntS.l0 k y0 y1 y2) (laws_eqIntS.l0 (k + 1) y0 y1 y2))
 | 0 => fun _ _ _ r h => by simp [laws_eqIntS.l0] at h
 | k + 1 => by
  have ih0 := laws_eqIntS.mono_l k
  ·intro y0 y1 y2
   unfold laws_eqIntS.l0
   repeat' first
   | (with_reducible exact ih0 _ _ _)
   | (with_reducible exact LeO.refl _)
   | (with_reducible exact LeO.none _)
   | (with_reducible refine LeO.ite ?_ ?_)
   | (with_reducible refine LeO.bind ?_ (fun _ => ?_))
   | exact ih0 _ _ _
   | exact LeO.none _
   | refine LeO.ite ?_ ?_
   | refine LeO.bind ?_ (fun _ => ?_)
theorem laws_eqIntS.mono : ∀ a0 a1 k, LeO (laws_eqIntS.f k a0 a1) (laws_eqIntS.f (k + 1) a0 a1) := by
 intro a0 a1 k
 have ih0 := laws_eqIntS.mono_l k
 unfold laws_eqIntS.f
 repeat' first
   | (with_reducible exact ih0 _ _ _)
   | (with_reducible exact LeO.refl _)
   | (with_reducible exact LeO.none _)
   | (with_reducible refine LeO.ite ?_ ?_)
   | (with_reducible refine LeO.bind ?_ (fun _ => ?_))
   | exact ih0 _ _ _
   | exact LeO.none _
   | refine LeO.ite ?_ ?_
   | refine LeO.bind ?_ (fun _ => ?_)
set_option maxHeartbeats 8000000 in
set_option maxRecDepth 100000 in
theorem laws_eqIntS.calls (k : Nat) (A0 : Option Addr) (c0 : Nat) (l0 : List Int) (A1 : Option Addr) (c1 : Nat) (l1 : List Int) (r : Bool) (w : World) (hr0 : Kd.C (Kd.int .i64) w A0 l0.length l0) (hc0 : l0.length ≤ c0) (hr1 : Kd.C (Kd.int .i64) w A1 l1.length l1) (hc1 : l1.length ≤ c1) (h : laws_eqIntS.f k l0 l1 = some r) :
  Calls Try.prog 18 #[.slice A0 l0.length c0, .slice A1 l1.length c1] w fun e w' => e = .returned (.bool r) ∧ Drawn0 w w' := by
 have HR0 := Aside0.mk hr0
 have HC0 := Aside0.mk hc0
 clear hr0 hc0
 have HR1 := Aside0.mk hr1
 have HC1 := Aside0.mk hc1
 clear hr1 hc1
 have H : (if (l0.length : Int) = (l1.length : Int) then (laws_eqIntS.l0 k l0 l1 0) else (some false)) = some r := h
 clear h
 by_cases c3 : (l0.length : Int) = (l1.length : Int)
 ·rw [if_pos c3] at H
  have c3b0 : ((l0.length : Int) == (l1.length : Int)) = true := beq_iff_eq.mpr c3
  have c3b1 : ((l0.length : Int) != (l1.length : Int)) = false := bne_eq_false_iff_eq.mpr c3
  have c3b2 : (l0.length == l1.length) = true := by first | simpa using c3 | (simp at c3 ⊢; omega)
  clear c3
  have H' := Aside0.mk H
  clear H
  go_enter Try.func18, Try.ntmps18
  go_wp2
  repeat (go_quiet (fail); try go_wp2)
  go_loopg [5] k (fun kq v5 w' => ∃ (x5_1 : Int), v5 = .int .i64 x5_1 ∧ Aside0 (laws_eqIntS.l0 kq l0 l1 x5_1 = some r) ∧ Aside0 (kq ≤ k) ∧ Drawn0 w w')
  case atStart => exact ⟨(0), qZ, H', ⟨Nat.le_refl _⟩, by repeat (first | exact Drawn0.refl _ | apply Drawn0.step)⟩
  case round =>
   clear H'
   try clear c1; try clear p2; try clear c3; try clear c3b0; try clear c3b1; try clear c3b2
   obtain ⟨x5_1, rfl, HA, HK1, ⟨m1, rfl⟩⟩ := hrel
   cases gk with
   | zero => exact absurd HA.out (by simp [laws_eqIntS.l0])
   | succ k1 =>
    have H := HA.out
    clear HA
    simp only [laws_eqIntS.l0] at H
    by_cases c4 : x5_1 < (l0.length : Int)
    ·rw [if_pos c4] at H
     have c4b0 := decide_eq_true c4
     clear c4
     by_cases c5 : 0 ≤ x5_1
     ·rw [if_pos c5] at H
      have c5b0 := decide_eq_true c5
      clear c5
      by_cases c6 : x5_1 < (l1.length : Int)
      ·rw [if_pos c6] at H
       have c6b0 := decide_eq_true c6
       clear c6
       by_cases c7 : (rd l0 x5_1) = (rd l1 x5_1)
       ·rw [if_pos c7] at H
        have c7b0 : ((rd l0 x5_1) == (rd l1 x5_1)) = true := beq_iff_eq.mpr c7
        have c7b1 : ((rd l0 x5_1) != (rd l1 x5_1)) = false := bne_eq_false_iff_eq.mpr c7
        clear c7
        have H' := Aside0.mk H
        clear H
        have p391 : 0 ≤ (x5_1 : Int) := qD
        have q391 : x5_1 < (l0.length : Int) := qD
        obtain ⟨ad391, e391, hx391_0⟩ := Kd.at_int HR0.out x5_1 p391 q391
        cases e391
        replace p391 := eq_true p391
        replace q391 := eq_true q391
        have p392 : 0 ≤ (x5_1 : Int) := qD
        have q392 : x5_1 < (l1.length : Int) := qD
        obtain ⟨ad392, e392, hx392_0⟩ := Kd.at_int HR1.out x5_1 p392 q392
        cases e392
        replace p392 := eq_true p392
        replace q392 := eq_true q392
        go_wp2
        repeat (go_quiet (fail); try go_wp2)
        go_roundg k1
        case measure => have := HK1.out; omega
        case rel => exact ⟨(wrap64 (x5_1 + 1)), qZ, H', ⟨by have := HK1.out; omega⟩, by repeat (first | exact Drawn0.refl _ | apply Drawn0.step)⟩
       ·rw [if_neg c7] at H
        have c7b0 : ((rd l0 x5_1) == (rd l1 x5_1)) = false := beq_eq_false_iff_ne.mpr c7
        have c7b1 : ((rd l0 x5_1) != (rd l1 x5_1)) = true := bne_iff_ne.mpr c7
        obtain rfl := Option.some.inj H
        have p391 : 0 ≤ (x5_1 : Int) := qD
        have q391 : x5_1 < (l0.length : Int) := qD
        obtain ⟨ad391, e391, hx391_0⟩ := Kd.at_int HR0.out x5_1 p391 q391
        cases e391
        replace p391 := eq_true p391
        replace q391 := eq_true q391
        have p392 : 0 ≤ (x5_1 : Int) := qD
        have q392 : x5_1 < (l1.length : Int) := qD
        obtain ⟨ad392, e392, hx392_0⟩ := Kd.at_int HR1.out x5_1 p392 q392
        cases e392
        replace p392 := eq_true p392
        replace q392 := eq_true q392
        go_wp2
        repeat (go_quiet (fail); try go_wp2)
        go_ret
        exact ⟨by first | rfl | (simp; done) | (simp [*]; done), by repeat (first | exact Drawn0.refl _ | apply Drawn0.step)⟩
      ·rw [if_neg c6] at H
       exact absurd H (by simp)
     ·rw [if_neg c5] at H
      exact absurd H (by simp)
    ·rw [if_neg c4] at H
     have c4b0 := decide_eq_false c4
     clear c4
     obtain rfl := Option.some.inj H
     go_wp2
     repeat (go_quiet (fail); try go_wp2)
     go_ret
     exact ⟨by first | rfl | (simp; done) | (simp [*]; done), by repeat (first | exact Drawn0.refl _ | apply Drawn0.step)⟩
 ·rw [if_neg c3] at H
  have c3b0 : ((l0.length : Int) == (l1.length : Int)) = false := beq_eq_false_iff_ne.mpr c3
  have c3b1 : ((l0.length : Int) != (l1.length : Int)) = true := bne_iff_ne.mpr c3
  have c3b2 : (l0.length == l1.length) = false := by first | simpa using c3 | (simp at c3 ⊢; omega)
  obtain rfl := Option.some.inj H
  go_enter Try.func18, Try.ntmps18
  go_wp2
  repeat (go_quiet (fail); try go_wp2)
  go_ret
  exact ⟨by first | rfl | (simp; done) | (simp [*]; done), by repeat (first | exact Drawn0.refl _ | apply Drawn0.step)⟩
def laws_markQuadS.l0 : Nat → List (S46) → Int → Int → Option (Int × (List (S46)))
 | 0, _, _, _ => none
 | k + 1, x0, x1, x5 => if x5 < (x0.length : Int) then (if 0 ≤ x5 then ((some (x0.set (x5 : Int).toNat (⟨x1, (rd_T46 x0 x5).f1, (rd_T46 x0 x5).f2, (rd_T46 x0 x5).f3, (rd_T46 x0 x5).f4⟩ : S46) : List (S46))).bind fun y393 => ((some (y393.set (x5 : Int).toNat (⟨(rd_T46 y393 x5).f0, wrap64 (x1 + 1), (rd_T46 y393 x5).f2, (rd_T46 y393 x5).f3, (rd_T46 y393 x5).f4⟩ : S46) : List (S46))).bind fun y394 => ((some (y394.set (x5 : Int).toNat (⟨(rd_T46 y394 x5).f0, (rd_T46 y394 x5).f1, wrap64 ((wrap64 (x1 + 1)) + 1), (rd_T46 y394 x5).f3, (rd_T46 y394 x5).f4⟩ : S46) : List (S46))).bind fun y395 => ((some (y395.set (x5 : Int).toNat (⟨(rd_T46 y395 x5).f0, (rd_T46 y395 x5).f1, (rd_T46 y395 x5).f2, wrap64 ((wrap64 ((wrap64 (x1 + 1)) + 1)) + 1), (rd_T46 y395 x5).f4⟩ : S46) : List (S46))).bind fun y396 => (laws_markQuadS.l0 k (y396.set (x5 : Int).toNat (⟨(rd_T46 y396 x5).f0, (rd_T46 y396 x5).f1, (rd_T46 y396 x5).f2, (rd_T46 y396 x5).f3, wrap64 ((wrap64 ((wrap64 ((wrap64 (x1 + 1)) + 1)) + 1)) + 1)⟩ : S46)) (wrap64 ((wrap64 ((wrap64 ((wrap64 ((wrap64 (x1 + 1)) + 1)) + 1)) + 1)) + 1)) (wrap64 (x5 + 1))))))) else (none)) else (some (x1, x0))
def laws_markQuadS.f (k : Nat) (l0 : List (S46)) (a1 : Int) : Option (Int × (List (S46))) := laws_markQuadS.l0 k l0 a1 0
theorem laws_markQuadS.mono_l : ∀ k, (∀ y0 y1 y2, LeO (laws_markQuadS.l0 k y0 y1 y2) (laws_markQuadS.l0 (k + 1) y0 y1 y2))
 | 0 => fun _ _ _ r h => by simp [laws_markQuadS.l0] at h
 | k + 1 => by
  have ih0 := laws_markQuadS.mono_l k
  ·intro y0 y1 y2
   unfold laws_markQuadS.l0
   repeat' first
   | (with_reducible exact ih0 _ _ _)
   | (with_reducible exact LeO.refl _)
   | (with_reducible exact LeO.none _)
   | (with_reducible refine LeO.ite ?_ ?_)
   | (with_reducible refine LeO.bind ?_ (fun _ => ?_))
   | exact ih0 _ _ _
   | exact LeO.none _
   | refine LeO.ite ?_ ?_
   | refine LeO.bind ?_ (fun _ => ?_)
theorem laws_markQuadS.mono : ∀ a0 a1 k, LeO (laws_markQuadS.f k a0 a1) (laws_markQuadS.f (k + 1) a0 a1) := by
 intro a0 a1 k
 have ih0 := laws_markQuadS.mono_l k
 unfold laws_markQuadS.f
 repeat' first
   | (with_reducible exact ih0 _ _ _)
   | (with_reducible exact LeO.refl _)
   | (with_reducible exact LeO.none _)
   | (with_reducible refine LeO.ite ?_ ?_)
   | (with_reducible refine LeO.bind ?_ (fun _ => ?_))
   | exact ih0 _ _ _
   | exact LeO.none _
   | refine LeO.ite ?_ ?_
   | refine LeO.bind ?_ (fun _ => ?_)
set_option maxHeartbeats 8000000 in
set_option maxRecDepth 100000 in
theorem laws_markQuadS.calls (k : Nat) (P0_ : Nat → Prop) (u9000_ : Value) (l0 : List (S46)) (a1 : Int) (r1 : Int) (r2 : List (S46)) (w0 w : World) (hB : Below w0.heap.size w0 w) (ho0 : Kd.R k46 46 w w0.heap.size P0_ u9000_ l0) (h : laws_markQuadS.f k l0 a1 = some (r1, r2)) :
  Calls Try.prog 19 #[u9000_, .int .i64 a1] w fun e w' => e = .returned (.int .i64 r1) ∧ Kd.R k46 46 w' w0.heap.size (fun k_ => (P0_ k_ ∨ w.heap.size ≤ k_)) u9000_ r2 ∧ Below w0.heap.size w0 w' ∧ Kept w w' (fun k_ => P0_ k_) := by
 have HO0 := Aside0.mk (show Kd.R k46 46 w w0.heap.size (fun k_ => (P0_ k_ ∨ w.heap.size ≤ k_)) u9000_ l0 from Kd.R_mono ho0 (fun k_ hk => (.inl hk)))
 have HK := Aside0.mk (Kept.refl w (fun k_ => P0_ k_))
 have HW0 := Aside0.mk hB.size
 have HB := Aside0.mk hB
 clear hB
 have H : (laws_markQuadS.l0 k l0 a1 0) = some (r1, r2) := h
 clear h
 have H' := Aside0.mk H
 clear H
 go_enter Try.func19, Try.ntmps19
 go_wp2
 go_loopg [1, 5] k (fun kq v1 v5 w' => ∃ (x0_1 : List (S46)) (x1_1 : Int) (x5_1 : Int), v1 = .int .i64 x1_1 ∧ v5 = .int .i64 x5_1 ∧ Aside0 (laws_markQuadS.l0 kq x0_1 x1_1 x5_1 = some (r1, r2)) ∧ Aside0 (kq ≤ k) ∧ Aside0 (Kd.R k46 46 w' w0.heap.size (fun k_ => (P0_ k_ ∨ w.heap.size ≤ k_)) u9000_ x0_1) ∧ Aside0 (Kept w w' (fun k_ => P0_ k_)) ∧ Aside0 (Below w0.heap.size w0 w'))
 case atStart => exact ⟨(l0), (a1), (0), qZ, qZ, H', ⟨Nat.le_refl _⟩, ⟨qR HO0⟩, ⟨qT⟩, ⟨qB⟩⟩
 case round =>
  clear H'
  try clear c1; try clear p2
  obtain ⟨x0_1, x1_1, x5_1, rfl, rfl, HA, HK1, HO_0, HK, HB⟩ := hrel
  cases gk with
  | zero => exact absurd HA.out (by simp [laws_markQuadS.l0])
  | succ k1 =>
   have H := HA.out
   clear HA
   simp only [laws_markQuadS.l0] at H
   by_cases c3 : x5_1 < (x0_1.length : Int)
   ·rw [if_pos c3] at H
    have c3b0 := decide_eq_true c3
    clear c3
    by_cases c4 : 0 ≤ x5_1
    ·rw [if_pos c4] at H
     have c4b0 := decide_eq_true c4
     clear c4
     obtain ⟨y393, hy393⟩ : ∃ y_ : List (S46), y_ = (x0_1.set (x5_1 : Int).toNat (⟨x1_1, (rd_T46 x0_1 x5_1).f1, (rd_T46 x0_1 x5_1).f2, (rd_T46 x0_1 x5_1).f3, (rd_T46 x0_1 x5_1).f4⟩ : S46)) := ⟨_, rfl⟩
     replace H : ((some (y393.set (x5_1 : Int).toNat (⟨(rd_T46 y393 x5_1).f0, wrap64 (x1_1 + 1), (rd_T46 y393 x5_1).f2, (rd_T46 y393 x5_1).f3, (rd_T46 y393 x5_1).f4⟩ : S46) : List (S46))).bind fun y394 => ((some (y394.set (x5_1 : Int).toNat (⟨(rd_T46 y394 x5_1).f0, (rd_T46 y394 x5_1).f1, wrap64 ((wrap64 (x1_1 + 1)) + 1), (rd_T46 y394 x5_1).f3, (rd_T46 y394 x5_1).f4⟩ : S46) : List (S46))).bind fun y395 => ((some (y395.set (x5_1 : Int).toNat (⟨(rd_T46 y395 x5_1).f0, (rd_T46 y395 x5_1).f1, (rd_T46 y395 x5_1).f2, wrap64 ((wrap64 ((wrap64 (x1_1 + 1)) + 1)) + 1), (rd_T46 y395 x5_1).f4⟩ : S46) : List (S46))).bind fun y396 => (laws_markQuadS.l0 k1 (y396.set (x5_1 : Int).toNat (⟨(rd_T46 y396 x5_1).f0, (rd_T46 y396 x5_1).f1, (rd_T46 y396 x5_1).f2, (rd_T46 y396 x5_1).f3, wrap64 ((wrap64 ((wrap64 ((wrap64 (x1_1 + 1)) + 1)) + 1)) + 1)⟩ : S46)) (wrap64 ((wrap64 ((wrap64 ((wrap64 ((wrap64 (x1_1 + 1)) + 1)) + 1)) + 1)) + 1)) (wrap64 (x5_1 + 1)))))) = some (r1, r2) := by first | (rw [hy393]; with_reducible exact H) | (have H2_ := (Option.bind_some _ _).symm.trans H; rw [hy393]; with_reducible exact H2_) | (have H2_ := (Option.bind_some _ _).symm.trans H; with_reducible exact H2_) | with_reducible exact H | (rw [hy393]; exact H) | exact H
     have Ny393 := Aside0.mk hy393
     clear hy393
     obtain ⟨y394, hy394⟩ : ∃ y_ : List (S46), y_ = (y393.set (x5_1 : Int).toNat (⟨(rd_T46 y393 x5_1).f0, wrap64 (x1_1 + 1), (rd_T46 y393 x5_1).f2, (rd_T46 y393 x5_1).f3, (rd_T46 y393 x5_1).f4⟩ : S46)) := ⟨_, rfl⟩
     replace H : ((some (y394.set (x5_1 : Int).toNat (⟨(rd_T46 y394 x5_1).f0, (rd_T46 y394 x5_1).f1, wrap64 ((wrap64 (x1_1 + 1)) + 1), (rd_T46 y394 x5_1).f3, (rd_T46 y394 x5_1).f4⟩ : S46) : List (S46))).bind fun y395 => ((some (y395.set (x5_1 : Int).toNat (⟨(rd_T46 y395 x5_1).f0, (rd_T46 y395 x5_1).f1, (rd_T46 y395 x5_1).f2, wrap64 ((wrap64 ((wrap64 (x1_1 + 1)) + 1)) + 1), (rd_T46 y395 x5_1).f4⟩ : S46) : List (S46))).bind fun y396 => (laws_markQuadS.l0 k1 (y396.set (x5_1 : Int).toNat (⟨(rd_T46 y396 x5_1).f0, (rd_T46 y396 x5_1).f1, (rd_T46 y396 x5_1).f2, (rd_T46 y396 x5_1).f3, wrap64 ((wrap64 ((wrap64 ((wrap64 (x1_1 + 1)) + 1)) + 1)) + 1)⟩ : S46)) (wrap64 ((wrap64 ((wrap64 ((wrap64 ((wrap64 (x1_1 + 1)) + 1)) + 1)) + 1)) + 1)) (wrap64 (x5_1 + 1))))) = some (r1, r2) := by first | (rw [hy394]; with_reducible exact H) | (have H2_ := (Option.bind_some _ _).symm.trans H; rw [hy394]; with_reducible exact H2_) | (have H2_ := (Option.bind_some _ _).symm.trans H; with_reducible exact H2_) | with_reducible exact H | (rw [hy394]; exact H) | exact H
     have Ny394 := Aside0.mk hy394
     clear hy394
     obtain ⟨y395, hy395⟩ : ∃ y_ : List (S46), y_ = (y394.set (x5_1 : Int).toNat (⟨(rd_T46 y394 x5_1).f0, (rd_T46 y394 x5_1).f1, wrap64 ((wrap64 (x1_1 + 1)) + 1), (rd_T46 y394 x5_1).f3, (rd_T46 y394 x5_1).f4⟩ : S46)) := ⟨_, rfl⟩
     replace H : ((some (y395.set (x5_1 : Int).toNat (⟨(rd_T46 y395 x5_1).f0, (rd_T46 y395 x5_1).f1, (rd_T46 y395 x5_1).f2, wrap64 ((wrap64 ((wrap64 (x1_1 + 1)) + 1)) + 1), (rd_T46 y395 x5_1).f4⟩ : S46) : List (S46))).bind fun y396 => (laws_markQuadS.l0 k1 (y396.set (x5_1 : Int).toNat (⟨(rd_T46 y396 x5_1).f0, (rd_T46 y396 x5_1).f1, (rd_T46 y396 x5_1).f2, (rd_T46 y396 x5_1).f3, wrap64 ((wrap64 ((wrap64 ((wrap64 (x1_1 + 1)) + 1)) + 1)) + 1)⟩ : S46)) (wrap64 ((wrap64 ((wrap64 ((wrap64 ((wrap64 (x1_1 + 1)) + 1)) + 1)) + 1)) + 1)) (wrap64 (x5_1 + 1)))) = some (r1, r2) := by first | (rw [hy395]; with_reducible exact H) | (have H2_ := (Option.bind_some _ _).symm.trans H; rw [hy395]; with_reducible exact H2_) | (have H2_ := (Option.bind_some _ _).symm.trans H; with_reducible exact H2_) | with_reducible exact H | (rw [hy395]; exact H) | exact H
     have Ny395 := Aside0.mk hy395
     clear hy395
     obtain ⟨y396, hy396⟩ : ∃ y_ : List (S46), y_ = (y395.set (x5_1 : Int).toNat (⟨(rd_T46 y395 x5_1).f0, (rd_T46 y395 x5_1).f1, (rd_T46 y395 x5_1).f2, wrap64 ((wrap64 ((wrap64 (x1_1 + 1)) + 1)) + 1), (rd_T46 y395 x5_1).f4⟩ : S46)) := ⟨_, rfl⟩
     replace H : (laws_markQuadS.l0 k1 (y396.set (x5_1 : Int).toNat (⟨(rd_T46 y396 x5_1).f0, (rd_T46 y396 x5_1).f1, (rd_T46 y396 x5_1).f2, (rd_T46 y396 x5_1).f3, wrap64 ((wrap64 ((wrap64 ((wrap64 (x1_1 + 1)) + 1)) + 1)) + 1)⟩ : S46)) (wrap64 ((wrap64 ((wrap64 ((wrap64 ((wrap64 (x1_1 + 1)) + 1)) + 1)) + 1)) + 1)) (wrap64 (x5_1 + 1))) = some (r1, r2) := by first | (rw [hy396]; with_reducible exact H) | (have H2_ := (Option.bind_some _ _).symm.trans H; rw [hy396]; with_reducible exact H2_) | (have H2_ := (Option.bind_some _ _).symm.trans H; with_reducible exact H2_) | with_reducible exact H | (rw [hy396]; exact H) | exact H
     have Ny396 := Aside0.mk hy396
     clear hy396
     obtain ⟨y397, hy397⟩ : ∃ y_ : List (S46), y_ = (y396.set (x5_1 : Int).toNat (⟨(rd_T46 y396 x5_1).f0, (rd_T46 y396 x5_1).f1, (rd_T46 y396 x5_1).f2, (rd_T46 y396 x5_1).f3, wrap64 ((wrap64 ((wrap64 ((wrap64 (x1_1 + 1)) + 1)) + 1)) + 1)⟩ : S46)) := ⟨_, rfl⟩
     replace H : (laws_markQuadS.l0 k1 y397 (wrap64 ((wrap64 ((wrap64 ((wrap64 ((wrap64 (x1_1 + 1)) + 1)) + 1)) + 1)) + 1)) (wrap64 (x5_1 + 1))) = some (r1, r2) := by first | (rw [hy397]; with_reducible exact H) | (have H2_ := (Option.bind_some _ _).symm.trans H; rw [hy397]; with_reducible exact H2_) | (have H2_ := (Option.bind_some _ _).symm.trans H; with_reducible exact H2_) | with_reducible exact H | (rw [hy397]; exact H) | exact H
     have Ny397 := Aside0.mk hy397
     clear hy397
     have H' := Aside0.mk H
     clear H
     obtain ⟨Ao10, co10, eo10⟩ := Kd.R_slice HO_0.out
     subst eo10
     have p5 : 0 ≤ (x5_1 : Int) := qD
     have q5 : (x5_1 : Int) < ((x0_1.length : Int) : Int) := qD
     obtain ⟨go5, co5, eo5, gb5, gl5, cl5, HG5⟩ := Kd.R_form HO_0.out (by omega)
     (first | cases eo5 | (injection eo5 with ea_ en_ ec_; (first | subst ea_ | (injection ea_ with ea_; subst ea_)); subst ec_; clear en_))
     have GB5 := Aside0.mk gb5
     have GG5 := Aside0.mk HG5
     clear gb5 gl5 HG5
     have HMgo5 := Aside0.mk (show (P0_ go5 ∨ w.heap.size ≤ go5) from (HO_0.out.1 _ rfl))
     obtain ⟨ce5, hcl5, hM5, hcc5, hfr5⟩ := Kd.R_elem HO_0.out z46 (x5_1 : Int) p5 q5
     obtain rfl := k46_openM hM5
     have hx5_0 : wr.cell? ⟨go5, (x5_1 : Int).toNat * 5, none⟩ = some (.int .i64 ((rd_T46 x0_1 x5_1).f0)) := hcc5 0 _ rfl
     have hx5_1 : wr.cell? ⟨go5, (x5_1 : Int).toNat * 5 + 1, none⟩ = some (.int .i64 ((rd_T46 x0_1 x5_1).f1)) := hcc5 1 _ rfl
     have hx5_2 : wr.cell? ⟨go5, (x5_1 : Int).toNat * 5 + 2, none⟩ = some (.int .i64 ((rd_T46 x0_1 x5_1).f2)) := hcc5 2 _ rfl
     have hx5_3 : wr.cell? ⟨go5, (x5_1 : Int).toNat * 5 + 3, none⟩ = some (.int .i64 ((rd_T46 x0_1 x5_1).f3)) := hcc5 3 _ rfl
     have hx5_4 : wr.cell? ⟨go5, (x5_1 : Int).toNat * 5 + 4, none⟩ = some (.int .i64 ((rd_T46 x0_1 x5_1).f4)) := hcc5 4 _ rfl
     have hf5_0 : wr.frozen? ⟨go5, (x5_1 : Int).toNat * 5, none⟩ = false := hfr5 0
     have hf5_1 : wr.frozen? ⟨go5, (x5_1 : Int).toNat * 5 + 1, none⟩ = false := hfr5 1
     have hf5_2 : wr.frozen? ⟨go5, (x5_1 : Int).toNat * 5 + 2, none⟩ = false := hfr5 2
     have hf5_3 : wr.frozen? ⟨go5, (x5_1 : Int).toNat * 5 + 3, none⟩ = false := hfr5 3
     have hf5_4 : wr.frozen? ⟨go5, (x5_1 : Int).toNat * 5 + 4, none⟩ = false := hfr5 4
     clear hcl5 hcc5 hfr5 hM5
     replace p5 := eq_true p5
     replace q5 := eq_true q5
     have HX11 := Aside0.mk (show Kd.R k46 46 wr w0.heap.size (fun k_ => (P0_ k_ ∨ w.heap.size ≤ k_)) (.slice (some ⟨go5, 0, none⟩) x0_1.length co10) x0_1 from (qR HO_0))
     obtain ⟨ce11, hcl11, hM11, hcc11, hfr11⟩ := Kd.R_elem HX11.out z46 (x5_1 : Int) (qD) (by have h_ : (x5_1 : Int) < ((x0_1.length : Int) : Int) := qD; first | exact h_ | (have e_ := (Kd.R_reads' HO_0.out).1; omega) | simpa using h_)
     obtain rfl := k46_openM hM11
     have HP11 := Kd.R_seg HX11.out (x5_1 : Int) (qD) (by have h_ : (x5_1 : Int) < ((x0_1.length : Int) : Int) := qD; first | exact h_ | (have e_ := (Kd.R_reads' HO_0.out).1; omega) | simpa using h_) (seg := [.int .i64 x1_1]) (j := 0) hcl11 hcc11 (show 1 ≤ 5 from by decide) (x' := (⟨x1_1, (rd_T46 x0_1 x5_1).f1, (rd_T46 x0_1 x5_1).f2, (rd_T46 x0_1 x5_1).f3, (rd_T46 x0_1 x5_1).f4⟩ : S46)) (k46_mkM _ _ _ (⟨x1_1, (rd_T46 x0_1 x5_1).f1, (rd_T46 x0_1 x5_1).f2, (rd_T46 x0_1 x5_1).f3, (rd_T46 x0_1 x5_1).f4⟩ : S46) ) (fun _ hk => hk)
     have hx11_0 := hcc11 0 _ rfl
     (try simp only [show (k46).sz = 5 from rfl, Nat.mul_one, Nat.add_zero] at hx11_0)
     have hf11_0 := hfr11 0
     (try simp only [show (k46).sz = 5 from rfl, Nat.mul_one, Nat.add_zero] at hf11_0)
     clear hcl11 hcc11 hfr11 hM11
     go_wp2_with (first | ((with_reducible refine gate_store (t := 3) (p := 16) rfl ?_); refine store_event (t := 3) (p := 16) (v := ?vo_w12) (w1 := (wr.setCell ⟨go5, (x5_1 : Int).toNat * 5, none⟩ (.int .i64 x1_1))) ?hg ?ho ?hn ?hr ?_; (case ho => rfl); (case hg => rfl); (case hn => rfl); (case hr => first | (go_simp; done) | (go_simp; rfl)); intro w12 hw; have hg : wr.grownBy w12 (some go5) := (by rw [hw]; exact HP11.2); have hp_ : Kd.R k46 46 w12 w0.heap.size (fun k_ => (P0_ k_ ∨ w.heap.size ≤ k_)) (.slice (some ⟨go5, 0, none⟩) x0_1.length co10) y393 := (by rw [hw, Ny393.out]; exact HP11.1); clear HP11; have n0_ := Aside0.mk (hp_); have n1_ := Aside0.mk ((by rw [hw]; exact below_set (HB.out) GB5.out : Below w0.heap.size w0 w12)); have n2_ := Aside0.mk (Kept.of_grown (S := (fun k_ => P0_ k_)) hg qT (fun k_ e_ => (HO_0.out.1 k_ e_))); clear HO_0; clear HB; clear HK; have HO_0 := n0_; have HB := n1_; have HK := n2_; clear n0_ n1_ n2_; clear hg hw hp_; have p6 : 0 ≤ (x5_1 : Int) := qD; have q6 : (x5_1 : Int) < ((x0_1.length : Int) : Int) := qD; obtain ⟨ce6, hcl6, hM6, hcc6, hfr6⟩ := Kd.R_elem HO_0.out z46 (x5_1 : Int) p6 q6; obtain rfl := k46_openM hM6; have hx6_0 : w12.cell? ⟨go5, (x5_1 : Int).toNat * 5, none⟩ = some (.int .i64 ((rd_T46 y393 x5_1).f0)) := hcc6 0 _ rfl; have hx6_1 : w12.cell? ⟨go5, (x5_1 : Int).toNat * 5 + 1, none⟩ = some (.int .i64 ((rd_T46 y393 x5_1).f1)) := hcc6 1 _ rfl; have hx6_2 : w12.cell? ⟨go5, (x5_1 : Int).toNat * 5 + 2, none⟩ = some (.int .i64 ((rd_T46 y393 x5_1).f2)) := hcc6 2 _ rfl; have hx6_3 : w12.cell? ⟨go5, (x5_1 : Int).toNat * 5 + 3, none⟩ = some (.int .i64 ((rd_T46 y393 x5_1).f3)) := hcc6 3 _ rfl; have hx6_4 : w12.cell? ⟨go5, (x5_1 : Int).toNat * 5 + 4, none⟩ = some (.int .i64 ((rd_T46 y393 x5_1).f4)) := hcc6 4 _ rfl; have hf6_0 : w12.frozen? ⟨go5, (x5_1 : Int).toNat * 5, none⟩ = false := hfr6 0; have hf6_1 : w12.frozen? ⟨go5, (x5_1 : Int).toNat * 5 + 1, none⟩ = false := hfr6 1; have hf6_2 : w12.frozen? ⟨go5, (x5_1 : Int).toNat * 5 + 2, none⟩ = false := hfr6 2; have hf6_3 : w12.frozen? ⟨go5, (x5_1 : Int).toNat * 5 + 3, none⟩ = false := hfr6 3; have hf6_4 : w12.frozen? ⟨go5, (x5_1 : Int).toNat * 5 + 4, none⟩ = false := hfr6 4; clear hcl6 hcc6 hfr6 hM6; replace p6 := eq_true p6; replace q6 := eq_true q6; have HX13 := Aside0.mk (show Kd.R k46 46 w12 w0.heap.size (fun k_ => (P0_ k_ ∨ w.heap.size ≤ k_)) (.slice (some ⟨go5, 0, none⟩) x0_1.length co10) y393 from (qR HO_0)); obtain ⟨ce13, hcl13, hM13, hcc13, hfr13⟩ := Kd.R_elem HX13.out z46 (x5_1 : Int) (qD) (by have h_ : (x5_1 : Int) < ((x0_1.length : Int) : Int) := qD; first | exact h_ | (have e_ := (Kd.R_reads' HO_0.out).1; omega) | simpa using h_); obtain rfl := k46_openM hM13; have HP13 := Kd.R_seg HX13.out (x5_1 : Int) (qD) (by have h_ : (x5_1 : Int) < ((x0_1.length : Int) : Int) := qD; first | exact h_ | (have e_ := (Kd.R_reads' HO_0.out).1; omega) | simpa using h_) (seg := [.int .i64 (wrap64 (x1_1 + 1))]) (j := 1) hcl13 hcc13 (show 2 ≤ 5 from by decide) (x' := (⟨(rd_T46 y393 x5_1).f0, wrap64 (x1_1 + 1), (rd_T46 y393 x5_1).f2, (rd_T46 y393 x5_1).f3, (rd_T46 y393 x5_1).f4⟩ : S46)) (k46_mkM _ _ _ (⟨(rd_T46 y393 x5_1).f0, wrap64 (x1_1 + 1), (rd_T46 y393 x5_1).f2, (rd_T46 y393 x5_1).f3, (rd_T46 y393 x5_1).f4⟩ : S46) ) (fun _ hk => hk); have hx13_1 := hcc13 1 _ rfl; (try simp only [show (k46).sz = 5 from rfl, Nat.mul_one, Nat.add_zero] at hx13_1); have hf13_1 := hfr13 1; (try simp only [show (k46).sz = 5 from rfl, Nat.mul_one, Nat.add_zero] at hf13_1); clear hcl13 hcc13 hfr13 hM13) | ((with_reducible refine gate_store (t := 3) (p := 23) rfl ?_); refine store_event (t := 3) (p := 23) (v := ?vo_w14) (w1 := (w12.setCell ⟨go5, (x5_1 : Int).toNat * 5 + 1, none⟩ (.int .i64 (wrap64 (x1_1 + 1))))) ?hg ?ho ?hn ?hr ?_; (case ho => rfl); (case hg => rfl); (case hn => rfl); (case hr => first | (go_simp; done) | (go_simp; rfl)); intro w14 hw; have hg : w12.grownBy w14 (some go5) := (by rw [hw]; exact HP13.2); have hp_ : Kd.R k46 46 w14 w0.heap.size (fun k_ => (P0_ k_ ∨ w.heap.size ≤ k_)) (.slice (some ⟨go5, 0, none⟩) x0_1.length co10) y394 := (by rw [hw, Ny394.out]; exact HP13.1); clear HP13; have n0_ := Aside0.mk (hp_); have n1_ := Aside0.mk ((by rw [hw]; exact below_set (HB.out) GB5.out : Below w0.heap.size w0 w14)); have n2_ := Aside0.mk (Kept.of_grown (S := (fun k_ => P0_ k_)) hg qT (fun k_ e_ => (HO_0.out.1 k_ e_))); clear HO_0; clear HB; clear HK; have HO_0 := n0_; have HB := n1_; have HK := n2_; clear n0_ n1_ n2_; clear hg hw hp_; have p7 : 0 ≤ (x5_1 : Int) := qD; have q7 : (x5_1 : Int) < ((x0_1.length : Int) : Int) := qD; obtain ⟨ce7, hcl7, hM7, hcc7, hfr7⟩ := Kd.R_elem HO_0.out z46 (x5_1 : Int) p7 q7; obtain rfl := k46_openM hM7; have hx7_0 : w14.cell? ⟨go5, (x5_1 : Int).toNat * 5, none⟩ = some (.int .i64 ((rd_T46 y394 x5_1).f0)) := hcc7 0 _ rfl; have hx7_1 : w14.cell? ⟨go5, (x5_1 : Int).toNat * 5 + 1, none⟩ = some (.int .i64 ((rd_T46 y394 x5_1).f1)) := hcc7 1 _ rfl; have hx7_2 : w14.cell? ⟨go5, (x5_1 : Int).toNat * 5 + 2, none⟩ = some (.int .i64 ((rd_T46 y394 x5_1).f2)) := hcc7 2 _ rfl; have hx7_3 : w14.cell? ⟨go5, (x5_1 : Int).toNat * 5 + 3, none⟩ = some (.int .i64 ((rd_T46 y394 x5_1).f3)) := hcc7 3 _ rfl; have hx7_4 : w14.cell? ⟨go5, (x5_1 : Int).toNat * 5 + 4, none⟩ = some (.int .i64 ((rd_T46 y394 x5_1).f4)) := hcc7 4 _ rfl; have hf7_0 : w14.frozen? ⟨go5, (x5_1 : Int).toNat * 5, none⟩ = false := hfr7 0; have hf7_1 : w14.frozen? ⟨go5, (x5_1 : Int).toNat * 5 + 1, none⟩ = false := hfr7 1; have hf7_2 : w14.frozen? ⟨go5, (x5_1 : Int).toNat * 5 + 2, none⟩ = false := hfr7 2; have hf7_3 : w14.frozen? ⟨go5, (x5_1 : Int).toNat * 5 + 3, none⟩ = false := hfr7 3; have hf7_4 : w14.frozen? ⟨go5, (x5_1 : Int).toNat * 5 + 4, none⟩ = false := hfr7 4; clear hcl7 hcc7 hfr7 hM7; replace p7 := eq_true p7; replace q7 := eq_true q7; have HX15 := Aside0.mk (show Kd.R k46 46 w14 w0.heap.size (fun k_ => (P0_ k_ ∨ w.heap.size ≤ k_)) (.slice (some ⟨go5, 0, none⟩) x0_1.length co10) y394 from (qR HO_0)); obtain ⟨ce15, hcl15, hM15, hcc15, hfr15⟩ := Kd.R_elem HX15.out z46 (x5_1 : Int) (qD) (by have h_ : (x5_1 : Int) < ((x0_1.length : Int) : Int) := qD; first | exact h_ | (have e_ := (Kd.R_reads' HO_0.out).1; omega) | simpa using h_); obtain rfl := k46_openM hM15; have HP15 := Kd.R_seg HX15.out (x5_1 : Int) (qD) (by have h_ : (x5_1 : Int) < ((x0_1.length : Int) : Int) := qD; first | exact h_ | (have e_ := (Kd.R_reads' HO_0.out).1; omega) | simpa using h_) (seg := [.int .i64 (wrap64 ((wrap64 (x1_1 + 1)) + 1))]) (j := 2) hcl15 hcc15 (show 3 ≤ 5 from by decide) (x' := (⟨(rd_T46 y394 x5_1).f0, (rd_T46 y394 x5_1).f1, wrap64 ((wrap64 (x1_1 + 1)) + 1), (rd_T46 y394 x5_1).f3, (rd_T46 y394 x5_1).f4⟩ : S46)) (k46_mkM _ _ _ (⟨(rd_T46 y394 x5_1).f0, (rd_T46 y394 x5_1).f1, wrap64 ((wrap64 (x1_1 + 1)) + 1), (rd_T46 y394 x5_1).f3, (rd_T46 y394 x5_1).f4⟩ : S46) ) (fun _ hk => hk); have hx15_2 := hcc15 2 _ rfl; (try simp only [show (k46).sz = 5 from rfl, Nat.mul_one, Nat.add_zero] at hx15_2); have hf15_2 := hfr15 2; (try simp only [show (k46).sz = 5 from rfl, Nat.mul_one, Nat.add_zero] at hf15_2); clear hcl15 hcc15 hfr15 hM15) | ((with_reducible refine gate_store (t := 3) (p := 30) rfl ?_); refine store_event (t := 3) (p := 30) (v := ?vo_w16) (w1 := (w14.setCell ⟨go5, (x5_1 : Int).toNat * 5 + 2, none⟩ (.int .i64 (wrap64 ((wrap64 (x1_1 + 1)) + 1))))) ?hg ?ho ?hn ?hr ?_; (case ho => rfl); (case hg => rfl); (case hn => rfl); (case hr => first | (go_simp; done) | (go_simp; rfl)); intro w16 hw; have hg : w14.grownBy w16 (some go5) := (by rw [hw]; exact HP15.2); have hp_ : Kd.R k46 46 w16 w0.heap.size (fun k_ => (P0_ k_ ∨ w.heap.size ≤ k_)) (.slice (some ⟨go5, 0, none⟩) x0_1.length co10) y395 := (by rw [hw, Ny395.out]; exact HP15.1); clear HP15; have n0_ := Aside0.mk (hp_); have n1_ := Aside0.mk ((by rw [hw]; exact below_set (HB.out) GB5.out : Below w0.heap.size w0 w16)); have n2_ := Aside0.mk (Kept.of_grown (S := (fun k_ => P0_ k_)) hg qT (fun k_ e_ => (HO_0.out.1 k_ e_))); clear HO_0; clear HB; clear HK; have HO_0 := n0_; have HB := n1_; have HK := n2_; clear n0_ n1_ n2_; clear hg hw hp_; have p8 : 0 ≤ (x5_1 : Int) := qD; have q8 : (x5_1 : Int) < ((x0_1.length : Int) : Int) := qD; obtain ⟨ce8, hcl8, hM8, hcc8, hfr8⟩ := Kd.R_elem HO_0.out z46 (x5_1 : Int) p8 q8; obtain rfl := k46_openM hM8; have hx8_0 : w16.cell? ⟨go5, (x5_1 : Int).toNat * 5, none⟩ = some (.int .i64 ((rd_T46 y395 x5_1).f0)) := hcc8 0 _ rfl; have hx8_1 : w16.cell? ⟨go5, (x5_1 : Int).toNat * 5 + 1, none⟩ = some (.int .i64 ((rd_T46 y395 x5_1).f1)) := hcc8 1 _ rfl; have hx8_2 : w16.cell? ⟨go5, (x5_1 : Int).toNat * 5 + 2, none⟩ = some (.int .i64 ((rd_T46 y395 x5_1).f2)) := hcc8 2 _ rfl; have hx8_3 : w16.cell? ⟨go5, (x5_1 : Int).toNat * 5 + 3, none⟩ = some (.int .i64 ((rd_T46 y395 x5_1).f3)) := hcc8 3 _ rfl; have hx8_4 : w16.cell? ⟨go5, (x5_1 : Int).toNat * 5 + 4, none⟩ = some (.int .i64 ((rd_T46 y395 x5_1).f4)) := hcc8 4 _ rfl; have hf8_0 : w16.frozen? ⟨go5, (x5_1 : Int).toNat * 5, none⟩ = false := hfr8 0; have hf8_1 : w16.frozen? ⟨go5, (x5_1 : Int).toNat * 5 + 1, none⟩ = false := hfr8 1; have hf8_2 : w16.frozen? ⟨go5, (x5_1 : Int).toNat * 5 + 2, none⟩ = false := hfr8 2; have hf8_3 : w16.frozen? ⟨go5, (x5_1 : Int).toNat * 5 + 3, none⟩ = false := hfr8 3; have hf8_4 : w16.frozen? ⟨go5, (x5_1 : Int).toNat * 5 + 4, none⟩ = false := hfr8 4; clear hcl8 hcc8 hfr8 hM8; replace p8 := eq_true p8; replace q8 := eq_true q8; have HX17 := Aside0.mk (show Kd.R k46 46 w16 w0.heap.size (fun k_ => (P0_ k_ ∨ w.heap.size ≤ k_)) (.slice (some ⟨go5, 0, none⟩) x0_1.length co10) y395 from (qR HO_0)); obtain ⟨ce17, hcl17, hM17, hcc17, hfr17⟩ := Kd.R_elem HX17.out z46 (x5_1 : Int) (qD) (by have h_ : (x5_1 : Int) < ((x0_1.length : Int) : Int) := qD; first | exact h_ | (have e_ := (Kd.R_reads' HO_0.out).1; omega) | simpa using h_); obtain rfl := k46_openM hM17; have HP17 := Kd.R_seg HX17.out (x5_1 : Int) (qD) (by have h_ : (x5_1 : Int) < ((x0_1.length : Int) : Int) := qD; first | exact h_ | (have e_ := (Kd.R_reads' HO_0.out).1; omega) | simpa using h_) (seg := [.int .i64 (wrap64 ((wrap64 ((wrap64 (x1_1 + 1)) + 1)) + 1))]) (j := 3) hcl17 hcc17 (show 4 ≤ 5 from by decide) (x' := (⟨(rd_T46 y395 x5_1).f0, (rd_T46 y395 x5_1).f1, (rd_T46 y395 x5_1).f2, wrap64 ((wrap64 ((wrap64 (x1_1 + 1)) + 1)) + 1), (rd_T46 y395 x5_1).f4⟩ : S46)) (k46_mkM _ _ _ (⟨(rd_T46 y395 x5_1).f0, (rd_T46 y395 x5_1).f1, (rd_T46 y395 x5_1).f2, wrap64 ((wrap64 ((wrap64 (x1_1 + 1)) + 1)) + 1), (rd_T46 y395 x5_1).f4⟩ : S46) ) (fun _ hk => hk); have hx17_3 := hcc17 3 _ rfl; (try simp only [show (k46).sz = 5 from rfl, Nat.mul_one, Nat.add_zero] at hx17_3); have hf17_3 := hfr17 3; (try simp only [show (k46).sz = 5 from rfl, Nat.mul_one, Nat.add_zero] at hf17_3); clear hcl17 hcc17 hfr17 hM17) | ((with_reducible refine gate_store (t := 3) (p := 37) rfl ?_); refine store_event (t := 3) (p := 37) (v := ?vo_w18) (w1 := (w16.setCell ⟨go5, (x5_1 : Int).toNat * 5 + 3, none⟩ (.int .i64 (wrap64 ((wrap64 ((wrap64 (x1_1 + 1)) + 1)) + 1))))) ?hg ?ho ?hn ?hr ?_; (case ho => rfl); (case hg => rfl); (case hn => rfl); (case hr => first | (go_simp; done) | (go_simp; rfl)); intro w18 hw; have hg : w16.grownBy w18 (some go5) := (by rw [hw]; exact HP17.2); have hp_ : Kd.R k46 46 w18 w0.heap.size (fun k_ => (P0_ k_ ∨ w.heap.size ≤ k_)) (.slice (some ⟨go5, 0, none⟩) x0_1.length co10) y396 := (by rw [hw, Ny396.out]; exact HP17.1); clear HP17; have n0_ := Aside0.mk (hp_); have n1_ := Aside0.mk ((by rw [hw]; exact below_set (HB.out) GB5.out : Below w0.heap.size w0 w18)); have n2_ := Aside0.mk (Kept.of_grown (S := (fun k_ => P0_ k_)) hg qT (fun k_ e_ => (HO_0.out.1 k_ e_))); clear HO_0; clear HB; clear HK; have HO_0 := n0_; have HB := n1_; have HK := n2_; clear n0_ n1_ n2_; clear hg hw hp_; have p9 : 0 ≤ (x5_1 : Int) := qD; have q9 : (x5_1 : Int) < ((x0_1.length : Int) : Int) := qD; obtain ⟨ce9, hcl9, hM9, hcc9, hfr9⟩ := Kd.R_elem HO_0.out z46 (x5_1 : Int) p9 q9; obtain rfl := k46_openM hM9; have hx9_0 : w18.cell? ⟨go5, (x5_1 : Int).toNat * 5, none⟩ = some (.int .i64 ((rd_T46 y396 x5_1).f0)) := hcc9 0 _ rfl; have hx9_1 : w18.cell? ⟨go5, (x5_1 : Int).toNat * 5 + 1, none⟩ = some (.int .i64 ((rd_T46 y396 x5_1).f1)) := hcc9 1 _ rfl; have hx9_2 : w18.cell? ⟨go5, (x5_1 : Int).toNat * 5 + 2, none⟩ = some (.int .i64 ((rd_T46 y396 x5_1).f2)) := hcc9 2 _ rfl; have hx9_3 : w18.cell? ⟨go5, (x5_1 : Int).toNat * 5 + 3, none⟩ = some (.int .i64 ((rd_T46 y396 x5_1).f3)) := hcc9 3 _ rfl; have hx9_4 : w18.cell? ⟨go5, (x5_1 : Int).toNat * 5 + 4, none⟩ = some (.int .i64 ((rd_T46 y396 x5_1).f4)) := hcc9 4 _ rfl; have hf9_0 : w18.frozen? ⟨go5, (x5_1 : Int).toNat * 5, none⟩ = false := hfr9 0; have hf9_1 : w18.frozen? ⟨go5, (x5_1 : Int).toNat * 5 + 1, none⟩ = false := hfr9 1; have hf9_2 : w18.frozen? ⟨go5, (x5_1 : Int).toNat * 5 + 2, none⟩ = false := hfr9 2; have hf9_3 : w18.frozen? ⟨go5, (x5_1 : Int).toNat * 5 + 3, none⟩ = false := hfr9 3; have hf9_4 : w18.frozen? ⟨go5, (x5_1 : Int).toNat * 5 + 4, none⟩ = false := hfr9 4; clear hcl9 hcc9 hfr9 hM9; replace p9 := eq_true p9; replace q9 := eq_true q9; have HX19 := Aside0.mk (show Kd.R k46 46 w18 w0.heap.size (fun k_ => (P0_ k_ ∨ w.heap.size ≤ k_)) (.slice (some ⟨go5, 0, none⟩) x0_1.length co10) y396 from (qR HO_0)); obtain ⟨ce19, hcl19, hM19, hcc19, hfr19⟩ := Kd.R_elem HX19.out z46 (x5_1 : Int) (qD) (by have h_ : (x5_1 : Int) < ((x0_1.length : Int) : Int) := qD; first | exact h_ | (have e_ := (Kd.R_reads' HO_0.out).1; omega) | simpa using h_); obtain rfl := k46_openM hM19; have HP19 := Kd.R_seg HX19.out (x5_1 : Int) (qD) (by have h_ : (x5_1 : Int) < ((x0_1.length : Int) : Int) := qD; first | exact h_ | (have e_ := (Kd.R_reads' HO_0.out).1; omega) | simpa using h_) (seg := [.int .i64 (wrap64 ((wrap64 ((wrap64 ((wrap64 (x1_1 + 1)) + 1)) + 1)) + 1))]) (j := 4) hcl19 hcc19 (show 5 ≤ 5 from by decide) (x' := (⟨(rd_T46 y396 x5_1).f0, (rd_T46 y396 x5_1).f1, (rd_T46 y396 x5_1).f2, (rd_T46 y396 x5_1).f3, wrap64 ((wrap64 ((wrap64 ((wrap64 (x1_1 + 1)) + 1)) + 1)) + 1)⟩ : S46)) (k46_mkM _ _ _ (⟨(rd_T46 y396 x5_1).f0, (rd_T46 y396 x5_1).f1, (rd_T46 y396 x5_1).f2, (rd_T46 y396 x5_1).f3, wrap64 ((wrap64 ((wrap64 ((wrap64 (x1_1 + 1)) + 1)) + 1)) + 1)⟩ : S46) ) (fun _ hk => hk); have hx19_4 := hcc19 4 _ rfl; (try simp only [show (k46).sz = 5 from rfl, Nat.mul_one, Nat.add_zero] at hx19_4); have hf19_4 := hfr19 4; (try simp only [show (k46).sz = 5 from rfl, Nat.mul_one, Nat.add_zero] at hf19_4); clear hcl19 hcc19 hfr19 hM19) | ((with_reducible refine gate_store (t := 3) (p := 44) rfl ?_); refine store_event (t := 3) (p := 44) (v := ?vo_w20) (w1 := (w18.setCell ⟨go5, (x5_1 : Int).toNat * 5 + 4, none⟩ (.int .i64 (wrap64 ((wrap64 ((wrap64 ((wrap64 (x1_1 + 1)) + 1)) + 1)) + 1))))) ?hg ?ho ?hn ?hr ?_; (case ho => rfl); (case hg => rfl); (case hn => rfl); (case hr => first | (go_simp; done) | (go_simp; rfl)); intro w20 hw; have hg : w18.grownBy w20 (some go5) := (by rw [hw]; exact HP19.2); have hp_ : Kd.R k46 46 w20 w0.heap.size (fun k_ => (P0_ k_ ∨ w.heap.size ≤ k_)) (.slice (some ⟨go5, 0, none⟩) x0_1.length co10) y397 := (by rw [hw, Ny397.out]; exact HP19.1); clear HP19; have n0_ := Aside0.mk (hp_); have n1_ := Aside0.mk ((by rw [hw]; exact below_set (HB.out) GB5.out : Below w0.heap.size w0 w20)); have n2_ := Aside0.mk (Kept.of_grown (S := (fun k_ => P0_ k_)) hg qT (fun k_ e_ => (HO_0.out.1 k_ e_))); clear HO_0; clear HB; clear HK; have HO_0 := n0_; have HB := n1_; have HK := n2_; clear n0_ n1_ n2_; clear hg hw hp_))
     go_roundg k1
     case measure => have := HK1.out; omega
     case rel => exact ⟨(y397), (wrap64 ((wrap64 ((wrap64 ((wrap64 ((wrap64 (x1_1 + 1)) + 1)) + 1)) + 1)) + 1)), (wrap64 (x5_1 + 1)), qZ, qZ, H', ⟨by have := HK1.out; omega⟩, ⟨qR HO_0⟩, ⟨qT⟩, ⟨qB⟩⟩
    ·rw [if_neg c4] at H
     exact absurd H (by simp)
   ·rw [if_neg c3] at H
    have c3b0 := decide_eq_false c3
    clear c3
    simp only [Option.some.injEq, Prod.mk.injEq] at H
    obtain ⟨rfl, rfl⟩ := H
    obtain ⟨Ao21, co21, eo21⟩ := Kd.R_slice HO_0.out
    subst eo21
    go_wp2
    go_ret
    exact ⟨by first | rfl | (simp [errW_none, errW_some] <;> rfl) | (simp [*, errW_none, errW_some] <;> rfl), qR HO_0, qB, qT⟩
def laws_markIntS.l0 : Nat → List Int → Int → Int → Option (Int × List Int)
 | 0, _, _, _ => none
 | k + 1, x0, x1, x5 => if x5 < (x0.length : Int) then (if 0 ≤ x5 then (laws_markIntS.l0 k (x0.set (x5 : Int).toNat x1) (wrap64 (x1 + 1)) (wrap64 (x5 + 1))) else (none)) else (some (x1, x0))
def laws_markIntS.f (k : Nat) (l0 : List Int) (a1 : Int) : Option (Int × List Int) := laws_markIntS.l0 k l0 a1 0
theorem laws_markIntS.mono_l : ∀ k, (∀ y0 y1 y2, LeO (laws_markIntS.l0 k y0 y1 y2) (laws_markIntS.l0 (k + 1) y0 y1 y2))
 | 0 => fun _ _ _ r h => by simp [laws_markIntS.l0] at h
 | k + 1 => by
  have ih0 := laws_markIntS.mono_l k
  ·intro y0 y1 y2
   unfold laws_markIntS.l0
   repeat' first
   | (with_reducible exact ih0 _ _ _)
   | (with_reducible exact LeO.refl _)
   | (with_reducible exact LeO.none _)
   | (with_reducible refine LeO.ite ?_ ?_)
   | (with_reducible refine LeO.bind ?_ (fun _ => ?_))
   | exact ih0 _ _ _
   | exact LeO.none _
   | refine LeO.ite ?_ ?_
   | refine LeO.bind ?_ (fun _ => ?_)
theorem laws_markIntS.mono : ∀ a0 a1 k, LeO (laws_markIntS.f k a0 a1) (laws_markIntS.f (k + 1) a0 a1) := by
 intro a0 a1 k
 have ih0 := laws_markIntS.mono_l k
 unfold laws_markIntS.f
 repeat' first
   | (with_reducible exact ih0 _ _ _)
   | (with_reducible exact LeO.refl _)
   | (with_reducible exact LeO.none _)
   | (with_reducible refine LeO.ite ?_ ?_)
   | (with_reducible refine LeO.bind ?_ (fun _ => ?_))
   | exact ih0 _ _ _
   | exact LeO.none _
   | refine LeO.ite ?_ ?_
   | refine LeO.bind ?_ (fun _ => ?_)
set_option maxHeartbeats 8000000 in
set_option maxRecDepth 100000 in
theorem laws_markIntS.calls (k : Nat) (P0_ : Nat → Prop) (u9000_ : Value) (l0 : List Int) (a1 : Int) (r1 : Int) (r2 : List Int) (w0 w : World) (hB : Below w0.heap.size w0 w) (ho0 : Kd.R (Kd.int .i64) 3 w w0.heap.size P0_ u9000_ l0) (h : laws_markIntS.f k l0 a1 = some (r1, r2)) :
  Calls Try.prog 20 #[u9000_, .int .i64 a1] w fun e w' => e = .returned (.int .i64 r1) ∧ Kd.R (Kd.int .i64) 3 w' w0.heap.size (fun k_ => (P0_ k_ ∨ w.heap.size ≤ k_)) u9000_ r2 ∧ Below w0.heap.size w0 w' ∧ Kept w w' (fun k_ => P0_ k_) := by
 have HO0 := Aside0.mk (show Kd.R (Kd.int .i64) 3 w w0.heap.size (fun k_ => (P0_ k_ ∨ w.heap.size ≤ k_)) u9000_ l0 from Kd.R_mono ho0 (fun k_ hk => (.inl hk)))
 have HK := Aside0.mk (Kept.refl w (fun k_ => P0_ k_))
 have HW0 := Aside0.mk hB.size
 have HB := Aside0.mk hB
 clear hB
 have H : (laws_markIntS.l0 k l0 a1 0) = some (r1, r2) := h
 clear h
 have H' := Aside0.mk H
 clear H
 go_enter Try.func20, Try.ntmps20
 go_wp2
 go_loopg [1, 5] k (fun kq v1 v5 w' => ∃ (x0_1 : List Int) (x1_1 : Int) (x5_1 : Int), v1 = .int .i64 x1_1 ∧ v5 = .int .i64 x5_1 ∧ Aside0 (laws_markIntS.l0 kq x0_1 x1_1 x5_1 = some (r1, r2)) ∧ Aside0 (kq ≤ k) ∧ Aside0 (Kd.R (Kd.int .i64) 3 w' w0.heap.size (fun k_ => (P0_ k_ ∨ w.heap.size ≤ k_)) u9000_ x0_1) ∧ Aside0 (Kept w w' (fun k_ => P0_ k_)) ∧ Aside0 (Below w0.heap.size w0 w'))
 case atStart => exact ⟨(l0), (a1), (0), qZ, qZ, H', ⟨Nat.le_refl _⟩, ⟨qR HO0⟩, ⟨qT⟩, ⟨qB⟩⟩
 case round =>
  clear H'
  try clear c2; try clear p2
  obtain ⟨x0_1, x1_1, x5_1, rfl, rfl, HA, HK1, HO_0, HK, HB⟩ := hrel
  cases gk with
  | zero => exact absurd HA.out (by simp [laws_markIntS.l0])
  | succ k1 =>
   have H := HA.out
   clear HA
   simp only [laws_markIntS.l0] at H
   by_cases c3 : x5_1 < (x0_1.length : Int)
   ·rw [if_pos c3] at H
    have c3b0 := decide_eq_true c3
    clear c3
    by_cases c4 : 0 ≤ x5_1
    ·rw [if_pos c4] at H
     have c4b0 := decide_eq_true c4
     clear c4
     obtain ⟨y398, hy398⟩ : ∃ y_ : List Int, y_ = (x0_1.set (x5_1 : Int).toNat x1_1) := ⟨_, rfl⟩
     replace H : (laws_markIntS.l0 k1 y398 (wrap64 (x1_1 + 1)) (wrap64 (x5_1 + 1))) = some (r1, r2) := by first | (rw [hy398]; with_reducible exact H) | (have H2_ := (Option.bind_some _ _).symm.trans H; rw [hy398]; with_reducible exact H2_) | (have H2_ := (Option.bind_some _ _).symm.trans H; with_reducible exact H2_) | with_reducible exact H | (rw [hy398]; exact H) | exact H
     have Ny398 := Aside0.mk hy398
     clear hy398
     have H' := Aside0.mk H
     clear H
     obtain ⟨Ao6, co6, eo6⟩ := Kd.R_slice HO_0.out
     subst eo6
     have p5 : 0 ≤ (x5_1 : Int) := qD
     have q5 : (x5_1 : Int) < ((x0_1.length : Int) : Int) := qD
     obtain ⟨go5, co5, eo5, gb5, gl5, cl5, HG5⟩ := Kd.R_form HO_0.out (by omega)
     (first | cases eo5 | (injection eo5 with ea_ en_ ec_; (first | subst ea_ | (injection ea_ with ea_; subst ea_)); subst ec_; clear en_))
     have GB5 := Aside0.mk gb5
     have GG5 := Aside0.mk HG5
     clear gb5 gl5 HG5
     have HMgo5 := Aside0.mk (show (P0_ go5 ∨ w.heap.size ≤ go5) from (HO_0.out.1 _ rfl))
     obtain ⟨hx5_0, hf5_0⟩ := Kd.R_celln 0 HO_0.out (x5_1 : Int) p5 q5
     replace p5 := eq_true p5
     replace q5 := eq_true q5
     have HP7 := Kd.R_putg HO_0.out (x5_1 : Int) x1_1
     go_wp2_with (first | ((with_reducible refine gate_store (t := 3) (p := 15) rfl ?_); refine store_event (t := 3) (p := 15) (v := ?vo_w8) (w1 := (wr.setCell ⟨go5, (x5_1 : Int).toNat, none⟩ (.int .i64 x1_1))) ?hg ?ho ?hn ?hr ?_; (case ho => rfl); (case hg => rfl); (case hn => rfl); (case hr => first | (go_simp; done) | (go_simp; rfl)); intro w8 hw; have hg : wr.grownBy w8 (some go5) := (by rw [hw]; exact HP7.2); have hp_ : Kd.R (Kd.int .i64) 3 w8 w0.heap.size (fun k_ => (P0_ k_ ∨ w.heap.size ≤ k_)) (.slice (some ⟨go5, 0, none⟩) x0_1.length co6) y398 := (by rw [hw, Ny398.out]; exact HP7.1); clear HP7; have n0_ := Aside0.mk (hp_); have n1_ := Aside0.mk ((by rw [hw]; exact below_set (HB.out) GB5.out : Below w0.heap.size w0 w8)); have n2_ := Aside0.mk (Kept.of_grown (S := (fun k_ => P0_ k_)) hg qT (fun k_ e_ => (HO_0.out.1 k_ e_))); clear HO_0; clear HB; clear HK; have HO_0 := n0_; have HB := n1_; have HK := n2_; clear n0_ n1_ n2_; clear hg hw hp_))
     go_roundg k1
     case measure => have := HK1.out; omega
     case rel => exact ⟨(y398), (wrap64 (x1_1 + 1)), (wrap64 (x5_1 + 1)), qZ, qZ, H', ⟨by have := HK1.out; omega⟩, ⟨qR HO_0⟩, ⟨qT⟩, ⟨qB⟩⟩
    ·rw [if_neg c4] at H
     exact absurd H (by simp)
   ·rw [if_neg c3] at H
    have c3b0 := decide_eq_false c3
    clear c3
    simp only [Option.some.injEq, Prod.mk.injEq] at H
    obtain ⟨rfl, rfl⟩ := H
    obtain ⟨Ao9, co9, eo9⟩ := Kd.R_slice HO_0.out
    subst eo9
    go_wp2
    go_ret
    exact ⟨by first | rfl | (simp [errW_none, errW_some] <;> rfl) | (simp [*, errW_none, errW_some] <;> rfl), qR HO_0, qB, qT⟩
def laws_heldIntS.l0 : Nat → List Int → Int → Int → Option (Int)
 | 0, _, _, _ => none
 | k + 1, x0, x1, x5 => if x5 < (x0.length : Int) then (if 0 ≤ x5 then (if (rd x0 x5) = x1 then (laws_heldIntS.l0 k x0 (wrap64 (x1 + 1)) (wrap64 (x5 + 1))) else (some (-1))) else (none)) else (some x1)
def laws_heldIntS.f (k : Nat) (l0 : List Int) (a1 : Int) : Option (Int) := laws_heldIntS.l0 k l0 a1 0
theorem laws_heldIntS.mono_l : ∀ k, (∀ y0 y1 y2, LeO (laws_heldIntS.l0 k y0 y1 y2) (laws_heldIntS.l0 (k + 1) y0 y1 y2))
 | 0 => fun _ _ _ r h => by simp [laws_heldIntS.l0] at h
 | k + 1 => by
  have ih0 := laws_heldIntS.mono_l k
  ·intro y0 y1 y2
   unfold laws_heldIntS.l0
   repeat' first
   | (with_reducible exact ih0 _ _ _)
   | (with_reducible exact LeO.refl _)
   | (with_reducible exact LeO.none _)
   | (with_reducible refine LeO.ite ?_ ?_)
   | (with_reducible refine LeO.bind ?_ (fun _ => ?_))
   | exact ih0 _ _ _
   | exact LeO.none _
   | refine LeO.ite ?_ ?_
   | refine LeO.bind ?_ (fun _ => ?_)
theorem laws_heldIntS.mono : ∀ a0 a1 k, LeO (laws_heldIntS.f k a0 a1) (laws_heldIntS.f (k + 1) a0 a1) := by
 intro a0 a1 k
 have ih0 := laws_heldIntS.mono_l k
 unfold laws_heldIntS.f
 repeat' first
   | (with_reducible exact ih0 _ _ _)
   | (with_reducible exact LeO.refl _)
   | (with_reducible exact LeO.none _)
   | (with_reducible refine LeO.ite ?_ ?_)
   | (with_reducible refine LeO.bind ?_ (fun _ => ?_))
   | exact ih0 _ _ _
   | exact LeO.none _
   | refine LeO.ite ?_ ?_
   | refine LeO.bind ?_ (fun _ => ?_)
set_option maxHeartbeats 8000000 in
set_option maxRecDepth 100000 in
theorem laws_heldIntS.calls (k : Nat) (A0 : Option Addr) (c0 : Nat) (l0 : List Int) (a1 : Int) (r : Int) (w : World) (hr0 : Kd.C (Kd.int .i64) w A0 l0.length l0) (hc0 : l0.length ≤ c0) (h : laws_heldIntS.f k l0 a1 = some r) :
  Calls Try.prog 21 #[.slice A0 l0.length c0, .int .i64 a1] w fun e w' => e = .returned (.int .i64 r) ∧ Drawn0 w w' := by
 have HR0 := Aside0.mk hr0
 have HC0 := Aside0.mk hc0
 clear hr0 hc0
 have H : (laws_heldIntS.l0 k l0 a1 0) = some r := h
 clear h
 have H' := Aside0.mk H
 clear H
 go_enter Try.func21, Try.ntmps21
 go_wp2
 go_loopg [1, 5] k (fun kq v1 v5 w' => ∃ (x1_1 : Int) (x5_1 : Int), v1 = .int .i64 x1_1 ∧ v5 = .int .i64 x5_1 ∧ Aside0 (laws_heldIntS.l0 kq l0 x1_1 x5_1 = some r) ∧ Aside0 (kq ≤ k) ∧ Drawn0 w w')
 case atStart => exact ⟨(a1), (0), qZ, qZ, H', ⟨Nat.le_refl _⟩, by repeat (first | exact Drawn0.refl _ | apply Drawn0.step)⟩
 case round =>
  clear H'
  try clear c2; try clear p2
  obtain ⟨x1_1, x5_1, rfl, rfl, HA, HK1, ⟨m1, rfl⟩⟩ := hrel
  cases gk with
  | zero => exact absurd HA.out (by simp [laws_heldIntS.l0])
  | succ k1 =>
   have H := HA.out
   clear HA
   simp only [laws_heldIntS.l0] at H
   by_cases c3 : x5_1 < (l0.length : Int)
   ·rw [if_pos c3] at H
    have c3b0 := decide_eq_true c3
    clear c3
    by_cases c4 : 0 ≤ x5_1
    ·rw [if_pos c4] at H
     have c4b0 := decide_eq_true c4
     clear c4
     by_cases c5 : (rd l0 x5_1) = x1_1
     ·rw [if_pos c5] at H
      have c5b0 : ((rd l0 x5_1) == x1_1) = true := beq_iff_eq.mpr c5
      have c5b1 : ((rd l0 x5_1) != x1_1) = false := bne_eq_false_iff_eq.mpr c5
      clear c5
      have H' := Aside0.mk H
      clear H
      have p399 : 0 ≤ (x5_1 : Int) := qD
      have q399 : x5_1 < (l0.length : Int) := qD
      obtain ⟨ad399, e399, hx399_0⟩ := Kd.at_int HR0.out x5_1 p399 q399
      cases e399
      replace p399 := eq_true p399
      replace q399 := eq_true q399
      go_wp2
      go_roundg k1
      case measure => have := HK1.out; omega
      case rel => exact ⟨(wrap64 (x1_1 + 1)), (wrap64 (x5_1 + 1)), qZ, qZ, H', ⟨by have := HK1.out; omega⟩, by repeat (first | exact Drawn0.refl _ | apply Drawn0.step)⟩
     ·rw [if_neg c5] at H
      have c5b0 : ((rd l0 x5_1) == x1_1) = false := beq_eq_false_iff_ne.mpr c5
      have c5b1 : ((rd l0 x5_1) != x1_1) = true := bne_iff_ne.mpr c5
      obtain rfl := Option.some.inj H
      have p399 : 0 ≤ (x5_1 : Int) := qD
      have q399 : x5_1 < (l0.length : Int) := qD
      obtain ⟨ad399, e399, hx399_0⟩ := Kd.at_int HR0.out x5_1 p399 q399
      cases e399
      replace p399 := eq_true p399
      replace q399 := eq_true q399
      go_wp2
      go_ret
      exact ⟨by first | rfl | (simp; done) | (simp [*]; done), by repeat (first | exact Drawn0.refl _ | apply Drawn0.step)⟩
    ·rw [if_neg c4] at H
     exact absurd H (by simp)
   ·rw [if_neg c3] at H
    have c3b0 := decide_eq_false c3
    clear c3
    obtain rfl := Option.some.inj H
    go_wp2
    go_ret
    exact ⟨by first | rfl | (simp; done) | (simp [*]; done), by repeat (first | exact Drawn0.refl _ | apply Drawn0.step)⟩
def laws_heldQuadS.l0 : Nat → List (S46) → Int → Int → Option (Int)
 | 0, _, _, _ => none
 | k + 1, x0, x1, x5 => if x5 < (x0.length : Int) then (if 0 ≤ x5 then (if ((rd_T46 x0 x5).f0) = x1 then (if ((rd_T46 x0 x5).f1) = (wrap64 (x1 + 1)) then (if ((rd_T46 x0 x5).f2) = (wrap64 ((wrap64 (x1 + 1)) + 1)) then (if ((rd_T46 x0 x5).f3) = (wrap64 ((wrap64 ((wrap64 (x1 + 1)) + 1)) + 1)) then (if ((rd_T46 x0 x5).f4) = (wrap64 ((wrap64 ((wrap64 ((wrap64 (x1 + 1)) + 1)) + 1)) + 1)) then (laws_heldQuadS.l0 k x0 (wrap64 ((wrap64 ((wrap64 ((wrap64 ((wrap64 (x1 + 1)) + 1)) + 1)) + 1)) + 1)) (wrap64 (x5 + 1))) else (some (-1))) else (some (-1))) else (some (-1))) else (some (-1))) else (some (-1))) else (none)) else (some x1)
def laws_heldQuadS.f (k : Nat) (l0 : List (S46)) (a1 : Int) : Option (Int) := laws_heldQuadS.l0 k l0 a1 0
theorem laws_heldQuadS.mono_l : ∀ k, (∀ y0 y1 y2, LeO (laws_heldQuadS.l0 k y0 y1 y2) (laws_heldQuadS.l0 (k + 1) y0 y1 y2))
 | 0 => fun _ _ _ r h => by simp [laws_heldQuadS.l0] at h
 | k + 1 => by
  have ih0 := laws_heldQuadS.mono_l k
  ·intro y0 y1 y2
   unfold laws_heldQuadS.l0
   repeat' first
   | (with_reducible exact ih0 _ _ _)
   | (with_reducible exact LeO.refl _)
   | (with_reducible exact LeO.none _)
   | (with_reducible refine LeO.ite ?_ ?_)
   | (with_reducible refine LeO.bind ?_ (fun _ => ?_))
   | exact ih0 _ _ _
   | exact LeO.none _
   | refine LeO.ite ?_ ?_
   | refine LeO.bind ?_ (fun _ => ?_)
theorem laws_heldQuadS.mono : ∀ a0 a1 k, LeO (laws_heldQuadS.f k a0 a1) (laws_heldQuadS.f (k + 1) a0 a1) := by
 intro a0 a1 k
 have ih0 := laws_heldQuadS.mono_l k
 unfold laws_heldQuadS.f
 repeat' first
   | (with_reducible exact ih0 _ _ _)
   | (with_reducible exact LeO.refl _)
   | (with_reducible exact LeO.none _)
   | (with_reducible refine LeO.ite ?_ ?_)
   | (with_reducible refine LeO.bind ?_ (fun _ => ?_))
   | exact ih0 _ _ _
   | exact LeO.none _
   | refine LeO.ite ?_ ?_
   | refine LeO.bind ?_ (fun _ => ?_)
set_option maxHeartbeats 8000000 in
set_option maxRecDepth 100000 in
theorem laws_heldQuadS.calls (k : Nat) (A0 : Option Addr) (c0 : Nat) (l0 : List (S46)) (a1 : Int) (r : Int) (w : World) (hr0 : Kd.C k46 w A0 l0.length l0) (hc0 : l0.length ≤ c0) (h : laws_heldQuadS.f k l0 a1 = some r) :
  Calls Try.prog 24 #[.slice A0 l0.length c0, .int .i64 a1] w fun e w' => e = .returned (.int .i64 r) ∧ Drawn0 w w' := by
 have HR0 := Aside0.mk hr0
 have HC0 := Aside0.mk hc0
 clear hr0 hc0
 have H : (laws_heldQuadS.l0 k l0 a1 0) = some r := h
 clear h
 have H' := Aside0.mk H
 clear H
 go_enter Try.func24, Try.ntmps24
 go_wp2
 go_loopg [1, 5] k (fun kq v1 v5 w' => ∃ (x1_1 : Int) (x5_1 : Int), v1 = .int .i64 x1_1 ∧ v5 = .int .i64 x5_1 ∧ Aside0 (laws_heldQuadS.l0 kq l0 x1_1 x5_1 = some r) ∧ Aside0 (kq ≤ k) ∧ Drawn0 w w')
 case atStart => exact ⟨(a1), (0), qZ, qZ, H', ⟨Nat.le_refl _⟩, by repeat (first | exact Drawn0.refl _ | apply Drawn0.step)⟩
 case round =>
  clear H'
  try clear c2; try clear p2
  obtain ⟨x1_1, x5_1, rfl, rfl, HA, HK1, ⟨m1, rfl⟩⟩ := hrel
  cases gk with
  | zero => exact absurd HA.out (by simp [laws_heldQuadS.l0])
  | succ k1 =>
   have H := HA.out
   clear HA
   simp only [laws_heldQuadS.l0] at H
   by_cases c3 : x5_1 < (l0.length : Int)
   ·rw [if_pos c3] at H
    have c3b0 := decide_eq_true c3
    clear c3
    by_cases c4 : 0 ≤ x5_1
    ·rw [if_pos c4] at H
     have c4b0 := decide_eq_true c4
     clear c4
     by_cases c5 : ((rd_T46 l0 x5_1).f0) = x1_1
     ·rw [if_pos c5] at H
      have c5b0 : (((rd_T46 l0 x5_1).f0) == x1_1) = true := beq_iff_eq.mpr c5
      have c5b1 : (((rd_T46 l0 x5_1).f0) != x1_1) = false := bne_eq_false_iff_eq.mpr c5
      clear c5
      by_cases c6 : ((rd_T46 l0 x5_1).f1) = (wrap64 (x1_1 + 1))
      ·rw [if_pos c6] at H
       have c6b0 : (((rd_T46 l0 x5_1).f1) == (wrap64 (x1_1 + 1))) = true := beq_iff_eq.mpr c6
       have c6b1 : (((rd_T46 l0 x5_1).f1) != (wrap64 (x1_1 + 1))) = false := bne_eq_false_iff_eq.mpr c6
       clear c6
       by_cases c7 : ((rd_T46 l0 x5_1).f2) = (wrap64 ((wrap64 (x1_1 + 1)) + 1))
       ·rw [if_pos c7] at H
        have c7b0 : (((rd_T46 l0 x5_1).f2) == (wrap64 ((wrap64 (x1_1 + 1)) + 1))) = true := beq_iff_eq.mpr c7
        have c7b1 : (((rd_T46 l0 x5_1).f2) != (wrap64 ((wrap64 (x1_1 + 1)) + 1))) = false := bne_eq_false_iff_eq.mpr c7
        clear c7
        by_cases c8 : ((rd_T46 l0 x5_1).f3) = (wrap64 ((wrap64 ((wrap64 (x1_1 + 1)) + 1)) + 1))
        ·rw [if_pos c8] at H
         have c8b0 : (((rd_T46 l0 x5_1).f3) == (wrap64 ((wrap64 ((wrap64 (x1_1 + 1)) + 1)) + 1))) = true := beq_iff_eq.mpr c8
         have c8b1 : (((rd_T46 l0 x5_1).f3) != (wrap64 ((wrap64 ((wrap64 (x1_1 + 1)) + 1)) + 1))) = false := bne_eq_false_iff_eq.mpr c8
         clear c8
         by_cases c9 : ((rd_T46 l0 x5_1).f4) = (wrap64 ((wrap64 ((wrap64 ((wrap64 (x1_1 + 1)) + 1)) + 1)) + 1))
         ·rw [if_pos c9] at H
          have c9b0 : (((rd_T46 l0 x5_1).f4) == (wrap64 ((wrap64 ((wrap64 ((wrap64 (x1_1 + 1)) + 1)) + 1)) + 1))) = true := beq_iff_eq.mpr c9
          have c9b1 : (((rd_T46 l0 x5_1).f4) != (wrap64 ((wrap64 ((wrap64 ((wrap64 (x1_1 + 1)) + 1)) + 1)) + 1))) = false := bne_eq_false_iff_eq.mpr c9
          clear c9
          have H' := Aside0.mk H
          clear H
          have p470 : 0 ≤ (x5_1 : Int) := qD
          have q470 : x5_1 < (l0.length : Int) := qD
          obtain ⟨ad470, e470, hx470_0, hx470_1, hx470_2, hx470_3, hx470_4⟩ := at_T46 HR0.out x5_1 p470 q470
          cases e470
          replace p470 := eq_true p470
          replace q470 := eq_true q470
          have p471 : 0 ≤ (x5_1 : Int) := qD
          have q471 : x5_1 < (l0.length : Int) := qD
          obtain ⟨ad471, e471, hx471_0, hx471_1, hx471_2, hx471_3, hx471_4⟩ := at_T46 HR0.out x5_1 p471 q471
          obtain rfl : ad470 = ad471 := (by injection e471)
          replace p471 := eq_true p471
          replace q471 := eq_true q471
          have p472 : 0 ≤ (x5_1 : Int) := qD
          have q472 : x5_1 < (l0.length : Int) := qD
          obtain ⟨ad472, e472, hx472_0, hx472_1, hx472_2, hx472_3, hx472_4⟩ := at_T46 HR0.out x5_1 p472 q472
          obtain rfl : ad470 = ad472 := (by injection e472)
          replace p472 := eq_true p472
          replace q472 := eq_true q472
          have p473 : 0 ≤ (x5_1 : Int) := qD
          have q473 : x5_1 < (l0.length : Int) := qD
          obtain ⟨ad473, e473, hx473_0, hx473_1, hx473_2, hx473_3, hx473_4⟩ := at_T46 HR0.out x5_1 p473 q473
          obtain rfl : ad470 = ad473 := (by injection e473)
          replace p473 := eq_true p473
          replace q473 := eq_true q473
          have p474 : 0 ≤ (x5_1 : Int) := qD
          have q474 : x5_1 < (l0.length : Int) := qD
          obtain ⟨ad474, e474, hx474_0, hx474_1, hx474_2, hx474_3, hx474_4⟩ := at_T46 HR0.out x5_1 p474 q474
          obtain rfl : ad470 = ad474 := (by injection e474)
          replace p474 := eq_true p474
          replace q474 := eq_true q474
          go_wp2
          go_roundg k1
          case measure => have := HK1.out; omega
          case rel => exact ⟨(wrap64 ((wrap64 ((wrap64 ((wrap64 ((wrap64 (x1_1 + 1)) + 1)) + 1)) + 1)) + 1)), (wrap64 (x5_1 + 1)), qZ, qZ, H', ⟨by have := HK1.out; omega⟩, by repeat (first | exact Drawn0.refl _ | apply Drawn0.step)⟩
         ·rw [if_neg c9] at H
          have c9b0 : (((rd_T46 l0 x5_1).f4) == (wrap64 ((wrap64 ((wrap64 ((wrap64 (x1_1 + 1)) + 1)) + 1)) + 1))) = false := beq_eq_false_iff_ne.mpr c9
          have c9b1 : (((rd_T46 l0 x5_1).f4) != (wrap64 ((wrap64 ((wrap64 ((wrap64 (x1_1 + 1)) + 1)) + 1)) + 1))) = true := bne_iff_ne.mpr c9
          obtain rfl := Option.some.inj H
          have p470 : 0 ≤ (x5_1 : Int) := qD
          have q470 : x5_1 < (l0.length : Int) := qD
          obtain ⟨ad470, e470, hx470_0, hx470_1, hx470_2, hx470_3, hx470_4⟩ := at_T46 HR0.out x5_1 p470 q470
          cases e470
          replace p470 := eq_true p470
          replace q470 := eq_true q470
          have p471 : 0 ≤ (x5_1 : Int) := qD
          have q471 : x5_1 < (l0.length : Int) := qD
          obtain ⟨ad471, e471, hx471_0, hx471_1, hx471_2, hx471_3, hx471_4⟩ := at_T46 HR0.out x5_1 p471 q471
          obtain rfl : ad470 = ad471 := (by injection e471)
          replace p471 := eq_true p471
          replace q471 := eq_true q471
          have p472 : 0 ≤ (x5_1 : Int) := qD
          have q472 : x5_1 < (l0.length : Int) := qD
          obtain ⟨ad472, e472, hx472_0, hx472_1, hx472_2, hx472_3, hx472_4⟩ := at_T46 HR0.out x5_1 p472 q472
          obtain rfl : ad470 = ad472 := (by injection e472)
          replace p472 := eq_true p472
          replace q472 := eq_true q472
          have p473 : 0 ≤ (x5_1 : Int) := qD
          have q473 : x5_1 < (l0.length : Int) := qD
          obtain ⟨ad473, e473, hx473_0, hx473_1, hx473_2, hx473_3, hx473_4⟩ := at_T46 HR0.out x5_1 p473 q473
          obtain rfl : ad470 = ad473 := (by injection e473)
          replace p473 := eq_true p473
          replace q473 := eq_true q473
          have p474 : 0 ≤ (x5_1 : Int) := qD
          have q474 : x5_1 < (l0.length : Int) := qD
          obtain ⟨ad474, e474, hx474_0, hx474_1, hx474_2, hx474_3, hx474_4⟩ := at_T46 HR0.out x5_1 p474 q474
          obtain rfl : ad470 = ad474 := (by injection e474)
          replace p474 := eq_true p474
          replace q474 := eq_true q474
          go_wp2
          go_ret
          exact ⟨by first | rfl | (simp; done) | (simp [*]; done), by repeat (first | exact Drawn0.refl _ | apply Drawn0.step)⟩
        ·rw [if_neg c8] at H
         have c8b0 : (((rd_T46 l0 x5_1).f3) == (wrap64 ((wrap64 ((wrap64 (x1_1 + 1)) + 1)) + 1))) = false := beq_eq_false_iff_ne.mpr c8
         have c8b1 : (((rd_T46 l0 x5_1).f3) != (wrap64 ((wrap64 ((wrap64 (x1_1 + 1)) + 1)) + 1))) = true := bne_iff_ne.mpr c8
         obtain rfl := Option.some.inj H
         have p470 : 0 ≤ (x5_1 : Int) := qD
         have q470 : x5_1 < (l0.length : Int) := qD
         obtain ⟨ad470, e470, hx470_0, hx470_1, hx470_2, hx470_3, hx470_4⟩ := at_T46 HR0.out x5_1 p470 q470
         cases e470
         replace p470 := eq_true p470
         replace q470 := eq_true q470
         have p471 : 0 ≤ (x5_1 : Int) := qD
         have q471 : x5_1 < (l0.length : Int) := qD
         obtain ⟨ad471, e471, hx471_0, hx471_1, hx471_2, hx471_3, hx471_4⟩ := at_T46 HR0.out x5_1 p471 q471
         obtain rfl : ad470 = ad471 := (by injection e471)
         replace p471 := eq_true p471
         replace q471 := eq_true q471
         have p472 : 0 ≤ (x5_1 : Int) := qD
         have q472 : x5_1 < (l0.length : Int) := qD
         obtain ⟨ad472, e472, hx472_0, hx472_1, hx472_2, hx472_3, hx472_4⟩ := at_T46 HR0.out x5_1 p472 q472
         obtain rfl : ad470 = ad472 := (by injection e472)
         replace p472 := eq_true p472
         replace q472 := eq_true q472
         have p473 : 0 ≤ (x5_1 : Int) := qD
         have q473 : x5_1 < (l0.length : Int) := qD
         obtain ⟨ad473, e473, hx473_0, hx473_1, hx473_2, hx473_3, hx473_4⟩ := at_T46 HR0.out x5_1 p473 q473
         obtain rfl : ad470 = ad473 := (by injection e473)
         replace p473 := eq_true p473
         replace q473 := eq_true q473
         go_wp2
         go_ret
         exact ⟨by first | rfl | (simp; done) | (simp [*]; done), by repeat (first | exact Drawn0.refl _ | apply Drawn0.step)⟩
       ·rw [if_neg c7] at H
        have c7b0 : (((rd_T46 l0 x5_1).f2) == (wrap64 ((wrap64 (x1_1 + 1)) + 1))) = false := beq_eq_false_iff_ne.mpr c7
        have c7b1 : (((rd_T46 l0 x5_1).f2) != (wrap64 ((wrap64 (x1_1 + 1)) + 1))) = true := bne_iff_ne.mpr c7
        obtain rfl := Option.some.inj H
        have p470 : 0 ≤ (x5_1 : Int) := qD
        have q470 : x5_1 < (l0.length : Int) := qD
        obtain ⟨ad470, e470, hx470_0, hx470_1, hx470_2, hx470_3, hx470_4⟩ := at_T46 HR0.out x5_1 p470 q470
        cases e470
        replace p470 := eq_true p470
        replace q470 := eq_true q470
        have p471 : 0 ≤ (x5_1 : Int) := qD
        have q471 : x5_1 < (l0.length : Int) := qD
        obtain ⟨ad471, e471, hx471_0, hx471_1, hx471_2, hx471_3, hx471_4⟩ := at_T46 HR0.out x5_1 p471 q471
        obtain rfl : ad470 = ad471 := (by injection e471)
        replace p471 := eq_true p471
        replace q471 := eq_true q471
        have p472 : 0 ≤ (x5_1 : Int) := qD
        have q472 : x5_1 < (l0.length : Int) := qD
        obtain ⟨ad472, e472, hx472_0, hx472_1, hx472_2, hx472_3, hx472_4⟩ := at_T46 HR0.out x5_1 p472 q472
        obtain rfl : ad470 = ad472 := (by injection e472)
        replace p472 := eq_true p472
        replace q472 := eq_true q472
        go_wp2
        go_ret
        exact ⟨by first | rfl | (simp; done) | (simp [*]; done), by repeat (first | exact Drawn0.refl _ | apply Drawn0.step)⟩
      ·rw [if_neg c6] at H
       have c6b0 : (((rd_T46 l0 x5_1).f1) == (wrap64 (x1_1 + 1))) = false := beq_eq_false_iff_ne.mpr c6
       have c6b1 : (((rd_T46 l0 x5_1).f1) != (wrap64 (x1_1 + 1))) = true := bne_iff_ne.mpr c6
       obtain rfl := Option.some.inj H
       have p470 : 0 ≤ (x5_1 : Int) := qD
       have q470 : x5_1 < (l0.length : Int) := qD
       obtain ⟨ad470, e470, hx470_0, hx470_1, hx470_2, hx470_3, hx470_4⟩ := at_T46 HR0.out x5_1 p470 q470
       cases e470
       replace p470 := eq_true p470
       replace q470 := eq_true q470
       have p471 : 0 ≤ (x5_1 : Int) := qD
       have q471 : x5_1 < (l0.length : Int) := qD
       obtain ⟨ad471, e471, hx471_0, hx471_1, hx471_2, hx471_3, hx471_4⟩ := at_T46 HR0.out x5_1 p471 q471
       obtain rfl : ad470 = ad471 := (by injection e471)
       replace p471 := eq_true p471
       replace q471 := eq_true q471
       go_wp2
       go_ret
       exact ⟨by first | rfl | (simp; done) | (simp [*]; done), by repeat (first | exact Drawn0.refl _ | apply Drawn0.step)⟩
     ·rw [if_neg c5] at H
      have c5b0 : (((rd_T46 l0 x5_1).f0) == x1_1) = false := beq_eq_false_iff_ne.mpr c5
      have c5b1 : (((rd_T46 l0 x5_1).f0) != x1_1) = true := bne_iff_ne.mpr c5
      obtain rfl := Option.some.inj H
      have p470 : 0 ≤ (x5_1 : Int) := qD
      have q470 : x5_1 < (l0.length : Int) := qD
      obtain ⟨ad470, e470, hx470_0, hx470_1, hx470_2, hx470_3, hx470_4⟩ := at_T46 HR0.out x5_1 p470 q470
      cases e470
      replace p470 := eq_true p470
      replace q470 := eq_true q470
      go_wp2
      go_ret
      exact ⟨by first | rfl | (simp; done) | (simp [*]; done), by repeat (first | exact Drawn0.refl _ | apply Drawn0.step)⟩
    ·rw [if_neg c4] at H
     exact absurd H (by simp)
   ·rw [if_neg c3] at H
    have c3b0 := decide_eq_false c3
    clear c3
    obtain rfl := Option.some.inj H
    go_wp2
    go_ret
    exact ⟨by first | rfl | (simp; done) | (simp [*]; done), by repeat (first | exact Drawn0.refl _ | apply Drawn0.step)⟩
def impl_PlacesOf.f (k : Nat) (l0 : List (S46)) : Option (List Int) := (impl_CodeValid.f k l0).bind fun t387 => (if t387 = true then ((impl_placesOf.f k l0).bind fun t388 => (some t388)) else (some ([] : List Int)))
theorem impl_PlacesOf.mono : ∀ a0 k, LeO (impl_PlacesOf.f k a0) (impl_PlacesOf.f (k + 1) a0) := by
 intro a0 k
 unfold impl_PlacesOf.f
 repeat' first
   | (with_reducible exact impl_CodeValid.mono _ _)
   | (with_reducible exact impl_placesOf.mono _ _)
   | (with_reducible exact LeO.refl _)
   | (with_reducible exact LeO.none _)
   | (with_reducible refine LeO.ite ?_ ?_)
   | (with_reducible refine LeO.bind ?_ (fun _ => ?_))
   | exact impl_CodeValid.mono _ _
   | exact impl_placesOf.mono _ _
   | exact LeO.none _
   | refine LeO.ite ?_ ?_
   | refine LeO.bind ?_ (fun _ => ?_)
set_option maxHeartbeats 8000000 in
set_option maxRecDepth 100000 in
theorem impl_PlacesOf.calls (k : Nat) (A0 : Option Addr) (c0 : Nat) (l0 : List (S46)) (r : List Int) (w : World) (hr0 : Kd.C k46 w A0 l0.length l0) (hc0 : l0.length ≤ c0) (h : impl_PlacesOf.f k l0 = some r) :
  Calls Try.prog 17 #[.slice A0 l0.length c0] w fun e w' => ∃ v0_ : Value, e = .returned (v0_) ∧ Kd.R (Kd.int .i64) 3 w' w.heap.size (fun _ => True) v0_ r ∧ Below w.heap.size w w' := by
 have HR0 := Aside0.mk hr0
 have HC0 := Aside0.mk hc0
 clear hr0 hc0
 have HB := Aside0.mk (Below.refl w.heap.size w)
 have H : ((impl_CodeValid.f k l0).bind fun t387 => (if t387 = true then ((impl_placesOf.f k l0).bind fun t388 => (some t388)) else (some ([] : List Int)))) = some r := h
 clear h
 obtain ⟨t387, A2, H⟩ := qE H
 try dsimp only at H
 by_cases c3 : t387 = true
 ·subst c3
  rw [if_pos rfl] at H
  obtain ⟨t388, A4, H⟩ := qE H
  try dsimp only at H
  obtain rfl := Option.some.inj H
  go_enter Try.func17, Try.ntmps17
  go_wp2_with (first | ((with_reducible refine gate_callee (f := 34) rfl ?_); refine goesL_ (some 4) rfl rfl Try.func34 (by kernel_rfl) rfl #[.slice A0 l0.length c0] rfl qM ?_; (with_reducible refine (impl_CodeValid.calls k _ _ l0 true _ ?side1 ?side2 A2.out).mono ?_); (case side1 => repeat (first | exact HR0.out | (with_reducible refine Kd.C_alloc ?_ _) | (with_reducible refine Kd.C_drewN ?_ _) | (with_reducible refine Kd.C_drew ?_))); (case side2 => exact HC0.out); rintro e w5 ⟨rfl, hb⟩; refine ⟨_, rfl, ?_⟩; have n0_ := Aside0.mk (below_step qB hb); clear HB; have HB := n0_; clear n0_; (try clear hb); (try clear hb2); (try clear hk); (try clear hi)) | ((with_reducible refine gate_callee (f := 41) rfl ?_); refine goesL_ (some 7) rfl rfl Try.func41 (by kernel_rfl) rfl #[.slice A0 l0.length c0] rfl qM ?_; (with_reducible refine (impl_placesOf.calls k _ _ l0 t388 _ ?side1 ?side2 A4.out).mono ?_); (case side1 => repeat (first | exact (Kd.C_below HR0.out HB.out) | (with_reducible refine Kd.C_alloc ?_ _) | (with_reducible refine Kd.C_drewN ?_ _) | (with_reducible refine Kd.C_drew ?_))); (case side2 => exact HC0.out); rintro e w6 ⟨v389, rfl, ho0, hb⟩; refine ⟨_, rfl, ?_⟩; have n0_ := Aside0.mk (Kd.R_lower ho0 (below_size qB)); have n1_ := Aside0.mk (below_step qB hb); clear HB; have HO390 := n0_; have HB := n1_; clear n0_ n1_; (try clear hb); (try clear hb2); (try clear hk); (try clear hi); (try clear ho0)))
  go_ret
  exact ⟨_, by first | rfl | (simp [errW_none, errW_some] <;> rfl) | (simp [*, errW_none, errW_some] <;> rfl), qR HO390, qB⟩
 ·replace c3 := Bool.eq_false_iff.mpr c3
  subst c3
  rw [if_neg (show ¬ (false = true) by decide)] at H
  obtain rfl := Option.some.inj H
  go_enter Try.func17, Try.ntmps17
  go_wp2_with (first | ((with_reducible refine gate_callee (f := 34) rfl ?_); refine goesL_ (some 4) rfl rfl Try.func34 (by kernel_rfl) rfl #[.slice A0 l0.length c0] rfl qM ?_; (with_reducible refine (impl_CodeValid.calls k _ _ l0 false _ ?side1 ?side2 A2.out).mono ?_); (case side1 => repeat (first | exact HR0.out | (with_reducible refine Kd.C_alloc ?_ _) | (with_reducible refine Kd.C_drewN ?_ _) | (with_reducible refine Kd.C_drew ?_))); (case side2 => exact HC0.out); rintro e w7 ⟨rfl, hb⟩; refine ⟨_, rfl, ?_⟩; have n0_ := Aside0.mk (below_step qB hb); clear HB; have HB := n0_; clear n0_; (try clear hb); (try clear hb2); (try clear hk); (try clear hi)))
  go_ret
  exact ⟨_, by first | rfl | (simp [errW_none, errW_some] <;> rfl) | (simp [*, errW_none, errW_some] <;> rfl), by first | exact Kd.R_nil _ _ _ _ _ | exact Kd.N_nil _ _ _ _ _ | exact Kd.V_nil _ _ _ _ _ | exact Kd.Q_nil _ _ _ _ _ | exact Kd.S_nil _ _ _ _ _, qB⟩
end Go.Proofs.Ytahbkldagpfcaaa.M
namespace Go.Proofs.Ytahbkldagpfcaaa.M
open Go.RowKit Go.Proofs.YtahbkldagpfcaaaW.PrintWords Go.Proofs.YtahbkldagpfcaaaW.PrintLast Go.Proofs.YtahbkldagpfcaaaW.PrintMore PM
theorem laws_eqIntS.ev {l : List Int} (h : l.length ≤ 1048576) : Ev (fun k => laws_eqIntS.f k l l) true := by
  have key : ∀ (d p : Nat), p + d = l.length → Ev (fun k => laws_eqIntS.l0 k l l (p : Int)) true := by
    intro d
    induction d with
    | zero =>
      intro p hp
      refine Ev.succ ?_
      simp only [laws_eqIntS.l0]
      exact Ev.neg Ev.pure
    | succ d ih =>
      intro p hp
      refine Ev.succ ?_
      simp only [laws_eqIntS.l0, wrap_up (show p < 9223372036854775807 by omega), if_true]
      exact Ev.pos (Ev.pos (Ev.pos (ih (p + 1) (by omega))))
  simp only [laws_eqIntS.f]
  exact Ev.pos (key l.length 0 (by omega))
/-- A row of numbers marked 1, 2, .. -/
def mInts (n : Nat) : List Int := (List.range n).map fun i => ((i + 1 : Nat) : Int)
theorem mInts_get {n i : Nat} (h : i < n) : (mInts n).getD i 0 = ((i + 1 : Nat) : Int) := by simp [mInts, List.getD_eq_getElem?_getD, h]
theorem mInts_len (n : Nat) : (mInts n).length = n := by simp [mInts]
theorem laws_markIntS.ev {l : List Int} (h : l.length ≤ 1048576) : Ev (fun k => laws_markIntS.f k l 1) (((l.length + 1 : Nat) : Int), mInts l.length) := by
  have key : ∀ (d p : Nat), p + d = l.length → ∀ x : List Int, x.length = l.length → (∀ i, i < p → x.getD i 0 = ((i + 1 : Nat) : Int)) → Ev (fun k => laws_markIntS.l0 k x ((p + 1 : Nat) : Int) (p : Int)) (((l.length + 1 : Nat) : Int), mInts l.length) := by
    intro d
    induction d with
    | zero =>
      intro p hp x hx he
      refine Ev.succ ?_
      simp only [laws_markIntS.l0]
      refine Ev.neg (Ev.eq Ev.pure ?_)
      have : x = mInts l.length := list_ext 0 (by rw [hx, mInts_len]) fun i hi => by rw [he i (by omega), mInts_get (by omega)]
      rw [this, show p = l.length from by omega]
    | succ d ih =>
      intro p hp x hx he
      refine Ev.succ ?_
      simp only [laws_markIntS.l0, Int.toNat_natCast, wrap_up (show p < 9223372036854775807 by omega), wrap_up (show p + 1 < 9223372036854775807 by omega)]
      refine Ev.pos (Ev.pos (ih (p + 1) (by omega) _ (by rw [List.length_set]; exact hx) fun i hi => ?_))
      rw [getD_set x p i _ _ (by omega)]
      by_cases e : i = p
      · rw [if_pos e, e]
      · rw [if_neg e]
        exact he i (by omega)
  simp only [laws_markIntS.f]
  exact key l.length 0 (by omega) l rfl (fun i hi => by omega)
theorem laws_heldIntS.ev {n : Nat} (h : n ≤ 1048576) : Ev (fun k => laws_heldIntS.f k (mInts n) 1) ((n + 1 : Nat) : Int) := by
  have key : ∀ (d p : Nat), p + d = n → Ev (fun k => laws_heldIntS.l0 k (mInts n) ((p + 1 : Nat) : Int) (p : Int)) ((n + 1 : Nat) : Int) := by
    intro d
    induction d with
    | zero =>
      intro p hp
      refine Ev.succ ?_
      simp only [laws_heldIntS.l0, mInts_len]
      rw [show n = p from by omega]
      exact Ev.neg Ev.pure
    | succ d ih =>
      intro p hp
      refine Ev.succ ?_
      simp only [laws_heldIntS.l0, mInts_len, rd_nat, mInts_get (show p < n by omega), wrap_up (show p < 9223372036854775807 by omega), wrap_up (show p + 1 < 9223372036854775807 by omega), if_true]
      exact Ev.pos (Ev.pos (ih (p + 1) (by omega)))
  simp only [laws_heldIntS.f]
  exact key n 0 (by omega)
/-- A row of quads marked 1, 2, .. -/
def mQ (i : Nat) : SQ := ⟨((5 * i + 1 : Nat) : Int), ((5 * i + 2 : Nat) : Int), ((5 * i + 3 : Nat) : Int), ((5 * i + 4 : Nat) : Int), ((5 * i + 5 : Nat) : Int)⟩
def mQs (n : Nat) : List SQ := (List.range n).map mQ
theorem mQs_get {n i : Nat} (h : i < n) : (mQs n).getD i z46 = mQ i := by simp [mQs, List.getD_eq_getElem?_getD, h]
theorem mQs_len (n : Nat) : (mQs n).length = n := by simp [mQs]
theorem qa_set {x : List SQ} {p : Nat} {q : SQ} (h : p < x.length) : qa (x.set p q) p = q := by
  unfold qa
  rw [getD_set x p p q _ h, if_pos rfl]
theorem laws_markQuadS.ev {l : List SQ} (h : l.length ≤ 1048576) : Ev (fun k => laws_markQuadS.f k l 1) (((5 * l.length + 1 : Nat) : Int), mQs l.length) := by
  have key : ∀ (d p : Nat), p + d = l.length → ∀ x : List SQ, x.length = l.length → (∀ i, i < p → x.getD i z46 = mQ i) → Ev (fun k => laws_markQuadS.l0 k x ((5 * p + 1 : Nat) : Int) (p : Int)) (((5 * l.length + 1 : Nat) : Int), mQs l.length) := by
    intro d
    induction d with
    | zero =>
      intro p hp x hx he
      refine Ev.succ ?_
      simp only [laws_markQuadS.l0]
      refine Ev.neg (Ev.eq Ev.pure ?_)
      have : x = mQs l.length := list_ext z46 (by rw [hx, mQs_len]) fun i hi => by rw [he i (by omega), mQs_get (by omega)]
      rw [this, show p = l.length from by omega]
    | succ d ih =>
      intro p hp x hx he
      refine Ev.succ ?_
      have w1 := wrap_up (show 5 * p + 1 < 9223372036854775807 by omega)
      have w2 := wrap_up (show 5 * p + 1 + 1 < 9223372036854775807 by omega)
      have w3 := wrap_up (show 5 * p + 1 + 1 + 1 < 9223372036854775807 by omega)
      have w4 := wrap_up (show 5 * p + 1 + 1 + 1 + 1 < 9223372036854775807 by omega)
      have w5 := wrap_up (show 5 * p + 1 + 1 + 1 + 1 + 1 < 9223372036854775807 by omega)
      simp only [laws_markQuadS.l0, rd_qa, Int.toNat_natCast, Option.bind_some, w1, w2, w3, w4, w5, wrap_up (show p < 9223372036854775807 by omega), qa_set (show p < x.length by omega), List.set_set]
      refine Ev.pos (Ev.pos ?_)
      have := ih (p + 1) (by omega) (x.set p (mQ p)) (by rw [List.length_set]; exact hx) fun i hi => by
        rw [getD_set x p i _ _ (by omega)]
        by_cases e : i = p
        · rw [if_pos e, e]
        · rw [if_neg e]
          exact he i (by omega)
      exact this
  simp only [laws_markQuadS.f]
  exact key l.length 0 (by omega) l rfl (fun i hi => by omega)
theorem laws_heldQuadS.ev {n : Nat} (h : n ≤ 1048576) : Ev (fun k => laws_heldQuadS.f k (mQs n) 1) ((5 * n + 1 : Nat) : Int) := by
  have key : ∀ (d p : Nat), p + d = n → Ev (fun k => laws_heldQuadS.l0 k (mQs n) ((5 * p + 1 : Nat) : Int) (p : Int)) ((5 * n + 1 : Nat) : Int) := by
    intro d
    induction d with
    | zero =>
      intro p hp
      refine Ev.succ ?_
      simp only [laws_heldQuadS.l0, mQs_len]
      rw [show n = p from by omega]
      exact Ev.neg Ev.pure
    | succ d ih =>
      intro p hp
      refine Ev.succ ?_
      have w1 := wrap_up (show 5 * p + 1 < 9223372036854775807 by omega)
      have w2 := wrap_up (show 5 * p + 1 + 1 < 9223372036854775807 by omega)
      have w3 := wrap_up (show 5 * p + 1 + 1 + 1 < 9223372036854775807 by omega)
      have w4 := wrap_up (show 5 * p + 1 + 1 + 1 + 1 < 9223372036854775807 by omega)
      have w5 := wrap_up (show 5 * p + 1 + 1 + 1 + 1 + 1 < 9223372036854775807 by omega)
      simp only [laws_heldQuadS.l0, mQs_len, rd_qa, show qa (mQs n) p = mQ p from mQs_get (by omega), mQ, w1, w2, w3, w4, w5, wrap_up (show p < 9223372036854775807 by omega), if_true]
      exact Ev.pos (Ev.pos (ih (p + 1) (by omega)))
  simp only [laws_heldQuadS.f]
  exact key n 0 (by omega)
theorem impl_PlacesOf.ev (c : List SQ) : ∃ v : List Int, v.length ≤ 12 ∧ Ev (fun k => spec_PlacesOf.f k c) v ∧ Ev (fun k => impl_PlacesOf.f k c) v := by
  by_cases h : CV (qs c)
  · obtain ⟨P, hl, _, e1, e2⟩ := places_ev c h
    refine ⟨ints P, by rw [ints_len]; omega, e1, ?_⟩
    simp only [impl_PlacesOf.f]
    exact Ev.bind (impl_CodeValid.ev c) (Ev.pos (Ev.bind e2 Ev.pure) (decide_eq_true h))
  · refine ⟨[], by simp, ?_, ?_⟩
    · simp only [spec_PlacesOf.f]
      exact Ev.some (Ev.bind (spec_CodeValid.ev c) (Ev.neg Ev.pure (fun x => h (of_decide_eq_true x))))
    · simp only [impl_PlacesOf.f]
      exact Ev.bind (impl_CodeValid.ev c) (Ev.neg Ev.pure (fun x => h (of_decide_eq_true x)))
end Go.Proofs.Ytahbkldagpfcaaa.M
namespace Go.Proofs.Ytahbkldagpfcaaa.M
open Go.RowKit Go.Proofs.YtahbkldagpfcaaaW.PrintWords Go.Proofs.YtahbkldagpfcaaaW.PrintLast Go.Proofs.YtahbkldagpfcaaaW.PrintMore
def impl_Quad.f (l0 : List S46) : Option (List S46) := if l0.length < 3518437208883 then some l0 else none
set_option maxRecDepth 100000 in
set_option maxHeartbeats 1000000 in
theorem impl_Quad.calls (A0 : Option Addr) (c0 : Nat) (l0 : List S46) (r : List S46) (w : World) (hr0 : Kd.C k46 w A0 l0.length l0) (hc0 : l0.length ≤ c0) (h : impl_Quad.f l0 = some r) :
    Calls Try.prog 47 #[.slice A0 l0.length c0] w fun e w' => ∃ v0_ : Value, e = .returned v0_ ∧ Kd.R k46 46 w' w.heap.size (fun _ => True) v0_ r ∧ Below w.heap.size w w' := by
  unfold impl_Quad.f at h
  split at h
  next hl =>
    injection h with h
    subst h
    have HL := Aside0.mk hl
    clear hl
    cases A0 with
    | none =>
      have e0 : l0 = [] := by
        cases l0 with
        | nil => rfl
        | cons x xs => obtain ⟨ad, _, e, _⟩ := Kd.C_get hr0 z46 0 (by omega) (by simp); cases e
      subst e0
      have he := fun (W : World) (n : Nat) => Lib.run_eql_slice_nil (P := Try.prog) W 25 46 none n c0 0 0 Try.underlying25
      go_enter Try.func47, Try.ntmps47
      go_wp2
      go_ret
      exact ⟨_, rfl, Kd.R_nil _ _ _ _ _, Below.refl _ _⟩
    | some ad =>
      have HR0 := Aside0.mk hr0
      clear hr0
      have HB := Aside0.mk (Below.refl w.heap.size w)
      have he := fun (W : World) (n : Nat) => Lib.run_eql_slice_nil (P := Try.prog) W 25 46 (some ad) n c0 0 0 Try.underlying25
      go_enter Try.func47, Try.ntmps47
      go_wp2_with (first | ((with_reducible refine gate_dst (N := 5) rfl ?_); refine Kd.R_lit k46 _ 46 ?hg (N := 5) ?hd (xs := ([] : List S46)) (inner := []) (ok := fun _ => True) (okp := fun _ => True) ?hr ?hp (fun _ hk => hk) trivial (Below.refl _ _) (Nat.le_refl _) (by simp) ?_; (case hd => rfl); (case hg => rfl); (case hr => first | (go_simp; done) | (go_simp; rfl)); (case hp => exact (Reps.none _ _)); intro v1 w1 ho hb hg_ hnew_; clear hg_ hnew_; have n0_ := Aside0.mk (below_step HB.out hb); have HO := Aside0.mk ho; clear HB; have HB := n0_; clear n0_ hb ho) | ((with_reducible refine gate_builtin (b := .append) (xs := #[.tmp 5, .tmp 6]) rfl ?_); at_builtin; refine Kd.R_append_rows k46 (w0 := w) w.heap.size rfl (.tmp 5) (.tmp 6) 25 46 (.agg #[(.int .i64 0), (.int .i64 0), (.int .i64 0), (.int .i64 0), (.int .i64 0)]) 40 rfl Try.underlying25 info46 rfl (by decide) (by omega) v1 [] l0 _ _ _ (fun _ => True) (fun _ => False) rfl rfl ?aO ?aR (fun _ _ h => h) (fun _ h => h.elim) ?aF ?aB ?aS ?aL ?_; (case aR => exact Kd.C_below HR0.out HB.out); (case aB => exact HB.out); (case aF => exact (fun _ _ => trivial)); (case aO => exact HO.out); (case aS => exact below_size HB.out); (case aL => have := HL.out; simp only [List.length_nil]; omega); intro v2 w2 ho hb hg hat; have HB2 := Aside0.mk hb; have HO2 := Aside0.mk ho; clear ho hb hg hat))
      go_ret
      exact ⟨_, rfl, HO2.out, HB2.out⟩
  next => cases h
end Go.Proofs.Ytahbkldagpfcaaa.M
namespace Go.Proofs.Ytahbkldagpfcaaa.M
open Go.RowKit Go.Proofs.YtahbkldagpfcaaaW.PrintWords Go.Proofs.YtahbkldagpfcaaaW.PrintLast Go.Proofs.YtahbkldagpfcaaaW.PrintMore
attribute [local go_sem] max2_int min2_int max_two min_two max_three min_three max_four min_four
mutual
def spec_l41Rename.j0 : Nat → List Int → Int → Int → Int → Int → Int → Option (Int × Int × Int × Int × Int)
 | 0, _, _, _, _, _, _ => none
 | k + 1, x1, x433000, x433001, x433002, x433003, x433004 => if x433000 = 2 then (spec_l41Rename.j1 k x1 x433000 (x433000 == 2) x433000 x433001 x433002 x433003 x433004) else (if x433000 = 5 then (spec_l41Rename.j1 k x1 x433000 (x433000 == 5) x433000 x433001 x433002 x433003 x433004) else (if x433000 = 6 then (spec_l41Rename.j1 k x1 x433000 (x433000 == 6) x433000 x433001 x433002 x433003 x433004) else (spec_l41Rename.j1 k x1 x433000 (x433000 == 9) x433000 x433001 x433002 x433003 x433004)))
def spec_l41Rename.j1 : Nat → List Int → Int → Bool → Int → Int → Int → Int → Int → Option (Int × Int × Int × Int × Int)
 | 0, _, _, _, _, _, _, _, _ => none
 | k + 1, x1, x15, x16, x433000, x433001, x433002, x433003, x433004 => if x16 = true then (if 0 ≤ x433002 then (if x433002 < (x1.length : Int) then (some (x433000, x433001, rd x1 x433002, x433003, x433004)) else (none)) else (none)) else (if x15 = 3 then (if 0 ≤ x433002 then (if x433002 < (x1.length : Int) then (if 0 ≤ x433003 then (if x433003 < (x1.length : Int) then (some (x433000, x433001, rd x1 x433002, rd x1 x433003, x433004)) else (none)) else (none)) else (none)) else (none)) else (some (x433000, x433001, x433002, x433003, x433004)))
end
def spec_l41Rename.f (k : Nat) (a0_0 : Int) (a0_1 : Int) (a0_2 : Int) (a0_3 : Int) (a0_4 : Int) (l1 : List Int) : Option (Int × Int × Int × Int × Int) := (spec_QuadSets.f a0_0 a0_1 a0_2 a0_3 a0_4).bind fun t434 => (if t434 ≥ 0 then (if 0 ≤ a0_1 then (if a0_1 < (l1.length : Int) then (spec_l41Rename.j0 k l1 a0_0 (rd l1 a0_1) a0_2 a0_3 a0_4) else (none)) else (none)) else (spec_l41Rename.j0 k l1 a0_0 a0_1 a0_2 a0_3 a0_4))
theorem spec_l41Rename.mono_l : ∀ k, (∀ y0 y1 y2 y3 y4 y5, LeO (spec_l41Rename.j0 k y0 y1 y2 y3 y4 y5) (spec_l41Rename.j0 (k + 1) y0 y1 y2 y3 y4 y5)) ∧ (∀ y0 y1 y2 y3 y4 y5 y6 y7, LeO (spec_l41Rename.j1 k y0 y1 y2 y3 y4 y5 y6 y7) (spec_l41Rename.j1 (k + 1) y0 y1 y2 y3 y4 y5 y6 y7))
 | 0 => ⟨fun _ _ _ _ _ _ r h => by simp [spec_l41Rename.j0] at h, fun _ _ _ _ _ _ _ _ r h => by simp [spec_l41Rename.j1] at h⟩
 | k + 1 => by
  obtain ⟨ih0, ih1⟩ := spec_l41Rename.mono_l k
  refine ⟨?_, ?_⟩
  ·intro y0 y1 y2 y3 y4 y5
   unfold spec_l41Rename.j0
   repeat' first
   | (with_reducible exact ih0 _ _ _ _ _ _)
   | (with_reducible exact ih1 _ _ _ _ _ _ _ _)
   | (with_reducible exact LeO.refl _)
   | (with_reducible exact LeO.none _)
   | (with_reducible refine LeO.ite ?_ ?_)
   | (with_reducible refine LeO.bind ?_ (fun _ => ?_))
   | exact ih0 _ _ _ _ _ _
   | exact ih1 _ _ _ _ _ _ _ _
   | exact LeO.none _
   | refine LeO.ite ?_ ?_
   | refine LeO.bind ?_ (fun _ => ?_)
  ·intro y0 y1 y2 y3 y4 y5 y6 y7
   unfold spec_l41Rename.j1
   repeat' first
   | (with_reducible exact ih0 _ _ _ _ _ _)
   | (with_reducible exact ih1 _ _ _ _ _ _ _ _)
   | (with_reducible exact LeO.refl _)
   | (with_reducible exact LeO.none _)
   | (with_reducible refine LeO.ite ?_ ?_)
   | (with_reducible refine LeO.bind ?_ (fun _ => ?_))
   | exact ih0 _ _ _ _ _ _
   | exact ih1 _ _ _ _ _ _ _ _
   | exact LeO.none _
   | refine LeO.ite ?_ ?_
   | refine LeO.bind ?_ (fun _ => ?_)
theorem spec_l41Rename.mono : ∀ a0 a1 a2 a3 a4 a5 k, LeO (spec_l41Rename.f k a0 a1 a2 a3 a4 a5) (spec_l41Rename.f (k + 1) a0 a1 a2 a3 a4 a5) := by
 intro a0 a1 a2 a3 a4 a5 k
 obtain ⟨ih0, ih1⟩ := spec_l41Rename.mono_l k
 unfold spec_l41Rename.f
 repeat' first
   | (with_reducible exact ih0 _ _ _ _ _ _)
   | (with_reducible exact ih1 _ _ _ _ _ _ _ _)
   | (with_reducible exact LeO.refl _)
   | (with_reducible exact LeO.none _)
   | (with_reducible refine LeO.ite ?_ ?_)
   | (with_reducible refine LeO.bind ?_ (fun _ => ?_))
   | exact ih0 _ _ _ _ _ _
   | exact ih1 _ _ _ _ _ _ _ _
   | exact LeO.none _
   | refine LeO.ite ?_ ?_
   | refine LeO.bind ?_ (fun _ => ?_)
set_option maxHeartbeats 8000000 in
set_option maxRecDepth 100000 in
theorem spec_l41Rename.calls (k : Nat) (a0_0 : Int) (a0_1 : Int) (a0_2 : Int) (a0_3 : Int) (a0_4 : Int) (A1 : Option Addr) (c1 : Nat) (l1 : List Int) (r1 : Int) (r2 : Int) (r3 : Int) (r4 : Int) (r5 : Int) (w : World) (hr1 : Kd.C (Kd.int .i64) w A1 l1.length l1) (hc1 : l1.length ≤ c1) (h : spec_l41Rename.f k a0_0 a0_1 a0_2 a0_3 a0_4 l1 = some (r1, r2, r3, r4, r5)) :
  Calls Try.prog 46 #[.agg #[.int .i64 a0_0, .int .i64 a0_1, .int .i64 a0_2, .int .i64 a0_3, .int .i64 a0_4], .slice A1 l1.length c1] w fun e w' => e = .returned (.agg #[.int .i64 r1, .int .i64 r2, .int .i64 r3, .int .i64 r4, .int .i64 r5]) ∧ Below w.heap.size w w' := by
 have hu46 := Try.underlying46
 have HR1 := Aside0.mk hr1
 have HC1 := Aside0.mk hc1
 clear hr1 hc1
 have HB := Aside0.mk (Below.refl w.heap.size w)
 have H : ((spec_QuadSets.f a0_0 a0_1 a0_2 a0_3 a0_4).bind fun t434 => (if t434 ≥ 0 then (if 0 ≤ a0_1 then (if a0_1 < (l1.length : Int) then (spec_l41Rename.j0 k l1 a0_0 (rd l1 a0_1) a0_2 a0_3 a0_4) else (none)) else (none)) else (spec_l41Rename.j0 k l1 a0_0 a0_1 a0_2 a0_3 a0_4))) = some (r1, r2, r3, r4, r5) := h
 clear h
 obtain ⟨t434, A3, H⟩ := qE H
 try dsimp only at H
 have HC4 := Aside0.mk H
 clear H
 go_enter Try.func46, Try.ntmps46
 go_upto_if 7 with (first | ((with_reducible refine gate_dst (N := 2) rfl ?_); refine box_event ?hg (N := 2) ?hd (cs := #[.int .i64 a0_0, .int .i64 a0_1, .int .i64 a0_2, .int .i64 a0_3, .int .i64 a0_4]) (t := 46) ?hr ?_; (case hd => rfl); (case hg => rfl); (case hr => first | (go_simp; done) | (go_simp; rfl)); intro gb432 hg w5 hbox hb; have n0_ := Aside0.mk (below_step qB hb); have n1_ := Aside0.mk (hbox); have n2_ := Aside0.mk ((by rw [hg]; exact (below_size qB) : w.heap.size ≤ gb432)); have n3_ := Aside0.mk ((by rw [hg]; exact (below_size qB) : w.heap.size ≤ gb432)); clear HB; have HB := n0_; have BK432 := n1_; have GW432 := n2_; have GE432 := n3_; clear n0_ n1_ n2_ n3_; clear hb hbox hg) | ((with_reducible refine gate_dst (N := 4) rfl ?_); refine box_event ?hg (N := 4) ?hd (cs := #[.int .i64 0, .int .i64 0, .int .i64 0, .int .i64 0, .int .i64 0]) (t := 46) ?hr ?_; (case hd => rfl); (case hg => rfl); (case hr => first | (go_simp; done) | (go_simp; rfl)); intro gb433 hg w6 hbox hb; have n0_ := Aside0.mk (blk_below (g := gb432) (o := .cells #[.int .i64 a0_0, .int .i64 a0_1, .int .i64 a0_2, .int .i64 a0_3, .int .i64 a0_4] 46 (0, 0)) (qK BK432) hb); have n1_ := Aside0.mk (below_step qB hb); have n2_ := Aside0.mk (hbox); have n3_ := Aside0.mk ((by rw [hg]; exact (below_size qB) : w.heap.size ≤ gb433)); have n4_ := Aside0.mk ((by rw [hg]; exact (below_size qB) : w.heap.size ≤ gb433)); have n5_ := Aside0.mk ((by rw [hg]; exact Nat.ne_of_lt (blk_lt (g := gb432) (o := .cells #[.int .i64 a0_0, .int .i64 a0_1, .int .i64 a0_2, .int .i64 a0_3, .int .i64 a0_4] 46 (0, 0)) (qK BK432)) : gb432 ≠ gb433)); have n6_ := Aside0.mk ((by rw [hg]; exact Nat.ne_of_gt (blk_lt (g := gb432) (o := .cells #[.int .i64 a0_0, .int .i64 a0_1, .int .i64 a0_2, .int .i64 a0_3, .int .i64 a0_4] 46 (0, 0)) (qK BK432)) : gb433 ≠ gb432)); clear BK432; clear HB; have BK432 := n0_; have HB := n1_; have BK433 := n2_; have GW433 := n3_; have GE433 := n4_; have NB432_433 := n5_; have NB433_432 := n6_; clear n0_ n1_ n2_ n3_ n4_ n5_ n6_; clear hb hbox hg; have hnb7 := NB432_433.out; have hnc7 := NB433_432.out; have hcz8_0 : w6.cell? ⟨gb432, 0, none⟩ = some (.int .i64 a0_0) := (blk_cell BK432.out 0).trans rfl; have hcz8_1 : w6.cell? ⟨gb432, 1, none⟩ = some (.int .i64 a0_1) := (blk_cell BK432.out 1).trans rfl; have hcz8_2 : w6.cell? ⟨gb432, 2, none⟩ = some (.int .i64 a0_2) := (blk_cell BK432.out 2).trans rfl; have hcz8_3 : w6.cell? ⟨gb432, 3, none⟩ = some (.int .i64 a0_3) := (blk_cell BK432.out 3).trans rfl; have hcz8_4 : w6.cell? ⟨gb432, 4, none⟩ = some (.int .i64 a0_4) := (blk_cell BK432.out 4).trans rfl; have hfz8_0 := blk_frozen BK432.out 0; have hfz8_1 := blk_frozen BK432.out 1; have hfz8_2 := blk_frozen BK432.out 2; have hfz8_3 := blk_frozen BK432.out 3; have hfz8_4 := blk_frozen BK432.out 4) | ((with_reducible refine gate_callee (f := 61) rfl ?_); refine goesL_ (some 6) rfl rfl Try.func61 (by kernel_rfl) rfl #[.agg #[.int .i64 a0_0, .int .i64 a0_1, .int .i64 a0_2, .int .i64 a0_3, .int .i64 a0_4]] rfl qM ?_; (with_reducible refine (spec_QuadSets.calls a0_0 a0_1 a0_2 a0_3 a0_4 t434 _ A3.out).mono ?_); rintro e w9 ⟨rfl, hb⟩; refine ⟨_, rfl, ?_⟩; have n0_ := Aside0.mk (blk_below (g := gb432) (o := .cells #[.int .i64 a0_0, .int .i64 a0_1, .int .i64 a0_2, .int .i64 a0_3, .int .i64 a0_4] 46 (0, 0)) (qK BK432) hb); have n1_ := Aside0.mk (blk_below (g := gb433) (o := .cells #[.int .i64 0, .int .i64 0, .int .i64 0, .int .i64 0, .int .i64 0] 46 (0, 0)) (qK BK433) hb); have n2_ := Aside0.mk (below_step qB hb); clear BK432; clear BK433; clear HB; have BK432 := n0_; have BK433 := n1_; have HB := n2_; clear n0_ n1_ n2_; (try clear hb); (try clear hb2); (try clear hk); (try clear hi)))
 (try simp only [Act.put, List.setIfInBounds_toArray, List.set_cons_zero, List.set_cons_succ])
 go_cut [] (fun wc => ∃ (kq : Nat) (x433001_3 : Int), Aside0 (spec_l41Rename.j0 kq l1 a0_0 x433001_3 a0_2 a0_3 a0_4 = some (r1, r2, r3, r4, r5)) ∧ Aside0 (kq ≤ k) ∧ Aside0 (wc.heap[gb432]? = some (.cells #[.int .i64 a0_0, .int .i64 x433001_3, .int .i64 a0_2, .int .i64 a0_3, .int .i64 a0_4] 46 (0, 0))) ∧ Aside0 (wc.heap[gb433]? = some (.cells #[.int .i64 0, .int .i64 0, .int .i64 0, .int .i64 0, .int .i64 0] 46 (0, 0))) ∧ Aside0 (Below w.heap.size w wc))
 case first =>
  have H := HC4.out
  clear HC4
  by_cases c10 : t434 ≥ 0
  ·rw [if_pos c10] at H
   have c10b0 := decide_eq_true c10
   clear c10
   (first | rw [c10b0] | (simp only [i64_w, i32_w]; rw [c10b0]) | skip)
   by_cases c11 : 0 ≤ a0_1
   ·rw [if_pos c11] at H
    have c11b0 := decide_eq_true c11
    clear c11
    by_cases c12 : a0_1 < (l1.length : Int)
    ·rw [if_pos c12] at H
     have c12b0 := decide_eq_true c12
     clear c12
     have H' := Aside0.mk H
     clear H
     have hnb13 := NB432_433.out
     have hnc13 := NB433_432.out
     have hcz14_0 : w9.cell? ⟨gb432, 0, none⟩ = some (.int .i64 a0_0) := (blk_cell BK432.out 0).trans rfl
     have hcz14_1 : w9.cell? ⟨gb432, 1, none⟩ = some (.int .i64 a0_1) := (blk_cell BK432.out 1).trans rfl
     have hcz14_2 : w9.cell? ⟨gb432, 2, none⟩ = some (.int .i64 a0_2) := (blk_cell BK432.out 2).trans rfl
     have hcz14_3 : w9.cell? ⟨gb432, 3, none⟩ = some (.int .i64 a0_3) := (blk_cell BK432.out 3).trans rfl
     have hcz14_4 : w9.cell? ⟨gb432, 4, none⟩ = some (.int .i64 a0_4) := (blk_cell BK432.out 4).trans rfl
     have hfz14_0 := blk_frozen BK432.out 0
     have hfz14_1 := blk_frozen BK432.out 1
     have hfz14_2 := blk_frozen BK432.out 2
     have hfz14_3 := blk_frozen BK432.out 3
     have hfz14_4 := blk_frozen BK432.out 4
     have p435 : 0 ≤ (a0_1 : Int) := qD
     have q435 : a0_1 < (l1.length : Int) := qD
     obtain ⟨ad435, e435, hx435_0⟩ := Kd.at_int HR1.out a0_1 p435 q435
     cases e435
     replace hx435_0 := (HB.out.cell (World.block_lt_of_cell? w _ hx435_0)).trans hx435_0
     replace p435 := eq_true p435
     replace q435 := eq_true q435
     go_wp2
     go_meet
     case rel => exact ⟨_, (rd l1 a0_1), H', ⟨by first | omega | exact Nat.le_refl _⟩, ⟨by (with_reducible repeat (first | refine blk_drewN ?_ _ | refine blk_drew ?_ | refine blk_alloc ?_ _)); refine blk_put (cs := #[.int .i64 a0_0, .int .i64 a0_1, .int .i64 a0_2, .int .i64 a0_3, .int .i64 a0_4]) ?_ 1 _ rfl; (with_reducible repeat (first | refine blk_drewN ?_ _ | refine blk_drew ?_ | refine blk_alloc ?_ _)); exact BK432.out⟩, ⟨by (with_reducible repeat (first | refine blk_drewN ?_ _ | refine blk_drew ?_ | refine blk_alloc ?_ _)); refine blk_far ?_ NB433_432.out _; (with_reducible repeat (first | refine blk_drewN ?_ _ | refine blk_drew ?_ | refine blk_alloc ?_ _)); exact BK433.out⟩, ⟨qB⟩⟩
    ·rw [if_neg c12] at H
     exact absurd H (by simp)
   ·rw [if_neg c11] at H
    exact absurd H (by simp)
  ·rw [if_neg c10] at H
   have c10b0 := decide_eq_false c10
   clear c10
   (first | rw [c10b0] | (simp only [i64_w, i32_w]; rw [c10b0]) | skip)
   have H' := Aside0.mk H
   clear H
   go_wp2
   go_meet
   case rel => exact ⟨_, (a0_1), H', ⟨by first | omega | exact Nat.le_refl _⟩, ⟨qK BK432⟩, ⟨qK BK433⟩, ⟨qB⟩⟩
 case rest =>
  clear HC4
  try clear c1; try clear p2; try clear c4; try clear p4; try clear q4; try clear hx4; try clear c6; try clear c7; try clear c10; try clear c10b0; try clear c11; try clear c11b0; try clear c12; try clear c12b0; try clear c13; try clear hcz14_0; try clear hcz14_1; try clear hcz14_2; try clear hcz14_3; try clear hcz14_4; try clear hcz8_0; try clear hcz8_1; try clear hcz8_2; try clear hcz8_3; try clear hcz8_4; try clear hfz14_0; try clear hfz14_1; try clear hfz14_2; try clear hfz14_3; try clear hfz14_4; try clear hfz8_0; try clear hfz8_1; try clear hfz8_2; try clear hfz8_3; try clear hfz8_4; try clear hx435_0; try clear p435; try clear q435
  obtain ⟨kq, x433001_3, HA, HJ3, BK432, BK433, HB⟩ := hcut
  cases kq with
  | zero => exact absurd HA.out (by simp [spec_l41Rename.j0])
  | succ kj3 =>
   have H := HA.out
   clear HA
   simp only [spec_l41Rename.j0] at H
   have HC15 := Aside0.mk H
   clear H
   have hnb16 := NB432_433.out
   have hnc16 := NB433_432.out
   have hcz17_0 : wc.cell? ⟨gb432, 0, none⟩ = some (.int .i64 a0_0) := (blk_cell BK432.out 0).trans rfl
   have hcz17_1 : wc.cell? ⟨gb432, 1, none⟩ = some (.int .i64 x433001_3) := (blk_cell BK432.out 1).trans rfl
   have hcz17_2 : wc.cell? ⟨gb432, 2, none⟩ = some (.int .i64 a0_2) := (blk_cell BK432.out 2).trans rfl
   have hcz17_3 : wc.cell? ⟨gb432, 3, none⟩ = some (.int .i64 a0_3) := (blk_cell BK432.out 3).trans rfl
   have hcz17_4 : wc.cell? ⟨gb432, 4, none⟩ = some (.int .i64 a0_4) := (blk_cell BK432.out 4).trans rfl
   have hfz17_0 := blk_frozen BK432.out 0
   have hfz17_1 := blk_frozen BK432.out 1
   have hfz17_2 := blk_frozen BK432.out 2
   have hfz17_3 := blk_frozen BK432.out 3
   have hfz17_4 := blk_frozen BK432.out 4
   go_upto_if 16 with (fail)
   go_cut [16] (fun v16 wc => ∃ (kq : Nat) (x16_14 : Bool), v16 = .bool x16_14 ∧ Aside0 (spec_l41Rename.j1 kq l1 a0_0 x16_14 a0_0 x433001_3 a0_2 a0_3 a0_4 = some (r1, r2, r3, r4, r5)) ∧ Aside0 (kq ≤ kj3) ∧ Aside0 (wc.heap[gb432]? = some (.cells #[.int .i64 a0_0, .int .i64 x433001_3, .int .i64 a0_2, .int .i64 a0_3, .int .i64 a0_4] 46 (0, 0))) ∧ Aside0 (wc.heap[gb433]? = some (.cells #[.int .i64 0, .int .i64 0, .int .i64 0, .int .i64 0, .int .i64 0] 46 (0, 0))) ∧ Aside0 (Below w.heap.size w wc))
   case first =>
    have H := HC15.out
    clear HC15
    by_cases c18 : a0_0 = 2
    ·rw [if_pos c18] at H
     have c18b0 : (a0_0 == 2) = true := beq_iff_eq.mpr c18
     have c18b1 : (a0_0 != 2) = false := bne_eq_false_iff_eq.mpr c18
     clear c18
     (first | rw [c18b0] | (simp only [i64_w, i32_w]; rw [c18b0]) | skip)
     have H' := Aside0.mk H
     clear H
     go_wp2
     go_meet
     case rel => exact ⟨_, ((a0_0 == 2)), qZ, H', ⟨by have := HJ3.out; first | omega | exact Nat.le_refl _⟩, ⟨qK BK432⟩, ⟨qK BK433⟩, ⟨qB⟩⟩
    ·rw [if_neg c18] at H
     have c18b0 : (a0_0 == 2) = false := beq_eq_false_iff_ne.mpr c18
     have c18b1 : (a0_0 != 2) = true := bne_iff_ne.mpr c18
     (first | rw [c18b0] | (simp only [i64_w, i32_w]; rw [c18b0]) | skip)
     by_cases c19 : a0_0 = 5
     ·rw [if_pos c19] at H
      have c19b0 : (a0_0 == 5) = true := beq_iff_eq.mpr c19
      have c19b1 : (a0_0 != 5) = false := bne_eq_false_iff_eq.mpr c19
      clear c19
      have H' := Aside0.mk H
      clear H
      go_wp2
      go_meet
      case rel => exact ⟨_, ((a0_0 == 5)), qZ, H', ⟨by have := HJ3.out; first | omega | exact Nat.le_refl _⟩, ⟨qK BK432⟩, ⟨qK BK433⟩, ⟨qB⟩⟩
     ·rw [if_neg c19] at H
      have c19b0 : (a0_0 == 5) = false := beq_eq_false_iff_ne.mpr c19
      have c19b1 : (a0_0 != 5) = true := bne_iff_ne.mpr c19
      by_cases c20 : a0_0 = 6
      ·rw [if_pos c20] at H
       have c20b0 : (a0_0 == 6) = true := beq_iff_eq.mpr c20
       have c20b1 : (a0_0 != 6) = false := bne_eq_false_iff_eq.mpr c20
       clear c20
       have H' := Aside0.mk H
       clear H
       go_wp2
       go_meet
       case rel => exact ⟨_, ((a0_0 == 6)), qZ, H', ⟨by have := HJ3.out; first | omega | exact Nat.le_refl _⟩, ⟨qK BK432⟩, ⟨qK BK433⟩, ⟨qB⟩⟩
      ·rw [if_neg c20] at H
       have c20b0 : (a0_0 == 6) = false := beq_eq_false_iff_ne.mpr c20
       have c20b1 : (a0_0 != 6) = true := bne_iff_ne.mpr c20
       have H' := Aside0.mk H
       clear H
       go_wp2
       go_meet
       case rel => exact ⟨_, ((a0_0 == 9)), qZ, H', ⟨by have := HJ3.out; first | omega | exact Nat.le_refl _⟩, ⟨qK BK432⟩, ⟨qK BK433⟩, ⟨qB⟩⟩
   case rest =>
    clear HC15
    try clear c1; try clear c2; try clear p2; try clear c4; try clear p4; try clear q4; try clear hx4; try clear c6; try clear c7; try clear c10; try clear c10b0; try clear c11; try clear c11b0; try clear c12; try clear c12b0; try clear c13; try clear c16; try clear c18; try clear c18b0; try clear c18b1; try clear c19; try clear c19b0; try clear c19b1; try clear c20; try clear c20b0; try clear c20b1; try clear hcz14_0; try clear hcz14_1; try clear hcz14_2; try clear hcz14_3; try clear hcz14_4; try clear hcz17_0; try clear hcz17_1; try clear hcz17_2; try clear hcz17_3; try clear hcz17_4; try clear hcz8_0; try clear hcz8_1; try clear hcz8_2; try clear hcz8_3; try clear hcz8_4; try clear hfz14_0; try clear hfz14_1; try clear hfz14_2; try clear hfz14_3; try clear hfz14_4; try clear hfz17_0; try clear hfz17_1; try clear hfz17_2; try clear hfz17_3; try clear hfz17_4; try clear hfz8_0; try clear hfz8_1; try clear hfz8_2; try clear hfz8_3; try clear hfz8_4; try clear hx435_0; try clear p2; try clear p4; try clear p435; try clear q4; try clear q435
    obtain ⟨kq, x16_14, rfl, HA, HJ14, BK432, BK433, HB⟩ := hcut
    cases kq with
    | zero => exact absurd HA.out (by simp [spec_l41Rename.j1])
    | succ kj14 =>
     have H := HA.out
     clear HA
     simp only [spec_l41Rename.j1] at H
     by_cases c21 : x16_14 = true
     ·subst c21
      rw [if_pos rfl] at H
      by_cases c22 : 0 ≤ a0_2
      ·rw [if_pos c22] at H
       have c22b0 := decide_eq_true c22
       clear c22
       by_cases c23 : a0_2 < (l1.length : Int)
       ·rw [if_pos c23] at H
        have c23b0 := decide_eq_true c23
        clear c23
        simp only [Option.some.injEq, Prod.mk.injEq] at H
        obtain ⟨rfl, rfl, rfl, rfl, rfl⟩ := H
        have hnb24 := NB432_433.out
        have hnc24 := NB433_432.out
        have hcz25_0 : wc.cell? ⟨gb432, 0, none⟩ = some (.int .i64 a0_0) := (blk_cell BK432.out 0).trans rfl
        have hcz25_1 : wc.cell? ⟨gb432, 1, none⟩ = some (.int .i64 x433001_3) := (blk_cell BK432.out 1).trans rfl
        have hcz25_2 : wc.cell? ⟨gb432, 2, none⟩ = some (.int .i64 a0_2) := (blk_cell BK432.out 2).trans rfl
        have hcz25_3 : wc.cell? ⟨gb432, 3, none⟩ = some (.int .i64 a0_3) := (blk_cell BK432.out 3).trans rfl
        have hcz25_4 : wc.cell? ⟨gb432, 4, none⟩ = some (.int .i64 a0_4) := (blk_cell BK432.out 4).trans rfl
        have hfz25_0 := blk_frozen BK432.out 0
        have hfz25_1 := blk_frozen BK432.out 1
        have hfz25_2 := blk_frozen BK432.out 2
        have hfz25_3 := blk_frozen BK432.out 3
        have hfz25_4 := blk_frozen BK432.out 4
        have p436 : 0 ≤ (a0_2 : Int) := qD
        have q436 : a0_2 < (l1.length : Int) := qD
        obtain ⟨ad436, e436, hx436_0⟩ := Kd.at_int HR1.out a0_2 p436 q436
        cases e436
        replace hx436_0 := (HB.out.cell (World.block_lt_of_cell? w _ hx436_0)).trans hx436_0
        replace p436 := eq_true p436
        replace q436 := eq_true q436
        have hcz26_0 : wc.cell? ⟨gb433, 0, none⟩ = some (.int .i64 0) := (blk_cell BK433.out 0).trans rfl
        have hcz26_1 : wc.cell? ⟨gb433, 1, none⟩ = some (.int .i64 0) := (blk_cell BK433.out 1).trans rfl
        have hcz26_2 : wc.cell? ⟨gb433, 2, none⟩ = some (.int .i64 0) := (blk_cell BK433.out 2).trans rfl
        have hcz26_3 : wc.cell? ⟨gb433, 3, none⟩ = some (.int .i64 0) := (blk_cell BK433.out 3).trans rfl
        have hcz26_4 : wc.cell? ⟨gb433, 4, none⟩ = some (.int .i64 0) := (blk_cell BK433.out 4).trans rfl
        have hfz26_0 := blk_frozen BK433.out 0
        have hfz26_1 := blk_frozen BK433.out 1
        have hfz26_2 := blk_frozen BK433.out 2
        have hfz26_3 := blk_frozen BK433.out 3
        have hfz26_4 := blk_frozen BK433.out 4
        go_wp2
        refine bodyPost_ret (results_cell_row rfl _ _ gb433 46 #[.int .i64 a0_0, .int .i64 x433001_3, .int .i64 (rd l1 a0_2), .int .i64 a0_3, .int .i64 a0_4] (0, 0) _ rfl (by (with_reducible repeat (first | refine blk_drewN ?_ _ | refine blk_drew ?_ | refine blk_alloc ?_ _)); refine blk_put (cs := #[.int .i64 a0_0, .int .i64 x433001_3, .int .i64 (rd l1 a0_2), .int .i64 a0_3, .int .i64 0]) ?_ 4 _ rfl; (with_reducible repeat (first | refine blk_drewN ?_ _ | refine blk_drew ?_ | refine blk_alloc ?_ _)); refine blk_put (cs := #[.int .i64 a0_0, .int .i64 x433001_3, .int .i64 (rd l1 a0_2), .int .i64 0, .int .i64 0]) ?_ 3 _ rfl; (with_reducible repeat (first | refine blk_drewN ?_ _ | refine blk_drew ?_ | refine blk_alloc ?_ _)); refine blk_put (cs := #[.int .i64 a0_0, .int .i64 x433001_3, .int .i64 0, .int .i64 0, .int .i64 0]) ?_ 2 _ rfl; (with_reducible repeat (first | refine blk_drewN ?_ _ | refine blk_drew ?_ | refine blk_alloc ?_ _)); refine blk_put (cs := #[.int .i64 a0_0, .int .i64 0, .int .i64 0, .int .i64 0, .int .i64 0]) ?_ 1 _ rfl; (with_reducible repeat (first | refine blk_drewN ?_ _ | refine blk_drew ?_ | refine blk_alloc ?_ _)); refine blk_put (cs := #[.int .i64 0, .int .i64 0, .int .i64 0, .int .i64 0, .int .i64 0]) ?_ 0 _ rfl; (with_reducible repeat (first | refine blk_drewN ?_ _ | refine blk_drew ?_ | refine blk_alloc ?_ _)); refine blk_far ?_ NB433_432.out _; (with_reducible repeat (first | refine blk_drewN ?_ _ | refine blk_drew ?_ | refine blk_alloc ?_ _)); exact BK433.out) Try.underlying46 rfl (by kernel_rfl)) rfl ?_
        exact ⟨by first | rfl | (simp [errW_none, errW_some] <;> rfl) | (simp [*, errW_none, errW_some] <;> rfl), qB⟩
       ·rw [if_neg c23] at H
        exact absurd H (by simp)
      ·rw [if_neg c22] at H
       exact absurd H (by simp)
     ·replace c21 := Bool.eq_false_iff.mpr c21
      subst c21
      rw [if_neg (show ¬ (false = true) by decide)] at H
      by_cases c27 : a0_0 = 3
      ·rw [if_pos c27] at H
       have c27b0 : (a0_0 == 3) = true := beq_iff_eq.mpr c27
       have c27b1 : (a0_0 != 3) = false := bne_eq_false_iff_eq.mpr c27
       clear c27
       by_cases c28 : 0 ≤ a0_2
       ·rw [if_pos c28] at H
        have c28b0 := decide_eq_true c28
        clear c28
        by_cases c29 : a0_2 < (l1.length : Int)
        ·rw [if_pos c29] at H
         have c29b0 := decide_eq_true c29
         clear c29
         by_cases c30 : 0 ≤ a0_3
         ·rw [if_pos c30] at H
          have c30b0 := decide_eq_true c30
          clear c30
          by_cases c31 : a0_3 < (l1.length : Int)
          ·rw [if_pos c31] at H
           have c31b0 := decide_eq_true c31
           clear c31
           simp only [Option.some.injEq, Prod.mk.injEq] at H
           obtain ⟨rfl, rfl, rfl, rfl, rfl⟩ := H
           have hnb32 := NB432_433.out
           have hnc32 := NB433_432.out
           have hcz33_0 : wc.cell? ⟨gb432, 0, none⟩ = some (.int .i64 a0_0) := (blk_cell BK432.out 0).trans rfl
           have hcz33_1 : wc.cell? ⟨gb432, 1, none⟩ = some (.int .i64 x433001_3) := (blk_cell BK432.out 1).trans rfl
           have hcz33_2 : wc.cell? ⟨gb432, 2, none⟩ = some (.int .i64 a0_2) := (blk_cell BK432.out 2).trans rfl
           have hcz33_3 : wc.cell? ⟨gb432, 3, none⟩ = some (.int .i64 a0_3) := (blk_cell BK432.out 3).trans rfl
           have hcz33_4 : wc.cell? ⟨gb432, 4, none⟩ = some (.int .i64 a0_4) := (blk_cell BK432.out 4).trans rfl
           have hfz33_0 := blk_frozen BK432.out 0
           have hfz33_1 := blk_frozen BK432.out 1
           have hfz33_2 := blk_frozen BK432.out 2
           have hfz33_3 := blk_frozen BK432.out 3
           have hfz33_4 := blk_frozen BK432.out 4
           have p437 : 0 ≤ (a0_2 : Int) := qD
           have q437 : a0_2 < (l1.length : Int) := qD
           obtain ⟨ad437, e437, hx437_0⟩ := Kd.at_int HR1.out a0_2 p437 q437
           cases e437
           replace hx437_0 := (HB.out.cell (World.block_lt_of_cell? w _ hx437_0)).trans hx437_0
           replace p437 := eq_true p437
           replace q437 := eq_true q437
           have p438 : 0 ≤ (a0_3 : Int) := qD
           have q438 : a0_3 < (l1.length : Int) := qD
           obtain ⟨ad438, e438, hx438_0⟩ := Kd.at_int HR1.out a0_3 p438 q438
           obtain rfl : ad437 = ad438 := (by injection e438)
           have hn438_0 : ad437.block ≠ gb432 := Nat.ne_of_lt (Nat.lt_of_lt_of_le (by have := World.block_lt_of_cell? _ _ hx438_0; first | rwa [add_block] at this | exact this) GW432.out)
           replace hx438_0 := (HB.out.cell (World.block_lt_of_cell? w _ hx438_0)).trans hx438_0
           replace hx438_0 := (cell_far (p := ⟨gb432, 2, none⟩) (by first | (rw [add_block]; exact hn438_0) | (show (Addr.add _ _).block ≠ _; rw [add_block]; exact hn438_0) | exact hn438_0) (.int .i64 (rd l1 a0_2))).trans hx438_0
           clear hn438_0
           replace p438 := eq_true p438
           replace q438 := eq_true q438
           have hcz34_0 : wc.cell? ⟨gb433, 0, none⟩ = some (.int .i64 0) := (blk_cell BK433.out 0).trans rfl
           have hcz34_1 : wc.cell? ⟨gb433, 1, none⟩ = some (.int .i64 0) := (blk_cell BK433.out 1).trans rfl
           have hcz34_2 : wc.cell? ⟨gb433, 2, none⟩ = some (.int .i64 0) := (blk_cell BK433.out 2).trans rfl
           have hcz34_3 : wc.cell? ⟨gb433, 3, none⟩ = some (.int .i64 0) := (blk_cell BK433.out 3).trans rfl
           have hcz34_4 : wc.cell? ⟨gb433, 4, none⟩ = some (.int .i64 0) := (blk_cell BK433.out 4).trans rfl
           have hfz34_0 := blk_frozen BK433.out 0
           have hfz34_1 := blk_frozen BK433.out 1
           have hfz34_2 := blk_frozen BK433.out 2
           have hfz34_3 := blk_frozen BK433.out 3
           have hfz34_4 := blk_frozen BK433.out 4
           go_wp2
           refine bodyPost_ret (results_cell_row rfl _ _ gb433 46 #[.int .i64 a0_0, .int .i64 x433001_3, .int .i64 (rd l1 a0_2), .int .i64 (rd l1 a0_3), .int .i64 a0_4] (0, 0) _ rfl (by (with_reducible repeat (first | refine blk_drewN ?_ _ | refine blk_drew ?_ | refine blk_alloc ?_ _)); refine blk_put (cs := #[.int .i64 a0_0, .int .i64 x433001_3, .int .i64 (rd l1 a0_2), .int .i64 (rd l1 a0_3), .int .i64 0]) ?_ 4 _ rfl; (with_reducible repeat (first | refine blk_drewN ?_ _ | refine blk_drew ?_ | refine blk_alloc ?_ _)); refine blk_put (cs := #[.int .i64 a0_0, .int .i64 x433001_3, .int .i64 (rd l1 a0_2), .int .i64 0, .int .i64 0]) ?_ 3 _ rfl; (with_reducible repeat (first | refine blk_drewN ?_ _ | refine blk_drew ?_ | refine blk_alloc ?_ _)); refine blk_put (cs := #[.int .i64 a0_0, .int .i64 x433001_3, .int .i64 0, .int .i64 0, .int .i64 0]) ?_ 2 _ rfl; (with_reducible repeat (first | refine blk_drewN ?_ _ | refine blk_drew ?_ | refine blk_alloc ?_ _)); refine blk_put (cs := #[.int .i64 a0_0, .int .i64 0, .int .i64 0, .int .i64 0, .int .i64 0]) ?_ 1 _ rfl; (with_reducible repeat (first | refine blk_drewN ?_ _ | refine blk_drew ?_ | refine blk_alloc ?_ _)); refine blk_put (cs := #[.int .i64 0, .int .i64 0, .int .i64 0, .int .i64 0, .int .i64 0]) ?_ 0 _ rfl; (with_reducible repeat (first | refine blk_drewN ?_ _ | refine blk_drew ?_ | refine blk_alloc ?_ _)); refine blk_far ?_ NB433_432.out _; (with_reducible repeat (first | refine blk_drewN ?_ _ | refine blk_drew ?_ | refine blk_alloc ?_ _)); refine blk_far ?_ NB433_432.out _; (with_reducible repeat (first | refine blk_drewN ?_ _ | refine blk_drew ?_ | refine blk_alloc ?_ _)); exact BK433.out) Try.underlying46 rfl (by kernel_rfl)) rfl ?_
           exact ⟨by first | rfl | (simp [errW_none, errW_some] <;> rfl) | (simp [*, errW_none, errW_some] <;> rfl), qB⟩
          ·rw [if_neg c31] at H
           exact absurd H (by simp)
         ·rw [if_neg c30] at H
          exact absurd H (by simp)
        ·rw [if_neg c29] at H
         exact absurd H (by simp)
       ·rw [if_neg c28] at H
        exact absurd H (by simp)
      ·rw [if_neg c27] at H
       have c27b0 : (a0_0 == 3) = false := beq_eq_false_iff_ne.mpr c27
       have c27b1 : (a0_0 != 3) = true := bne_iff_ne.mpr c27
       simp only [Option.some.injEq, Prod.mk.injEq] at H
       obtain ⟨rfl, rfl, rfl, rfl, rfl⟩ := H
       have hnb35 := NB432_433.out
       have hnc35 := NB433_432.out
       have hcz36_0 : wc.cell? ⟨gb432, 0, none⟩ = some (.int .i64 a0_0) := (blk_cell BK432.out 0).trans rfl
       have hcz36_1 : wc.cell? ⟨gb432, 1, none⟩ = some (.int .i64 x433001_3) := (blk_cell BK432.out 1).trans rfl
       have hcz36_2 : wc.cell? ⟨gb432, 2, none⟩ = some (.int .i64 a0_2) := (blk_cell BK432.out 2).trans rfl
       have hcz36_3 : wc.cell? ⟨gb432, 3, none⟩ = some (.int .i64 a0_3) := (blk_cell BK432.out 3).trans rfl
       have hcz36_4 : wc.cell? ⟨gb432, 4, none⟩ = some (.int .i64 a0_4) := (blk_cell BK432.out 4).trans rfl
       have hfz36_0 := blk_frozen BK432.out 0
       have hfz36_1 := blk_frozen BK432.out 1
       have hfz36_2 := blk_frozen BK432.out 2
       have hfz36_3 := blk_frozen BK432.out 3
       have hfz36_4 := blk_frozen BK432.out 4
       have hcz37_0 : wc.cell? ⟨gb433, 0, none⟩ = some (.int .i64 0) := (blk_cell BK433.out 0).trans rfl
       have hcz37_1 : wc.cell? ⟨gb433, 1, none⟩ = some (.int .i64 0) := (blk_cell BK433.out 1).trans rfl
       have hcz37_2 : wc.cell? ⟨gb433, 2, none⟩ = some (.int .i64 0) := (blk_cell BK433.out 2).trans rfl
       have hcz37_3 : wc.cell? ⟨gb433, 3, none⟩ = some (.int .i64 0) := (blk_cell BK433.out 3).trans rfl
       have hcz37_4 : wc.cell? ⟨gb433, 4, none⟩ = some (.int .i64 0) := (blk_cell BK433.out 4).trans rfl
       have hfz37_0 := blk_frozen BK433.out 0
       have hfz37_1 := blk_frozen BK433.out 1
       have hfz37_2 := blk_frozen BK433.out 2
       have hfz37_3 := blk_frozen BK433.out 3
       have hfz37_4 := blk_frozen BK433.out 4
       go_wp2
       refine bodyPost_ret (results_cell_row rfl _ _ gb433 46 #[.int .i64 a0_0, .int .i64 x433001_3, .int .i64 a0_2, .int .i64 a0_3, .int .i64 a0_4] (0, 0) _ rfl (by (with_reducible repeat (first | refine blk_drewN ?_ _ | refine blk_drew ?_ | refine blk_alloc ?_ _)); refine blk_put (cs := #[.int .i64 a0_0, .int .i64 x433001_3, .int .i64 a0_2, .int .i64 a0_3, .int .i64 0]) ?_ 4 _ rfl; (with_reducible repeat (first | refine blk_drewN ?_ _ | refine blk_drew ?_ | refine blk_alloc ?_ _)); refine blk_put (cs := #[.int .i64 a0_0, .int .i64 x433001_3, .int .i64 a0_2, .int .i64 0, .int .i64 0]) ?_ 3 _ rfl; (with_reducible repeat (first | refine blk_drewN ?_ _ | refine blk_drew ?_ | refine blk_alloc ?_ _)); refine blk_put (cs := #[.int .i64 a0_0, .int .i64 x433001_3, .int .i64 0, .int .i64 0, .int .i64 0]) ?_ 2 _ rfl; (with_reducible repeat (first | refine blk_drewN ?_ _ | refine blk_drew ?_ | refine blk_alloc ?_ _)); refine blk_put (cs := #[.int .i64 a0_0, .int .i64 0, .int .i64 0, .int .i64 0, .int .i64 0]) ?_ 1 _ rfl; (with_reducible repeat (first | refine blk_drewN ?_ _ | refine blk_drew ?_ | refine blk_alloc ?_ _)); refine blk_put (cs := #[.int .i64 0, .int .i64 0, .int .i64 0, .int .i64 0, .int .i64 0]) ?_ 0 _ rfl; (with_reducible repeat (first | refine blk_drewN ?_ _ | refine blk_drew ?_ | refine blk_alloc ?_ _)); exact BK433.out) Try.underlying46 rfl (by kernel_rfl)) rfl ?_
       exact ⟨by first | rfl | (simp [errW_none, errW_some] <;> rfl) | (simp [*, errW_none, errW_some] <;> rfl), qB⟩
def spec_PlaceCode.l0 : Nat → List (S46) → List (S46) → List Int → Int → Option ((List (S46)) × Bool)
 | 0, _, _, _, _ => none
 | k + 1, x0, x4, x5, x6 => if x6 < (x0.length : Int) then (if 0 ≤ x6 then ((spec_l41Rename.f k ((rd_T46 x0 x6).f0) ((rd_T46 x0 x6).f1) ((rd_T46 x0 x6).f2) ((rd_T46 x0 x6).f3) ((rd_T46 x0 x6).f4) x5).bind fun bt447 => (if x4.length < 3518437208883 then (spec_PlaceCode.l0 k x0 (x4 ++ [(⟨bt447.1, bt447.2.1, bt447.2.2.1, bt447.2.2.2.1, bt447.2.2.2.2⟩ : S46)]) x5 (wrap64 (x6 + 1))) else (none))) else (none)) else (some (x4, true))
def spec_PlaceCode.f (k : Nat) (l0 : List (S46)) : Option ((List (S46)) × Bool) := (some (([] : List (S46)) : List (S46))).bind fun y439 => ((spec_CodeValid.f k l0).bind fun t442 => (if t442 = true then ((spec_PlacesOf.f k l0).bind fun t443 => (spec_PlaceCode.l0 k l0 y439 t443 0)) else (some (y439, false))))
theorem spec_PlaceCode.mono_l : ∀ k, (∀ y0 y1 y2 y3, LeO (spec_PlaceCode.l0 k y0 y1 y2 y3) (spec_PlaceCode.l0 (k + 1) y0 y1 y2 y3))
 | 0 => fun _ _ _ _ r h => by simp [spec_PlaceCode.l0] at h
 | k + 1 => by
  have ih0 := spec_PlaceCode.mono_l k
  ·intro y0 y1 y2 y3
   unfold spec_PlaceCode.l0
   repeat' first
   | (with_reducible exact ih0 _ _ _ _)
   | (with_reducible exact spec_CodeValid.mono _ _)
   | (with_reducible exact spec_PlacesOf.mono _ _)
   | (with_reducible exact spec_l41Rename.mono _ _ _ _ _ _ _)
   | (with_reducible exact LeO.refl _)
   | (with_reducible exact LeO.none _)
   | (with_reducible refine LeO.ite ?_ ?_)
   | (with_reducible refine LeO.bind ?_ (fun _ => ?_))
   | exact ih0 _ _ _ _
   | exact spec_CodeValid.mono _ _
   | exact spec_PlacesOf.mono _ _
   | exact spec_l41Rename.mono _ _ _ _ _ _ _
   | exact LeO.none _
   | refine LeO.ite ?_ ?_
   | refine LeO.bind ?_ (fun _ => ?_)
theorem spec_PlaceCode.mono : ∀ a0 k, LeO (spec_PlaceCode.f k a0) (spec_PlaceCode.f (k + 1) a0) := by
 intro a0 k
 have ih0 := spec_PlaceCode.mono_l k
 unfold spec_PlaceCode.f
 repeat' first
   | (with_reducible exact ih0 _ _ _ _)
   | (with_reducible exact spec_CodeValid.mono _ _)
   | (with_reducible exact spec_PlacesOf.mono _ _)
   | (with_reducible exact spec_l41Rename.mono _ _ _ _ _ _ _)
   | (with_reducible exact LeO.refl _)
   | (with_reducible exact LeO.none _)
   | (with_reducible refine LeO.ite ?_ ?_)
   | (with_reducible refine LeO.bind ?_ (fun _ => ?_))
   | exact ih0 _ _ _ _
   | exact spec_CodeValid.mono _ _
   | exact spec_PlacesOf.mono _ _
   | exact spec_l41Rename.mono _ _ _ _ _ _ _
   | exact LeO.none _
   | refine LeO.ite ?_ ?_
   | refine LeO.bind ?_ (fun _ => ?_)
set_option maxHeartbeats 8000000 in
set_option maxRecDepth 100000 in
theorem spec_PlaceCode.calls (k : Nat) (A0 : Option Addr) (c0 : Nat) (l0 : List (S46)) (r1 : List (S46)) (r2 : Bool) (w : World) (hr0 : Kd.C k46 w A0 l0.length l0) (hc0 : l0.length ≤ c0) (h : spec_PlaceCode.f k l0 = some (r1, r2)) :
  Calls Try.prog 22 #[.slice A0 l0.length c0] w fun e w' => ∃ v0_ : Value, e = .returned (.tuple #[v0_, .bool r2]) ∧ Kd.R k46 46 w' w.heap.size (fun _ => True) v0_ r1 ∧ Below w.heap.size w w' := by
 have hu46 := Try.underlying46
 have HR0 := Aside0.mk hr0
 have HC0 := Aside0.mk hc0
 clear hr0 hc0
 have HB := Aside0.mk (Below.refl w.heap.size w)
 have H : ((some (([] : List (S46)) : List (S46))).bind fun y439 => ((spec_CodeValid.f k l0).bind fun t442 => (if t442 = true then ((spec_PlacesOf.f k l0).bind fun t443 => (spec_PlaceCode.l0 k l0 y439 t443 0)) else (some (y439, false))))) = some (r1, r2) := h
 clear h
 obtain ⟨y439, hy439⟩ : ∃ y_ : List (S46), y_ = (([] : List (S46))) := ⟨_, rfl⟩
 replace H : ((spec_CodeValid.f k l0).bind fun t442 => (if t442 = true then ((spec_PlacesOf.f k l0).bind fun t443 => (spec_PlaceCode.l0 k l0 y439 t443 0)) else (some (y439, false)))) = some (r1, r2) := by first | (rw [hy439]; with_reducible exact H) | (have H2_ := (Option.bind_some _ _).symm.trans H; rw [hy439]; with_reducible exact H2_) | (have H2_ := (Option.bind_some _ _).symm.trans H; with_reducible exact H2_) | with_reducible exact H | (rw [hy439]; exact H) | exact H
 have Ny439 := Aside0.mk hy439
 clear hy439
 obtain ⟨t442, A2, H⟩ := qE H
 try dsimp only at H
 by_cases c3 : t442 = true
 ·subst c3
  rw [if_pos rfl] at H
  obtain ⟨t443, A4, H⟩ := qE H
  try dsimp only at H
  have H' := Aside0.mk H
  clear H
  go_enter Try.func22, Try.ntmps22
  go_wp2_with (first | ((with_reducible refine gate_dst (N := 7) rfl ?_); refine Kd.R_lit k46 _ 46 ?hg (N := 7) ?hd (xs := ([] : List (S46))) (inner := []) (ok := fun _ => True) (okp := fun _ => True) ?hr ?hp (fun _ hk => hk) trivial (Below.refl _ _) (Nat.le_refl _) (by simp) ?_; (case hd => rfl); (case hg => rfl); (case hr => first | (go_simp; done) | (go_simp; rfl)); (case hp => exact (Reps.none _ _)); intro v440 w5 ho6 hb hg_ hnew_; clear hg_ hnew_; (first | rw [← Ny439.out] at ho6 | (simp only [Int.reduceToNat] at ho6; rw [← Ny439.out] at ho6)); have n0_ := Aside0.mk (Kd.R_lower ho6 (below_size qB)); have n1_ := Aside0.mk (below_step qB hb); clear HB; have HO441 := n0_; have HB := n1_; clear n0_ n1_; clear hb ho6) | ((with_reducible refine gate_callee (f := 29) rfl ?_); refine goesL_ (some 9) rfl rfl Try.func29 (by kernel_rfl) rfl #[.slice A0 l0.length c0] rfl qM ?_; (with_reducible refine (spec_CodeValid.calls k _ _ l0 true _ ?side1 ?side2 A2.out).mono ?_); (case side1 => repeat (first | exact (Kd.C_below HR0.out HB.out) | (with_reducible refine Kd.C_alloc ?_ _) | (with_reducible refine Kd.C_drewN ?_ _) | (with_reducible refine Kd.C_drew ?_))); (case side2 => exact HC0.out); rintro e w7 ⟨rfl, hb⟩; refine ⟨_, rfl, ?_⟩; have n0_ := Aside0.mk (Kd.R_below (qR HO441) hb); have n1_ := Aside0.mk (below_step qB hb); clear HO441; clear HB; have HO441 := n0_; have HB := n1_; clear n0_ n1_; (try clear hb); (try clear hb2); (try clear hk); (try clear hi)) | ((with_reducible refine gate_callee (f := 16) rfl ?_); refine goesL_ (some 13) rfl rfl Try.func16 (by kernel_rfl) rfl #[.slice A0 l0.length c0] rfl qM ?_; (with_reducible refine (spec_PlacesOf.calls k _ _ l0 t443 _ ?side1 ?side2 A4.out).mono ?_); (case side1 => repeat (first | exact (Kd.C_below HR0.out HB.out) | (with_reducible refine Kd.C_alloc ?_ _) | (with_reducible refine Kd.C_drewN ?_ _) | (with_reducible refine Kd.C_drew ?_))); (case side2 => exact HC0.out); rintro e w8 ⟨v444, rfl, ho0, hb⟩; refine ⟨_, rfl, ?_⟩; have n0_ := Aside0.mk (Kd.R_below (qR HO441) hb); have n1_ := Aside0.mk (Kd.R_lower ho0 (below_size qB)); have n2_ := Aside0.mk (below_step qB hb); clear HO441; clear HB; have HO441 := n0_; have HO445 := n1_; have HB := n2_; clear n0_ n1_ n2_; (try clear hb); (try clear hb2); (try clear hk); (try clear hi); (try clear ho0)))
  go_loopg [4, 6] k (fun kq v4 v6 w' => ∃ (x4_1 : List (S46)) (x6_1 : Int), v6 = .int .i64 x6_1 ∧ Aside0 (spec_PlaceCode.l0 kq l0 x4_1 t443 x6_1 = some (r1, r2)) ∧ Aside0 (kq ≤ k) ∧ Aside0 (Kd.R k46 46 w' w.heap.size (fun _ => True) v4 x4_1) ∧ Aside0 (Kd.R (Kd.int .i64) 3 w' w.heap.size (fun _ => True) v444 t443) ∧ Aside0 (Below w.heap.size w w'))
  case atStart => exact ⟨(y439), (0), qZ, H', ⟨Nat.le_refl _⟩, ⟨qR HO441⟩, ⟨qR HO445⟩, ⟨qB⟩⟩
  case round =>
   clear H'
   try clear c1; try clear c2; try clear p2; try clear c3
   obtain ⟨x4_1, x6_1, rfl, HA, HK1, HO_4, HO_5, HB⟩ := hrel
   cases gk with
   | zero => exact absurd HA.out (by simp [spec_PlaceCode.l0])
   | succ k1 =>
    have H := HA.out
    clear HA
    simp only [spec_PlaceCode.l0] at H
    by_cases c9 : x6_1 < (l0.length : Int)
    ·rw [if_pos c9] at H
     have c9b0 := decide_eq_true c9
     clear c9
     by_cases c10 : 0 ≤ x6_1
     ·rw [if_pos c10] at H
      have c10b0 := decide_eq_true c10
      clear c10
      obtain ⟨⟨t447, t448, t449, t450, t451⟩, A11, H⟩ := qE H
      try dsimp only at H
      by_cases c12 : x4_1.length < 3518437208883
      ·rw [if_pos c12] at H
       have LMc12 := Aside0.mk c12
       clear c12
       obtain ⟨y452, hy452⟩ : ∃ y_ : List (S46), y_ = (x4_1 ++ [(⟨t447, t448, t449, t450, t451⟩ : S46)]) := ⟨_, rfl⟩
       replace H : (spec_PlaceCode.l0 k1 l0 y452 t443 (wrap64 (x6_1 + 1))) = some (r1, r2) := by first | (rw [hy452]; with_reducible exact H) | (have H2_ := (Option.bind_some _ _).symm.trans H; rw [hy452]; with_reducible exact H2_) | (have H2_ := (Option.bind_some _ _).symm.trans H; with_reducible exact H2_) | with_reducible exact H | (rw [hy452]; exact H) | exact H
       have Ny452 := Aside0.mk hy452
       clear hy452
       have H' := Aside0.mk H
       clear H
       have p446 : 0 ≤ (x6_1 : Int) := qD
       have q446 : x6_1 < (l0.length : Int) := qD
       obtain ⟨ad446, e446, hx446_0, hx446_1, hx446_2, hx446_3, hx446_4⟩ := at_T46 HR0.out x6_1 p446 q446
       cases e446
       replace hx446_0 := (HB.out.cell (World.block_lt_of_cell? w _ hx446_0)).trans hx446_0
       replace hx446_1 := (HB.out.cell (World.block_lt_of_cell? w _ hx446_1)).trans hx446_1
       replace hx446_2 := (HB.out.cell (World.block_lt_of_cell? w _ hx446_2)).trans hx446_2
       replace hx446_3 := (HB.out.cell (World.block_lt_of_cell? w _ hx446_3)).trans hx446_3
       replace hx446_4 := (HB.out.cell (World.block_lt_of_cell? w _ hx446_4)).trans hx446_4
       replace p446 := eq_true p446
       replace q446 := eq_true q446
       obtain ⟨Ao13, co13, eo13⟩ := Kd.R_slice HO_5.out
       subst eo13
       go_wp2_with (first | ((with_reducible refine gate_callee (f := 46) rfl ?_); refine goesL_ (some 26) rfl rfl Try.func46 (by kernel_rfl) rfl #[.agg #[.int .i64 ((rd_T46 l0 x6_1).f0), .int .i64 ((rd_T46 l0 x6_1).f1), .int .i64 ((rd_T46 l0 x6_1).f2), .int .i64 ((rd_T46 l0 x6_1).f3), .int .i64 ((rd_T46 l0 x6_1).f4)], .slice Ao13 t443.length co13] rfl qM ?_; (with_reducible refine (spec_l41Rename.calls k1 ((rd_T46 l0 x6_1).f0) ((rd_T46 l0 x6_1).f1) ((rd_T46 l0 x6_1).f2) ((rd_T46 l0 x6_1).f3) ((rd_T46 l0 x6_1).f4) _ _ t443 t447 t448 t449 t450 t451 _ ?side1 ?side2 A11.out).mono ?_); (case side1 => repeat (first | exact (Kd.R_reads' HO_5.out).2.2 | (with_reducible refine Kd.C_alloc ?_ _) | (with_reducible refine Kd.C_drewN ?_ _) | (with_reducible refine Kd.C_drew ?_))); (case side2 => exact (Kd.R_reads' HO_5.out).2.1); rintro e w14 ⟨rfl, hb⟩; refine ⟨_, rfl, ?_⟩; have n0_ := Aside0.mk (Kd.R_below (qR HO_4) hb); have n1_ := Aside0.mk (Kd.R_below (qR HO_5) hb); have n2_ := Aside0.mk (below_step qB hb); clear HO_4; clear HO_5; clear HB; have HO_4 := n0_; have HO_5 := n1_; have HB := n2_; clear n0_ n1_ n2_; (try clear hb); (try clear hb2); (try clear hk); (try clear hi)) | ((with_reducible refine gate_builtin (b := .append) (xs := #[.tmp 20, .tmp 27]) rfl ?_); at_builtin; refine Kd.R_append k46 (w0 := w) w.heap.size rfl (.tmp 20) (.tmp 27) 25 46 (.agg #[(.int .i64 0), (.int .i64 0), (.int .i64 0), (.int .i64 0), (.int .i64 0)]) 40 rfl Try.underlying25 info46 rfl (by decide) (by omega) u4 x4_1 (⟨t447, t448, t449, t450, t451⟩ : S46) [.int .i64 t447, .int .i64 t448, .int .i64 t449, .int .i64 t450, .int .i64 t451] (fun _ => True) (fun _ => False) rfl rfl ?aP (fun _ hk => hk.elim) ?aF ?aO ?aB ?aS ?aL ?_; (case aP => exact k46_mkM _ _ _ (⟨t447, t448, t449, t450, t451⟩ : S46)); (case aB => exact qB); (case aF => exact (fun _ _ => trivial)); (case aO => exact (qR HO_4)); (case aS => exact (below_size qB)); (case aL => have := LMc12.out; omega); intro v453 w15 ho hb hg hat; rw [← Ny452.out] at ho; have n0_ := Aside0.mk (Kd.R_over' (qR HO_5) (Kd.R_typed (qR HO_4)) (by decide) hg); have n1_ := Aside0.mk (hb); have n2_ := Aside0.mk (ho); clear HO_5; clear HB; clear HO_4; have HO_5 := n0_; have HB := n1_; have HO454 := n2_; clear n0_ n1_ n2_; clear ho hb hg hat))
       go_roundg k1
       case measure => have := HK1.out; omega
       case rel => exact ⟨(y452), (wrap64 (x6_1 + 1)), qZ, H', ⟨by have := HK1.out; omega⟩, ⟨qR HO454⟩, ⟨qR HO_5⟩, ⟨qB⟩⟩
      ·rw [if_neg c12] at H
       exact absurd H (by simp)
     ·rw [if_neg c10] at H
      exact absurd H (by simp)
    ·rw [if_neg c9] at H
     have c9b0 := decide_eq_false c9
     clear c9
     simp only [Option.some.injEq, Prod.mk.injEq] at H
     obtain ⟨rfl, rfl⟩ := H
     go_wp2
     go_ret2
     exact ⟨_, by first | rfl | (simp [errW_none, errW_some] <;> rfl) | (simp [*, errW_none, errW_some] <;> rfl), qR HO_4, qB⟩
 ·replace c3 := Bool.eq_false_iff.mpr c3
  subst c3
  rw [if_neg (show ¬ (false = true) by decide)] at H
  simp only [Option.some.injEq, Prod.mk.injEq] at H
  obtain ⟨rfl, rfl⟩ := H
  go_enter Try.func22, Try.ntmps22
  go_wp2_with (first | ((with_reducible refine gate_dst (N := 7) rfl ?_); refine Kd.R_lit k46 _ 46 ?hg (N := 7) ?hd (xs := ([] : List (S46))) (inner := []) (ok := fun _ => True) (okp := fun _ => True) ?hr ?hp (fun _ hk => hk) trivial (Below.refl _ _) (Nat.le_refl _) (by simp) ?_; (case hd => rfl); (case hg => rfl); (case hr => first | (go_simp; done) | (go_simp; rfl)); (case hp => exact (Reps.none _ _)); intro v440 w16 ho17 hb hg_ hnew_; clear hg_ hnew_; (first | rw [← Ny439.out] at ho17 | (simp only [Int.reduceToNat] at ho17; rw [← Ny439.out] at ho17)); have n0_ := Aside0.mk (Kd.R_lower ho17 (below_size qB)); have n1_ := Aside0.mk (below_step qB hb); clear HB; have HO441 := n0_; have HB := n1_; clear n0_ n1_; clear hb ho17) | ((with_reducible refine gate_callee (f := 29) rfl ?_); refine goesL_ (some 9) rfl rfl Try.func29 (by kernel_rfl) rfl #[.slice A0 l0.length c0] rfl qM ?_; (with_reducible refine (spec_CodeValid.calls k _ _ l0 false _ ?side1 ?side2 A2.out).mono ?_); (case side1 => repeat (first | exact (Kd.C_below HR0.out HB.out) | (with_reducible refine Kd.C_alloc ?_ _) | (with_reducible refine Kd.C_drewN ?_ _) | (with_reducible refine Kd.C_drew ?_))); (case side2 => exact HC0.out); rintro e w18 ⟨rfl, hb⟩; refine ⟨_, rfl, ?_⟩; have n0_ := Aside0.mk (Kd.R_below (qR HO441) hb); have n1_ := Aside0.mk (below_step qB hb); clear HO441; clear HB; have HO441 := n0_; have HB := n1_; clear n0_ n1_; (try clear hb); (try clear hb2); (try clear hk); (try clear hi)))
  go_ret2
  exact ⟨_, by first | rfl | (simp [errW_none, errW_some] <;> rfl) | (simp [*, errW_none, errW_some] <;> rfl), qR HO441, qB⟩
def impl_PlaceCode.l0 : Nat → List Int → List (S46) → List (S46) → Int → Int → Option ((List (S46)) × Bool)
 | 0, _, _, _, _, _ => none
 | k + 1, x4, x5, x15, x16, x17 => if x17 < x16 then (if 0 ≤ x17 then (if x17 < (x15.length : Int) then (if 0 ≤ ((rd_T46 x15 x17).f1) then (if ((rd_T46 x15 x17).f1) < (x4.length : Int) then (if 0 ≤ ((rd_T46 x15 x17).f2) then (if ((rd_T46 x15 x17).f2) < (x4.length : Int) then (if 0 ≤ ((rd_T46 x15 x17).f3) then (if ((rd_T46 x15 x17).f3) < (x4.length : Int) then (if x17 < (x5.length : Int) then ((some (x5.set (x17 : Int).toNat (⟨(rd_T46 x5 x17).f0, rd x4 ((rd_T46 x15 x17).f1), (rd_T46 x5 x17).f2, (rd_T46 x5 x17).f3, (rd_T46 x5 x17).f4⟩ : S46) : List (S46))).bind fun y467 => ((some (y467.set (x17 : Int).toNat (⟨(rd_T46 y467 x17).f0, (rd_T46 y467 x17).f1, rd x4 ((rd_T46 x15 x17).f2), (rd_T46 y467 x17).f3, (rd_T46 y467 x17).f4⟩ : S46) : List (S46))).bind fun y468 => (impl_PlaceCode.l0 k x4 (y468.set (x17 : Int).toNat (⟨(rd_T46 y468 x17).f0, (rd_T46 y468 x17).f1, (rd_T46 y468 x17).f2, rd x4 ((rd_T46 x15 x17).f3), (rd_T46 y468 x17).f4⟩ : S46)) x15 x16 (wrap64 (x17 + 1))))) else (none)) else (none)) else (none)) else (none)) else (none)) else (none)) else (none)) else (none)) else (none)) else (some (x5, true))
def impl_PlaceCode.f (k : Nat) (l0 : List (S46)) : Option ((List (S46)) × Bool) := (impl_CodeValid.f k l0).bind fun t455 => (if t455 = true then ((impl_placesOf.f k l0).bind fun t456 => ((impl_Quad.f l0).bind fun t459 => (impl_PlaceCode.l0 k t456 t459 l0 (l0.length : Int) 0))) else (some (([] : List (S46)), false)))
theorem impl_PlaceCode.mono_l : ∀ k, (∀ y0 y1 y2 y3 y4, LeO (impl_PlaceCode.l0 k y0 y1 y2 y3 y4) (impl_PlaceCode.l0 (k + 1) y0 y1 y2 y3 y4))
 | 0 => fun _ _ _ _ _ r h => by simp [impl_PlaceCode.l0] at h
 | k + 1 => by
  have ih0 := impl_PlaceCode.mono_l k
  ·intro y0 y1 y2 y3 y4
   unfold impl_PlaceCode.l0
   repeat' first
   | (with_reducible exact ih0 _ _ _ _ _)
   | (with_reducible exact impl_CodeValid.mono _ _)
   | (with_reducible exact impl_placesOf.mono _ _)
   | (with_reducible exact LeO.refl _)
   | (with_reducible exact LeO.none _)
   | (with_reducible refine LeO.ite ?_ ?_)
   | (with_reducible refine LeO.bind ?_ (fun _ => ?_))
   | exact ih0 _ _ _ _ _
   | exact impl_CodeValid.mono _ _
   | exact impl_placesOf.mono _ _
   | exact LeO.none _
   | refine LeO.ite ?_ ?_
   | refine LeO.bind ?_ (fun _ => ?_)
theorem impl_PlaceCode.mono : ∀ a0 k, LeO (impl_PlaceCode.f k a0) (impl_PlaceCode.f (k + 1) a0) := by
 intro a0 k
 have ih0 := impl_PlaceCode.mono_l k
 unfold impl_PlaceCode.f
 repeat' first
   | (with_reducible exact ih0 _ _ _ _ _)
   | (with_reducible exact impl_CodeValid.mono _ _)
   | (with_reducible exact impl_placesOf.mono _ _)
   | (with_reducible exact LeO.refl _)
   | (with_reducible exact LeO.none _)
   | (with_reducible refine LeO.ite ?_ ?_)
   | (with_reducible refine LeO.bind ?_ (fun _ => ?_))
   | exact ih0 _ _ _ _ _
   | exact impl_CodeValid.mono _ _
   | exact impl_placesOf.mono _ _
   | exact LeO.none _
   | refine LeO.ite ?_ ?_
   | refine LeO.bind ?_ (fun _ => ?_)
def impl_PlaceCode.T8 : Bool × List (List Nat × List Nat) := (true, [([], []), ([], []), ([], []), ([], []), ([], []), ([], []), ([], []), ([], []), ([7], [7]), ([6, 8], [6, 8]), ([9], [9]), ([], []), ([], []), ([12], [12]), ([11, 13], [11, 13]), ([14], [14]), ([], []), ([], []), ([17], [17]), ([16, 18], [16, 18]), ([19], [19]), ([0, 1, 0, 1, 6, 7, 8, 9, 10, 15, 20], [0, 1]), ([21, 0, 1, 6, 7, 8, 9, 10, 15, 20], [21]), ([22, 10, 0, 1, 6, 7, 8, 9, 10, 15, 20], [10, 22]), ([2, 3, 0, 1, 2, 3, 6, 7, 8, 9, 10, 11, 12, 13, 14, 15, 20, 21, 22, 23], [2, 3]), ([24, 0, 1, 2, 3, 6, 7, 8, 9, 10, 11, 12, 13, 14, 15, 20, 21, 22, 23], [24]), ([25, 15, 23, 0, 1, 2, 3, 6, 7, 8, 9, 10, 11, 12, 13, 14, 15, 20, 21, 22, 23], [15, 25]), ([4, 5, 0, 1, 2, 3, 4, 5, 6, 7, 8, 9, 10, 11, 12, 13, 14, 15, 16, 17, 18, 19, 20, 21, 22, 23, 24, 25, 26], [4, 5]), ([27, 0, 1, 2, 3, 4, 5, 6, 7, 8, 9, 10, 11, 12, 13, 14, 15, 16, 17, 18, 19, 20, 21, 22, 23, 24, 25, 26], [27]), ([28, 20, 26, 0, 1, 2, 3, 4, 5, 6, 7, 8, 9, 10, 11, 12, 13, 14, 15, 16, 17, 18, 19, 20, 21, 22, 23, 24, 25, 26], [20, 28])])
def impl_PlaceCode.B8 : List Nat := [0, 0, 0, 0, 0, 0, 0, 0, 128, 448, 960, 0, 0, 4096, 14336, 30720, 0, 0, 131072, 458752, 983040, 2097091, 4194243, 8388547, 16777167, 33554383, 67108815, 134217727, 268435455, 536870911]
theorem impl_PlaceCode.tab8 : rtab .any (opsOf Try.f23 8) = impl_PlaceCode.T8 := by kernel_rfl
theorem impl_PlaceCode.bits8 : waitsOk impl_PlaceCode.T8.2 impl_PlaceCode.B8 = true := by kernel_rfl
set_option maxHeartbeats 8000000 in
set_option maxRecDepth 100000 in
theorem impl_PlaceCode.calls (k : Nat) (A0 : Option Addr) (c0 : Nat) (l0 : List (S46)) (r1 : List (S46)) (r2 : Bool) (w : World) (hr0 : Kd.C k46 w A0 l0.length l0) (hc0 : l0.length ≤ c0) (h : impl_PlaceCode.f k l0 = some (r1, r2)) :
  Calls Try.prog 23 #[.slice A0 l0.length c0] w fun e w' => ∃ v0_ : Value, e = .returned (.tuple #[v0_, .bool r2]) ∧ Kd.R k46 46 w' w.heap.size (fun _ => True) v0_ r1 ∧ Below w.heap.size w w' := by
 have hu46 := Try.underlying46
 have HR0 := Aside0.mk hr0
 have HC0 := Aside0.mk hc0
 clear hr0 hc0
 have HB := Aside0.mk (Below.refl w.heap.size w)
 have H : ((impl_CodeValid.f k l0).bind fun t455 => (if t455 = true then ((impl_placesOf.f k l0).bind fun t456 => ((impl_Quad.f l0).bind fun t459 => (impl_PlaceCode.l0 k t456 t459 l0 (l0.length : Int) 0))) else (some (([] : List (S46)), false)))) = some (r1, r2) := h
 clear h
 obtain ⟨t455, A2, H⟩ := qE H
 try dsimp only at H
 by_cases c3 : t455 = true
 ·subst c3
  rw [if_pos rfl] at H
  obtain ⟨t456, A4, H⟩ := qE H
  try dsimp only at H
  obtain ⟨t459, A5, H⟩ := qE H
  try dsimp only at H
  have H' := Aside0.mk H
  clear H
  go_enter Try.func23, Try.ntmps23
  go_wp2_with (first | ((with_reducible refine gate_callee (f := 34) rfl ?_); refine goesL_ (some 9) rfl rfl Try.func34 (by kernel_rfl) rfl #[.slice A0 l0.length c0] rfl qM ?_; (with_reducible refine (impl_CodeValid.calls k _ _ l0 true _ ?side1 ?side2 A2.out).mono ?_); (case side1 => repeat (first | exact HR0.out | (with_reducible refine Kd.C_alloc ?_ _) | (with_reducible refine Kd.C_drewN ?_ _) | (with_reducible refine Kd.C_drew ?_))); (case side2 => exact HC0.out); rintro e w6 ⟨rfl, hb⟩; refine ⟨_, rfl, ?_⟩; have n0_ := Aside0.mk (below_step qB hb); clear HB; have HB := n0_; clear n0_; (try clear hb); (try clear hb2); (try clear hk); (try clear hi)) | ((with_reducible refine gate_callee (f := 41) rfl ?_); refine goesL_ (some 12) rfl rfl Try.func41 (by kernel_rfl) rfl #[.slice A0 l0.length c0] rfl qM ?_; (with_reducible refine (impl_placesOf.calls k _ _ l0 t456 _ ?side1 ?side2 A4.out).mono ?_); (case side1 => repeat (first | exact (Kd.C_below HR0.out HB.out) | (with_reducible refine Kd.C_alloc ?_ _) | (with_reducible refine Kd.C_drewN ?_ _) | (with_reducible refine Kd.C_drew ?_))); (case side2 => exact HC0.out); rintro e w7 ⟨v457, rfl, ho0, hb⟩; refine ⟨_, rfl, ?_⟩; have n0_ := Aside0.mk (Kd.R_lower ho0 (below_size qB)); have n1_ := Aside0.mk (below_step qB hb); clear HB; have HO458 := n0_; have HB := n1_; clear n0_ n1_; (try clear hb); (try clear hb2); (try clear hk); (try clear hi); (try clear ho0)) | ((with_reducible refine gate_callee (f := 47) rfl ?_); refine goesL_ (some 14) rfl rfl Try.func47 (by kernel_rfl) rfl #[.slice A0 l0.length c0] rfl qM ?_; (with_reducible refine (impl_Quad.calls _ _ l0 t459 _ ?side1 ?side2 A5.out).mono ?_); (case side1 => repeat (first | exact (Kd.C_below HR0.out HB.out) | (with_reducible refine Kd.C_alloc ?_ _) | (with_reducible refine Kd.C_drewN ?_ _) | (with_reducible refine Kd.C_drew ?_))); (case side2 => exact HC0.out); rintro e w8 ⟨v460, rfl, ho0, hb⟩; refine ⟨_, rfl, ?_⟩; have n0_ := Aside0.mk (Kd.R_below (qR HO458) hb); have n1_ := Aside0.mk (Kd.R_lower ho0 (below_size qB)); have n2_ := Aside0.mk (below_step qB hb); clear HO458; clear HB; have HO458 := n0_; have HO461 := n1_; have HB := n2_; clear n0_ n1_ n2_; (try clear hb); (try clear hb2); (try clear hk); (try clear hi); (try clear ho0)))
  go_loopg [17] k (fun kq v17 w' => ∃ (x5_1 : List (S46)) (x17_1 : Int), v17 = .int .i64 x17_1 ∧ Aside0 (impl_PlaceCode.l0 kq t456 x5_1 l0 (l0.length : Int) x17_1 = some (r1, r2)) ∧ Aside0 (kq ≤ k) ∧ Aside0 (Kd.R (Kd.int .i64) 3 w' w.heap.size (fun _ => True) v457 t456) ∧ Aside0 (Kd.R k46 46 w' w.heap.size (fun _ => True) v460 x5_1) ∧ Aside0 (Below w.heap.size w w'))
  case atStart => exact ⟨(t459), (0), qZ, H', ⟨Nat.le_refl _⟩, ⟨qR HO458⟩, ⟨qR HO461⟩, ⟨qB⟩⟩
  case round =>
   clear H'
   try clear c2; try clear p2; try clear c3; try clear c4
   obtain ⟨x5_1, x17_1, rfl, HA, HK1, HO_4, HO_5, HB⟩ := hrel
   cases gk with
   | zero => exact absurd HA.out (by simp [impl_PlaceCode.l0])
   | succ k1 =>
    have H := HA.out
    clear HA
    simp only [impl_PlaceCode.l0] at H
    by_cases c9 : x17_1 < (l0.length : Int)
    ·rw [if_pos c9] at H
     have c9b0 := decide_eq_true c9
     clear c9
     by_cases c10 : 0 ≤ x17_1
     ·rw [if_pos c10] at H
      have c10b0 := decide_eq_true c10
      clear c10
      by_cases c11 : x17_1 < (l0.length : Int)
      ·rw [if_pos c11] at H
       have c11b0 := decide_eq_true c11
       clear c11
       by_cases c12 : 0 ≤ ((rd_T46 l0 x17_1).f1)
       ·rw [if_pos c12] at H
        have c12b0 := decide_eq_true c12
        clear c12
        by_cases c13 : ((rd_T46 l0 x17_1).f1) < (t456.length : Int)
        ·rw [if_pos c13] at H
         have c13b0 := decide_eq_true c13
         clear c13
         by_cases c14 : 0 ≤ ((rd_T46 l0 x17_1).f2)
         ·rw [if_pos c14] at H
          have c14b0 := decide_eq_true c14
          clear c14
          by_cases c15 : ((rd_T46 l0 x17_1).f2) < (t456.length : Int)
          ·rw [if_pos c15] at H
           have c15b0 := decide_eq_true c15
           clear c15
           by_cases c16 : 0 ≤ ((rd_T46 l0 x17_1).f3)
           ·rw [if_pos c16] at H
            have c16b0 := decide_eq_true c16
            clear c16
            by_cases c17 : ((rd_T46 l0 x17_1).f3) < (t456.length : Int)
            ·rw [if_pos c17] at H
             have c17b0 := decide_eq_true c17
             clear c17
             by_cases c18 : x17_1 < (x5_1.length : Int)
             ·rw [if_pos c18] at H
              have c18b0 := decide_eq_true c18
              clear c18
              obtain ⟨y467, hy467⟩ : ∃ y_ : List (S46), y_ = (x5_1.set (x17_1 : Int).toNat (⟨(rd_T46 x5_1 x17_1).f0, rd t456 ((rd_T46 l0 x17_1).f1), (rd_T46 x5_1 x17_1).f2, (rd_T46 x5_1 x17_1).f3, (rd_T46 x5_1 x17_1).f4⟩ : S46)) := ⟨_, rfl⟩
              replace H : ((some (y467.set (x17_1 : Int).toNat (⟨(rd_T46 y467 x17_1).f0, (rd_T46 y467 x17_1).f1, rd t456 ((rd_T46 l0 x17_1).f2), (rd_T46 y467 x17_1).f3, (rd_T46 y467 x17_1).f4⟩ : S46) : List (S46))).bind fun y468 => (impl_PlaceCode.l0 k1 t456 (y468.set (x17_1 : Int).toNat (⟨(rd_T46 y468 x17_1).f0, (rd_T46 y468 x17_1).f1, (rd_T46 y468 x17_1).f2, rd t456 ((rd_T46 l0 x17_1).f3), (rd_T46 y468 x17_1).f4⟩ : S46)) l0 (l0.length : Int) (wrap64 (x17_1 + 1)))) = some (r1, r2) := by first | (rw [hy467]; with_reducible exact H) | (have H2_ := (Option.bind_some _ _).symm.trans H; rw [hy467]; with_reducible exact H2_) | (have H2_ := (Option.bind_some _ _).symm.trans H; with_reducible exact H2_) | with_reducible exact H | (rw [hy467]; exact H) | exact H
              have Ny467 := Aside0.mk hy467
              clear hy467
              obtain ⟨y468, hy468⟩ : ∃ y_ : List (S46), y_ = (y467.set (x17_1 : Int).toNat (⟨(rd_T46 y467 x17_1).f0, (rd_T46 y467 x17_1).f1, rd t456 ((rd_T46 l0 x17_1).f2), (rd_T46 y467 x17_1).f3, (rd_T46 y467 x17_1).f4⟩ : S46)) := ⟨_, rfl⟩
              replace H : (impl_PlaceCode.l0 k1 t456 (y468.set (x17_1 : Int).toNat (⟨(rd_T46 y468 x17_1).f0, (rd_T46 y468 x17_1).f1, (rd_T46 y468 x17_1).f2, rd t456 ((rd_T46 l0 x17_1).f3), (rd_T46 y468 x17_1).f4⟩ : S46)) l0 (l0.length : Int) (wrap64 (x17_1 + 1))) = some (r1, r2) := by first | (rw [hy468]; with_reducible exact H) | (have H2_ := (Option.bind_some _ _).symm.trans H; rw [hy468]; with_reducible exact H2_) | (have H2_ := (Option.bind_some _ _).symm.trans H; with_reducible exact H2_) | with_reducible exact H | (rw [hy468]; exact H) | exact H
              have Ny468 := Aside0.mk hy468
              clear hy468
              obtain ⟨y469, hy469⟩ : ∃ y_ : List (S46), y_ = (y468.set (x17_1 : Int).toNat (⟨(rd_T46 y468 x17_1).f0, (rd_T46 y468 x17_1).f1, (rd_T46 y468 x17_1).f2, rd t456 ((rd_T46 l0 x17_1).f3), (rd_T46 y468 x17_1).f4⟩ : S46)) := ⟨_, rfl⟩
              replace H : (impl_PlaceCode.l0 k1 t456 y469 l0 (l0.length : Int) (wrap64 (x17_1 + 1))) = some (r1, r2) := by first | (rw [hy469]; with_reducible exact H) | (have H2_ := (Option.bind_some _ _).symm.trans H; rw [hy469]; with_reducible exact H2_) | (have H2_ := (Option.bind_some _ _).symm.trans H; with_reducible exact H2_) | with_reducible exact H | (rw [hy469]; exact H) | exact H
              have Ny469 := Aside0.mk hy469
              clear hy469
              have H' := Aside0.mk H
              clear H
              have p462 : 0 ≤ (x17_1 : Int) := qD
              have q462 : x17_1 < (l0.length : Int) := qD
              obtain ⟨ad462, e462, hx462_0, hx462_1, hx462_2, hx462_3, hx462_4⟩ := at_T46 HR0.out x17_1 p462 q462
              cases e462
              replace hx462_0 := (HB.out.cell (World.block_lt_of_cell? w _ hx462_0)).trans hx462_0
              replace hx462_1 := (HB.out.cell (World.block_lt_of_cell? w _ hx462_1)).trans hx462_1
              replace hx462_2 := (HB.out.cell (World.block_lt_of_cell? w _ hx462_2)).trans hx462_2
              replace hx462_3 := (HB.out.cell (World.block_lt_of_cell? w _ hx462_3)).trans hx462_3
              replace hx462_4 := (HB.out.cell (World.block_lt_of_cell? w _ hx462_4)).trans hx462_4
              replace p462 := eq_true p462
              replace q462 := eq_true q462
              try go_wp2_with (first | ((with_reducible refine gate_dst (N := 7) rfl ?_); refine box_event ?hg (N := 7) ?hd (cs := #[.int .i64 0, .int .i64 0, .int .i64 0, .int .i64 0, .int .i64 0]) (t := 46) ?hr ?_; (case hd => rfl); (case hg => rfl); (case hr => first | (go_simp; done) | (go_simp; rfl)); intro gb463 hg w22 hbox hb; have n0_ := Aside0.mk (Kd.R_below (qR HO_4) hb); have n1_ := Aside0.mk (Kd.R_below (Kd.R_elderB (qR HO_5) gb463 (Nat.le_of_eq hg.symm)) hb); have n2_ := Aside0.mk (below_step qB hb); have n3_ := Aside0.mk (hbox); have n4_ := Aside0.mk ((by rw [hg]; exact (below_size qB) : w.heap.size ≤ gb463)); have n5_ := Aside0.mk ((by rw [hg]; exact (below_size qB) : w.heap.size ≤ gb463)); clear HO_4; clear HO_5; clear HB; have HO_4 := n0_; have HO_5 := n1_; have HB := n2_; have BK463 := n3_; have GW463 := n4_; have GE463 := n5_; clear n0_ n1_ n2_ n3_ n4_ n5_; clear hb hbox hg; have hcz23_0 : w22.cell? ⟨gb463, 0, none⟩ = some (.int .i64 0) := (blk_cell BK463.out 0).trans rfl; have hcz23_1 : w22.cell? ⟨gb463, 1, none⟩ = some (.int .i64 0) := (blk_cell BK463.out 1).trans rfl; have hcz23_2 : w22.cell? ⟨gb463, 2, none⟩ = some (.int .i64 0) := (blk_cell BK463.out 2).trans rfl; have hcz23_3 : w22.cell? ⟨gb463, 3, none⟩ = some (.int .i64 0) := (blk_cell BK463.out 3).trans rfl; have hcz23_4 : w22.cell? ⟨gb463, 4, none⟩ = some (.int .i64 0) := (blk_cell BK463.out 4).trans rfl; have hfz23_0 := blk_frozen BK463.out 0; have hfz23_1 := blk_frozen BK463.out 1; have hfz23_2 := blk_frozen BK463.out 2; have hfz23_3 := blk_frozen BK463.out 3; have hfz23_4 := blk_frozen BK463.out 4))
              have n0_ : Aside0 (Kd.R (Kd.int .i64) 3 (((((w22.setCell ⟨gb463, 0, none⟩ (.int .i64 ((rd_T46 l0 x17_1).f0))).setCell ⟨gb463, 1, none⟩ (.int .i64 ((rd_T46 l0 x17_1).f1))).setCell ⟨gb463, 2, none⟩ (.int .i64 ((rd_T46 l0 x17_1).f2))).setCell ⟨gb463, 3, none⟩ (.int .i64 ((rd_T46 l0 x17_1).f3))).setCell ⟨gb463, 4, none⟩ (.int .i64 ((rd_T46 l0 x17_1).f4))) w.heap.size (fun _ => True) v457 t456) := ⟨by (with_reducible repeat (first | apply Kd.R_alloc | apply Kd.R_drewN | apply Kd.R_drew)); exact Kd.R_mono (Kd.R_far (p := ⟨gb463, 4, none⟩) (Kd.R_far (p := ⟨gb463, 3, none⟩) (Kd.R_far (p := ⟨gb463, 2, none⟩) (Kd.R_far (p := ⟨gb463, 1, none⟩) (Kd.R_far (p := ⟨gb463, 0, none⟩) (Kd.R_types HO_4.out BK463.out (by decide)) (fun _ hk => hk.2) (.int .i64 ((rd_T46 l0 x17_1).f0))) (fun _ hk => hk.2) (.int .i64 ((rd_T46 l0 x17_1).f1))) (fun _ hk => hk.2) (.int .i64 ((rd_T46 l0 x17_1).f2))) (fun _ hk => hk.2) (.int .i64 ((rd_T46 l0 x17_1).f3))) (fun _ hk => hk.2) (.int .i64 ((rd_T46 l0 x17_1).f4))) (fun _ hk => trivial)⟩
              have n1_ : Aside0 (Kd.R k46 46 (((((w22.setCell ⟨gb463, 0, none⟩ (.int .i64 ((rd_T46 l0 x17_1).f0))).setCell ⟨gb463, 1, none⟩ (.int .i64 ((rd_T46 l0 x17_1).f1))).setCell ⟨gb463, 2, none⟩ (.int .i64 ((rd_T46 l0 x17_1).f2))).setCell ⟨gb463, 3, none⟩ (.int .i64 ((rd_T46 l0 x17_1).f3))).setCell ⟨gb463, 4, none⟩ (.int .i64 ((rd_T46 l0 x17_1).f4))) w.heap.size (fun k_ => k_ ≠ gb463) v460 x5_1) := ⟨by (with_reducible repeat (first | apply Kd.R_alloc | apply Kd.R_drewN | apply Kd.R_drew)); exact Kd.R_mono (Kd.R_far (p := ⟨gb463, 4, none⟩) (Kd.R_far (p := ⟨gb463, 3, none⟩) (Kd.R_far (p := ⟨gb463, 2, none⟩) (Kd.R_far (p := ⟨gb463, 1, none⟩) (Kd.R_far (p := ⟨gb463, 0, none⟩) (Kd.R_mono HO_5.out (fun k_ hk => (⟨hk, hk.2⟩ : _ ∧ k_ ≠ gb463))) (fun _ hk => hk.2) (.int .i64 ((rd_T46 l0 x17_1).f0))) (fun _ hk => hk.2) (.int .i64 ((rd_T46 l0 x17_1).f1))) (fun _ hk => hk.2) (.int .i64 ((rd_T46 l0 x17_1).f2))) (fun _ hk => hk.2) (.int .i64 ((rd_T46 l0 x17_1).f3))) (fun _ hk => hk.2) (.int .i64 ((rd_T46 l0 x17_1).f4))) (fun _ hk => hk.1.2)⟩
              have n2_ : Aside0 ((((((w22.setCell ⟨gb463, 0, none⟩ (.int .i64 ((rd_T46 l0 x17_1).f0))).setCell ⟨gb463, 1, none⟩ (.int .i64 ((rd_T46 l0 x17_1).f1))).setCell ⟨gb463, 2, none⟩ (.int .i64 ((rd_T46 l0 x17_1).f2))).setCell ⟨gb463, 3, none⟩ (.int .i64 ((rd_T46 l0 x17_1).f3))).setCell ⟨gb463, 4, none⟩ (.int .i64 ((rd_T46 l0 x17_1).f4))).heap[gb463]? = some (.cells #[.int .i64 ((rd_T46 l0 x17_1).f0), .int .i64 ((rd_T46 l0 x17_1).f1), .int .i64 ((rd_T46 l0 x17_1).f2), .int .i64 ((rd_T46 l0 x17_1).f3), .int .i64 ((rd_T46 l0 x17_1).f4)] 46 (0, 0))) := ⟨by (with_reducible repeat (first | refine blk_drewN ?_ _ | refine blk_drew ?_ | refine blk_alloc ?_ _)); refine blk_put (cs := #[.int .i64 ((rd_T46 l0 x17_1).f0), .int .i64 ((rd_T46 l0 x17_1).f1), .int .i64 ((rd_T46 l0 x17_1).f2), .int .i64 ((rd_T46 l0 x17_1).f3), .int .i64 0]) ?_ 4 _ rfl; (with_reducible repeat (first | refine blk_drewN ?_ _ | refine blk_drew ?_ | refine blk_alloc ?_ _)); refine blk_put (cs := #[.int .i64 ((rd_T46 l0 x17_1).f0), .int .i64 ((rd_T46 l0 x17_1).f1), .int .i64 ((rd_T46 l0 x17_1).f2), .int .i64 0, .int .i64 0]) ?_ 3 _ rfl; (with_reducible repeat (first | refine blk_drewN ?_ _ | refine blk_drew ?_ | refine blk_alloc ?_ _)); refine blk_put (cs := #[.int .i64 ((rd_T46 l0 x17_1).f0), .int .i64 ((rd_T46 l0 x17_1).f1), .int .i64 0, .int .i64 0, .int .i64 0]) ?_ 2 _ rfl; (with_reducible repeat (first | refine blk_drewN ?_ _ | refine blk_drew ?_ | refine blk_alloc ?_ _)); refine blk_put (cs := #[.int .i64 ((rd_T46 l0 x17_1).f0), .int .i64 0, .int .i64 0, .int .i64 0, .int .i64 0]) ?_ 1 _ rfl; (with_reducible repeat (first | refine blk_drewN ?_ _ | refine blk_drew ?_ | refine blk_alloc ?_ _)); refine blk_put (cs := #[.int .i64 0, .int .i64 0, .int .i64 0, .int .i64 0, .int .i64 0]) ?_ 0 _ rfl; (with_reducible repeat (first | refine blk_drewN ?_ _ | refine blk_drew ?_ | refine blk_alloc ?_ _)); exact BK463.out⟩
              have n3_ : Aside0 (Below w.heap.size w (((((w22.setCell ⟨gb463, 0, none⟩ (.int .i64 ((rd_T46 l0 x17_1).f0))).setCell ⟨gb463, 1, none⟩ (.int .i64 ((rd_T46 l0 x17_1).f1))).setCell ⟨gb463, 2, none⟩ (.int .i64 ((rd_T46 l0 x17_1).f2))).setCell ⟨gb463, 3, none⟩ (.int .i64 ((rd_T46 l0 x17_1).f3))).setCell ⟨gb463, 4, none⟩ (.int .i64 ((rd_T46 l0 x17_1).f4)))) := ⟨qB⟩
              (try clear HO_4)
              (try clear HO_5)
              (try clear BK463)
              (try clear HB)
              generalize (((((w22.setCell ⟨gb463, 0, none⟩ (.int .i64 ((rd_T46 l0 x17_1).f0))).setCell ⟨gb463, 1, none⟩ (.int .i64 ((rd_T46 l0 x17_1).f1))).setCell ⟨gb463, 2, none⟩ (.int .i64 ((rd_T46 l0 x17_1).f2))).setCell ⟨gb463, 3, none⟩ (.int .i64 ((rd_T46 l0 x17_1).f3))).setCell ⟨gb463, 4, none⟩ (.int .i64 ((rd_T46 l0 x17_1).f4))) = w24 at n0_ n1_ n2_ n3_ ⊢
              have HO_4 := n0_
              have HO_5 := n1_
              have BK463 := n2_
              have HB := n3_
              clear n0_ n1_ n2_ n3_
              have n0_ := Aside0.mk (Kd.R_drew HO_4.out)
              have n1_ := Aside0.mk (Kd.R_drew HO_5.out)
              have n2_ := Aside0.mk (blk_drew BK463.out)
              have n3_ := Aside0.mk (below_drew1 HB.out)
              clear HO_4
              clear HO_5
              clear BK463
              clear HB
              have HO_4 := n0_
              have HO_5 := n1_
              have BK463 := n2_
              have HB := n3_
              clear n0_ n1_ n2_ n3_
              obtain ⟨Ao26, co26, eo26⟩ := Kd.R_slice HO_4.out
              (first | subst eo26 | (injection eo26 with f1_ f2_ f3_; have f4_ := f1_.symm; have f5_ := f3_.symm; clear f1_ f2_ f3_; subst f4_; subst f5_))
              have p464 : 0 ≤ (((rd_T46 l0 x17_1).f1) : Int) := qD
              have q464 : ((rd_T46 l0 x17_1).f1) < (t456.length : Int) := qD
              obtain ⟨ad464, e464, hx464_0⟩ := Kd.at_int (Kd.R_reads' HO_4.out).2.2 ((rd_T46 l0 x17_1).f1) p464 q464
              cases e464
              replace p464 := eq_true p464
              replace q464 := eq_true q464
              have p465 : 0 ≤ (((rd_T46 l0 x17_1).f2) : Int) := qD
              have q465 : ((rd_T46 l0 x17_1).f2) < (t456.length : Int) := qD
              obtain ⟨ad465, e465, hx465_0⟩ := Kd.at_int (Kd.R_reads' HO_4.out).2.2 ((rd_T46 l0 x17_1).f2) p465 q465
              obtain rfl : ad464 = ad465 := (by injection e465)
              replace p465 := eq_true p465
              replace q465 := eq_true q465
              have p466 : 0 ≤ (((rd_T46 l0 x17_1).f3) : Int) := qD
              have q466 : ((rd_T46 l0 x17_1).f3) < (t456.length : Int) := qD
              obtain ⟨ad466, e466, hx466_0⟩ := Kd.at_int (Kd.R_reads' HO_4.out).2.2 ((rd_T46 l0 x17_1).f3) p466 q466
              obtain rfl : ad464 = ad466 := (by injection e466)
              replace p466 := eq_true p466
              replace q466 := eq_true q466
              have p19 : 0 ≤ (x17_1 : Int) := qD
              have q19 : (x17_1 : Int) < ((x5_1.length : Int) : Int) := qD
              obtain ⟨go19, co19, eo19, gb19, gl19, cl19, HG19⟩ := Kd.R_form HO_5.out (by omega)
              (first | cases eo19 | (injection eo19 with ea_ en_ ec_; (first | subst ea_ | (injection ea_ with ea_; subst ea_)); subst ec_; clear en_))
              have GB19 := Aside0.mk gb19
              have GG19 := Aside0.mk HG19
              clear gb19 gl19 HG19
              obtain ⟨ce19, hcl19, hM19, hcc19, hfr19⟩ := Kd.R_elem HO_5.out z46 (x17_1 : Int) p19 q19
              obtain rfl := k46_openM hM19
              have hx19_0 : World.cell? _ ⟨go19, (x17_1 : Int).toNat * 5, none⟩ = some (.int .i64 ((rd_T46 x5_1 x17_1).f0)) := hcc19 0 _ rfl
              have hx19_1 : World.cell? _ ⟨go19, (x17_1 : Int).toNat * 5 + 1, none⟩ = some (.int .i64 ((rd_T46 x5_1 x17_1).f1)) := hcc19 1 _ rfl
              have hx19_2 : World.cell? _ ⟨go19, (x17_1 : Int).toNat * 5 + 2, none⟩ = some (.int .i64 ((rd_T46 x5_1 x17_1).f2)) := hcc19 2 _ rfl
              have hx19_3 : World.cell? _ ⟨go19, (x17_1 : Int).toNat * 5 + 3, none⟩ = some (.int .i64 ((rd_T46 x5_1 x17_1).f3)) := hcc19 3 _ rfl
              have hx19_4 : World.cell? _ ⟨go19, (x17_1 : Int).toNat * 5 + 4, none⟩ = some (.int .i64 ((rd_T46 x5_1 x17_1).f4)) := hcc19 4 _ rfl
              have hf19_0 : World.frozen? _ ⟨go19, (x17_1 : Int).toNat * 5, none⟩ = false := hfr19 0
              have hf19_1 : World.frozen? _ ⟨go19, (x17_1 : Int).toNat * 5 + 1, none⟩ = false := hfr19 1
              have hf19_2 : World.frozen? _ ⟨go19, (x17_1 : Int).toNat * 5 + 2, none⟩ = false := hfr19 2
              have hf19_3 : World.frozen? _ ⟨go19, (x17_1 : Int).toNat * 5 + 3, none⟩ = false := hfr19 3
              have hf19_4 : World.frozen? _ ⟨go19, (x17_1 : Int).toNat * 5 + 4, none⟩ = false := hfr19 4
              clear hcl19 hcc19 hfr19 hM19
              replace p19 := eq_true p19
              replace q19 := eq_true q19
              obtain ⟨ce27, hcl27, hM27, hcc27, hfr27⟩ := Kd.R_elem HO_5.out z46 (x17_1 : Int) (qD) (by have h_ : (x17_1 : Int) < ((x5_1.length : Int) : Int) := qD; first | exact h_ | (have e_ := (Kd.R_reads' HO_5.out).1; omega) | simpa using h_)
              obtain rfl := k46_openM hM27
              have HP27 := (Kd.R_seg HO_5.out (x17_1 : Int) (qD) (by have h_ : (x17_1 : Int) < ((x5_1.length : Int) : Int) := qD; first | exact h_ | (have e_ := (Kd.R_reads' HO_5.out).1; omega) | simpa using h_) (seg := [.int .i64 (rd t456 ((rd_T46 l0 x17_1).f1))]) (j := 1) hcl27 hcc27 (show 2 ≤ 5 from by decide) (x' := (⟨(rd_T46 x5_1 x17_1).f0, rd t456 ((rd_T46 l0 x17_1).f1), (rd_T46 x5_1 x17_1).f2, (rd_T46 x5_1 x17_1).f3, (rd_T46 x5_1 x17_1).f4⟩ : S46)) (k46_mkM _ _ _ (⟨(rd_T46 x5_1 x17_1).f0, rd t456 ((rd_T46 l0 x17_1).f1), (rd_T46 x5_1 x17_1).f2, (rd_T46 x5_1 x17_1).f3, (rd_T46 x5_1 x17_1).f4⟩ : S46) ) (fun _ hk => hk)).1
              rw [← Ny467.out] at HP27
              have HQ27 := Aside0.mk HP27
              clear hcl27 hcc27 hfr27 hM27 HP27
              have p20 : 0 ≤ (x17_1 : Int) := qD
              have q20 : (x17_1 : Int) < ((x5_1.length : Int) : Int) := qD
              replace p20 := eq_true p20
              replace q20 := eq_true q20
              obtain ⟨ce28, hcl28, hM28, hcc28, hfr28⟩ := Kd.R_elem HQ27.out z46 (x17_1 : Int) (qD) (by have h_ : (x17_1 : Int) < ((x5_1.length : Int) : Int) := qD; first | exact h_ | (have e_ := (Kd.R_reads' HO_5.out).1; omega) | simpa using h_)
              obtain rfl := k46_openM hM28
              have HP28 := (Kd.R_seg HQ27.out (x17_1 : Int) (qD) (by have h_ : (x17_1 : Int) < ((x5_1.length : Int) : Int) := qD; first | exact h_ | (have e_ := (Kd.R_reads' HO_5.out).1; omega) | simpa using h_) (seg := [.int .i64 (rd t456 ((rd_T46 l0 x17_1).f2))]) (j := 2) hcl28 hcc28 (show 3 ≤ 5 from by decide) (x' := (⟨(rd_T46 y467 x17_1).f0, (rd_T46 y467 x17_1).f1, rd t456 ((rd_T46 l0 x17_1).f2), (rd_T46 y467 x17_1).f3, (rd_T46 y467 x17_1).f4⟩ : S46)) (k46_mkM _ _ _ (⟨(rd_T46 y467 x17_1).f0, (rd_T46 y467 x17_1).f1, rd t456 ((rd_T46 l0 x17_1).f2), (rd_T46 y467 x17_1).f3, (rd_T46 y467 x17_1).f4⟩ : S46) ) (fun _ hk => hk)).1
              rw [← Ny468.out] at HP28
              have HQ28 := Aside0.mk HP28
              clear hcl28 hcc28 hfr28 hM28 HP28
              have p21 : 0 ≤ (x17_1 : Int) := qD
              have q21 : (x17_1 : Int) < ((x5_1.length : Int) : Int) := qD
              replace p21 := eq_true p21
              replace q21 := eq_true q21
              obtain ⟨ce29, hcl29, hM29, hcc29, hfr29⟩ := Kd.R_elem HQ28.out z46 (x17_1 : Int) (qD) (by have h_ : (x17_1 : Int) < ((x5_1.length : Int) : Int) := qD; first | exact h_ | (have e_ := (Kd.R_reads' HO_5.out).1; omega) | simpa using h_)
              obtain rfl := k46_openM hM29
              have HP29 := (Kd.R_seg HQ28.out (x17_1 : Int) (qD) (by have h_ : (x17_1 : Int) < ((x5_1.length : Int) : Int) := qD; first | exact h_ | (have e_ := (Kd.R_reads' HO_5.out).1; omega) | simpa using h_) (seg := [.int .i64 (rd t456 ((rd_T46 l0 x17_1).f3))]) (j := 3) hcl29 hcc29 (show 4 ≤ 5 from by decide) (x' := (⟨(rd_T46 y468 x17_1).f0, (rd_T46 y468 x17_1).f1, (rd_T46 y468 x17_1).f2, rd t456 ((rd_T46 l0 x17_1).f3), (rd_T46 y468 x17_1).f4⟩ : S46)) (k46_mkM _ _ _ (⟨(rd_T46 y468 x17_1).f0, (rd_T46 y468 x17_1).f1, (rd_T46 y468 x17_1).f2, rd t456 ((rd_T46 l0 x17_1).f3), (rd_T46 y468 x17_1).f4⟩ : S46) ) (fun _ hk => hk)).1
              rw [← Ny469.out] at HP29
              have HQ29 := Aside0.mk HP29
              clear hcl29 hcc29 hfr29 hM29 HP29
              refine start_ (n := 30) (S := fun w' => w'.cell? ⟨gb463, 0, none⟩ = some (.int .i64 ((rd_T46 l0 x17_1).f0)) ∧ w'.cell? ⟨gb463, 1, none⟩ = some (.int .i64 ((rd_T46 l0 x17_1).f1)) ∧ w'.cell? ⟨gb463, 2, none⟩ = some (.int .i64 ((rd_T46 l0 x17_1).f2)) ∧ w'.cell? ⟨gb463, 3, none⟩ = some (.int .i64 ((rd_T46 l0 x17_1).f3)) ∧ w'.cell? ⟨gb463, 4, none⟩ = some (.int .i64 ((rd_T46 l0 x17_1).f4)) ∧ w'.cell? (ad464.add (((rd_T46 l0 x17_1).f1)).toNat) = some (.int .i64 (rd t456 ((rd_T46 l0 x17_1).f1))) ∧ w'.cell? (ad464.add (((rd_T46 l0 x17_1).f2)).toNat) = some (.int .i64 (rd t456 ((rd_T46 l0 x17_1).f2))) ∧ w'.cell? (ad464.add (((rd_T46 l0 x17_1).f3)).toNat) = some (.int .i64 (rd t456 ((rd_T46 l0 x17_1).f3)))) (ds := [23, 26, 29]) #[false, false, false, false, false, false, false, false, false, false, false, false, false, false, false, false, false, false, false, false, false, false, false, false, false, false, false, false, false, false] (by kernel_rfl) rfl rfl ⟨(blk_cell BK463.out 0).trans rfl, (blk_cell BK463.out 1).trans rfl, (blk_cell BK463.out 2).trans rfl, (blk_cell BK463.out 3).trans rfl, (blk_cell BK463.out 4).trans rfl, hx464_0, hx465_0, hx466_0⟩ (fun hHeld => ?_); refine with_tabW impl_PlaceCode.tab8 impl_PlaceCode.bits8 (fun HT_ HW_ => ?_)
              generalize w24.drew = w25 at HO_4 HO_5 BK463 HB GG19 HQ27 HQ28 HQ29 hf19_0 hf19_1 hf19_2 hf19_3 hf19_4 hx19_0 hx19_1 hx19_2 hx19_3 hx19_4 hx464_0 hx465_0 hx466_0 hHeld ⊢
              refine pure_ (i := 0) (N := some 22) (v := ?_) (a' := ?_) #[true, false, false, false, false, false, false, false, false, false, false, false, false, false, false, false, false, false, false, false, false, false, false, false, false, false, false, false, false, false] rfl rfl (any_of HT_.out (by kernel_rfl)) (fun _ _ _ h => h) (Or.inl ⟨by rfl, ?_⟩) ?_ ?_
              rotate_left
              ·intro w'
               go_simp
               with_reducible rfl
              rotate_left
              ·simp only [Act.put, List.setIfInBounds_toArray, List.set_cons_zero, List.set_cons_succ, i64_w, i32_w]
               rfl
              refine pure_ (i := 1) (N := some 23) (v := ?_) (a' := ?_) #[true, true, false, false, false, false, false, false, false, false, false, false, false, false, false, false, false, false, false, false, false, false, false, false, false, false, false, false, false, false] rfl rfl (any_of HT_.out (by kernel_rfl)) (fun _ _ _ h => h) (Or.inl ⟨by rfl, ?_⟩) ?_ ?_
              rotate_left
              ·intro w'
               go_simp
               with_reducible rfl
              rotate_left
              ·simp only [Act.put, List.setIfInBounds_toArray, List.set_cons_zero, List.set_cons_succ, i64_w, i32_w]
               rfl
              refine pure_ (i := 2) (N := some 24) (v := ?_) (a' := ?_) #[true, true, true, false, false, false, false, false, false, false, false, false, false, false, false, false, false, false, false, false, false, false, false, false, false, false, false, false, false, false] rfl rfl (any_of HT_.out (by kernel_rfl)) (fun _ _ _ h => h) (Or.inl ⟨by rfl, ?_⟩) ?_ ?_
              rotate_left
              ·intro w'
               go_simp
               with_reducible rfl
              rotate_left
              ·simp only [Act.put, List.setIfInBounds_toArray, List.set_cons_zero, List.set_cons_succ, i64_w, i32_w]
               rfl
              refine pure_ (i := 3) (N := some 25) (v := ?_) (a' := ?_) #[true, true, true, true, false, false, false, false, false, false, false, false, false, false, false, false, false, false, false, false, false, false, false, false, false, false, false, false, false, false] rfl rfl (any_of HT_.out (by kernel_rfl)) (fun _ _ _ h => h) (Or.inl ⟨by rfl, ?_⟩) ?_ ?_
              rotate_left
              ·intro w'
               go_simp
               with_reducible rfl
              rotate_left
              ·simp only [Act.put, List.setIfInBounds_toArray, List.set_cons_zero, List.set_cons_succ, i64_w, i32_w]
               rfl
              refine pure_ (i := 4) (N := some 26) (v := ?_) (a' := ?_) #[true, true, true, true, true, false, false, false, false, false, false, false, false, false, false, false, false, false, false, false, false, false, false, false, false, false, false, false, false, false] rfl rfl (any_of HT_.out (by kernel_rfl)) (fun _ _ _ h => h) (Or.inl ⟨by rfl, ?_⟩) ?_ ?_
              rotate_left
              ·intro w'
               go_simp
               with_reducible rfl
              rotate_left
              ·simp only [Act.put, List.setIfInBounds_toArray, List.set_cons_zero, List.set_cons_succ, i64_w, i32_w]
               rfl
              refine pure_ (i := 5) (N := some 27) (v := ?_) (a' := ?_) #[true, true, true, true, true, true, false, false, false, false, false, false, false, false, false, false, false, false, false, false, false, false, false, false, false, false, false, false, false, false] rfl rfl (any_of HT_.out (by kernel_rfl)) (fun _ _ _ h => h) (Or.inl ⟨by rfl, ?_⟩) ?_ ?_
              rotate_left
              ·intro w'
               go_simp
               with_reducible rfl
              rotate_left
              ·simp only [Act.put, List.setIfInBounds_toArray, List.set_cons_zero, List.set_cons_succ, i64_w, i32_w]
               rfl
              refine pure_ (i := 6) (N := some 28) (v := ?_) (a' := ?_) #[true, true, true, true, true, true, true, false, false, false, false, false, false, false, false, false, false, false, false, false, false, false, false, false, false, false, false, false, false, false] rfl rfl (any_of HT_.out (by kernel_rfl)) (fun _ _ _ h => h) (Or.inl ⟨by rfl, ?_⟩) ?_ ?_
              rotate_left
              ·intro w'
               go_simp
               with_reducible rfl
              rotate_left
              ·simp only [Act.put, List.setIfInBounds_toArray, List.set_cons_zero, List.set_cons_succ, i64_w, i32_w]
               rfl
              refine pure_ (i := 7) (N := some 29) (v := ?_) (a' := ?_) #[true, true, true, true, true, true, true, true, false, false, false, false, false, false, false, false, false, false, false, false, false, false, false, false, false, false, false, false, false, false] rfl rfl (any_of HT_.out (by kernel_rfl)) (fun _ _ _ h => h) (Or.inl ⟨by rfl, ?_⟩) ?_ ?_
              rotate_left
              ·intro w'
               go_simp
               with_reducible rfl
              rotate_left
              ·simp only [Act.put, List.setIfInBounds_toArray, List.set_cons_zero, List.set_cons_succ, i64_w, i32_w]
               rfl
              refine pure_ (i := 11) (N := some 33) (v := ?_) (a' := ?_) #[true, true, true, true, true, true, true, true, false, false, false, true, false, false, false, false, false, false, false, false, false, false, false, false, false, false, false, false, false, false] rfl rfl (any_of HT_.out (by kernel_rfl)) (fun _ _ _ h => h) (Or.inl ⟨by rfl, ?_⟩) ?_ ?_
              rotate_left
              ·intro w'
               go_simp
               with_reducible rfl
              rotate_left
              ·simp only [Act.put, List.setIfInBounds_toArray, List.set_cons_zero, List.set_cons_succ, i64_w, i32_w]
               rfl
              refine pure_ (i := 12) (N := some 34) (v := ?_) (a' := ?_) #[true, true, true, true, true, true, true, true, false, false, false, true, true, false, false, false, false, false, false, false, false, false, false, false, false, false, false, false, false, false] rfl rfl (any_of HT_.out (by kernel_rfl)) (fun _ _ _ h => h) (Or.inl ⟨by rfl, ?_⟩) ?_ ?_
              rotate_left
              ·intro w'
               go_simp
               with_reducible rfl
              rotate_left
              ·simp only [Act.put, List.setIfInBounds_toArray, List.set_cons_zero, List.set_cons_succ, i64_w, i32_w]
               rfl
              refine pure_ (i := 16) (N := some 38) (v := ?_) (a' := ?_) #[true, true, true, true, true, true, true, true, false, false, false, true, true, false, false, false, true, false, false, false, false, false, false, false, false, false, false, false, false, false] rfl rfl (any_of HT_.out (by kernel_rfl)) (fun _ _ _ h => h) (Or.inl ⟨by rfl, ?_⟩) ?_ ?_
              rotate_left
              ·intro w'
               go_simp
               with_reducible rfl
              rotate_left
              ·simp only [Act.put, List.setIfInBounds_toArray, List.set_cons_zero, List.set_cons_succ, i64_w, i32_w]
               rfl
              refine pure_ (i := 17) (N := some 39) (v := ?_) (a' := ?_) #[true, true, true, true, true, true, true, true, false, false, false, true, true, false, false, false, true, true, false, false, false, false, false, false, false, false, false, false, false, false] rfl rfl (any_of HT_.out (by kernel_rfl)) (fun _ _ _ h => h) (Or.inl ⟨by rfl, ?_⟩) ?_ ?_
              rotate_left
              ·intro w'
               go_simp
               with_reducible rfl
              rotate_left
              ·simp only [Act.put, List.setIfInBounds_toArray, List.set_cons_zero, List.set_cons_succ, i64_w, i32_w]
               rfl
              refine take_ (i := 8) (N := some 30) (v := ?_) (a' := ?_) #[true, true, true, true, true, true, true, true, true, false, false, true, true, false, false, false, true, true, false, false, false, false, false, false, false, false, false, false, false, false] rfl rfl (take_ofW HT_.out HW_.out (by kernel_rfl)) (fun _ _ _ h => h) (Or.inl ⟨by rfl, ?_⟩) hHeld ?_ ?_
              rotate_left
              ·rintro w' ⟨s0, s1, s2, s3, s4, s5, s6, s7⟩
               go_simp
               with_reducible rfl
              rotate_left
              ·simp only [Act.put, List.setIfInBounds_toArray, List.set_cons_zero, List.set_cons_succ, i64_w, i32_w]
               rfl
              refine pure_ (i := 9) (N := some 31) (v := ?_) (a' := ?_) #[true, true, true, true, true, true, true, true, true, true, false, true, true, false, false, false, true, true, false, false, false, false, false, false, false, false, false, false, false, false] rfl rfl (any_of HT_.out (by kernel_rfl)) (fun _ _ _ h => h) (Or.inl ⟨by rfl, ?_⟩) ?_ ?_
              rotate_left
              ·intro w'
               go_simp
               with_reducible rfl
              rotate_left
              ·simp only [Act.put, List.setIfInBounds_toArray, List.set_cons_zero, List.set_cons_succ, i64_w, i32_w]
               rfl
              refine take_ (i := 10) (N := some 32) (v := ?_) (a' := ?_) #[true, true, true, true, true, true, true, true, true, true, true, true, true, false, false, false, true, true, false, false, false, false, false, false, false, false, false, false, false, false] rfl rfl (take_ofW HT_.out HW_.out (by kernel_rfl)) (fun _ _ _ h => h) (Or.inl ⟨by rfl, ?_⟩) hHeld ?_ ?_
              rotate_left
              ·rintro w' ⟨s0, s1, s2, s3, s4, s5, s6, s7⟩
               go_simp
               with_reducible rfl
              rotate_left
              ·simp only [Act.put, List.setIfInBounds_toArray, List.set_cons_zero, List.set_cons_succ, i64_w, i32_w]
               rfl
              refine take_ (i := 13) (N := some 35) (v := ?_) (a' := ?_) #[true, true, true, true, true, true, true, true, true, true, true, true, true, true, false, false, true, true, false, false, false, false, false, false, false, false, false, false, false, false] rfl rfl (take_ofW HT_.out HW_.out (by kernel_rfl)) (fun _ _ _ h => h) (Or.inl ⟨by rfl, ?_⟩) hHeld ?_ ?_
              rotate_left
              ·rintro w' ⟨s0, s1, s2, s3, s4, s5, s6, s7⟩
               go_simp
               with_reducible rfl
              rotate_left
              ·simp only [Act.put, List.setIfInBounds_toArray, List.set_cons_zero, List.set_cons_succ, i64_w, i32_w]
               rfl
              refine pure_ (i := 14) (N := some 36) (v := ?_) (a' := ?_) #[true, true, true, true, true, true, true, true, true, true, true, true, true, true, true, false, true, true, false, false, false, false, false, false, false, false, false, false, false, false] rfl rfl (any_of HT_.out (by kernel_rfl)) (fun _ _ _ h => h) (Or.inl ⟨by rfl, ?_⟩) ?_ ?_
              rotate_left
              ·intro w'
               go_simp
               with_reducible rfl
              rotate_left
              ·simp only [Act.put, List.setIfInBounds_toArray, List.set_cons_zero, List.set_cons_succ, i64_w, i32_w]
               rfl
              refine take_ (i := 15) (N := some 37) (v := ?_) (a' := ?_) #[true, true, true, true, true, true, true, true, true, true, true, true, true, true, true, true, true, true, false, false, false, false, false, false, false, false, false, false, false, false] rfl rfl (take_ofW HT_.out HW_.out (by kernel_rfl)) (fun _ _ _ h => h) (Or.inl ⟨by rfl, ?_⟩) hHeld ?_ ?_
              rotate_left
              ·rintro w' ⟨s0, s1, s2, s3, s4, s5, s6, s7⟩
               go_simp
               with_reducible rfl
              rotate_left
              ·simp only [Act.put, List.setIfInBounds_toArray, List.set_cons_zero, List.set_cons_succ, i64_w, i32_w]
               rfl
              refine take_ (i := 18) (N := some 40) (v := ?_) (a' := ?_) #[true, true, true, true, true, true, true, true, true, true, true, true, true, true, true, true, true, true, true, false, false, false, false, false, false, false, false, false, false, false] rfl rfl (take_ofW HT_.out HW_.out (by kernel_rfl)) (fun _ _ _ h => h) (Or.inl ⟨by rfl, ?_⟩) hHeld ?_ ?_
              rotate_left
              ·rintro w' ⟨s0, s1, s2, s3, s4, s5, s6, s7⟩
               go_simp
               with_reducible rfl
              rotate_left
              ·simp only [Act.put, List.setIfInBounds_toArray, List.set_cons_zero, List.set_cons_succ, i64_w, i32_w]
               rfl
              refine pure_ (i := 19) (N := some 41) (v := ?_) (a' := ?_) #[true, true, true, true, true, true, true, true, true, true, true, true, true, true, true, true, true, true, true, true, false, false, false, false, false, false, false, false, false, false] rfl rfl (any_of HT_.out (by kernel_rfl)) (fun _ _ _ h => h) (Or.inl ⟨by rfl, ?_⟩) ?_ ?_
              rotate_left
              ·intro w'
               go_simp
               with_reducible rfl
              rotate_left
              ·simp only [Act.put, List.setIfInBounds_toArray, List.set_cons_zero, List.set_cons_succ, i64_w, i32_w]
               rfl
              refine take_ (i := 20) (N := some 42) (v := ?_) (a' := ?_) #[true, true, true, true, true, true, true, true, true, true, true, true, true, true, true, true, true, true, true, true, true, false, false, false, false, false, false, false, false, false] rfl rfl (take_ofW HT_.out HW_.out (by kernel_rfl)) (fun _ _ _ h => h) (Or.inl ⟨by rfl, ?_⟩) hHeld ?_ ?_
              rotate_left
              ·rintro w' ⟨s0, s1, s2, s3, s4, s5, s6, s7⟩
               go_simp
               with_reducible rfl
              rotate_left
              ·simp only [Act.put, List.setIfInBounds_toArray, List.set_cons_zero, List.set_cons_succ, i64_w, i32_w]
               rfl
              refine pure_ (i := 21) (N := some 43) (v := ?_) (a' := ?_) #[true, true, true, true, true, true, true, true, true, true, true, true, true, true, true, true, true, true, true, true, true, true, false, false, false, false, false, false, false, false] rfl rfl (any_of HT_.out (by kernel_rfl)) (fun _ _ _ h => h) (Or.inl ⟨by rfl, ?_⟩) ?_ ?_
              rotate_left
              ·intro w'
               go_simp
               with_reducible rfl
              rotate_left
              ·simp only [Act.put, List.setIfInBounds_toArray, List.set_cons_zero, List.set_cons_succ, i64_w, i32_w]
               rfl
              refine pure_ (i := 22) (N := some 44) (v := ?_) (a' := ?_) #[true, true, true, true, true, true, true, true, true, true, true, true, true, true, true, true, true, true, true, true, true, true, true, false, false, false, false, false, false, false] rfl rfl (any_of HT_.out (by kernel_rfl)) (fun _ _ _ h => h) (Or.inl ⟨by rfl, ?_⟩) ?_ ?_
              rotate_left
              ·intro w'
               go_simp
               with_reducible rfl
              rotate_left
              ·simp only [Act.put, List.setIfInBounds_toArray, List.set_cons_zero, List.set_cons_succ, i64_w, i32_w]
               rfl
              refine last_ (i := 23) (N := none) #[true, true, true, true, true, true, true, true, true, true, true, true, true, true, true, true, true, true, true, true, true, true, true, true, false, false, false, false, false, false] rfl rfl (one_of HT_.out (by kernel_rfl)) (by decide) (fun K hK => ?_)
              refine skip_ (w1 := ?_) (by rfl) rfl ?_ ?_
              rotate_left
              ·go_simp
               rfl
              refine hK.out _ _ ?_
              clear hK K
              refine pure_ (i := 24) (N := some 45) (v := ?_) (a' := ?_) #[true, true, true, true, true, true, true, true, true, true, true, true, true, true, true, true, true, true, true, true, true, true, true, true, true, false, false, false, false, false] rfl rfl (any_of HT_.out (by kernel_rfl)) (fun _ _ _ h => h) (Or.inl ⟨by rfl, ?_⟩) ?_ ?_
              rotate_left
              ·intro w'
               go_simp
               with_reducible rfl
              rotate_left
              ·simp only [Act.put, List.setIfInBounds_toArray, List.set_cons_zero, List.set_cons_succ, i64_w, i32_w]
               rfl
              refine pure_ (i := 25) (N := some 46) (v := ?_) (a' := ?_) #[true, true, true, true, true, true, true, true, true, true, true, true, true, true, true, true, true, true, true, true, true, true, true, true, true, true, false, false, false, false] rfl rfl (any_of HT_.out (by kernel_rfl)) (fun _ _ _ h => h) (Or.inl ⟨by rfl, ?_⟩) ?_ ?_
              rotate_left
              ·intro w'
               go_simp
               with_reducible rfl
              rotate_left
              ·simp only [Act.put, List.setIfInBounds_toArray, List.set_cons_zero, List.set_cons_succ, i64_w, i32_w]
               rfl
              refine last_ (i := 26) (N := none) #[true, true, true, true, true, true, true, true, true, true, true, true, true, true, true, true, true, true, true, true, true, true, true, true, true, true, true, false, false, false] rfl rfl (one_of HT_.out (by kernel_rfl)) (by decide) (fun K hK => ?_)
              refine skip_ (w1 := ?_) (by rfl) rfl ?_ ?_
              rotate_left
              ·go_simp
               rfl
              refine hK.out _ _ ?_
              clear hK K
              refine pure_ (i := 27) (N := some 47) (v := ?_) (a' := ?_) #[true, true, true, true, true, true, true, true, true, true, true, true, true, true, true, true, true, true, true, true, true, true, true, true, true, true, true, true, false, false] rfl rfl (any_of HT_.out (by kernel_rfl)) (fun _ _ _ h => h) (Or.inl ⟨by rfl, ?_⟩) ?_ ?_
              rotate_left
              ·intro w'
               go_simp
               with_reducible rfl
              rotate_left
              ·simp only [Act.put, List.setIfInBounds_toArray, List.set_cons_zero, List.set_cons_succ, i64_w, i32_w]
               rfl
              refine pure_ (i := 28) (N := some 48) (v := ?_) (a' := ?_) #[true, true, true, true, true, true, true, true, true, true, true, true, true, true, true, true, true, true, true, true, true, true, true, true, true, true, true, true, true, false] rfl rfl (any_of HT_.out (by kernel_rfl)) (fun _ _ _ h => h) (Or.inl ⟨by rfl, ?_⟩) ?_ ?_
              rotate_left
              ·intro w'
               go_simp
               with_reducible rfl
              rotate_left
              ·simp only [Act.put, List.setIfInBounds_toArray, List.set_cons_zero, List.set_cons_succ, i64_w, i32_w]
               rfl
              refine last_ (i := 29) (N := none) #[true, true, true, true, true, true, true, true, true, true, true, true, true, true, true, true, true, true, true, true, true, true, true, true, true, true, true, true, true, true] rfl rfl (one_of HT_.out (by kernel_rfl)) (by decide) (fun K hK => ?_)
              refine skip_ (w1 := ?_) (by rfl) rfl ?_ ?_
              rotate_left
              ·go_simp
               rfl
              refine hK.out _ _ ?_
              clear hK K
              refine done_ (done_of HT_.out (by kernel_rfl)) ?_
              try go_wp2
              go_roundg k1
              case measure => have := HK1.out; omega
              case rel => exact ⟨(y469), (wrap64 (x17_1 + 1)), qZ, H', ⟨by have := HK1.out; omega⟩, ⟨by (with_reducible repeat (first | apply Kd.R_alloc | apply Kd.R_drewN | apply Kd.R_drew)); exact Kd.R_mono (Kd.R_far (p := ⟨go19, (x17_1 : Int).toNat * 5 + 3, none⟩) (Kd.R_far (p := ⟨go19, (x17_1 : Int).toNat * 5 + 2, none⟩) (Kd.R_far (p := ⟨go19, (x17_1 : Int).toNat * 5 + 1, none⟩) (Kd.R_types HO_4.out GG19.out (by decide)) (fun _ hk => hk.2) (.int .i64 (rd t456 ((rd_T46 l0 x17_1).f1)))) (fun _ hk => hk.2) (.int .i64 (rd t456 ((rd_T46 l0 x17_1).f2)))) (fun _ hk => hk.2) (.int .i64 (rd t456 ((rd_T46 l0 x17_1).f3)))) (fun _ hk => trivial)⟩, ⟨by (with_reducible repeat (first | apply Kd.R_alloc | apply Kd.R_drewN | apply Kd.R_drew)); exact Kd.R_mono HQ29.out (fun _ hk => trivial)⟩, ⟨by repeat (first | (with_reducible first | exact HB.out | apply below_alloc | apply pw_below_drewN | apply below_drew1 | refine below_set ?_ GB19.out | refine below_set ?_ GB19.out | refine below_set ?_ GB19.out | refine below_set ?_ GE463.out) | exact HB.out)⟩⟩
             ·rw [if_neg c18] at H
              exact absurd H (by simp)
            ·rw [if_neg c17] at H
             exact absurd H (by simp)
           ·rw [if_neg c16] at H
            exact absurd H (by simp)
          ·rw [if_neg c15] at H
           exact absurd H (by simp)
         ·rw [if_neg c14] at H
          exact absurd H (by simp)
        ·rw [if_neg c13] at H
         exact absurd H (by simp)
       ·rw [if_neg c12] at H
        exact absurd H (by simp)
      ·rw [if_neg c11] at H
       exact absurd H (by simp)
     ·rw [if_neg c10] at H
      exact absurd H (by simp)
    ·rw [if_neg c9] at H
     have c9b0 := decide_eq_false c9
     clear c9
     simp only [Option.some.injEq, Prod.mk.injEq] at H
     obtain ⟨rfl, rfl⟩ := H
     go_wp2
     go_ret2
     exact ⟨_, by first | rfl | (simp [errW_none, errW_some] <;> rfl) | (simp [*, errW_none, errW_some] <;> rfl), qR HO_5, qB⟩
 ·replace c3 := Bool.eq_false_iff.mpr c3
  subst c3
  rw [if_neg (show ¬ (false = true) by decide)] at H
  simp only [Option.some.injEq, Prod.mk.injEq] at H
  obtain ⟨rfl, rfl⟩ := H
  go_enter Try.func23, Try.ntmps23
  go_wp2_with (first | ((with_reducible refine gate_callee (f := 34) rfl ?_); refine goesL_ (some 9) rfl rfl Try.func34 (by kernel_rfl) rfl #[.slice A0 l0.length c0] rfl qM ?_; (with_reducible refine (impl_CodeValid.calls k _ _ l0 false _ ?side1 ?side2 A2.out).mono ?_); (case side1 => repeat (first | exact HR0.out | (with_reducible refine Kd.C_alloc ?_ _) | (with_reducible refine Kd.C_drewN ?_ _) | (with_reducible refine Kd.C_drew ?_))); (case side2 => exact HC0.out); rintro e w30 ⟨rfl, hb⟩; refine ⟨_, rfl, ?_⟩; have n0_ := Aside0.mk (below_step qB hb); clear HB; have HB := n0_; clear n0_; (try clear hb); (try clear hb2); (try clear hk); (try clear hi)))
  go_ret2
  exact ⟨_, by first | rfl | (simp [errW_none, errW_some] <;> rfl) | (simp [*, errW_none, errW_some] <;> rfl), by first | exact Kd.R_nil _ _ _ _ _ | exact Kd.N_nil _ _ _ _ _ | exact Kd.V_nil _ _ _ _ _ | exact Kd.Q_nil _ _ _ _ _ | exact Kd.S_nil _ _ _ _ _, qB⟩
mutual
def laws_FnExactPlaceCode.j0 : Nat → List (S48) → List (S46) → Bool → List (S46) → List (S46) → Bool → Bool → Option (Bool)
 | 0, _, _, _, _, _, _, _ => none
 | k + 1, x0, x4, x5, x6, x7, x8, x40 => if x40 = true then (some false) else ((laws_toQuadS.f k x0).bind fun t491 => ((laws_eqQuadS.f k x6 t491).bind fun t494 => (if t494 = true then ((laws_markQuadS.f k x6 1).bind fun bt495 => (if bt495.1 < 0 then (laws_FnExactPlaceCode.j1 k x0 x4 x5 x7 true) else ((laws_eqQuadS.f k x7 x4).bind fun t497 => (if t497 = true then (laws_FnExactPlaceCode.j1 k x0 x4 x5 x7 (x8 != x5)) else (laws_FnExactPlaceCode.j1 k x0 x4 x5 x7 true))))) else (some false))))
def laws_FnExactPlaceCode.j1 : Nat → List (S48) → List (S46) → Bool → List (S46) → Bool → Option (Bool)
 | 0, _, _, _, _, _ => none
 | k + 1, x0, x4, x5, x7, x61 => if x61 = true then (some false) else ((laws_markQuadS.f k x7 1).bind fun bt498 => ((laws_heldQuadS.f k bt498.2 1).bind fun t500 => (if t500 < 0 then (some false) else (if t500 = bt498.1 then ((laws_toQuadS.f k x0).bind fun t501 => ((impl_PlaceCode.f k t501).bind fun bt504 => ((laws_eqQuadS.f k bt504.1 x4).bind fun t508 => (if t508 = true then (laws_FnExactPlaceCode.j2 k bt498.2 bt498.1 (bt504.2 != x5)) else (laws_FnExactPlaceCode.j2 k bt498.2 bt498.1 true))))) else (some false)))))
def laws_FnExactPlaceCode.j2 : Nat → List (S46) → Int → Bool → Option (Bool)
 | 0, _, _, _ => none
 | k + 1, x7, x10, x87 => if x87 = true then (some false) else ((laws_heldQuadS.f k x7 1).bind fun t509 => (if t509 < 0 then (some false) else (if t509 = x10 then (some true) else (some false))))
end
def laws_FnExactPlaceCode.f (k : Nat) (l0 : List (S48)) : Option (Bool) := (laws_szQuadS.f l0 1048576).bind fun t475 => (if t475 < 0 then (some true) else ((laws_toQuadS.f k l0).bind fun t476 => ((spec_PlaceCode.f k t476).bind fun bt479 => ((laws_toQuadS.f k l0).bind fun t483 => ((impl_PlaceCode.f k t483).bind fun bt486 => ((laws_eqQuadS.f k bt486.1 bt479.1).bind fun t490 => (if t490 = true then (laws_FnExactPlaceCode.j0 k l0 bt479.1 bt479.2 t483 bt486.1 bt486.2 (bt486.2 != bt479.2)) else (laws_FnExactPlaceCode.j0 k l0 bt479.1 bt479.2 t483 bt486.1 bt486.2 true))))))))
theorem laws_FnExactPlaceCode.mono_l : ∀ k, (∀ y0 y1 y2 y3 y4 y5 y6, LeO (laws_FnExactPlaceCode.j0 k y0 y1 y2 y3 y4 y5 y6) (laws_FnExactPlaceCode.j0 (k + 1) y0 y1 y2 y3 y4 y5 y6)) ∧ (∀ y0 y1 y2 y3 y4, LeO (laws_FnExactPlaceCode.j1 k y0 y1 y2 y3 y4) (laws_FnExactPlaceCode.j1 (k + 1) y0 y1 y2 y3 y4)) ∧ (∀ y0 y1 y2, LeO (laws_FnExactPlaceCode.j2 k y0 y1 y2) (laws_FnExactPlaceCode.j2 (k + 1) y0 y1 y2))
 | 0 => ⟨fun _ _ _ _ _ _ _ r h => by simp [laws_FnExactPlaceCode.j0] at h, fun _ _ _ _ _ r h => by simp [laws_FnExactPlaceCode.j1] at h, fun _ _ _ r h => by simp [laws_FnExactPlaceCode.j2] at h⟩
 | k + 1 => by
  obtain ⟨ih0, ih1, ih2⟩ := laws_FnExactPlaceCode.mono_l k
  refine ⟨?_, ?_, ?_⟩
  ·intro y0 y1 y2 y3 y4 y5 y6
   unfold laws_FnExactPlaceCode.j0
   repeat' first
   | (with_reducible exact ih0 _ _ _ _ _ _ _)
   | (with_reducible exact ih1 _ _ _ _ _)
   | (with_reducible exact ih2 _ _ _)
   | (with_reducible exact impl_PlaceCode.mono _ _)
   | (with_reducible exact laws_eqQuadS.mono _ _ _)
   | (with_reducible exact laws_heldQuadS.mono _ _ _)
   | (with_reducible exact laws_markQuadS.mono _ _ _)
   | (with_reducible exact laws_toQuadS.mono _ _)
   | (with_reducible exact spec_PlaceCode.mono _ _)
   | (with_reducible exact LeO.refl _)
   | (with_reducible exact LeO.none _)
   | (with_reducible refine LeO.ite ?_ ?_)
   | (with_reducible refine LeO.bind ?_ (fun _ => ?_))
   | exact ih0 _ _ _ _ _ _ _
   | exact ih1 _ _ _ _ _
   | exact ih2 _ _ _
   | exact impl_PlaceCode.mono _ _
   | exact laws_eqQuadS.mono _ _ _
   | exact laws_heldQuadS.mono _ _ _
   | exact laws_markQuadS.mono _ _ _
   | exact laws_toQuadS.mono _ _
   | exact spec_PlaceCode.mono _ _
   | exact LeO.none _
   | refine LeO.ite ?_ ?_
   | refine LeO.bind ?_ (fun _ => ?_)
  ·intro y0 y1 y2 y3 y4
   unfold laws_FnExactPlaceCode.j1
   repeat' first
   | (with_reducible exact ih0 _ _ _ _ _ _ _)
   | (with_reducible exact ih1 _ _ _ _ _)
   | (with_reducible exact ih2 _ _ _)
   | (with_reducible exact impl_PlaceCode.mono _ _)
   | (with_reducible exact laws_eqQuadS.mono _ _ _)
   | (with_reducible exact laws_heldQuadS.mono _ _ _)
   | (with_reducible exact laws_markQuadS.mono _ _ _)
   | (with_reducible exact laws_toQuadS.mono _ _)
   | (with_reducible exact spec_PlaceCode.mono _ _)
   | (with_reducible exact LeO.refl _)
   | (with_reducible exact LeO.none _)
   | (with_reducible refine LeO.ite ?_ ?_)
   | (with_reducible refine LeO.bind ?_ (fun _ => ?_))
   | exact ih0 _ _ _ _ _ _ _
   | exact ih1 _ _ _ _ _
   | exact ih2 _ _ _
   | exact impl_PlaceCode.mono _ _
   | exact laws_eqQuadS.mono _ _ _
   | exact laws_heldQuadS.mono _ _ _
   | exact laws_markQuadS.mono _ _ _
   | exact laws_toQuadS.mono _ _
   | exact spec_PlaceCode.mono _ _
   | exact LeO.none _
   | refine LeO.ite ?_ ?_
   | refine LeO.bind ?_ (fun _ => ?_)
  ·intro y0 y1 y2
   unfold laws_FnExactPlaceCode.j2
   repeat' first
   | (with_reducible exact ih0 _ _ _ _ _ _ _)
   | (with_reducible exact ih1 _ _ _ _ _)
   | (with_reducible exact ih2 _ _ _)
   | (with_reducible exact impl_PlaceCode.mono _ _)
   | (with_reducible exact laws_eqQuadS.mono _ _ _)
   | (with_reducible exact laws_heldQuadS.mono _ _ _)
   | (with_reducible exact laws_markQuadS.mono _ _ _)
   | (with_reducible exact laws_toQuadS.mono _ _)
   | (with_reducible exact spec_PlaceCode.mono _ _)
   | (with_reducible exact LeO.refl _)
   | (with_reducible exact LeO.none _)
   | (with_reducible refine LeO.ite ?_ ?_)
   | (with_reducible refine LeO.bind ?_ (fun _ => ?_))
   | exact ih0 _ _ _ _ _ _ _
   | exact ih1 _ _ _ _ _
   | exact ih2 _ _ _
   | exact impl_PlaceCode.mono _ _
   | exact laws_eqQuadS.mono _ _ _
   | exact laws_heldQuadS.mono _ _ _
   | exact laws_markQuadS.mono _ _ _
   | exact laws_toQuadS.mono _ _
   | exact spec_PlaceCode.mono _ _
   | exact LeO.none _
   | refine LeO.ite ?_ ?_
   | refine LeO.bind ?_ (fun _ => ?_)
theorem laws_FnExactPlaceCode.mono : ∀ a0 k, LeO (laws_FnExactPlaceCode.f k a0) (laws_FnExactPlaceCode.f (k + 1) a0) := by
 intro a0 k
 obtain ⟨ih0, ih1, ih2⟩ := laws_FnExactPlaceCode.mono_l k
 unfold laws_FnExactPlaceCode.f
 repeat' first
   | (with_reducible exact ih0 _ _ _ _ _ _ _)
   | (with_reducible exact ih1 _ _ _ _ _)
   | (with_reducible exact ih2 _ _ _)
   | (with_reducible exact impl_PlaceCode.mono _ _)
   | (with_reducible exact laws_eqQuadS.mono _ _ _)
   | (with_reducible exact laws_heldQuadS.mono _ _ _)
   | (with_reducible exact laws_markQuadS.mono _ _ _)
   | (with_reducible exact laws_toQuadS.mono _ _)
   | (with_reducible exact spec_PlaceCode.mono _ _)
   | (with_reducible exact LeO.refl _)
   | (with_reducible exact LeO.none _)
   | (with_reducible refine LeO.ite ?_ ?_)
   | (with_reducible refine LeO.bind ?_ (fun _ => ?_))
   | exact ih0 _ _ _ _ _ _ _
   | exact ih1 _ _ _ _ _
   | exact ih2 _ _ _
   | exact impl_PlaceCode.mono _ _
   | exact laws_eqQuadS.mono _ _ _
   | exact laws_heldQuadS.mono _ _ _
   | exact laws_markQuadS.mono _ _ _
   | exact laws_toQuadS.mono _ _
   | exact spec_PlaceCode.mono _ _
   | exact LeO.none _
   | refine LeO.ite ?_ ?_
   | refine LeO.bind ?_ (fun _ => ?_)
set_option maxHeartbeats 8000000 in
set_option maxRecDepth 100000 in
theorem laws_FnExactPlaceCode.calls (k : Nat) (A0 : Option Addr) (c0 : Nat) (l0 : List (S48)) (r : Bool) (w : World) (hr0 : Kd.C k48 w A0 l0.length l0) (hc0 : l0.length ≤ c0) (h : laws_FnExactPlaceCode.f k l0 = some r) :
  Calls Try.prog 6 #[.slice A0 l0.length c0] w fun e w' => e = .returned (.bool r) ∧ Below w.heap.size w w' := by
 have HR0 := Aside0.mk hr0
 have HC0 := Aside0.mk hc0
 clear hr0 hc0
 have HB := Aside0.mk (Below.refl w.heap.size w)
 have H : ((laws_szQuadS.f l0 1048576).bind fun t475 => (if t475 < 0 then (some true) else ((laws_toQuadS.f k l0).bind fun t476 => ((spec_PlaceCode.f k t476).bind fun bt479 => ((laws_toQuadS.f k l0).bind fun t483 => ((impl_PlaceCode.f k t483).bind fun bt486 => ((laws_eqQuadS.f k bt486.1 bt479.1).bind fun t490 => (if t490 = true then (laws_FnExactPlaceCode.j0 k l0 bt479.1 bt479.2 t483 bt486.1 bt486.2 (bt486.2 != bt479.2)) else (laws_FnExactPlaceCode.j0 k l0 bt479.1 bt479.2 t483 bt486.1 bt486.2 true))))))))) = some r := h
 clear h
 obtain ⟨t475, A2, H⟩ := qE H
 try dsimp only at H
 by_cases c3 : t475 < 0
 ·rw [if_pos c3] at H
  have c3b0 := decide_eq_true c3
  clear c3
  obtain rfl := Option.some.inj H
  go_enter Try.func6, Try.ntmps6
  go_wp2_with (first | ((with_reducible refine gate_callee (f := 9) rfl ?_); refine goesL_ (some 16) rfl rfl Try.func9 (by kernel_rfl) rfl #[.slice A0 l0.length c0, .int .i64 1048576] rfl qM ?_; (with_reducible refine (laws_szQuadS.calls _ _ l0 1048576 t475 _ ?side1 ?side2 A2.out).mono ?_); (case side1 => repeat (first | exact HR0.out | (with_reducible refine Kd.C_alloc ?_ _) | (with_reducible refine Kd.C_drewN ?_ _) | (with_reducible refine Kd.C_drew ?_))); (case side2 => exact HC0.out); rintro e w' ⟨rfl, ⟨nd, rfl⟩⟩; refine ⟨_, rfl, ?_⟩))
  go_ret
  exact ⟨by first | rfl | (simp [errW_none, errW_some] <;> rfl) | (simp [*, errW_none, errW_some] <;> rfl), qB⟩
 ·rw [if_neg c3] at H
  have c3b0 := decide_eq_false c3
  clear c3
  obtain ⟨t476, A4, H⟩ := qE H
  try dsimp only at H
  obtain ⟨⟨t479, t480⟩, A5, H⟩ := qE H
  try dsimp only at H
  obtain ⟨t483, A6, H⟩ := qE H
  try dsimp only at H
  obtain ⟨⟨t486, t487⟩, A7, H⟩ := qE H
  try dsimp only at H
  have HC8 := Aside0.mk H
  clear H
  go_enter Try.func6, Try.ntmps6
  go_upto_region 8 with (first | ((with_reducible refine gate_callee (f := 9) rfl ?_); refine goesL_ (some 16) rfl rfl Try.func9 (by kernel_rfl) rfl #[.slice A0 l0.length c0, .int .i64 1048576] rfl qM ?_; (with_reducible refine (laws_szQuadS.calls _ _ l0 1048576 t475 _ ?side1 ?side2 A2.out).mono ?_); (case side1 => repeat (first | exact HR0.out | (with_reducible refine Kd.C_alloc ?_ _) | (with_reducible refine Kd.C_drewN ?_ _) | (with_reducible refine Kd.C_drew ?_))); (case side2 => exact HC0.out); rintro e w' ⟨rfl, ⟨nd, rfl⟩⟩; refine ⟨_, rfl, ?_⟩) | ((with_reducible refine gate_callee (f := 11) rfl ?_); refine goesL_ (some 21) rfl rfl Try.func11 (by kernel_rfl) rfl #[.slice A0 l0.length c0] rfl qM ?_; (with_reducible refine (laws_toQuadS.calls k _ _ l0 t476 _ ?side1 ?side2 A4.out).mono ?_); (case side1 => repeat (first | exact HR0.out | (with_reducible refine Kd.C_alloc ?_ _) | (with_reducible refine Kd.C_drewN ?_ _) | (with_reducible refine Kd.C_drew ?_))); (case side2 => exact HC0.out); rintro e w9 ⟨v477, rfl, ho0, hb⟩; refine ⟨_, rfl, ?_⟩; have n0_ := Aside0.mk (Kd.R_lower ho0 (below_size qB)); have n1_ := Aside0.mk (below_step qB hb); clear HB; have HO478 := n0_; have HB := n1_; clear n0_ n1_; (try clear hb); (try clear hb2); (try clear hk); (try clear hi); (try clear ho0); obtain ⟨Ao10, co10, eo10⟩ := Kd.R_slice HO478.out; subst eo10) | ((with_reducible refine gate_callee (f := 22) rfl ?_); refine goesL_ (some 22) rfl rfl Try.func22 (by kernel_rfl) rfl #[.slice Ao10 t476.length co10] rfl qM ?_; (with_reducible refine (spec_PlaceCode.calls k _ _ t476 t479 t480 _ ?side1 ?side2 A5.out).mono ?_); (case side1 => repeat (first | exact (Kd.R_reads' HO478.out).2.2 | (with_reducible refine Kd.C_alloc ?_ _) | (with_reducible refine Kd.C_drewN ?_ _) | (with_reducible refine Kd.C_drew ?_))); (case side2 => exact (Kd.R_reads' HO478.out).2.1); rintro e w11 ⟨v481, rfl, ho0, hb⟩; refine ⟨_, rfl, ?_⟩; have n0_ := Aside0.mk (Kd.R_elder' (qR HO478) (by first | exact Kd.R_base ho0 | exact Kd.R_base ho0) hb); have n1_ := Aside0.mk (Kd.R_lower (Kd.R_new' ho0 (Kd.R_lt (qR HO478))) (below_size qB)); have n2_ := Aside0.mk (below_step qB hb); clear HO478; clear HB; have HO478 := n0_; have HO482 := n1_; have HB := n2_; clear n0_ n1_ n2_; (try clear hb); (try clear hb2); (try clear hk); (try clear hi); (try clear ho0)) | ((with_reducible refine gate_callee (f := 11) rfl ?_); refine goesL_ (some 26) rfl rfl Try.func11 (by kernel_rfl) rfl #[.slice A0 l0.length c0] rfl qM ?_; (with_reducible refine (laws_toQuadS.calls k _ _ l0 t483 _ ?side1 ?side2 A6.out).mono ?_); (case side1 => repeat (first | exact (Kd.C_below HR0.out HB.out) | (with_reducible refine Kd.C_alloc ?_ _) | (with_reducible refine Kd.C_drewN ?_ _) | (with_reducible refine Kd.C_drew ?_))); (case side2 => exact HC0.out); rintro e w12 ⟨v484, rfl, ho0, hb⟩; refine ⟨_, rfl, ?_⟩; have n0_ := Aside0.mk (Kd.R_elder' (qR HO478) (by first | exact Kd.R_base ho0 | exact Kd.R_base ho0) hb); have n1_ := Aside0.mk (Kd.R_elder' (qR HO482) (by first | exact Kd.R_base ho0 | exact Kd.R_base ho0) hb); have n2_ := Aside0.mk (Kd.R_lower (Kd.R_new' (Kd.R_new' ho0 (Kd.R_lt (qR HO478))) (Kd.R_lt (qR HO482))) (below_size qB)); have n3_ := Aside0.mk (below_step qB hb); clear HO478; clear HO482; clear HB; have HO478 := n0_; have HO482 := n1_; have HO485 := n2_; have HB := n3_; clear n0_ n1_ n2_ n3_; (try clear hb); (try clear hb2); (try clear hk); (try clear hi); (try clear ho0); obtain ⟨Ao13, co13, eo13⟩ := Kd.R_slice HO485.out; subst eo13) | ((with_reducible refine gate_callee (f := 23) rfl ?_); refine goesL_ (some 29) rfl rfl Try.func23 (by kernel_rfl) rfl #[.slice Ao13 t483.length co13] rfl qM ?_; (with_reducible refine (impl_PlaceCode.calls k _ _ t483 t486 t487 _ ?side1 ?side2 A7.out).mono ?_); (case side1 => repeat (first | exact (Kd.R_reads' HO485.out).2.2 | (with_reducible refine Kd.C_alloc ?_ _) | (with_reducible refine Kd.C_drewN ?_ _) | (with_reducible refine Kd.C_drew ?_))); (case side2 => exact (Kd.R_reads' HO485.out).2.1); rintro e w14 ⟨v488, rfl, ho0, hb⟩; refine ⟨_, rfl, ?_⟩; have n0_ := Aside0.mk (Kd.R_elder' (qR HO478) (by first | exact Kd.R_base ho0 | exact Kd.R_base ho0) hb); have n1_ := Aside0.mk (Kd.R_elder' (qR HO482) (by first | exact Kd.R_base ho0 | exact Kd.R_base ho0) hb); have n2_ := Aside0.mk (Kd.R_elder' (qR HO485) (by first | exact Kd.R_base ho0 | exact Kd.R_base ho0) hb); have n3_ := Aside0.mk (Kd.R_lower (Kd.R_new' (Kd.R_new' (Kd.R_new' ho0 (Kd.R_lt (qR HO478))) (Kd.R_lt (qR HO482))) (Kd.R_lt (qR HO485))) (below_size qB)); have n4_ := Aside0.mk (below_step qB hb); clear HO478; clear HO482; clear HO485; clear HB; have HO478 := n0_; have HO482 := n1_; have HO485 := n2_; have HO489 := n3_; have HB := n4_; clear n0_ n1_ n2_ n3_ n4_; (try clear hb); (try clear hb2); (try clear hk); (try clear hi); (try clear ho0)))
  (try simp only [Act.put, List.setIfInBounds_toArray, List.set_cons_zero, List.set_cons_succ])
  go_cut [40] (fun v40 wc => ∃ (kq : Nat) (x40_7 : Bool), v40 = .bool x40_7 ∧ Aside0 (laws_FnExactPlaceCode.j0 kq l0 t479 t480 t483 t486 t487 x40_7 = some r) ∧ Aside0 (kq ≤ k) ∧ Aside0 (Kd.R k46 46 wc w.heap.size (fun k_ => some k_ ≠ ((.slice Ao13 t483.length co13) : Value).ownBlock ∧ some k_ ≠ (v488 : Value).ownBlock) v481 t479) ∧ Aside0 (Kd.R k46 46 wc w.heap.size (fun k_ => some k_ ≠ (v481 : Value).ownBlock ∧ some k_ ≠ (v488 : Value).ownBlock) (.slice Ao13 t483.length co13) t483) ∧ Aside0 (Kd.R k46 46 wc w.heap.size (fun k_ => some k_ ≠ (v481 : Value).ownBlock ∧ some k_ ≠ ((.slice Ao13 t483.length co13) : Value).ownBlock) v488 t486) ∧ Aside0 (Below w.heap.size w wc))
  case first =>
   have H := HC8.out
   clear HC8
   obtain ⟨t490, A15, H⟩ := qE H
   try dsimp only at H
   by_cases c16 : t490 = true
   ·subst c16
    rw [if_pos rfl] at H
    have H' := Aside0.mk H
    clear H
    obtain ⟨Ao17, co17, eo17⟩ := Kd.R_slice HO489.out
    subst eo17
    obtain ⟨Ao18, co18, eo18⟩ := Kd.R_slice HO482.out
    subst eo18
    go_wp2_with (first | ((with_reducible refine gate_callee (f := 13) rfl ?_); refine goesL_ (some 34) rfl rfl Try.func13 (by kernel_rfl) rfl #[.slice Ao17 t486.length co17, .slice Ao18 t479.length co18] rfl qM ?_; (with_reducible refine (laws_eqQuadS.calls k _ _ t486 _ _ t479 true _ ?side1 ?side2 ?side3 ?side4 A15.out).mono ?_); (case side1 => repeat (first | exact (Kd.R_reads' HO489.out).2.2 | (with_reducible refine Kd.C_alloc ?_ _) | (with_reducible refine Kd.C_drewN ?_ _) | (with_reducible refine Kd.C_drew ?_))); (case side2 => exact (Kd.R_reads' HO489.out).2.1); (case side3 => repeat (first | exact (Kd.R_reads' HO482.out).2.2 | (with_reducible refine Kd.C_alloc ?_ _) | (with_reducible refine Kd.C_drewN ?_ _) | (with_reducible refine Kd.C_drew ?_))); (case side4 => exact (Kd.R_reads' HO482.out).2.1); rintro e w19 ⟨rfl, hb⟩; refine ⟨_, rfl, ?_⟩; have n0_ := Aside0.mk (Kd.R_below (qR HO478) hb); have n1_ := Aside0.mk (Kd.R_below (qR HO482) hb); have n2_ := Aside0.mk (Kd.R_below (qR HO485) hb); have n3_ := Aside0.mk (Kd.R_below (qR HO489) hb); have n4_ := Aside0.mk (below_step qB hb); clear HO478; clear HO482; clear HO485; clear HO489; clear HB; have HO478 := n0_; have HO482 := n1_; have HO485 := n2_; have HO489 := n3_; have HB := n4_; clear n0_ n1_ n2_ n3_ n4_; (try clear hb); (try clear hb2); (try clear hk); (try clear hi)))
    go_meet
    case rel => exact ⟨_, ((t487 != t480)), qZ, H', ⟨by first | omega | exact Nat.le_refl _⟩, ⟨by (with_reducible repeat (first | apply Kd.R_alloc | apply Kd.R_drewN | apply Kd.R_drew)); exact Kd.R_mono HO482.out (fun _ hk => ⟨hk.1.2, hk.2⟩)⟩, ⟨by (with_reducible repeat (first | apply Kd.R_alloc | apply Kd.R_drewN | apply Kd.R_drew)); exact Kd.R_mono HO485.out (fun _ hk => ⟨hk.1.2, hk.2⟩)⟩, ⟨by (with_reducible repeat (first | apply Kd.R_alloc | apply Kd.R_drewN | apply Kd.R_drew)); exact Kd.R_mono HO489.out (fun _ hk => ⟨hk.1.2, hk.2⟩)⟩, ⟨qB⟩⟩
   ·replace c16 := Bool.eq_false_iff.mpr c16
    subst c16
    rw [if_neg (show ¬ (false = true) by decide)] at H
    have H' := Aside0.mk H
    clear H
    obtain ⟨Ao20, co20, eo20⟩ := Kd.R_slice HO489.out
    subst eo20
    obtain ⟨Ao21, co21, eo21⟩ := Kd.R_slice HO482.out
    subst eo21
    go_wp2_with (first | ((with_reducible refine gate_callee (f := 13) rfl ?_); refine goesL_ (some 34) rfl rfl Try.func13 (by kernel_rfl) rfl #[.slice Ao20 t486.length co20, .slice Ao21 t479.length co21] rfl qM ?_; (with_reducible refine (laws_eqQuadS.calls k _ _ t486 _ _ t479 false _ ?side1 ?side2 ?side3 ?side4 A15.out).mono ?_); (case side1 => repeat (first | exact (Kd.R_reads' HO489.out).2.2 | (with_reducible refine Kd.C_alloc ?_ _) | (with_reducible refine Kd.C_drewN ?_ _) | (with_reducible refine Kd.C_drew ?_))); (case side2 => exact (Kd.R_reads' HO489.out).2.1); (case side3 => repeat (first | exact (Kd.R_reads' HO482.out).2.2 | (with_reducible refine Kd.C_alloc ?_ _) | (with_reducible refine Kd.C_drewN ?_ _) | (with_reducible refine Kd.C_drew ?_))); (case side4 => exact (Kd.R_reads' HO482.out).2.1); rintro e w22 ⟨rfl, hb⟩; refine ⟨_, rfl, ?_⟩; have n0_ := Aside0.mk (Kd.R_below (qR HO478) hb); have n1_ := Aside0.mk (Kd.R_below (qR HO482) hb); have n2_ := Aside0.mk (Kd.R_below (qR HO485) hb); have n3_ := Aside0.mk (Kd.R_below (qR HO489) hb); have n4_ := Aside0.mk (below_step qB hb); clear HO478; clear HO482; clear HO485; clear HO489; clear HB; have HO478 := n0_; have HO482 := n1_; have HO485 := n2_; have HO489 := n3_; have HB := n4_; clear n0_ n1_ n2_ n3_ n4_; (try clear hb); (try clear hb2); (try clear hk); (try clear hi)))
    go_meet
    case rel => exact ⟨_, (true), qZ, H', ⟨by first | omega | exact Nat.le_refl _⟩, ⟨by (with_reducible repeat (first | apply Kd.R_alloc | apply Kd.R_drewN | apply Kd.R_drew)); exact Kd.R_mono HO482.out (fun _ hk => ⟨hk.1.2, hk.2⟩)⟩, ⟨by (with_reducible repeat (first | apply Kd.R_alloc | apply Kd.R_drewN | apply Kd.R_drew)); exact Kd.R_mono HO485.out (fun _ hk => ⟨hk.1.2, hk.2⟩)⟩, ⟨by (with_reducible repeat (first | apply Kd.R_alloc | apply Kd.R_drewN | apply Kd.R_drew)); exact Kd.R_mono HO489.out (fun _ hk => ⟨hk.1.2, hk.2⟩)⟩, ⟨qB⟩⟩
  case rest =>
   clear HC8
   try clear c1; try clear c2; try clear p2; try clear c3; try clear c3b0; try clear c6; try clear c9; try clear c11; try clear c13; try clear c16; try clear c22
   obtain ⟨kq, x40_7, rfl, HA, HJ7, HO_4, HO_6, HO_7, HB⟩ := hcut
   cases kq with
   | zero => exact absurd HA.out (by simp [laws_FnExactPlaceCode.j0])
   | succ kj7 =>
    have H := HA.out
    clear HA
    simp only [laws_FnExactPlaceCode.j0] at H
    by_cases c23 : x40_7 = true
    ·subst c23
     rw [if_pos rfl] at H
     obtain rfl := Option.some.inj H
     go_wp2
     go_ret
     exact ⟨by first | rfl | (simp [errW_none, errW_some] <;> rfl) | (simp [*, errW_none, errW_some] <;> rfl), qB⟩
    ·replace c23 := Bool.eq_false_iff.mpr c23
     subst c23
     rw [if_neg (show ¬ (false = true) by decide)] at H
     obtain ⟨t491, A24, H⟩ := qE H
     try dsimp only at H
     obtain ⟨t494, A25, H⟩ := qE H
     try dsimp only at H
     by_cases c26 : t494 = true
     ·subst c26
      rw [if_pos rfl] at H
      obtain ⟨⟨t495, t496⟩, A27, H⟩ := qE H
      try dsimp only at H
      have HC28 := Aside0.mk H
      clear H
      go_upto_region 14 with (first | ((with_reducible refine gate_callee (f := 11) rfl ?_); refine goesL_ (some 43) rfl rfl Try.func11 (by kernel_rfl) rfl #[.slice A0 l0.length c0] rfl qM ?_; (with_reducible refine (laws_toQuadS.calls kj7 _ _ l0 t491 _ ?side1 ?side2 A24.out).mono ?_); (case side1 => repeat (first | exact (Kd.C_below HR0.out HB.out) | (with_reducible refine Kd.C_alloc ?_ _) | (with_reducible refine Kd.C_drewN ?_ _) | (with_reducible refine Kd.C_drew ?_))); (case side2 => exact HC0.out); rintro e w29 ⟨v492, rfl, ho0, hb⟩; refine ⟨_, rfl, ?_⟩; have n0_ := Aside0.mk (Kd.R_elder' (qR HO_4) (by first | exact Kd.R_base ho0 | exact Kd.R_base ho0) hb); have n1_ := Aside0.mk (Kd.R_elder' (qR HO_6) (by first | exact Kd.R_base ho0 | exact Kd.R_base ho0) hb); have n2_ := Aside0.mk (Kd.R_elder' (qR HO_7) (by first | exact Kd.R_base ho0 | exact Kd.R_base ho0) hb); have n3_ := Aside0.mk (Kd.R_lower (Kd.R_new' (Kd.R_new' (Kd.R_new' ho0 (Kd.R_lt (qR HO_4))) (Kd.R_lt (qR HO_6))) (Kd.R_lt (qR HO_7))) (below_size qB)); have n4_ := Aside0.mk (below_step qB hb); clear HO_4; clear HO_6; clear HO_7; clear HB; have HO_4 := n0_; have HO_6 := n1_; have HO_7 := n2_; have HO493 := n3_; have HB := n4_; clear n0_ n1_ n2_ n3_ n4_; (try clear hb); (try clear hb2); (try clear hk); (try clear hi); (try clear ho0); obtain ⟨Ao30, co30, eo30⟩ := Kd.R_slice HO493.out; subst eo30) | ((with_reducible refine gate_callee (f := 13) rfl ?_); refine goesL_ (some 44) rfl rfl Try.func13 (by kernel_rfl) rfl #[.slice Ao13 t483.length co13, .slice Ao30 t491.length co30] rfl qM ?_; (with_reducible refine (laws_eqQuadS.calls kj7 _ _ t483 _ _ t491 true _ ?side1 ?side2 ?side3 ?side4 A25.out).mono ?_); (case side1 => repeat (first | exact (Kd.R_reads' HO_6.out).2.2 | (with_reducible refine Kd.C_alloc ?_ _) | (with_reducible refine Kd.C_drewN ?_ _) | (with_reducible refine Kd.C_drew ?_))); (case side2 => exact (Kd.R_reads' HO_6.out).2.1); (case side3 => repeat (first | exact (Kd.R_reads' HO493.out).2.2 | (with_reducible refine Kd.C_alloc ?_ _) | (with_reducible refine Kd.C_drewN ?_ _) | (with_reducible refine Kd.C_drew ?_))); (case side4 => exact (Kd.R_reads' HO493.out).2.1); rintro e w31 ⟨rfl, hb⟩; refine ⟨_, rfl, ?_⟩; have n0_ := Aside0.mk (Kd.R_below (qR HO_4) hb); have n1_ := Aside0.mk (Kd.R_below (qR HO_6) hb); have n2_ := Aside0.mk (Kd.R_below (qR HO_7) hb); have n3_ := Aside0.mk (Kd.R_below (qR HO493) hb); have n4_ := Aside0.mk (below_step qB hb); clear HO_4; clear HO_6; clear HO_7; clear HO493; clear HB; have HO_4 := n0_; have HO_6 := n1_; have HO_7 := n2_; have HO493 := n3_; have HB := n4_; clear n0_ n1_ n2_ n3_ n4_; (try clear hb); (try clear hb2); (try clear hk); (try clear hi)) | ((with_reducible refine gate_callee (f := 19) rfl ?_); refine goesL_ (some 48) rfl rfl Try.func19 (by kernel_rfl) rfl #[.slice Ao13 t483.length co13, .int .i64 1] rfl qM ?_; (with_reducible refine (laws_markQuadS.calls kj7 (fun k_ => some k_ = (.slice Ao13 t483.length co13 : Value).ownBlock) (.slice Ao13 t483.length co13) t483 1 t495 t496 w _ ?side1 ?side2 A27.out).mono ?_); (case side1 => exact qB); (case side2 => exact Kd.R_tight rfl HO_6.out); rintro e w32 ⟨rfl, hy0, hb, hkp⟩; refine ⟨_, rfl, ?_⟩; have n0_ := Aside0.mk (Kd.R_mono (ok' := fun k_ => some k_ ≠ (.slice Ao13 t483.length co13 : Value).ownBlock ∧ some k_ ≠ (v488 : Value).ownBlock ∧ some k_ ≠ (.slice Ao30 t491.length co30 : Value).ownBlock) (Kd.R_keptB (HO_4.out) hkp (fun k_ hk_ hs_ => (hk_.1.1) hs_)) (fun k_ hk_ => ⟨hk_.1.1.1, hk_.1.1.2, hk_.1.2⟩)); have n1_ := Aside0.mk (Kd.R_reok rfl hy0 (fun k_ e_ => HO_6.out.1 k_ e_)); have n2_ := Aside0.mk (Kd.R_mono (ok' := fun k_ => some k_ ≠ (v481 : Value).ownBlock ∧ some k_ ≠ (.slice Ao13 t483.length co13 : Value).ownBlock ∧ some k_ ≠ (.slice Ao30 t491.length co30 : Value).ownBlock) (Kd.R_keptB (HO_7.out) hkp (fun k_ hk_ hs_ => (hk_.1.2) hs_)) (fun k_ hk_ => ⟨hk_.1.1.1, hk_.1.1.2, hk_.1.2⟩)); have n3_ := Aside0.mk (Kd.R_mono (ok' := fun k_ => some k_ ≠ (v481 : Value).ownBlock ∧ some k_ ≠ (.slice Ao13 t483.length co13 : Value).ownBlock ∧ some k_ ≠ (v488 : Value).ownBlock) (Kd.R_keptB (HO493.out) hkp (fun k_ hk_ hs_ => (hk_.1.2) hs_)) (fun k_ hk_ => ⟨hk_.1.1.1.2, hk_.1.1.2, hk_.1.2⟩)); have n4_ := Aside0.mk (hb); clear HO_4; clear HO_6; clear HO_7; clear HO493; clear HB; have HO_4 := n0_; have HO_6 := n1_; have HO_7 := n2_; have HO493 := n3_; have HB := n4_; clear n0_ n1_ n2_ n3_ n4_; (try clear hb); (try clear hkp); (try clear hy0)))
      (try simp only [Act.put, List.setIfInBounds_toArray, List.set_cons_zero, List.set_cons_succ])
      go_cut [61] (fun v61 wc => ∃ (kq : Nat) (x61_27 : Bool), v61 = .bool x61_27 ∧ Aside0 (laws_FnExactPlaceCode.j1 kq l0 t479 t480 t486 x61_27 = some r) ∧ Aside0 (kq ≤ kj7) ∧ Aside0 (Kd.R k46 46 wc w.heap.size (fun k_ => some k_ ≠ (v488 : Value).ownBlock) v481 t479) ∧ Aside0 (Kd.R k46 46 wc w.heap.size (fun k_ => some k_ ≠ (v481 : Value).ownBlock) v488 t486) ∧ Aside0 (Below w.heap.size w wc))
      case first =>
       have H := HC28.out
       clear HC28
       by_cases c33 : t495 < 0
       ·rw [if_pos c33] at H
        have c33b0 := decide_eq_true c33
        clear c33
        (first | rw [c33b0] | (simp only [i64_w, i32_w]; rw [c33b0]) | skip)
        have H' := Aside0.mk H
        clear H
        go_wp2
        go_meet
        case rel => exact ⟨_, (true), qZ, H', ⟨by have := HJ7.out; first | omega | exact Nat.le_refl _⟩, ⟨by (with_reducible repeat (first | apply Kd.R_alloc | apply Kd.R_drewN | apply Kd.R_drew)); exact Kd.R_mono HO_4.out (fun _ hk => hk.2.1)⟩, ⟨by (with_reducible repeat (first | apply Kd.R_alloc | apply Kd.R_drewN | apply Kd.R_drew)); exact Kd.R_mono HO_7.out (fun _ hk => hk.1)⟩, ⟨qB⟩⟩
       ·rw [if_neg c33] at H
        have c33b0 := decide_eq_false c33
        clear c33
        (first | rw [c33b0] | (simp only [i64_w, i32_w]; rw [c33b0]) | skip)
        obtain ⟨t497, A34, H⟩ := qE H
        try dsimp only at H
        by_cases c35 : t497 = true
        ·subst c35
         rw [if_pos rfl] at H
         have H' := Aside0.mk H
         clear H
         obtain ⟨Ao36, co36, eo36⟩ := Kd.R_slice HO_7.out
         subst eo36
         obtain ⟨Ao37, co37, eo37⟩ := Kd.R_slice HO_4.out
         subst eo37
         go_wp2_with (first | (go_at_call 13; (with_reducible refine (laws_eqQuadS.calls kj7 _ _ t486 _ _ t479 true _ ?side1 ?side2 ?side3 ?side4 A34.out).mono ?_); (case side1 => repeat (first | exact (Kd.R_reads' HO_7.out).2.2 | (with_reducible refine Kd.C_alloc ?_ _) | (with_reducible refine Kd.C_drewN ?_ _) | (with_reducible refine Kd.C_drew ?_))); (case side2 => exact (Kd.R_reads' HO_7.out).2.1); (case side3 => repeat (first | exact (Kd.R_reads' HO_4.out).2.2 | (with_reducible refine Kd.C_alloc ?_ _) | (with_reducible refine Kd.C_drewN ?_ _) | (with_reducible refine Kd.C_drew ?_))); (case side4 => exact (Kd.R_reads' HO_4.out).2.1); rintro e w38 ⟨rfl, hb⟩; have n0_ := Aside0.mk (Kd.R_below (qR HO_4) hb); have n1_ := Aside0.mk (Kd.R_below (qR HO_6) hb); have n2_ := Aside0.mk (Kd.R_below (qR HO_7) hb); have n3_ := Aside0.mk (Kd.R_below (qR HO493) hb); have n4_ := Aside0.mk (below_step qB hb); clear HO_4; clear HO_6; clear HO_7; clear HO493; clear HB; have HO_4 := n0_; have HO_6 := n1_; have HO_7 := n2_; have HO493 := n3_; have HB := n4_; clear n0_ n1_ n2_ n3_ n4_; (try clear hb); (try clear hb2); (try clear hk); (try clear hi)))
         go_meet
         case rel => exact ⟨_, ((t487 != t480)), qZ, H', ⟨by have := HJ7.out; first | omega | exact Nat.le_refl _⟩, ⟨by (with_reducible repeat (first | apply Kd.R_alloc | apply Kd.R_drewN | apply Kd.R_drew)); exact Kd.R_mono HO_4.out (fun _ hk => hk.2.1)⟩, ⟨by (with_reducible repeat (first | apply Kd.R_alloc | apply Kd.R_drewN | apply Kd.R_drew)); exact Kd.R_mono HO_7.out (fun _ hk => hk.1)⟩, ⟨qB⟩⟩
        ·replace c35 := Bool.eq_false_iff.mpr c35
         subst c35
         rw [if_neg (show ¬ (false = true) by decide)] at H
         have H' := Aside0.mk H
         clear H
         obtain ⟨Ao39, co39, eo39⟩ := Kd.R_slice HO_7.out
         subst eo39
         obtain ⟨Ao40, co40, eo40⟩ := Kd.R_slice HO_4.out
         subst eo40
         go_wp2_with (first | (go_at_call 13; (with_reducible refine (laws_eqQuadS.calls kj7 _ _ t486 _ _ t479 false _ ?side1 ?side2 ?side3 ?side4 A34.out).mono ?_); (case side1 => repeat (first | exact (Kd.R_reads' HO_7.out).2.2 | (with_reducible refine Kd.C_alloc ?_ _) | (with_reducible refine Kd.C_drewN ?_ _) | (with_reducible refine Kd.C_drew ?_))); (case side2 => exact (Kd.R_reads' HO_7.out).2.1); (case side3 => repeat (first | exact (Kd.R_reads' HO_4.out).2.2 | (with_reducible refine Kd.C_alloc ?_ _) | (with_reducible refine Kd.C_drewN ?_ _) | (with_reducible refine Kd.C_drew ?_))); (case side4 => exact (Kd.R_reads' HO_4.out).2.1); rintro e w41 ⟨rfl, hb⟩; have n0_ := Aside0.mk (Kd.R_below (qR HO_4) hb); have n1_ := Aside0.mk (Kd.R_below (qR HO_6) hb); have n2_ := Aside0.mk (Kd.R_below (qR HO_7) hb); have n3_ := Aside0.mk (Kd.R_below (qR HO493) hb); have n4_ := Aside0.mk (below_step qB hb); clear HO_4; clear HO_6; clear HO_7; clear HO493; clear HB; have HO_4 := n0_; have HO_6 := n1_; have HO_7 := n2_; have HO493 := n3_; have HB := n4_; clear n0_ n1_ n2_ n3_ n4_; (try clear hb); (try clear hb2); (try clear hk); (try clear hi)))
         go_meet
         case rel => exact ⟨_, (true), qZ, H', ⟨by have := HJ7.out; first | omega | exact Nat.le_refl _⟩, ⟨by (with_reducible repeat (first | apply Kd.R_alloc | apply Kd.R_drewN | apply Kd.R_drew)); exact Kd.R_mono HO_4.out (fun _ hk => hk.2.1)⟩, ⟨by (with_reducible repeat (first | apply Kd.R_alloc | apply Kd.R_drewN | apply Kd.R_drew)); exact Kd.R_mono HO_7.out (fun _ hk => hk.1)⟩, ⟨qB⟩⟩
      case rest =>
       clear HC28
       try clear c1; try clear c2; try clear p2; try clear c3; try clear c3b0; try clear c6; try clear c9; try clear c11; try clear c13; try clear c16; try clear c19; try clear c22; try clear c23; try clear c26; try clear c33; try clear c33b0; try clear c35; try clear p2
       obtain ⟨kq, x61_27, rfl, HA, HJ27, HO_4, HO_7, HB⟩ := hcut
       cases kq with
       | zero => exact absurd HA.out (by simp [laws_FnExactPlaceCode.j1])
       | succ kj27 =>
        have H := HA.out
        clear HA
        simp only [laws_FnExactPlaceCode.j1] at H
        by_cases c42 : x61_27 = true
        ·subst c42
         rw [if_pos rfl] at H
         obtain rfl := Option.some.inj H
         go_wp2
         go_ret
         exact ⟨by first | rfl | (simp [errW_none, errW_some] <;> rfl) | (simp [*, errW_none, errW_some] <;> rfl), qB⟩
        ·replace c42 := Bool.eq_false_iff.mpr c42
         subst c42
         rw [if_neg (show ¬ (false = true) by decide)] at H
         obtain ⟨⟨t498, t499⟩, A43, H⟩ := qE H
         try dsimp only at H
         obtain ⟨t500, A44, H⟩ := qE H
         try dsimp only at H
         by_cases c45 : t500 < 0
         ·rw [if_pos c45] at H
          have c45b0 := decide_eq_true c45
          clear c45
          obtain rfl := Option.some.inj H
          obtain ⟨Ao46, co46, eo46⟩ := Kd.R_slice HO_7.out
          subst eo46
          go_wp2_with (first | ((with_reducible refine gate_callee (f := 19) rfl ?_); refine goesL_ (some 64) rfl rfl Try.func19 (by kernel_rfl) rfl #[.slice Ao46 t486.length co46, .int .i64 1] rfl qM ?_; (with_reducible refine (laws_markQuadS.calls kj27 (fun k_ => some k_ = (.slice Ao46 t486.length co46 : Value).ownBlock) (.slice Ao46 t486.length co46) t486 1 t498 t499 w _ ?side1 ?side2 A43.out).mono ?_); (case side1 => exact qB); (case side2 => exact Kd.R_tight rfl HO_7.out); rintro e w47 ⟨rfl, hy0, hb, hkp⟩; refine ⟨_, rfl, ?_⟩; have n0_ := Aside0.mk (Kd.R_mono (ok' := fun k_ => some k_ ≠ (.slice Ao46 t486.length co46 : Value).ownBlock) (Kd.R_keptB (HO_4.out) hkp (fun k_ hk_ hs_ => (hk_) hs_)) (fun k_ hk_ => hk_.1)); have n1_ := Aside0.mk (Kd.R_reok rfl hy0 (fun k_ e_ => HO_7.out.1 k_ e_)); have n2_ := Aside0.mk (hb); clear HO_4; clear HO_7; clear HB; have HO_4 := n0_; have HO_7 := n1_; have HB := n2_; clear n0_ n1_ n2_; (try clear hb); (try clear hkp); (try clear hy0)) | ((with_reducible refine gate_callee (f := 24) rfl ?_); refine goesL_ (some 67) rfl rfl Try.func24 (by kernel_rfl) rfl #[.slice Ao46 t499.length co46, .int .i64 1] rfl (by (try simp only [List.map_toArray, List.map_cons, List.map_nil]); first | done | (rw [show t499.length = t486.length from (Kd.R_reads' HO_7.out).1.symm] <;> rfl) | rfl | (simp only [List.length_drop, List.length_take]; rfl)) ?_; (with_reducible refine (laws_heldQuadS.calls kj27 _ _ t499 1 t500 _ ?side1 ?side2 A44.out).mono ?_); (case side1 => repeat (first | exact (Kd.R_reads' HO_7.out).2.2 | (with_reducible refine Kd.C_alloc ?_ _) | (with_reducible refine Kd.C_drewN ?_ _) | (with_reducible refine Kd.C_drew ?_))); (case side2 => rw [show t499.length = t486.length from (Kd.R_reads' HO_7.out).1.symm]; exact (Kd.R_reads' HO_7.out).2.1); rintro e w' ⟨rfl, ⟨nd, rfl⟩⟩; refine ⟨_, rfl, ?_⟩))
          go_ret
          exact ⟨by first | rfl | (simp [errW_none, errW_some] <;> rfl) | (simp [*, errW_none, errW_some] <;> rfl), qB⟩
         ·rw [if_neg c45] at H
          have c45b0 := decide_eq_false c45
          clear c45
          by_cases c48 : t500 = t498
          ·rw [if_pos c48] at H
           have c48b0 : (t500 == t498) = true := beq_iff_eq.mpr c48
           have c48b1 : (t500 != t498) = false := bne_eq_false_iff_eq.mpr c48
           clear c48
           obtain ⟨t501, A49, H⟩ := qE H
           try dsimp only at H
           obtain ⟨⟨t504, t505⟩, A50, H⟩ := qE H
           try dsimp only at H
           have HC51 := Aside0.mk H
           clear H
           obtain ⟨Ao52, co52, eo52⟩ := Kd.R_slice HO_7.out
           subst eo52
           go_upto_region 25 with (first | ((with_reducible refine gate_callee (f := 19) rfl ?_); refine goesL_ (some 64) rfl rfl Try.func19 (by kernel_rfl) rfl #[.slice Ao52 t486.length co52, .int .i64 1] rfl qM ?_; (with_reducible refine (laws_markQuadS.calls kj27 (fun k_ => some k_ = (.slice Ao52 t486.length co52 : Value).ownBlock) (.slice Ao52 t486.length co52) t486 1 t498 t499 w _ ?side1 ?side2 A43.out).mono ?_); (case side1 => exact qB); (case side2 => exact Kd.R_tight rfl HO_7.out); rintro e w53 ⟨rfl, hy0, hb, hkp⟩; refine ⟨_, rfl, ?_⟩; have n0_ := Aside0.mk (Kd.R_mono (ok' := fun k_ => some k_ ≠ (.slice Ao52 t486.length co52 : Value).ownBlock) (Kd.R_keptB (HO_4.out) hkp (fun k_ hk_ hs_ => (hk_) hs_)) (fun k_ hk_ => hk_.1)); have n1_ := Aside0.mk (Kd.R_reok rfl hy0 (fun k_ e_ => HO_7.out.1 k_ e_)); have n2_ := Aside0.mk (hb); clear HO_4; clear HO_7; clear HB; have HO_4 := n0_; have HO_7 := n1_; have HB := n2_; clear n0_ n1_ n2_; (try clear hb); (try clear hkp); (try clear hy0)) | ((with_reducible refine gate_callee (f := 24) rfl ?_); refine goesL_ (some 67) rfl rfl Try.func24 (by kernel_rfl) rfl #[.slice Ao52 t499.length co52, .int .i64 1] rfl (by (try simp only [List.map_toArray, List.map_cons, List.map_nil]); first | done | (rw [show t499.length = t486.length from (Kd.R_reads' HO_7.out).1.symm] <;> rfl) | rfl | (simp only [List.length_drop, List.length_take]; rfl)) ?_; (with_reducible refine (laws_heldQuadS.calls kj27 _ _ t499 1 t500 _ ?side1 ?side2 A44.out).mono ?_); (case side1 => repeat (first | exact (Kd.R_reads' HO_7.out).2.2 | (with_reducible refine Kd.C_alloc ?_ _) | (with_reducible refine Kd.C_drewN ?_ _) | (with_reducible refine Kd.C_drew ?_))); (case side2 => rw [show t499.length = t486.length from (Kd.R_reads' HO_7.out).1.symm]; exact (Kd.R_reads' HO_7.out).2.1); rintro e w' ⟨rfl, ⟨nd, rfl⟩⟩; refine ⟨_, rfl, ?_⟩) | ((with_reducible refine gate_callee (f := 11) rfl ?_); refine goesL_ (some 75) rfl rfl Try.func11 (by kernel_rfl) rfl #[.slice A0 l0.length c0] rfl qM ?_; (with_reducible refine (laws_toQuadS.calls kj27 _ _ l0 t501 _ ?side1 ?side2 A49.out).mono ?_); (case side1 => repeat (first | exact (Kd.C_below HR0.out qB) | (with_reducible refine Kd.C_alloc ?_ _) | (with_reducible refine Kd.C_drewN ?_ _) | (with_reducible refine Kd.C_drew ?_))); (case side2 => exact HC0.out); rintro e w54 ⟨v502, rfl, ho0, hb⟩; refine ⟨_, rfl, ?_⟩; have n0_ := Aside0.mk (Kd.R_elder' (qR HO_4) (by first | exact Kd.R_base ho0 | exact Kd.R_base ho0) hb); have n1_ := Aside0.mk (Kd.R_elder' (qR HO_7) (by first | exact Kd.R_base ho0 | exact Kd.R_base ho0) hb); have n2_ := Aside0.mk (Kd.R_lower (Kd.R_new' (Kd.R_new' ho0 (Kd.R_lt (qR HO_4))) (Kd.R_lt (qR HO_7))) (below_size qB)); have n3_ := Aside0.mk (below_step qB hb); clear HO_4; clear HO_7; clear HB; have HO_4 := n0_; have HO_7 := n1_; have HO503 := n2_; have HB := n3_; clear n0_ n1_ n2_ n3_; (try clear hb); (try clear hb2); (try clear hk); (try clear hi); (try clear ho0); obtain ⟨Ao55, co55, eo55⟩ := Kd.R_slice HO503.out; subst eo55) | ((with_reducible refine gate_callee (f := 23) rfl ?_); refine goesL_ (some 76) rfl rfl Try.func23 (by kernel_rfl) rfl #[.slice Ao55 t501.length co55] rfl qM ?_; (with_reducible refine (impl_PlaceCode.calls kj27 _ _ t501 t504 t505 _ ?side1 ?side2 A50.out).mono ?_); (case side1 => repeat (first | exact (Kd.R_reads' HO503.out).2.2 | (with_reducible refine Kd.C_alloc ?_ _) | (with_reducible refine Kd.C_drewN ?_ _) | (with_reducible refine Kd.C_drew ?_))); (case side2 => exact (Kd.R_reads' HO503.out).2.1); rintro e w56 ⟨v506, rfl, ho0, hb⟩; refine ⟨_, rfl, ?_⟩; have n0_ := Aside0.mk (Kd.R_elder' (qR HO_4) (by first | exact Kd.R_base ho0 | exact Kd.R_base ho0) hb); have n1_ := Aside0.mk (Kd.R_elder' (qR HO_7) (by first | exact Kd.R_base ho0 | exact Kd.R_base ho0) hb); have n2_ := Aside0.mk (Kd.R_elder' (qR HO503) (by first | exact Kd.R_base ho0 | exact Kd.R_base ho0) hb); have n3_ := Aside0.mk (Kd.R_lower (Kd.R_new' (Kd.R_new' (Kd.R_new' ho0 (Kd.R_lt (qR HO_4))) (Kd.R_lt (qR HO_7))) (Kd.R_lt (qR HO503))) (below_size qB)); have n4_ := Aside0.mk (below_step qB hb); clear HO_4; clear HO_7; clear HO503; clear HB; have HO_4 := n0_; have HO_7 := n1_; have HO503 := n2_; have HO507 := n3_; have HB := n4_; clear n0_ n1_ n2_ n3_ n4_; (try clear hb); (try clear hb2); (try clear hk); (try clear hi); (try clear ho0)))
           (try simp only [Act.put, List.setIfInBounds_toArray, List.set_cons_zero, List.set_cons_succ])
           go_cut [87] (fun v87 wc => ∃ (kq : Nat) (x87_50 : Bool), v87 = .bool x87_50 ∧ Aside0 (laws_FnExactPlaceCode.j2 kq t499 t498 x87_50 = some r) ∧ Aside0 (kq ≤ kj27) ∧ Aside0 (Kd.R k46 46 wc w.heap.size (fun _ => True) (.slice Ao52 t486.length co52) t499) ∧ Aside0 (Below w.heap.size w wc))
           case first =>
            have H := HC51.out
            clear HC51
            obtain ⟨t508, A57, H⟩ := qE H
            try dsimp only at H
            by_cases c58 : t508 = true
            ·subst c58
             rw [if_pos rfl] at H
             have H' := Aside0.mk H
             clear H
             obtain ⟨Ao59, co59, eo59⟩ := Kd.R_slice HO507.out
             subst eo59
             obtain ⟨Ao60, co60, eo60⟩ := Kd.R_slice HO_4.out
             subst eo60
             go_wp2_with (first | ((with_reducible refine gate_callee (f := 13) rfl ?_); refine goesL_ (some 81) rfl rfl Try.func13 (by kernel_rfl) rfl #[.slice Ao59 t504.length co59, .slice Ao60 t479.length co60] rfl qM ?_; (with_reducible refine (laws_eqQuadS.calls kj27 _ _ t504 _ _ t479 true _ ?side1 ?side2 ?side3 ?side4 A57.out).mono ?_); (case side1 => repeat (first | exact (Kd.R_reads' HO507.out).2.2 | (with_reducible refine Kd.C_alloc ?_ _) | (with_reducible refine Kd.C_drewN ?_ _) | (with_reducible refine Kd.C_drew ?_))); (case side2 => exact (Kd.R_reads' HO507.out).2.1); (case side3 => repeat (first | exact (Kd.R_reads' HO_4.out).2.2 | (with_reducible refine Kd.C_alloc ?_ _) | (with_reducible refine Kd.C_drewN ?_ _) | (with_reducible refine Kd.C_drew ?_))); (case side4 => exact (Kd.R_reads' HO_4.out).2.1); rintro e w61 ⟨rfl, hb⟩; refine ⟨_, rfl, ?_⟩; have n0_ := Aside0.mk (Kd.R_below (qR HO_4) hb); have n1_ := Aside0.mk (Kd.R_below (qR HO_7) hb); have n2_ := Aside0.mk (Kd.R_below (qR HO503) hb); have n3_ := Aside0.mk (Kd.R_below (qR HO507) hb); have n4_ := Aside0.mk (below_step qB hb); clear HO_4; clear HO_7; clear HO503; clear HO507; clear HB; have HO_4 := n0_; have HO_7 := n1_; have HO503 := n2_; have HO507 := n3_; have HB := n4_; clear n0_ n1_ n2_ n3_ n4_; (try clear hb); (try clear hb2); (try clear hk); (try clear hi)))
             go_meet
             case rel => exact ⟨_, ((t505 != t480)), qZ, H', ⟨by have := HJ7.out; have := HJ27.out; first | omega | exact Nat.le_refl _⟩, ⟨by (with_reducible repeat (first | apply Kd.R_alloc | apply Kd.R_drewN | apply Kd.R_drew)); exact Kd.R_mono HO_7.out (fun _ hk => trivial)⟩, ⟨qB⟩⟩
            ·replace c58 := Bool.eq_false_iff.mpr c58
             subst c58
             rw [if_neg (show ¬ (false = true) by decide)] at H
             have H' := Aside0.mk H
             clear H
             obtain ⟨Ao62, co62, eo62⟩ := Kd.R_slice HO507.out
             subst eo62
             obtain ⟨Ao63, co63, eo63⟩ := Kd.R_slice HO_4.out
             subst eo63
             go_wp2_with (first | ((with_reducible refine gate_callee (f := 13) rfl ?_); refine goesL_ (some 81) rfl rfl Try.func13 (by kernel_rfl) rfl #[.slice Ao62 t504.length co62, .slice Ao63 t479.length co63] rfl qM ?_; (with_reducible refine (laws_eqQuadS.calls kj27 _ _ t504 _ _ t479 false _ ?side1 ?side2 ?side3 ?side4 A57.out).mono ?_); (case side1 => repeat (first | exact (Kd.R_reads' HO507.out).2.2 | (with_reducible refine Kd.C_alloc ?_ _) | (with_reducible refine Kd.C_drewN ?_ _) | (with_reducible refine Kd.C_drew ?_))); (case side2 => exact (Kd.R_reads' HO507.out).2.1); (case side3 => repeat (first | exact (Kd.R_reads' HO_4.out).2.2 | (with_reducible refine Kd.C_alloc ?_ _) | (with_reducible refine Kd.C_drewN ?_ _) | (with_reducible refine Kd.C_drew ?_))); (case side4 => exact (Kd.R_reads' HO_4.out).2.1); rintro e w64 ⟨rfl, hb⟩; refine ⟨_, rfl, ?_⟩; have n0_ := Aside0.mk (Kd.R_below (qR HO_4) hb); have n1_ := Aside0.mk (Kd.R_below (qR HO_7) hb); have n2_ := Aside0.mk (Kd.R_below (qR HO503) hb); have n3_ := Aside0.mk (Kd.R_below (qR HO507) hb); have n4_ := Aside0.mk (below_step qB hb); clear HO_4; clear HO_7; clear HO503; clear HO507; clear HB; have HO_4 := n0_; have HO_7 := n1_; have HO503 := n2_; have HO507 := n3_; have HB := n4_; clear n0_ n1_ n2_ n3_ n4_; (try clear hb); (try clear hb2); (try clear hk); (try clear hi)))
             go_meet
             case rel => exact ⟨_, (true), qZ, H', ⟨by have := HJ7.out; have := HJ27.out; first | omega | exact Nat.le_refl _⟩, ⟨by (with_reducible repeat (first | apply Kd.R_alloc | apply Kd.R_drewN | apply Kd.R_drew)); exact Kd.R_mono HO_7.out (fun _ hk => trivial)⟩, ⟨qB⟩⟩
           case rest =>
            clear HC51
            try clear c1; try clear c2; try clear p2; try clear c3; try clear c3b0; try clear c4; try clear c5; try clear c6; try clear c9; try clear c11; try clear c13; try clear c16; try clear c19; try clear c22; try clear c23; try clear c24; try clear c26; try clear c33; try clear c33b0; try clear c35; try clear c42; try clear c45; try clear c45b0; try clear c48; try clear c48b0; try clear c48b1; try clear c58; try clear p2
            obtain ⟨kq, x87_50, rfl, HA, HJ50, HO_7, HB⟩ := hcut
            have hl7_50 := (Kd.R_reads' HO_7.out).1
            rw [hl7_50] at HO_7
            (try simp only [hl7_50])
            cases kq with
            | zero => exact absurd HA.out (by simp [laws_FnExactPlaceCode.j2])
            | succ kj50 =>
             have H := HA.out
             clear HA
             simp only [laws_FnExactPlaceCode.j2] at H
             by_cases c65 : x87_50 = true
             ·subst c65
              rw [if_pos rfl] at H
              obtain rfl := Option.some.inj H
              go_wp2
              go_ret
              exact ⟨by first | rfl | (simp [errW_none, errW_some] <;> rfl) | (simp [*, errW_none, errW_some] <;> rfl), qB⟩
             ·replace c65 := Bool.eq_false_iff.mpr c65
              subst c65
              rw [if_neg (show ¬ (false = true) by decide)] at H
              obtain ⟨t509, A66, H⟩ := qE H
              try dsimp only at H
              by_cases c67 : t509 < 0
              ·rw [if_pos c67] at H
               have c67b0 := decide_eq_true c67
               clear c67
               obtain rfl := Option.some.inj H
               go_wp2_with (first | ((with_reducible refine gate_callee (f := 24) rfl ?_); refine goesL_ (some 90) rfl rfl Try.func24 (by kernel_rfl) rfl #[.slice Ao52 t499.length co52, .int .i64 1] rfl qM ?_; (with_reducible refine (laws_heldQuadS.calls kj50 _ _ t499 1 t509 _ ?side1 ?side2 A66.out).mono ?_); (case side1 => repeat (first | exact (Kd.R_reads' HO_7.out).2.2 | (with_reducible refine Kd.C_alloc ?_ _) | (with_reducible refine Kd.C_drewN ?_ _) | (with_reducible refine Kd.C_drew ?_))); (case side2 => exact (Kd.R_reads' HO_7.out).2.1); rintro e w' ⟨rfl, ⟨nd, rfl⟩⟩; refine ⟨_, rfl, ?_⟩))
               go_ret
               exact ⟨by first | rfl | (simp [errW_none, errW_some] <;> rfl) | (simp [*, errW_none, errW_some] <;> rfl), qB⟩
              ·rw [if_neg c67] at H
               have c67b0 := decide_eq_false c67
               clear c67
               by_cases c68 : t509 = t498
               ·rw [if_pos c68] at H
                have c68b0 : (t509 == t498) = true := beq_iff_eq.mpr c68
                have c68b1 : (t509 != t498) = false := bne_eq_false_iff_eq.mpr c68
                clear c68
                obtain rfl := Option.some.inj H
                go_wp2_with (first | ((with_reducible refine gate_callee (f := 24) rfl ?_); refine goesL_ (some 90) rfl rfl Try.func24 (by kernel_rfl) rfl #[.slice Ao52 t499.length co52, .int .i64 1] rfl qM ?_; (with_reducible refine (laws_heldQuadS.calls kj50 _ _ t499 1 t509 _ ?side1 ?side2 A66.out).mono ?_); (case side1 => repeat (first | exact (Kd.R_reads' HO_7.out).2.2 | (with_reducible refine Kd.C_alloc ?_ _) | (with_reducible refine Kd.C_drewN ?_ _) | (with_reducible refine Kd.C_drew ?_))); (case side2 => exact (Kd.R_reads' HO_7.out).2.1); rintro e w' ⟨rfl, ⟨nd, rfl⟩⟩; refine ⟨_, rfl, ?_⟩))
                go_ret
                exact ⟨by first | rfl | (simp [errW_none, errW_some] <;> rfl) | (simp [*, errW_none, errW_some] <;> rfl), qB⟩
               ·rw [if_neg c68] at H
                have c68b0 : (t509 == t498) = false := beq_eq_false_iff_ne.mpr c68
                have c68b1 : (t509 != t498) = true := bne_iff_ne.mpr c68
                obtain rfl := Option.some.inj H
                go_wp2_with (first | ((with_reducible refine gate_callee (f := 24) rfl ?_); refine goesL_ (some 90) rfl rfl Try.func24 (by kernel_rfl) rfl #[.slice Ao52 t499.length co52, .int .i64 1] rfl qM ?_; (with_reducible refine (laws_heldQuadS.calls kj50 _ _ t499 1 t509 _ ?side1 ?side2 A66.out).mono ?_); (case side1 => repeat (first | exact (Kd.R_reads' HO_7.out).2.2 | (with_reducible refine Kd.C_alloc ?_ _) | (with_reducible refine Kd.C_drewN ?_ _) | (with_reducible refine Kd.C_drew ?_))); (case side2 => exact (Kd.R_reads' HO_7.out).2.1); rintro e w' ⟨rfl, ⟨nd, rfl⟩⟩; refine ⟨_, rfl, ?_⟩))
                go_ret
                exact ⟨by first | rfl | (simp [errW_none, errW_some] <;> rfl) | (simp [*, errW_none, errW_some] <;> rfl), qB⟩
          ·rw [if_neg c48] at H
           have c48b0 : (t500 == t498) = false := beq_eq_false_iff_ne.mpr c48
           have c48b1 : (t500 != t498) = true := bne_iff_ne.mpr c48
           obtain rfl := Option.some.inj H
           obtain ⟨Ao69, co69, eo69⟩ := Kd.R_slice HO_7.out
           subst eo69
           go_wp2_with (first | ((with_reducible refine gate_callee (f := 19) rfl ?_); refine goesL_ (some 64) rfl rfl Try.func19 (by kernel_rfl) rfl #[.slice Ao69 t486.length co69, .int .i64 1] rfl qM ?_; (with_reducible refine (laws_markQuadS.calls kj27 (fun k_ => some k_ = (.slice Ao69 t486.length co69 : Value).ownBlock) (.slice Ao69 t486.length co69) t486 1 t498 t499 w _ ?side1 ?side2 A43.out).mono ?_); (case side1 => exact qB); (case side2 => exact Kd.R_tight rfl HO_7.out); rintro e w70 ⟨rfl, hy0, hb, hkp⟩; refine ⟨_, rfl, ?_⟩; have n0_ := Aside0.mk (Kd.R_mono (ok' := fun k_ => some k_ ≠ (.slice Ao69 t486.length co69 : Value).ownBlock) (Kd.R_keptB (HO_4.out) hkp (fun k_ hk_ hs_ => (hk_) hs_)) (fun k_ hk_ => hk_.1)); have n1_ := Aside0.mk (Kd.R_reok rfl hy0 (fun k_ e_ => HO_7.out.1 k_ e_)); have n2_ := Aside0.mk (hb); clear HO_4; clear HO_7; clear HB; have HO_4 := n0_; have HO_7 := n1_; have HB := n2_; clear n0_ n1_ n2_; (try clear hb); (try clear hkp); (try clear hy0)) | ((with_reducible refine gate_callee (f := 24) rfl ?_); refine goesL_ (some 67) rfl rfl Try.func24 (by kernel_rfl) rfl #[.slice Ao69 t499.length co69, .int .i64 1] rfl (by (try simp only [List.map_toArray, List.map_cons, List.map_nil]); first | done | (rw [show t499.length = t486.length from (Kd.R_reads' HO_7.out).1.symm] <;> rfl) | rfl | (simp only [List.length_drop, List.length_take]; rfl)) ?_; (with_reducible refine (laws_heldQuadS.calls kj27 _ _ t499 1 t500 _ ?side1 ?side2 A44.out).mono ?_); (case side1 => repeat (first | exact (Kd.R_reads' HO_7.out).2.2 | (with_reducible refine Kd.C_alloc ?_ _) | (with_reducible refine Kd.C_drewN ?_ _) | (with_reducible refine Kd.C_drew ?_))); (case side2 => rw [show t499.length = t486.length from (Kd.R_reads' HO_7.out).1.symm]; exact (Kd.R_reads' HO_7.out).2.1); rintro e w' ⟨rfl, ⟨nd, rfl⟩⟩; refine ⟨_, rfl, ?_⟩))
           go_ret
           exact ⟨by first | rfl | (simp [errW_none, errW_some] <;> rfl) | (simp [*, errW_none, errW_some] <;> rfl), qB⟩
     ·replace c26 := Bool.eq_false_iff.mpr c26
      subst c26
      rw [if_neg (show ¬ (false = true) by decide)] at H
      obtain rfl := Option.some.inj H
      go_wp2_with (first | ((with_reducible refine gate_callee (f := 11) rfl ?_); refine goesL_ (some 43) rfl rfl Try.func11 (by kernel_rfl) rfl #[.slice A0 l0.length c0] rfl qM ?_; (with_reducible refine (laws_toQuadS.calls kj7 _ _ l0 t491 _ ?side1 ?side2 A24.out).mono ?_); (case side1 => repeat (first | exact (Kd.C_below HR0.out HB.out) | (with_reducible refine Kd.C_alloc ?_ _) | (with_reducible refine Kd.C_drewN ?_ _) | (with_reducible refine Kd.C_drew ?_))); (case side2 => exact HC0.out); rintro e w71 ⟨v492, rfl, ho0, hb⟩; refine ⟨_, rfl, ?_⟩; have n0_ := Aside0.mk (Kd.R_elder' (qR HO_4) (by first | exact Kd.R_base ho0 | exact Kd.R_base ho0) hb); have n1_ := Aside0.mk (Kd.R_elder' (qR HO_6) (by first | exact Kd.R_base ho0 | exact Kd.R_base ho0) hb); have n2_ := Aside0.mk (Kd.R_elder' (qR HO_7) (by first | exact Kd.R_base ho0 | exact Kd.R_base ho0) hb); have n3_ := Aside0.mk (Kd.R_lower (Kd.R_new' (Kd.R_new' (Kd.R_new' ho0 (Kd.R_lt (qR HO_4))) (Kd.R_lt (qR HO_6))) (Kd.R_lt (qR HO_7))) (below_size qB)); have n4_ := Aside0.mk (below_step qB hb); clear HO_4; clear HO_6; clear HO_7; clear HB; have HO_4 := n0_; have HO_6 := n1_; have HO_7 := n2_; have HO493 := n3_; have HB := n4_; clear n0_ n1_ n2_ n3_ n4_; (try clear hb); (try clear hb2); (try clear hk); (try clear hi); (try clear ho0); obtain ⟨Ao72, co72, eo72⟩ := Kd.R_slice HO493.out; subst eo72) | ((with_reducible refine gate_callee (f := 13) rfl ?_); refine goesL_ (some 44) rfl rfl Try.func13 (by kernel_rfl) rfl #[.slice Ao13 t483.length co13, .slice Ao72 t491.length co72] rfl qM ?_; (with_reducible refine (laws_eqQuadS.calls kj7 _ _ t483 _ _ t491 false _ ?side1 ?side2 ?side3 ?side4 A25.out).mono ?_); (case side1 => repeat (first | exact (Kd.R_reads' HO_6.out).2.2 | (with_reducible refine Kd.C_alloc ?_ _) | (with_reducible refine Kd.C_drewN ?_ _) | (with_reducible refine Kd.C_drew ?_))); (case side2 => exact (Kd.R_reads' HO_6.out).2.1); (case side3 => repeat (first | exact (Kd.R_reads' HO493.out).2.2 | (with_reducible refine Kd.C_alloc ?_ _) | (with_reducible refine Kd.C_drewN ?_ _) | (with_reducible refine Kd.C_drew ?_))); (case side4 => exact (Kd.R_reads' HO493.out).2.1); rintro e w73 ⟨rfl, hb⟩; refine ⟨_, rfl, ?_⟩; have n0_ := Aside0.mk (Kd.R_below (qR HO_4) hb); have n1_ := Aside0.mk (Kd.R_below (qR HO_6) hb); have n2_ := Aside0.mk (Kd.R_below (qR HO_7) hb); have n3_ := Aside0.mk (Kd.R_below (qR HO493) hb); have n4_ := Aside0.mk (below_step qB hb); clear HO_4; clear HO_6; clear HO_7; clear HO493; clear HB; have HO_4 := n0_; have HO_6 := n1_; have HO_7 := n2_; have HO493 := n3_; have HB := n4_; clear n0_ n1_ n2_ n3_ n4_; (try clear hb); (try clear hb2); (try clear hk); (try clear hi)))
      go_ret
      exact ⟨by first | rfl | (simp [errW_none, errW_some] <;> rfl) | (simp [*, errW_none, errW_some] <;> rfl), qB⟩
end Go.Proofs.Ytahbkldagpfcaaa.M
namespace Go.Proofs.Ytahbkldagpfcaaa.M
open Go.RowKit Go.Proofs.YtahbkldagpfcaaaW.PrintWords Go.Proofs.YtahbkldagpfcaaaW.PrintLast Go.Proofs.YtahbkldagpfcaaaW.PrintMore PM
/-- A quad with its registers' places. -/
def ren (P : List Nat) (x : SQ) : SQ := ⟨x.f0, ((P.getD x.f1.toNat 0 : Nat) : Int), ((P.getD x.f2.toNat 0 : Nat) : Int), ((P.getD x.f3.toNat 0 : Nat) : Int), x.f4⟩
theorem spec_l41Rename.ev {P : List Nat} (hl : P.length = 12) (h0 : P.getD 0 0 = 0) {x : SQ} (h : QV (q_ x) 600) : Ev (fun k => spec_l41Rename.f k x.f0 x.f1 x.f2 x.f3 x.f4 (ints P)) ((ren P x).f0, (ren P x).f1, (ren P x).f2, (ren P x).f3, (ren P x).f4) := by
  obtain ⟨⟨d1, d2⟩, ⟨a1, a2⟩, b1, b2⟩ := regs_of h
  have rdI : ∀ y : Int, 0 ≤ y → rd (ints P) y = ((P.getD y.toNat 0 : Nat) : Int) := fun y hy => by
    have := rd_ints (l := P) y.toNat
    rwa [Int.toNat_of_nonneg hy] at this
  have ga := rdI x.f2 a1
  have gb := rdI x.f3 b1
  have gd := rdI x.f1 d1
  simp only [q_] at d1 d2 a1 a2 b1 b2
  have hv := h
  unfold QV rg q_ at hv
  simp only at hv
  have j1 : ∀ (e : Int) (b : Bool), (b = true ↔ x.f0 = 2 ∨ x.f0 = 5 ∨ x.f0 = 6 ∨ x.f0 = 9) → Ev (fun k => spec_l41Rename.j1 k (ints P) x.f0 b x.f0 e x.f2 x.f3 x.f4) (x.f0, e, (ren P x).f2, (ren P x).f3, (ren P x).f4) := by
    intro e b hb
    refine Ev.succ ?_
    simp only [spec_l41Rename.j1, ga, gb, ints_len, hl]
    by_cases c1 : b = true
    · have c1' := hb.1 c1
      refine Ev.pos (Ev.pos (Ev.pos (Ev.eq Ev.pure ?_)))
      have : x.f3 = 0 := by omega
      simp only [ren, this, Int.toNat_zero, h0]
      rfl
    have c0 := fun y => c1 (hb.2 y)
    refine Ev.neg ?_
    by_cases c2 : x.f0 = 3
    · exact Ev.pos (Ev.pos (Ev.pos (Ev.pos (Ev.pos Ev.pure))))
    · refine Ev.neg (Ev.eq Ev.pure ?_)
      have n2 : ¬ (x.f0 = 2 ∨ x.f0 = 5 ∨ x.f0 = 6 ∨ x.f0 = 9) := fun y => c1 (hb.2 y)
      have e2 : x.f2 = 0 := by omega
      have e3 : x.f3 = 0 := by omega
      simp only [ren, e2, e3, Int.toNat_zero, h0]
      rfl
  have j0 : ∀ e : Int, Ev (fun k => spec_l41Rename.j0 k (ints P) x.f0 e x.f2 x.f3 x.f4) (x.f0, e, (ren P x).f2, (ren P x).f3, (ren P x).f4) := by
    intro e
    refine Ev.succ ?_
    simp only [spec_l41Rename.j0]
    by_cases c1 : x.f0 = 2
    · exact Ev.pos (j1 e _ (by simp [c1]))
    refine Ev.neg ?_
    by_cases c2 : x.f0 = 5
    · exact Ev.pos (j1 e _ (by simp [c2]))
    refine Ev.neg ?_
    by_cases c3 : x.f0 = 6
    · exact Ev.pos (j1 e _ (by simp [c3]))
    exact Ev.neg (j1 e _ (by simp only [beq_iff_eq]; omega))
  simp only [spec_l41Rename.f]
  refine Ev.bind (Ev.const (spec_QuadSets.e (q := q_ x) h)) ?_
  by_cases hs : sets (q_ x) ≥ 0
  · refine Ev.pos (Ev.pos (Ev.pos ?_ (by rw [ints_len]; omega)))
    rw [gd]
    exact j0 _
  · refine Ev.neg ?_
    have e1 : x.f1 = 0 := by
      unfold sets q_ at hs
      simp only at hs
      split at hs <;> omega
    have := j0 x.f1
    rw [show x.f1 = (ren P x).f1 from by simp only [ren, e1, Int.toNat_zero, h0]; rfl] at this
    rw [show x.f1 = (ren P x).f1 from by simp only [ren, e1, Int.toNat_zero, h0]; rfl]
    exact this
def rens (P : List Nat) (c : List SQ) : List SQ := c.map (ren P)
theorem rens_get {P : List Nat} {c : List SQ} {i : Nat} (h : i < c.length) : (rens P c).getD i z46 = ren P (qa c i) := by simp [rens, qa, List.getD_eq_getElem?_getD, List.getElem?_eq_getElem h]
theorem rens_len (P : List Nat) (c : List SQ) : (rens P c).length = c.length := by simp [rens]
theorem spec_PlaceCode.out {c : List SQ} (h : CV (qs c)) {P : List Nat} (hl : P.length = 12) (h0 : P.getD 0 0 = 0) : ∀ (d p : Nat), p + d = c.length → Ev (fun k => spec_PlaceCode.l0 k c ((rens P c).take p) (ints P) (p : Int)) (rens P c, true)
  | 0, p, hp => by
    refine Ev.succ ?_
    simp only [spec_PlaceCode.l0]
    refine Ev.neg (Ev.eq Ev.pure ?_)
    rw [List.take_of_length_le (by rw [rens_len]; omega)]
  | d + 1, p, hp => by
    refine Ev.succ ?_
    have h6 := cv600 h
    have hr := rens_len P c
    simp only [spec_PlaceCode.l0, rd_qa, wrap_up (show p < 9223372036854775807 by omega)]
    refine Ev.pos (Ev.pos (Ev.bind (spec_l41Rename.ev hl h0 (qa600 h (show p < c.length by omega))) (Ev.pos ?_ (by rw [List.length_take]; omega))))
    have := spec_PlaceCode.out h hl h0 d (p + 1) (by omega)
    rw [List.take_succ_eq_append_getElem (by omega)] at this
    rw [show (rens P c)[p]'(by omega) = ren P (qa c p) from by have := rens_get (P := P) (c := c) (i := p) (by omega); rwa [List.getD_eq_getElem?_getD, List.getElem?_eq_getElem (by omega)] at this] at this
    exact this
theorem impl_PlaceCode.out {c : List SQ} (h : CV (qs c)) {P : List Nat} (hl : P.length = 12) : ∀ (d p : Nat), p + d = c.length → ∀ x : List SQ, x.length = c.length → (∀ i, i < p → qa x i = ren P (qa c i)) → (∀ i, p ≤ i → qa x i = qa c i) → Ev (fun k => impl_PlaceCode.l0 k (ints P) x c (c.length : Int) (p : Int)) (rens P c, true)
  | 0, p, hp, x, hx, h1, h2 => by
    refine Ev.succ ?_
    simp only [impl_PlaceCode.l0]
    refine Ev.neg (Ev.eq Ev.pure ?_)
    have : x = rens P c := list_ext z46 (by rw [hx, rens_len]) fun i hi => by rw [rens_get (by omega)]; exact h1 i (by omega)
    rw [this]
  | d + 1, p, hp, x, hx, h1, h2 => by
    refine Ev.succ ?_
    have h6 := cv600 h
    obtain ⟨⟨d1, d2⟩, ⟨a1, a2⟩, b1, b2⟩ := regs_of (cv_at h (show p < c.length by omega))
    simp only [q_] at d1 d2 a1 a2 b1 b2
    have rdI : ∀ y : Int, 0 ≤ y → rd (ints P) y = ((P.getD y.toNat 0 : Nat) : Int) := fun y hy => by
      have := rd_ints (l := P) y.toNat
      rwa [Int.toNat_of_nonneg hy] at this
    simp only [impl_PlaceCode.l0, rd_qa, ints_len, hl, Int.toNat_natCast, Option.bind_some, qa_set (show p < x.length by omega), List.set_set, rdI _ d1, rdI _ a1, rdI _ b1, wrap_up (show p < 9223372036854775807 by omega), h2 p (Nat.le_refl _)]
    refine Ev.pos (Ev.pos (Ev.pos (Ev.pos (Ev.pos (Ev.pos (Ev.pos (Ev.pos (Ev.pos (Ev.pos ?_)))))))))
    refine impl_PlaceCode.out h hl d (p + 1) (by omega) (x.set p (ren P (qa c p))) (by rw [List.length_set]; exact hx) (fun i hi => ?_) (fun i hi => ?_)
    · unfold qa
      rw [getD_set x p i _ _ (by omega)]
      by_cases e : i = p
      · rw [if_pos e, e]
      · rw [if_neg e]
        exact h1 i (by omega)
    · unfold qa
      rw [getD_set x p i _ _ (by omega), if_neg (by omega)]
      exact h2 i (by omega)
theorem placeCode_ev (c : List SQ) : ∃ v : List SQ × Bool, v.1.length ≤ 600 ∧ Ev (fun k => spec_PlaceCode.f k c) v ∧ Ev (fun k => impl_PlaceCode.f k c) v := by
  by_cases h : CV (qs c)
  · obtain ⟨P, hl, hle, e1, e2⟩ := places_ev c h
    have h6 := cv600 h
    have h0 : P.getD 0 0 = 0 := by have := hle 0 (by decide); omega
    refine ⟨(rens P c, true), by rw [rens_len]; exact h6.2, ?_, ?_⟩
    · simp only [spec_PlaceCode.f]
      exact Ev.some (Ev.bind (spec_CodeValid.ev c) (Ev.pos (Ev.bind e1 (spec_PlaceCode.out h hl h0 c.length 0 (by omega))) (decide_eq_true h)))
    · simp only [impl_PlaceCode.f, impl_Quad.f]
      refine Ev.bind (impl_CodeValid.ev c) (Ev.pos (Ev.bind e2 ?_) (decide_eq_true h))
      refine Ev.bind (Ev.const (if_pos (by omega))) ?_
      exact impl_PlaceCode.out h hl c.length 0 (by omega) c rfl (fun i hi => by omega) (fun i _ => rfl)
  · refine ⟨([], false), by simp, ?_, ?_⟩
    · simp only [spec_PlaceCode.f]
      exact Ev.some (Ev.bind (spec_CodeValid.ev c) (Ev.neg Ev.pure (fun x => h (of_decide_eq_true x))))
    · simp only [impl_PlaceCode.f]
      exact Ev.bind (impl_CodeValid.ev c) (Ev.neg Ev.pure (fun x => h (of_decide_eq_true x)))
theorem law_PlaceCode {l : List LQ} (h : l.length ≤ 9223372036854775807) : Ev (fun k => laws_FnExactPlaceCode.f k l) true := by
  obtain ⟨t, e, ht⟩ := laws_szQuadS.e h
  simp only [laws_FnExactPlaceCode.f, e]
  refine Ev.some ?_
  by_cases c : t < 0
  · exact Ev.pos Ev.pure
  refine Ev.neg ?_
  have hl := ht c
  obtain ⟨⟨v, b⟩, hv, e1, e2⟩ := placeCode_ev (l.map toQ)
  have hQ := laws_toQuadS.ev hl
  have hq := laws_eqQuadS.ev (l := v) (by simp only at hv; omega)
  have hq2 := laws_eqQuadS.ev (l := l.map toQ) (by simpa using hl)
  have hm := laws_markQuadS.ev (l := l.map toQ) (by simpa using hl)
  have hm2 := laws_markQuadS.ev (l := v) (by simp only at hv; omega)
  have hh := laws_heldQuadS.ev (n := v.length) (by simp only at hv; omega)
  refine Ev.bind hQ (Ev.bind e1 (Ev.bind hQ (Ev.bind e2 (Ev.bind hq (Ev.pos ?_)))))
  refine Ev.succ ?_
  simp only [laws_FnExactPlaceCode.j0]
  refine Ev.neg (Ev.bind hQ (Ev.bind hq2 (Ev.pos (Ev.bind hm (Ev.neg (Ev.bind hq (Ev.pos ?_)))))))
  refine Ev.succ ?_
  simp only [laws_FnExactPlaceCode.j1]
  refine Ev.neg (Ev.bind hm2 (Ev.bind hh (Ev.neg (Ev.pos (Ev.bind hQ (Ev.bind e2 (Ev.bind hq (Ev.pos ?_)))) rfl))))
  refine Ev.succ ?_
  simp only [laws_FnExactPlaceCode.j2]
  exact Ev.neg (Ev.bind hh (Ev.neg (Ev.pos Ev.pure rfl)))
end Go.Proofs.Ytahbkldagpfcaaa.M
namespace Go.Proofs.Ytahbkldagpfcaaa.M
open Go.ChangeShapes Go.WideShapes Go.ChangeAt Go.RowKit Go.Joins Go.Deep Go.Proofs.YtahbkldagpfcaaaW.PrintWords
theorem own : ownKnob Try.prog.godebug = none := by kernel_rfl
theorem laidOut : laidOutB Try.prog = true := by kernel_rfl
section
variable {H : Type} {enc : TypeId × Value → H} {P : Program} {w : World} {base : Nat} {spare : Nat → Bool} {held : Bool}
theorem open_cells5 {t : TypeId} {f0 f1 f2 f3 f4 : Field} {fuel : Nat} {cs : List Value} {x : DataW H × List MemPlace} (hs : P.underlying t = some (.struct #[f0, f1, f2, f3, f4])) (hone : oneCellFields P #[f0, f1, f2, f3, f4] = true) (hC : P.cellsOf t = 5)
    (h : DataW.trod enc P w base spare held fuel t cs = some x) :
    ∃ (v0 v1 v2 v3 v4 : Value) (y0 y1 y2 y3 y4 : DataW H × List MemPlace) (n : Nat), cs = [v0, v1, v2, v3, v4] ∧
      DataW.trod enc P w base spare held n f0.type [v0] = some y0 ∧ DataW.trod enc P w base spare held n f1.type [v1] = some y1 ∧ DataW.trod enc P w base spare held n f2.type [v2] = some y2 ∧ DataW.trod enc P w base spare held n f3.type [v3] = some y3 ∧ DataW.trod enc P w base spare held n f4.type [v4] = some y4 := by
  obtain ⟨xs, n, _, hx, hl, hlen, hg⟩ := DataW.trod_struct hs h
  obtain ⟨o0, k0⟩ := hone_of hone 0 f0 rfl
  obtain ⟨o1, k1⟩ := hone_of hone 1 f1 rfl
  obtain ⟨o2, k2⟩ := hone_of hone 2 f2 rfl
  obtain ⟨o3, k3⟩ := hone_of hone 3 f3 rfl
  obtain ⟨o4, k4⟩ := hone_of hone 4 f4 rfl
  match cs, hl.trans hC, xs, hlen with
  | [c0, c1, c2, c3, c4], _, [y0, y1, y2, y3, y4], _ =>
    exact ⟨c0, c1, c2, c3, c4, y0, y1, y2, y3, y4, n, rfl, by simpa [o0, k0] using hg 0 f0 rfl, by simpa [o1, k1] using hg 1 f1 rfl, by simpa [o2, k2] using hg 2 f2 rfl, by simpa [o3, k3] using hg 3 f3 rfl, by simpa [o4, k4] using hg 4 f4 rfl⟩
end
/-- A slice of quads is a row of quads. -/
theorem open_quads {H : Type} {enc : TypeId × Value → H} {w : World} {spare : Nat → Bool} {held : Bool} {a : Option Addr} {len cap : Nat} {d : DataW H} {p : List MemPlace} (h : DataW.Trod enc Try.prog w 0 spare held 22 (.slice a len cap) d p) :
    ∃ l : List S48, l.length = len ∧ len ≤ cap ∧ Kd.C k48 w a len l := by
  obtain ⟨fuel, hf⟩ := h
  rcases open_slice Try.underlying22 hf with ⟨hcs, _⟩ | ⟨ad, l, c, m, n, D, Pl, hcs, _, hl, hm, hmm, _, hel⟩
  · simp [Value.cells] at hcs
    obtain ⟨rfl, rfl, rfl⟩ := hcs
    exact ⟨[], rfl, Nat.le_refl _, Kd.C_nil _ _⟩
  · simp [Value.cells] at hcs
    obtain ⟨rfl, rfl, rfl⟩ := hcs
    have hC : Try.prog.cellsOf 48 = 5 := by kernel_rfl
    have hle : len ≤ m := by rw [hmm]; split <;> omega
    have key : ∀ i, i < len → ∃ x : S48, ∀ j u, [Value.int .i64 x.f0, .int .i64 x.f1, .int .i64 x.f2, .int .i64 x.f3, .int .i64 x.f4][j]? = some u → w.cell? (ad.add (i * 5 + j)) = some u := by
      intro i hi
      obtain ⟨cs, h1, h2⟩ := hel i (by omega)
      rw [hC] at h1
      obtain ⟨v0, v1, v2, v3, v4, y0, y1, y2, y3, y4, k, rfl, g0, g1, g2, g3, g4⟩ := open_cells5 Try.underlying48 (by kernel_rfl) hC h2
      obtain ⟨x0, e0, _, _⟩ := DataW.trod_int Try.underlying3 g0
      obtain ⟨x1, e1, _, _⟩ := DataW.trod_int Try.underlying3 g1
      obtain ⟨x2, e2, _, _⟩ := DataW.trod_int Try.underlying3 g2
      obtain ⟨x3, e3, _, _⟩ := DataW.trod_int Try.underlying3 g3
      obtain ⟨x4, e4, _, _⟩ := DataW.trod_int Try.underlying3 g4
      simp at e0 e1 e2 e3 e4
      subst e0 e1 e2 e3 e4
      refine ⟨⟨x0, x1, x2, x3, x4⟩, fun j u hu => ?_⟩
      have hc := (World.cells?_some h1).2.2 j
      rw [← Deep.add_add]
      have hj : j < 5 := by
        rcases Nat.lt_or_ge j 5 with h | h
        · exact h
        · rw [List.getElem?_eq_none (by simpa using h)] at hu
          cases hu
      rw [← hu]
      exact hc hj
    refine ⟨(List.range len).map fun i => if h : i < len then Classical.choose (key i h) else z48, by simp, hl, by simp, by unfold maxLen at hm; omega, fun _ => ⟨ad, rfl, fun j x hx => ?_⟩⟩
    obtain ⟨hj, e⟩ := List.getElem?_eq_some_iff.1 hx
    have hj' : j < len := by simpa using hj
    simp only [List.getElem_map, List.getElem_range, dif_pos hj'] at e
    subst e
    exact ⟨_, rfl, Kd.K_of_M _ (k48_mkM w 0 (fun _ => True) _), fun i u hu => Classical.choose_spec (key j hj') i u hu⟩
theorem C_bound {w : World} {a : Option Addr} {n : Nat} {l : List S48} (h : Kd.C k48 w a n l) : l.length ≤ 9223372036854775807 := by
  rw [Kd.C_len h]
  exact Kd.C_max h
end Go.Proofs.Ytahbkldagpfcaaa.M
namespace Go.Proofs.Ytahbkldagpfcaaa
open Go.ChangeShapes Go.WideShapes Go.ChangeAt Go.RowKit
namespace fnExactPlaceCode
set_option maxRecDepth 100000 in
theorem lifted (os : Os) (started : os.Started) (H : Type) (enc : TypeId × Value → H) :
    ReturnsInHanded {} Try.checked os 6 .any (Rows.fnExactPlaceCodeSpec.pre6 enc Try.prog Try.f6 Rows.fnExactPlaceCodeRow.domain false) (Rows.fnExactPlaceCodeSpec.post enc Try.prog Try.f6 false true false false) := by
  refine returnsInHanded_of_change_sized (C := Try.checked) M.own started (by kernel_rfl) Try.func6
    (ChangeSpec.witness6 (enc := enc) (C := Try.checked) false ⟨#[], #[.slice none 0 0], []⟩ 8 (by kernel_rfl) (by kernel_rfl) (by kernel_rfl) (by kernel_rfl)) ?_
  intro W base args ds gs before hval0 hW hcnd hsz0 _
  have hval : ∀ (j : Nat) t v, Try.f6.params[j]? = some t → args[j]? = some v → Value.okWide Try.prog W .any base t v := hval0
  have hW' := hW
  obtain ⟨p, q, hA0, hV, rfl, hfz, hnd⟩ := hW
  have hA : DataW.TrodAll enc Try.prog W 0 (fun _ => true) true Try.f6.params.toList args.toList ds p := hA0
  rw [Try.params6] at hA hval
  obtain ⟨v0, vs0, d0, ds0, p0, q0, hargs, rfl, rfl, h0, r0⟩ := trodAll_cons hA
  obtain ⟨rfl, rfl, rfl⟩ := trodAll_nil r0
  obtain rfl : args = #[v0] := by cases args; simp_all
  obtain ⟨rfl, rfl⟩ := trodVars_none hV
  have k0 := h0
  have lt0 : ∀ x ∈ p0, x.block < W.heap.size := by obtain ⟨m, hm⟩ := k0; exact DataW.trod_lt m _ _ _ hm
  obtain ⟨a0, len0, cap0, rfl⟩ := okWide_slice Try.underlying22 (hval 0 22 v0 rfl rfl)
  obtain ⟨l, rfl, hc0, hC⟩ := M.open_quads h0
  clear hA0 hval0 hsz0
  obtain ⟨k, hk⟩ := (M.law_PlaceCode (l := l) (M.C_bound hC)).get
  refine (M.laws_FnExactPlaceCode.calls k a0 cap0 l true W hC hc0 hk).mono fun e W' ⟨he, bel⟩ => ?_
  subst he
  exact ⟨_, rfl, _, _, _, [], _, [], hW', trodAll_mk1 (shut_bool Try.underlying4 _), (trodAll_cons_mk (Below.trod M.laidOut (by kernel_rfl) (of_decide_eq_true (by kernel_rfl)) k0 bel lt0) trodAll_mk0), rfl, bel.frame _, fun h => by cases h⟩
theorem over : Rows.fnExactPlaceCodeRow.holds Try.pinned (OpenSpec.ofChange Rows.fnExactPlaceCodeSpec) :=
  OpenClaim.holds_of_wide 6 Try.f6 rfl rfl rfl rfl rfl rfl rfl ⟨rfl, rfl, rfl, rfl, rfl⟩ rfl rfl rfl rfl rfl (by kernel_rfl) Try.func6 (by kernel_rfl)
    (of_decide_eq_true (by kernel_rfl)) (by unfold Func.isWrapper; first | (rw [if_pos (by decide +kernel)]; kernel_rfl) | (rw [if_neg (by decide +kernel)]; exact ⟨rfl, rfl⟩))
    (fun os started H enc _ => lifted os started H enc)
end fnExactPlaceCode
theorem fnExactPlaceCode_holds : Rows.FnExactPlaceCodeSaid := fnExactPlaceCode.over
end Go.Proofs.Ytahbkldagpfcaaa
