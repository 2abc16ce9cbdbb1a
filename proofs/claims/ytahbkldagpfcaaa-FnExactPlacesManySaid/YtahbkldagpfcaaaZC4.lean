/- FnExactPlacesMany holds, for every input. -/
import Derived.Test.YtahbkldagpfcaaaZC3
import Derived.Test.YtahbkldagpfcaaaRows
import Derived.WalkKit
import Derived.ProofKit
import Derived.OpenShut
import Derived.ChangeOld
import Derived.Below
import Derived.SizedLaws
import Derived.Lib.SmallJoins
import Derived.Deep.Slices
import Derived.Deep.Fields
import Derived.ChangeSame
import Derived.DataReads
set_option linter.unusedVariables false
set_option linter.unusedSimpArgs false
namespace Go.Proofs.Ytahbkldagpfcaaa.M
open Go.RowKit Go.Proofs.YtahbkldagpfcaaaW.PrintWords Go.Proofs.YtahbkldagpfcaaaW.PrintLast Go.Proofs.YtahbkldagpfcaaaW.PrintMore PM
/-- A place is taken by a lesser register that interferes. -/
def Bad (c : List SQ) (T : List Nat) (P : List Nat) (r p : Nat) : Prop := ∃ k, k < r ∧ P.getD k 0 = p ∧ Mt c T k r
instance (c : List SQ) (T : List Nat) (P : List Nat) (r p : Nat) : Decidable (Bad c T P r p) := by
  unfold Bad
  exact Nat.decidableExistsLT _
def leastF (b : Nat → Bool) : Nat → Nat → Nat
  | 0, p => p
  | m + 1, p => if b p = true then leastF b m (p + 1) else p
theorem leastF_le (b : Nat → Bool) : ∀ m p, p ≤ leastF b m p ∧ leastF b m p ≤ p + m
  | 0, p => by simp [leastF]
  | m + 1, p => by
    have := leastF_le b m (p + 1)
    unfold leastF
    split <;> omega
theorem leastF_at (b : Nat → Bool) : ∀ m p, b (p + m) = false → b (leastF b m p) = false
  | 0, p, h => h
  | m + 1, p, h => by
    unfold leastF
    split
    · exact leastF_at b m (p + 1) (by rw [show p + 1 + m = p + (m + 1) from by omega]; exact h)
    · rename_i h'
      simpa using h'
/-- The places of the registers below r. -/
def plcs (c : List SQ) (T : List Nat) : Nat → List Nat
  | 0 => []
  | r + 1 => plcs c T r ++ [leastF (fun p => decide (Bad c T (plcs c T r) r p)) r 0]
theorem plcs_len (c : List SQ) (T : List Nat) : ∀ r, (plcs c T r).length = r
  | 0 => rfl
  | r + 1 => by simp [plcs, plcs_len c T r]
theorem getD_append {l : List Nat} {x j : Nat} (h : j < l.length) : (l ++ [x]).getD j 0 = l.getD j 0 := by
  simp [List.getD_eq_getElem?_getD, List.getElem?_append_left h]
theorem plcs_le (c : List SQ) (T : List Nat) : ∀ r j, j < r → (plcs c T r).getD j 0 ≤ j
  | 0, j, h => by omega
  | r + 1, j, h => by
    have hl := plcs_len c T r
    unfold plcs
    by_cases e : j = r
    · subst e
      have : (plcs c T j ++ [leastF (fun p => decide (Bad c T (plcs c T j) j p)) j 0]).getD j 0 = leastF (fun p => decide (Bad c T (plcs c T j) j p)) j 0 := by
        simp [List.getD_eq_getElem?_getD, List.getElem?_append_right (show (plcs c T j).length ≤ j by omega), hl]
      rw [this]
      have := leastF_le (fun p => decide (Bad c T (plcs c T j) j p)) j 0
      omega
    · rw [getD_append (by omega)]
      exact plcs_le c T r j (by omega)
theorem spec_l41Least.in {c : List SQ} (h : CV (qs c)) (T : List Nat) {P : List Nat} {r : Nat} (hl : P.length = r) (hr : r < 12) {p : Nat} {v : Int} (hp : p < 12) (g1 : Bad c T P r p → Ev (fun k => spec_l41Least.l0 k c (rows (abs_ c T)) (ints P) (r : Int) ((p + 1 : Nat) : Int)) v) (g2 : ¬ Bad c T P r p → v = p) :
    ∀ (d j : Nat), j + d = r → ∀ f : Bool, (f = true ↔ ¬ ∃ k, k < j ∧ P.getD k 0 = p ∧ Mt c T k r) → Ev (fun k => spec_l41Least.l1 k c (rows (abs_ c T)) (ints P) (r : Int) (p : Int) f (j : Int)) v
  | 0, j, hj, f, hf => by
    refine Ev.succ ?_
    simp only [spec_l41Least.l1, wrap_up (show p < 9223372036854775807 by omega)]
    refine Ev.neg ?_
    rw [show j = r from by omega] at hf
    by_cases e : f = true
    · refine Ev.pos ?_
      rw [g2 (hf.1 e)]
      exact Ev.pure
    · refine Ev.neg (g1 ?_)
      exact Classical.byContradiction fun x => e (hf.2 x)
  | d + 1, j, hj, f, hf => by
    refine Ev.succ ?_
    simp only [spec_l41Least.l1, ints_len, rd_ints, wrap_up (show j < 9223372036854775807 by omega)]
    refine Ev.pos (Ev.pos (Ev.pos ?_))
    have ih := spec_l41Least.in h T hl hr hp g1 g2 d (j + 1) (by omega)
    have more : (∃ k, k < j + 1 ∧ P.getD k 0 = p ∧ Mt c T k r) ↔ (∃ k, k < j ∧ P.getD k 0 = p ∧ Mt c T k r) ∨ (P.getD j 0 = p ∧ Mt c T j r) := by
      constructor
      · rintro ⟨k, h1, h2⟩
        by_cases e : k = j
        · exact .inr (e ▸ h2)
        · exact .inl ⟨k, by omega, h2⟩
      · rintro (⟨k, h1, h2⟩ | h2)
        · exact ⟨k, by omega, h2⟩
        · exact ⟨j, by omega, h2⟩
    by_cases c1 : P.getD j 0 = p
    · refine Ev.pos (Ev.bind (spec_l41Meet.ev h T (by omega) hr) ?_) (by omega)
      by_cases c2 : Mt c T j r
      · refine Ev.pos (ih false ?_) (decide_eq_true c2)
        rw [more]
        simp only [c1, c2, and_self, or_true, not_true_eq_false, Bool.false_eq_true]
      · refine Ev.neg (ih f ?_) (fun x => c2 (of_decide_eq_true x))
        rw [more, hf]
        simp [c2]
    · refine Ev.neg (ih f ?_) (by omega)
      rw [more, hf]
      simp only [c1, false_and, or_false]
theorem spec_l41Least.out {c : List SQ} (h : CV (qs c)) (T : List Nat) {P : List Nat} {r : Nat} (hl : P.length = r) (hr : r < 12) : ∀ (d p : Nat), p + d = r → Ev (fun k => spec_l41Least.l0 k c (rows (abs_ c T)) (ints P) (r : Int) (p : Int)) ((leastF (fun p => decide (Bad c T P r p)) d p : Nat) : Int)
  | 0, p, hp => by
    refine Ev.succ ?_
    simp only [spec_l41Least.l0]
    rw [show r = p from by omega]
    exact Ev.neg Ev.pure
  | d + 1, p, hp => by
    refine Ev.succ ?_
    simp only [spec_l41Least.l0]
    refine Ev.pos (spec_l41Least.in h T hl hr (by omega) (fun hb => ?_) (fun hb => ?_) r 0 (by omega) true (by simp))
    · have := spec_l41Least.out h T hl hr d (p + 1) (by omega)
      unfold leastF
      rw [if_pos (decide_eq_true hb)]
      exact this
    · unfold leastF
      rw [if_neg (fun x => hb (of_decide_eq_true x))]
theorem spec_places {c : List SQ} (h : CV (qs c)) {T : List Nat} (hT : LT c T) (hl : Ev (fun k => spec_LiveOf.f k c) (rows T)) : Ev (fun k => spec_PlacesOf.f k c) (ints (plcs c T 12)) := by
  have key : ∀ (d p : Nat), p + d = 12 → Ev (fun k => spec_PlacesOf.l0 k c (ints (plcs c T p)) (rows (abs_ c T)) (p : Int)) (ints (plcs c T 12)) := by
    intro d
    induction d with
    | zero =>
      intro p hp
      refine Ev.succ ?_
      simp only [spec_PlacesOf.l0]
      rw [show p = 12 from by omega]
      exact Ev.neg Ev.pure
    | succ d ih =>
      intro p hp
      refine Ev.succ ?_
      have hlen := plcs_len c T p
      simp only [spec_PlacesOf.l0, spec_l41Least.f, ints_len, hlen, wrap_up (show p < 9223372036854775807 by omega)]
      have := spec_l41Least.out h T hlen (by omega) p 0 (by omega)
      refine Ev.pos (Ev.bind this (Ev.pos ?_))
      have := ih (p + 1) (by omega)
      rw [show ints (plcs c T (p + 1)) = ints (plcs c T p) ++ [((leastF (fun x => decide (Bad c T (plcs c T p) p x)) p 0 : Nat) : Int)] from by simp [plcs, ints]] at this
      exact this
  simp only [spec_PlacesOf.f]
  exact Ev.some (Ev.bind (spec_CodeValid.ev c) (Ev.pos (Ev.bind (spec_l41After.ev h hT hl) (key 12 0 rfl)) (decide_eq_true h)))
/-- What is taken by the registers below o. -/
def Tk (M P : List Nat) (r o t : Nat) : Prop := t < 4096 ∧ ∀ x, t.testBit x = true ↔ ∃ k, k < o ∧ P.getD k 0 = x ∧ (M.getD r 0).testBit k = true
theorem impl_placesOf.in {M P : List Nat} {r : Nat} (hM : Tab 12 M) (hr : r < 12) (hl : P.length = 12) (hP : ∀ j, j < r → P.getD j 0 < 12) {v : List Int} (g : ∀ t, Tk M P r r t → Ev (fun k => impl_placesOf.l2 k (ints M) (ints P) (r : Int) (t : Int)) v) :
    ∀ (d o : Nat), o + d = r → ∀ t, Tk M P r o t → Ev (fun k => impl_placesOf.l1 k (ints M) (ints P) (r : Int) (t : Int) (o : Int)) v
  | 0, o, ho, t, ht => by
    refine Ev.succ ?_
    simp only [impl_placesOf.l1]
    rw [show o = r from by omega] at ht
    exact Ev.neg (g t ht)
  | d + 1, o, ho, t, ht => by
    refine Ev.succ ?_
    have hm := hM.2 r
    have hp := hP o (by omega)
    have hw := pow16 hp
    have ht1 := ht.1
    simp only [impl_placesOf.l1, ints_len, rdOf_ints, Int.toNat_natCast, impl_regSet_has.e (show M.getD r 0 < 65536 by omega) (show o < 16 by omega), wrap_up (show o < 9223372036854775807 by omega), wrap_pow hp, bits_or (show t < 65536 by omega) (show 2 ^ P.getD o 0 < 65536 by omega)]
    refine Ev.pos (Ev.pos (Ev.some ?_))
    have more : ∀ x, (∃ k, k < o + 1 ∧ P.getD k 0 = x ∧ (M.getD r 0).testBit k = true) ↔ (∃ k, k < o ∧ P.getD k 0 = x ∧ (M.getD r 0).testBit k = true) ∨ (P.getD o 0 = x ∧ (M.getD r 0).testBit o = true) := by
      intro x
      constructor
      · rintro ⟨k, h1, h2⟩
        by_cases e : k = o
        · exact .inr (e ▸ h2)
        · exact .inl ⟨k, by omega, h2⟩
      · rintro (⟨k, h1, h2⟩ | h2)
        · exact ⟨k, by omega, h2⟩
        · exact ⟨o, by omega, h2⟩
    have ih := impl_placesOf.in hM hr hl hP g d (o + 1) (by omega)
    by_cases hb : (M.getD r 0).testBit o = true
    · refine Ev.pos (Ev.pos (ih _ ⟨or_lt (n := 12) ht1 hw, fun x => ?_⟩))
      rw [more, Nat.testBit_or, Bool.or_eq_true, ht.2 x, Nat.testBit_two_pow, decide_eq_true_eq]
      simp only [hb, and_true]
    · refine Ev.neg (ih t ⟨ht1, fun x => ?_⟩)
      rw [more, ht.2 x]
      simp only [hb, Bool.false_eq_true, and_false, or_false]
theorem impl_placesOf.up {M : List Nat} {r t : Nat} (hr : r < 12) (ht : t < 4096) {b : Nat → Bool} (hb : ∀ x, t.testBit x = b x) {v : List Int} : ∀ (d p : Nat), p + d = r → b r = false → ∀ P : List Nat, P.length = 12 → P.getD r 0 = p → (∀ Q : List Nat, Q = P.set r (leastF b d p) → Ev (fun k => impl_placesOf.l0 k (ints M) (ints Q) ((r + 1 : Nat) : Int)) v) → Ev (fun k => impl_placesOf.l2 k (ints M) (ints P) (r : Int) (t : Int)) v
  | d, p, hp, hbr, P, hl, hpr, g => by
    refine Ev.succ ?_
    simp only [impl_placesOf.l2, ints_len, rdOf_ints, hpr, Int.toNat_natCast, impl_regSet_has.e (show t < 65536 by omega) (show p < 16 by omega), wrap_up (show p < 9223372036854775807 by omega), wrap_up (show r < 9223372036854775807 by omega), ints_set]
    refine Ev.pos (Ev.some ?_)
    by_cases h : t.testBit p = true
    · cases d with
      | zero =>
        rw [hb, show p = r from by omega, hbr] at h
        cases h
      | succ d =>
        refine Ev.pos (impl_placesOf.up hr ht hb d (p + 1) (by omega) hbr (P.set r (p + 1)) (by rw [List.length_set]; exact hl) (by rw [getD_set P r r _ 0 (by omega), if_pos rfl]) fun Q hQ => g Q ?_)
        rw [hQ, List.set_set]
        have : leastF b (d + 1) p = leastF b d (p + 1) := by
          unfold leastF
          rw [if_pos (by rw [← hb]; exact h)]
          cases d <;> rfl
        rw [this]
    · refine Ev.neg (g P ?_)
      have : leastF b d p = p := by
        cases d with
        | zero => rfl
        | succ d =>
          unfold leastF
          rw [if_neg (by rw [← hb]; exact h)]
      rw [this, ← hpr, set_same (by omega)]
theorem impl_places {c : List SQ} {T M : List Nat} (hM : MT c T M) (hm : Ev (fun k => impl_meetings.f k c) (ints M)) : Ev (fun k => impl_placesOf.f k c) (ints (plcs c T 12)) := by
  have key : ∀ (d r : Nat), r + d = 12 → ∀ P : List Nat, P.length = 12 → (∀ j, j < r → P.getD j 0 = (plcs c T r).getD j 0) → (∀ j, r ≤ j → P.getD j 0 = 0) → Ev (fun k => impl_placesOf.l0 k (ints M) (ints P) (r : Int)) (ints (plcs c T 12)) := by
    intro d
    induction d with
    | zero =>
      intro r hr P hl hP h0
      refine Ev.succ ?_
      simp only [impl_placesOf.l0]
      have hr12 : r = 12 := by omega
      subst hr12
      refine Ev.neg (Ev.eq Ev.pure ?_)
      congr 1
      exact list_ext 0 (by rw [hl, plcs_len]) fun i hi => hP i (by omega)
    | succ d ih =>
      intro r hr P hl hP h0
      refine Ev.succ ?_
      simp only [impl_placesOf.l0]
      have hlen := plcs_len c T r
      have hle : ∀ j, j < r → P.getD j 0 ≤ j := fun j hj => by rw [hP j hj]; exact plcs_le c T r j hj
      refine Ev.pos (Ev.pos (impl_placesOf.in hM.tab (by omega) hl (fun j hj => by have := hle j hj; omega) (fun t ht => ?_) r 0 (by omega) 0 ⟨by decide, fun x => by simp⟩))
      have hb : ∀ x, t.testBit x = decide (Bad c T (plcs c T r) r x) := by
        intro x
        apply Bool.eq_iff_iff.2
        rw [ht.2 x, decide_eq_true_eq]
        unfold Bad
        constructor
        · rintro ⟨k, h1, h2, h3⟩
          exact ⟨k, h1, by rw [← hP k h1]; exact h2, ((hM.iff r k (by omega) (by omega)).1 h3).symm⟩
        · rintro ⟨k, h1, h2, h3⟩
          exact ⟨k, h1, by rw [hP k h1]; exact h2, (hM.iff r k (by omega) (by omega)).2 h3.symm⟩
      have hbr : decide (Bad c T (plcs c T r) r r) = false := by
        rw [decide_eq_false_iff_not]
        rintro ⟨k, h1, h2, _⟩
        have := plcs_le c T r k h1
        omega
      refine impl_placesOf.up (b := fun x => decide (Bad c T (plcs c T r) r x)) (by omega) ht.1 hb r 0 (by omega) hbr P hl (h0 r (Nat.le_refl _)) fun Q hQ => ?_
      subst hQ
      refine ih (r + 1) (by omega) _ (by rw [List.length_set]; exact hl) (fun j hj => ?_) (fun j hj => ?_)
      · rw [getD_set P r j _ 0 (by omega)]
        by_cases e : j = r
        · subst e
          rw [if_pos rfl]
          simp [plcs, List.getD_eq_getElem?_getD, List.getElem?_append_right (show (plcs c T j).length ≤ j by omega), hlen]
        · rw [if_neg e, hP j (by omega)]
          simp only [plcs]
          rw [getD_append (by omega)]
      · rw [getD_set P r j _ 0 (by omega), if_neg (by omega)]
        exact h0 j (by omega)
  have z : ∀ i, (List.replicate 12 0).getD i 0 = 0 := by
    intro i
    rw [List.getD_eq_getElem?_getD, List.getElem?_replicate]
    split <;> rfl
  simp only [impl_placesOf.f]
  refine Ev.bind hm ?_
  exact key 12 0 rfl (List.replicate 12 0) rfl (fun j hj => by omega) (fun j _ => z j)
theorem places_ev (c : List SQ) (h : CV (qs c)) : ∃ P : List Nat, P.length = 12 ∧ (∀ j, j < 12 → P.getD j 0 ≤ j) ∧ Ev (fun k => spec_PlacesOf.f k c) (ints P) ∧ Ev (fun k => impl_placesOf.f k c) (ints P) := by
  obtain ⟨T, hT, e1, e2⟩ := live_ev h
  obtain ⟨M, hM, e3⟩ := meet_ev h hT e2
  exact ⟨plcs c T 12, plcs_len c T 12, plcs_le c T 12, spec_places h hT e1, impl_places hM e3⟩
end Go.Proofs.Ytahbkldagpfcaaa.M
namespace Go.Proofs.Ytahbkldagpfcaaa.M
open Go.RowKit Go.Proofs.YtahbkldagpfcaaaW.PrintWords Go.Proofs.YtahbkldagpfcaaaW.PrintLast Go.Proofs.YtahbkldagpfcaaaW.PrintMore
attribute [local go_sem] max2_int min2_int max_two min_two max_three min_three max_four min_four
def laws_eqIntS.l0 : Nat → List Int → List Int → Int → Option (Bool)
 | 0, _, _, _ => none
 | k + 1, x0, x1, x5 => if x5 < (x0.length : Int) then (if 0 ≤ x5 then (if x5 < (x1.length : Int) then (if (rd x0 x5) = (rd x1 x5) then (laws_eqIntS.l0 k x0 x1 (wrap64 (x5 + 1))) else (some false)) else (none)) else (none)) else (some true)
def laws_eqIntS.f (k : Nat) (l0 : List Int) (l1 : List Int) : Option (Bool) := if (l0.length : Int) = (l1.length : Int) then (laws_eqIntS.l0 k l0 l1 0) else (some false)
theorem laws_eqIntS.mono_l : ∀ k, (∀ y0 y1 y2, LeO (laws_eqIntS.l0 k y0 y1 y2) (laws_eqIntS.l0 (k + 1) y0 y1 y2))
 | 0 => fun _ _ _ r h => by simp [laws_eqIntS.l0] at h
 | k + 1 => by
  have ih0 := laws_eqIntS.mono_l k
  ·intro y0 y1 y2
   unfold laws_eqIntS.l0
   repeat' first
   | (with_reducible exact ih0 _ _ _)
   | (with_reducible exact LeO.refl _)
   | (with_reducible exact LeO.none _)
   | (with_reducible refine LeO.ite ?_ ?_)
   | (with_reducible refine LeO.bind ?_ (fun _ => ?_))
   | exact ih0 _ _ _
   | exact LeO.none _
   | refine LeO.ite ?_ ?_
   | refine LeO.bind ?_ (fun _ => ?_)
theorem laws_eqIntS.mono : ∀ a0 a1 k, LeO (laws_eqIntS.f k a0 a1) (laws_eqIntS.f (k + 1) a0 a1) := by
 intro a0 a1 k
 have ih0 := laws_eqIntS.mono_l k
 unfold laws_eqIntS.f
 repeat' first
   | (with_reducible exact ih0 _ _ _)
   | (with_reducible exact LeO.refl _)
   | (with_reducible exact LeO.none _)
   | (with_reducible refine LeO.ite ?_ ?_)
   | (with_reducible refine LeO.bind ?_ (fun _ => ?_))
   | exact ih0 _ _ _
   | exact LeO.none _
   | refine LeO.ite ?_ ?_
   | refine LeO.bind ?_ (fun _ => ?_)
set_option maxHeartbeats 8000000 in
set_option maxRecDepth 100000 in
theorem laws_eqIntS.calls (k : Nat) (A0 : Option Addr) (c0 : Nat) (l0 : List Int) (A1 : Option Addr) (c1 : Nat) (l1 : List Int) (r : Bool) (w : World) (hr0 : Kd.C (Kd.int .i64) w A0 l0.length l0) (hc0 : l0.length ≤ c0) (hr1 : Kd.C (Kd.int .i64) w A1 l1.length l1) (hc1 : l1.length ≤ c1) (h : laws_eqIntS.f k l0 l1 = some r) :
  Calls Try.prog 18 #[.slice A0 l0.length c0, .slice A1 l1.length c1] w fun e w' => e = .returned (.bool r) ∧ Drawn0 w w' := by
 have HR0 := Aside0.mk hr0
 have HC0 := Aside0.mk hc0
 clear hr0 hc0
 have HR1 := Aside0.mk hr1
 have HC1 := Aside0.mk hc1
 clear hr1 hc1
 have H : (if (l0.length : Int) = (l1.length : Int) then (laws_eqIntS.l0 k l0 l1 0) else (some false)) = some r := h
 clear h
 by_cases c3 : (l0.length : Int) = (l1.length : Int)
 ·rw [if_pos c3] at H
  have c3b0 : ((l0.length : Int) == (l1.length : Int)) = true := beq_iff_eq.mpr c3
  have c3b1 : ((l0.length : Int) != (l1.length : Int)) = false := bne_eq_false_iff_eq.mpr c3
  have c3b2 : (l0.length == l1.length) = true := by first | simpa using c3 | (simp at c3 ⊢; omega)
  clear c3
  have H' := Aside0.mk H
  clear H
  go_enter Try.func18, Try.ntmps18
  go_wp2
  repeat (go_quiet (fail); try go_wp2)
  go_loopg [5] k (fun kq v5 w' => ∃ (x5_1 : Int), v5 = .int .i64 x5_1 ∧ Aside0 (laws_eqIntS.l0 kq l0 l1 x5_1 = some r) ∧ Aside0 (kq ≤ k) ∧ Drawn0 w w')
  case atStart => exact ⟨(0), qZ, H', ⟨Nat.le_refl _⟩, by repeat (first | exact Drawn0.refl _ | apply Drawn0.step)⟩
  case round =>
   clear H'
   try clear c1; try clear p2; try clear c3; try clear c3b0; try clear c3b1; try clear c3b2
   obtain ⟨x5_1, rfl, HA, HK1, ⟨m1, rfl⟩⟩ := hrel
   cases gk with
   | zero => exact absurd HA.out (by simp [laws_eqIntS.l0])
   | succ k1 =>
    have H := HA.out
    clear HA
    simp only [laws_eqIntS.l0] at H
    by_cases c4 : x5_1 < (l0.length : Int)
    ·rw [if_pos c4] at H
     have c4b0 := decide_eq_true c4
     clear c4
     by_cases c5 : 0 ≤ x5_1
     ·rw [if_pos c5] at H
      have c5b0 := decide_eq_true c5
      clear c5
      by_cases c6 : x5_1 < (l1.length : Int)
      ·rw [if_pos c6] at H
       have c6b0 := decide_eq_true c6
       clear c6
       by_cases c7 : (rd l0 x5_1) = (rd l1 x5_1)
       ·rw [if_pos c7] at H
        have c7b0 : ((rd l0 x5_1) == (rd l1 x5_1)) = true := beq_iff_eq.mpr c7
        have c7b1 : ((rd l0 x5_1) != (rd l1 x5_1)) = false := bne_eq_false_iff_eq.mpr c7
        clear c7
        have H' := Aside0.mk H
        clear H
        have p391 : 0 ≤ (x5_1 : Int) := qD
        have q391 : x5_1 < (l0.length : Int) := qD
        obtain ⟨ad391, e391, hx391_0⟩ := Kd.at_int HR0.out x5_1 p391 q391
        cases e391
        replace p391 := eq_true p391
        replace q391 := eq_true q391
        have p392 : 0 ≤ (x5_1 : Int) := qD
        have q392 : x5_1 < (l1.length : Int) := qD
        obtain ⟨ad392, e392, hx392_0⟩ := Kd.at_int HR1.out x5_1 p392 q392
        cases e392
        replace p392 := eq_true p392
        replace q392 := eq_true q392
        go_wp2
        repeat (go_quiet (fail); try go_wp2)
        go_roundg k1
        case measure => have := HK1.out; omega
        case rel => exact ⟨(wrap64 (x5_1 + 1)), qZ, H', ⟨by have := HK1.out; omega⟩, by repeat (first | exact Drawn0.refl _ | apply Drawn0.step)⟩
       ·rw [if_neg c7] at H
        have c7b0 : ((rd l0 x5_1) == (rd l1 x5_1)) = false := beq_eq_false_iff_ne.mpr c7
        have c7b1 : ((rd l0 x5_1) != (rd l1 x5_1)) = true := bne_iff_ne.mpr c7
        obtain rfl := Option.some.inj H
        have p391 : 0 ≤ (x5_1 : Int) := qD
        have q391 : x5_1 < (l0.length : Int) := qD
        obtain ⟨ad391, e391, hx391_0⟩ := Kd.at_int HR0.out x5_1 p391 q391
        cases e391
        replace p391 := eq_true p391
        replace q391 := eq_true q391
        have p392 : 0 ≤ (x5_1 : Int) := qD
        have q392 : x5_1 < (l1.length : Int) := qD
        obtain ⟨ad392, e392, hx392_0⟩ := Kd.at_int HR1.out x5_1 p392 q392
        cases e392
        replace p392 := eq_true p392
        replace q392 := eq_true q392
        go_wp2
        repeat (go_quiet (fail); try go_wp2)
        go_ret
        exact ⟨by first | rfl | (simp; done) | (simp [*]; done), by repeat (first | exact Drawn0.refl _ | apply Drawn0.step)⟩
      ·rw [if_neg c6] at H
       exact absurd H (by simp)
     ·rw [if_neg c5] at H
      exact absurd H (by simp)
    ·rw [if_neg c4] at H
     have c4b0 := decide_eq_false c4
     clear c4
     obtain rfl := Option.some.inj H
     go_wp2
     repeat (go_quiet (fail); try go_wp2)
     go_ret
     exact ⟨by first | rfl | (simp; done) | (simp [*]; done), by repeat (first | exact Drawn0.refl _ | apply Drawn0.step)⟩
 ·rw [if_neg c3] at H
  have c3b0 : ((l0.length : Int) == (l1.length : Int)) = false := beq_eq_false_iff_ne.mpr c3
  have c3b1 : ((l0.length : Int) != (l1.length : Int)) = true := bne_iff_ne.mpr c3
  have c3b2 : (l0.length == l1.length) = false := by first | simpa using c3 | (simp at c3 ⊢; omega)
  obtain rfl := Option.some.inj H
  go_enter Try.func18, Try.ntmps18
  go_wp2
  repeat (go_quiet (fail); try go_wp2)
  go_ret
  exact ⟨by first | rfl | (simp; done) | (simp [*]; done), by repeat (first | exact Drawn0.refl _ | apply Drawn0.step)⟩
def laws_markQuadS.l0 : Nat → List (S46) → Int → Int → Option (Int × (List (S46)))
 | 0, _, _, _ => none
 | k + 1, x0, x1, x5 => if x5 < (x0.length : Int) then (if 0 ≤ x5 then ((some (x0.set (x5 : Int).toNat (⟨x1, (rd_T46 x0 x5).f1, (rd_T46 x0 x5).f2, (rd_T46 x0 x5).f3, (rd_T46 x0 x5).f4⟩ : S46) : List (S46))).bind fun y393 => ((some (y393.set (x5 : Int).toNat (⟨(rd_T46 y393 x5).f0, wrap64 (x1 + 1), (rd_T46 y393 x5).f2, (rd_T46 y393 x5).f3, (rd_T46 y393 x5).f4⟩ : S46) : List (S46))).bind fun y394 => ((some (y394.set (x5 : Int).toNat (⟨(rd_T46 y394 x5).f0, (rd_T46 y394 x5).f1, wrap64 ((wrap64 (x1 + 1)) + 1), (rd_T46 y394 x5).f3, (rd_T46 y394 x5).f4⟩ : S46) : List (S46))).bind fun y395 => ((some (y395.set (x5 : Int).toNat (⟨(rd_T46 y395 x5).f0, (rd_T46 y395 x5).f1, (rd_T46 y395 x5).f2, wrap64 ((wrap64 ((wrap64 (x1 + 1)) + 1)) + 1), (rd_T46 y395 x5).f4⟩ : S46) : List (S46))).bind fun y396 => (laws_markQuadS.l0 k (y396.set (x5 : Int).toNat (⟨(rd_T46 y396 x5).f0, (rd_T46 y396 x5).f1, (rd_T46 y396 x5).f2, (rd_T46 y396 x5).f3, wrap64 ((wrap64 ((wrap64 ((wrap64 (x1 + 1)) + 1)) + 1)) + 1)⟩ : S46)) (wrap64 ((wrap64 ((wrap64 ((wrap64 ((wrap64 (x1 + 1)) + 1)) + 1)) + 1)) + 1)) (wrap64 (x5 + 1))))))) else (none)) else (some (x1, x0))
def laws_markQuadS.f (k : Nat) (l0 : List (S46)) (a1 : Int) : Option (Int × (List (S46))) := laws_markQuadS.l0 k l0 a1 0
theorem laws_markQuadS.mono_l : ∀ k, (∀ y0 y1 y2, LeO (laws_markQuadS.l0 k y0 y1 y2) (laws_markQuadS.l0 (k + 1) y0 y1 y2))
 | 0 => fun _ _ _ r h => by simp [laws_markQuadS.l0] at h
 | k + 1 => by
  have ih0 := laws_markQuadS.mono_l k
  ·intro y0 y1 y2
   unfold laws_markQuadS.l0
   repeat' first
   | (with_reducible exact ih0 _ _ _)
   | (with_reducible exact LeO.refl _)
   | (with_reducible exact LeO.none _)
   | (with_reducible refine LeO.ite ?_ ?_)
   | (with_reducible refine LeO.bind ?_ (fun _ => ?_))
   | exact ih0 _ _ _
   | exact LeO.none _
   | refine LeO.ite ?_ ?_
   | refine LeO.bind ?_ (fun _ => ?_)
theorem laws_markQuadS.mono : ∀ a0 a1 k, LeO (laws_markQuadS.f k a0 a1) (laws_markQuadS.f (k + 1) a0 a1) := by
 intro a0 a1 k
 have ih0 := laws_markQuadS.mono_l k
 unfold laws_markQuadS.f
 repeat' first
   | (with_reducible exact ih0 _ _ _)
   | (with_reducible exact LeO.refl _)
   | (with_reducible exact LeO.none _)
   | (with_reducible refine LeO.ite ?_ ?_)
   | (with_reducible refine LeO.bind ?_ (fun _ => ?_))
   | exact ih0 _ _ _
   | exact LeO.none _
   | refine LeO.ite ?_ ?_
   | refine LeO.bind ?_ (fun _ => ?_)
set_option maxHeartbeats 8000000 in
set_option maxRecDepth 100000 in
theorem laws_markQuadS.calls (k : Nat) (P0_ : Nat → Prop) (u9000_ : Value) (l0 : List (S46)) (a1 : Int) (r1 : Int) (r2 : List (S46)) (w0 w : World) (hB : Below w0.heap.size w0 w) (ho0 : Kd.R k46 46 w w0.heap.size P0_ u9000_ l0) (h : laws_markQuadS.f k l0 a1 = some (r1, r2)) :
  Calls Try.prog 19 #[u9000_, .int .i64 a1] w fun e w' => e = .returned (.int .i64 r1) ∧ Kd.R k46 46 w' w0.heap.size (fun k_ => (P0_ k_ ∨ w.heap.size ≤ k_)) u9000_ r2 ∧ Below w0.heap.size w0 w' ∧ Kept w w' (fun k_ => P0_ k_) := by
 have HO0 := Aside0.mk (show Kd.R k46 46 w w0.heap.size (fun k_ => (P0_ k_ ∨ w.heap.size ≤ k_)) u9000_ l0 from Kd.R_mono ho0 (fun k_ hk => (.inl hk)))
 have HK := Aside0.mk (Kept.refl w (fun k_ => P0_ k_))
 have HW0 := Aside0.mk hB.size
 have HB := Aside0.mk hB
 clear hB
 have H : (laws_markQuadS.l0 k l0 a1 0) = some (r1, r2) := h
 clear h
 have H' := Aside0.mk H
 clear H
 go_enter Try.func19, Try.ntmps19
 go_wp2
 go_loopg [1, 5] k (fun kq v1 v5 w' => ∃ (x0_1 : List (S46)) (x1_1 : Int) (x5_1 : Int), v1 = .int .i64 x1_1 ∧ v5 = .int .i64 x5_1 ∧ Aside0 (laws_markQuadS.l0 kq x0_1 x1_1 x5_1 = some (r1, r2)) ∧ Aside0 (kq ≤ k) ∧ Aside0 (Kd.R k46 46 w' w0.heap.size (fun k_ => (P0_ k_ ∨ w.heap.size ≤ k_)) u9000_ x0_1) ∧ Aside0 (Kept w w' (fun k_ => P0_ k_)) ∧ Aside0 (Below w0.heap.size w0 w'))
 case atStart => exact ⟨(l0), (a1), (0), qZ, qZ, H', ⟨Nat.le_refl _⟩, ⟨qR HO0⟩, ⟨qT⟩, ⟨qB⟩⟩
 case round =>
  clear H'
  try clear c1; try clear p2
  obtain ⟨x0_1, x1_1, x5_1, rfl, rfl, HA, HK1, HO_0, HK, HB⟩ := hrel
  cases gk with
  | zero => exact absurd HA.out (by simp [laws_markQuadS.l0])
  | succ k1 =>
   have H := HA.out
   clear HA
   simp only [laws_markQuadS.l0] at H
   by_cases c3 : x5_1 < (x0_1.length : Int)
   ·rw [if_pos c3] at H
    have c3b0 := decide_eq_true c3
    clear c3
    by_cases c4 : 0 ≤ x5_1
    ·rw [if_pos c4] at H
     have c4b0 := decide_eq_true c4
     clear c4
     obtain ⟨y393, hy393⟩ : ∃ y_ : List (S46), y_ = (x0_1.set (x5_1 : Int).toNat (⟨x1_1, (rd_T46 x0_1 x5_1).f1, (rd_T46 x0_1 x5_1).f2, (rd_T46 x0_1 x5_1).f3, (rd_T46 x0_1 x5_1).f4⟩ : S46)) := ⟨_, rfl⟩
     replace H : ((some (y393.set (x5_1 : Int).toNat (⟨(rd_T46 y393 x5_1).f0, wrap64 (x1_1 + 1), (rd_T46 y393 x5_1).f2, (rd_T46 y393 x5_1).f3, (rd_T46 y393 x5_1).f4⟩ : S46) : List (S46))).bind fun y394 => ((some (y394.set (x5_1 : Int).toNat (⟨(rd_T46 y394 x5_1).f0, (rd_T46 y394 x5_1).f1, wrap64 ((wrap64 (x1_1 + 1)) + 1), (rd_T46 y394 x5_1).f3, (rd_T46 y394 x5_1).f4⟩ : S46) : List (S46))).bind fun y395 => ((some (y395.set (x5_1 : Int).toNat (⟨(rd_T46 y395 x5_1).f0, (rd_T46 y395 x5_1).f1, (rd_T46 y395 x5_1).f2, wrap64 ((wrap64 ((wrap64 (x1_1 + 1)) + 1)) + 1), (rd_T46 y395 x5_1).f4⟩ : S46) : List (S46))).bind fun y396 => (laws_markQuadS.l0 k1 (y396.set (x5_1 : Int).toNat (⟨(rd_T46 y396 x5_1).f0, (rd_T46 y396 x5_1).f1, (rd_T46 y396 x5_1).f2, (rd_T46 y396 x5_1).f3, wrap64 ((wrap64 ((wrap64 ((wrap64 (x1_1 + 1)) + 1)) + 1)) + 1)⟩ : S46)) (wrap64 ((wrap64 ((wrap64 ((wrap64 ((wrap64 (x1_1 + 1)) + 1)) + 1)) + 1)) + 1)) (wrap64 (x5_1 + 1)))))) = some (r1, r2) := by first | (rw [hy393]; with_reducible exact H) | (have H2_ := (Option.bind_some _ _).symm.trans H; rw [hy393]; with_reducible exact H2_) | (have H2_ := (Option.bind_some _ _).symm.trans H; with_reducible exact H2_) | with_reducible exact H | (rw [hy393]; exact H) | exact H
     have Ny393 := Aside0.mk hy393
     clear hy393
     obtain ⟨y394, hy394⟩ : ∃ y_ : List (S46), y_ = (y393.set (x5_1 : Int).toNat (⟨(rd_T46 y393 x5_1).f0, wrap64 (x1_1 + 1), (rd_T46 y393 x5_1).f2, (rd_T46 y393 x5_1).f3, (rd_T46 y393 x5_1).f4⟩ : S46)) := ⟨_, rfl⟩
     replace H : ((some (y394.set (x5_1 : Int).toNat (⟨(rd_T46 y394 x5_1).f0, (rd_T46 y394 x5_1).f1, wrap64 ((wrap64 (x1_1 + 1)) + 1), (rd_T46 y394 x5_1).f3, (rd_T46 y394 x5_1).f4⟩ : S46) : List (S46))).bind fun y395 => ((some (y395.set (x5_1 : Int).toNat (⟨(rd_T46 y395 x5_1).f0, (rd_T46 y395 x5_1).f1, (rd_T46 y395 x5_1).f2, wrap64 ((wrap64 ((wrap64 (x1_1 + 1)) + 1)) + 1), (rd_T46 y395 x5_1).f4⟩ : S46) : List (S46))).bind fun y396 => (laws_markQuadS.l0 k1 (y396.set (x5_1 : Int).toNat (⟨(rd_T46 y396 x5_1).f0, (rd_T46 y396 x5_1).f1, (rd_T46 y396 x5_1).f2, (rd_T46 y396 x5_1).f3, wrap64 ((wrap64 ((wrap64 ((wrap64 (x1_1 + 1)) + 1)) + 1)) + 1)⟩ : S46)) (wrap64 ((wrap64 ((wrap64 ((wrap64 ((wrap64 (x1_1 + 1)) + 1)) + 1)) + 1)) + 1)) (wrap64 (x5_1 + 1))))) = some (r1, r2) := by first | (rw [hy394]; with_reducible exact H) | (have H2_ := (Option.bind_some _ _).symm.trans H; rw [hy394]; with_reducible exact H2_) | (have H2_ := (Option.bind_some _ _).symm.trans H; with_reducible exact H2_) | with_reducible exact H | (rw [hy394]; exact H) | exact H
     have Ny394 := Aside0.mk hy394
     clear hy394
     obtain ⟨y395, hy395⟩ : ∃ y_ : List (S46), y_ = (y394.set (x5_1 : Int).toNat (⟨(rd_T46 y394 x5_1).f0, (rd_T46 y394 x5_1).f1, wrap64 ((wrap64 (x1_1 + 1)) + 1), (rd_T46 y394 x5_1).f3, (rd_T46 y394 x5_1).f4⟩ : S46)) := ⟨_, rfl⟩
     replace H : ((some (y395.set (x5_1 : Int).toNat (⟨(rd_T46 y395 x5_1).f0, (rd_T46 y395 x5_1).f1, (rd_T46 y395 x5_1).f2, wrap64 ((wrap64 ((wrap64 (x1_1 + 1)) + 1)) + 1), (rd_T46 y395 x5_1).f4⟩ : S46) : List (S46))).bind fun y396 => (laws_markQuadS.l0 k1 (y396.set (x5_1 : Int).toNat (⟨(rd_T46 y396 x5_1).f0, (rd_T46 y396 x5_1).f1, (rd_T46 y396 x5_1).f2, (rd_T46 y396 x5_1).f3, wrap64 ((wrap64 ((wrap64 ((wrap64 (x1_1 + 1)) + 1)) + 1)) + 1)⟩ : S46)) (wrap64 ((wrap64 ((wrap64 ((wrap64 ((wrap64 (x1_1 + 1)) + 1)) + 1)) + 1)) + 1)) (wrap64 (x5_1 + 1)))) = some (r1, r2) := by first | (rw [hy395]; with_reducible exact H) | (have H2_ := (Option.bind_some _ _).symm.trans H; rw [hy395]; with_reducible exact H2_) | (have H2_ := (Option.bind_some _ _).symm.trans H; with_reducible exact H2_) | with_reducible exact H | (rw [hy395]; exact H) | exact H
     have Ny395 := Aside0.mk hy395
     clear hy395
     obtain ⟨y396, hy396⟩ : ∃ y_ : List (S46), y_ = (y395.set (x5_1 : Int).toNat (⟨(rd_T46 y395 x5_1).f0, (rd_T46 y395 x5_1).f1, (rd_T46 y395 x5_1).f2, wrap64 ((wrap64 ((wrap64 (x1_1 + 1)) + 1)) + 1), (rd_T46 y395 x5_1).f4⟩ : S46)) := ⟨_, rfl⟩
     replace H : (laws_markQuadS.l0 k1 (y396.set (x5_1 : Int).toNat (⟨(rd_T46 y396 x5_1).f0, (rd_T46 y396 x5_1).f1, (rd_T46 y396 x5_1).f2, (rd_T46 y396 x5_1).f3, wrap64 ((wrap64 ((wrap64 ((wrap64 (x1_1 + 1)) + 1)) + 1)) + 1)⟩ : S46)) (wrap64 ((wrap64 ((wrap64 ((wrap64 ((wrap64 (x1_1 + 1)) + 1)) + 1)) + 1)) + 1)) (wrap64 (x5_1 + 1))) = some (r1, r2) := by first | (rw [hy396]; with_reducible exact H) | (have H2_ := (Option.bind_some _ _).symm.trans H; rw [hy396]; with_reducible exact H2_) | (have H2_ := (Option.bind_some _ _).symm.trans H; with_reducible exact H2_) | with_reducible exact H | (rw [hy396]; exact H) | exact H
     have Ny396 := Aside0.mk hy396
     clear hy396
     obtain ⟨y397, hy397⟩ : ∃ y_ : List (S46), y_ = (y396.set (x5_1 : Int).toNat (⟨(rd_T46 y396 x5_1).f0, (rd_T46 y396 x5_1).f1, (rd_T46 y396 x5_1).f2, (rd_T46 y396 x5_1).f3, wrap64 ((wrap64 ((wrap64 ((wrap64 (x1_1 + 1)) + 1)) + 1)) + 1)⟩ : S46)) := ⟨_, rfl⟩
     replace H : (laws_markQuadS.l0 k1 y397 (wrap64 ((wrap64 ((wrap64 ((wrap64 ((wrap64 (x1_1 + 1)) + 1)) + 1)) + 1)) + 1)) (wrap64 (x5_1 + 1))) = some (r1, r2) := by first | (rw [hy397]; with_reducible exact H) | (have H2_ := (Option.bind_some _ _).symm.trans H; rw [hy397]; with_reducible exact H2_) | (have H2_ := (Option.bind_some _ _).symm.trans H; with_reducible exact H2_) | with_reducible exact H | (rw [hy397]; exact H) | exact H
     have Ny397 := Aside0.mk hy397
     clear hy397
     have H' := Aside0.mk H
     clear H
     obtain ⟨Ao10, co10, eo10⟩ := Kd.R_slice HO_0.out
     subst eo10
     have p5 : 0 ≤ (x5_1 : Int) := qD
     have q5 : (x5_1 : Int) < ((x0_1.length : Int) : Int) := qD
     obtain ⟨go5, co5, eo5, gb5, gl5, cl5, HG5⟩ := Kd.R_form HO_0.out (by omega)
     (first | cases eo5 | (injection eo5 with ea_ en_ ec_; (first | subst ea_ | (injection ea_ with ea_; subst ea_)); subst ec_; clear en_))
     have GB5 := Aside0.mk gb5
     have GG5 := Aside0.mk HG5
     clear gb5 gl5 HG5
     have HMgo5 := Aside0.mk (show (P0_ go5 ∨ w.heap.size ≤ go5) from (HO_0.out.1 _ rfl))
     obtain ⟨ce5, hcl5, hM5, hcc5, hfr5⟩ := Kd.R_elem HO_0.out z46 (x5_1 : Int) p5 q5
     obtain rfl := k46_openM hM5
     have hx5_0 : wr.cell? ⟨go5, (x5_1 : Int).toNat * 5, none⟩ = some (.int .i64 ((rd_T46 x0_1 x5_1).f0)) := hcc5 0 _ rfl
     have hx5_1 : wr.cell? ⟨go5, (x5_1 : Int).toNat * 5 + 1, none⟩ = some (.int .i64 ((rd_T46 x0_1 x5_1).f1)) := hcc5 1 _ rfl
     have hx5_2 : wr.cell? ⟨go5, (x5_1 : Int).toNat * 5 + 2, none⟩ = some (.int .i64 ((rd_T46 x0_1 x5_1).f2)) := hcc5 2 _ rfl
     have hx5_3 : wr.cell? ⟨go5, (x5_1 : Int).toNat * 5 + 3, none⟩ = some (.int .i64 ((rd_T46 x0_1 x5_1).f3)) := hcc5 3 _ rfl
     have hx5_4 : wr.cell? ⟨go5, (x5_1 : Int).toNat * 5 + 4, none⟩ = some (.int .i64 ((rd_T46 x0_1 x5_1).f4)) := hcc5 4 _ rfl
     have hf5_0 : wr.frozen? ⟨go5, (x5_1 : Int).toNat * 5, none⟩ = false := hfr5 0
     have hf5_1 : wr.frozen? ⟨go5, (x5_1 : Int).toNat * 5 + 1, none⟩ = false := hfr5 1
     have hf5_2 : wr.frozen? ⟨go5, (x5_1 : Int).toNat * 5 + 2, none⟩ = false := hfr5 2
     have hf5_3 : wr.frozen? ⟨go5, (x5_1 : Int).toNat * 5 + 3, none⟩ = false := hfr5 3
     have hf5_4 : wr.frozen? ⟨go5, (x5_1 : Int).toNat * 5 + 4, none⟩ = false := hfr5 4
     clear hcl5 hcc5 hfr5 hM5
     replace p5 := eq_true p5
     replace q5 := eq_true q5
     have HX11 := Aside0.mk (show Kd.R k46 46 wr w0.heap.size (fun k_ => (P0_ k_ ∨ w.heap.size ≤ k_)) (.slice (some ⟨go5, 0, none⟩) x0_1.length co10) x0_1 from (qR HO_0))
     obtain ⟨ce11, hcl11, hM11, hcc11, hfr11⟩ := Kd.R_elem HX11.out z46 (x5_1 : Int) (qD) (by have h_ : (x5_1 : Int) < ((x0_1.length : Int) : Int) := qD; first | exact h_ | (have e_ := (Kd.R_reads' HO_0.out).1; omega) | simpa using h_)
     obtain rfl := k46_openM hM11
     have HP11 := Kd.R_seg HX11.out (x5_1 : Int) (qD) (by have h_ : (x5_1 : Int) < ((x0_1.length : Int) : Int) := qD; first | exact h_ | (have e_ := (Kd.R_reads' HO_0.out).1; omega) | simpa using h_) (seg := [.int .i64 x1_1]) (j := 0) hcl11 hcc11 (show 1 ≤ 5 from by decide) (x' := (⟨x1_1, (rd_T46 x0_1 x5_1).f1, (rd_T46 x0_1 x5_1).f2, (rd_T46 x0_1 x5_1).f3, (rd_T46 x0_1 x5_1).f4⟩ : S46)) (k46_mkM _ _ _ (⟨x1_1, (rd_T46 x0_1 x5_1).f1, (rd_T46 x0_1 x5_1).f2, (rd_T46 x0_1 x5_1).f3, (rd_T46 x0_1 x5_1).f4⟩ : S46) ) (fun _ hk => hk)
     have hx11_0 := hcc11 0 _ rfl
     (try simp only [show (k46).sz = 5 from rfl, Nat.mul_one, Nat.add_zero] at hx11_0)
     have hf11_0 := hfr11 0
     (try simp only [show (k46).sz = 5 from rfl, Nat.mul_one, Nat.add_zero] at hf11_0)
     clear hcl11 hcc11 hfr11 hM11
     go_wp2_with (first | ((with_reducible refine gate_store (t := 3) (p := 16) rfl ?_); refine store_event (t := 3) (p := 16) (v := ?vo_w12) (w1 := (wr.setCell ⟨go5, (x5_1 : Int).toNat * 5, none⟩ (.int .i64 x1_1))) ?hg ?ho ?hn ?hr ?_; (case ho => rfl); (case hg => rfl); (case hn => rfl); (case hr => first | (go_simp; done) | (go_simp; rfl)); intro w12 hw; have hg : wr.grownBy w12 (some go5) := (by rw [hw]; exact HP11.2); have hp_ : Kd.R k46 46 w12 w0.heap.size (fun k_ => (P0_ k_ ∨ w.heap.size ≤ k_)) (.slice (some ⟨go5, 0, none⟩) x0_1.length co10) y393 := (by rw [hw, Ny393.out]; exact HP11.1); clear HP11; have n0_ := Aside0.mk (hp_); have n1_ := Aside0.mk ((by rw [hw]; exact below_set (HB.out) GB5.out : Below w0.heap.size w0 w12)); have n2_ := Aside0.mk (Kept.of_grown (S := (fun k_ => P0_ k_)) hg qT (fun k_ e_ => (HO_0.out.1 k_ e_))); clear HO_0; clear HB; clear HK; have HO_0 := n0_; have HB := n1_; have HK := n2_; clear n0_ n1_ n2_; clear hg hw hp_; have p6 : 0 ≤ (x5_1 : Int) := qD; have q6 : (x5_1 : Int) < ((x0_1.length : Int) : Int) := qD; obtain ⟨ce6, hcl6, hM6, hcc6, hfr6⟩ := Kd.R_elem HO_0.out z46 (x5_1 : Int) p6 q6; obtain rfl := k46_openM hM6; have hx6_0 : w12.cell? ⟨go5, (x5_1 : Int).toNat * 5, none⟩ = some (.int .i64 ((rd_T46 y393 x5_1).f0)) := hcc6 0 _ rfl; have hx6_1 : w12.cell? ⟨go5, (x5_1 : Int).toNat * 5 + 1, none⟩ = some (.int .i64 ((rd_T46 y393 x5_1).f1)) := hcc6 1 _ rfl; have hx6_2 : w12.cell? ⟨go5, (x5_1 : Int).toNat * 5 + 2, none⟩ = some (.int .i64 ((rd_T46 y393 x5_1).f2)) := hcc6 2 _ rfl; have hx6_3 : w12.cell? ⟨go5, (x5_1 : Int).toNat * 5 + 3, none⟩ = some (.int .i64 ((rd_T46 y393 x5_1).f3)) := hcc6 3 _ rfl; have hx6_4 : w12.cell? ⟨go5, (x5_1 : Int).toNat * 5 + 4, none⟩ = some (.int .i64 ((rd_T46 y393 x5_1).f4)) := hcc6 4 _ rfl; have hf6_0 : w12.frozen? ⟨go5, (x5_1 : Int).toNat * 5, none⟩ = false := hfr6 0; have hf6_1 : w12.frozen? ⟨go5, (x5_1 : Int).toNat * 5 + 1, none⟩ = false := hfr6 1; have hf6_2 : w12.frozen? ⟨go5, (x5_1 : Int).toNat * 5 + 2, none⟩ = false := hfr6 2; have hf6_3 : w12.frozen? ⟨go5, (x5_1 : Int).toNat * 5 + 3, none⟩ = false := hfr6 3; have hf6_4 : w12.frozen? ⟨go5, (x5_1 : Int).toNat * 5 + 4, none⟩ = false := hfr6 4; clear hcl6 hcc6 hfr6 hM6; replace p6 := eq_true p6; replace q6 := eq_true q6; have HX13 := Aside0.mk (show Kd.R k46 46 w12 w0.heap.size (fun k_ => (P0_ k_ ∨ w.heap.size ≤ k_)) (.slice (some ⟨go5, 0, none⟩) x0_1.length co10) y393 from (qR HO_0)); obtain ⟨ce13, hcl13, hM13, hcc13, hfr13⟩ := Kd.R_elem HX13.out z46 (x5_1 : Int) (qD) (by have h_ : (x5_1 : Int) < ((x0_1.length : Int) : Int) := qD; first | exact h_ | (have e_ := (Kd.R_reads' HO_0.out).1; omega) | simpa using h_); obtain rfl := k46_openM hM13; have HP13 := Kd.R_seg HX13.out (x5_1 : Int) (qD) (by have h_ : (x5_1 : Int) < ((x0_1.length : Int) : Int) := qD; first | exact h_ | (have e_ := (Kd.R_reads' HO_0.out).1; omega) | simpa using h_) (seg := [.int .i64 (wrap64 (x1_1 + 1))]) (j := 1) hcl13 hcc13 (show 2 ≤ 5 from by decide) (x' := (⟨(rd_T46 y393 x5_1).f0, wrap64 (x1_1 + 1), (rd_T46 y393 x5_1).f2, (rd_T46 y393 x5_1).f3, (rd_T46 y393 x5_1).f4⟩ : S46)) (k46_mkM _ _ _ (⟨(rd_T46 y393 x5_1).f0, wrap64 (x1_1 + 1), (rd_T46 y393 x5_1).f2, (rd_T46 y393 x5_1).f3, (rd_T46 y393 x5_1).f4⟩ : S46) ) (fun _ hk => hk); have hx13_1 := hcc13 1 _ rfl; (try simp only [show (k46).sz = 5 from rfl, Nat.mul_one, Nat.add_zero] at hx13_1); have hf13_1 := hfr13 1; (try simp only [show (k46).sz = 5 from rfl, Nat.mul_one, Nat.add_zero] at hf13_1); clear hcl13 hcc13 hfr13 hM13) | ((with_reducible refine gate_store (t := 3) (p := 23) rfl ?_); refine store_event (t := 3) (p := 23) (v := ?vo_w14) (w1 := (w12.setCell ⟨go5, (x5_1 : Int).toNat * 5 + 1, none⟩ (.int .i64 (wrap64 (x1_1 + 1))))) ?hg ?ho ?hn ?hr ?_; (case ho => rfl); (case hg => rfl); (case hn => rfl); (case hr => first | (go_simp; done) | (go_simp; rfl)); intro w14 hw; have hg : w12.grownBy w14 (some go5) := (by rw [hw]; exact HP13.2); have hp_ : Kd.R k46 46 w14 w0.heap.size (fun k_ => (P0_ k_ ∨ w.heap.size ≤ k_)) (.slice (some ⟨go5, 0, none⟩) x0_1.length co10) y394 := (by rw [hw, Ny394.out]; exact HP13.1); clear HP13; have n0_ := Aside0.mk (hp_); have n1_ := Aside0.mk ((by rw [hw]; exact below_set (HB.out) GB5.out : Below w0.heap.size w0 w14)); have n2_ := Aside0.mk (Kept.of_grown (S := (fun k_ => P0_ k_)) hg qT (fun k_ e_ => (HO_0.out.1 k_ e_))); clear HO_0; clear HB; clear HK; have HO_0 := n0_; have HB := n1_; have HK := n2_; clear n0_ n1_ n2_; clear hg hw hp_; have p7 : 0 ≤ (x5_1 : Int) := qD; have q7 : (x5_1 : Int) < ((x0_1.length : Int) : Int) := qD; obtain ⟨ce7, hcl7, hM7, hcc7, hfr7⟩ := Kd.R_elem HO_0.out z46 (x5_1 : Int) p7 q7; obtain rfl := k46_openM hM7; have hx7_0 : w14.cell? ⟨go5, (x5_1 : Int).toNat * 5, none⟩ = some (.int .i64 ((rd_T46 y394 x5_1).f0)) := hcc7 0 _ rfl; have hx7_1 : w14.cell? ⟨go5, (x5_1 : Int).toNat * 5 + 1, none⟩ = some (.int .i64 ((rd_T46 y394 x5_1).f1)) := hcc7 1 _ rfl; have hx7_2 : w14.cell? ⟨go5, (x5_1 : Int).toNat * 5 + 2, none⟩ = some (.int .i64 ((rd_T46 y394 x5_1).f2)) := hcc7 2 _ rfl; have hx7_3 : w14.cell? ⟨go5, (x5_1 : Int).toNat * 5 + 3, none⟩ = some (.int .i64 ((rd_T46 y394 x5_1).f3)) := hcc7 3 _ rfl; have hx7_4 : w14.cell? ⟨go5, (x5_1 : Int).toNat * 5 + 4, none⟩ = some (.int .i64 ((rd_T46 y394 x5_1).f4)) := hcc7 4 _ rfl; have hf7_0 : w14.frozen? ⟨go5, (x5_1 : Int).toNat * 5, none⟩ = false := hfr7 0; have hf7_1 : w14.frozen? ⟨go5, (x5_1 : Int).toNat * 5 + 1, none⟩ = false := hfr7 1; have hf7_2 : w14.frozen? ⟨go5, (x5_1 : Int).toNat * 5 + 2, none⟩ = false := hfr7 2; have hf7_3 : w14.frozen? ⟨go5, (x5_1 : Int).toNat * 5 + 3, none⟩ = false := hfr7 3; have hf7_4 : w14.frozen? ⟨go5, (x5_1 : Int).toNat * 5 + 4, none⟩ = false := hfr7 4; clear hcl7 hcc7 hfr7 hM7; replace p7 := eq_true p7; replace q7 := eq_true q7; have HX15 := Aside0.mk (show Kd.R k46 46 w14 w0.heap.size (fun k_ => (P0_ k_ ∨ w.heap.size ≤ k_)) (.slice (some ⟨go5, 0, none⟩) x0_1.length co10) y394 from (qR HO_0)); obtain ⟨ce15, hcl15, hM15, hcc15, hfr15⟩ := Kd.R_elem HX15.out z46 (x5_1 : Int) (qD) (by have h_ : (x5_1 : Int) < ((x0_1.length : Int) : Int) := qD; first | exact h_ | (have e_ := (Kd.R_reads' HO_0.out).1; omega) | simpa using h_); obtain rfl := k46_openM hM15; have HP15 := Kd.R_seg HX15.out (x5_1 : Int) (qD) (by have h_ : (x5_1 : Int) < ((x0_1.length : Int) : Int) := qD; first | exact h_ | (have e_ := (Kd.R_reads' HO_0.out).1; omega) | simpa using h_) (seg := [.int .i64 (wrap64 ((wrap64 (x1_1 + 1)) + 1))]) (j := 2) hcl15 hcc15 (show 3 ≤ 5 from by decide) (x' := (⟨(rd_T46 y394 x5_1).f0, (rd_T46 y394 x5_1).f1, wrap64 ((wrap64 (x1_1 + 1)) + 1), (rd_T46 y394 x5_1).f3, (rd_T46 y394 x5_1).f4⟩ : S46)) (k46_mkM _ _ _ (⟨(rd_T46 y394 x5_1).f0, (rd_T46 y394 x5_1).f1, wrap64 ((wrap64 (x1_1 + 1)) + 1), (rd_T46 y394 x5_1).f3, (rd_T46 y394 x5_1).f4⟩ : S46) ) (fun _ hk => hk); have hx15_2 := hcc15 2 _ rfl; (try simp only [show (k46).sz = 5 from rfl, Nat.mul_one, Nat.add_zero] at hx15_2); have hf15_2 := hfr15 2; (try simp only [show (k46).sz = 5 from rfl, Nat.mul_one, Nat.add_zero] at hf15_2); clear hcl15 hcc15 hfr15 hM15) | ((with_reducible refine gate_store (t := 3) (p := 30) rfl ?_); refine store_event (t := 3) (p := 30) (v := ?vo_w16) (w1 := (w14.setCell ⟨go5, (x5_1 : Int).toNat * 5 + 2, none⟩ (.int .i64 (wrap64 ((wrap64 (x1_1 + 1)) + 1))))) ?hg ?ho ?hn ?hr ?_; (case ho => rfl); (case hg => rfl); (case hn => rfl); (case hr => first | (go_simp; done) | (go_simp; rfl)); intro w16 hw; have hg : w14.grownBy w16 (some go5) := (by rw [hw]; exact HP15.2); have hp_ : Kd.R k46 46 w16 w0.heap.size (fun k_ => (P0_ k_ ∨ w.heap.size ≤ k_)) (.slice (some ⟨go5, 0, none⟩) x0_1.length co10) y395 := (by rw [hw, Ny395.out]; exact HP15.1); clear HP15; have n0_ := Aside0.mk (hp_); have n1_ := Aside0.mk ((by rw [hw]; exact below_set (HB.out) GB5.out : Below w0.heap.size w0 w16)); have n2_ := Aside0.mk (Kept.of_grown (S := (fun k_ => P0_ k_)) hg qT (fun k_ e_ => (HO_0.out.1 k_ e_))); clear HO_0; clear HB; clear HK; have HO_0 := n0_; have HB := n1_; have HK := n2_; clear n0_ n1_ n2_; clear hg hw hp_; have p8 : 0 ≤ (x5_1 : Int) := qD; have q8 : (x5_1 : Int) < ((x0_1.length : Int) : Int) := qD; obtain ⟨ce8, hcl8, hM8, hcc8, hfr8⟩ := Kd.R_elem HO_0.out z46 (x5_1 : Int) p8 q8; obtain rfl := k46_openM hM8; have hx8_0 : w16.cell? ⟨go5, (x5_1 : Int).toNat * 5, none⟩ = some (.int .i64 ((rd_T46 y395 x5_1).f0)) := hcc8 0 _ rfl; have hx8_1 : w16.cell? ⟨go5, (x5_1 : Int).toNat * 5 + 1, none⟩ = some (.int .i64 ((rd_T46 y395 x5_1).f1)) := hcc8 1 _ rfl; have hx8_2 : w16.cell? ⟨go5, (x5_1 : Int).toNat * 5 + 2, none⟩ = some (.int .i64 ((rd_T46 y395 x5_1).f2)) := hcc8 2 _ rfl; have hx8_3 : w16.cell? ⟨go5, (x5_1 : Int).toNat * 5 + 3, none⟩ = some (.int .i64 ((rd_T46 y395 x5_1).f3)) := hcc8 3 _ rfl; have hx8_4 : w16.cell? ⟨go5, (x5_1 : Int).toNat * 5 + 4, none⟩ = some (.int .i64 ((rd_T46 y395 x5_1).f4)) := hcc8 4 _ rfl; have hf8_0 : w16.frozen? ⟨go5, (x5_1 : Int).toNat * 5, none⟩ = false := hfr8 0; have hf8_1 : w16.frozen? ⟨go5, (x5_1 : Int).toNat * 5 + 1, none⟩ = false := hfr8 1; have hf8_2 : w16.frozen? ⟨go5, (x5_1 : Int).toNat * 5 + 2, none⟩ = false := hfr8 2; have hf8_3 : w16.frozen? ⟨go5, (x5_1 : Int).toNat * 5 + 3, none⟩ = false := hfr8 3; have hf8_4 : w16.frozen? ⟨go5, (x5_1 : Int).toNat * 5 + 4, none⟩ = false := hfr8 4; clear hcl8 hcc8 hfr8 hM8; replace p8 := eq_true p8; replace q8 := eq_true q8; have HX17 := Aside0.mk (show Kd.R k46 46 w16 w0.heap.size (fun k_ => (P0_ k_ ∨ w.heap.size ≤ k_)) (.slice (some ⟨go5, 0, none⟩) x0_1.length co10) y395 from (qR HO_0)); obtain ⟨ce17, hcl17, hM17, hcc17, hfr17⟩ := Kd.R_elem HX17.out z46 (x5_1 : Int) (qD) (by have h_ : (x5_1 : Int) < ((x0_1.length : Int) : Int) := qD; first | exact h_ | (have e_ := (Kd.R_reads' HO_0.out).1; omega) | simpa using h_); obtain rfl := k46_openM hM17; have HP17 := Kd.R_seg HX17.out (x5_1 : Int) (qD) (by have h_ : (x5_1 : Int) < ((x0_1.length : Int) : Int) := qD; first | exact h_ | (have e_ := (Kd.R_reads' HO_0.out).1; omega) | simpa using h_) (seg := [.int .i64 (wrap64 ((wrap64 ((wrap64 (x1_1 + 1)) + 1)) + 1))]) (j := 3) hcl17 hcc17 (show 4 ≤ 5 from by decide) (x' := (⟨(rd_T46 y395 x5_1).f0, (rd_T46 y395 x5_1).f1, (rd_T46 y395 x5_1).f2, wrap64 ((wrap64 ((wrap64 (x1_1 + 1)) + 1)) + 1), (rd_T46 y395 x5_1).f4⟩ : S46)) (k46_mkM _ _ _ (⟨(rd_T46 y395 x5_1).f0, (rd_T46 y395 x5_1).f1, (rd_T46 y395 x5_1).f2, wrap64 ((wrap64 ((wrap64 (x1_1 + 1)) + 1)) + 1), (rd_T46 y395 x5_1).f4⟩ : S46) ) (fun _ hk => hk); have hx17_3 := hcc17 3 _ rfl; (try simp only [show (k46).sz = 5 from rfl, Nat.mul_one, Nat.add_zero] at hx17_3); have hf17_3 := hfr17 3; (try simp only [show (k46).sz = 5 from rfl, Nat.mul_one, Nat.add_zero] at hf17_3); clear hcl17 hcc17 hfr17 hM17) | ((with_reducible refine gate_store (t := 3) (p := 37) rfl ?_); refine store_event (t := 3) (p := 37) (v := ?vo_w18) (w1 := (w16.setCell ⟨go5, (x5_1 : Int).toNat * 5 + 3, none⟩ (.int .i64 (wrap64 ((wrap64 ((wrap64 (x1_1 + 1)) + 1)) + 1))))) ?hg ?ho ?hn ?hr ?_; (case ho => rfl); (case hg => rfl); (case hn => rfl); (case hr => first | (go_simp; done) | (go_simp; rfl)); intro w18 hw; have hg : w16.grownBy w18 (some go5) := (by rw [hw]; exact HP17.2); have hp_ : Kd.R k46 46 w18 w0.heap.size (fun k_ => (P0_ k_ ∨ w.heap.size ≤ k_)) (.slice (some ⟨go5, 0, none⟩) x0_1.length co10) y396 := (by rw [hw, Ny396.out]; exact HP17.1); clear HP17; have n0_ := Aside0.mk (hp_); have n1_ := Aside0.mk ((by rw [hw]; exact below_set (HB.out) GB5.out : Below w0.heap.size w0 w18)); have n2_ := Aside0.mk (Kept.of_grown (S := (fun k_ => P0_ k_)) hg qT (fun k_ e_ => (HO_0.out.1 k_ e_))); clear HO_0; clear HB; clear HK; have HO_0 := n0_; have HB := n1_; have HK := n2_; clear n0_ n1_ n2_; clear hg hw hp_; have p9 : 0 ≤ (x5_1 : Int) := qD; have q9 : (x5_1 : Int) < ((x0_1.length : Int) : Int) := qD; obtain ⟨ce9, hcl9, hM9, hcc9, hfr9⟩ := Kd.R_elem HO_0.out z46 (x5_1 : Int) p9 q9; obtain rfl := k46_openM hM9; have hx9_0 : w18.cell? ⟨go5, (x5_1 : Int).toNat * 5, none⟩ = some (.int .i64 ((rd_T46 y396 x5_1).f0)) := hcc9 0 _ rfl; have hx9_1 : w18.cell? ⟨go5, (x5_1 : Int).toNat * 5 + 1, none⟩ = some (.int .i64 ((rd_T46 y396 x5_1).f1)) := hcc9 1 _ rfl; have hx9_2 : w18.cell? ⟨go5, (x5_1 : Int).toNat * 5 + 2, none⟩ = some (.int .i64 ((rd_T46 y396 x5_1).f2)) := hcc9 2 _ rfl; have hx9_3 : w18.cell? ⟨go5, (x5_1 : Int).toNat * 5 + 3, none⟩ = some (.int .i64 ((rd_T46 y396 x5_1).f3)) := hcc9 3 _ rfl; have hx9_4 : w18.cell? ⟨go5, (x5_1 : Int).toNat * 5 + 4, none⟩ = some (.int .i64 ((rd_T46 y396 x5_1).f4)) := hcc9 4 _ rfl; have hf9_0 : w18.frozen? ⟨go5, (x5_1 : Int).toNat * 5, none⟩ = false := hfr9 0; have hf9_1 : w18.frozen? ⟨go5, (x5_1 : Int).toNat * 5 + 1, none⟩ = false := hfr9 1; have hf9_2 : w18.frozen? ⟨go5, (x5_1 : Int).toNat * 5 + 2, none⟩ = false := hfr9 2; have hf9_3 : w18.frozen? ⟨go5, (x5_1 : Int).toNat * 5 + 3, none⟩ = false := hfr9 3; have hf9_4 : w18.frozen? ⟨go5, (x5_1 : Int).toNat * 5 + 4, none⟩ = false := hfr9 4; clear hcl9 hcc9 hfr9 hM9; replace p9 := eq_true p9; replace q9 := eq_true q9; have HX19 := Aside0.mk (show Kd.R k46 46 w18 w0.heap.size (fun k_ => (P0_ k_ ∨ w.heap.size ≤ k_)) (.slice (some ⟨go5, 0, none⟩) x0_1.length co10) y396 from (qR HO_0)); obtain ⟨ce19, hcl19, hM19, hcc19, hfr19⟩ := Kd.R_elem HX19.out z46 (x5_1 : Int) (qD) (by have h_ : (x5_1 : Int) < ((x0_1.length : Int) : Int) := qD; first | exact h_ | (have e_ := (Kd.R_reads' HO_0.out).1; omega) | simpa using h_); obtain rfl := k46_openM hM19; have HP19 := Kd.R_seg HX19.out (x5_1 : Int) (qD) (by have h_ : (x5_1 : Int) < ((x0_1.length : Int) : Int) := qD; first | exact h_ | (have e_ := (Kd.R_reads' HO_0.out).1; omega) | simpa using h_) (seg := [.int .i64 (wrap64 ((wrap64 ((wrap64 ((wrap64 (x1_1 + 1)) + 1)) + 1)) + 1))]) (j := 4) hcl19 hcc19 (show 5 ≤ 5 from by decide) (x' := (⟨(rd_T46 y396 x5_1).f0, (rd_T46 y396 x5_1).f1, (rd_T46 y396 x5_1).f2, (rd_T46 y396 x5_1).f3, wrap64 ((wrap64 ((wrap64 ((wrap64 (x1_1 + 1)) + 1)) + 1)) + 1)⟩ : S46)) (k46_mkM _ _ _ (⟨(rd_T46 y396 x5_1).f0, (rd_T46 y396 x5_1).f1, (rd_T46 y396 x5_1).f2, (rd_T46 y396 x5_1).f3, wrap64 ((wrap64 ((wrap64 ((wrap64 (x1_1 + 1)) + 1)) + 1)) + 1)⟩ : S46) ) (fun _ hk => hk); have hx19_4 := hcc19 4 _ rfl; (try simp only [show (k46).sz = 5 from rfl, Nat.mul_one, Nat.add_zero] at hx19_4); have hf19_4 := hfr19 4; (try simp only [show (k46).sz = 5 from rfl, Nat.mul_one, Nat.add_zero] at hf19_4); clear hcl19 hcc19 hfr19 hM19) | ((with_reducible refine gate_store (t := 3) (p := 44) rfl ?_); refine store_event (t := 3) (p := 44) (v := ?vo_w20) (w1 := (w18.setCell ⟨go5, (x5_1 : Int).toNat * 5 + 4, none⟩ (.int .i64 (wrap64 ((wrap64 ((wrap64 ((wrap64 (x1_1 + 1)) + 1)) + 1)) + 1))))) ?hg ?ho ?hn ?hr ?_; (case ho => rfl); (case hg => rfl); (case hn => rfl); (case hr => first | (go_simp; done) | (go_simp; rfl)); intro w20 hw; have hg : w18.grownBy w20 (some go5) := (by rw [hw]; exact HP19.2); have hp_ : Kd.R k46 46 w20 w0.heap.size (fun k_ => (P0_ k_ ∨ w.heap.size ≤ k_)) (.slice (some ⟨go5, 0, none⟩) x0_1.length co10) y397 := (by rw [hw, Ny397.out]; exact HP19.1); clear HP19; have n0_ := Aside0.mk (hp_); have n1_ := Aside0.mk ((by rw [hw]; exact below_set (HB.out) GB5.out : Below w0.heap.size w0 w20)); have n2_ := Aside0.mk (Kept.of_grown (S := (fun k_ => P0_ k_)) hg qT (fun k_ e_ => (HO_0.out.1 k_ e_))); clear HO_0; clear HB; clear HK; have HO_0 := n0_; have HB := n1_; have HK := n2_; clear n0_ n1_ n2_; clear hg hw hp_))
     go_roundg k1
     case measure => have := HK1.out; omega
     case rel => exact ⟨(y397), (wrap64 ((wrap64 ((wrap64 ((wrap64 ((wrap64 (x1_1 + 1)) + 1)) + 1)) + 1)) + 1)), (wrap64 (x5_1 + 1)), qZ, qZ, H', ⟨by have := HK1.out; omega⟩, ⟨qR HO_0⟩, ⟨qT⟩, ⟨qB⟩⟩
    ·rw [if_neg c4] at H
     exact absurd H (by simp)
   ·rw [if_neg c3] at H
    have c3b0 := decide_eq_false c3
    clear c3
    simp only [Option.some.injEq, Prod.mk.injEq] at H
    obtain ⟨rfl, rfl⟩ := H
    obtain ⟨Ao21, co21, eo21⟩ := Kd.R_slice HO_0.out
    subst eo21
    go_wp2
    go_ret
    exact ⟨by first | rfl | (simp [errW_none, errW_some] <;> rfl) | (simp [*, errW_none, errW_some] <;> rfl), qR HO_0, qB, qT⟩
def laws_markIntS.l0 : Nat → List Int → Int → Int → Option (Int × List Int)
 | 0, _, _, _ => none
 | k + 1, x0, x1, x5 => if x5 < (x0.length : Int) then (if 0 ≤ x5 then (laws_markIntS.l0 k (x0.set (x5 : Int).toNat x1) (wrap64 (x1 + 1)) (wrap64 (x5 + 1))) else (none)) else (some (x1, x0))
def laws_markIntS.f (k : Nat) (l0 : List Int) (a1 : Int) : Option (Int × List Int) := laws_markIntS.l0 k l0 a1 0
theorem laws_markIntS.mono_l : ∀ k, (∀ y0 y1 y2, LeO (laws_markIntS.l0 k y0 y1 y2) (laws_markIntS.l0 (k + 1) y0 y1 y2))
 | 0 => fun _ _ _ r h => by simp [laws_markIntS.l0] at h
 | k + 1 => by
  have ih0 := laws_markIntS.mono_l k
  ·intro y0 y1 y2
   unfold laws_markIntS.l0
   repeat' first
   | (with_reducible exact ih0 _ _ _)
   | (with_reducible exact LeO.refl _)
   | (with_reducible exact LeO.none _)
   | (with_reducible refine LeO.ite ?_ ?_)
   | (with_reducible refine LeO.bind ?_ (fun _ => ?_))
   | exact ih0 _ _ _
   | exact LeO.none _
   | refine LeO.ite ?_ ?_
   | refine LeO.bind ?_ (fun _ => ?_)
theorem laws_markIntS.mono : ∀ a0 a1 k, LeO (laws_markIntS.f k a0 a1) (laws_markIntS.f (k + 1) a0 a1) := by
 intro a0 a1 k
 have ih0 := laws_markIntS.mono_l k
 unfold laws_markIntS.f
 repeat' first
   | (with_reducible exact ih0 _ _ _)
   | (with_reducible exact LeO.refl _)
   | (with_reducible exact LeO.none _)
   | (with_reducible refine LeO.ite ?_ ?_)
   | (with_reducible refine LeO.bind ?_ (fun _ => ?_))
   | exact ih0 _ _ _
   | exact LeO.none _
   | refine LeO.ite ?_ ?_
   | refine LeO.bind ?_ (fun _ => ?_)
set_option maxHeartbeats 8000000 in
set_option maxRecDepth 100000 in
theorem laws_markIntS.calls (k : Nat) (P0_ : Nat → Prop) (u9000_ : Value) (l0 : List Int) (a1 : Int) (r1 : Int) (r2 : List Int) (w0 w : World) (hB : Below w0.heap.size w0 w) (ho0 : Kd.R (Kd.int .i64) 3 w w0.heap.size P0_ u9000_ l0) (h : laws_markIntS.f k l0 a1 = some (r1, r2)) :
  Calls Try.prog 20 #[u9000_, .int .i64 a1] w fun e w' => e = .returned (.int .i64 r1) ∧ Kd.R (Kd.int .i64) 3 w' w0.heap.size (fun k_ => (P0_ k_ ∨ w.heap.size ≤ k_)) u9000_ r2 ∧ Below w0.heap.size w0 w' ∧ Kept w w' (fun k_ => P0_ k_) := by
 have HO0 := Aside0.mk (show Kd.R (Kd.int .i64) 3 w w0.heap.size (fun k_ => (P0_ k_ ∨ w.heap.size ≤ k_)) u9000_ l0 from Kd.R_mono ho0 (fun k_ hk => (.inl hk)))
 have HK := Aside0.mk (Kept.refl w (fun k_ => P0_ k_))
 have HW0 := Aside0.mk hB.size
 have HB := Aside0.mk hB
 clear hB
 have H : (laws_markIntS.l0 k l0 a1 0) = some (r1, r2) := h
 clear h
 have H' := Aside0.mk H
 clear H
 go_enter Try.func20, Try.ntmps20
 go_wp2
 go_loopg [1, 5] k (fun kq v1 v5 w' => ∃ (x0_1 : List Int) (x1_1 : Int) (x5_1 : Int), v1 = .int .i64 x1_1 ∧ v5 = .int .i64 x5_1 ∧ Aside0 (laws_markIntS.l0 kq x0_1 x1_1 x5_1 = some (r1, r2)) ∧ Aside0 (kq ≤ k) ∧ Aside0 (Kd.R (Kd.int .i64) 3 w' w0.heap.size (fun k_ => (P0_ k_ ∨ w.heap.size ≤ k_)) u9000_ x0_1) ∧ Aside0 (Kept w w' (fun k_ => P0_ k_)) ∧ Aside0 (Below w0.heap.size w0 w'))
 case atStart => exact ⟨(l0), (a1), (0), qZ, qZ, H', ⟨Nat.le_refl _⟩, ⟨qR HO0⟩, ⟨qT⟩, ⟨qB⟩⟩
 case round =>
  clear H'
  try clear c2; try clear p2
  obtain ⟨x0_1, x1_1, x5_1, rfl, rfl, HA, HK1, HO_0, HK, HB⟩ := hrel
  cases gk with
  | zero => exact absurd HA.out (by simp [laws_markIntS.l0])
  | succ k1 =>
   have H := HA.out
   clear HA
   simp only [laws_markIntS.l0] at H
   by_cases c3 : x5_1 < (x0_1.length : Int)
   ·rw [if_pos c3] at H
    have c3b0 := decide_eq_true c3
    clear c3
    by_cases c4 : 0 ≤ x5_1
    ·rw [if_pos c4] at H
     have c4b0 := decide_eq_true c4
     clear c4
     obtain ⟨y398, hy398⟩ : ∃ y_ : List Int, y_ = (x0_1.set (x5_1 : Int).toNat x1_1) := ⟨_, rfl⟩
     replace H : (laws_markIntS.l0 k1 y398 (wrap64 (x1_1 + 1)) (wrap64 (x5_1 + 1))) = some (r1, r2) := by first | (rw [hy398]; with_reducible exact H) | (have H2_ := (Option.bind_some _ _).symm.trans H; rw [hy398]; with_reducible exact H2_) | (have H2_ := (Option.bind_some _ _).symm.trans H; with_reducible exact H2_) | with_reducible exact H | (rw [hy398]; exact H) | exact H
     have Ny398 := Aside0.mk hy398
     clear hy398
     have H' := Aside0.mk H
     clear H
     obtain ⟨Ao6, co6, eo6⟩ := Kd.R_slice HO_0.out
     subst eo6
     have p5 : 0 ≤ (x5_1 : Int) := qD
     have q5 : (x5_1 : Int) < ((x0_1.length : Int) : Int) := qD
     obtain ⟨go5, co5, eo5, gb5, gl5, cl5, HG5⟩ := Kd.R_form HO_0.out (by omega)
     (first | cases eo5 | (injection eo5 with ea_ en_ ec_; (first | subst ea_ | (injection ea_ with ea_; subst ea_)); subst ec_; clear en_))
     have GB5 := Aside0.mk gb5
     have GG5 := Aside0.mk HG5
     clear gb5 gl5 HG5
     have HMgo5 := Aside0.mk (show (P0_ go5 ∨ w.heap.size ≤ go5) from (HO_0.out.1 _ rfl))
     obtain ⟨hx5_0, hf5_0⟩ := Kd.R_celln 0 HO_0.out (x5_1 : Int) p5 q5
     replace p5 := eq_true p5
     replace q5 := eq_true q5
     have HP7 := Kd.R_putg HO_0.out (x5_1 : Int) x1_1
     go_wp2_with (first | ((with_reducible refine gate_store (t := 3) (p := 15) rfl ?_); refine store_event (t := 3) (p := 15) (v := ?vo_w8) (w1 := (wr.setCell ⟨go5, (x5_1 : Int).toNat, none⟩ (.int .i64 x1_1))) ?hg ?ho ?hn ?hr ?_; (case ho => rfl); (case hg => rfl); (case hn => rfl); (case hr => first | (go_simp; done) | (go_simp; rfl)); intro w8 hw; have hg : wr.grownBy w8 (some go5) := (by rw [hw]; exact HP7.2); have hp_ : Kd.R (Kd.int .i64) 3 w8 w0.heap.size (fun k_ => (P0_ k_ ∨ w.heap.size ≤ k_)) (.slice (some ⟨go5, 0, none⟩) x0_1.length co6) y398 := (by rw [hw, Ny398.out]; exact HP7.1); clear HP7; have n0_ := Aside0.mk (hp_); have n1_ := Aside0.mk ((by rw [hw]; exact below_set (HB.out) GB5.out : Below w0.heap.size w0 w8)); have n2_ := Aside0.mk (Kept.of_grown (S := (fun k_ => P0_ k_)) hg qT (fun k_ e_ => (HO_0.out.1 k_ e_))); clear HO_0; clear HB; clear HK; have HO_0 := n0_; have HB := n1_; have HK := n2_; clear n0_ n1_ n2_; clear hg hw hp_))
     go_roundg k1
     case measure => have := HK1.out; omega
     case rel => exact ⟨(y398), (wrap64 (x1_1 + 1)), (wrap64 (x5_1 + 1)), qZ, qZ, H', ⟨by have := HK1.out; omega⟩, ⟨qR HO_0⟩, ⟨qT⟩, ⟨qB⟩⟩
    ·rw [if_neg c4] at H
     exact absurd H (by simp)
   ·rw [if_neg c3] at H
    have c3b0 := decide_eq_false c3
    clear c3
    simp only [Option.some.injEq, Prod.mk.injEq] at H
    obtain ⟨rfl, rfl⟩ := H
    obtain ⟨Ao9, co9, eo9⟩ := Kd.R_slice HO_0.out
    subst eo9
    go_wp2
    go_ret
    exact ⟨by first | rfl | (simp [errW_none, errW_some] <;> rfl) | (simp [*, errW_none, errW_some] <;> rfl), qR HO_0, qB, qT⟩
def laws_heldIntS.l0 : Nat → List Int → Int → Int → Option (Int)
 | 0, _, _, _ => none
 | k + 1, x0, x1, x5 => if x5 < (x0.length : Int) then (if 0 ≤ x5 then (if (rd x0 x5) = x1 then (laws_heldIntS.l0 k x0 (wrap64 (x1 + 1)) (wrap64 (x5 + 1))) else (some (-1))) else (none)) else (some x1)
def laws_heldIntS.f (k : Nat) (l0 : List Int) (a1 : Int) : Option (Int) := laws_heldIntS.l0 k l0 a1 0
theorem laws_heldIntS.mono_l : ∀ k, (∀ y0 y1 y2, LeO (laws_heldIntS.l0 k y0 y1 y2) (laws_heldIntS.l0 (k + 1) y0 y1 y2))
 | 0 => fun _ _ _ r h => by simp [laws_heldIntS.l0] at h
 | k + 1 => by
  have ih0 := laws_heldIntS.mono_l k
  ·intro y0 y1 y2
   unfold laws_heldIntS.l0
   repeat' first
   | (with_reducible exact ih0 _ _ _)
   | (with_reducible exact LeO.refl _)
   | (with_reducible exact LeO.none _)
   | (with_reducible refine LeO.ite ?_ ?_)
   | (with_reducible refine LeO.bind ?_ (fun _ => ?_))
   | exact ih0 _ _ _
   | exact LeO.none _
   | refine LeO.ite ?_ ?_
   | refine LeO.bind ?_ (fun _ => ?_)
theorem laws_heldIntS.mono : ∀ a0 a1 k, LeO (laws_heldIntS.f k a0 a1) (laws_heldIntS.f (k + 1) a0 a1) := by
 intro a0 a1 k
 have ih0 := laws_heldIntS.mono_l k
 unfold laws_heldIntS.f
 repeat' first
   | (with_reducible exact ih0 _ _ _)
   | (with_reducible exact LeO.refl _)
   | (with_reducible exact LeO.none _)
   | (with_reducible refine LeO.ite ?_ ?_)
   | (with_reducible refine LeO.bind ?_ (fun _ => ?_))
   | exact ih0 _ _ _
   | exact LeO.none _
   | refine LeO.ite ?_ ?_
   | refine LeO.bind ?_ (fun _ => ?_)
set_option maxHeartbeats 8000000 in
set_option maxRecDepth 100000 in
theorem laws_heldIntS.calls (k : Nat) (A0 : Option Addr) (c0 : Nat) (l0 : List Int) (a1 : Int) (r : Int) (w : World) (hr0 : Kd.C (Kd.int .i64) w A0 l0.length l0) (hc0 : l0.length ≤ c0) (h : laws_heldIntS.f k l0 a1 = some r) :
  Calls Try.prog 21 #[.slice A0 l0.length c0, .int .i64 a1] w fun e w' => e = .returned (.int .i64 r) ∧ Drawn0 w w' := by
 have HR0 := Aside0.mk hr0
 have HC0 := Aside0.mk hc0
 clear hr0 hc0
 have H : (laws_heldIntS.l0 k l0 a1 0) = some r := h
 clear h
 have H' := Aside0.mk H
 clear H
 go_enter Try.func21, Try.ntmps21
 go_wp2
 go_loopg [1, 5] k (fun kq v1 v5 w' => ∃ (x1_1 : Int) (x5_1 : Int), v1 = .int .i64 x1_1 ∧ v5 = .int .i64 x5_1 ∧ Aside0 (laws_heldIntS.l0 kq l0 x1_1 x5_1 = some r) ∧ Aside0 (kq ≤ k) ∧ Drawn0 w w')
 case atStart => exact ⟨(a1), (0), qZ, qZ, H', ⟨Nat.le_refl _⟩, by repeat (first | exact Drawn0.refl _ | apply Drawn0.step)⟩
 case round =>
  clear H'
  try clear c2; try clear p2
  obtain ⟨x1_1, x5_1, rfl, rfl, HA, HK1, ⟨m1, rfl⟩⟩ := hrel
  cases gk with
  | zero => exact absurd HA.out (by simp [laws_heldIntS.l0])
  | succ k1 =>
   have H := HA.out
   clear HA
   simp only [laws_heldIntS.l0] at H
   by_cases c3 : x5_1 < (l0.length : Int)
   ·rw [if_pos c3] at H
    have c3b0 := decide_eq_true c3
    clear c3
    by_cases c4 : 0 ≤ x5_1
    ·rw [if_pos c4] at H
     have c4b0 := decide_eq_true c4
     clear c4
     by_cases c5 : (rd l0 x5_1) = x1_1
     ·rw [if_pos c5] at H
      have c5b0 : ((rd l0 x5_1) == x1_1) = true := beq_iff_eq.mpr c5
      have c5b1 : ((rd l0 x5_1) != x1_1) = false := bne_eq_false_iff_eq.mpr c5
      clear c5
      have H' := Aside0.mk H
      clear H
      have p399 : 0 ≤ (x5_1 : Int) := qD
      have q399 : x5_1 < (l0.length : Int) := qD
      obtain ⟨ad399, e399, hx399_0⟩ := Kd.at_int HR0.out x5_1 p399 q399
      cases e399
      replace p399 := eq_true p399
      replace q399 := eq_true q399
      go_wp2
      go_roundg k1
      case measure => have := HK1.out; omega
      case rel => exact ⟨(wrap64 (x1_1 + 1)), (wrap64 (x5_1 + 1)), qZ, qZ, H', ⟨by have := HK1.out; omega⟩, by repeat (first | exact Drawn0.refl _ | apply Drawn0.step)⟩
     ·rw [if_neg c5] at H
      have c5b0 : ((rd l0 x5_1) == x1_1) = false := beq_eq_false_iff_ne.mpr c5
      have c5b1 : ((rd l0 x5_1) != x1_1) = true := bne_iff_ne.mpr c5
      obtain rfl := Option.some.inj H
      have p399 : 0 ≤ (x5_1 : Int) := qD
      have q399 : x5_1 < (l0.length : Int) := qD
      obtain ⟨ad399, e399, hx399_0⟩ := Kd.at_int HR0.out x5_1 p399 q399
      cases e399
      replace p399 := eq_true p399
      replace q399 := eq_true q399
      go_wp2
      go_ret
      exact ⟨by first | rfl | (simp; done) | (simp [*]; done), by repeat (first | exact Drawn0.refl _ | apply Drawn0.step)⟩
    ·rw [if_neg c4] at H
     exact absurd H (by simp)
   ·rw [if_neg c3] at H
    have c3b0 := decide_eq_false c3
    clear c3
    obtain rfl := Option.some.inj H
    go_wp2
    go_ret
    exact ⟨by first | rfl | (simp; done) | (simp [*]; done), by repeat (first | exact Drawn0.refl _ | apply Drawn0.step)⟩
def laws_heldQuadS.l0 : Nat → List (S46) → Int → Int → Option (Int)
 | 0, _, _, _ => none
 | k + 1, x0, x1, x5 => if x5 < (x0.length : Int) then (if 0 ≤ x5 then (if ((rd_T46 x0 x5).f0) = x1 then (if ((rd_T46 x0 x5).f1) = (wrap64 (x1 + 1)) then (if ((rd_T46 x0 x5).f2) = (wrap64 ((wrap64 (x1 + 1)) + 1)) then (if ((rd_T46 x0 x5).f3) = (wrap64 ((wrap64 ((wrap64 (x1 + 1)) + 1)) + 1)) then (if ((rd_T46 x0 x5).f4) = (wrap64 ((wrap64 ((wrap64 ((wrap64 (x1 + 1)) + 1)) + 1)) + 1)) then (laws_heldQuadS.l0 k x0 (wrap64 ((wrap64 ((wrap64 ((wrap64 ((wrap64 (x1 + 1)) + 1)) + 1)) + 1)) + 1)) (wrap64 (x5 + 1))) else (some (-1))) else (some (-1))) else (some (-1))) else (some (-1))) else (some (-1))) else (none)) else (some x1)
def laws_heldQuadS.f (k : Nat) (l0 : List (S46)) (a1 : Int) : Option (Int) := laws_heldQuadS.l0 k l0 a1 0
theorem laws_heldQuadS.mono_l : ∀ k, (∀ y0 y1 y2, LeO (laws_heldQuadS.l0 k y0 y1 y2) (laws_heldQuadS.l0 (k + 1) y0 y1 y2))
 | 0 => fun _ _ _ r h => by simp [laws_heldQuadS.l0] at h
 | k + 1 => by
  have ih0 := laws_heldQuadS.mono_l k
  ·intro y0 y1 y2
   unfold laws_heldQuadS.l0
   repeat' first
   | (with_reducible exact ih0 _ _ _)
   | (with_reducible exact LeO.refl _)
   | (with_reducible exact LeO.none _)
   | (with_reducible refine LeO.ite ?_ ?_)
   | (with_reducible refine LeO.bind ?_ (fun _ => ?_))
   | exact ih0 _ _ _
   | exact LeO.none _
   | refine LeO.ite ?_ ?_
   | refine LeO.bind ?_ (fun _ => ?_)
theorem laws_heldQuadS.mono : ∀ a0 a1 k, LeO (laws_heldQuadS.f k a0 a1) (laws_heldQuadS.f (k + 1) a0 a1) := by
 intro a0 a1 k
 have ih0 := laws_heldQuadS.mono_l k
 unfold laws_heldQuadS.f
 repeat' first
   | (with_reducible exact ih0 _ _ _)
   | (with_reducible exact LeO.refl _)
   | (with_reducible exact LeO.none _)
   | (with_reducible refine LeO.ite ?_ ?_)
   | (with_reducible refine LeO.bind ?_ (fun _ => ?_))
   | exact ih0 _ _ _
   | exact LeO.none _
   | refine LeO.ite ?_ ?_
   | refine LeO.bind ?_ (fun _ => ?_)
set_option maxHeartbeats 8000000 in
set_option maxRecDepth 100000 in
theorem laws_heldQuadS.calls (k : Nat) (A0 : Option Addr) (c0 : Nat) (l0 : List (S46)) (a1 : Int) (r : Int) (w : World) (hr0 : Kd.C k46 w A0 l0.length l0) (hc0 : l0.length ≤ c0) (h : laws_heldQuadS.f k l0 a1 = some r) :
  Calls Try.prog 24 #[.slice A0 l0.length c0, .int .i64 a1] w fun e w' => e = .returned (.int .i64 r) ∧ Drawn0 w w' := by
 have HR0 := Aside0.mk hr0
 have HC0 := Aside0.mk hc0
 clear hr0 hc0
 have H : (laws_heldQuadS.l0 k l0 a1 0) = some r := h
 clear h
 have H' := Aside0.mk H
 clear H
 go_enter Try.func24, Try.ntmps24
 go_wp2
 go_loopg [1, 5] k (fun kq v1 v5 w' => ∃ (x1_1 : Int) (x5_1 : Int), v1 = .int .i64 x1_1 ∧ v5 = .int .i64 x5_1 ∧ Aside0 (laws_heldQuadS.l0 kq l0 x1_1 x5_1 = some r) ∧ Aside0 (kq ≤ k) ∧ Drawn0 w w')
 case atStart => exact ⟨(a1), (0), qZ, qZ, H', ⟨Nat.le_refl _⟩, by repeat (first | exact Drawn0.refl _ | apply Drawn0.step)⟩
 case round =>
  clear H'
  try clear c2; try clear p2
  obtain ⟨x1_1, x5_1, rfl, rfl, HA, HK1, ⟨m1, rfl⟩⟩ := hrel
  cases gk with
  | zero => exact absurd HA.out (by simp [laws_heldQuadS.l0])
  | succ k1 =>
   have H := HA.out
   clear HA
   simp only [laws_heldQuadS.l0] at H
   by_cases c3 : x5_1 < (l0.length : Int)
   ·rw [if_pos c3] at H
    have c3b0 := decide_eq_true c3
    clear c3
    by_cases c4 : 0 ≤ x5_1
    ·rw [if_pos c4] at H
     have c4b0 := decide_eq_true c4
     clear c4
     by_cases c5 : ((rd_T46 l0 x5_1).f0) = x1_1
     ·rw [if_pos c5] at H
      have c5b0 : (((rd_T46 l0 x5_1).f0) == x1_1) = true := beq_iff_eq.mpr c5
      have c5b1 : (((rd_T46 l0 x5_1).f0) != x1_1) = false := bne_eq_false_iff_eq.mpr c5
      clear c5
      by_cases c6 : ((rd_T46 l0 x5_1).f1) = (wrap64 (x1_1 + 1))
      ·rw [if_pos c6] at H
       have c6b0 : (((rd_T46 l0 x5_1).f1) == (wrap64 (x1_1 + 1))) = true := beq_iff_eq.mpr c6
       have c6b1 : (((rd_T46 l0 x5_1).f1) != (wrap64 (x1_1 + 1))) = false := bne_eq_false_iff_eq.mpr c6
       clear c6
       by_cases c7 : ((rd_T46 l0 x5_1).f2) = (wrap64 ((wrap64 (x1_1 + 1)) + 1))
       ·rw [if_pos c7] at H
        have c7b0 : (((rd_T46 l0 x5_1).f2) == (wrap64 ((wrap64 (x1_1 + 1)) + 1))) = true := beq_iff_eq.mpr c7
        have c7b1 : (((rd_T46 l0 x5_1).f2) != (wrap64 ((wrap64 (x1_1 + 1)) + 1))) = false := bne_eq_false_iff_eq.mpr c7
        clear c7
        by_cases c8 : ((rd_T46 l0 x5_1).f3) = (wrap64 ((wrap64 ((wrap64 (x1_1 + 1)) + 1)) + 1))
        ·rw [if_pos c8] at H
         have c8b0 : (((rd_T46 l0 x5_1).f3) == (wrap64 ((wrap64 ((wrap64 (x1_1 + 1)) + 1)) + 1))) = true := beq_iff_eq.mpr c8
         have c8b1 : (((rd_T46 l0 x5_1).f3) != (wrap64 ((wrap64 ((wrap64 (x1_1 + 1)) + 1)) + 1))) = false := bne_eq_false_iff_eq.mpr c8
         clear c8
         by_cases c9 : ((rd_T46 l0 x5_1).f4) = (wrap64 ((wrap64 ((wrap64 ((wrap64 (x1_1 + 1)) + 1)) + 1)) + 1))
         ·rw [if_pos c9] at H
          have c9b0 : (((rd_T46 l0 x5_1).f4) == (wrap64 ((wrap64 ((wrap64 ((wrap64 (x1_1 + 1)) + 1)) + 1)) + 1))) = true := beq_iff_eq.mpr c9
          have c9b1 : (((rd_T46 l0 x5_1).f4) != (wrap64 ((wrap64 ((wrap64 ((wrap64 (x1_1 + 1)) + 1)) + 1)) + 1))) = false := bne_eq_false_iff_eq.mpr c9
          clear c9
          have H' := Aside0.mk H
          clear H
          have p470 : 0 ≤ (x5_1 : Int) := qD
          have q470 : x5_1 < (l0.length : Int) := qD
          obtain ⟨ad470, e470, hx470_0, hx470_1, hx470_2, hx470_3, hx470_4⟩ := at_T46 HR0.out x5_1 p470 q470
          cases e470
          replace p470 := eq_true p470
          replace q470 := eq_true q470
          have p471 : 0 ≤ (x5_1 : Int) := qD
          have q471 : x5_1 < (l0.length : Int) := qD
          obtain ⟨ad471, e471, hx471_0, hx471_1, hx471_2, hx471_3, hx471_4⟩ := at_T46 HR0.out x5_1 p471 q471
          obtain rfl : ad470 = ad471 := (by injection e471)
          replace p471 := eq_true p471
          replace q471 := eq_true q471
          have p472 : 0 ≤ (x5_1 : Int) := qD
          have q472 : x5_1 < (l0.length : Int) := qD
          obtain ⟨ad472, e472, hx472_0, hx472_1, hx472_2, hx472_3, hx472_4⟩ := at_T46 HR0.out x5_1 p472 q472
          obtain rfl : ad470 = ad472 := (by injection e472)
          replace p472 := eq_true p472
          replace q472 := eq_true q472
          have p473 : 0 ≤ (x5_1 : Int) := qD
          have q473 : x5_1 < (l0.length : Int) := qD
          obtain ⟨ad473, e473, hx473_0, hx473_1, hx473_2, hx473_3, hx473_4⟩ := at_T46 HR0.out x5_1 p473 q473
          obtain rfl : ad470 = ad473 := (by injection e473)
          replace p473 := eq_true p473
          replace q473 := eq_true q473
          have p474 : 0 ≤ (x5_1 : Int) := qD
          have q474 : x5_1 < (l0.length : Int) := qD
          obtain ⟨ad474, e474, hx474_0, hx474_1, hx474_2, hx474_3, hx474_4⟩ := at_T46 HR0.out x5_1 p474 q474
          obtain rfl : ad470 = ad474 := (by injection e474)
          replace p474 := eq_true p474
          replace q474 := eq_true q474
          go_wp2
          go_roundg k1
          case measure => have := HK1.out; omega
          case rel => exact ⟨(wrap64 ((wrap64 ((wrap64 ((wrap64 ((wrap64 (x1_1 + 1)) + 1)) + 1)) + 1)) + 1)), (wrap64 (x5_1 + 1)), qZ, qZ, H', ⟨by have := HK1.out; omega⟩, by repeat (first | exact Drawn0.refl _ | apply Drawn0.step)⟩
         ·rw [if_neg c9] at H
          have c9b0 : (((rd_T46 l0 x5_1).f4) == (wrap64 ((wrap64 ((wrap64 ((wrap64 (x1_1 + 1)) + 1)) + 1)) + 1))) = false := beq_eq_false_iff_ne.mpr c9
          have c9b1 : (((rd_T46 l0 x5_1).f4) != (wrap64 ((wrap64 ((wrap64 ((wrap64 (x1_1 + 1)) + 1)) + 1)) + 1))) = true := bne_iff_ne.mpr c9
          obtain rfl := Option.some.inj H
          have p470 : 0 ≤ (x5_1 : Int) := qD
          have q470 : x5_1 < (l0.length : Int) := qD
          obtain ⟨ad470, e470, hx470_0, hx470_1, hx470_2, hx470_3, hx470_4⟩ := at_T46 HR0.out x5_1 p470 q470
          cases e470
          replace p470 := eq_true p470
          replace q470 := eq_true q470
          have p471 : 0 ≤ (x5_1 : Int) := qD
          have q471 : x5_1 < (l0.length : Int) := qD
          obtain ⟨ad471, e471, hx471_0, hx471_1, hx471_2, hx471_3, hx471_4⟩ := at_T46 HR0.out x5_1 p471 q471
          obtain rfl : ad470 = ad471 := (by injection e471)
          replace p471 := eq_true p471
          replace q471 := eq_true q471
          have p472 : 0 ≤ (x5_1 : Int) := qD
          have q472 : x5_1 < (l0.length : Int) := qD
          obtain ⟨ad472, e472, hx472_0, hx472_1, hx472_2, hx472_3, hx472_4⟩ := at_T46 HR0.out x5_1 p472 q472
          obtain rfl : ad470 = ad472 := (by injection e472)
          replace p472 := eq_true p472
          replace q472 := eq_true q472
          have p473 : 0 ≤ (x5_1 : Int) := qD
          have q473 : x5_1 < (l0.length : Int) := qD
          obtain ⟨ad473, e473, hx473_0, hx473_1, hx473_2, hx473_3, hx473_4⟩ := at_T46 HR0.out x5_1 p473 q473
          obtain rfl : ad470 = ad473 := (by injection e473)
          replace p473 := eq_true p473
          replace q473 := eq_true q473
          have p474 : 0 ≤ (x5_1 : Int) := qD
          have q474 : x5_1 < (l0.length : Int) := qD
          obtain ⟨ad474, e474, hx474_0, hx474_1, hx474_2, hx474_3, hx474_4⟩ := at_T46 HR0.out x5_1 p474 q474
          obtain rfl : ad470 = ad474 := (by injection e474)
          replace p474 := eq_true p474
          replace q474 := eq_true q474
          go_wp2
          go_ret
          exact ⟨by first | rfl | (simp; done) | (simp [*]; done), by repeat (first | exact Drawn0.refl _ | apply Drawn0.step)⟩
        ·rw [if_neg c8] at H
         have c8b0 : (((rd_T46 l0 x5_1).f3) == (wrap64 ((wrap64 ((wrap64 (x1_1 + 1)) + 1)) + 1))) = false := beq_eq_false_iff_ne.mpr c8
         have c8b1 : (((rd_T46 l0 x5_1).f3) != (wrap64 ((wrap64 ((wrap64 (x1_1 + 1)) + 1)) + 1))) = true := bne_iff_ne.mpr c8
         obtain rfl := Option.some.inj H
         have p470 : 0 ≤ (x5_1 : Int) := qD
         have q470 : x5_1 < (l0.length : Int) := qD
         obtain ⟨ad470, e470, hx470_0, hx470_1, hx470_2, hx470_3, hx470_4⟩ := at_T46 HR0.out x5_1 p470 q470
         cases e470
         replace p470 := eq_true p470
         replace q470 := eq_true q470
         have p471 : 0 ≤ (x5_1 : Int) := qD
         have q471 : x5_1 < (l0.length : Int) := qD
         obtain ⟨ad471, e471, hx471_0, hx471_1, hx471_2, hx471_3, hx471_4⟩ := at_T46 HR0.out x5_1 p471 q471
         obtain rfl : ad470 = ad471 := (by injection e471)
         replace p471 := eq_true p471
         replace q471 := eq_true q471
         have p472 : 0 ≤ (x5_1 : Int) := qD
         have q472 : x5_1 < (l0.length : Int) := qD
         obtain ⟨ad472, e472, hx472_0, hx472_1, hx472_2, hx472_3, hx472_4⟩ := at_T46 HR0.out x5_1 p472 q472
         obtain rfl : ad470 = ad472 := (by injection e472)
         replace p472 := eq_true p472
         replace q472 := eq_true q472
         have p473 : 0 ≤ (x5_1 : Int) := qD
         have q473 : x5_1 < (l0.length : Int) := qD
         obtain ⟨ad473, e473, hx473_0, hx473_1, hx473_2, hx473_3, hx473_4⟩ := at_T46 HR0.out x5_1 p473 q473
         obtain rfl : ad470 = ad473 := (by injection e473)
         replace p473 := eq_true p473
         replace q473 := eq_true q473
         go_wp2
         go_ret
         exact ⟨by first | rfl | (simp; done) | (simp [*]; done), by repeat (first | exact Drawn0.refl _ | apply Drawn0.step)⟩
       ·rw [if_neg c7] at H
        have c7b0 : (((rd_T46 l0 x5_1).f2) == (wrap64 ((wrap64 (x1_1 + 1)) + 1))) = false := beq_eq_false_iff_ne.mpr c7
        have c7b1 : (((rd_T46 l0 x5_1).f2) != (wrap64 ((wrap64 (x1_1 + 1)) + 1))) = true := bne_iff_ne.mpr c7
        obtain rfl := Option.some.inj H
        have p470 : 0 ≤ (x5_1 : Int) := qD
        have q470 : x5_1 < (l0.length : Int) := qD
        obtain ⟨ad470, e470, hx470_0, hx470_1, hx470_2, hx470_3, hx470_4⟩ := at_T46 HR0.out x5_1 p470 q470
        cases e470
        replace p470 := eq_true p470
        replace q470 := eq_true q470
        have p471 : 0 ≤ (x5_1 : Int) := qD
        have q471 : x5_1 < (l0.length : Int) := qD
        obtain ⟨ad471, e471, hx471_0, hx471_1, hx471_2, hx471_3, hx471_4⟩ := at_T46 HR0.out x5_1 p471 q471
        obtain rfl : ad470 = ad471 := (by injection e471)
        replace p471 := eq_true p471
        replace q471 := eq_true q471
        have p472 : 0 ≤ (x5_1 : Int) := qD
        have q472 : x5_1 < (l0.length : Int) := qD
        obtain ⟨ad472, e472, hx472_0, hx472_1, hx472_2, hx472_3, hx472_4⟩ := at_T46 HR0.out x5_1 p472 q472
        obtain rfl : ad470 = ad472 := (by injection e472)
        replace p472 := eq_true p472
        replace q472 := eq_true q472
        go_wp2
        go_ret
        exact ⟨by first | rfl | (simp; done) | (simp [*]; done), by repeat (first | exact Drawn0.refl _ | apply Drawn0.step)⟩
      ·rw [if_neg c6] at H
       have c6b0 : (((rd_T46 l0 x5_1).f1) == (wrap64 (x1_1 + 1))) = false := beq_eq_false_iff_ne.mpr c6
       have c6b1 : (((rd_T46 l0 x5_1).f1) != (wrap64 (x1_1 + 1))) = true := bne_iff_ne.mpr c6
       obtain rfl := Option.some.inj H
       have p470 : 0 ≤ (x5_1 : Int) := qD
       have q470 : x5_1 < (l0.length : Int) := qD
       obtain ⟨ad470, e470, hx470_0, hx470_1, hx470_2, hx470_3, hx470_4⟩ := at_T46 HR0.out x5_1 p470 q470
       cases e470
       replace p470 := eq_true p470
       replace q470 := eq_true q470
       have p471 : 0 ≤ (x5_1 : Int) := qD
       have q471 : x5_1 < (l0.length : Int) := qD
       obtain ⟨ad471, e471, hx471_0, hx471_1, hx471_2, hx471_3, hx471_4⟩ := at_T46 HR0.out x5_1 p471 q471
       obtain rfl : ad470 = ad471 := (by injection e471)
       replace p471 := eq_true p471
       replace q471 := eq_true q471
       go_wp2
       go_ret
       exact ⟨by first | rfl | (simp; done) | (simp [*]; done), by repeat (first | exact Drawn0.refl _ | apply Drawn0.step)⟩
     ·rw [if_neg c5] at H
      have c5b0 : (((rd_T46 l0 x5_1).f0) == x1_1) = false := beq_eq_false_iff_ne.mpr c5
      have c5b1 : (((rd_T46 l0 x5_1).f0) != x1_1) = true := bne_iff_ne.mpr c5
      obtain rfl := Option.some.inj H
      have p470 : 0 ≤ (x5_1 : Int) := qD
      have q470 : x5_1 < (l0.length : Int) := qD
      obtain ⟨ad470, e470, hx470_0, hx470_1, hx470_2, hx470_3, hx470_4⟩ := at_T46 HR0.out x5_1 p470 q470
      cases e470
      replace p470 := eq_true p470
      replace q470 := eq_true q470
      go_wp2
      go_ret
      exact ⟨by first | rfl | (simp; done) | (simp [*]; done), by repeat (first | exact Drawn0.refl _ | apply Drawn0.step)⟩
    ·rw [if_neg c4] at H
     exact absurd H (by simp)
   ·rw [if_neg c3] at H
    have c3b0 := decide_eq_false c3
    clear c3
    obtain rfl := Option.some.inj H
    go_wp2
    go_ret
    exact ⟨by first | rfl | (simp; done) | (simp [*]; done), by repeat (first | exact Drawn0.refl _ | apply Drawn0.step)⟩
def impl_PlacesOf.f (k : Nat) (l0 : List (S46)) : Option (List Int) := (impl_CodeValid.f k l0).bind fun t387 => (if t387 = true then ((impl_placesOf.f k l0).bind fun t388 => (some t388)) else (some ([] : List Int)))
theorem impl_PlacesOf.mono : ∀ a0 k, LeO (impl_PlacesOf.f k a0) (impl_PlacesOf.f (k + 1) a0) := by
 intro a0 k
 unfold impl_PlacesOf.f
 repeat' first
   | (with_reducible exact impl_CodeValid.mono _ _)
   | (with_reducible exact impl_placesOf.mono _ _)
   | (with_reducible exact LeO.refl _)
   | (with_reducible exact LeO.none _)
   | (with_reducible refine LeO.ite ?_ ?_)
   | (with_reducible refine LeO.bind ?_ (fun _ => ?_))
   | exact impl_CodeValid.mono _ _
   | exact impl_placesOf.mono _ _
   | exact LeO.none _
   | refine LeO.ite ?_ ?_
   | refine LeO.bind ?_ (fun _ => ?_)
set_option maxHeartbeats 8000000 in
set_option maxRecDepth 100000 in
theorem impl_PlacesOf.calls (k : Nat) (A0 : Option Addr) (c0 : Nat) (l0 : List (S46)) (r : List Int) (w : World) (hr0 : Kd.C k46 w A0 l0.length l0) (hc0 : l0.length ≤ c0) (h : impl_PlacesOf.f k l0 = some r) :
  Calls Try.prog 17 #[.slice A0 l0.length c0] w fun e w' => ∃ v0_ : Value, e = .returned (v0_) ∧ Kd.R (Kd.int .i64) 3 w' w.heap.size (fun _ => True) v0_ r ∧ Below w.heap.size w w' := by
 have HR0 := Aside0.mk hr0
 have HC0 := Aside0.mk hc0
 clear hr0 hc0
 have HB := Aside0.mk (Below.refl w.heap.size w)
 have H : ((impl_CodeValid.f k l0).bind fun t387 => (if t387 = true then ((impl_placesOf.f k l0).bind fun t388 => (some t388)) else (some ([] : List Int)))) = some r := h
 clear h
 obtain ⟨t387, A2, H⟩ := qE H
 try dsimp only at H
 by_cases c3 : t387 = true
 ·subst c3
  rw [if_pos rfl] at H
  obtain ⟨t388, A4, H⟩ := qE H
  try dsimp only at H
  obtain rfl := Option.some.inj H
  go_enter Try.func17, Try.ntmps17
  go_wp2_with (first | ((with_reducible refine gate_callee (f := 34) rfl ?_); refine goesL_ (some 4) rfl rfl Try.func34 (by kernel_rfl) rfl #[.slice A0 l0.length c0] rfl qM ?_; (with_reducible refine (impl_CodeValid.calls k _ _ l0 true _ ?side1 ?side2 A2.out).mono ?_); (case side1 => repeat (first | exact HR0.out | (with_reducible refine Kd.C_alloc ?_ _) | (with_reducible refine Kd.C_drewN ?_ _) | (with_reducible refine Kd.C_drew ?_))); (case side2 => exact HC0.out); rintro e w5 ⟨rfl, hb⟩; refine ⟨_, rfl, ?_⟩; have n0_ := Aside0.mk (below_step qB hb); clear HB; have HB := n0_; clear n0_; (try clear hb); (try clear hb2); (try clear hk); (try clear hi)) | ((with_reducible refine gate_callee (f := 41) rfl ?_); refine goesL_ (some 7) rfl rfl Try.func41 (by kernel_rfl) rfl #[.slice A0 l0.length c0] rfl qM ?_; (with_reducible refine (impl_placesOf.calls k _ _ l0 t388 _ ?side1 ?side2 A4.out).mono ?_); (case side1 => repeat (first | exact (Kd.C_below HR0.out HB.out) | (with_reducible refine Kd.C_alloc ?_ _) | (with_reducible refine Kd.C_drewN ?_ _) | (with_reducible refine Kd.C_drew ?_))); (case side2 => exact HC0.out); rintro e w6 ⟨v389, rfl, ho0, hb⟩; refine ⟨_, rfl, ?_⟩; have n0_ := Aside0.mk (Kd.R_lower ho0 (below_size qB)); have n1_ := Aside0.mk (below_step qB hb); clear HB; have HO390 := n0_; have HB := n1_; clear n0_ n1_; (try clear hb); (try clear hb2); (try clear hk); (try clear hi); (try clear ho0)))
  go_ret
  exact ⟨_, by first | rfl | (simp [errW_none, errW_some] <;> rfl) | (simp [*, errW_none, errW_some] <;> rfl), qR HO390, qB⟩
 ·replace c3 := Bool.eq_false_iff.mpr c3
  subst c3
  rw [if_neg (show ¬ (false = true) by decide)] at H
  obtain rfl := Option.some.inj H
  go_enter Try.func17, Try.ntmps17
  go_wp2_with (first | ((with_reducible refine gate_callee (f := 34) rfl ?_); refine goesL_ (some 4) rfl rfl Try.func34 (by kernel_rfl) rfl #[.slice A0 l0.length c0] rfl qM ?_; (with_reducible refine (impl_CodeValid.calls k _ _ l0 false _ ?side1 ?side2 A2.out).mono ?_); (case side1 => repeat (first | exact HR0.out | (with_reducible refine Kd.C_alloc ?_ _) | (with_reducible refine Kd.C_drewN ?_ _) | (with_reducible refine Kd.C_drew ?_))); (case side2 => exact HC0.out); rintro e w7 ⟨rfl, hb⟩; refine ⟨_, rfl, ?_⟩; have n0_ := Aside0.mk (below_step qB hb); clear HB; have HB := n0_; clear n0_; (try clear hb); (try clear hb2); (try clear hk); (try clear hi)))
  go_ret
  exact ⟨_, by first | rfl | (simp [errW_none, errW_some] <;> rfl) | (simp [*, errW_none, errW_some] <;> rfl), by first | exact Kd.R_nil _ _ _ _ _ | exact Kd.N_nil _ _ _ _ _ | exact Kd.V_nil _ _ _ _ _ | exact Kd.Q_nil _ _ _ _ _ | exact Kd.S_nil _ _ _ _ _, qB⟩
end Go.Proofs.Ytahbkldagpfcaaa.M
namespace Go.Proofs.Ytahbkldagpfcaaa.M
open Go.RowKit Go.Proofs.YtahbkldagpfcaaaW.PrintWords Go.Proofs.YtahbkldagpfcaaaW.PrintLast Go.Proofs.YtahbkldagpfcaaaW.PrintMore PM
theorem laws_eqIntS.ev {l : List Int} (h : l.length ≤ 1048576) : Ev (fun k => laws_eqIntS.f k l l) true := by
  have key : ∀ (d p : Nat), p + d = l.length → Ev (fun k => laws_eqIntS.l0 k l l (p : Int)) true := by
    intro d
    induction d with
    | zero =>
      intro p hp
      refine Ev.succ ?_
      simp only [laws_eqIntS.l0]
      exact Ev.neg Ev.pure
    | succ d ih =>
      intro p hp
      refine Ev.succ ?_
      simp only [laws_eqIntS.l0, wrap_up (show p < 9223372036854775807 by omega), if_true]
      exact Ev.pos (Ev.pos (Ev.pos (ih (p + 1) (by omega))))
  simp only [laws_eqIntS.f]
  exact Ev.pos (key l.length 0 (by omega))
/-- A row of numbers marked 1, 2, .. -/
def mInts (n : Nat) : List Int := (List.range n).map fun i => ((i + 1 : Nat) : Int)
theorem mInts_get {n i : Nat} (h : i < n) : (mInts n).getD i 0 = ((i + 1 : Nat) : Int) := by simp [mInts, List.getD_eq_getElem?_getD, h]
theorem mInts_len (n : Nat) : (mInts n).length = n := by simp [mInts]
theorem laws_markIntS.ev {l : List Int} (h : l.length ≤ 1048576) : Ev (fun k => laws_markIntS.f k l 1) (((l.length + 1 : Nat) : Int), mInts l.length) := by
  have key : ∀ (d p : Nat), p + d = l.length → ∀ x : List Int, x.length = l.length → (∀ i, i < p → x.getD i 0 = ((i + 1 : Nat) : Int)) → Ev (fun k => laws_markIntS.l0 k x ((p + 1 : Nat) : Int) (p : Int)) (((l.length + 1 : Nat) : Int), mInts l.length) := by
    intro d
    induction d with
    | zero =>
      intro p hp x hx he
      refine Ev.succ ?_
      simp only [laws_markIntS.l0]
      refine Ev.neg (Ev.eq Ev.pure ?_)
      have : x = mInts l.length := list_ext 0 (by rw [hx, mInts_len]) fun i hi => by rw [he i (by omega), mInts_get (by omega)]
      rw [this, show p = l.length from by omega]
    | succ d ih =>
      intro p hp x hx he
      refine Ev.succ ?_
      simp only [laws_markIntS.l0, Int.toNat_natCast, wrap_up (show p < 9223372036854775807 by omega), wrap_up (show p + 1 < 9223372036854775807 by omega)]
      refine Ev.pos (Ev.pos (ih (p + 1) (by omega) _ (by rw [List.length_set]; exact hx) fun i hi => ?_))
      rw [getD_set x p i _ _ (by omega)]
      by_cases e : i = p
      · rw [if_pos e, e]
      · rw [if_neg e]
        exact he i (by omega)
  simp only [laws_markIntS.f]
  exact key l.length 0 (by omega) l rfl (fun i hi => by omega)
theorem laws_heldIntS.ev {n : Nat} (h : n ≤ 1048576) : Ev (fun k => laws_heldIntS.f k (mInts n) 1) ((n + 1 : Nat) : Int) := by
  have key : ∀ (d p : Nat), p + d = n → Ev (fun k => laws_heldIntS.l0 k (mInts n) ((p + 1 : Nat) : Int) (p : Int)) ((n + 1 : Nat) : Int) := by
    intro d
    induction d with
    | zero =>
      intro p hp
      refine Ev.succ ?_
      simp only [laws_heldIntS.l0, mInts_len]
      rw [show n = p from by omega]
      exact Ev.neg Ev.pure
    | succ d ih =>
      intro p hp
      refine Ev.succ ?_
      simp only [laws_heldIntS.l0, mInts_len, rd_nat, mInts_get (show p < n by omega), wrap_up (show p < 9223372036854775807 by omega), wrap_up (show p + 1 < 9223372036854775807 by omega), if_true]
      exact Ev.pos (Ev.pos (ih (p + 1) (by omega)))
  simp only [laws_heldIntS.f]
  exact key n 0 (by omega)
/-- A row of quads marked 1, 2, .. -/
def mQ (i : Nat) : SQ := ⟨((5 * i + 1 : Nat) : Int), ((5 * i + 2 : Nat) : Int), ((5 * i + 3 : Nat) : Int), ((5 * i + 4 : Nat) : Int), ((5 * i + 5 : Nat) : Int)⟩
def mQs (n : Nat) : List SQ := (List.range n).map mQ
theorem mQs_get {n i : Nat} (h : i < n) : (mQs n).getD i z46 = mQ i := by simp [mQs, List.getD_eq_getElem?_getD, h]
theorem mQs_len (n : Nat) : (mQs n).length = n := by simp [mQs]
theorem qa_set {x : List SQ} {p : Nat} {q : SQ} (h : p < x.length) : qa (x.set p q) p = q := by
  unfold qa
  rw [getD_set x p p q _ h, if_pos rfl]
theorem laws_markQuadS.ev {l : List SQ} (h : l.length ≤ 1048576) : Ev (fun k => laws_markQuadS.f k l 1) (((5 * l.length + 1 : Nat) : Int), mQs l.length) := by
  have key : ∀ (d p : Nat), p + d = l.length → ∀ x : List SQ, x.length = l.length → (∀ i, i < p → x.getD i z46 = mQ i) → Ev (fun k => laws_markQuadS.l0 k x ((5 * p + 1 : Nat) : Int) (p : Int)) (((5 * l.length + 1 : Nat) : Int), mQs l.length) := by
    intro d
    induction d with
    | zero =>
      intro p hp x hx he
      refine Ev.succ ?_
      simp only [laws_markQuadS.l0]
      refine Ev.neg (Ev.eq Ev.pure ?_)
      have : x = mQs l.length := list_ext z46 (by rw [hx, mQs_len]) fun i hi => by rw [he i (by omega), mQs_get (by omega)]
      rw [this, show p = l.length from by omega]
    | succ d ih =>
      intro p hp x hx he
      refine Ev.succ ?_
      have w1 := wrap_up (show 5 * p + 1 < 9223372036854775807 by omega)
      have w2 := wrap_up (show 5 * p + 1 + 1 < 9223372036854775807 by omega)
      have w3 := wrap_up (show 5 * p + 1 + 1 + 1 < 9223372036854775807 by omega)
      have w4 := wrap_up (show 5 * p + 1 + 1 + 1 + 1 < 9223372036854775807 by omega)
      have w5 := wrap_up (show 5 * p + 1 + 1 + 1 + 1 + 1 < 9223372036854775807 by omega)
      simp only [laws_markQuadS.l0, rd_qa, Int.toNat_natCast, Option.bind_some, w1, w2, w3, w4, w5, wrap_up (show p < 9223372036854775807 by omega), qa_set (show p < x.length by omega), List.set_set]
      refine Ev.pos (Ev.pos ?_)
      have := ih (p + 1) (by omega) (x.set p (mQ p)) (by rw [List.length_set]; exact hx) fun i hi => by
        rw [getD_set x p i _ _ (by omega)]
        by_cases e : i = p
        · rw [if_pos e, e]
        · rw [if_neg e]
          exact he i (by omega)
      exact this
  simp only [laws_markQuadS.f]
  exact key l.length 0 (by omega) l rfl (fun i hi => by omega)
theorem laws_heldQuadS.ev {n : Nat} (h : n ≤ 1048576) : Ev (fun k => laws_heldQuadS.f k (mQs n) 1) ((5 * n + 1 : Nat) : Int) := by
  have key : ∀ (d p : Nat), p + d = n → Ev (fun k => laws_heldQuadS.l0 k (mQs n) ((5 * p + 1 : Nat) : Int) (p : Int)) ((5 * n + 1 : Nat) : Int) := by
    intro d
    induction d with
    | zero =>
      intro p hp
      refine Ev.succ ?_
      simp only [laws_heldQuadS.l0, mQs_len]
      rw [show n = p from by omega]
      exact Ev.neg Ev.pure
    | succ d ih =>
      intro p hp
      refine Ev.succ ?_
      have w1 := wrap_up (show 5 * p + 1 < 9223372036854775807 by omega)
      have w2 := wrap_up (show 5 * p + 1 + 1 < 9223372036854775807 by omega)
      have w3 := wrap_up (show 5 * p + 1 + 1 + 1 < 9223372036854775807 by omega)
      have w4 := wrap_up (show 5 * p + 1 + 1 + 1 + 1 < 9223372036854775807 by omega)
      have w5 := wrap_up (show 5 * p + 1 + 1 + 1 + 1 + 1 < 9223372036854775807 by omega)
      simp only [laws_heldQuadS.l0, mQs_len, rd_qa, show qa (mQs n) p = mQ p from mQs_get (by omega), mQ, w1, w2, w3, w4, w5, wrap_up (show p < 9223372036854775807 by omega), if_true]
      exact Ev.pos (Ev.pos (ih (p + 1) (by omega)))
  simp only [laws_heldQuadS.f]
  exact key n 0 (by omega)
theorem impl_PlacesOf.ev (c : List SQ) : ∃ v : List Int, v.length ≤ 12 ∧ Ev (fun k => spec_PlacesOf.f k c) v ∧ Ev (fun k => impl_PlacesOf.f k c) v := by
  by_cases h : CV (qs c)
  · obtain ⟨P, hl, _, e1, e2⟩ := places_ev c h
    refine ⟨ints P, by rw [ints_len]; omega, e1, ?_⟩
    simp only [impl_PlacesOf.f]
    exact Ev.bind (impl_CodeValid.ev c) (Ev.pos (Ev.bind e2 Ev.pure) (decide_eq_true h))
  · refine ⟨[], by simp, ?_, ?_⟩
    · simp only [spec_PlacesOf.f]
      exact Ev.some (Ev.bind (spec_CodeValid.ev c) (Ev.neg Ev.pure (fun x => h (of_decide_eq_true x))))
    · simp only [impl_PlacesOf.f]
      exact Ev.bind (impl_CodeValid.ev c) (Ev.neg Ev.pure (fun x => h (of_decide_eq_true x)))
end Go.Proofs.Ytahbkldagpfcaaa.M
namespace Go.Proofs.Ytahbkldagpfcaaa.M
open Go.RowKit Go.Proofs.YtahbkldagpfcaaaW.PrintWords Go.Proofs.YtahbkldagpfcaaaW.PrintLast Go.Proofs.YtahbkldagpfcaaaW.PrintMore
attribute [local go_sem] max2_int min2_int max_two min_two max_three min_three max_four min_four
def spec_l31Has.l0 : Nat → List Int → Int → Int → Option (Bool)
 | 0, _, _, _ => none
 | k + 1, x0, x1, x5 => if x5 < (x0.length : Int) then (if 0 ≤ x5 then (if (rd x0 x5) = x1 then (some true) else (spec_l31Has.l0 k x0 x1 (wrap64 (x5 + 1)))) else (none)) else (some false)
def spec_l31Has.f (k : Nat) (l0 : List Int) (a1 : Int) : Option (Bool) := spec_l31Has.l0 k l0 a1 0
theorem spec_l31Has.mono_l : ∀ k, (∀ y0 y1 y2, LeO (spec_l31Has.l0 k y0 y1 y2) (spec_l31Has.l0 (k + 1) y0 y1 y2))
 | 0 => fun _ _ _ r h => by simp [spec_l31Has.l0] at h
 | k + 1 => by
  have ih0 := spec_l31Has.mono_l k
  ·intro y0 y1 y2
   unfold spec_l31Has.l0
   repeat' first
   | (with_reducible exact ih0 _ _ _)
   | (with_reducible exact LeO.refl _)
   | (with_reducible exact LeO.none _)
   | (with_reducible refine LeO.ite ?_ ?_)
   | (with_reducible refine LeO.bind ?_ (fun _ => ?_))
   | exact ih0 _ _ _
   | exact LeO.none _
   | refine LeO.ite ?_ ?_
   | refine LeO.bind ?_ (fun _ => ?_)
theorem spec_l31Has.mono : ∀ a0 a1 k, LeO (spec_l31Has.f k a0 a1) (spec_l31Has.f (k + 1) a0 a1) := by
 intro a0 a1 k
 have ih0 := spec_l31Has.mono_l k
 unfold spec_l31Has.f
 repeat' first
   | (with_reducible exact ih0 _ _ _)
   | (with_reducible exact LeO.refl _)
   | (with_reducible exact LeO.none _)
   | (with_reducible refine LeO.ite ?_ ?_)
   | (with_reducible refine LeO.bind ?_ (fun _ => ?_))
   | exact ih0 _ _ _
   | exact LeO.none _
   | refine LeO.ite ?_ ?_
   | refine LeO.bind ?_ (fun _ => ?_)
set_option maxHeartbeats 8000000 in
set_option maxRecDepth 100000 in
theorem spec_l31Has.calls (k : Nat) (A0 : Option Addr) (c0 : Nat) (l0 : List Int) (a1 : Int) (r : Bool) (w : World) (hr0 : Kd.C (Kd.int .i64) w A0 l0.length l0) (hc0 : l0.length ≤ c0) (h : spec_l31Has.f k l0 a1 = some r) :
  Calls Try.prog 40 #[.slice A0 l0.length c0, .int .i64 a1] w fun e w' => e = .returned (.bool r) ∧ Drawn0 w w' := by
 have HR0 := Aside0.mk hr0
 have HC0 := Aside0.mk hc0
 clear hr0 hc0
 have H : (spec_l31Has.l0 k l0 a1 0) = some r := h
 clear h
 have H' := Aside0.mk H
 clear H
 go_enter Try.func40, Try.ntmps40
 go_wp2
 go_loopg [5] k (fun kq v5 w' => ∃ (x5_1 : Int), v5 = .int .i64 x5_1 ∧ Aside0 (spec_l31Has.l0 kq l0 a1 x5_1 = some r) ∧ Aside0 (kq ≤ k) ∧ Drawn0 w w')
 case atStart => exact ⟨(0), qZ, H', ⟨Nat.le_refl _⟩, by repeat (first | exact Drawn0.refl _ | apply Drawn0.step)⟩
 case round =>
  clear H'
  try clear p2
  obtain ⟨x5_1, rfl, HA, HK1, ⟨m1, rfl⟩⟩ := hrel
  cases gk with
  | zero => exact absurd HA.out (by simp [spec_l31Has.l0])
  | succ k1 =>
   have H := HA.out
   clear HA
   simp only [spec_l31Has.l0] at H
   by_cases c3 : x5_1 < (l0.length : Int)
   ·rw [if_pos c3] at H
    have c3b0 := decide_eq_true c3
    clear c3
    by_cases c4 : 0 ≤ x5_1
    ·rw [if_pos c4] at H
     have c4b0 := decide_eq_true c4
     clear c4
     by_cases c5 : (rd l0 x5_1) = a1
     ·rw [if_pos c5] at H
      have c5b0 : ((rd l0 x5_1) == a1) = true := beq_iff_eq.mpr c5
      have c5b1 : ((rd l0 x5_1) != a1) = false := bne_eq_false_iff_eq.mpr c5
      clear c5
      obtain rfl := Option.some.inj H
      have p336 : 0 ≤ (x5_1 : Int) := qD
      have q336 : x5_1 < (l0.length : Int) := qD
      obtain ⟨ad336, e336, hx336_0⟩ := Kd.at_int HR0.out x5_1 p336 q336
      cases e336
      replace p336 := eq_true p336
      replace q336 := eq_true q336
      go_wp2
      go_ret
      exact ⟨by first | rfl | (simp; done) | (simp [*]; done), by repeat (first | exact Drawn0.refl _ | apply Drawn0.step)⟩
     ·rw [if_neg c5] at H
      have c5b0 : ((rd l0 x5_1) == a1) = false := beq_eq_false_iff_ne.mpr c5
      have c5b1 : ((rd l0 x5_1) != a1) = true := bne_iff_ne.mpr c5
      have H' := Aside0.mk H
      clear H
      have p336 : 0 ≤ (x5_1 : Int) := qD
      have q336 : x5_1 < (l0.length : Int) := qD
      obtain ⟨ad336, e336, hx336_0⟩ := Kd.at_int HR0.out x5_1 p336 q336
      cases e336
      replace p336 := eq_true p336
      replace q336 := eq_true q336
      go_wp2
      go_roundg k1
      case measure => have := HK1.out; omega
      case rel => exact ⟨(wrap64 (x5_1 + 1)), qZ, H', ⟨by have := HK1.out; omega⟩, by repeat (first | exact Drawn0.refl _ | apply Drawn0.step)⟩
    ·rw [if_neg c4] at H
     exact absurd H (by simp)
   ·rw [if_neg c3] at H
    have c3b0 := decide_eq_false c3
    clear c3
    obtain rfl := Option.some.inj H
    go_wp2
    go_ret
    exact ⟨by first | rfl | (simp; done) | (simp [*]; done), by repeat (first | exact Drawn0.refl _ | apply Drawn0.step)⟩
def spec_l41Occurs.f (k : Nat) (a0_0 : Int) (a0_1 : Int) (a0_2 : Int) (a0_3 : Int) (a0_4 : Int) (a1 : Int) : Option (Bool) := (spec_QuadSets.f a0_0 a0_1 a0_2 a0_3 a0_4).bind fun t338 => (if t338 = a1 then (some true) else ((spec_QuadUses.f k a0_0 a0_1 a0_2 a0_3 a0_4).bind fun t339 => ((spec_l31Has.f k t339 a1).bind fun t342 => (some t342))))
theorem spec_l41Occurs.mono : ∀ a0 a1 a2 a3 a4 a5 k, LeO (spec_l41Occurs.f k a0 a1 a2 a3 a4 a5) (spec_l41Occurs.f (k + 1) a0 a1 a2 a3 a4 a5) := by
 intro a0 a1 a2 a3 a4 a5 k
 unfold spec_l41Occurs.f
 repeat' first
   | (with_reducible exact spec_QuadUses.mono _ _ _ _ _ _)
   | (with_reducible exact spec_l31Has.mono _ _ _)
   | (with_reducible exact LeO.refl _)
   | (with_reducible exact LeO.none _)
   | (with_reducible refine LeO.ite ?_ ?_)
   | (with_reducible refine LeO.bind ?_ (fun _ => ?_))
   | exact spec_QuadUses.mono _ _ _ _ _ _
   | exact spec_l31Has.mono _ _ _
   | exact LeO.none _
   | refine LeO.ite ?_ ?_
   | refine LeO.bind ?_ (fun _ => ?_)
set_option maxHeartbeats 8000000 in
set_option maxRecDepth 100000 in
theorem spec_l41Occurs.calls (k : Nat) (a0_0 : Int) (a0_1 : Int) (a0_2 : Int) (a0_3 : Int) (a0_4 : Int) (a1 : Int) (r : Bool) (w : World) (h : spec_l41Occurs.f k a0_0 a0_1 a0_2 a0_3 a0_4 a1 = some r) :
  Calls Try.prog 39 #[.agg #[.int .i64 a0_0, .int .i64 a0_1, .int .i64 a0_2, .int .i64 a0_3, .int .i64 a0_4], .int .i64 a1] w fun e w' => e = .returned (.bool r) ∧ Below w.heap.size w w' := by
 have hu46 := Try.underlying46
 have HB := Aside0.mk (Below.refl w.heap.size w)
 have H : ((spec_QuadSets.f a0_0 a0_1 a0_2 a0_3 a0_4).bind fun t338 => (if t338 = a1 then (some true) else ((spec_QuadUses.f k a0_0 a0_1 a0_2 a0_3 a0_4).bind fun t339 => ((spec_l31Has.f k t339 a1).bind fun t342 => (some t342))))) = some r := h
 clear h
 obtain ⟨t338, A3, H⟩ := qE H
 try dsimp only at H
 by_cases c4 : t338 = a1
 ·rw [if_pos c4] at H
  have c4b0 : (t338 == a1) = true := beq_iff_eq.mpr c4
  have c4b1 : (t338 != a1) = false := bne_eq_false_iff_eq.mpr c4
  clear c4
  obtain rfl := Option.some.inj H
  go_enter Try.func39, Try.ntmps39
  go_wp2_with (first | ((with_reducible refine gate_dst (N := 2) rfl ?_); refine box_event ?hg (N := 2) ?hd (cs := #[.int .i64 a0_0, .int .i64 a0_1, .int .i64 a0_2, .int .i64 a0_3, .int .i64 a0_4]) (t := 46) ?hr ?_; (case hd => rfl); (case hg => rfl); (case hr => first | (go_simp; done) | (go_simp; rfl)); intro gb337 hg w5 hbox hb; have n0_ := Aside0.mk (below_step qB hb); have n1_ := Aside0.mk (hbox); have n2_ := Aside0.mk ((by rw [hg]; exact (below_size qB) : w.heap.size ≤ gb337)); have n3_ := Aside0.mk ((by rw [hg]; exact (below_size qB) : w.heap.size ≤ gb337)); clear HB; have HB := n0_; have BK337 := n1_; have GW337 := n2_; have GE337 := n3_; clear n0_ n1_ n2_ n3_; clear hb hbox hg; have hcz6_0 : w5.cell? ⟨gb337, 0, none⟩ = some (.int .i64 a0_0) := (blk_cell BK337.out 0).trans rfl; have hcz6_1 : w5.cell? ⟨gb337, 1, none⟩ = some (.int .i64 a0_1) := (blk_cell BK337.out 1).trans rfl; have hcz6_2 : w5.cell? ⟨gb337, 2, none⟩ = some (.int .i64 a0_2) := (blk_cell BK337.out 2).trans rfl; have hcz6_3 : w5.cell? ⟨gb337, 3, none⟩ = some (.int .i64 a0_3) := (blk_cell BK337.out 3).trans rfl; have hcz6_4 : w5.cell? ⟨gb337, 4, none⟩ = some (.int .i64 a0_4) := (blk_cell BK337.out 4).trans rfl; have hfz6_0 := blk_frozen BK337.out 0; have hfz6_1 := blk_frozen BK337.out 1; have hfz6_2 := blk_frozen BK337.out 2; have hfz6_3 := blk_frozen BK337.out 3; have hfz6_4 := blk_frozen BK337.out 4) | ((with_reducible refine gate_callee (f := 61) rfl ?_); refine goesL_ (some 6) rfl rfl Try.func61 (by kernel_rfl) rfl #[.agg #[.int .i64 a0_0, .int .i64 a0_1, .int .i64 a0_2, .int .i64 a0_3, .int .i64 a0_4]] rfl qM ?_; (with_reducible refine (spec_QuadSets.calls a0_0 a0_1 a0_2 a0_3 a0_4 t338 _ A3.out).mono ?_); rintro e w7 ⟨rfl, hb⟩; refine ⟨_, rfl, ?_⟩; have n0_ := Aside0.mk (blk_below (g := gb337) (o := .cells #[.int .i64 a0_0, .int .i64 a0_1, .int .i64 a0_2, .int .i64 a0_3, .int .i64 a0_4] 46 (0, 0)) (qK BK337) hb); have n1_ := Aside0.mk (below_step qB hb); clear BK337; clear HB; have BK337 := n0_; have HB := n1_; clear n0_ n1_; (try clear hb); (try clear hb2); (try clear hk); (try clear hi)))
  go_ret
  exact ⟨by first | rfl | (simp [errW_none, errW_some] <;> rfl) | (simp [*, errW_none, errW_some] <;> rfl), qB⟩
 ·rw [if_neg c4] at H
  have c4b0 : (t338 == a1) = false := beq_eq_false_iff_ne.mpr c4
  have c4b1 : (t338 != a1) = true := bne_iff_ne.mpr c4
  obtain ⟨t339, A8, H⟩ := qE H
  try dsimp only at H
  obtain ⟨t342, A9, H⟩ := qE H
  try dsimp only at H
  obtain rfl := Option.some.inj H
  go_enter Try.func39, Try.ntmps39
  go_wp2_with (first | ((with_reducible refine gate_dst (N := 2) rfl ?_); refine box_event ?hg (N := 2) ?hd (cs := #[.int .i64 a0_0, .int .i64 a0_1, .int .i64 a0_2, .int .i64 a0_3, .int .i64 a0_4]) (t := 46) ?hr ?_; (case hd => rfl); (case hg => rfl); (case hr => first | (go_simp; done) | (go_simp; rfl)); intro gb337 hg w10 hbox hb; have n0_ := Aside0.mk (below_step qB hb); have n1_ := Aside0.mk (hbox); have n2_ := Aside0.mk ((by rw [hg]; exact (below_size qB) : w.heap.size ≤ gb337)); have n3_ := Aside0.mk ((by rw [hg]; exact (below_size qB) : w.heap.size ≤ gb337)); clear HB; have HB := n0_; have BK337 := n1_; have GW337 := n2_; have GE337 := n3_; clear n0_ n1_ n2_ n3_; clear hb hbox hg; have hcz11_0 : w10.cell? ⟨gb337, 0, none⟩ = some (.int .i64 a0_0) := (blk_cell BK337.out 0).trans rfl; have hcz11_1 : w10.cell? ⟨gb337, 1, none⟩ = some (.int .i64 a0_1) := (blk_cell BK337.out 1).trans rfl; have hcz11_2 : w10.cell? ⟨gb337, 2, none⟩ = some (.int .i64 a0_2) := (blk_cell BK337.out 2).trans rfl; have hcz11_3 : w10.cell? ⟨gb337, 3, none⟩ = some (.int .i64 a0_3) := (blk_cell BK337.out 3).trans rfl; have hcz11_4 : w10.cell? ⟨gb337, 4, none⟩ = some (.int .i64 a0_4) := (blk_cell BK337.out 4).trans rfl; have hfz11_0 := blk_frozen BK337.out 0; have hfz11_1 := blk_frozen BK337.out 1; have hfz11_2 := blk_frozen BK337.out 2; have hfz11_3 := blk_frozen BK337.out 3; have hfz11_4 := blk_frozen BK337.out 4) | ((with_reducible refine gate_callee (f := 61) rfl ?_); refine goesL_ (some 6) rfl rfl Try.func61 (by kernel_rfl) rfl #[.agg #[.int .i64 a0_0, .int .i64 a0_1, .int .i64 a0_2, .int .i64 a0_3, .int .i64 a0_4]] rfl qM ?_; (with_reducible refine (spec_QuadSets.calls a0_0 a0_1 a0_2 a0_3 a0_4 t338 _ A3.out).mono ?_); rintro e w12 ⟨rfl, hb⟩; refine ⟨_, rfl, ?_⟩; have n0_ := Aside0.mk (blk_below (g := gb337) (o := .cells #[.int .i64 a0_0, .int .i64 a0_1, .int .i64 a0_2, .int .i64 a0_3, .int .i64 a0_4] 46 (0, 0)) (qK BK337) hb); have n1_ := Aside0.mk (below_step qB hb); clear BK337; clear HB; have BK337 := n0_; have HB := n1_; clear n0_ n1_; (try clear hb); (try clear hb2); (try clear hk); (try clear hi); have hcz13_0 : w12.cell? ⟨gb337, 0, none⟩ = some (.int .i64 a0_0) := (blk_cell BK337.out 0).trans rfl; have hcz13_1 : w12.cell? ⟨gb337, 1, none⟩ = some (.int .i64 a0_1) := (blk_cell BK337.out 1).trans rfl; have hcz13_2 : w12.cell? ⟨gb337, 2, none⟩ = some (.int .i64 a0_2) := (blk_cell BK337.out 2).trans rfl; have hcz13_3 : w12.cell? ⟨gb337, 3, none⟩ = some (.int .i64 a0_3) := (blk_cell BK337.out 3).trans rfl; have hcz13_4 : w12.cell? ⟨gb337, 4, none⟩ = some (.int .i64 a0_4) := (blk_cell BK337.out 4).trans rfl; have hfz13_0 := blk_frozen BK337.out 0; have hfz13_1 := blk_frozen BK337.out 1; have hfz13_2 := blk_frozen BK337.out 2; have hfz13_3 := blk_frozen BK337.out 3; have hfz13_4 := blk_frozen BK337.out 4) | (go_at_call 62; (with_reducible refine (spec_QuadUses.calls k a0_0 a0_1 a0_2 a0_3 a0_4 t339 _ A8.out).mono ?_); rintro e w14 ⟨v340, rfl, ho0, hb⟩; have n0_ := Aside0.mk (Kd.R_lower ho0 (below_size qB)); have n1_ := Aside0.mk (blk_below (g := gb337) (o := .cells #[.int .i64 a0_0, .int .i64 a0_1, .int .i64 a0_2, .int .i64 a0_3, .int .i64 a0_4] 46 (0, 0)) (qK BK337) hb); have n2_ := Aside0.mk (below_step qB hb); clear BK337; clear HB; have HO341 := n0_; have BK337 := n1_; have HB := n2_; clear n0_ n1_ n2_; (try clear hb); (try clear hb2); (try clear hk); (try clear hi); (try clear ho0); obtain ⟨Ao15, co15, eo15⟩ := Kd.R_slice HO341.out; subst eo15) | (go_at_call 40; (with_reducible refine (spec_l31Has.calls k _ _ t339 a1 t342 _ ?side1 ?side2 A9.out).mono ?_); (case side1 => repeat (first | exact (Kd.R_reads' HO341.out).2.2 | (with_reducible refine Kd.C_alloc ?_ _) | (with_reducible refine Kd.C_drewN ?_ _) | (with_reducible refine Kd.C_drew ?_))); (case side2 => exact (Kd.R_reads' HO341.out).2.1); rintro e w' ⟨rfl, ⟨nd, rfl⟩⟩))
  go_ret
  exact ⟨by first | rfl | (simp [errW_none, errW_some] <;> rfl) | (simp [*, errW_none, errW_some] <;> rfl), qB⟩
mutual
def spec_PlacesMany.l0 : Nat → List (S46) → List Int → List Int → Int → Option (Int)
 | 0, _, _, _, _ => none
 | k + 1, x0, x3, x4, x5 => if x5 < (x0.length : Int) then (spec_PlacesMany.l1 k x0 x3 x4 x5 0) else (some (x4.length : Int))
def spec_PlacesMany.l1 : Nat → List (S46) → List Int → List Int → Int → Int → Option (Int)
 | 0, _, _, _, _, _ => none
 | k + 1, x0, x3, x4, x5, x6 => if x6 < 12 then (if 0 ≤ x5 then (if x5 < (x0.length : Int) then ((spec_l41Occurs.f k ((rd_T46 x0 x5).f0) ((rd_T46 x0 x5).f1) ((rd_T46 x0 x5).f2) ((rd_T46 x0 x5).f3) ((rd_T46 x0 x5).f4) x6).bind fun t351 => (if t351 = true then (if 0 ≤ x6 then (if x6 < (x3.length : Int) then ((spec_l31Has.f k x4 (rd x3 x6)).bind fun t353 => (if t353 = true then (spec_PlacesMany.l1 k x0 x3 x4 x5 (wrap64 (x6 + 1))) else (if x4.length < 17592186044416 then (spec_PlacesMany.l1 k x0 x3 (x4 ++ [rd x3 x6]) x5 (wrap64 (x6 + 1))) else (none)))) else (none)) else (none)) else (spec_PlacesMany.l1 k x0 x3 x4 x5 (wrap64 (x6 + 1))))) else (none)) else (none)) else (spec_PlacesMany.l0 k x0 x3 x4 (wrap64 (x5 + 1)))
end
def spec_PlacesMany.f (k : Nat) (l0 : List (S46)) : Option (Int) := (spec_CodeValid.f k l0).bind fun t343 => (if t343 = true then ((spec_PlacesOf.f k l0).bind fun t344 => (spec_PlacesMany.l0 k l0 t344 (([] : List Int)) 0)) else (some (-1)))
theorem spec_PlacesMany.mono_l : ∀ k, (∀ y0 y1 y2 y3, LeO (spec_PlacesMany.l0 k y0 y1 y2 y3) (spec_PlacesMany.l0 (k + 1) y0 y1 y2 y3)) ∧ (∀ y0 y1 y2 y3 y4, LeO (spec_PlacesMany.l1 k y0 y1 y2 y3 y4) (spec_PlacesMany.l1 (k + 1) y0 y1 y2 y3 y4))
 | 0 => ⟨fun _ _ _ _ r h => by simp [spec_PlacesMany.l0] at h, fun _ _ _ _ _ r h => by simp [spec_PlacesMany.l1] at h⟩
 | k + 1 => by
  obtain ⟨ih0, ih1⟩ := spec_PlacesMany.mono_l k
  refine ⟨?_, ?_⟩
  ·intro y0 y1 y2 y3
   unfold spec_PlacesMany.l0
   repeat' first
   | (with_reducible exact ih0 _ _ _ _)
   | (with_reducible exact ih1 _ _ _ _ _)
   | (with_reducible exact spec_CodeValid.mono _ _)
   | (with_reducible exact spec_PlacesOf.mono _ _)
   | (with_reducible exact spec_l31Has.mono _ _ _)
   | (with_reducible exact spec_l41Occurs.mono _ _ _ _ _ _ _)
   | (with_reducible exact LeO.refl _)
   | (with_reducible exact LeO.none _)
   | (with_reducible refine LeO.ite ?_ ?_)
   | (with_reducible refine LeO.bind ?_ (fun _ => ?_))
   | exact ih0 _ _ _ _
   | exact ih1 _ _ _ _ _
   | exact spec_CodeValid.mono _ _
   | exact spec_PlacesOf.mono _ _
   | exact spec_l31Has.mono _ _ _
   | exact spec_l41Occurs.mono _ _ _ _ _ _ _
   | exact LeO.none _
   | refine LeO.ite ?_ ?_
   | refine LeO.bind ?_ (fun _ => ?_)
  ·intro y0 y1 y2 y3 y4
   unfold spec_PlacesMany.l1
   repeat' first
   | (with_reducible exact ih0 _ _ _ _)
   | (with_reducible exact ih1 _ _ _ _ _)
   | (with_reducible exact spec_CodeValid.mono _ _)
   | (with_reducible exact spec_PlacesOf.mono _ _)
   | (with_reducible exact spec_l31Has.mono _ _ _)
   | (with_reducible exact spec_l41Occurs.mono _ _ _ _ _ _ _)
   | (with_reducible exact LeO.refl _)
   | (with_reducible exact LeO.none _)
   | (with_reducible refine LeO.ite ?_ ?_)
   | (with_reducible refine LeO.bind ?_ (fun _ => ?_))
   | exact ih0 _ _ _ _
   | exact ih1 _ _ _ _ _
   | exact spec_CodeValid.mono _ _
   | exact spec_PlacesOf.mono _ _
   | exact spec_l31Has.mono _ _ _
   | exact spec_l41Occurs.mono _ _ _ _ _ _ _
   | exact LeO.none _
   | refine LeO.ite ?_ ?_
   | refine LeO.bind ?_ (fun _ => ?_)
theorem spec_PlacesMany.mono : ∀ a0 k, LeO (spec_PlacesMany.f k a0) (spec_PlacesMany.f (k + 1) a0) := by
 intro a0 k
 obtain ⟨ih0, ih1⟩ := spec_PlacesMany.mono_l k
 unfold spec_PlacesMany.f
 repeat' first
   | (with_reducible exact ih0 _ _ _ _)
   | (with_reducible exact ih1 _ _ _ _ _)
   | (with_reducible exact spec_CodeValid.mono _ _)
   | (with_reducible exact spec_PlacesOf.mono _ _)
   | (with_reducible exact spec_l31Has.mono _ _ _)
   | (with_reducible exact spec_l41Occurs.mono _ _ _ _ _ _ _)
   | (with_reducible exact LeO.refl _)
   | (with_reducible exact LeO.none _)
   | (with_reducible refine LeO.ite ?_ ?_)
   | (with_reducible refine LeO.bind ?_ (fun _ => ?_))
   | exact ih0 _ _ _ _
   | exact ih1 _ _ _ _ _
   | exact spec_CodeValid.mono _ _
   | exact spec_PlacesOf.mono _ _
   | exact spec_l31Has.mono _ _ _
   | exact spec_l41Occurs.mono _ _ _ _ _ _ _
   | exact LeO.none _
   | refine LeO.ite ?_ ?_
   | refine LeO.bind ?_ (fun _ => ?_)
set_option maxHeartbeats 8000000 in
set_option maxRecDepth 100000 in
theorem spec_PlacesMany.calls (k : Nat) (A0 : Option Addr) (c0 : Nat) (l0 : List (S46)) (r : Int) (w : World) (hr0 : Kd.C k46 w A0 l0.length l0) (hc0 : l0.length ≤ c0) (h : spec_PlacesMany.f k l0 = some r) :
  Calls Try.prog 14 #[.slice A0 l0.length c0] w fun e w' => e = .returned (.int .i64 r) ∧ Below w.heap.size w w' := by
 have hu46 := Try.underlying46
 have HR0 := Aside0.mk hr0
 have HC0 := Aside0.mk hc0
 clear hr0 hc0
 have HB := Aside0.mk (Below.refl w.heap.size w)
 have H : ((spec_CodeValid.f k l0).bind fun t343 => (if t343 = true then ((spec_PlacesOf.f k l0).bind fun t344 => (spec_PlacesMany.l0 k l0 t344 (([] : List Int)) 0)) else (some (-1)))) = some r := h
 clear h
 obtain ⟨t343, A2, H⟩ := qE H
 try dsimp only at H
 by_cases c3 : t343 = true
 ·subst c3
  rw [if_pos rfl] at H
  obtain ⟨t344, A4, H⟩ := qE H
  try dsimp only at H
  obtain ⟨y347, hy347⟩ : ∃ y_ : List Int, y_ = (([] : List Int)) := ⟨_, rfl⟩
  replace H : (spec_PlacesMany.l0 k l0 t344 y347 0) = some r := by first | (rw [hy347]; with_reducible exact H) | (have H2_ := (Option.bind_some _ _).symm.trans H; rw [hy347]; with_reducible exact H2_) | (have H2_ := (Option.bind_some _ _).symm.trans H; with_reducible exact H2_) | with_reducible exact H | (rw [hy347]; exact H) | exact H
  have Ny347 := Aside0.mk hy347
  clear hy347
  have H' := Aside0.mk H
  clear H
  go_enter Try.func14, Try.ntmps14
  go_wp2_with (first | ((with_reducible refine gate_callee (f := 29) rfl ?_); refine goesL_ (some 8) rfl rfl Try.func29 (by kernel_rfl) rfl #[.slice A0 l0.length c0] rfl qM ?_; (with_reducible refine (spec_CodeValid.calls k _ _ l0 true _ ?side1 ?side2 A2.out).mono ?_); (case side1 => repeat (first | exact HR0.out | (with_reducible refine Kd.C_alloc ?_ _) | (with_reducible refine Kd.C_drewN ?_ _) | (with_reducible refine Kd.C_drew ?_))); (case side2 => exact HC0.out); rintro e w5 ⟨rfl, hb⟩; refine ⟨_, rfl, ?_⟩; have n0_ := Aside0.mk (below_step qB hb); clear HB; have HB := n0_; clear n0_; (try clear hb); (try clear hb2); (try clear hk); (try clear hi)) | ((with_reducible refine gate_callee (f := 16) rfl ?_); refine goesL_ (some 11) rfl rfl Try.func16 (by kernel_rfl) rfl #[.slice A0 l0.length c0] rfl qM ?_; (with_reducible refine (spec_PlacesOf.calls k _ _ l0 t344 _ ?side1 ?side2 A4.out).mono ?_); (case side1 => repeat (first | exact (Kd.C_below HR0.out HB.out) | (with_reducible refine Kd.C_alloc ?_ _) | (with_reducible refine Kd.C_drewN ?_ _) | (with_reducible refine Kd.C_drew ?_))); (case side2 => exact HC0.out); rintro e w6 ⟨v345, rfl, ho0, hb⟩; refine ⟨_, rfl, ?_⟩; have n0_ := Aside0.mk (Kd.R_lower ho0 (below_size qB)); have n1_ := Aside0.mk (below_step qB hb); clear HB; have HO346 := n0_; have HB := n1_; clear n0_ n1_; (try clear hb); (try clear hb2); (try clear hk); (try clear hi); (try clear ho0)) | ((with_reducible refine gate_dst (N := 12) rfl ?_); refine Kd.R_lit (Kd.int .i64) _ 3 ?hg (N := 12) ?hd (xs := ([] : List Int)) (inner := []) (ok := fun _ => True) (okp := fun _ => True) ?hr ?hp (fun _ hk => hk) trivial (Below.refl _ _) (Nat.le_refl _) (by simp) ?_; (case hd => rfl); (case hg => rfl); (case hr => first | (go_simp; done) | (go_simp; rfl)); (case hp => exact (Reps.none _ _)); intro v348 w7 ho8 hb hg_ hnew_; clear hg_ hnew_; (first | rw [← Ny347.out] at ho8 | (simp only [Int.reduceToNat] at ho8; rw [← Ny347.out] at ho8)); have n0_ := Aside0.mk (Kd.R_elder' (qR HO346) (by first | exact Kd.R_base ho8 | exact Kd.R_base ho8) hb); have n1_ := Aside0.mk (Kd.R_lower (Kd.R_new' ho8 (Kd.R_lt (qR HO346))) (below_size qB)); have n2_ := Aside0.mk (below_step qB hb); clear HO346; clear HB; have HO346 := n0_; have HO349 := n1_; have HB := n2_; clear n0_ n1_ n2_; clear hb ho8))
  go_loopg [4, 5] k (fun kq v4 v5 w' => ∃ (x4_1 : List Int) (x5_1 : Int), v5 = .int .i64 x5_1 ∧ Aside0 (spec_PlacesMany.l0 kq l0 t344 x4_1 x5_1 = some r) ∧ Aside0 (kq ≤ k) ∧ Aside0 (Kd.R (Kd.int .i64) 3 w' w.heap.size (fun k_ => some k_ ≠ (v4 : Value).ownBlock) v345 t344) ∧ Aside0 (Kd.R (Kd.int .i64) 3 w' w.heap.size (fun k_ => some k_ ≠ (v345 : Value).ownBlock) v4 x4_1) ∧ Aside0 (Below w.heap.size w w'))
  case atStart => exact ⟨(y347), (0), qZ, H', ⟨Nat.le_refl _⟩, ⟨by (with_reducible repeat (first | apply Kd.R_alloc | apply Kd.R_drewN | apply Kd.R_drew)); exact Kd.R_mono HO346.out (fun _ hk => hk.2)⟩, ⟨by (with_reducible repeat (first | apply Kd.R_alloc | apply Kd.R_drewN | apply Kd.R_drew)); exact Kd.R_mono HO349.out (fun _ hk => hk.2)⟩, ⟨qB⟩⟩
  case round =>
   clear H'
   try clear c1; try clear c2; try clear p2; try clear c3
   obtain ⟨x4_1, x5_1, rfl, HA, HK1, HO_3, HO_4, HB⟩ := hrel
   cases gk with
   | zero => exact absurd HA.out (by simp [spec_PlacesMany.l0])
   | succ k1 =>
    have H := HA.out
    clear HA
    simp only [spec_PlacesMany.l0] at H
    by_cases c9 : x5_1 < (l0.length : Int)
    ·rw [if_pos c9] at H
     have c9b0 := decide_eq_true c9
     clear c9
     have H' := Aside0.mk H
     clear H
     go_wp2
     go_loopg [4, 6] k1 (fun kq v4 v6 w' => ∃ (x4_2 : List Int) (x6_2 : Int), v6 = .int .i64 x6_2 ∧ Aside0 (spec_PlacesMany.l1 kq l0 t344 x4_2 x5_1 x6_2 = some r) ∧ Aside0 (kq ≤ k1) ∧ Aside0 (Kd.R (Kd.int .i64) 3 w' w.heap.size (fun k_ => some k_ ≠ (v4 : Value).ownBlock) v345 t344) ∧ Aside0 (Kd.R (Kd.int .i64) 3 w' w.heap.size (fun k_ => some k_ ≠ (v345 : Value).ownBlock) v4 x4_2) ∧ Aside0 (Below w.heap.size w w'))
     case atStart => exact ⟨(x4_1), (0), qZ, H', ⟨Nat.le_refl _⟩, ⟨qR HO_3⟩, ⟨qR HO_4⟩, ⟨qB⟩⟩
     case round =>
      clear H'
      try clear c1; try clear c2; try clear p2; try clear c3; try clear c9; try clear c9b0; try clear p2
      obtain ⟨x4_2, x6_2, rfl, HA, HK2, HO_3, HO_4, HB⟩ := hrel
      cases gk with
      | zero => exact absurd HA.out (by simp [spec_PlacesMany.l1])
      | succ k2 =>
       have H := HA.out
       clear HA
       simp only [spec_PlacesMany.l1] at H
       by_cases c10 : x6_2 < 12
       ·rw [if_pos c10] at H
        have c10b0 := decide_eq_true c10
        clear c10
        by_cases c11 : 0 ≤ x5_1
        ·rw [if_pos c11] at H
         have c11b0 := decide_eq_true c11
         clear c11
         by_cases c12 : x5_1 < (l0.length : Int)
         ·rw [if_pos c12] at H
          have c12b0 := decide_eq_true c12
          clear c12
          obtain ⟨t351, A13, H⟩ := qE H
          try dsimp only at H
          by_cases c14 : t351 = true
          ·subst c14
           rw [if_pos rfl] at H
           by_cases c15 : 0 ≤ x6_2
           ·rw [if_pos c15] at H
            have c15b0 := decide_eq_true c15
            clear c15
            by_cases c16 : x6_2 < (t344.length : Int)
            ·rw [if_pos c16] at H
             have c16b0 := decide_eq_true c16
             clear c16
             obtain ⟨t353, A17, H⟩ := qE H
             try dsimp only at H
             by_cases c18 : t353 = true
             ·subst c18
              rw [if_pos rfl] at H
              have H' := Aside0.mk H
              clear H
              have p350 : 0 ≤ (x5_1 : Int) := qD
              have q350 : x5_1 < (l0.length : Int) := qD
              obtain ⟨ad350, e350, hx350_0, hx350_1, hx350_2, hx350_3, hx350_4⟩ := at_T46 HR0.out x5_1 p350 q350
              cases e350
              replace hx350_0 := (HB.out.cell (World.block_lt_of_cell? w _ hx350_0)).trans hx350_0
              replace hx350_1 := (HB.out.cell (World.block_lt_of_cell? w _ hx350_1)).trans hx350_1
              replace hx350_2 := (HB.out.cell (World.block_lt_of_cell? w _ hx350_2)).trans hx350_2
              replace hx350_3 := (HB.out.cell (World.block_lt_of_cell? w _ hx350_3)).trans hx350_3
              replace hx350_4 := (HB.out.cell (World.block_lt_of_cell? w _ hx350_4)).trans hx350_4
              replace p350 := eq_true p350
              replace q350 := eq_true q350
              go_wp2_with (first | ((with_reducible refine gate_callee (f := 39) rfl ?_); refine goesL_ (some 28) rfl rfl Try.func39 (by kernel_rfl) rfl #[.agg #[.int .i64 ((rd_T46 l0 x5_1).f0), .int .i64 ((rd_T46 l0 x5_1).f1), .int .i64 ((rd_T46 l0 x5_1).f2), .int .i64 ((rd_T46 l0 x5_1).f3), .int .i64 ((rd_T46 l0 x5_1).f4)], .int .i64 x6_2] rfl qM ?_; (with_reducible refine (spec_l41Occurs.calls k2 ((rd_T46 l0 x5_1).f0) ((rd_T46 l0 x5_1).f1) ((rd_T46 l0 x5_1).f2) ((rd_T46 l0 x5_1).f3) ((rd_T46 l0 x5_1).f4) x6_2 true _ A13.out).mono ?_); rintro e w19 ⟨rfl, hb⟩; refine ⟨_, rfl, ?_⟩; have n0_ := Aside0.mk (Kd.R_below (qR HO_3) hb); have n1_ := Aside0.mk (Kd.R_below (qR HO_4) hb); have n2_ := Aside0.mk (below_step qB hb); clear HO_3; clear HO_4; clear HB; have HO_3 := n0_; have HO_4 := n1_; have HB := n2_; clear n0_ n1_ n2_; (try clear hb); (try clear hb2); (try clear hk); (try clear hi); obtain ⟨Ao20, co20, eo20⟩ := Kd.R_slice HO_3.out; subst eo20; have p352 : 0 ≤ (x6_2 : Int) := qD; have q352 : x6_2 < (t344.length : Int) := qD; obtain ⟨ad352, e352, hx352_0⟩ := Kd.at_int (Kd.R_reads' HO_3.out).2.2 x6_2 p352 q352; cases e352; replace p352 := eq_true p352; replace q352 := eq_true q352; obtain ⟨Ao21, co21, eo21⟩ := Kd.R_slice HO_4.out; subst eo21) | (go_at_call 40; (with_reducible refine (spec_l31Has.calls k2 _ _ x4_2 (rd t344 x6_2) true _ ?side1 ?side2 A17.out).mono ?_); (case side1 => repeat (first | exact (Kd.R_reads' HO_4.out).2.2 | (with_reducible refine Kd.C_alloc ?_ _) | (with_reducible refine Kd.C_drewN ?_ _) | (with_reducible refine Kd.C_drew ?_))); (case side2 => exact (Kd.R_reads' HO_4.out).2.1); rintro e w' ⟨rfl, ⟨nd, rfl⟩⟩))
              go_roundg k2
              case measure => have := HK1.out; have := HK2.out; omega
              case rel => exact ⟨(x4_2), (wrap64 (x6_2 + 1)), qZ, H', ⟨by have := HK1.out; have := HK2.out; omega⟩, ⟨qR HO_3⟩, ⟨qR HO_4⟩, ⟨qB⟩⟩
             ·replace c18 := Bool.eq_false_iff.mpr c18
              subst c18
              rw [if_neg (show ¬ (false = true) by decide)] at H
              by_cases c22 : x4_2.length < 17592186044416
              ·rw [if_pos c22] at H
               have LMc22 := Aside0.mk c22
               clear c22
               obtain ⟨y355, hy355⟩ : ∃ y_ : List Int, y_ = (x4_2 ++ [rd t344 x6_2]) := ⟨_, rfl⟩
               replace H : (spec_PlacesMany.l1 k2 l0 t344 y355 x5_1 (wrap64 (x6_2 + 1))) = some r := by first | (rw [hy355]; with_reducible exact H) | (have H2_ := (Option.bind_some _ _).symm.trans H; rw [hy355]; with_reducible exact H2_) | (have H2_ := (Option.bind_some _ _).symm.trans H; with_reducible exact H2_) | with_reducible exact H | (rw [hy355]; exact H) | exact H
               have Ny355 := Aside0.mk hy355
               clear hy355
               have H' := Aside0.mk H
               clear H
               have p350 : 0 ≤ (x5_1 : Int) := qD
               have q350 : x5_1 < (l0.length : Int) := qD
               obtain ⟨ad350, e350, hx350_0, hx350_1, hx350_2, hx350_3, hx350_4⟩ := at_T46 HR0.out x5_1 p350 q350
               cases e350
               replace hx350_0 := (HB.out.cell (World.block_lt_of_cell? w _ hx350_0)).trans hx350_0
               replace hx350_1 := (HB.out.cell (World.block_lt_of_cell? w _ hx350_1)).trans hx350_1
               replace hx350_2 := (HB.out.cell (World.block_lt_of_cell? w _ hx350_2)).trans hx350_2
               replace hx350_3 := (HB.out.cell (World.block_lt_of_cell? w _ hx350_3)).trans hx350_3
               replace hx350_4 := (HB.out.cell (World.block_lt_of_cell? w _ hx350_4)).trans hx350_4
               replace p350 := eq_true p350
               replace q350 := eq_true q350
               go_wp2_with (first | ((with_reducible refine gate_callee (f := 39) rfl ?_); refine goesL_ (some 28) rfl rfl Try.func39 (by kernel_rfl) rfl #[.agg #[.int .i64 ((rd_T46 l0 x5_1).f0), .int .i64 ((rd_T46 l0 x5_1).f1), .int .i64 ((rd_T46 l0 x5_1).f2), .int .i64 ((rd_T46 l0 x5_1).f3), .int .i64 ((rd_T46 l0 x5_1).f4)], .int .i64 x6_2] rfl qM ?_; (with_reducible refine (spec_l41Occurs.calls k2 ((rd_T46 l0 x5_1).f0) ((rd_T46 l0 x5_1).f1) ((rd_T46 l0 x5_1).f2) ((rd_T46 l0 x5_1).f3) ((rd_T46 l0 x5_1).f4) x6_2 true _ A13.out).mono ?_); rintro e w23 ⟨rfl, hb⟩; refine ⟨_, rfl, ?_⟩; have n0_ := Aside0.mk (Kd.R_below (qR HO_3) hb); have n1_ := Aside0.mk (Kd.R_below (qR HO_4) hb); have n2_ := Aside0.mk (below_step qB hb); clear HO_3; clear HO_4; clear HB; have HO_3 := n0_; have HO_4 := n1_; have HB := n2_; clear n0_ n1_ n2_; (try clear hb); (try clear hb2); (try clear hk); (try clear hi); obtain ⟨Ao24, co24, eo24⟩ := Kd.R_slice HO_3.out; subst eo24; have p352 : 0 ≤ (x6_2 : Int) := qD; have q352 : x6_2 < (t344.length : Int) := qD; obtain ⟨ad352, e352, hx352_0⟩ := Kd.at_int (Kd.R_reads' HO_3.out).2.2 x6_2 p352 q352; cases e352; replace p352 := eq_true p352; replace q352 := eq_true q352; obtain ⟨Ao25, co25, eo25⟩ := Kd.R_slice HO_4.out; subst eo25) | (go_at_call 40; (with_reducible refine (spec_l31Has.calls k2 _ _ x4_2 (rd t344 x6_2) false _ ?side1 ?side2 A17.out).mono ?_); (case side1 => repeat (first | exact (Kd.R_reads' HO_4.out).2.2 | (with_reducible refine Kd.C_alloc ?_ _) | (with_reducible refine Kd.C_drewN ?_ _) | (with_reducible refine Kd.C_drew ?_))); (case side2 => exact (Kd.R_reads' HO_4.out).2.1); rintro e w' ⟨rfl, ⟨nd, rfl⟩⟩; have p354 : 0 ≤ (x6_2 : Int) := qD; have q354 : x6_2 < (t344.length : Int) := qD; obtain ⟨ad354, e354, hx354_0⟩ := Kd.at_int (Kd.R_reads' HO_3.out).2.2 x6_2 p354 q354; obtain rfl : ad352 = ad354 := (by injection e354); replace p354 := eq_true p354; replace q354 := eq_true q354) | ((with_reducible refine gate_builtin (b := .append) (xs := #[.tmp 38, .tmp 43]) rfl ?_); at_builtin; refine Kd.R_append (Kd.int .i64) (w0 := w) w.heap.size rfl (.tmp 38) (.tmp 43) 31 3 (.int .i64 0) 8 rfl Try.underlying31 info3 rfl (by decide) (by omega) (.slice Ao25 x4_2.length co25) x4_2 (rd t344 x6_2) [.int .i64 (rd t344 x6_2)] (fun k_ => some k_ ≠ (.slice (some ad352) t344.length co24 : Value).ownBlock) (fun _ => False) rfl rfl ?aP (fun _ hk => hk.elim) ?aF ?aO ?aB ?aS ?aL ?_; (case aP => exact rfl); (case aB => exact qB); (case aF => exact (fun k_ hk => Kd.fresh' (Kd.R_lt (qR HO_3)) k_ hk)); (case aO => exact (qR HO_4)); (case aS => exact (below_size qB)); (case aL => have := LMc22.out; omega); intro v356 w26 ho hb hg hat; rw [← Ny355.out] at ho; have n0_ := Aside0.mk (Kd.R_after (ok := (fun _ => True)) (by (with_reducible repeat (first | apply Kd.R_alloc | apply Kd.R_drewN | apply Kd.R_drew)); exact Kd.R_mono HO_3.out (fun _ hk => ⟨trivial, hk⟩)) hg hat); have n1_ := Aside0.mk (hb); have n2_ := Aside0.mk (ho); clear HO_3; clear HB; clear HO_4; have HO_3 := n0_; have HB := n1_; have HO357 := n2_; clear n0_ n1_ n2_; clear ho hb hg hat))
               go_roundg k2
               case measure => have := HK1.out; have := HK2.out; omega
               case rel => exact ⟨(y355), (wrap64 (x6_2 + 1)), qZ, H', ⟨by have := HK1.out; have := HK2.out; omega⟩, ⟨by (with_reducible repeat (first | apply Kd.R_alloc | apply Kd.R_drewN | apply Kd.R_drew)); exact Kd.R_mono HO_3.out (fun _ hk => hk.2)⟩, ⟨qR HO357⟩, ⟨qB⟩⟩
              ·rw [if_neg c22] at H
               exact absurd H (by simp)
            ·rw [if_neg c16] at H
             exact absurd H (by simp)
           ·rw [if_neg c15] at H
            exact absurd H (by simp)
          ·replace c14 := Bool.eq_false_iff.mpr c14
           subst c14
           rw [if_neg (show ¬ (false = true) by decide)] at H
           have H' := Aside0.mk H
           clear H
           have p350 : 0 ≤ (x5_1 : Int) := qD
           have q350 : x5_1 < (l0.length : Int) := qD
           obtain ⟨ad350, e350, hx350_0, hx350_1, hx350_2, hx350_3, hx350_4⟩ := at_T46 HR0.out x5_1 p350 q350
           cases e350
           replace hx350_0 := (HB.out.cell (World.block_lt_of_cell? w _ hx350_0)).trans hx350_0
           replace hx350_1 := (HB.out.cell (World.block_lt_of_cell? w _ hx350_1)).trans hx350_1
           replace hx350_2 := (HB.out.cell (World.block_lt_of_cell? w _ hx350_2)).trans hx350_2
           replace hx350_3 := (HB.out.cell (World.block_lt_of_cell? w _ hx350_3)).trans hx350_3
           replace hx350_4 := (HB.out.cell (World.block_lt_of_cell? w _ hx350_4)).trans hx350_4
           replace p350 := eq_true p350
           replace q350 := eq_true q350
           go_wp2_with (first | ((with_reducible refine gate_callee (f := 39) rfl ?_); refine goesL_ (some 28) rfl rfl Try.func39 (by kernel_rfl) rfl #[.agg #[.int .i64 ((rd_T46 l0 x5_1).f0), .int .i64 ((rd_T46 l0 x5_1).f1), .int .i64 ((rd_T46 l0 x5_1).f2), .int .i64 ((rd_T46 l0 x5_1).f3), .int .i64 ((rd_T46 l0 x5_1).f4)], .int .i64 x6_2] rfl qM ?_; (with_reducible refine (spec_l41Occurs.calls k2 ((rd_T46 l0 x5_1).f0) ((rd_T46 l0 x5_1).f1) ((rd_T46 l0 x5_1).f2) ((rd_T46 l0 x5_1).f3) ((rd_T46 l0 x5_1).f4) x6_2 false _ A13.out).mono ?_); rintro e w27 ⟨rfl, hb⟩; refine ⟨_, rfl, ?_⟩; have n0_ := Aside0.mk (Kd.R_below (qR HO_3) hb); have n1_ := Aside0.mk (Kd.R_below (qR HO_4) hb); have n2_ := Aside0.mk (below_step qB hb); clear HO_3; clear HO_4; clear HB; have HO_3 := n0_; have HO_4 := n1_; have HB := n2_; clear n0_ n1_ n2_; (try clear hb); (try clear hb2); (try clear hk); (try clear hi)))
           go_roundg k2
           case measure => have := HK1.out; have := HK2.out; omega
           case rel => exact ⟨(x4_2), (wrap64 (x6_2 + 1)), qZ, H', ⟨by have := HK1.out; have := HK2.out; omega⟩, ⟨qR HO_3⟩, ⟨qR HO_4⟩, ⟨qB⟩⟩
         ·rw [if_neg c12] at H
          exact absurd H (by simp)
        ·rw [if_neg c11] at H
         exact absurd H (by simp)
       ·rw [if_neg c10] at H
        have c10b0 := decide_eq_false c10
        clear c10
        have H' := Aside0.mk H
        clear H
        go_wp2
        go_roundg k2
        case measure => have := HK1.out; have := HK2.out; omega
        case rel => exact ⟨(x4_2), (wrap64 (x5_1 + 1)), qZ, H', ⟨by have := HK1.out; have := HK2.out; omega⟩, ⟨qR HO_3⟩, ⟨qR HO_4⟩, ⟨qB⟩⟩
    ·rw [if_neg c9] at H
     have c9b0 := decide_eq_false c9
     clear c9
     obtain rfl := Option.some.inj H
     obtain ⟨Ao28, co28, eo28⟩ := Kd.R_slice HO_4.out
     subst eo28
     go_wp2
     go_ret
     exact ⟨by first | rfl | (simp [errW_none, errW_some] <;> rfl) | (simp [*, errW_none, errW_some] <;> rfl), qB⟩
 ·replace c3 := Bool.eq_false_iff.mpr c3
  subst c3
  rw [if_neg (show ¬ (false = true) by decide)] at H
  obtain rfl := Option.some.inj H
  go_enter Try.func14, Try.ntmps14
  go_wp2_with (first | ((with_reducible refine gate_callee (f := 29) rfl ?_); refine goesL_ (some 8) rfl rfl Try.func29 (by kernel_rfl) rfl #[.slice A0 l0.length c0] rfl qM ?_; (with_reducible refine (spec_CodeValid.calls k _ _ l0 false _ ?side1 ?side2 A2.out).mono ?_); (case side1 => repeat (first | exact HR0.out | (with_reducible refine Kd.C_alloc ?_ _) | (with_reducible refine Kd.C_drewN ?_ _) | (with_reducible refine Kd.C_drew ?_))); (case side2 => exact HC0.out); rintro e w29 ⟨rfl, hb⟩; refine ⟨_, rfl, ?_⟩; have n0_ := Aside0.mk (below_step qB hb); clear HB; have HB := n0_; clear n0_; (try clear hb); (try clear hb2); (try clear hk); (try clear hi)))
  go_ret
  exact ⟨by first | rfl | (simp [errW_none, errW_some] <;> rfl) | (simp [*, errW_none, errW_some] <;> rfl), qB⟩
mutual
def impl_PlacesMany.l0 : Nat → List Int → Int → List (S46) → Int → Int → Option (Int)
 | 0, _, _, _, _, _ => none
 | k + 1, x3, x4, x16, x17, x18 => if x18 < x17 then (if 0 ≤ x18 then (if x18 < (x16.length : Int) then ((impl_usesOf.f k ((rd_T46 x16 x18).f0) ((rd_T46 x16 x18).f1) ((rd_T46 x16 x18).f2) ((rd_T46 x16 x18).f3) ((rd_T46 x16 x18).f4)).bind fun t367 => ((impl_setsOf.f ((rd_T46 x16 x18).f0) ((rd_T46 x16 x18).f1) ((rd_T46 x16 x18).f2) ((rd_T46 x16 x18).f3) ((rd_T46 x16 x18).f4)).bind fun t368 => (if t368 ≥ 0 then (if 0 ≤ t368 then (impl_PlacesMany.j1 k x3 x4 (Go.bits .or .u16 t367 (shl .u16 1 t368)) x16 x17 x18) else (none)) else (impl_PlacesMany.j1 k x3 x4 t367 x16 x17 x18)))) else (none)) else (none)) else ((impl_regSet_list.f k x4).bind fun t362 => (some (t362.length : Int)))
def impl_PlacesMany.j1 : Nat → List Int → Int → Int → List (S46) → Int → Int → Option (Int)
 | 0, _, _, _, _, _, _ => none
 | k + 1, x3, x4, x7, x16, x17, x18 => (impl_regSet_list.f k x7).bind fun t369 => (impl_PlacesMany.l1 k x3 x4 x16 x17 x18 t369 (t369.length : Int) 0)
def impl_PlacesMany.l1 : Nat → List Int → Int → List (S46) → Int → Int → List Int → Int → Int → Option (Int)
 | 0, _, _, _, _, _, _, _, _ => none
 | k + 1, x3, x4, x16, x17, x18, x33, x34, x35 => if x35 < x34 then (if 0 ≤ x35 then (if x35 < (x33.length : Int) then (if 0 ≤ (rd x33 x35) then (if (rd x33 x35) < (x3.length : Int) then (if 0 ≤ (rd x3 (rd x33 x35)) then (impl_PlacesMany.l1 k x3 (Go.bits .or .u16 x4 (shl .u16 1 (rd x3 (rd x33 x35)))) x16 x17 x18 x33 x34 (wrap64 (x35 + 1))) else (none)) else (none)) else (none)) else (none)) else (none)) else (impl_PlacesMany.l0 k x3 x4 x16 x17 (wrap64 (x18 + 1)))
end
def impl_PlacesMany.f (k : Nat) (l0 : List (S46)) : Option (Int) := (impl_CodeValid.f k l0).bind fun t358 => (if t358 = true then ((impl_placesOf.f k l0).bind fun t359 => (impl_PlacesMany.l0 k t359 0 l0 (l0.length : Int) 0)) else (some (-1)))
theorem impl_PlacesMany.mono_l : ∀ k, (∀ y0 y1 y2 y3 y4, LeO (impl_PlacesMany.l0 k y0 y1 y2 y3 y4) (impl_PlacesMany.l0 (k + 1) y0 y1 y2 y3 y4)) ∧ (∀ y0 y1 y2 y3 y4 y5, LeO (impl_PlacesMany.j1 k y0 y1 y2 y3 y4 y5) (impl_PlacesMany.j1 (k + 1) y0 y1 y2 y3 y4 y5)) ∧ (∀ y0 y1 y2 y3 y4 y5 y6 y7, LeO (impl_PlacesMany.l1 k y0 y1 y2 y3 y4 y5 y6 y7) (impl_PlacesMany.l1 (k + 1) y0 y1 y2 y3 y4 y5 y6 y7))
 | 0 => ⟨fun _ _ _ _ _ r h => by simp [impl_PlacesMany.l0] at h, fun _ _ _ _ _ _ r h => by simp [impl_PlacesMany.j1] at h, fun _ _ _ _ _ _ _ _ r h => by simp [impl_PlacesMany.l1] at h⟩
 | k + 1 => by
  obtain ⟨ih0, ih1, ih2⟩ := impl_PlacesMany.mono_l k
  refine ⟨?_, ?_, ?_⟩
  ·intro y0 y1 y2 y3 y4
   unfold impl_PlacesMany.l0
   repeat' first
   | (with_reducible exact ih0 _ _ _ _ _)
   | (with_reducible exact ih1 _ _ _ _ _ _)
   | (with_reducible exact ih2 _ _ _ _ _ _ _ _)
   | (with_reducible exact impl_CodeValid.mono _ _)
   | (with_reducible exact impl_placesOf.mono _ _)
   | (with_reducible exact impl_regSet_list.mono _ _)
   | (with_reducible exact impl_usesOf.mono _ _ _ _ _ _)
   | (with_reducible exact LeO.refl _)
   | (with_reducible exact LeO.none _)
   | (with_reducible refine LeO.ite ?_ ?_)
   | (with_reducible refine LeO.bind ?_ (fun _ => ?_))
   | exact ih0 _ _ _ _ _
   | exact ih1 _ _ _ _ _ _
   | exact ih2 _ _ _ _ _ _ _ _
   | exact impl_CodeValid.mono _ _
   | exact impl_placesOf.mono _ _
   | exact impl_regSet_list.mono _ _
   | exact impl_usesOf.mono _ _ _ _ _ _
   | exact LeO.none _
   | refine LeO.ite ?_ ?_
   | refine LeO.bind ?_ (fun _ => ?_)
  ·intro y0 y1 y2 y3 y4 y5
   unfold impl_PlacesMany.j1
   repeat' first
   | (with_reducible exact ih0 _ _ _ _ _)
   | (with_reducible exact ih1 _ _ _ _ _ _)
   | (with_reducible exact ih2 _ _ _ _ _ _ _ _)
   | (with_reducible exact impl_CodeValid.mono _ _)
   | (with_reducible exact impl_placesOf.mono _ _)
   | (with_reducible exact impl_regSet_list.mono _ _)
   | (with_reducible exact impl_usesOf.mono _ _ _ _ _ _)
   | (with_reducible exact LeO.refl _)
   | (with_reducible exact LeO.none _)
   | (with_reducible refine LeO.ite ?_ ?_)
   | (with_reducible refine LeO.bind ?_ (fun _ => ?_))
   | exact ih0 _ _ _ _ _
   | exact ih1 _ _ _ _ _ _
   | exact ih2 _ _ _ _ _ _ _ _
   | exact impl_CodeValid.mono _ _
   | exact impl_placesOf.mono _ _
   | exact impl_regSet_list.mono _ _
   | exact impl_usesOf.mono _ _ _ _ _ _
   | exact LeO.none _
   | refine LeO.ite ?_ ?_
   | refine LeO.bind ?_ (fun _ => ?_)
  ·intro y0 y1 y2 y3 y4 y5 y6 y7
   unfold impl_PlacesMany.l1
   repeat' first
   | (with_reducible exact ih0 _ _ _ _ _)
   | (with_reducible exact ih1 _ _ _ _ _ _)
   | (with_reducible exact ih2 _ _ _ _ _ _ _ _)
   | (with_reducible exact impl_CodeValid.mono _ _)
   | (with_reducible exact impl_placesOf.mono _ _)
   | (with_reducible exact impl_regSet_list.mono _ _)
   | (with_reducible exact impl_usesOf.mono _ _ _ _ _ _)
   | (with_reducible exact LeO.refl _)
   | (with_reducible exact LeO.none _)
   | (with_reducible refine LeO.ite ?_ ?_)
   | (with_reducible refine LeO.bind ?_ (fun _ => ?_))
   | exact ih0 _ _ _ _ _
   | exact ih1 _ _ _ _ _ _
   | exact ih2 _ _ _ _ _ _ _ _
   | exact impl_CodeValid.mono _ _
   | exact impl_placesOf.mono _ _
   | exact impl_regSet_list.mono _ _
   | exact impl_usesOf.mono _ _ _ _ _ _
   | exact LeO.none _
   | refine LeO.ite ?_ ?_
   | refine LeO.bind ?_ (fun _ => ?_)
theorem impl_PlacesMany.mono : ∀ a0 k, LeO (impl_PlacesMany.f k a0) (impl_PlacesMany.f (k + 1) a0) := by
 intro a0 k
 obtain ⟨ih0, ih1, ih2⟩ := impl_PlacesMany.mono_l k
 unfold impl_PlacesMany.f
 repeat' first
   | (with_reducible exact ih0 _ _ _ _ _)
   | (with_reducible exact ih1 _ _ _ _ _ _)
   | (with_reducible exact ih2 _ _ _ _ _ _ _ _)
   | (with_reducible exact impl_CodeValid.mono _ _)
   | (with_reducible exact impl_placesOf.mono _ _)
   | (with_reducible exact impl_regSet_list.mono _ _)
   | (with_reducible exact impl_usesOf.mono _ _ _ _ _ _)
   | (with_reducible exact LeO.refl _)
   | (with_reducible exact LeO.none _)
   | (with_reducible refine LeO.ite ?_ ?_)
   | (with_reducible refine LeO.bind ?_ (fun _ => ?_))
   | exact ih0 _ _ _ _ _
   | exact ih1 _ _ _ _ _ _
   | exact ih2 _ _ _ _ _ _ _ _
   | exact impl_CodeValid.mono _ _
   | exact impl_placesOf.mono _ _
   | exact impl_regSet_list.mono _ _
   | exact impl_usesOf.mono _ _ _ _ _ _
   | exact LeO.none _
   | refine LeO.ite ?_ ?_
   | refine LeO.bind ?_ (fun _ => ?_)
set_option maxHeartbeats 8000000 in
set_option maxRecDepth 100000 in
theorem impl_PlacesMany.calls (k : Nat) (A0 : Option Addr) (c0 : Nat) (l0 : List (S46)) (r : Int) (w : World) (hr0 : Kd.C k46 w A0 l0.length l0) (hc0 : l0.length ≤ c0) (h : impl_PlacesMany.f k l0 = some r) :
  Calls Try.prog 15 #[.slice A0 l0.length c0] w fun e w' => e = .returned (.int .i64 r) ∧ Below w.heap.size w w' := by
 have hu46 := Try.underlying46
 have HR0 := Aside0.mk hr0
 have HC0 := Aside0.mk hc0
 clear hr0 hc0
 have HB := Aside0.mk (Below.refl w.heap.size w)
 have H : ((impl_CodeValid.f k l0).bind fun t358 => (if t358 = true then ((impl_placesOf.f k l0).bind fun t359 => (impl_PlacesMany.l0 k t359 0 l0 (l0.length : Int) 0)) else (some (-1)))) = some r := h
 clear h
 obtain ⟨t358, A2, H⟩ := qE H
 try dsimp only at H
 by_cases c3 : t358 = true
 ·subst c3
  rw [if_pos rfl] at H
  obtain ⟨t359, A4, H⟩ := qE H
  try dsimp only at H
  have H' := Aside0.mk H
  clear H
  go_enter Try.func15, Try.ntmps15
  go_wp2_with (first | ((with_reducible refine gate_callee (f := 34) rfl ?_); refine goesL_ (some 12) rfl rfl Try.func34 (by kernel_rfl) rfl #[.slice A0 l0.length c0] rfl qM ?_; (with_reducible refine (impl_CodeValid.calls k _ _ l0 true _ ?side1 ?side2 A2.out).mono ?_); (case side1 => repeat (first | exact HR0.out | (with_reducible refine Kd.C_alloc ?_ _) | (with_reducible refine Kd.C_drewN ?_ _) | (with_reducible refine Kd.C_drew ?_))); (case side2 => exact HC0.out); rintro e w5 ⟨rfl, hb⟩; refine ⟨_, rfl, ?_⟩; have n0_ := Aside0.mk (below_step qB hb); clear HB; have HB := n0_; clear n0_; (try clear hb); (try clear hb2); (try clear hk); (try clear hi)) | ((with_reducible refine gate_callee (f := 41) rfl ?_); refine goesL_ (some 15) rfl rfl Try.func41 (by kernel_rfl) rfl #[.slice A0 l0.length c0] rfl qM ?_; (with_reducible refine (impl_placesOf.calls k _ _ l0 t359 _ ?side1 ?side2 A4.out).mono ?_); (case side1 => repeat (first | exact (Kd.C_below HR0.out HB.out) | (with_reducible refine Kd.C_alloc ?_ _) | (with_reducible refine Kd.C_drewN ?_ _) | (with_reducible refine Kd.C_drew ?_))); (case side2 => exact HC0.out); rintro e w6 ⟨v360, rfl, ho0, hb⟩; refine ⟨_, rfl, ?_⟩; have n0_ := Aside0.mk (Kd.R_lower ho0 (below_size qB)); have n1_ := Aside0.mk (below_step qB hb); clear HB; have HO361 := n0_; have HB := n1_; clear n0_ n1_; (try clear hb); (try clear hb2); (try clear hk); (try clear hi); (try clear ho0)))
  go_loopg [4, 18] k (fun kq v4 v18 w' => ∃ (x4_1 : Int) (x18_1 : Int), v4 = .int .u16 x4_1 ∧ v18 = .int .i64 x18_1 ∧ Aside0 (impl_PlacesMany.l0 kq t359 x4_1 l0 (l0.length : Int) x18_1 = some r) ∧ Aside0 (kq ≤ k) ∧ Aside0 (Kd.R (Kd.int .i64) 3 w' w.heap.size (fun _ => True) v360 t359) ∧ Aside0 (Below w.heap.size w w'))
  case atStart => exact ⟨(0), (0), qZ, qZ, H', ⟨Nat.le_refl _⟩, ⟨qR HO361⟩, ⟨qB⟩⟩
  case round =>
   clear H'
   try clear c1; try clear p2; try clear c3; try clear c4
   obtain ⟨x4_1, x18_1, rfl, rfl, HA, HK1, HO_3, HB⟩ := hrel
   cases gk with
   | zero => exact absurd HA.out (by simp [impl_PlacesMany.l0])
   | succ k1 =>
    have H := HA.out
    clear HA
    simp only [impl_PlacesMany.l0] at H
    by_cases c7 : x18_1 < (l0.length : Int)
    ·rw [if_pos c7] at H
     have c7b0 := decide_eq_true c7
     clear c7
     by_cases c8 : 0 ≤ x18_1
     ·rw [if_pos c8] at H
      have c8b0 := decide_eq_true c8
      clear c8
      by_cases c9 : x18_1 < (l0.length : Int)
      ·rw [if_pos c9] at H
       have c9b0 := decide_eq_true c9
       clear c9
       obtain ⟨t367, A10, H⟩ := qE H
       try dsimp only at H
       obtain ⟨t368, A11, H⟩ := qE H
       try dsimp only at H
       have HC12 := Aside0.mk H
       clear H
       have p365 : 0 ≤ (x18_1 : Int) := qD
       have q365 : x18_1 < (l0.length : Int) := qD
       obtain ⟨ad365, e365, hx365_0, hx365_1, hx365_2, hx365_3, hx365_4⟩ := at_T46 HR0.out x18_1 p365 q365
       cases e365
       replace hx365_0 := (HB.out.cell (World.block_lt_of_cell? w _ hx365_0)).trans hx365_0
       replace hx365_1 := (HB.out.cell (World.block_lt_of_cell? w _ hx365_1)).trans hx365_1
       replace hx365_2 := (HB.out.cell (World.block_lt_of_cell? w _ hx365_2)).trans hx365_2
       replace hx365_3 := (HB.out.cell (World.block_lt_of_cell? w _ hx365_3)).trans hx365_3
       replace hx365_4 := (HB.out.cell (World.block_lt_of_cell? w _ hx365_4)).trans hx365_4
       replace p365 := eq_true p365
       replace q365 := eq_true q365
       go_upto_if 27 with (first | ((with_reducible refine gate_dst (N := 6) rfl ?_); refine box_event ?hg (N := 6) ?hd (cs := #[.int .i64 0, .int .i64 0, .int .i64 0, .int .i64 0, .int .i64 0]) (t := 46) ?hr ?_; (case hd => rfl); (case hg => rfl); (case hr => first | (go_simp; done) | (go_simp; rfl)); intro gb366 hg w13 hbox hb; have n0_ := Aside0.mk (Kd.R_below (qR HO_3) hb); have n1_ := Aside0.mk (below_step qB hb); have n2_ := Aside0.mk (hbox); have n3_ := Aside0.mk ((by rw [hg]; exact (below_size qB) : w.heap.size ≤ gb366)); have n4_ := Aside0.mk ((by rw [hg]; exact (below_size qB) : w.heap.size ≤ gb366)); clear HO_3; clear HB; have HO_3 := n0_; have HB := n1_; have BK366 := n2_; have GW366 := n3_; have GE366 := n4_; clear n0_ n1_ n2_ n3_ n4_; clear hb hbox hg; have hcz14_0 : w13.cell? ⟨gb366, 0, none⟩ = some (.int .i64 0) := (blk_cell BK366.out 0).trans rfl; have hcz14_1 : w13.cell? ⟨gb366, 1, none⟩ = some (.int .i64 0) := (blk_cell BK366.out 1).trans rfl; have hcz14_2 : w13.cell? ⟨gb366, 2, none⟩ = some (.int .i64 0) := (blk_cell BK366.out 2).trans rfl; have hcz14_3 : w13.cell? ⟨gb366, 3, none⟩ = some (.int .i64 0) := (blk_cell BK366.out 3).trans rfl; have hcz14_4 : w13.cell? ⟨gb366, 4, none⟩ = some (.int .i64 0) := (blk_cell BK366.out 4).trans rfl; have hfz14_0 := blk_frozen BK366.out 0; have hfz14_1 := blk_frozen BK366.out 1; have hfz14_2 := blk_frozen BK366.out 2; have hfz14_3 := blk_frozen BK366.out 3; have hfz14_4 := blk_frozen BK366.out 4) | ((with_reducible refine gate_callee (f := 42) rfl ?_); refine goesL_ (some 23) rfl rfl Try.func42 (by kernel_rfl) rfl #[.agg #[.int .i64 ((rd_T46 l0 x18_1).f0), .int .i64 ((rd_T46 l0 x18_1).f1), .int .i64 ((rd_T46 l0 x18_1).f2), .int .i64 ((rd_T46 l0 x18_1).f3), .int .i64 ((rd_T46 l0 x18_1).f4)]] rfl qM ?_; (with_reducible refine (impl_usesOf.calls k1 ((rd_T46 l0 x18_1).f0) ((rd_T46 l0 x18_1).f1) ((rd_T46 l0 x18_1).f2) ((rd_T46 l0 x18_1).f3) ((rd_T46 l0 x18_1).f4) t367 _ A10.out).mono ?_); rintro e w15 ⟨rfl, hb⟩; refine ⟨_, rfl, ?_⟩; have n0_ := Aside0.mk (Kd.R_below (by (with_reducible repeat (first | apply Kd.R_alloc | apply Kd.R_drewN | apply Kd.R_drew)); exact (Kd.R_mono (Kd.R_far (p := ⟨gb366, 4, none⟩) (Kd.R_far (p := ⟨gb366, 3, none⟩) (Kd.R_far (p := ⟨gb366, 2, none⟩) (Kd.R_far (p := ⟨gb366, 1, none⟩) (Kd.R_far (p := ⟨gb366, 0, none⟩) (Kd.R_types HO_3.out BK366.out (by decide)) (fun _ hk => hk.2) (.int .i64 ((rd_T46 l0 x18_1).f0))) (fun _ hk => hk.2) (.int .i64 ((rd_T46 l0 x18_1).f1))) (fun _ hk => hk.2) (.int .i64 ((rd_T46 l0 x18_1).f2))) (fun _ hk => hk.2) (.int .i64 ((rd_T46 l0 x18_1).f3))) (fun _ hk => hk.2) (.int .i64 ((rd_T46 l0 x18_1).f4))) (fun _ h_ => h_.1))) hb); have n1_ := Aside0.mk (blk_below (g := gb366) (o := .cells #[.int .i64 ((rd_T46 l0 x18_1).f0), .int .i64 ((rd_T46 l0 x18_1).f1), .int .i64 ((rd_T46 l0 x18_1).f2), .int .i64 ((rd_T46 l0 x18_1).f3), .int .i64 ((rd_T46 l0 x18_1).f4)] 46 (0, 0)) (by (with_reducible repeat (first | refine blk_drewN ?_ _ | refine blk_drew ?_ | refine blk_alloc ?_ _)); refine blk_put (cs := #[.int .i64 ((rd_T46 l0 x18_1).f0), .int .i64 ((rd_T46 l0 x18_1).f1), .int .i64 ((rd_T46 l0 x18_1).f2), .int .i64 ((rd_T46 l0 x18_1).f3), .int .i64 0]) ?_ 4 _ rfl; (with_reducible repeat (first | refine blk_drewN ?_ _ | refine blk_drew ?_ | refine blk_alloc ?_ _)); refine blk_put (cs := #[.int .i64 ((rd_T46 l0 x18_1).f0), .int .i64 ((rd_T46 l0 x18_1).f1), .int .i64 ((rd_T46 l0 x18_1).f2), .int .i64 0, .int .i64 0]) ?_ 3 _ rfl; (with_reducible repeat (first | refine blk_drewN ?_ _ | refine blk_drew ?_ | refine blk_alloc ?_ _)); refine blk_put (cs := #[.int .i64 ((rd_T46 l0 x18_1).f0), .int .i64 ((rd_T46 l0 x18_1).f1), .int .i64 0, .int .i64 0, .int .i64 0]) ?_ 2 _ rfl; (with_reducible repeat (first | refine blk_drewN ?_ _ | refine blk_drew ?_ | refine blk_alloc ?_ _)); refine blk_put (cs := #[.int .i64 ((rd_T46 l0 x18_1).f0), .int .i64 0, .int .i64 0, .int .i64 0, .int .i64 0]) ?_ 1 _ rfl; (with_reducible repeat (first | refine blk_drewN ?_ _ | refine blk_drew ?_ | refine blk_alloc ?_ _)); refine blk_put (cs := #[.int .i64 0, .int .i64 0, .int .i64 0, .int .i64 0, .int .i64 0]) ?_ 0 _ rfl; (with_reducible repeat (first | refine blk_drewN ?_ _ | refine blk_drew ?_ | refine blk_alloc ?_ _)); exact BK366.out) hb); have n2_ := Aside0.mk (below_step qB hb); clear HO_3; clear BK366; clear HB; have HO_3 := n0_; have BK366 := n1_; have HB := n2_; clear n0_ n1_ n2_; (try clear hb); (try clear hb2); (try clear hk); (try clear hi); have hcz16_0 : w15.cell? ⟨gb366, 0, none⟩ = some (.int .i64 ((rd_T46 l0 x18_1).f0)) := (blk_cell BK366.out 0).trans rfl; have hcz16_1 : w15.cell? ⟨gb366, 1, none⟩ = some (.int .i64 ((rd_T46 l0 x18_1).f1)) := (blk_cell BK366.out 1).trans rfl; have hcz16_2 : w15.cell? ⟨gb366, 2, none⟩ = some (.int .i64 ((rd_T46 l0 x18_1).f2)) := (blk_cell BK366.out 2).trans rfl; have hcz16_3 : w15.cell? ⟨gb366, 3, none⟩ = some (.int .i64 ((rd_T46 l0 x18_1).f3)) := (blk_cell BK366.out 3).trans rfl; have hcz16_4 : w15.cell? ⟨gb366, 4, none⟩ = some (.int .i64 ((rd_T46 l0 x18_1).f4)) := (blk_cell BK366.out 4).trans rfl; have hfz16_0 := blk_frozen BK366.out 0; have hfz16_1 := blk_frozen BK366.out 1; have hfz16_2 := blk_frozen BK366.out 2; have hfz16_3 := blk_frozen BK366.out 3; have hfz16_4 := blk_frozen BK366.out 4) | ((with_reducible refine gate_callee (f := 43) rfl ?_); refine goesL_ (some 25) rfl rfl Try.func43 (by kernel_rfl) rfl #[.agg #[.int .i64 ((rd_T46 l0 x18_1).f0), .int .i64 ((rd_T46 l0 x18_1).f1), .int .i64 ((rd_T46 l0 x18_1).f2), .int .i64 ((rd_T46 l0 x18_1).f3), .int .i64 ((rd_T46 l0 x18_1).f4)]] rfl qM ?_; (with_reducible refine (impl_setsOf.calls ((rd_T46 l0 x18_1).f0) ((rd_T46 l0 x18_1).f1) ((rd_T46 l0 x18_1).f2) ((rd_T46 l0 x18_1).f3) ((rd_T46 l0 x18_1).f4) t368 _ A11.out).mono ?_); rintro e w17 ⟨rfl, hb⟩; refine ⟨_, rfl, ?_⟩; have n0_ := Aside0.mk (Kd.R_below (qR HO_3) hb); have n1_ := Aside0.mk (blk_below (g := gb366) (o := .cells #[.int .i64 ((rd_T46 l0 x18_1).f0), .int .i64 ((rd_T46 l0 x18_1).f1), .int .i64 ((rd_T46 l0 x18_1).f2), .int .i64 ((rd_T46 l0 x18_1).f3), .int .i64 ((rd_T46 l0 x18_1).f4)] 46 (0, 0)) (qK BK366) hb); have n2_ := Aside0.mk (below_step qB hb); clear HO_3; clear BK366; clear HB; have HO_3 := n0_; have BK366 := n1_; have HB := n2_; clear n0_ n1_ n2_; (try clear hb); (try clear hb2); (try clear hk); (try clear hi)))
       (try simp only [Act.put, List.setIfInBounds_toArray, List.set_cons_zero, List.set_cons_succ])
       go_cut [7] (fun v7 wc => ∃ (kq : Nat) (x7_11 : Int), v7 = .int .u16 x7_11 ∧ Aside0 (impl_PlacesMany.j1 kq t359 x4_1 x7_11 l0 (l0.length : Int) x18_1 = some r) ∧ Aside0 (kq ≤ k1) ∧ Aside0 (Kd.R (Kd.int .i64) 3 wc w.heap.size (fun _ => True) v360 t359) ∧ Aside0 (wc.heap[gb366]? = some (.cells #[.int .i64 ((rd_T46 l0 x18_1).f0), .int .i64 ((rd_T46 l0 x18_1).f1), .int .i64 ((rd_T46 l0 x18_1).f2), .int .i64 ((rd_T46 l0 x18_1).f3), .int .i64 ((rd_T46 l0 x18_1).f4)] 46 (0, 0))) ∧ Aside0 (Below w.heap.size w wc))
       case first =>
        have H := HC12.out
        clear HC12
        by_cases c18 : t368 ≥ 0
        ·rw [if_pos c18] at H
         have c18b0 := decide_eq_true c18
         clear c18
         (first | rw [c18b0] | (simp only [i64_w, i32_w]; rw [c18b0]) | skip)
         by_cases c19 : 0 ≤ t368
         ·rw [if_pos c19] at H
          have c19b0 := eq_true c19
          have c19b1 := decide_eq_true c19
          clear c19
          obtain ⟨ji20, hji20⟩ : ∃ j_ : Int, (shl .u16 1 t368) = j_ := ⟨_, rfl⟩
          replace H : (impl_PlacesMany.j1 k1 t359 x4_1 (Go.bits .or .u16 t367 (ji20)) l0 (l0.length : Int) x18_1) = some r := by first | (rw [hji20] at H; exact H) | (simp only [hji20] at H ⊢; exact H)
          have hji20_ : (IntKind.u16.wrap (1 * 2 ^ min t368.toNat 16)) = ji20 := hji20
          have hji20z : t368 ≤ 16 → (IntKind.u16.wrap (1 * 2 ^ t368.toNat)) = ji20 := shl_small hji20
          have hji20u : (IntKind.u16.wrap (2 ^ min t368.toNat 16)) = ji20 := by have h_ := hji20_; rw [Int.one_mul] at h_; exact h_
          have hji20v : t368 ≤ 16 → (IntKind.u16.wrap (2 ^ t368.toNat)) = ji20 := fun hle_ => by have h_ := hji20z hle_; rw [Int.one_mul] at h_; exact h_
          have H' := Aside0.mk H
          clear H
          go_wp2
          go_meet
          case rel => exact ⟨_, (Go.bits .or .u16 t367 (ji20)), (by first | rfl | (simp; done) | (simp only [← hji20] <;> (first | rfl | simp)) | (simp [*]; done)), H', ⟨by have := HK1.out; first | omega | exact Nat.le_refl _⟩, ⟨qR HO_3⟩, ⟨qK BK366⟩, ⟨qB⟩⟩
         ·rw [if_neg c19] at H
          exact absurd H (by simp)
        ·rw [if_neg c18] at H
         have c18b0 := decide_eq_false c18
         clear c18
         (first | rw [c18b0] | (simp only [i64_w, i32_w]; rw [c18b0]) | skip)
         have H' := Aside0.mk H
         clear H
         go_wp2
         go_meet
         case rel => exact ⟨_, (t367), qZ, H', ⟨by have := HK1.out; first | omega | exact Nat.le_refl _⟩, ⟨qR HO_3⟩, ⟨qK BK366⟩, ⟨qB⟩⟩
       case rest =>
        clear HC12
        try clear c1; try clear p2; try clear c3; try clear p3; try clear q3; try clear hx3; try clear c4; try clear c7; try clear c7b0; try clear c8; try clear c8b0; try clear c9; try clear c9b0; try clear c15; try clear c18; try clear c18b0; try clear c19; try clear c19b0; try clear c19b1; try clear hcz14_0; try clear hcz14_1; try clear hcz14_2; try clear hcz14_3; try clear hcz14_4; try clear hcz16_0; try clear hcz16_1; try clear hcz16_2; try clear hcz16_3; try clear hcz16_4; try clear hfz14_0; try clear hfz14_1; try clear hfz14_2; try clear hfz14_3; try clear hfz14_4; try clear hfz16_0; try clear hfz16_1; try clear hfz16_2; try clear hfz16_3; try clear hfz16_4; try clear hx365_0; try clear hx365_1; try clear hx365_2; try clear hx365_3; try clear hx365_4; try clear p2; try clear p365; try clear q365
        obtain ⟨kq, x7_11, rfl, HA, HJ11, HO_3, BK366, HB⟩ := hcut
        cases kq with
        | zero => exact absurd HA.out (by simp [impl_PlacesMany.j1])
        | succ kj11 =>
         have H := HA.out
         clear HA
         simp only [impl_PlacesMany.j1] at H
         obtain ⟨t369, A21, H⟩ := qE H
         try dsimp only at H
         have H' := Aside0.mk H
         clear H
         go_wp2_with (first | ((with_reducible refine gate_callee (f := 44) rfl ?_); refine goesL_ (some 33) rfl rfl Try.func44 (by kernel_rfl) rfl #[.int .u16 x7_11] rfl qM ?_; (with_reducible refine (impl_regSet_list.calls kj11 x7_11 t369 _ A21.out).mono ?_); rintro e w22 ⟨v370, rfl, ho0, hb⟩; refine ⟨_, rfl, ?_⟩; have n0_ := Aside0.mk (Kd.R_elder' (qR HO_3) (by first | exact Kd.R_base ho0 | exact Kd.R_base ho0) hb); have n1_ := Aside0.mk (Kd.R_lower (Kd.R_new' ho0 (Kd.R_lt (qR HO_3))) (below_size qB)); have n2_ := Aside0.mk (blk_below (g := gb366) (o := .cells #[.int .i64 ((rd_T46 l0 x18_1).f0), .int .i64 ((rd_T46 l0 x18_1).f1), .int .i64 ((rd_T46 l0 x18_1).f2), .int .i64 ((rd_T46 l0 x18_1).f3), .int .i64 ((rd_T46 l0 x18_1).f4)] 46 (0, 0)) (qK BK366) hb); have n3_ := Aside0.mk (below_step qB hb); clear HO_3; clear BK366; clear HB; have HO_3 := n0_; have HO371 := n1_; have BK366 := n2_; have HB := n3_; clear n0_ n1_ n2_ n3_; (try clear hb); (try clear hb2); (try clear hk); (try clear hi); (try clear ho0); obtain ⟨Ao23, co23, eo23⟩ := Kd.R_slice HO371.out; subst eo23))
         go_loopg [4, 35] kj11 (fun kq v4 v35 w' => ∃ (x4_3 : Int) (x35_3 : Int), v4 = .int .u16 x4_3 ∧ v35 = .int .i64 x35_3 ∧ Aside0 (impl_PlacesMany.l1 kq t359 x4_3 l0 (l0.length : Int) x18_1 t369 (t369.length : Int) x35_3 = some r) ∧ Aside0 (kq ≤ kj11) ∧ Aside0 (Kd.R (Kd.int .i64) 3 w' w.heap.size (fun k_ => some k_ ≠ ((.slice Ao23 t369.length co23) : Value).ownBlock) v360 t359) ∧ Aside0 (Kd.R (Kd.int .i64) 3 w' w.heap.size (fun k_ => some k_ ≠ (v360 : Value).ownBlock) (.slice Ao23 t369.length co23) t369) ∧ Aside0 (w'.heap[gb366]? = some (.cells #[.int .i64 ((rd_T46 l0 x18_1).f0), .int .i64 ((rd_T46 l0 x18_1).f1), .int .i64 ((rd_T46 l0 x18_1).f2), .int .i64 ((rd_T46 l0 x18_1).f3), .int .i64 ((rd_T46 l0 x18_1).f4)] 46 (0, 0))) ∧ Aside0 (Below w.heap.size w w'))
         case atStart => exact ⟨(x4_1), (0), qZ, qZ, H', ⟨Nat.le_refl _⟩, ⟨by (with_reducible repeat (first | apply Kd.R_alloc | apply Kd.R_drewN | apply Kd.R_drew)); exact Kd.R_mono HO_3.out (fun _ hk => hk.2)⟩, ⟨by (with_reducible repeat (first | apply Kd.R_alloc | apply Kd.R_drewN | apply Kd.R_drew)); exact Kd.R_mono HO371.out (fun _ hk => hk.2)⟩, ⟨qK BK366⟩, ⟨qB⟩⟩
         case round =>
          clear H'
          try clear c1; try clear p2; try clear c3; try clear p3; try clear q3; try clear hx3; try clear c4; try clear c7; try clear c7b0; try clear c8; try clear c8b0; try clear c9; try clear c9b0; try clear c15; try clear c18; try clear c18b0; try clear c19; try clear c19b0; try clear c19b1; try clear hcz14_0; try clear hcz14_1; try clear hcz14_2; try clear hcz14_3; try clear hcz14_4; try clear hcz16_0; try clear hcz16_1; try clear hcz16_2; try clear hcz16_3; try clear hcz16_4; try clear hfz14_0; try clear hfz14_1; try clear hfz14_2; try clear hfz14_3; try clear hfz14_4; try clear hfz16_0; try clear hfz16_1; try clear hfz16_2; try clear hfz16_3; try clear hfz16_4; try clear hx365_0; try clear hx365_1; try clear hx365_2; try clear hx365_3; try clear hx365_4; try clear p2; try clear p3; try clear p365; try clear q3; try clear q365
          obtain ⟨x4_3, x35_3, rfl, rfl, HA, HK3, HO_3, HO_33, BK366, HB⟩ := hrel
          cases gk with
          | zero => exact absurd HA.out (by simp [impl_PlacesMany.l1])
          | succ k3 =>
           have H := HA.out
           clear HA
           simp only [impl_PlacesMany.l1] at H
           by_cases c24 : x35_3 < (t369.length : Int)
           ·rw [if_pos c24] at H
            have c24b0 := decide_eq_true c24
            clear c24
            by_cases c25 : 0 ≤ x35_3
            ·rw [if_pos c25] at H
             have c25b0 := decide_eq_true c25
             clear c25
             by_cases c26 : x35_3 < (t369.length : Int)
             ·rw [if_pos c26] at H
              have c26b0 := decide_eq_true c26
              clear c26
              by_cases c27 : 0 ≤ (rd t369 x35_3)
              ·rw [if_pos c27] at H
               have c27b0 := decide_eq_true c27
               clear c27
               by_cases c28 : (rd t369 x35_3) < (t359.length : Int)
               ·rw [if_pos c28] at H
                have c28b0 := decide_eq_true c28
                clear c28
                by_cases c29 : 0 ≤ (rd t359 (rd t369 x35_3))
                ·rw [if_pos c29] at H
                 have c29b0 := eq_true c29
                 have c29b1 := decide_eq_true c29
                 clear c29
                 obtain ⟨ji30, hji30⟩ : ∃ j_ : Int, (shl .u16 1 (rd t359 (rd t369 x35_3))) = j_ := ⟨_, rfl⟩
                 replace H : (impl_PlacesMany.l1 k3 t359 (Go.bits .or .u16 x4_3 (ji30)) l0 (l0.length : Int) x18_1 t369 (t369.length : Int) (wrap64 (x35_3 + 1))) = some r := by first | (rw [hji30] at H; exact H) | (simp only [hji30] at H ⊢; exact H)
                 have hji30_ : (IntKind.u16.wrap (1 * 2 ^ min (rd t359 (rd t369 x35_3)).toNat 16)) = ji30 := hji30
                 have hji30z : (rd t359 (rd t369 x35_3)) ≤ 16 → (IntKind.u16.wrap (1 * 2 ^ (rd t359 (rd t369 x35_3)).toNat)) = ji30 := shl_small hji30
                 have hji30u : (IntKind.u16.wrap (2 ^ min (rd t359 (rd t369 x35_3)).toNat 16)) = ji30 := by have h_ := hji30_; rw [Int.one_mul] at h_; exact h_
                 have hji30v : (rd t359 (rd t369 x35_3)) ≤ 16 → (IntKind.u16.wrap (2 ^ (rd t359 (rd t369 x35_3)).toNat)) = ji30 := fun hle_ => by have h_ := hji30z hle_; rw [Int.one_mul] at h_; exact h_
                 have H' := Aside0.mk H
                 clear H
                 have p372 : 0 ≤ (x35_3 : Int) := qD
                 have q372 : x35_3 < (t369.length : Int) := qD
                 obtain ⟨ad372, e372, hx372_0⟩ := Kd.at_int (Kd.R_reads' HO_33.out).2.2 x35_3 p372 q372
                 cases e372
                 replace p372 := eq_true p372
                 replace q372 := eq_true q372
                 obtain ⟨Ao31, co31, eo31⟩ := Kd.R_slice HO_3.out
                 subst eo31
                 have p373 : 0 ≤ ((rd t369 x35_3) : Int) := qD
                 have q373 : (rd t369 x35_3) < (t359.length : Int) := qD
                 obtain ⟨ad373, e373, hx373_0⟩ := Kd.at_int (Kd.R_reads' HO_3.out).2.2 (rd t369 x35_3) p373 q373
                 cases e373
                 replace p373 := eq_true p373
                 replace q373 := eq_true q373
                 go_wp2
                 go_roundg k3
                 case measure => have := HK1.out; have := HJ11.out; have := HK3.out; omega
                 case rel => exact ⟨(Go.bits .or .u16 x4_3 (ji30)), (wrap64 (x35_3 + 1)), (by first | rfl | (simp; done) | (simp only [← hji30] <;> (first | rfl | simp)) | (simp [*]; done)), qZ, H', ⟨by have := HK1.out; have := HJ11.out; have := HK3.out; omega⟩, ⟨qR HO_3⟩, ⟨qR HO_33⟩, ⟨qK BK366⟩, ⟨qB⟩⟩
                ·rw [if_neg c29] at H
                 exact absurd H (by simp)
               ·rw [if_neg c28] at H
                exact absurd H (by simp)
              ·rw [if_neg c27] at H
               exact absurd H (by simp)
             ·rw [if_neg c26] at H
              exact absurd H (by simp)
            ·rw [if_neg c25] at H
             exact absurd H (by simp)
           ·rw [if_neg c24] at H
            have c24b0 := decide_eq_false c24
            clear c24
            have H' := Aside0.mk H
            clear H
            go_wp2
            go_roundg k3
            case measure => have := HK1.out; have := HJ11.out; have := HK3.out; omega
            case rel => exact ⟨(x4_3), (wrap64 (x18_1 + 1)), qZ, qZ, H', ⟨by have := HK1.out; have := HJ11.out; have := HK3.out; omega⟩, ⟨by (with_reducible repeat (first | apply Kd.R_alloc | apply Kd.R_drewN | apply Kd.R_drew)); exact Kd.R_mono HO_3.out (fun _ hk => trivial)⟩, ⟨qB⟩⟩
      ·rw [if_neg c9] at H
       exact absurd H (by simp)
     ·rw [if_neg c8] at H
      exact absurd H (by simp)
    ·rw [if_neg c7] at H
     have c7b0 := decide_eq_false c7
     clear c7
     obtain ⟨t362, A32, H⟩ := qE H
     try dsimp only at H
     obtain rfl := Option.some.inj H
     go_wp2_with (first | ((with_reducible refine gate_callee (f := 44) rfl ?_); refine goesL_ (some 49) rfl rfl Try.func44 (by kernel_rfl) rfl #[.int .u16 x4_1] rfl qM ?_; (with_reducible refine (impl_regSet_list.calls k1 x4_1 t362 _ A32.out).mono ?_); rintro e w33 ⟨v363, rfl, ho0, hb⟩; refine ⟨_, rfl, ?_⟩; have n0_ := Aside0.mk (Kd.R_elder' (qR HO_3) (by first | exact Kd.R_base ho0 | exact Kd.R_base ho0) hb); have n1_ := Aside0.mk (Kd.R_lower (Kd.R_new' ho0 (Kd.R_lt (qR HO_3))) (below_size qB)); have n2_ := Aside0.mk (below_step qB hb); clear HO_3; clear HB; have HO_3 := n0_; have HO364 := n1_; have HB := n2_; clear n0_ n1_ n2_; (try clear hb); (try clear hb2); (try clear hk); (try clear hi); (try clear ho0); obtain ⟨Ao34, co34, eo34⟩ := Kd.R_slice HO364.out; subst eo34))
     go_ret
     exact ⟨by first | rfl | (simp [errW_none, errW_some] <;> rfl) | (simp [*, errW_none, errW_some] <;> rfl), qB⟩
 ·replace c3 := Bool.eq_false_iff.mpr c3
  subst c3
  rw [if_neg (show ¬ (false = true) by decide)] at H
  obtain rfl := Option.some.inj H
  go_enter Try.func15, Try.ntmps15
  go_wp2_with (first | ((with_reducible refine gate_callee (f := 34) rfl ?_); refine goesL_ (some 12) rfl rfl Try.func34 (by kernel_rfl) rfl #[.slice A0 l0.length c0] rfl qM ?_; (with_reducible refine (impl_CodeValid.calls k _ _ l0 false _ ?side1 ?side2 A2.out).mono ?_); (case side1 => repeat (first | exact HR0.out | (with_reducible refine Kd.C_alloc ?_ _) | (with_reducible refine Kd.C_drewN ?_ _) | (with_reducible refine Kd.C_drew ?_))); (case side2 => exact HC0.out); rintro e w35 ⟨rfl, hb⟩; refine ⟨_, rfl, ?_⟩; have n0_ := Aside0.mk (below_step qB hb); clear HB; have HB := n0_; clear n0_; (try clear hb); (try clear hb2); (try clear hk); (try clear hi)))
  go_ret
  exact ⟨by first | rfl | (simp [errW_none, errW_some] <;> rfl) | (simp [*, errW_none, errW_some] <;> rfl), qB⟩
end Go.Proofs.Ytahbkldagpfcaaa.M
namespace Go.Proofs.Ytahbkldagpfcaaa.M
open Go.RowKit Go.Proofs.YtahbkldagpfcaaaW.PrintWords Go.Proofs.YtahbkldagpfcaaaW.PrintLast Go.Proofs.YtahbkldagpfcaaaW.PrintMore PM
theorem len_le : ∀ (a b : List Nat), a.Nodup → (∀ x ∈ a, x ∈ b) → a.length ≤ b.length
  | [], b, _, _ => by simp
  | x :: a, b, h, hs => by
    have hx := hs x List.mem_cons_self
    have hn := List.nodup_cons.1 h
    have := len_le a (b.erase x) hn.2 (fun y hy => by
      have hne : y ≠ x := fun e => hn.1 (by rw [← e]; exact hy)
      exact (List.mem_erase_of_ne hne).2 (hs y (List.mem_cons_of_mem _ hy)))
    have hl := List.length_erase_of_mem hx
    have := List.length_pos_of_mem hx
    simp only [List.length_cons]
    omega
theorem spec_l31Has.ev {l : List Nat} (h : l.length ≤ 1048576) (n : Nat) : Ev (fun k => spec_l31Has.f k (ints l) (n : Int)) (decide (n ∈ l)) := by
  have key : ∀ (d p : Nat), p + d = l.length → (∀ j, j < p → l.getD j 0 ≠ n) → Ev (fun k => spec_l31Has.l0 k (ints l) (n : Int) (p : Int)) (decide (n ∈ l)) := by
    intro d
    induction d with
    | zero =>
      intro p hp hn
      refine Ev.succ ?_
      simp only [spec_l31Has.l0, ints_len]
      refine Ev.neg (Ev.const (some_bool ?_))
      simp only [Bool.false_eq_true, decide_eq_true_eq, false_iff]
      intro hm
      obtain ⟨i, hi, e⟩ := List.getElem_of_mem hm
      refine hn i (by omega) ?_
      rw [List.getD_eq_getElem?_getD, List.getElem?_eq_getElem hi]
      exact e
    | succ d ih =>
      intro p hp hn
      refine Ev.succ ?_
      simp only [spec_l31Has.l0, ints_len, rd_ints, wrap_up (show p < 9223372036854775807 by omega)]
      refine Ev.pos (Ev.pos ?_)
      by_cases e : l.getD p 0 = n
      · refine Ev.pos (Ev.const (some_bool ?_)) (by omega)
        simp only [decide_eq_true_eq, true_iff]
        rw [← e]
        exact getD_mem (by omega)
      · refine Ev.neg (ih (p + 1) (by omega) fun j hj => ?_) (by omega)
        by_cases h : j = p
        · rw [h]
          exact e
        · exact hn j (by omega)
  simp only [spec_l31Has.f]
  exact key l.length 0 (by omega) (fun j hj => by omega)
/-- A quad reads or sets a register. -/
def Oc (q : Q) (r : Nat) : Prop := sets q = r ∨ uses q r
instance (q : Q) (r : Nat) : Decidable (Oc q r) := by unfold Oc; infer_instance
theorem usesL_mem {q : Q} {m : Int} (h : QV q m) (r : Nat) : r ∈ usesL q ↔ uses q r := by
  obtain ⟨_, ⟨h1, h2⟩, h3, h4⟩ := regs_of h
  have e1 : (mn q.a q.b = q.a ∧ mx q.a q.b = q.b) ∨ (mn q.a q.b = q.b ∧ mx q.a q.b = q.a) := by unfold mn mx; (repeat' split) <;> omega
  unfold usesL uses
  split
  · simp only [List.mem_singleton]
    omega
  · split
    · split
      · simp only [List.mem_singleton]
        omega
      · simp only [List.mem_cons, List.not_mem_nil, or_false]
        omega
    · simp only [List.not_mem_nil, false_iff]
      omega
theorem spec_l41Occurs.ev {q : Q} (h : QV q 600) (r : Nat) : Ev (fun k => spec_l41Occurs.f k q.op q.dst q.a q.b q.n (r : Int)) (decide (Oc q r)) := by
  simp only [spec_l41Occurs.f, spec_QuadSets.e h]
  refine Ev.some ?_
  by_cases e : sets q = r
  · refine Ev.pos (Ev.const (some_bool ?_))
    simp [Oc, e]
  · have hl := usesL_len q
    refine Ev.neg (Ev.bind (spec_QuadUses.ev h) (Ev.bind (spec_l31Has.ev (by omega) r) (Ev.const (some_bool ?_))))
    rw [decide_eq_true_eq, decide_eq_true_eq, usesL_mem h]
    simp only [Oc, e, false_or]
/-- The places of the quads below i, and of the registers below r of the quad i. -/
def Us (c : List SQ) (P : List Nat) (i r x : Nat) : Prop := (∃ j, j < i ∧ ∃ s, s < 12 ∧ Oc (q_ (qa c j)) s ∧ P.getD s 0 = x) ∨ ∃ s, s < r ∧ Oc (q_ (qa c i)) s ∧ P.getD s 0 = x
theorem Us.next {c : List SQ} {P : List Nat} {i x : Nat} : Us c P i 12 x ↔ Us c P (i + 1) 0 x := by
  unfold Us
  constructor
  · rintro (⟨j, h1, h2⟩ | h)
    · exact .inl ⟨j, by omega, h2⟩
    · exact .inl ⟨i, by omega, h⟩
  · rintro (⟨j, h1, h2⟩ | ⟨s, h1, _⟩)
    · by_cases e : j = i
      · exact .inr (e ▸ h2)
      · exact .inl ⟨j, by omega, h2⟩
    · omega
theorem Us.up {c : List SQ} {P : List Nat} {i r x : Nat} : Us c P i (r + 1) x ↔ Us c P i r x ∨ (Oc (q_ (qa c i)) r ∧ P.getD r 0 = x) := by
  unfold Us
  rw [or_assoc]
  refine or_congr Iff.rfl ?_
  constructor
  · rintro ⟨s, h1, h2⟩
    by_cases e : s = r
    · exact .inr (e ▸ h2)
    · exact .inl ⟨s, by omega, h2⟩
  · rintro (⟨s, h1, h2⟩ | h)
    · exact ⟨s, by omega, h2⟩
    · exact ⟨r, by omega, h⟩
/-- What has been seen. -/
def Sn (c : List SQ) (P S : List Nat) (i r : Nat) : Prop := S.Nodup ∧ (∀ x ∈ S, x < 12) ∧ ∀ x, x ∈ S ↔ Us c P i r x
theorem Sn.len {c : List SQ} {P S : List Nat} {i r : Nat} (h : Sn c P S i r) : S.length ≤ 12 := by
  have := len_le S (List.range 12) h.1 (fun x hx => List.mem_range.2 (h.2.1 x hx))
  simpa using this
theorem spec_PlacesMany.in {c : List SQ} (h : CV (qs c)) {P : List Nat} (hl : P.length = 12) (hP : ∀ j, j < 12 → P.getD j 0 < 12) {i : Nat} (hi : i < c.length) {v : Int} (g : ∀ S, Sn c P S (i + 1) 0 → Ev (fun k => spec_PlacesMany.l0 k c (ints P) (ints S) ((i + 1 : Nat) : Int)) v) :
    ∀ (d r : Nat), r + d = 12 → ∀ S, Sn c P S i r → Ev (fun k => spec_PlacesMany.l1 k c (ints P) (ints S) (i : Int) (r : Int)) v
  | 0, r, hr, S, hS => by
    refine Ev.succ ?_
    have h6 := cv600 h
    simp only [spec_PlacesMany.l1, wrap_up (show i < 9223372036854775807 by omega)]
    rw [show r = 12 from by omega] at hS
    exact Ev.neg (g S ⟨hS.1, hS.2.1, fun x => (hS.2.2 x).trans Us.next⟩)
  | d + 1, r, hr, S, hS => by
    refine Ev.succ ?_
    have hlen := hS.len
    have ih := spec_PlacesMany.in h hl hP hi g d (r + 1) (by omega)
    simp only [spec_PlacesMany.l1, rd_qa, rd_ints, ints_len, wrap_up (show r < 9223372036854775807 by omega)]
    refine Ev.pos (Ev.pos (Ev.pos (Ev.bind (spec_l41Occurs.ev (q := q_ (qa c i)) (qa600 h hi) r) ?_)))
    by_cases ho : Oc (q_ (qa c i)) r
    · refine Ev.pos (Ev.pos (Ev.pos (Ev.bind (spec_l31Has.ev (by omega) _) ?_))) (decide_eq_true ho)
      by_cases hm : P.getD r 0 ∈ S
      · refine Ev.pos (ih S ⟨hS.1, hS.2.1, fun x => ?_⟩) (decide_eq_true hm)
        rw [Us.up, hS.2.2 x]
        refine ⟨.inl, fun y => y.elim id fun y => ?_⟩
        rw [← y.2]
        exact (hS.2.2 _).1 hm
      · refine Ev.neg (Ev.pos ?_) (fun x => hm (of_decide_eq_true x))
        have := ih (S ++ [P.getD r 0]) ⟨?_, fun x hx => ?_, fun x => ?_⟩
        · rw [show ints (S ++ [P.getD r 0]) = ints S ++ [((P.getD r 0 : Nat) : Int)] from by simp [ints]] at this
          exact this
        · rw [List.nodup_append]
          refine ⟨hS.1, by simp, fun a ha b hb => ?_⟩
          rw [List.mem_singleton] at hb
          intro e
          exact hm (by rw [← hb, ← e]; exact ha)
        · rcases List.mem_append.1 hx with hx | hx
          · exact hS.2.1 x hx
          · rw [List.mem_singleton.1 hx]
            exact hP r (by omega)
        · rw [Us.up, List.mem_append, List.mem_singleton, hS.2.2 x]
          refine or_congr Iff.rfl ⟨fun y => ⟨ho, y.symm⟩, fun y => y.2.symm⟩
    · refine Ev.neg (ih S ⟨hS.1, hS.2.1, fun x => ?_⟩) (fun x => ho (of_decide_eq_true x))
      rw [Us.up, hS.2.2 x]
      exact ⟨.inl, fun y => y.elim id fun y => absurd y.1 ho⟩
theorem spec_PlacesMany.out {c : List SQ} (h : CV (qs c)) {P : List Nat} (hl : P.length = 12) (hP : ∀ j, j < 12 → P.getD j 0 < 12) {v : Int} (g : ∀ S, Sn c P S c.length 0 → v = (S.length : Int)) :
    ∀ (d i : Nat), i + d = c.length → ∀ S, Sn c P S i 0 → Ev (fun k => spec_PlacesMany.l0 k c (ints P) (ints S) (i : Int)) v
  | 0, i, hi, S, hS => by
    refine Ev.succ ?_
    simp only [spec_PlacesMany.l0, ints_len]
    rw [show i = c.length from by omega] at hS
    rw [g S hS]
    exact Ev.neg Ev.pure
  | d + 1, i, hi, S, hS => by
    refine Ev.succ ?_
    simp only [spec_PlacesMany.l0]
    exact Ev.pos (spec_PlacesMany.in h hl hP (by omega) (fun S' hS' => spec_PlacesMany.out h hl hP g d (i + 1) (by omega) S' hS') 12 0 rfl S hS)
end Go.Proofs.Ytahbkldagpfcaaa.M
namespace Go.Proofs.Ytahbkldagpfcaaa.M
open Go.RowKit Go.Proofs.YtahbkldagpfcaaaW.PrintWords Go.Proofs.YtahbkldagpfcaaaW.PrintLast Go.Proofs.YtahbkldagpfcaaaW.PrintMore
attribute [local go_sem] max2_int min2_int max_two min_two max_three min_three max_four min_four
def laws_FnExactPlacesMany.f (k : Nat) (l0 : List (S48)) : Option (Bool) := (laws_szQuadS.f l0 1048576).bind fun t374 => (if t374 < 0 then (some true) else ((laws_toQuadS.f k l0).bind fun t375 => ((spec_PlacesMany.f k t375).bind fun t378 => ((laws_toQuadS.f k l0).bind fun t379 => ((impl_PlacesMany.f k t379).bind fun t382 => (if t382 = t378 then ((laws_toQuadS.f k l0).bind fun t383 => ((laws_eqQuadS.f k t379 t383).bind fun t386 => (if t386 = true then (some true) else (some false)))) else (some false)))))))
theorem laws_FnExactPlacesMany.mono : ∀ a0 k, LeO (laws_FnExactPlacesMany.f k a0) (laws_FnExactPlacesMany.f (k + 1) a0) := by
 intro a0 k
 unfold laws_FnExactPlacesMany.f
 repeat' first
   | (with_reducible exact impl_PlacesMany.mono _ _)
   | (with_reducible exact laws_eqQuadS.mono _ _ _)
   | (with_reducible exact laws_toQuadS.mono _ _)
   | (with_reducible exact spec_PlacesMany.mono _ _)
   | (with_reducible exact LeO.refl _)
   | (with_reducible exact LeO.none _)
   | (with_reducible refine LeO.ite ?_ ?_)
   | (with_reducible refine LeO.bind ?_ (fun _ => ?_))
   | exact impl_PlacesMany.mono _ _
   | exact laws_eqQuadS.mono _ _ _
   | exact laws_toQuadS.mono _ _
   | exact spec_PlacesMany.mono _ _
   | exact LeO.none _
   | refine LeO.ite ?_ ?_
   | refine LeO.bind ?_ (fun _ => ?_)
set_option maxHeartbeats 8000000 in
set_option maxRecDepth 100000 in
theorem laws_FnExactPlacesMany.calls (k : Nat) (A0 : Option Addr) (c0 : Nat) (l0 : List (S48)) (r : Bool) (w : World) (hr0 : Kd.C k48 w A0 l0.length l0) (hc0 : l0.length ≤ c0) (h : laws_FnExactPlacesMany.f k l0 = some r) :
  Calls Try.prog 4 #[.slice A0 l0.length c0] w fun e w' => e = .returned (.bool r) ∧ Below w.heap.size w w' := by
 have HR0 := Aside0.mk hr0
 have HC0 := Aside0.mk hc0
 clear hr0 hc0
 have HB := Aside0.mk (Below.refl w.heap.size w)
 have H : ((laws_szQuadS.f l0 1048576).bind fun t374 => (if t374 < 0 then (some true) else ((laws_toQuadS.f k l0).bind fun t375 => ((spec_PlacesMany.f k t375).bind fun t378 => ((laws_toQuadS.f k l0).bind fun t379 => ((impl_PlacesMany.f k t379).bind fun t382 => (if t382 = t378 then ((laws_toQuadS.f k l0).bind fun t383 => ((laws_eqQuadS.f k t379 t383).bind fun t386 => (if t386 = true then (some true) else (some false)))) else (some false)))))))) = some r := h
 clear h
 obtain ⟨t374, A2, H⟩ := qE H
 try dsimp only at H
 by_cases c3 : t374 < 0
 ·rw [if_pos c3] at H
  have c3b0 := decide_eq_true c3
  clear c3
  obtain rfl := Option.some.inj H
  go_enter Try.func4, Try.ntmps4
  go_wp2_with (first | ((with_reducible refine gate_callee (f := 9) rfl ?_); refine goesL_ (some 9) rfl rfl Try.func9 (by kernel_rfl) rfl #[.slice A0 l0.length c0, .int .i64 1048576] rfl qM ?_; (with_reducible refine (laws_szQuadS.calls _ _ l0 1048576 t374 _ ?side1 ?side2 A2.out).mono ?_); (case side1 => repeat (first | exact HR0.out | (with_reducible refine Kd.C_alloc ?_ _) | (with_reducible refine Kd.C_drewN ?_ _) | (with_reducible refine Kd.C_drew ?_))); (case side2 => exact HC0.out); rintro e w' ⟨rfl, ⟨nd, rfl⟩⟩; refine ⟨_, rfl, ?_⟩))
  go_ret
  exact ⟨by first | rfl | (simp [errW_none, errW_some] <;> rfl) | (simp [*, errW_none, errW_some] <;> rfl), qB⟩
 ·rw [if_neg c3] at H
  have c3b0 := decide_eq_false c3
  clear c3
  obtain ⟨t375, A4, H⟩ := qE H
  try dsimp only at H
  obtain ⟨t378, A5, H⟩ := qE H
  try dsimp only at H
  obtain ⟨t379, A6, H⟩ := qE H
  try dsimp only at H
  obtain ⟨t382, A7, H⟩ := qE H
  try dsimp only at H
  by_cases c8 : t382 = t378
  ·rw [if_pos c8] at H
   have c8b0 : (t382 == t378) = true := beq_iff_eq.mpr c8
   have c8b1 : (t382 != t378) = false := bne_eq_false_iff_eq.mpr c8
   clear c8
   obtain ⟨t383, A9, H⟩ := qE H
   try dsimp only at H
   obtain ⟨t386, A10, H⟩ := qE H
   try dsimp only at H
   by_cases c11 : t386 = true
   ·subst c11
    rw [if_pos rfl] at H
    obtain rfl := Option.some.inj H
    go_enter Try.func4, Try.ntmps4
    go_wp2_with (first | ((with_reducible refine gate_callee (f := 9) rfl ?_); refine goesL_ (some 9) rfl rfl Try.func9 (by kernel_rfl) rfl #[.slice A0 l0.length c0, .int .i64 1048576] rfl qM ?_; (with_reducible refine (laws_szQuadS.calls _ _ l0 1048576 t374 _ ?side1 ?side2 A2.out).mono ?_); (case side1 => repeat (first | exact HR0.out | (with_reducible refine Kd.C_alloc ?_ _) | (with_reducible refine Kd.C_drewN ?_ _) | (with_reducible refine Kd.C_drew ?_))); (case side2 => exact HC0.out); rintro e w' ⟨rfl, ⟨nd, rfl⟩⟩; refine ⟨_, rfl, ?_⟩) | ((with_reducible refine gate_callee (f := 11) rfl ?_); refine goesL_ (some 13) rfl rfl Try.func11 (by kernel_rfl) rfl #[.slice A0 l0.length c0] rfl qM ?_; (with_reducible refine (laws_toQuadS.calls k _ _ l0 t375 _ ?side1 ?side2 A4.out).mono ?_); (case side1 => repeat (first | exact HR0.out | (with_reducible refine Kd.C_alloc ?_ _) | (with_reducible refine Kd.C_drewN ?_ _) | (with_reducible refine Kd.C_drew ?_))); (case side2 => exact HC0.out); rintro e w12 ⟨v376, rfl, ho0, hb⟩; refine ⟨_, rfl, ?_⟩; have n0_ := Aside0.mk (Kd.R_lower ho0 (below_size qB)); have n1_ := Aside0.mk (below_step qB hb); clear HB; have HO377 := n0_; have HB := n1_; clear n0_ n1_; (try clear hb); (try clear hb2); (try clear hk); (try clear hi); (try clear ho0); obtain ⟨Ao13, co13, eo13⟩ := Kd.R_slice HO377.out; subst eo13) | ((with_reducible refine gate_callee (f := 14) rfl ?_); refine goesL_ (some 14) rfl rfl Try.func14 (by kernel_rfl) rfl #[.slice Ao13 t375.length co13] rfl qM ?_; (with_reducible refine (spec_PlacesMany.calls k _ _ t375 t378 _ ?side1 ?side2 A5.out).mono ?_); (case side1 => repeat (first | exact (Kd.R_reads' HO377.out).2.2 | (with_reducible refine Kd.C_alloc ?_ _) | (with_reducible refine Kd.C_drewN ?_ _) | (with_reducible refine Kd.C_drew ?_))); (case side2 => exact (Kd.R_reads' HO377.out).2.1); rintro e w14 ⟨rfl, hb⟩; refine ⟨_, rfl, ?_⟩; have n0_ := Aside0.mk (Kd.R_below (qR HO377) hb); have n1_ := Aside0.mk (below_step qB hb); clear HO377; clear HB; have HO377 := n0_; have HB := n1_; clear n0_ n1_; (try clear hb); (try clear hb2); (try clear hk); (try clear hi)) | ((with_reducible refine gate_callee (f := 11) rfl ?_); refine goesL_ (some 16) rfl rfl Try.func11 (by kernel_rfl) rfl #[.slice A0 l0.length c0] rfl qM ?_; (with_reducible refine (laws_toQuadS.calls k _ _ l0 t379 _ ?side1 ?side2 A6.out).mono ?_); (case side1 => repeat (first | exact (Kd.C_below HR0.out HB.out) | (with_reducible refine Kd.C_alloc ?_ _) | (with_reducible refine Kd.C_drewN ?_ _) | (with_reducible refine Kd.C_drew ?_))); (case side2 => exact HC0.out); rintro e w15 ⟨v380, rfl, ho0, hb⟩; refine ⟨_, rfl, ?_⟩; have n0_ := Aside0.mk (Kd.R_elder' (qR HO377) (by first | exact Kd.R_base ho0 | exact Kd.R_base ho0) hb); have n1_ := Aside0.mk (Kd.R_lower (Kd.R_new' ho0 (Kd.R_lt (qR HO377))) (below_size qB)); have n2_ := Aside0.mk (below_step qB hb); clear HO377; clear HB; have HO377 := n0_; have HO381 := n1_; have HB := n2_; clear n0_ n1_ n2_; (try clear hb); (try clear hb2); (try clear hk); (try clear hi); (try clear ho0); obtain ⟨Ao16, co16, eo16⟩ := Kd.R_slice HO381.out; subst eo16) | ((with_reducible refine gate_callee (f := 15) rfl ?_); refine goesL_ (some 18) rfl rfl Try.func15 (by kernel_rfl) rfl #[.slice Ao16 t379.length co16] rfl qM ?_; (with_reducible refine (impl_PlacesMany.calls k _ _ t379 t382 _ ?side1 ?side2 A7.out).mono ?_); (case side1 => repeat (first | exact (Kd.R_reads' HO381.out).2.2 | (with_reducible refine Kd.C_alloc ?_ _) | (with_reducible refine Kd.C_drewN ?_ _) | (with_reducible refine Kd.C_drew ?_))); (case side2 => exact (Kd.R_reads' HO381.out).2.1); rintro e w17 ⟨rfl, hb⟩; refine ⟨_, rfl, ?_⟩; have n0_ := Aside0.mk (Kd.R_below (qR HO377) hb); have n1_ := Aside0.mk (Kd.R_below (qR HO381) hb); have n2_ := Aside0.mk (below_step qB hb); clear HO377; clear HO381; clear HB; have HO377 := n0_; have HO381 := n1_; have HB := n2_; clear n0_ n1_ n2_; (try clear hb); (try clear hb2); (try clear hk); (try clear hi)) | ((with_reducible refine gate_callee (f := 11) rfl ?_); refine goesL_ (some 24) rfl rfl Try.func11 (by kernel_rfl) rfl #[.slice A0 l0.length c0] rfl qM ?_; (with_reducible refine (laws_toQuadS.calls k _ _ l0 t383 _ ?side1 ?side2 A9.out).mono ?_); (case side1 => repeat (first | exact (Kd.C_below HR0.out HB.out) | (with_reducible refine Kd.C_alloc ?_ _) | (with_reducible refine Kd.C_drewN ?_ _) | (with_reducible refine Kd.C_drew ?_))); (case side2 => exact HC0.out); rintro e w18 ⟨v384, rfl, ho0, hb⟩; refine ⟨_, rfl, ?_⟩; have n0_ := Aside0.mk (Kd.R_elder' (qR HO377) (by first | exact Kd.R_base ho0 | exact Kd.R_base ho0) hb); have n1_ := Aside0.mk (Kd.R_elder' (qR HO381) (by first | exact Kd.R_base ho0 | exact Kd.R_base ho0) hb); have n2_ := Aside0.mk (Kd.R_lower (Kd.R_new' (Kd.R_new' ho0 (Kd.R_lt (qR HO377))) (Kd.R_lt (qR HO381))) (below_size qB)); have n3_ := Aside0.mk (below_step qB hb); clear HO377; clear HO381; clear HB; have HO377 := n0_; have HO381 := n1_; have HO385 := n2_; have HB := n3_; clear n0_ n1_ n2_ n3_; (try clear hb); (try clear hb2); (try clear hk); (try clear hi); (try clear ho0); obtain ⟨Ao19, co19, eo19⟩ := Kd.R_slice HO385.out; subst eo19) | ((with_reducible refine gate_callee (f := 13) rfl ?_); refine goesL_ (some 25) rfl rfl Try.func13 (by kernel_rfl) rfl #[.slice Ao16 t379.length co16, .slice Ao19 t383.length co19] rfl qM ?_; (with_reducible refine (laws_eqQuadS.calls k _ _ t379 _ _ t383 true _ ?side1 ?side2 ?side3 ?side4 A10.out).mono ?_); (case side1 => repeat (first | exact (Kd.R_reads' HO381.out).2.2 | (with_reducible refine Kd.C_alloc ?_ _) | (with_reducible refine Kd.C_drewN ?_ _) | (with_reducible refine Kd.C_drew ?_))); (case side2 => exact (Kd.R_reads' HO381.out).2.1); (case side3 => repeat (first | exact (Kd.R_reads' HO385.out).2.2 | (with_reducible refine Kd.C_alloc ?_ _) | (with_reducible refine Kd.C_drewN ?_ _) | (with_reducible refine Kd.C_drew ?_))); (case side4 => exact (Kd.R_reads' HO385.out).2.1); rintro e w20 ⟨rfl, hb⟩; refine ⟨_, rfl, ?_⟩; have n0_ := Aside0.mk (Kd.R_below (qR HO377) hb); have n1_ := Aside0.mk (Kd.R_below (qR HO381) hb); have n2_ := Aside0.mk (Kd.R_below (qR HO385) hb); have n3_ := Aside0.mk (below_step qB hb); clear HO377; clear HO381; clear HO385; clear HB; have HO377 := n0_; have HO381 := n1_; have HO385 := n2_; have HB := n3_; clear n0_ n1_ n2_ n3_; (try clear hb); (try clear hb2); (try clear hk); (try clear hi)))
    go_ret
    exact ⟨by first | rfl | (simp [errW_none, errW_some] <;> rfl) | (simp [*, errW_none, errW_some] <;> rfl), qB⟩
   ·replace c11 := Bool.eq_false_iff.mpr c11
    subst c11
    rw [if_neg (show ¬ (false = true) by decide)] at H
    obtain rfl := Option.some.inj H
    go_enter Try.func4, Try.ntmps4
    go_wp2_with (first | ((with_reducible refine gate_callee (f := 9) rfl ?_); refine goesL_ (some 9) rfl rfl Try.func9 (by kernel_rfl) rfl #[.slice A0 l0.length c0, .int .i64 1048576] rfl qM ?_; (with_reducible refine (laws_szQuadS.calls _ _ l0 1048576 t374 _ ?side1 ?side2 A2.out).mono ?_); (case side1 => repeat (first | exact HR0.out | (with_reducible refine Kd.C_alloc ?_ _) | (with_reducible refine Kd.C_drewN ?_ _) | (with_reducible refine Kd.C_drew ?_))); (case side2 => exact HC0.out); rintro e w' ⟨rfl, ⟨nd, rfl⟩⟩; refine ⟨_, rfl, ?_⟩) | ((with_reducible refine gate_callee (f := 11) rfl ?_); refine goesL_ (some 13) rfl rfl Try.func11 (by kernel_rfl) rfl #[.slice A0 l0.length c0] rfl qM ?_; (with_reducible refine (laws_toQuadS.calls k _ _ l0 t375 _ ?side1 ?side2 A4.out).mono ?_); (case side1 => repeat (first | exact HR0.out | (with_reducible refine Kd.C_alloc ?_ _) | (with_reducible refine Kd.C_drewN ?_ _) | (with_reducible refine Kd.C_drew ?_))); (case side2 => exact HC0.out); rintro e w21 ⟨v376, rfl, ho0, hb⟩; refine ⟨_, rfl, ?_⟩; have n0_ := Aside0.mk (Kd.R_lower ho0 (below_size qB)); have n1_ := Aside0.mk (below_step qB hb); clear HB; have HO377 := n0_; have HB := n1_; clear n0_ n1_; (try clear hb); (try clear hb2); (try clear hk); (try clear hi); (try clear ho0); obtain ⟨Ao22, co22, eo22⟩ := Kd.R_slice HO377.out; subst eo22) | ((with_reducible refine gate_callee (f := 14) rfl ?_); refine goesL_ (some 14) rfl rfl Try.func14 (by kernel_rfl) rfl #[.slice Ao22 t375.length co22] rfl qM ?_; (with_reducible refine (spec_PlacesMany.calls k _ _ t375 t378 _ ?side1 ?side2 A5.out).mono ?_); (case side1 => repeat (first | exact (Kd.R_reads' HO377.out).2.2 | (with_reducible refine Kd.C_alloc ?_ _) | (with_reducible refine Kd.C_drewN ?_ _) | (with_reducible refine Kd.C_drew ?_))); (case side2 => exact (Kd.R_reads' HO377.out).2.1); rintro e w23 ⟨rfl, hb⟩; refine ⟨_, rfl, ?_⟩; have n0_ := Aside0.mk (Kd.R_below (qR HO377) hb); have n1_ := Aside0.mk (below_step qB hb); clear HO377; clear HB; have HO377 := n0_; have HB := n1_; clear n0_ n1_; (try clear hb); (try clear hb2); (try clear hk); (try clear hi)) | ((with_reducible refine gate_callee (f := 11) rfl ?_); refine goesL_ (some 16) rfl rfl Try.func11 (by kernel_rfl) rfl #[.slice A0 l0.length c0] rfl qM ?_; (with_reducible refine (laws_toQuadS.calls k _ _ l0 t379 _ ?side1 ?side2 A6.out).mono ?_); (case side1 => repeat (first | exact (Kd.C_below HR0.out HB.out) | (with_reducible refine Kd.C_alloc ?_ _) | (with_reducible refine Kd.C_drewN ?_ _) | (with_reducible refine Kd.C_drew ?_))); (case side2 => exact HC0.out); rintro e w24 ⟨v380, rfl, ho0, hb⟩; refine ⟨_, rfl, ?_⟩; have n0_ := Aside0.mk (Kd.R_elder' (qR HO377) (by first | exact Kd.R_base ho0 | exact Kd.R_base ho0) hb); have n1_ := Aside0.mk (Kd.R_lower (Kd.R_new' ho0 (Kd.R_lt (qR HO377))) (below_size qB)); have n2_ := Aside0.mk (below_step qB hb); clear HO377; clear HB; have HO377 := n0_; have HO381 := n1_; have HB := n2_; clear n0_ n1_ n2_; (try clear hb); (try clear hb2); (try clear hk); (try clear hi); (try clear ho0); obtain ⟨Ao25, co25, eo25⟩ := Kd.R_slice HO381.out; subst eo25) | ((with_reducible refine gate_callee (f := 15) rfl ?_); refine goesL_ (some 18) rfl rfl Try.func15 (by kernel_rfl) rfl #[.slice Ao25 t379.length co25] rfl qM ?_; (with_reducible refine (impl_PlacesMany.calls k _ _ t379 t382 _ ?side1 ?side2 A7.out).mono ?_); (case side1 => repeat (first | exact (Kd.R_reads' HO381.out).2.2 | (with_reducible refine Kd.C_alloc ?_ _) | (with_reducible refine Kd.C_drewN ?_ _) | (with_reducible refine Kd.C_drew ?_))); (case side2 => exact (Kd.R_reads' HO381.out).2.1); rintro e w26 ⟨rfl, hb⟩; refine ⟨_, rfl, ?_⟩; have n0_ := Aside0.mk (Kd.R_below (qR HO377) hb); have n1_ := Aside0.mk (Kd.R_below (qR HO381) hb); have n2_ := Aside0.mk (below_step qB hb); clear HO377; clear HO381; clear HB; have HO377 := n0_; have HO381 := n1_; have HB := n2_; clear n0_ n1_ n2_; (try clear hb); (try clear hb2); (try clear hk); (try clear hi)) | ((with_reducible refine gate_callee (f := 11) rfl ?_); refine goesL_ (some 24) rfl rfl Try.func11 (by kernel_rfl) rfl #[.slice A0 l0.length c0] rfl qM ?_; (with_reducible refine (laws_toQuadS.calls k _ _ l0 t383 _ ?side1 ?side2 A9.out).mono ?_); (case side1 => repeat (first | exact (Kd.C_below HR0.out HB.out) | (with_reducible refine Kd.C_alloc ?_ _) | (with_reducible refine Kd.C_drewN ?_ _) | (with_reducible refine Kd.C_drew ?_))); (case side2 => exact HC0.out); rintro e w27 ⟨v384, rfl, ho0, hb⟩; refine ⟨_, rfl, ?_⟩; have n0_ := Aside0.mk (Kd.R_elder' (qR HO377) (by first | exact Kd.R_base ho0 | exact Kd.R_base ho0) hb); have n1_ := Aside0.mk (Kd.R_elder' (qR HO381) (by first | exact Kd.R_base ho0 | exact Kd.R_base ho0) hb); have n2_ := Aside0.mk (Kd.R_lower (Kd.R_new' (Kd.R_new' ho0 (Kd.R_lt (qR HO377))) (Kd.R_lt (qR HO381))) (below_size qB)); have n3_ := Aside0.mk (below_step qB hb); clear HO377; clear HO381; clear HB; have HO377 := n0_; have HO381 := n1_; have HO385 := n2_; have HB := n3_; clear n0_ n1_ n2_ n3_; (try clear hb); (try clear hb2); (try clear hk); (try clear hi); (try clear ho0); obtain ⟨Ao28, co28, eo28⟩ := Kd.R_slice HO385.out; subst eo28) | ((with_reducible refine gate_callee (f := 13) rfl ?_); refine goesL_ (some 25) rfl rfl Try.func13 (by kernel_rfl) rfl #[.slice Ao25 t379.length co25, .slice Ao28 t383.length co28] rfl qM ?_; (with_reducible refine (laws_eqQuadS.calls k _ _ t379 _ _ t383 false _ ?side1 ?side2 ?side3 ?side4 A10.out).mono ?_); (case side1 => repeat (first | exact (Kd.R_reads' HO381.out).2.2 | (with_reducible refine Kd.C_alloc ?_ _) | (with_reducible refine Kd.C_drewN ?_ _) | (with_reducible refine Kd.C_drew ?_))); (case side2 => exact (Kd.R_reads' HO381.out).2.1); (case side3 => repeat (first | exact (Kd.R_reads' HO385.out).2.2 | (with_reducible refine Kd.C_alloc ?_ _) | (with_reducible refine Kd.C_drewN ?_ _) | (with_reducible refine Kd.C_drew ?_))); (case side4 => exact (Kd.R_reads' HO385.out).2.1); rintro e w29 ⟨rfl, hb⟩; refine ⟨_, rfl, ?_⟩; have n0_ := Aside0.mk (Kd.R_below (qR HO377) hb); have n1_ := Aside0.mk (Kd.R_below (qR HO381) hb); have n2_ := Aside0.mk (Kd.R_below (qR HO385) hb); have n3_ := Aside0.mk (below_step qB hb); clear HO377; clear HO381; clear HO385; clear HB; have HO377 := n0_; have HO381 := n1_; have HO385 := n2_; have HB := n3_; clear n0_ n1_ n2_ n3_; (try clear hb); (try clear hb2); (try clear hk); (try clear hi)))
    go_ret
    exact ⟨by first | rfl | (simp [errW_none, errW_some] <;> rfl) | (simp [*, errW_none, errW_some] <;> rfl), qB⟩
  ·rw [if_neg c8] at H
   have c8b0 : (t382 == t378) = false := beq_eq_false_iff_ne.mpr c8
   have c8b1 : (t382 != t378) = true := bne_iff_ne.mpr c8
   obtain rfl := Option.some.inj H
   go_enter Try.func4, Try.ntmps4
   go_wp2_with (first | ((with_reducible refine gate_callee (f := 9) rfl ?_); refine goesL_ (some 9) rfl rfl Try.func9 (by kernel_rfl) rfl #[.slice A0 l0.length c0, .int .i64 1048576] rfl qM ?_; (with_reducible refine (laws_szQuadS.calls _ _ l0 1048576 t374 _ ?side1 ?side2 A2.out).mono ?_); (case side1 => repeat (first | exact HR0.out | (with_reducible refine Kd.C_alloc ?_ _) | (with_reducible refine Kd.C_drewN ?_ _) | (with_reducible refine Kd.C_drew ?_))); (case side2 => exact HC0.out); rintro e w' ⟨rfl, ⟨nd, rfl⟩⟩; refine ⟨_, rfl, ?_⟩) | ((with_reducible refine gate_callee (f := 11) rfl ?_); refine goesL_ (some 13) rfl rfl Try.func11 (by kernel_rfl) rfl #[.slice A0 l0.length c0] rfl qM ?_; (with_reducible refine (laws_toQuadS.calls k _ _ l0 t375 _ ?side1 ?side2 A4.out).mono ?_); (case side1 => repeat (first | exact HR0.out | (with_reducible refine Kd.C_alloc ?_ _) | (with_reducible refine Kd.C_drewN ?_ _) | (with_reducible refine Kd.C_drew ?_))); (case side2 => exact HC0.out); rintro e w30 ⟨v376, rfl, ho0, hb⟩; refine ⟨_, rfl, ?_⟩; have n0_ := Aside0.mk (Kd.R_lower ho0 (below_size qB)); have n1_ := Aside0.mk (below_step qB hb); clear HB; have HO377 := n0_; have HB := n1_; clear n0_ n1_; (try clear hb); (try clear hb2); (try clear hk); (try clear hi); (try clear ho0); obtain ⟨Ao31, co31, eo31⟩ := Kd.R_slice HO377.out; subst eo31) | ((with_reducible refine gate_callee (f := 14) rfl ?_); refine goesL_ (some 14) rfl rfl Try.func14 (by kernel_rfl) rfl #[.slice Ao31 t375.length co31] rfl qM ?_; (with_reducible refine (spec_PlacesMany.calls k _ _ t375 t378 _ ?side1 ?side2 A5.out).mono ?_); (case side1 => repeat (first | exact (Kd.R_reads' HO377.out).2.2 | (with_reducible refine Kd.C_alloc ?_ _) | (with_reducible refine Kd.C_drewN ?_ _) | (with_reducible refine Kd.C_drew ?_))); (case side2 => exact (Kd.R_reads' HO377.out).2.1); rintro e w32 ⟨rfl, hb⟩; refine ⟨_, rfl, ?_⟩; have n0_ := Aside0.mk (Kd.R_below (qR HO377) hb); have n1_ := Aside0.mk (below_step qB hb); clear HO377; clear HB; have HO377 := n0_; have HB := n1_; clear n0_ n1_; (try clear hb); (try clear hb2); (try clear hk); (try clear hi)) | ((with_reducible refine gate_callee (f := 11) rfl ?_); refine goesL_ (some 16) rfl rfl Try.func11 (by kernel_rfl) rfl #[.slice A0 l0.length c0] rfl qM ?_; (with_reducible refine (laws_toQuadS.calls k _ _ l0 t379 _ ?side1 ?side2 A6.out).mono ?_); (case side1 => repeat (first | exact (Kd.C_below HR0.out HB.out) | (with_reducible refine Kd.C_alloc ?_ _) | (with_reducible refine Kd.C_drewN ?_ _) | (with_reducible refine Kd.C_drew ?_))); (case side2 => exact HC0.out); rintro e w33 ⟨v380, rfl, ho0, hb⟩; refine ⟨_, rfl, ?_⟩; have n0_ := Aside0.mk (Kd.R_elder' (qR HO377) (by first | exact Kd.R_base ho0 | exact Kd.R_base ho0) hb); have n1_ := Aside0.mk (Kd.R_lower (Kd.R_new' ho0 (Kd.R_lt (qR HO377))) (below_size qB)); have n2_ := Aside0.mk (below_step qB hb); clear HO377; clear HB; have HO377 := n0_; have HO381 := n1_; have HB := n2_; clear n0_ n1_ n2_; (try clear hb); (try clear hb2); (try clear hk); (try clear hi); (try clear ho0); obtain ⟨Ao34, co34, eo34⟩ := Kd.R_slice HO381.out; subst eo34) | ((with_reducible refine gate_callee (f := 15) rfl ?_); refine goesL_ (some 18) rfl rfl Try.func15 (by kernel_rfl) rfl #[.slice Ao34 t379.length co34] rfl qM ?_; (with_reducible refine (impl_PlacesMany.calls k _ _ t379 t382 _ ?side1 ?side2 A7.out).mono ?_); (case side1 => repeat (first | exact (Kd.R_reads' HO381.out).2.2 | (with_reducible refine Kd.C_alloc ?_ _) | (with_reducible refine Kd.C_drewN ?_ _) | (with_reducible refine Kd.C_drew ?_))); (case side2 => exact (Kd.R_reads' HO381.out).2.1); rintro e w35 ⟨rfl, hb⟩; refine ⟨_, rfl, ?_⟩; have n0_ := Aside0.mk (Kd.R_below (qR HO377) hb); have n1_ := Aside0.mk (Kd.R_below (qR HO381) hb); have n2_ := Aside0.mk (below_step qB hb); clear HO377; clear HO381; clear HB; have HO377 := n0_; have HO381 := n1_; have HB := n2_; clear n0_ n1_ n2_; (try clear hb); (try clear hb2); (try clear hk); (try clear hi)))
   go_ret
   exact ⟨by first | rfl | (simp [errW_none, errW_some] <;> rfl) | (simp [*, errW_none, errW_some] <;> rfl), qB⟩
end Go.Proofs.Ytahbkldagpfcaaa.M
namespace Go.Proofs.Ytahbkldagpfcaaa.M
open Go.RowKit Go.Proofs.YtahbkldagpfcaaaW.PrintWords Go.Proofs.YtahbkldagpfcaaaW.PrintLast Go.Proofs.YtahbkldagpfcaaaW.PrintMore PM
def onP (P : List Nat) (t : Nat) (os : List Nat) : Nat := os.foldl (fun t s => t ||| 2 ^ P.getD s 0) t
theorem onP_lt {P : List Nat} (hP : ∀ j, j < 12 → P.getD j 0 < 12) : ∀ (os : List Nat) (t : Nat), (∀ s ∈ os, s < 12) → t < 4096 → onP P t os < 4096
  | [], t, ho, h => h
  | s :: os, t, ho, h => onP_lt hP os _ (fun x hx => ho x (List.mem_cons_of_mem _ hx)) (or_lt (n := 12) h (pow16 (hP s (ho s List.mem_cons_self))))
theorem onP_bit (P : List Nat) (x : Nat) : ∀ (os : List Nat) (t : Nat), (onP P t os).testBit x = true ↔ t.testBit x = true ∨ ∃ s ∈ os, P.getD s 0 = x
  | [], t => by simp [onP]
  | s :: os, t => by
    have := onP_bit P x os (t ||| 2 ^ P.getD s 0)
    rw [show onP P t (s :: os) = onP P (t ||| 2 ^ P.getD s 0) os from rfl, this, Nat.testBit_or, Bool.or_eq_true, Nat.testBit_two_pow, decide_eq_true_eq, or_assoc]
    refine or_congr Iff.rfl ?_
    simp only [List.mem_cons, exists_eq_or_imp]
theorem impl_PlacesMany.in {c : List SQ} {P : List Nat} (hl : P.length = 12) (hP : ∀ j, j < 12 → P.getD j 0 < 12) {i : Nat} {os : List Nat} (ho : ∀ s ∈ os, s < 12) (h12 : os.length ≤ 12) {v : Int} : ∀ (d p : Nat), p + d = os.length → ∀ t : Nat, t < 4096 → Ev (fun k => impl_PlacesMany.l0 k (ints P) ((onP P t (os.drop p) : Nat) : Int) c (c.length : Int) (wrap64 ((i : Int) + 1))) v → Ev (fun k => impl_PlacesMany.l1 k (ints P) (t : Int) c (c.length : Int) (i : Int) (ints os) (os.length : Int) (p : Int)) v
  | 0, p, hp, t, ht, g => by
    refine Ev.succ ?_
    simp only [impl_PlacesMany.l1]
    rw [List.drop_eq_nil_of_le (by omega)] at g
    exact Ev.neg g
  | d + 1, p, hp, t, ht, g => by
    refine Ev.succ ?_
    have hs := ho (os.getD p 0) (getD_mem (by omega))
    have hq := hP _ hs
    have hw := pow16 hq
    simp only [impl_PlacesMany.l1, ints_len, rd_ints, wrap_up (show p < 9223372036854775807 by omega), shl_one hq, bits_or (show t < 65536 by omega) (show 2 ^ P.getD (os.getD p 0) 0 < 65536 by omega)]
    refine Ev.pos (Ev.pos (Ev.pos (Ev.pos (Ev.pos (Ev.pos (impl_PlacesMany.in hl hP ho h12 d (p + 1) (by omega) _ (or_lt (n := 12) ht hw) ?_))))))
    rw [List.drop_eq_getElem_cons (show p < os.length by omega)] at g
    rw [show os.getD p 0 = os[p]'(by omega) from by rw [List.getD_eq_getElem?_getD, List.getElem?_eq_getElem (by omega)]; rfl]
    exact g
theorem impl_PlacesMany.out {c : List SQ} (h : CV (qs c)) {P : List Nat} (hl : P.length = 12) (hP : ∀ j, j < 12 → P.getD j 0 < 12) {v : Int} (g : ∀ t : Nat, t < 4096 → (∀ x, t.testBit x = true ↔ Us c P c.length 0 x) → v = ((lst t).length : Int)) :
    ∀ (d i : Nat), i + d = c.length → ∀ t : Nat, t < 4096 → (∀ x, t.testBit x = true ↔ Us c P i 0 x) → Ev (fun k => impl_PlacesMany.l0 k (ints P) (t : Int) c (c.length : Int) (i : Int)) v
  | 0, i, hi, t, ht, hb => by
    refine Ev.succ ?_
    simp only [impl_PlacesMany.l0]
    rw [show i = c.length from by omega] at hb
    refine Ev.neg (Ev.bind (impl_regSet_list.ev (show t < 65536 by omega)) (Ev.eq Ev.pure ?_))
    rw [g t ht hb, ints_len]
  | d + 1, i, hi, t, ht, hb => by
    have h6 := cv600 h
    have hq := cv_at h (show i < c.length by omega)
    have h12 := sets_lt hq
    have hu := usesN_lt hq
    have hw := wrap_up (show i < 9223372036854775807 by omega)
    have key : ∀ s : Nat, s < 4096 → (∀ r, r < 12 → (s.testBit r = true ↔ Oc (q_ (qa c i)) r)) → Ev (fun k => impl_PlacesMany.j1 k (ints P) (t : Int) (s : Int) c (c.length : Int) (i : Int)) v := by
      intro s hs hsb
      refine Ev.succ ?_
      simp only [impl_PlacesMany.j1]
      refine Ev.bind (impl_regSet_list.ev (by omega)) ?_
      have hm : ∀ x ∈ lst s, x < 12 := fun x hx => (lst_mem.1 hx).1
      rw [ints_len]
      refine impl_PlacesMany.in hl hP hm (lst_len s) (lst s).length 0 (by omega) t ht ?_
      rw [hw]
      refine impl_PlacesMany.out h hl hP g d (i + 1) (by omega) _ (onP_lt hP _ _ (fun x hx => hm x (by simpa using hx)) ht) fun x => ?_
      rw [onP_bit, hb x, ← Us.next]
      unfold Us
      constructor
      · rintro ((y | ⟨_, y, _⟩) | ⟨r, y1, y2⟩)
        · exact .inl y
        · omega
        · have := lst_mem.1 (show r ∈ lst s by simpa using y1)
          exact .inr ⟨r, this.1, (hsb r this.1).1 this.2, y2⟩
      · rintro (y | ⟨r, y1, y2, y3⟩)
        · exact .inl (.inl y)
        · exact .inr ⟨r, by simpa using lst_mem.2 ⟨y1, (hsb r y1).2 y2⟩, y3⟩
    refine Ev.succ ?_
    simp only [impl_PlacesMany.l0, rd_qa]
    refine Ev.pos (Ev.pos (Ev.pos (Ev.bind (impl_usesOf.ev (q := q_ (qa c i)) hq) (Ev.bind (Ev.const (impl_setsOf.e (q_ (qa c i)))) ?_))))
    by_cases h0 : sets (q_ (qa c i)) ≥ 0
    · obtain ⟨r, er⟩ : ∃ r : Nat, sets (q_ (qa c i)) = r := ⟨(sets (q_ (qa c i))).toNat, by omega⟩
      have hp := pow16 (r := r) (by omega)
      rw [er, shl_one (by omega), bits_or (by omega) (by omega)]
      refine Ev.pos (Ev.pos (key _ (or_lt (n := 12) hu hp) fun x hx => ?_))
      rw [Nat.testBit_or, Bool.or_eq_true, usesN_bit hq, decide_eq_true_eq, Nat.testBit_two_pow, decide_eq_true_eq]
      unfold Oc
      rw [er]
      constructor
      · rintro (y | y)
        · exact .inr y
        · exact .inl (by omega)
      · rintro (y | y)
        · exact .inr (by omega)
        · exact .inl y
    · refine Ev.neg (key _ hu fun x hx => ?_)
      rw [usesN_bit hq, decide_eq_true_eq]
      unfold Oc
      refine ⟨.inr, fun y => y.elim (fun z => ?_) id⟩
      omega
theorem many_ev (c : List SQ) : ∃ v, Ev (fun k => spec_PlacesMany.f k c) v ∧ Ev (fun k => impl_PlacesMany.f k c) v := by
  by_cases h : CV (qs c)
  · obtain ⟨P, hl, hle, e1, e2⟩ := places_ev c h
    have hP : ∀ j, j < 12 → P.getD j 0 < 12 := fun j hj => by have := hle j hj; omega
    obtain ⟨t, ht, hb⟩ : ∃ t, t < 4096 ∧ ∀ x, t.testBit x = true ↔ Us c P c.length 0 x := by
      have : ∀ n, ∃ t, t < 4096 ∧ ∀ x, t.testBit x = true ↔ x < n ∧ x < 12 ∧ Us c P c.length 0 x := by
        intro n
        induction n with
        | zero => exact ⟨0, by decide, fun x => by simp⟩
        | succ n ih =>
          obtain ⟨t, h1, h2⟩ := ih
          by_cases hn : n < 12 ∧ Us c P c.length 0 n
          · refine ⟨t ||| 2 ^ n, or_lt (n := 12) h1 (pow16 hn.1), fun x => ?_⟩
            rw [Nat.testBit_or, Bool.or_eq_true, h2 x, Nat.testBit_two_pow, decide_eq_true_eq]
            constructor
            · rintro (y | y)
              · exact ⟨by omega, y.2⟩
              · subst y
                exact ⟨by omega, hn⟩
            · rintro ⟨y1, y2⟩
              by_cases e : n = x
              · exact .inr e
              · exact .inl ⟨by omega, y2⟩
          · refine ⟨t, h1, fun x => ?_⟩
            rw [h2 x]
            refine ⟨fun y => ⟨by omega, y.2⟩, fun y => ⟨?_, y.2⟩⟩
            have := y.1
            by_cases e : x = n
            · exact absurd (e ▸ y.2) hn
            · omega
      obtain ⟨t, h1, h2⟩ := this 12
      refine ⟨t, h1, fun x => (h2 x).trans ⟨fun y => y.2.2, fun y => ?_⟩⟩
      have hx : x < 12 := by
        rcases y with ⟨j, _, s, hs, _, e⟩ | ⟨s, hs, _⟩
        · rw [← e]
          exact hP s hs
        · omega
      exact ⟨hx, hx, y⟩
    refine ⟨((lst t).length : Int), ?_, ?_⟩
    · simp only [spec_PlacesMany.f]
      refine Ev.bind (spec_CodeValid.ev c) (Ev.pos (Ev.bind e1 ?_) (decide_eq_true h))
      refine spec_PlacesMany.out h hl hP (fun S hS => ?_) c.length 0 (by omega) [] ⟨by simp, by simp, fun x => ?_⟩
      · have a1 := len_le S (lst t) hS.1 fun x hx => lst_mem.2 ⟨hS.2.1 x hx, (hb x).2 ((hS.2.2 x).1 hx)⟩
        have a2 := len_le (lst t) S (List.Nodup.sublist List.filter_sublist List.nodup_range) fun x hx => (hS.2.2 x).2 ((hb x).1 (lst_mem.1 hx).2)
        omega
      · simp [Us]
    · simp only [impl_PlacesMany.f]
      refine Ev.bind (impl_CodeValid.ev c) (Ev.pos (Ev.bind e2 ?_) (decide_eq_true h))
      refine impl_PlacesMany.out h hl hP (fun t' h1 h2 => ?_) c.length 0 (by omega) 0 (by decide) fun x => ?_
      · rw [set_ext h1 ht fun x _ => Bool.eq_iff_iff.2 ((h2 x).trans (hb x).symm)]
      · simp [Us]
  · refine ⟨-1, ?_, ?_⟩
    · simp only [spec_PlacesMany.f]
      exact Ev.bind (spec_CodeValid.ev c) (Ev.neg Ev.pure (fun x => h (of_decide_eq_true x)))
    · simp only [impl_PlacesMany.f]
      exact Ev.bind (impl_CodeValid.ev c) (Ev.neg Ev.pure (fun x => h (of_decide_eq_true x)))
theorem law_PlacesMany {l : List LQ} (h : l.length ≤ 9223372036854775807) : Ev (fun k => laws_FnExactPlacesMany.f k l) true := by
  obtain ⟨t, e, ht⟩ := laws_szQuadS.e h
  simp only [laws_FnExactPlacesMany.f, e]
  refine Ev.some ?_
  by_cases c : t < 0
  · exact Ev.pos Ev.pure
  refine Ev.neg ?_
  have hl := ht c
  obtain ⟨v, e1, e2⟩ := many_ev (l.map toQ)
  have hQ := laws_toQuadS.ev hl
  exact Ev.bind hQ (Ev.bind e1 (Ev.bind hQ (Ev.bind e2 (Ev.pos (Ev.bind hQ (Ev.bind (laws_eqQuadS.ev (by simpa using hl)) (Ev.pos Ev.pure))) rfl))))
end Go.Proofs.Ytahbkldagpfcaaa.M
namespace Go.Proofs.Ytahbkldagpfcaaa.M
open Go.ChangeShapes Go.WideShapes Go.ChangeAt Go.RowKit Go.Joins Go.Deep Go.Proofs.YtahbkldagpfcaaaW.PrintWords
theorem own : ownKnob Try.prog.godebug = none := by kernel_rfl
theorem laidOut : laidOutB Try.prog = true := by kernel_rfl
section
variable {H : Type} {enc : TypeId × Value → H} {P : Program} {w : World} {base : Nat} {spare : Nat → Bool} {held : Bool}
theorem open_cells5 {t : TypeId} {f0 f1 f2 f3 f4 : Field} {fuel : Nat} {cs : List Value} {x : DataW H × List MemPlace} (hs : P.underlying t = some (.struct #[f0, f1, f2, f3, f4])) (hone : oneCellFields P #[f0, f1, f2, f3, f4] = true) (hC : P.cellsOf t = 5)
    (h : DataW.trod enc P w base spare held fuel t cs = some x) :
    ∃ (v0 v1 v2 v3 v4 : Value) (y0 y1 y2 y3 y4 : DataW H × List MemPlace) (n : Nat), cs = [v0, v1, v2, v3, v4] ∧
      DataW.trod enc P w base spare held n f0.type [v0] = some y0 ∧ DataW.trod enc P w base spare held n f1.type [v1] = some y1 ∧ DataW.trod enc P w base spare held n f2.type [v2] = some y2 ∧ DataW.trod enc P w base spare held n f3.type [v3] = some y3 ∧ DataW.trod enc P w base spare held n f4.type [v4] = some y4 := by
  obtain ⟨xs, n, _, hx, hl, hlen, hg⟩ := DataW.trod_struct hs h
  obtain ⟨o0, k0⟩ := hone_of hone 0 f0 rfl
  obtain ⟨o1, k1⟩ := hone_of hone 1 f1 rfl
  obtain ⟨o2, k2⟩ := hone_of hone 2 f2 rfl
  obtain ⟨o3, k3⟩ := hone_of hone 3 f3 rfl
  obtain ⟨o4, k4⟩ := hone_of hone 4 f4 rfl
  match cs, hl.trans hC, xs, hlen with
  | [c0, c1, c2, c3, c4], _, [y0, y1, y2, y3, y4], _ =>
    exact ⟨c0, c1, c2, c3, c4, y0, y1, y2, y3, y4, n, rfl, by simpa [o0, k0] using hg 0 f0 rfl, by simpa [o1, k1] using hg 1 f1 rfl, by simpa [o2, k2] using hg 2 f2 rfl, by simpa [o3, k3] using hg 3 f3 rfl, by simpa [o4, k4] using hg 4 f4 rfl⟩
end
/-- A slice of quads is a row of quads. -/
theorem open_quads {H : Type} {enc : TypeId × Value → H} {w : World} {spare : Nat → Bool} {held : Bool} {a : Option Addr} {len cap : Nat} {d : DataW H} {p : List MemPlace} (h : DataW.Trod enc Try.prog w 0 spare held 22 (.slice a len cap) d p) :
    ∃ l : List S48, l.length = len ∧ len ≤ cap ∧ Kd.C k48 w a len l := by
  obtain ⟨fuel, hf⟩ := h
  rcases open_slice Try.underlying22 hf with ⟨hcs, _⟩ | ⟨ad, l, c, m, n, D, Pl, hcs, _, hl, hm, hmm, _, hel⟩
  · simp [Value.cells] at hcs
    obtain ⟨rfl, rfl, rfl⟩ := hcs
    exact ⟨[], rfl, Nat.le_refl _, Kd.C_nil _ _⟩
  · simp [Value.cells] at hcs
    obtain ⟨rfl, rfl, rfl⟩ := hcs
    have hC : Try.prog.cellsOf 48 = 5 := by kernel_rfl
    have hle : len ≤ m := by rw [hmm]; split <;> omega
    have key : ∀ i, i < len → ∃ x : S48, ∀ j u, [Value.int .i64 x.f0, .int .i64 x.f1, .int .i64 x.f2, .int .i64 x.f3, .int .i64 x.f4][j]? = some u → w.cell? (ad.add (i * 5 + j)) = some u := by
      intro i hi
      obtain ⟨cs, h1, h2⟩ := hel i (by omega)
      rw [hC] at h1
      obtain ⟨v0, v1, v2, v3, v4, y0, y1, y2, y3, y4, k, rfl, g0, g1, g2, g3, g4⟩ := open_cells5 Try.underlying48 (by kernel_rfl) hC h2
      obtain ⟨x0, e0, _, _⟩ := DataW.trod_int Try.underlying3 g0
      obtain ⟨x1, e1, _, _⟩ := DataW.trod_int Try.underlying3 g1
      obtain ⟨x2, e2, _, _⟩ := DataW.trod_int Try.underlying3 g2
      obtain ⟨x3, e3, _, _⟩ := DataW.trod_int Try.underlying3 g3
      obtain ⟨x4, e4, _, _⟩ := DataW.trod_int Try.underlying3 g4
      simp at e0 e1 e2 e3 e4
      subst e0 e1 e2 e3 e4
      refine ⟨⟨x0, x1, x2, x3, x4⟩, fun j u hu => ?_⟩
      have hc := (World.cells?_some h1).2.2 j
      rw [← Deep.add_add]
      have hj : j < 5 := by
        rcases Nat.lt_or_ge j 5 with h | h
        · exact h
        · rw [List.getElem?_eq_none (by simpa using h)] at hu
          cases hu
      rw [← hu]
      exact hc hj
    refine ⟨(List.range len).map fun i => if h : i < len then Classical.choose (key i h) else z48, by simp, hl, by simp, by unfold maxLen at hm; omega, fun _ => ⟨ad, rfl, fun j x hx => ?_⟩⟩
    obtain ⟨hj, e⟩ := List.getElem?_eq_some_iff.1 hx
    have hj' : j < len := by simpa using hj
    simp only [List.getElem_map, List.getElem_range, dif_pos hj'] at e
    subst e
    exact ⟨_, rfl, Kd.K_of_M _ (k48_mkM w 0 (fun _ => True) _), fun i u hu => Classical.choose_spec (key j hj') i u hu⟩
theorem C_bound {w : World} {a : Option Addr} {n : Nat} {l : List S48} (h : Kd.C k48 w a n l) : l.length ≤ 9223372036854775807 := by
  rw [Kd.C_len h]
  exact Kd.C_max h
end Go.Proofs.Ytahbkldagpfcaaa.M
namespace Go.Proofs.Ytahbkldagpfcaaa
open Go.ChangeShapes Go.WideShapes Go.ChangeAt Go.RowKit
namespace fnExactPlacesMany
set_option maxRecDepth 100000 in
theorem lifted (os : Os) (started : os.Started) (H : Type) (enc : TypeId × Value → H) :
    ReturnsInHanded {} Try.checked os 4 .any (Rows.fnExactPlacesManySpec.pre6 enc Try.prog Try.f4 Rows.fnExactPlacesManyRow.domain false) (Rows.fnExactPlacesManySpec.post enc Try.prog Try.f4 false true false false) := by
  refine returnsInHanded_of_change_sized (C := Try.checked) M.own started (by kernel_rfl) Try.func4
    (ChangeSpec.witness6 (enc := enc) (C := Try.checked) false ⟨#[], #[.slice none 0 0], []⟩ 8 (by kernel_rfl) (by kernel_rfl) (by kernel_rfl) (by kernel_rfl)) ?_
  intro W base args ds gs before hval0 hW hcnd hsz0 _
  have hval : ∀ (j : Nat) t v, Try.f4.params[j]? = some t → args[j]? = some v → Value.okWide Try.prog W .any base t v := hval0
  have hW' := hW
  obtain ⟨p, q, hA0, hV, rfl, hfz, hnd⟩ := hW
  have hA : DataW.TrodAll enc Try.prog W 0 (fun _ => true) true Try.f4.params.toList args.toList ds p := hA0
  rw [Try.params4] at hA hval
  obtain ⟨v0, vs0, d0, ds0, p0, q0, hargs, rfl, rfl, h0, r0⟩ := trodAll_cons hA
  obtain ⟨rfl, rfl, rfl⟩ := trodAll_nil r0
  obtain rfl : args = #[v0] := by cases args; simp_all
  obtain ⟨rfl, rfl⟩ := trodVars_none hV
  have k0 := h0
  have lt0 : ∀ x ∈ p0, x.block < W.heap.size := by obtain ⟨m, hm⟩ := k0; exact DataW.trod_lt m _ _ _ hm
  obtain ⟨a0, len0, cap0, rfl⟩ := okWide_slice Try.underlying22 (hval 0 22 v0 rfl rfl)
  obtain ⟨l, rfl, hc0, hC⟩ := M.open_quads h0
  clear hA0 hval0 hsz0
  obtain ⟨k, hk⟩ := (M.law_PlacesMany (l := l) (M.C_bound hC)).get
  refine (M.laws_FnExactPlacesMany.calls k a0 cap0 l true W hC hc0 hk).mono fun e W' ⟨he, bel⟩ => ?_
  subst he
  exact ⟨_, rfl, _, _, _, [], _, [], hW', trodAll_mk1 (shut_bool Try.underlying4 _), (trodAll_cons_mk (Below.trod M.laidOut (by kernel_rfl) (of_decide_eq_true (by kernel_rfl)) k0 bel lt0) trodAll_mk0), rfl, bel.frame _, fun h => by cases h⟩
theorem over : Rows.fnExactPlacesManyRow.holds Try.pinned (OpenSpec.ofChange Rows.fnExactPlacesManySpec) :=
  OpenClaim.holds_of_wide 4 Try.f4 rfl rfl rfl rfl rfl rfl rfl ⟨rfl, rfl, rfl, rfl, rfl⟩ rfl rfl rfl rfl rfl (by kernel_rfl) Try.func4 (by kernel_rfl)
    (of_decide_eq_true (by kernel_rfl)) (by unfold Func.isWrapper; first | (rw [if_pos (by decide +kernel)]; kernel_rfl) | (rw [if_neg (by decide +kernel)]; exact ⟨rfl, rfl⟩))
    (fun os started H enc _ => lifted os started H enc)
end fnExactPlacesMany
theorem fnExactPlacesMany_holds : Rows.FnExactPlacesManySaid := fnExactPlacesMany.over
end Go.Proofs.Ytahbkldagpfcaaa
