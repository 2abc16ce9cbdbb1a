/- Plain laws on the text of an instruction: its length, its first letter, what parts two texts. -/
import Derived.Test.YthmfkdlncnjjoaaDoorTw
namespace Go.Proofs.YthmfkdlncnjjoaaDoor
open Go.RowKit IM
set_option linter.unusedSimpArgs false
set_option linter.unusedVariables false
theorem nd_bd (u : Nat) : (u < 100 → Lib.nDigits u ≤ 2) ∧ (u < 10000 → Lib.nDigits u ≤ 4) ∧ (u < 10000000 → Lib.nDigits u ≤ 7) := by
  have step : ∀ v, ¬ v < 10 → Lib.nDigits v = Lib.nDigits (v / 10) + 1 := fun v h => by rw [Lib.nDigits.eq_def, dif_neg h]
  have one : ∀ v, v < 10 → Lib.nDigits v = 1 := fun v h => by rw [Lib.nDigits.eq_def, dif_pos h]
  have s1 : ∀ v, v < 100 → Lib.nDigits v ≤ 2 := fun v h => by
    by_cases h1 : v < 10
    · rw [one v h1]; omega
    · rw [step v h1, one _ (by omega)]; omega
  have s2 : ∀ v, v < 1000 → Lib.nDigits v ≤ 3 := fun v h => by
    by_cases h1 : v < 10
    · rw [one v h1]; omega
    · have := s1 (v / 10) (by omega); rw [step v h1]; omega
  have s3 : ∀ v, v < 10000 → Lib.nDigits v ≤ 4 := fun v h => by
    by_cases h1 : v < 10
    · rw [one v h1]; omega
    · have := s2 (v / 10) (by omega); rw [step v h1]; omega
  have s4 : ∀ v, v < 100000 → Lib.nDigits v ≤ 5 := fun v h => by
    by_cases h1 : v < 10
    · rw [one v h1]; omega
    · have := s3 (v / 10) (by omega); rw [step v h1]; omega
  have s5 : ∀ v, v < 1000000 → Lib.nDigits v ≤ 6 := fun v h => by
    by_cases h1 : v < 10
    · rw [one v h1]; omega
    · have := s4 (v / 10) (by omega); rw [step v h1]; omega
  have s6 : ∀ v, v < 10000000 → Lib.nDigits v ≤ 7 := fun v h => by
    by_cases h1 : v < 10
    · rw [one v h1]; omega
    · have := s5 (v / 10) (by omega); rw [step v h1]; omega
  exact ⟨s1 u, s3 u, s6 u⟩
theorem itoa_len (n : Int) : (-10000 < n → n < 10000 → (Lib.itoa n).length ≤ 5) ∧ (0 ≤ n → n < 100 → (Lib.itoa n).length ≤ 2) ∧ (-10000000 < n → n < 10000000 → (Lib.itoa n).length ≤ 8) := by
  have a := nd_bd n.natAbs
  have b := nd_bd n.toNat
  unfold Lib.itoa
  split
  · rw [List.length_cons, Lib.decDigits_length]
    refine ⟨fun h1 h2 => ?_, fun h1 h2 => ?_, fun h1 h2 => ?_⟩
    · have := a.2.1 (by omega); omega
    · omega
    · have := a.2.2 (by omega); omega
  · rw [Lib.decDigits_length]
    refine ⟨fun h1 h2 => ?_, fun h1 h2 => ?_, fun h1 h2 => ?_⟩
    · have := b.2.1 (by omega); omega
    · have := b.1 (by omega); omega
    · have := b.2.2 (by omega); omega
theorem X_len (r : Int) (h0 : 0 ≤ r) (h1 : r < 32) : (X r).length ≤ 3 := by
  have := (itoa_len r).2.1 h0 (by omega)
  simp only [X, List.length_cons]; omega
theorem text_len {op rd rs rt imm : Int} (h : IV op rd rs rt imm) : (textL op rd rs rt imm).length ≤ 24 := by
  have n0 := name_len op
  have ho := h.split
  have i1 := itoa_len imm
  unfold IV reg at h
  unfold textL
  rcases (by omega : op ≤ 11 ∨ (12 ≤ op ∧ op ≤ 13) ∨ (14 ≤ op ∧ op ≤ 15) ∨ op = 16 ∨ (17 ≤ op ∧ op ≤ 18) ∨ (19 ≤ op ∧ op ≤ 20) ∨ op = 21) with k | k | k | k | k | k | k
  · have a := X_len rd (by omega) (by omega)
    have b := X_len rs (by omega) (by omega)
    have c := X_len rt (by omega) (by omega)
    rw [if_pos (by omega)]; simp only [List.length_append, List.length_cons, List.length_nil]; omega
  · have a := X_len rd (by omega) (by omega)
    have b := X_len rs (by omega) (by omega)
    have c := i1.1 (by omega) (by omega)
    rw [if_neg (by omega), if_pos (by omega)]; simp only [List.length_append, List.length_cons, List.length_nil]; omega
  · have a := X_len rd (by omega) (by omega)
    have b := X_len rs (by omega) (by omega)
    have c := i1.1 (by omega) (by omega)
    rw [if_neg (by omega), if_neg (by omega), if_pos (by omega)]; simp only [List.length_append, List.length_cons, List.length_nil]; omega
  · have a := X_len rt (by omega) (by omega)
    have b := X_len rs (by omega) (by omega)
    have c := i1.1 (by omega) (by omega)
    rw [if_neg (by omega), if_neg (by omega), if_neg (by omega), if_pos (by omega)]; simp only [List.length_append, List.length_cons, List.length_nil]; omega
  · have a := X_len rt (by omega) (by omega)
    have b := X_len rs (by omega) (by omega)
    have c := i1.1 (by omega) (by omega)
    rw [if_neg (by omega), if_neg (by omega), if_neg (by omega), if_neg (by omega), if_pos (by omega)]; simp only [List.length_append, List.length_cons, List.length_nil]; omega
  · have a := X_len rd (by omega) (by omega)
    have c := i1.2.2 (by omega) (by omega)
    rw [if_neg (by omega), if_neg (by omega), if_neg (by omega), if_neg (by omega), if_neg (by omega), if_pos (by omega)]; simp only [List.length_append, List.length_cons, List.length_nil]; omega
  · rw [if_neg (by omega), if_neg (by omega), if_neg (by omega), if_neg (by omega), if_neg (by omega), if_neg (by omega)]; omega
/-- The text is the name and what stands behind it: nothing, or a blank and more. -/
theorem text_split (op rd rs rt imm : Int) : ∃ t, textL op rd rs rt imm = nameOf op ++ t ∧ (t = [] ∨ ∃ t', t = 32 :: t') := by
  unfold textL
  (repeat' split)
  · exact ⟨[32] ++ X rd ++ [44, 32] ++ X rs ++ [44, 32] ++ X rt, by simp, .inr ⟨_, rfl⟩⟩
  · exact ⟨[32] ++ X rd ++ [44, 32] ++ X rs ++ [44, 32] ++ Lib.itoa imm, by simp, .inr ⟨_, rfl⟩⟩
  · exact ⟨[32] ++ X rd ++ [44, 32] ++ Lib.itoa imm ++ [40] ++ X rs ++ [41], by simp, .inr ⟨_, rfl⟩⟩
  · exact ⟨[32] ++ X rt ++ [44, 32] ++ Lib.itoa imm ++ [40] ++ X rs ++ [41], by simp, .inr ⟨_, rfl⟩⟩
  · exact ⟨[32] ++ X rs ++ [44, 32] ++ X rt ++ [44, 32] ++ Lib.itoa imm, by simp, .inr ⟨_, rfl⟩⟩
  · exact ⟨[32] ++ X rd ++ [44, 32] ++ Lib.itoa imm, by simp, .inr ⟨_, rfl⟩⟩
  · exact ⟨[], by simp, .inl rfl⟩
theorem names_ok : ∀ a : Fin 22, 1 ≤ a.val → (nameOf (Int.ofNat a.val)).all (fun c => 97 ≤ c && c ≤ 122) = true ∧ nameOf (Int.ofNat a.val) ≠ [] := by decide +kernel
theorem names_inj : ∀ a b : Fin 22, 1 ≤ a.val → 1 ≤ b.val → nameOf (Int.ofNat a.val) = nameOf (Int.ofNat b.val) → a = b := by decide +kernel
theorem dec_inj (k : Nat) : ∀ u v : Nat, u ≤ k → Lib.decDigits u = Lib.decDigits v → u = v := by
  induction k with
  | zero =>
    intro u v hu h
    obtain rfl : u = 0 := by omega
    rw [Lib.decDigits_one (by omega)] at h
    by_cases hv : v < 10
    · rw [Lib.decDigits_one hv] at h
      have e := congrArg UInt8.toNat (List.cons.inj h).1
      simp at e; omega
    · rw [Lib.decDigits.eq_def v, dif_neg hv] at h
      have := congrArg List.length h
      have l : 0 < (Lib.decDigits (v / 10)).length := by
        rw [Lib.decDigits.eq_def]; split <;> simp
      simp only [List.length_append, List.length_cons, List.length_nil] at this; omega
  | succ k ih =>
    intro u v hu h
    by_cases h1 : u < 10 <;> by_cases hv : v < 10
    · rw [Lib.decDigits_one h1, Lib.decDigits_one hv] at h
      have e := congrArg UInt8.toNat (List.cons.inj h).1
      simp at e; omega
    · rw [Lib.decDigits_one h1, Lib.decDigits.eq_def v, dif_neg hv] at h
      have := congrArg List.length h
      have l : 0 < (Lib.decDigits (v / 10)).length := by
        rw [Lib.decDigits.eq_def]; split <;> simp
      simp only [List.length_append, List.length_cons, List.length_nil] at this; omega
    · rw [Lib.decDigits_one hv, Lib.decDigits.eq_def u, dif_neg h1] at h
      have := congrArg List.length h
      have l : 0 < (Lib.decDigits (u / 10)).length := by
        rw [Lib.decDigits.eq_def]; split <;> simp
      simp only [List.length_append, List.length_cons, List.length_nil] at this; omega
    · rw [Lib.decDigits.eq_def u, dif_neg h1, Lib.decDigits.eq_def v, dif_neg hv] at h
      obtain ⟨a, b⟩ := List.append_inj' h rfl
      have e := congrArg UInt8.toNat (List.cons.inj b).1
      have d := ih (u / 10) (v / 10) (by omega) a
      simp at e
      omega
theorem itoa_inj {m n : Int} (h : Lib.itoa m = Lib.itoa n) : m = n := by
  have hd : ∀ u : Nat, ∃ c t, Lib.decDigits u = c :: t ∧ c ≠ 45 := fun u => by
    have : ∀ k u : Nat, u ≤ k → ∃ c t, Lib.decDigits u = c :: t ∧ c ≠ 45 := by
      intro k
      induction k with
      | zero => intro u hu; obtain rfl : u = 0 := by omega
                exact ⟨48, [], by rw [Lib.decDigits_one (by omega)]; rfl, by decide⟩
      | succ k ih =>
        intro u hu
        by_cases h1 : u < 10
        · refine ⟨_, [], Lib.decDigits_one h1, fun e => ?_⟩
          rcases (by omega : u = 0 ∨ u = 1 ∨ u = 2 ∨ u = 3 ∨ u = 4 ∨ u = 5 ∨ u = 6 ∨ u = 7 ∨ u = 8 ∨ u = 9) with rfl | rfl | rfl | rfl | rfl | rfl | rfl | rfl | rfl | rfl <;> exact absurd e (by decide)
        · obtain ⟨c, t, e, hc⟩ := ih (u / 10) (by omega)
          exact ⟨c, t ++ [UInt8.ofNat (48 + u % 10)], by rw [Lib.decDigits.eq_def u, dif_neg h1, e]; rfl, hc⟩
    exact this u u (Nat.le_refl _)
  unfold Lib.itoa at h
  by_cases hm : m < 0 <;> by_cases hn : n < 0
  · rw [if_pos hm, if_pos hn] at h
    have := dec_inj _ _ _ (Nat.le_refl _) (List.cons.inj h).2
    omega
  · rw [if_pos hm, if_neg hn] at h
    obtain ⟨c, t, e, hc⟩ := hd n.toNat
    rw [e] at h
    exact absurd (List.cons.inj h).1.symm hc
  · rw [if_neg hm, if_pos hn] at h
    obtain ⟨c, t, e, hc⟩ := hd m.toNat
    rw [e] at h
    exact absurd (List.cons.inj h).1 hc
  · rw [if_neg hm, if_neg hn] at h
    have := dec_inj _ _ _ (Nat.le_refl _) h
    omega
end Go.Proofs.YthmfkdlncnjjoaaDoor
