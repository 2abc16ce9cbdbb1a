/- Plain laws: two instructions that part in one field have two texts. -/
import Derived.Test.YthmfkdlncnjjoaaDoorTp
namespace Go.Proofs.YthmfkdlncnjjoaaDoor
open Go.RowKit IM
set_option linter.unusedSimpArgs false
set_option linter.unusedVariables false
theorem X_inj {a b : Int} (h : X a = X b) : a = b := itoa_inj (List.cons.inj h).2
theorem mid_inj {a b p q : List UInt8} (h : p ++ a ++ q = p ++ b ++ q) : a = b := List.append_cancel_left (List.append_cancel_right h)
theorem text_rd {op rd rd' rs rt imm : Int} (h1 : IV op rd rs rt imm) (h2 : IV op rd' rs rt imm) (h : textL op rd rs rt imm = textL op rd' rs rt imm) : rd = rd' := by
  have ho := h1.split
  unfold IV reg at h1 h2
  unfold textL at h
  rcases (by omega : op ≤ 11 ∨ (12 ≤ op ∧ op ≤ 13) ∨ (14 ≤ op ∧ op ≤ 15) ∨ (19 ≤ op ∧ op ≤ 20) ∨ (16 ≤ op ∧ op ≤ 18 ∨ op = 21)) with k | k | k | k | k
  · rw [if_pos k, if_pos k] at h
    simp only [List.append_assoc] at h
    have h := List.append_cancel_left (List.append_cancel_left h)
    exact X_inj (List.append_cancel_right h)
  · rw [if_neg (by omega), if_pos k.2, if_neg (by omega), if_pos k.2] at h
    simp only [List.append_assoc] at h
    have h := List.append_cancel_left (List.append_cancel_left h)
    exact X_inj (List.append_cancel_right h)
  · rw [if_neg (by omega), if_neg (by omega), if_pos k.2, if_neg (by omega), if_neg (by omega), if_pos k.2] at h
    simp only [List.append_assoc] at h
    have h := List.append_cancel_left (List.append_cancel_left h)
    exact X_inj (List.append_cancel_right h)
  · rw [if_neg (by omega), if_neg (by omega), if_neg (by omega), if_neg (by omega), if_neg (by omega), if_pos k.2, if_neg (by omega), if_neg (by omega), if_neg (by omega), if_neg (by omega), if_neg (by omega), if_pos k.2] at h
    simp only [List.append_assoc] at h
    have h := List.append_cancel_left (List.append_cancel_left h)
    exact X_inj (List.append_cancel_right h)
  · omega
theorem text_rs {op rd rs rs' rt imm : Int} (h1 : IV op rd rs rt imm) (h2 : IV op rd rs' rt imm) (h : textL op rd rs rt imm = textL op rd rs' rt imm) : rs = rs' := by
  have ho := h1.split
  unfold IV reg at h1 h2
  unfold textL at h
  rcases (by omega : op ≤ 11 ∨ (12 ≤ op ∧ op ≤ 13) ∨ (14 ≤ op ∧ op ≤ 15) ∨ op = 16 ∨ (17 ≤ op ∧ op ≤ 18) ∨ (19 ≤ op ∧ op ≤ 21)) with k | k | k | k | k | k
  · rw [if_pos k, if_pos k] at h
    simp only [List.append_assoc] at h
    have h := List.append_cancel_left (List.append_cancel_left (List.append_cancel_left (List.append_cancel_left h)))
    exact X_inj (List.append_cancel_right h)
  · rw [if_neg (by omega), if_pos k.2, if_neg (by omega), if_pos k.2] at h
    simp only [List.append_assoc] at h
    have h := List.append_cancel_left (List.append_cancel_left (List.append_cancel_left (List.append_cancel_left h)))
    exact X_inj (List.append_cancel_right h)
  · rw [if_neg (by omega), if_neg (by omega), if_pos k.2, if_neg (by omega), if_neg (by omega), if_pos k.2] at h
    have h := List.append_cancel_right h
    exact X_inj (List.append_cancel_left h)
  · rw [if_neg (by omega), if_neg (by omega), if_neg (by omega), if_pos k, if_neg (by omega), if_neg (by omega), if_neg (by omega), if_pos k] at h
    have h := List.append_cancel_right h
    exact X_inj (List.append_cancel_left h)
  · rw [if_neg (by omega), if_neg (by omega), if_neg (by omega), if_neg (by omega), if_pos k.2, if_neg (by omega), if_neg (by omega), if_neg (by omega), if_neg (by omega), if_pos k.2] at h
    simp only [List.append_assoc] at h
    have h := List.append_cancel_left (List.append_cancel_left h)
    exact X_inj (List.append_cancel_right h)
  · omega
theorem text_rt {op rd rs rt rt' imm : Int} (h1 : IV op rd rs rt imm) (h2 : IV op rd rs rt' imm) (h : textL op rd rs rt imm = textL op rd rs rt' imm) : rt = rt' := by
  have ho := h1.split
  unfold IV reg at h1 h2
  unfold textL at h
  rcases (by omega : op ≤ 11 ∨ op = 16 ∨ (17 ≤ op ∧ op ≤ 18) ∨ (12 ≤ op ∧ op ≤ 15 ∨ 19 ≤ op ∧ op ≤ 21)) with k | k | k | k
  · rw [if_pos k, if_pos k] at h
    exact X_inj (List.append_cancel_left h)
  · rw [if_neg (by omega), if_neg (by omega), if_neg (by omega), if_pos k, if_neg (by omega), if_neg (by omega), if_neg (by omega), if_pos k] at h
    simp only [List.append_assoc] at h
    have h := List.append_cancel_left (List.append_cancel_left h)
    exact X_inj (List.append_cancel_right h)
  · rw [if_neg (by omega), if_neg (by omega), if_neg (by omega), if_neg (by omega), if_pos k.2, if_neg (by omega), if_neg (by omega), if_neg (by omega), if_neg (by omega), if_pos k.2] at h
    simp only [List.append_assoc] at h
    have h := List.append_cancel_left (List.append_cancel_left (List.append_cancel_left (List.append_cancel_left h)))
    exact X_inj (List.append_cancel_right h)
  · omega
theorem text_imm {op rd rs rt imm imm' : Int} (h1 : IV op rd rs rt imm) (h2 : IV op rd rs rt imm') (h : textL op rd rs rt imm = textL op rd rs rt imm') : imm = imm' := by
  have ho := h1.split
  unfold IV reg at h1 h2
  unfold textL at h
  rcases (by omega : (12 ≤ op ∧ op ≤ 13) ∨ (14 ≤ op ∧ op ≤ 15) ∨ op = 16 ∨ (17 ≤ op ∧ op ≤ 18) ∨ (19 ≤ op ∧ op ≤ 20) ∨ (op ≤ 11 ∨ op = 21)) with k | k | k | k | k | k
  · rw [if_neg (by omega), if_pos k.2, if_neg (by omega), if_pos k.2] at h
    exact itoa_inj (List.append_cancel_left h)
  · rw [if_neg (by omega), if_neg (by omega), if_pos k.2, if_neg (by omega), if_neg (by omega), if_pos k.2] at h
    simp only [List.append_assoc] at h
    have h := List.append_cancel_left (List.append_cancel_left (List.append_cancel_left (List.append_cancel_left h)))
    exact itoa_inj (List.append_cancel_right h)
  · rw [if_neg (by omega), if_neg (by omega), if_neg (by omega), if_pos k, if_neg (by omega), if_neg (by omega), if_neg (by omega), if_pos k] at h
    simp only [List.append_assoc] at h
    have h := List.append_cancel_left (List.append_cancel_left (List.append_cancel_left (List.append_cancel_left h)))
    exact itoa_inj (List.append_cancel_right h)
  · rw [if_neg (by omega), if_neg (by omega), if_neg (by omega), if_neg (by omega), if_pos k.2, if_neg (by omega), if_neg (by omega), if_neg (by omega), if_neg (by omega), if_pos k.2] at h
    exact itoa_inj (List.append_cancel_left h)
  · rw [if_neg (by omega), if_neg (by omega), if_neg (by omega), if_neg (by omega), if_neg (by omega), if_pos k.2, if_neg (by omega), if_neg (by omega), if_neg (by omega), if_neg (by omega), if_neg (by omega), if_pos k.2] at h
    exact itoa_inj (List.append_cancel_left h)
  · omega
theorem word_of (a t : List UInt8) (ha : a.all (fun c => 97 ≤ c && c ≤ 122) = true) (ht : t = [] ∨ ∃ t', t = 32 :: t') : (a ++ t).takeWhile (fun c => c != 32) = a := by
  induction a with
  | nil =>
    rcases ht with rfl | ⟨t', rfl⟩
    · rfl
    · rfl
  | cons c r ih =>
    simp only [List.all_cons, Bool.and_eq_true, decide_eq_true_eq] at ha
    have hc : (c != 32) = true := by
      rw [bne_iff_ne]
      intro e
      rw [e] at ha
      exact absurd ha.1.1 (by decide)
    rw [List.cons_append, List.takeWhile_cons, if_pos hc, ih ha.2]
theorem text_op {op op' rd rs rt imm rd' rs' rt' imm' : Int} (o1 : 1 ≤ op) (o2 : op ≤ 21) (p1 : 1 ≤ op') (p2 : op' ≤ 21) (h : textL op rd rs rt imm = textL op' rd' rs' rt' imm') : op = op' := by
  obtain ⟨t, e, ht⟩ := text_split op rd rs rt imm
  obtain ⟨t', e', ht'⟩ := text_split op' rd' rs' rt' imm'
  obtain ⟨n1, _⟩ := names_ok ⟨op.toNat, by omega⟩ (by show 1 ≤ op.toNat; omega)
  obtain ⟨m1, _⟩ := names_ok ⟨op'.toNat, by omega⟩ (by show 1 ≤ op'.toNat; omega)
  have eo : Int.ofNat op.toNat = op := by simp; omega
  have ep : Int.ofNat op'.toNat = op' := by simp; omega
  simp only [eo] at n1
  simp only [ep] at m1
  have a := word_of (nameOf op) t n1 ht
  have b := word_of (nameOf op') t' m1 ht'
  rw [← e, h, e', b] at a
  have := names_inj ⟨op.toNat, by omega⟩ ⟨op'.toNat, by omega⟩ (by show 1 ≤ op.toNat; omega) (by show 1 ≤ op'.toNat; omega) (by simp only [eo, ep]; exact a.symm)
  simp only [Fin.mk.injEq] at this
  omega
/-- A text of another instruction, or of none: not this one's. -/
theorem strL_ne {a b : List UInt8} (h : a ≠ b) : ¬ (strL a = strL b) := fun e => h (by have := congrArg (fun x : ByteArray => x.data.toList) e; simpa [strL] using this)
theorem textV_ne {op rd rs rt imm op' rd' rs' rt' imm' : Int} (hV : IV op rd rs rt imm) (h : ∀ h2 : IV op' rd' rs' rt' imm', textL op' rd' rs' rt' imm' ≠ textL op rd rs rt imm) : textV op' rd' rs' rt' imm' ≠ textL op rd rs rt imm := by
  cases hv : iv op' rd' rs' rt' imm' with
  | true => rw [textV_yes hv]; exact h (iv_iff.1 hv)
  | false =>
    rw [textV_no hv]
    intro e
    obtain ⟨t, e2, _⟩ := text_split op rd rs rt imm
    have ho := hV.split
    obtain ⟨_, n2⟩ := names_ok ⟨op.toNat, by omega⟩ (by show 1 ≤ op.toNat; omega)
    have eo : Int.ofNat op.toNat = op := by simp; omega
    simp only [eo] at n2
    rw [e2] at e
    exact n2 (List.append_eq_nil_iff.1 e.symm).1
end Go.Proofs.YthmfkdlncnjjoaaDoor
