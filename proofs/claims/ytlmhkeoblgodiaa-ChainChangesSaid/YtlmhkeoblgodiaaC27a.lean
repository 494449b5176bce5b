/-
  Texts of the claims on chapter 2: C27a. No condition: lemmas and contracts.
-/
import Derived.Test.YtlmhkeoblgodiaaYd
set_option linter.all false
section
/-
  Chapter 2: the plain law of ChainLists.
-/
namespace Go.Proofs.Ytlmhkeoblgodiaa
open Go Go.Sy Go.Chn
set_option linter.unusedVariables false
theorem cc_eq {N : Int} {L : List Lk} {I : List Int} (h : (checkF N L).1 = 0) : ccF N L I = if I.length > 80 then 2 else if idxB L.length I = false then 1 else if closB L I = false then 8 else 0 := by
  unfold ccF idxE
  rw [if_neg (by simp [h])]
  by_cases h1 : I.length > 80
  · simp [h1]
  · simp only [h1, if_false]
    cases idxB L.length I <;> cases closB L I <;> simp
theorem ckc_eq {N a b : Int} {L : List Lk} {I : List Int} (h : (checkF N L).1 = 0) : ckcF N L a b I = if nodeB N a = false ∨ nodeB N b = false then (0, 1) else if I.length > 80 then (0, 2) else if idxB L.length I = false then (0, 1) else
    if (sumR L a 0 I).2.2 = false ∨ (sumR L a 0 I).2.1 ≠ b then (0, 8) else ((sumR L a 0 I).1, 0) := by
  unfold ckcF idxE
  rw [if_neg (by simp [h])]
  split
  · rfl
  · by_cases h1 : I.length > 80
    · simp [h1]
    · simp only [h1, if_false]
      cases idxB L.length I <;> simp
theorem numL_fr {N : Int} : ∀ {X : List Int} {i : Nat}, (i : Int) + X.length ≤ N + 1 → numL N i X = frB X
  | [], _, _ => rfl
  | x :: X, i, h => by
    simp only [List.length_cons] at h
    rw [numL, frB, if_neg (by omega), numL_fr (X := X) (i := i + 1) (by omega)]
theorem num_eq {N : Int} {X : List Int} : numB N X = (decide ((X.length : Int) = N) && frB X) := by
  unfold numB
  by_cases h : (X.length : Int) = N
  · rw [numL_fr (by omega)]
    have h1 : ((X.length : Int) == N) = true := by simpa using h
    rw [h1, decide_eq_true h, Bool.and_true, Bool.true_and]
  · have h1 : ((X.length : Int) == N) = false := by simpa using h
    rw [h1, decide_eq_false h, Bool.and_false, Bool.false_and]
theorem fit_no {N : Int} {L : List Lk} {X : List Int} (h : (checkF N L).1 = 0) (h2 : numB N X = false) : fitF N L X = (false, 1) := by
  rw [num_eq] at h2
  unfold fitF
  rw [if_neg (by simp [h]), if_pos]
  by_cases hl : (X.length : Int) = N
  · rw [decide_eq_true hl, Bool.true_and] at h2; exact .inr h2
  · exact .inl hl
theorem fit_yes {N : Int} {L : List Lk} {X : List Int} (h : (checkF N L).1 = 0) (h2 : numB N X = true) : fitF N L X = (solB N.toNat L X, 0) ∧ frM X ∧ (X.length : Int) = N ∧ N = N.toNat ∧ AskL N.toNat L := by
  rw [num_eq, Bool.and_eq_true, decide_eq_true_eq] at h2
  obtain ⟨hl, hf⟩ := h2
  refine ⟨?_, frB_iff.1 hf, hl, by omega, ask_of h⟩
  unfold fitF solB
  rw [if_neg (by simp [h]), if_neg (by simp [hl, hf])]
  have h1 : (X.length == N.toNat) = true := by simp; omega
  rw [h1, Bool.true_and, Bool.and_comm]
theorem fit_bad {N : Int} {L : List Lk} {X : List Int} (h : ¬ (checkF N L).1 = 0) : fitF N L X = (false, (checkF N L).1) := by
  unfold fitF; rw [if_pos h]
theorem cc_bad {N : Int} {L : List Lk} {I : List Int} (h : ¬ (checkF N L).1 = 0) : ccF N L I = (checkF N L).1 := by
  unfold ccF; rw [if_pos h]
theorem ckc_bad {N a b : Int} {L : List Lk} {I : List Int} (h : ¬ (checkF N L).1 = 0) : ckcF N L a b I = (0, (checkF N L).1) := by
  unfold ckcF; rw [if_pos h]
end Go.Proofs.Ytlmhkeoblgodiaa
end
