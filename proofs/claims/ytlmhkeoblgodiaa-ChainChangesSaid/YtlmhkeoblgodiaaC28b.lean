/-
  Texts of the claims on chapter 2: C28b. No condition: lemmas and contracts.
-/
import Derived.Test.YtlmhkeoblgodiaaC27a
set_option linter.all false
section
/-
  Chapter 2: lemmas that laws share.
-/
namespace Go.Proofs.Ytlmhkeoblgodiaa
open Go Go.Sy Go.Chn
set_option linter.unusedVariables false
set_option linter.unusedSimpArgs false
theorem castLk {h : kL = kL} (L : List Lk) : @castL kL kL h L = L := rfl
theorem castIk {h : kI = kI} (I : List Int) : @castL kI kI h I = I := rfl
theorem fit_eq {N : Int} {L : List Lk} {X : List Int} (h : (checkF N L).1 = 0) : fitF N L X = if numB N X = true then (solB N.toNat L X, 0) else (false, 1) := by
  by_cases hn : numB N X = true
  · rw [if_pos hn, (fit_yes h hn).1]
  · rw [if_neg hn, fit_no h (by simpa using hn)]
theorem gt80 (n : Nat) : ((n : Int) > 80) = (n > 80) := by apply propext; omega
theorem small_len {N : Int} {L : List Lk} (h : (!smallB N L) = false) : L.length ≤ 310 := by
  unfold smallB at h
  rw [Bool.not_eq_false', Bool.and_eq_true, decide_eq_true_eq] at h
  exact h.1
theorem ok_of {x : Int} (h : (x != 0) = false) : x = 0 := by simpa using h
theorem no_of {x : Int} (h : (x != 0) = true) : ¬ x = 0 := by simpa using h
theorem len_no {n : Nat} {k : Int} (h : decide ((n : Int) > k) = false) : (n : Int) ≤ k := by simpa using h
theorem nt_f {b : Bool} (h : (!b) = false) : b = true := by simpa using h
theorem nt_t {b : Bool} (h : (!b) = true) : b = false := by simpa using h
theorem ok_ne {x y : Int} (h : (x != y) = false) : x = y := by simpa using h
theorem solL_iff {X : List Int} : ∀ {L : List Lk}, solL X L = true ↔ ∀ l ∈ L, gi X l.2.1 ≤ gi X l.1 + l.2.2
  | [] => ⟨fun _ l hl => (by cases hl), fun _ => rfl⟩
  | l :: L => by
    rw [solL]
    constructor
    · intro h
      split at h
      · cases h
      · intro y hy
        rcases List.mem_cons.1 hy with rfl | hy
        · omega
        · exact (solL_iff.1 h) y hy
    · intro h
      have := h l (by simp)
      rw [if_neg (by omega)]
      exact solL_iff.2 fun y hy => h y (by simp [hy])
theorem fit_iff {N : Int} {L : List Lk} {X : List Int} : (fitF N L X).1 = true ↔ (checkF N L).1 = 0 ∧ (X.length : Int) = N ∧ frM X ∧ (∀ l ∈ L, gi X l.2.1 ≤ gi X l.1 + l.2.2) ∧ gi X 0 = 0 := by
  by_cases hc : (checkF N L).1 = 0
  · by_cases hn : numB N X = true
    · obtain ⟨h1, h2, h3, h4, h5⟩ := fit_yes hc hn
      rw [h1]
      have h6 : (X.length == N.toNat) = true := by simp; omega
      unfold solB
      rw [h6, Bool.true_and, Bool.and_eq_true, solL_iff, beq_iff_eq]
      exact ⟨fun h => ⟨hc, h3, h2, h.2, h.1⟩, fun h => ⟨h.2.2.2.2, h.2.2.2.1⟩⟩
    · rw [fit_no hc (by simpa using hn)]
      refine ⟨fun h => (by cases h), fun h => ?_⟩
      rw [num_eq, decide_eq_true h.2.1, Bool.true_and, frB_iff] at hn
      exact (hn h.2.2.1).elim
  · rw [fit_bad hc]
    exact ⟨fun h => (by cases h), fun h => (hc h.1).elim⟩
theorem fit_0 {N : Int} {L : List Lk} {X : List Int} (h : (fitF N L X).1 = true) : fitF N L X = (true, 0) := by
  obtain ⟨h1, h2, h3, _⟩ := fit_iff.1 h
  have hn : numB N X = true := by rw [num_eq, decide_eq_true h2, Bool.true_and, frB_iff]; exact h3
  have h4 := (fit_yes h1 hn).1
  rw [h4] at h ⊢
  exact congrArg (fun b => (b, (0 : Int))) h
theorem app_norm (L M : List Lk) : @HAppend.hAppend (List (Tup kL)) (List (Tup kL)) (List (Tup kL)) instHAppendOfAppend L M = @HAppend.hAppend (List Lk) (List Lk) (List Lk) instHAppendOfAppend L M := rfl
theorem nil_norm : @List.nil (Tup kL) = @List.nil Lk := rfl
end Go.Proofs.Ytlmhkeoblgodiaa
end
