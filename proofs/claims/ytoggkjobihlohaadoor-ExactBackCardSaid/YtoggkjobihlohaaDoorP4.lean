/-
  Plain laws: the simplest number is in the interval, and no number of it has a lesser denominator.
-/
import Derived.Test.YtoggkjobihlohaaDoorF5
namespace Go.Proofs.YtoggkjobihlohaaDoor

/-- Is n/m from a/b to c/d? -/
structure In (a b c d n m : Int) : Prop where
  lo : a * m ≤ n * b
  hi : n * d ≤ c * m

theorem spl_in : ∀ (k : Nat) (a b c d : Int), Between a b c d → (b + d).toNat ≤ k → In a b c d (spl a b c d).1 (spl a b c d).2 ∧ Int.gcd (spl a b c d).1 (spl a b c d).2 = 1
  | 0, a, b, c, d, h, h1 => by have := h.pb; have := h.pd; omega
  | k + 1, a, b, c, d, h, h1 => by
    have ha := h.pa; have hb := h.pb; have hc := h.pc; have hd := h.pd
    have ea := Int.mul_ediv_add_emod a b
    have ec := Int.mul_ediv_add_emod c d
    have ra := Int.emod_nonneg a (show b ≠ 0 by omega)
    have la := Int.emod_lt_of_pos a hb
    have rc := Int.emod_nonneg c (show d ≠ 0 by omega)
    have lc := Int.emod_lt_of_pos c hd
    have hle := h.div_le
    rw [spl_eq h]
    by_cases e1 : a % b = 0
    · rw [if_pos e1]
      have : a / b * d ≤ c / d * d := Int.mul_le_mul_of_nonneg_right hle (by omega)
      rw [Int.mul_comm (c / d)] at this
      refine ⟨⟨?_, ?_⟩, Int.gcd_one_right _⟩ <;> simp only
      · rw [Int.mul_comm (a / b)]; omega
      · omega
    · rw [if_neg e1]
      by_cases e2 : a / b < c / d
      · rw [if_pos e2]
        have : (a / b + 1) * d ≤ c / d * d := Int.mul_le_mul_of_nonneg_right (by omega) (by omega)
        rw [Int.mul_comm (c / d)] at this
        refine ⟨⟨?_, ?_⟩, Int.gcd_one_right _⟩ <;> simp only
        · rw [Int.add_mul, Int.mul_comm (a / b)]; omega
        · omega
      · rw [if_neg e2]
        obtain ⟨g, e, hlt⟩ := h.next e1 e2
        obtain ⟨⟨i1, i2⟩, i3⟩ := spl_in k d (c % d) b (a % b) g (by omega)
        generalize (spl d (c % d) b (a % b)).1 = p at *
        generalize (spl d (c % d) b (a % b)).2 = q at *
        refine ⟨⟨?_, ?_⟩, ?_⟩ <;> simp only
        · have h5 : a * p = b * (a / b) * p + a % b * p := by rw [← Int.add_mul, ea]
          have h6 : (a / b * p + q) * b = b * (a / b) * p + q * b := by grind
          rw [h5, h6]
          have : p * (a % b) = a % b * p := Int.mul_comm _ _
          have : b * q = q * b := Int.mul_comm _ _
          omega
        · have h5 : c * p = d * (c / d) * p + c % d * p := by rw [← Int.add_mul, ec]
          have h6 : (a / b * p + q) * d = d * (c / d) * p + q * d := by rw [e]; grind
          rw [h5, h6]
          have : p * (c % d) = c % d * p := Int.mul_comm _ _
          have : d * q = q * d := Int.mul_comm _ _
          omega
        · rw [show a / b * p + q = q + p * (a / b) by rw [Int.mul_comm]; omega, Int.gcd_add_mul_left_left, Int.gcd_comm]
          exact i3

theorem spl_least : ∀ (k : Nat) (a b c d : Int), Between a b c d → (b + d).toNat ≤ k → ∀ n m : Int, 0 < m → In a b c d n m → (spl a b c d).1 ≤ n ∧ (spl a b c d).2 ≤ m
  | 0, a, b, c, d, h, h1 => by have := h.pb; have := h.pd; omega
  | k + 1, a, b, c, d, h, h1 => by
    intro n m hm hi
    have ha := h.pa; have hb := h.pb; have hc := h.pc; have hd := h.pd
    have ea := Int.mul_ediv_add_emod a b
    have ec := Int.mul_ediv_add_emod c d
    have ra := Int.emod_nonneg a (show b ≠ 0 by omega)
    have na : 0 ≤ a / b := Int.ediv_nonneg (by omega) (by omega)
    obtain ⟨lo, hi⟩ := hi
    have eam : a * m = b * (a / b) * m + a % b * m := by rw [← Int.add_mul, ea]
    have ecm : c * m = d * (c / d) * m + c % d * m := by rw [← Int.add_mul, ec]
    have kk : (a / b) * 1 ≤ (a / b) * m := Int.mul_le_mul_of_nonneg_left (by omega) na
    rw [spl_eq h]
    by_cases e1 : a % b = 0
    · rw [if_pos e1]
      rw [e1, Int.zero_mul] at eam
      have h2 : (a / b * m) * b ≤ n * b := by
        have : (a / b * m) * b = b * (a / b) * m := by grind
        omega
      have := Int.le_of_mul_le_mul_right h2 hb
      exact ⟨by simp only; omega, by simp only; omega⟩
    · rw [if_neg e1]
      have hpos : 0 < a % b * m := Int.mul_pos (by omega) hm
      have h2 : (a / b * m) * b < n * b := by
        have : (a / b * m) * b = b * (a / b) * m := by grind
        omega
      have h3 := Int.lt_of_mul_lt_mul_right h2 (by omega)
      by_cases e2 : a / b < c / d
      · rw [if_pos e2]
        exact ⟨by simp only; omega, by simp only; omega⟩
      · rw [if_neg e2]
        obtain ⟨g, e, hlt⟩ := h.next e1 e2
        have h4 := spl_least k d (c % d) b (a % b) g (by omega) m (n - a / b * m) (by omega) ⟨by
            have : d * (n - a / b * m) = n * d - d * (c / d) * m := by rw [e]; grind
            have : m * (c % d) = c % d * m := Int.mul_comm _ _
            omega, by
            have : b * (n - a / b * m) = n * b - b * (a / b) * m := by grind
            have : m * (a % b) = a % b * m := Int.mul_comm _ _
            omega⟩
        generalize (spl d (c % d) b (a % b)).1 = p at *
        generalize (spl d (c % d) b (a % b)).2 = q at *
        have h5 : a / b * p ≤ a / b * m := Int.mul_le_mul_of_nonneg_left h4.1 na
        exact ⟨by simp only; omega, h4.1⟩

/-- What the statement says of Simplest. -/
theorem sim_in {a b c d : Int} (h : validR a b c d = true) : valid (simT a b c d).1 (simT a b c d).2 = true ∧ In a b c d (simT a b c d).1 (simT a b c d).2 := by
  have hv := validR_bound h
  have F := simFacts h
  by_cases h1 : 0 < a
  · obtain ⟨g, _, e⟩ := F.pos h1
    have hb := spl_bound _ _ _ _ _ g (Nat.le_refl _)
    obtain ⟨hi, hg⟩ := spl_in _ _ _ _ _ g (Nat.le_refl _)
    rw [e]
    exact ⟨valid_iff.2 ⟨by omega, by omega, by omega, by omega, hg⟩, hi⟩
  · by_cases h2 : c < 0
    · obtain ⟨g, _, e, _⟩ := F.neg h1 h2
      have hb := spl_bound _ _ _ _ _ g (Nat.le_refl _)
      obtain ⟨⟨i1, i2⟩, hg⟩ := spl_in _ _ _ _ _ g (Nat.le_refl _)
      rw [e]
      simp only
      generalize (spl (0 - c) d (0 - a) b).1 = p at *
      generalize (spl (0 - c) d (0 - a) b).2 = q at *
      refine ⟨valid_iff.2 ⟨by omega, by omega, by omega, by omega, ?_⟩, ⟨?_, ?_⟩⟩
      · rw [Int.zero_sub, Int.neg_gcd]; exact hg
      · have e1 : (0 - p) * b = -(p * b) := by grind
        have e2 : (0 - a) * q = -(a * q) := by grind
        omega
      · have e1 : (0 - p) * d = -(p * d) := by grind
        have e2 : (0 - c) * q = -(c * q) := by grind
        omega
    · rw [F.nul h1 h2]
      exact ⟨by decide, ⟨by simp only; omega, by simp only; omega⟩⟩
theorem sim_least {a b c d : Int} (h : validR a b c d = true) {n m : Int} (hm : 0 < m) (hi : In a b c d n m) : (simT a b c d).2 ≤ m ∧ (simT a b c d).1.natAbs ≤ n.natAbs := by
  have hv := validR_bound h
  have F := simFacts h
  by_cases h1 : 0 < a
  · obtain ⟨g, _, e⟩ := F.pos h1
    have hb := spl_bound _ _ _ _ _ g (Nat.le_refl _)
    have := spl_least _ _ _ _ _ g (Nat.le_refl _) n m hm hi
    rw [e]
    exact ⟨this.2, by omega⟩
  · by_cases h2 : c < 0
    · obtain ⟨g, _, e, _⟩ := F.neg h1 h2
      have hb := spl_bound _ _ _ _ _ g (Nat.le_refl _)
      have := spl_least _ _ _ _ _ g (Nat.le_refl _) (-n) m hm ⟨by
        have e1 : -n * d = -(n * d) := by grind
        have e2 : (0 - c) * m = -(c * m) := by grind
        have := hi.hi
        omega, by
        have e1 : -n * b = -(n * b) := by grind
        have e2 : (0 - a) * m = -(a * m) := by grind
        have := hi.lo
        omega⟩
      rw [e]
      simp only
      exact ⟨this.2, by omega⟩
    · rw [F.nul h1 h2]
      exact ⟨by simp only; omega, by simp⟩
/-- An interval within another one that has the other's simplest number has the same one. -/
theorem sim_within {a b c d a' b' c' d' : Int} (h : validR a b c d = true) (h' : validR a' b' c' d' = true) (h1 : In a b c d a' b') (h2 : In a b c d c' d') :
    (simT a b c d).2 ≤ (simT a' b' c' d').2 ∧ (In a' b' c' d' (simT a b c d).1 (simT a b c d).2 → simT a' b' c' d' = simT a b c d) := by
  have hv := validR_bound h
  have hv' := validR_bound h'
  obtain ⟨v1, i1⟩ := sim_in h
  obtain ⟨v2, i2⟩ := sim_in h'
  have b1 := valid_iff.1 v1
  have b2 := valid_iff.1 v2
  -- what is in the inner interval is in the outer one
  have sub : ∀ n m : Int, 0 < m → In a' b' c' d' n m → In a b c d n m := fun n m hm hi => by
    constructor
    · have e1 : a * b' * m ≤ a' * b * m := Int.mul_le_mul_of_nonneg_right h1.lo (by omega)
      have e2 : a' * m * b ≤ n * b' * b := Int.mul_le_mul_of_nonneg_right hi.lo (by omega)
      have e3 : (a * m) * b' ≤ (n * b) * b' := by
        have : (a * m) * b' = a * b' * m := by grind
        have : (n * b) * b' = n * b' * b := by grind
        have : a' * b * m = a' * m * b := by grind
        omega
      exact Int.le_of_mul_le_mul_right e3 (by omega)
    · have e1 : c' * d * m ≤ c * d' * m := Int.mul_le_mul_of_nonneg_right h2.hi (by omega)
      have e2 : n * d' * d ≤ c' * m * d := Int.mul_le_mul_of_nonneg_right hi.hi (by omega)
      have e3 : (n * d) * d' ≤ (c * m) * d' := by
        have : (n * d) * d' = n * d' * d := by grind
        have : (c * m) * d' = c * d' * m := by grind
        have : c' * d * m = c' * m * d := by grind
        omega
      exact Int.le_of_mul_le_mul_right e3 (by omega)
  have l1 := sim_least h (by omega) (sub _ _ (by omega) i2)
  refine ⟨l1.1, fun hi => ?_⟩
  have l2 := sim_least h' (by omega) hi
  have hq : (simT a b c d).2 = (simT a' b' c' d').2 := by omega
  have hn : (simT a b c d).1.natAbs = (simT a' b' c' d').1.natAbs := by omega
  have hs : (simT a b c d).1 = (simT a' b' c' d').1 := by
    rcases Int.natAbs_eq_natAbs_iff.1 hn with e | e
    · exact e
    · -- opposite numbers: then 0 lies between, and the number is 0
      have F := simFacts h
      have F' := simFacts h'
      have i3 := sub _ _ (by omega) i2
      by_cases g1 : 0 < a
      · obtain ⟨g, _, e1⟩ := F.pos g1
        have hb := spl_bound _ _ _ _ _ g (Nat.le_refl _)
        rw [← e1] at hb
        have : 0 < a * (simT a' b' c' d').2 := Int.mul_pos g1 (by omega)
        have h5 := i3.lo
        have : (simT a' b' c' d').1 * b ≤ 0 := Int.mul_nonpos_of_nonpos_of_nonneg (by omega) (by omega)
        omega
      · by_cases g2 : c < 0
        · obtain ⟨g, _, e1, g3, g4⟩ := F.neg g1 g2
          have e2 : (simT a b c d).1 < 0 := by rw [e1]; simp only; omega
          have : c * (simT a' b' c' d').2 < 0 := Int.mul_neg_of_neg_of_pos g2 (by omega)
          have h5 := i3.hi
          have : 0 ≤ (simT a' b' c' d').1 * d := Int.mul_nonneg (by omega) (by omega)
          omega
        · have e1 := F.nul g1 g2
          rw [e1] at e ⊢
          simp only at *
          omega
  exact Prod.ext hs.symm hq.symm
end Go.Proofs.YtoggkjobihlohaaDoor
