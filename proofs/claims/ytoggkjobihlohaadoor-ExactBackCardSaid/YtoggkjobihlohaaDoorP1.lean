/-
  Plain laws: the number with the least denominator between two numbers.
-/
import Derived.WalkKit
namespace Go.Proofs.YtoggkjobihlohaaDoor

/-- The number with the least denominator from a/b to c/d: numerator and denominator; k: how often the reciprocals are looked at. -/
def splK : Nat → Int → Int → Int → Int → Int × Int
  | 0, _, _, _, _ => (0, 1)
  | k + 1, a, b, c, d =>
    if a % b = 0 then (a / b, 1)
    else if a / b < c / d then (a / b + 1, 1)
    else ((a / b) * (splK k d (c % d) b (a % b)).1 + (splK k d (c % d) b (a % b)).2, (splK k d (c % d) b (a % b)).1)
def spl (a b c d : Int) : Int × Int := splK (b + d).toNat a b c d

structure Between (a b c d : Int) : Prop where
  pa : 0 < a
  pb : 0 < b
  pc : 0 < c
  pd : 0 < d
  le : a * d ≤ c * b

theorem Between.div_le {a b c d : Int} (h : Between a b c d) : a / b ≤ c / d := by
  refine (Int.le_ediv_iff_mul_le h.pd).2 ?_
  have h1 := Int.ediv_mul_le a (show b ≠ 0 by have := h.pb; omega)
  have h2 : a / b * d * b ≤ c * b := by
    have : a / b * b * d ≤ a * d := Int.mul_le_mul_of_nonneg_right h1 (Int.le_of_lt h.pd)
    rw [Int.mul_right_comm] at this
    exact Int.le_trans this h.le
  exact Int.le_of_mul_le_mul_right h2 h.pb
theorem Between.next {a b c d : Int} (h : Between a b c d) (h1 : a % b ≠ 0) (h2 : ¬ a / b < c / d) : Between d (c % d) b (a % b) ∧ a / b = c / d ∧ c % d + a % b < b + d := by
  have hb := h.pb
  have hd := h.pd
  have e : a / b = c / d := by have := h.div_le; omega
  have ha := Int.mul_ediv_add_emod a b
  have hc := Int.mul_ediv_add_emod c d
  have ra := Int.emod_nonneg a (show b ≠ 0 by omega)
  have rc := Int.emod_nonneg c (show d ≠ 0 by omega)
  have la := Int.emod_lt_of_pos a hb
  have lc := Int.emod_lt_of_pos c hd
  have key : a % b * d ≤ c % d * b := by
    have hle := h.le
    have e1 : a * d = b * (a / b) * d + a % b * d := by rw [← Int.add_mul, ha]
    have e2 : c * b = d * (c / d) * b + c % d * b := by rw [← Int.add_mul, hc]
    have e3 : b * (a / b) * d = d * (c / d) * b := by rw [e, Int.mul_assoc, Int.mul_comm b, Int.mul_comm (c / d)]
    omega
  have pc : 0 < c % d := by
    rcases Int.lt_or_le 0 (c % d) with hh | hh
    · exact hh
    · exfalso
      have : c % d = 0 := by omega
      rw [this, Int.zero_mul] at key
      have : 0 < a % b * d := Int.mul_pos (by omega) hd
      omega
  refine ⟨⟨hd, pc, hb, by omega, ?_⟩, e, by omega⟩
  rw [Int.mul_comm d, Int.mul_comm b]; exact key

theorem splK_fuel : ∀ (k k' : Nat) (a b c d : Int), Between a b c d → (b + d).toNat ≤ k → (b + d).toNat ≤ k' → splK k a b c d = splK k' a b c d
  | 0, _, a, b, c, d, h, h1, _ => by have := h.pb; have := h.pd; omega
  | _, 0, a, b, c, d, h, _, h1 => by have := h.pb; have := h.pd; omega
  | k + 1, k' + 1, a, b, c, d, h, h1, h2 => by
    unfold splK
    by_cases e1 : a % b = 0
    · rw [if_pos e1, if_pos e1]
    · rw [if_neg e1, if_neg e1]
      by_cases e2 : a / b < c / d
      · rw [if_pos e2, if_pos e2]
      · rw [if_neg e2, if_neg e2]
        obtain ⟨g, _, hlt⟩ := h.next e1 e2
        have := h.pb; have := h.pd
        rw [splK_fuel k k' d (c % d) b (a % b) g (by omega) (by omega)]
theorem spl_eq {a b c d : Int} (h : Between a b c d) : spl a b c d = if a % b = 0 then (a / b, 1)
    else if a / b < c / d then (a / b + 1, 1)
    else ((a / b) * (spl d (c % d) b (a % b)).1 + (spl d (c % d) b (a % b)).2, (spl d (c % d) b (a % b)).1) := by
  have hb := h.pb
  have hd := h.pd
  obtain ⟨k, hk⟩ : ∃ k, (b + d).toNat = k + 1 := ⟨(b + d).toNat - 1, by omega⟩
  conv => lhs; unfold spl; rw [hk]; unfold splK
  by_cases e1 : a % b = 0
  · rw [if_pos e1, if_pos e1]
  · rw [if_neg e1, if_neg e1]
    by_cases e2 : a / b < c / d
    · rw [if_pos e2, if_pos e2]
    · rw [if_neg e2, if_neg e2]
      obtain ⟨g, _, hlt⟩ := h.next e1 e2
      have e3 : splK k d (c % d) b (a % b) = spl d (c % d) b (a % b) := splK_fuel _ _ _ _ _ _ g (by omega) (Nat.le_refl _)
      rw [e3]

theorem spl_bound : ∀ (k : Nat) (a b c d : Int), Between a b c d → (b + d).toNat ≤ k → 0 < (spl a b c d).1 ∧ 0 < (spl a b c d).2 ∧ (((spl a b c d).1 ≤ a ∧ (spl a b c d).2 ≤ b) ∨ ((spl a b c d).1 ≤ c ∧ (spl a b c d).2 ≤ d))
  | 0, a, b, c, d, h, h1 => by have := h.pb; have := h.pd; omega
  | k + 1, a, b, c, d, h, h1 => by
    have ha := h.pa; have hb := h.pb; have hc := h.pc; have hd := h.pd
    have ea := Int.mul_ediv_add_emod a b
    have ec := Int.mul_ediv_add_emod c d
    have ra := Int.emod_nonneg a (show b ≠ 0 by omega)
    have na : 0 ≤ a / b := Int.ediv_nonneg (by omega) (by omega)
    have nb : a / b ≤ a := Int.ediv_le_self _ (by omega)
    have nc : c / d ≤ c := Int.ediv_le_self _ (by omega)
    rw [spl_eq h]
    by_cases e1 : a % b = 0
    · rw [if_pos e1]
      have : a / b ≠ 0 := fun e => by rw [e] at ea; omega
      exact ⟨by simp only; omega, by simp only; omega, .inl ⟨nb, by simp only; omega⟩⟩
    · rw [if_neg e1]
      by_cases e2 : a / b < c / d
      · rw [if_pos e2]
        exact ⟨by simp only; omega, by simp only; omega, .inr ⟨by simp only; omega, by simp only; omega⟩⟩
      · rw [if_neg e2]
        obtain ⟨g, e, hlt⟩ := h.next e1 e2
        obtain ⟨p1, p2, p3⟩ := spl_bound k d (c % d) b (a % b) g (by omega)
        generalize (spl d (c % d) b (a % b)).1 = p at *
        generalize (spl d (c % d) b (a % b)).2 = q at *
        have hp : 0 ≤ a / b * p := Int.mul_nonneg na (by omega)
        refine ⟨by simp only; omega, p1, ?_⟩
        rcases p3 with ⟨h3, h4⟩ | ⟨h3, h4⟩
        · right
          have : a / b * p ≤ a / b * d := Int.mul_le_mul_of_nonneg_left h3 na
          rw [e, Int.mul_comm (c / d) d] at this
          refine ⟨?_, h3⟩
          simp only; rw [e]; omega
        · left
          have : a / b * p ≤ a / b * b := Int.mul_le_mul_of_nonneg_left h3 na
          rw [Int.mul_comm (a / b) b] at this
          exact ⟨by simp only; omega, h3⟩
end Go.Proofs.YtoggkjobihlohaaDoor
