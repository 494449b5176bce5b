/-
  Plain laws: neighbours on both sides of a number, up to a denominator.
-/
import Derived.WalkKit
namespace Go.Proofs.YtoggkjobihlohaaDoor

structure Nb where
  p : Int
  q : Int
  r : Int
  s : Int

/-- One step: the mediant takes the place of one neighbour. -/
def Nb.step (n d : Int) (x : Nb) : Nb := if (x.p + x.r) * d < n * (x.q + x.s) then ⟨x.p + x.r, x.q + x.s, x.r, x.s⟩ else ⟨x.p, x.q, x.p + x.r, x.q + x.s⟩
/-- All steps, while the mediant's denominator is small enough. -/
def Nb.finK (n d m : Int) : Nat → Nb → Nb
  | 0, x => x
  | k + 1, x => if x.q + x.s ≤ m then finK n d m k (x.step n d) else x
def Nb.fin (n d m : Int) (x : Nb) : Nb := Nb.finK n d m (m - x.q - x.s + 1).toNat x

structure Nb.Ok (n d m : Int) (x : Nb) : Prop where
  q : 1 ≤ x.q ∧ x.q ≤ m
  s : 1 ≤ x.s ∧ x.s ≤ m
  lo : x.p * d < n * x.q
  hi : n * x.s < x.r * d

theorem Nb.step_ok {n d m : Int} {x : Nb} (h : x.Ok n d m) (hm : x.q + x.s ≤ m) (hne : (x.p + x.r) * d ≠ n * (x.q + x.s)) : (x.step n d).Ok n d m ∧ (x.step n d).q + (x.step n d).s > x.q + x.s := by
  obtain ⟨h1, h2, h3, h4⟩ := h
  unfold Nb.step
  split
  · rename_i hlt
    exact ⟨⟨⟨by simp only; omega, hm⟩, h2, hlt, h4⟩, by simp only; omega⟩
  · exact ⟨⟨h1, ⟨by simp only; omega, hm⟩, h3, by simp only; omega⟩, by simp only; omega⟩

theorem Nb.finK_fuel (n d m : Int) : ∀ (k k' : Nat) (x : Nb), 1 ≤ x.q → 1 ≤ x.s → (m - x.q - x.s + 1).toNat ≤ k → (m - x.q - x.s + 1).toNat ≤ k' → Nb.finK n d m k x = Nb.finK n d m k' x
  | 0, 0, x, _, _, _, _ => rfl
  | 0, k' + 1, x, h1, h2, h3, _ => by
    unfold Nb.finK; rw [if_neg (by omega)]
  | k + 1, 0, x, h1, h2, _, h3 => by
    unfold Nb.finK; rw [if_neg (by omega)]
  | k + 1, k' + 1, x, h1, h2, h3, h4 => by
    unfold Nb.finK
    by_cases h : x.q + x.s ≤ m
    · rw [if_pos h, if_pos h]
      have : 1 ≤ (x.step n d).q ∧ 1 ≤ (x.step n d).s ∧ (x.step n d).q + (x.step n d).s ≥ x.q + x.s + 1 := by
        unfold Nb.step
        split <;> (simp only; omega)
      exact Nb.finK_fuel n d m k k' _ this.1 this.2.1 (by omega) (by omega)
    · rw [if_neg h, if_neg h]
theorem Nb.fin_step {n d m : Int} {x : Nb} (h1 : 1 ≤ x.q) (h2 : 1 ≤ x.s) (h : x.q + x.s ≤ m) : Nb.fin n d m x = Nb.fin n d m (x.step n d) := by
  have : 1 ≤ (x.step n d).q ∧ 1 ≤ (x.step n d).s ∧ (x.step n d).q + (x.step n d).s ≥ x.q + x.s + 1 := by
    unfold Nb.step
    split <;> (simp only; omega)
  obtain ⟨k, hk⟩ : ∃ k, (m - x.q - x.s + 1).toNat = k + 1 := ⟨(m - x.q - x.s + 1).toNat - 1, by omega⟩
  conv => lhs; unfold Nb.fin; rw [hk]; unfold Nb.finK
  rw [if_pos h]
  exact Nb.finK_fuel n d m _ _ _ this.1 this.2.1 (by omega) (Nat.le_refl _)
theorem Nb.fin_stop {n d m : Int} {x : Nb} (h : ¬ x.q + x.s ≤ m) : Nb.fin n d m x = x := by
  unfold Nb.fin
  cases (m - x.q - x.s + 1).toNat with
  | zero => rfl
  | succ k => unfold Nb.finK; rw [if_neg h]

/-- Many steps at once, to the lower side. -/
theorem Nb.many_lo {n d m : Int} : ∀ (k : Nat) (p q r s : Int), 1 ≤ q → 1 ≤ s → 0 ≤ r * d - n * s → (k : Int) * (r * d - n * s) < n * q - p * d → q + k * s ≤ m → Nb.fin n d m ⟨p, q, r, s⟩ = Nb.fin n d m ⟨p + k * r, q + k * s, r, s⟩
  | 0, p, q, r, s, _, _, _, _, _ => by simp
  | k + 1, p, q, r, s, h1, h2, h3, h4, h5 => by
    have e1 : ((k + 1 : Nat) : Int) * s = k * s + s := by rw [Int.natCast_add, Int.add_mul]; simp
    have e2 : ((k + 1 : Nat) : Int) * r = k * r + r := by rw [Int.natCast_add, Int.add_mul]; simp
    have e3 : ((k + 1 : Nat) : Int) * (r * d - n * s) = k * (r * d - n * s) + (r * d - n * s) := by rw [Int.natCast_add, Int.add_mul]; simp
    have hk : 0 ≤ (k : Int) * s := Int.mul_nonneg (by omega) (by omega)
    have hk2 : 0 ≤ (k : Int) * (r * d - n * s) := Int.mul_nonneg (by omega) h3
    rw [e3] at h4
    rw [e1] at h5 ⊢
    rw [e2]
    have a1 : (p + r) * d = p * d + r * d := Int.add_mul _ _ _
    have a2 : n * (q + s) = n * q + n * s := Int.mul_add _ _ _
    rw [Nb.fin_step (x := ⟨p, q, r, s⟩) h1 h2 (by simp only; omega)]
    have hst : Nb.step n d ⟨p, q, r, s⟩ = ⟨p + r, q + s, r, s⟩ := by unfold Nb.step; rw [if_pos (by simp only; omega)]
    rw [hst, Nb.many_lo k (p + r) (q + s) r s (by omega) h2 h3 (by omega) (by omega)]
    congr 2 <;> omega
/-- Many steps at once, to the upper side. -/
theorem Nb.many_hi {n d m : Int} : ∀ (k : Nat) (p q r s : Int), 1 ≤ q → 1 ≤ s → 0 ≤ n * q - p * d → (k : Int) * (n * q - p * d) < r * d - n * s → s + k * q ≤ m → Nb.fin n d m ⟨p, q, r, s⟩ = Nb.fin n d m ⟨p, q, r + k * p, s + k * q⟩
  | 0, p, q, r, s, _, _, _, _, _ => by simp
  | k + 1, p, q, r, s, h1, h2, h3, h4, h5 => by
    have e1 : ((k + 1 : Nat) : Int) * q = k * q + q := by rw [Int.natCast_add, Int.add_mul]; simp
    have e2 : ((k + 1 : Nat) : Int) * p = k * p + p := by rw [Int.natCast_add, Int.add_mul]; simp
    have e3 : ((k + 1 : Nat) : Int) * (n * q - p * d) = k * (n * q - p * d) + (n * q - p * d) := by rw [Int.natCast_add, Int.add_mul]; simp
    have hk : 0 ≤ (k : Int) * q := Int.mul_nonneg (by omega) (by omega)
    have hk2 : 0 ≤ (k : Int) * (n * q - p * d) := Int.mul_nonneg (by omega) h3
    rw [e3] at h4
    rw [e1] at h5 ⊢
    rw [e2]
    have a1 : (p + r) * d = p * d + r * d := Int.add_mul _ _ _
    have a2 : n * (q + s) = n * q + n * s := Int.mul_add _ _ _
    have a3 : (r + p) * d = r * d + p * d := Int.add_mul _ _ _
    have a4 : n * (s + q) = n * s + n * q := Int.mul_add _ _ _
    rw [Nb.fin_step (x := ⟨p, q, r, s⟩) h1 h2 (by simp only; omega)]
    have hst : Nb.step n d ⟨p, q, r, s⟩ = ⟨p, q, r + p, s + q⟩ := by
      unfold Nb.step; rw [if_neg (by simp only; omega)]
      congr 1 <;> (simp only; omega)
    rw [hst, Nb.many_hi k p q (r + p) (s + q) h1 (by omega) h3 (by omega) (by omega)]
    congr 2 <;> omega
end Go.Proofs.YtoggkjobihlohaaDoor
