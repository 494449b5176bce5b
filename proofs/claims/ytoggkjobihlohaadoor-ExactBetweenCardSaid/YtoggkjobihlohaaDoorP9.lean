/-
  Plain laws: the ends of sums and of multiples of an interval lie in order.
-/
import Derived.Test.YtoggkjobihlohaaDoorF27
namespace Go.Proofs.YtoggkjobihlohaaDoor

/-- The interval of two numbers, the lesser one first, or the first error. -/
def endsT (p q : Int × Int × Int) : Int × Int × Int × Int × Int :=
  if p.2.2 = 0 then (if q.2.2 = 0 then ((leN p.1 p.2.1 q.1 q.2.1).1, (leN p.1 p.2.1 q.1 q.2.1).2, (grN p.1 p.2.1 q.1 q.2.1).1, (grN p.1 p.2.1 q.1 q.2.1).2, 0) else (0, 0, 0, 0, q.2.2)) else (0, 0, 0, 0, p.2.2)

theorem le_of_low {N D M E : Int} {p q : Int × Int × Int} (hp : LowOk N D p) (hq : LowOk M E q) (hD : 0 < D) (hE : 0 < E) (h : N * E ≤ M * D) : p.1 * q.2.1 ≤ q.1 * p.2.1 := by
  have a := hp.q; have b := hq.q
  have c := vpos hp.v; have d := vpos hq.v
  refine Int.le_of_mul_le_mul_right (a := D * E) ?_ (Int.mul_pos hD hE)
  have e1 : p.1 * q.2.1 * (D * E) = (N * E) * (p.2.1 * q.2.1) := by grind
  have e2 : q.1 * p.2.1 * (D * E) = (M * D) * (p.2.1 * q.2.1) := by grind
  rw [e1, e2]
  exact Int.mul_le_mul_of_nonneg_right h (Int.le_of_lt (Int.mul_pos c d))
theorem endsT_le {p q : Int × Int × Int} (hp : p.2.2 = 0) (hq : q.2.2 = 0) (h : p.1 * q.2.1 ≤ q.1 * p.2.1) : endsT p q = bothT p q := by
  have hc : ¬ 0 < cmpI p.1 p.2.1 q.1 q.2.1 := by have := (cmp_nonpos p.1 p.2.1 q.1 q.2.1).2 h; omega
  unfold endsT bothT leN grN
  rw [if_pos hp, if_pos hq, if_pos hp, if_pos hq, if_neg hc, if_neg hc]
theorem endsT_ge {p q : Int × Int × Int} (hp : p.2.2 = 0) (hq : q.2.2 = 0) (vp : valid p.1 p.2.1 = true) (vq : valid q.1 q.2.1 = true) (h : q.1 * p.2.1 ≤ p.1 * q.2.1) : endsT p q = bothT q p := by
  unfold endsT bothT leN grN
  rw [if_pos hp, if_pos hq, if_pos hq, if_pos hp]
  by_cases hc : 0 < cmpI p.1 p.2.1 q.1 q.2.1
  · rw [if_pos hc, if_pos hc]
  · have h1 : cmpI p.1 p.2.1 q.1 q.2.1 ≤ 0 := by omega
    have h2 := (cmp_nonpos q.1 q.2.1 p.1 p.2.1).2 h
    rw [cmp_anti] at h2
    obtain ⟨e1, e2⟩ := (cmp_zero vp vq).1 (by omega)
    rw [if_neg hc, if_neg hc, e1, e2]
theorem ends_err {p q : Int × Int × Int} (hp : p.2.2 = 0 ∨ p.2.2 = 3) (hq : q.2.2 = 0 ∨ q.2.2 = 3) (h : ¬ (p.2.2 = 0 ∧ q.2.2 = 0)) : endsT p q = (0, 0, 0, 0, 3) ∧ bothT p q = (0, 0, 0, 0, 3) ∧ bothT q p = (0, 0, 0, 0, 3) := by
  unfold endsT bothT
  by_cases h1 : p.2.2 = 0
  · have h2 : q.2.2 = 3 := by
      rcases hq with g | g
      · exact absurd ⟨h1, g⟩ h
      · exact g
    simp [h1, h2]
  · have h2 : p.2.2 = 3 := by
      rcases hp with g | g
      · exact absurd g h1
      · exact g
    rcases hq with g | g <;> simp [h2, g]
theorem ends_sum {a b c d k l m n : Int} (hx : validR a b c d = true) (hy : validR k l m n = true) : endsT (addT a b k l) (addT c d m n) = sumR a b c d k l m n := by
  obtain ⟨⟨v1, v2⟩, hle⟩ := validR_iff.1 hx
  obtain ⟨⟨v3, v4⟩, hle'⟩ := validR_iff.1 hy
  by_cases h : (addT a b k l).2.2 = 0 ∧ (addT c d m n).2.2 = 0
  · refine endsT_le h.1 h.2 (le_of_low (add_ok v1 v3 h.1) (add_ok v2 v4 h.2) (Int.mul_pos (vpos v1) (vpos v3)) (Int.mul_pos (vpos v2) (vpos v4)) ?_)
    have p1 := vpos v1; have p2 := vpos v2; have p3 := vpos v3; have p4 := vpos v4
    have i1 : (a * d) * (l * n) ≤ (c * b) * (l * n) := Int.mul_le_mul_of_nonneg_right hle (Int.le_of_lt (Int.mul_pos p3 p4))
    have i2 : (k * n) * (b * d) ≤ (m * l) * (b * d) := Int.mul_le_mul_of_nonneg_right hle' (Int.le_of_lt (Int.mul_pos p1 p2))
    have e1 : (a * l + k * b) * (d * n) = (a * d) * (l * n) + (k * n) * (b * d) := by grind
    have e2 : (c * n + m * d) * (b * l) = (c * b) * (l * n) + (m * l) * (b * d) := by grind
    omega
  · have := ends_err (add_err v1 v3) (add_err v2 v4) h
    rw [this.1, sumR, this.2.1]
theorem ends_scale {a b c d n m : Int} (hx : validR a b c d = true) (hn : valid n m = true) : endsT (mulT n m a b) (mulT n m c d) = scaleR a b c d n m := by
  obtain ⟨⟨v1, v2⟩, hle⟩ := validR_iff.1 hx
  rw [mul_comm' n m a b, mul_comm' n m c d]
  unfold scaleR
  have p1 := vpos v1; have p2 := vpos v2; have pm := vpos hn
  by_cases h : (mulT a b n m).2.2 = 0 ∧ (mulT c d n m).2.2 = 0
  · have g1 := mul_ok v1 hn h.1
    have g2 := mul_ok v2 hn h.2
    by_cases hneg : n < 0
    · rw [if_pos hneg]
      refine endsT_ge h.1 h.2 g1.v g2.v (le_of_low g2 g1 (Int.mul_pos p2 pm) (Int.mul_pos p1 pm) ?_)
      have i1 : (a * d) * (0 - n) ≤ (c * b) * (0 - n) := Int.mul_le_mul_of_nonneg_right hle (by omega)
      have i2 := Int.mul_le_mul_of_nonneg_right i1 (Int.le_of_lt pm)
      have e1 : c * n * (b * m) = 0 - (c * b) * (0 - n) * m := by grind
      have e2 : a * n * (d * m) = 0 - (a * d) * (0 - n) * m := by grind
      omega
    · rw [if_neg hneg]
      refine endsT_le h.1 h.2 (le_of_low g1 g2 (Int.mul_pos p1 pm) (Int.mul_pos p2 pm) ?_)
      have i1 : (a * d) * n ≤ (c * b) * n := Int.mul_le_mul_of_nonneg_right hle (by omega)
      have i2 := Int.mul_le_mul_of_nonneg_right i1 (Int.le_of_lt pm)
      have e1 : a * n * (d * m) = (a * d) * n * m := by grind
      have e2 : c * n * (b * m) = (c * b) * n * m := by grind
      omega
  · have := ends_err (mul_err v1 hn) (mul_err v2 hn) h
    rw [this.1]
    split
    · rw [this.2.2]
    · rw [this.2.1]
end Go.Proofs.YtoggkjobihlohaaDoor
