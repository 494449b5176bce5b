/-
  Plain laws: no number with a small denominator is closer than Best.
-/
import Derived.Test.YtoggkjobihlohaaDoorP6
namespace Go.Proofs.YtoggkjobihlohaaDoor

theorem Nb.finK_end {n d m : Int} (hb : BestArg n d m) : ∀ (k : Nat) {x : Nb}, x.Inv n d m → (m - x.q - x.s + 1).toNat ≤ k → m < (Nb.finK n d m k x).q + (Nb.finK n d m k x).s
  | 0, x, h, hk => by
    show m < x.q + x.s
    omega
  | k + 1, x, h, hk => by
    unfold Nb.finK
    split
    · rename_i hm
      have h1 := Nb.step_inv hb h hm
      have h2 : (x.step n d).q + (x.step n d).s > x.q + x.s := by
        have hne : (x.p + x.r) * d ≠ n * (x.q + x.s) := hb.ne (by have := h.ok.q; have := h.ok.s; omega) hm
        exact (Nb.step_ok h.ok hm hne).2
      exact Nb.finK_end hb k h1 (by omega)
    · omega
theorem bestN_end {n d m : Int} (hb : BestArg n d m) : m < (bestN n d m).q + (bestN n d m).s := Nb.finK_end hb _ (Nb.start_inv hb) (Nat.le_refl _)

theorem abs_mul_pos {a b : Int} (hb : 0 ≤ b) : ((a.natAbs : Int)) * b = ((a * b).natAbs : Int) := by
  rw [Int.natAbs_mul]
  have : (b.natAbs : Int) = b := by omega
  rw [Int.natCast_mul, this]
/-- p/q is no farther from n/d than u/v. -/
def Close (n d p q u v : Int) : Prop := ((n * q - p * d).natAbs : Int) * v ≤ ((n * v - u * d).natAbs : Int) * q
structure BestOk (n d m p q : Int) : Prop where
  v : valid p q = true
  hq : q ≤ m
  c : ∀ u v : Int, 1 ≤ v → v ≤ m → Close n d p q u v

theorem best_near {n d m : Int} (hb : BestArg n d m) :
    BestOk n d m (if closeB (bestN n d m).p (bestN n d m).q (bestN n d m).r (bestN n d m).s n d = true then (bestN n d m).p else (bestN n d m).r) (if closeB (bestN n d m).p (bestN n d m).q (bestN n d m).r (bestN n d m).s n d = true then (bestN n d m).q else (bestN n d m).s) := by
  have hi := bestN_inv hb
  have he := bestN_end hb
  have z := hi.sz hb
  have hu := hi.un
  have zq := z.q; have zs := z.s; have za := z.a; have zb := z.b; have zp := z.p; have zr := z.r
  have hm := hb.hm
  have gg := gcd_of_un hu
  generalize bestN n d m = x at *
  obtain ⟨p, q, r, s⟩ := x
  simp only at *
  -- every other one lies outside
  have side : ∀ u v : Int, 1 ≤ v → v ≤ m → u * q ≤ p * v ∨ r * v ≤ u * s := by
    intro u v h1 h2
    rcases Int.lt_or_le (p * v) (u * q) with g1 | g1
    · rcases Int.lt_or_le (u * s) (r * v) with g2 | g2
      · exfalso
        have e1 : v = q * (r * v - u * s) + s * (u * q - p * v) := by
          have : q * (r * v - u * s) + s * (u * q - p * v) = v * (r * q - p * s) := by grind
          rw [this, hu, Int.mul_one]
        have e2 : q * 1 ≤ q * (r * v - u * s) := Int.mul_le_mul_of_nonneg_left (by omega) (by omega)
        have e3 : s * 1 ≤ s * (u * q - p * v) := Int.mul_le_mul_of_nonneg_left (by omega) (by omega)
        omega
      · exact .inr g2
    · exact .inl g1
  have low : ∀ u v : Int, 1 ≤ v → u * q ≤ p * v → (n * q - p * d) * v ≤ ((n * v - u * d).natAbs : Int) * q := by
    intro u v h1 h2
    have e1 : u * q * d ≤ p * v * d := Int.mul_le_mul_of_nonneg_right h2 (by have := hb.lt; omega)
    have e2 : (n * v - u * d) * q ≤ ((n * v - u * d).natAbs : Int) * q := Int.mul_le_mul_of_nonneg_right (by omega) (by omega)
    have e3 : (n * v - u * d) * q = n * v * q - u * q * d := by grind
    have e4 : (n * q - p * d) * v = n * v * q - p * v * d := by grind
    omega
  have high : ∀ u v : Int, 1 ≤ v → r * v ≤ u * s → (r * d - n * s) * v ≤ ((n * v - u * d).natAbs : Int) * s := by
    intro u v h1 h2
    have e1 : r * v * d ≤ u * s * d := Int.mul_le_mul_of_nonneg_right h2 (by have := hb.lt; omega)
    have e2 : -(n * v - u * d) * s ≤ ((n * v - u * d).natAbs : Int) * s := Int.mul_le_mul_of_nonneg_right (by omega) (by omega)
    have e3 : -(n * v - u * d) * s = u * s * d - n * v * s := by grind
    have e4 : (r * d - n * s) * v = r * v * d - n * v * s := by grind
    omega
  by_cases hc : closeB p q r s n d = true
  · rw [if_pos hc, if_pos hc]
    have hc' : (n * q - p * d) * s ≤ (r * d - n * s) * q := by simpa [closeB] using hc
    refine ⟨valid_iff.2 ⟨by omega, by omega, by omega, by omega, gg.1⟩, zq.2, fun u v h1 h2 => ?_⟩
    have habs : ((n * q - p * d).natAbs : Int) = n * q - p * d := by omega
    unfold Close
    rw [habs]
    rcases side u v h1 h2 with g | g
    · exact low u v h1 g
    · have k := high u v h1 g
      refine Int.le_of_mul_le_mul_right (a := s) ?_ (by omega)
      have k1 : (r * d - n * s) * v * q ≤ ((n * v - u * d).natAbs : Int) * s * q := Int.mul_le_mul_of_nonneg_right k (by omega)
      have k2 : (n * q - p * d) * s * v ≤ (r * d - n * s) * q * v := Int.mul_le_mul_of_nonneg_right hc' (by omega)
      generalize ((n * v - u * d).natAbs : Int) = D at *
      have k3 : (n * q - p * d) * v * s = (n * q - p * d) * s * v := Int.mul_right_comm _ _ _
      have k4 : (r * d - n * s) * q * v = (r * d - n * s) * v * q := Int.mul_right_comm _ _ _
      have k5 : D * q * s = D * s * q := Int.mul_right_comm _ _ _
      omega
  · rw [if_neg hc, if_neg hc]
    have hc' : (r * d - n * s) * q < (n * q - p * d) * s := by
      have : ¬ (n * q - p * d) * s ≤ (r * d - n * s) * q := by simpa [closeB] using hc
      omega
    refine ⟨valid_iff.2 ⟨by omega, by omega, by omega, by omega, gg.2⟩, zs.2, fun u v h1 h2 => ?_⟩
    have habs : ((n * s - r * d).natAbs : Int) = r * d - n * s := by omega
    unfold Close
    rw [habs]
    rcases side u v h1 h2 with g | g
    · have k := low u v h1 g
      refine Int.le_of_mul_le_mul_right (a := q) ?_ (by omega)
      have k1 : (n * q - p * d) * v * s ≤ ((n * v - u * d).natAbs : Int) * q * s := Int.mul_le_mul_of_nonneg_right k (by omega)
      have k2 : (r * d - n * s) * q * v ≤ (n * q - p * d) * s * v := Int.mul_le_mul_of_nonneg_right (by omega) (by omega)
      generalize ((n * v - u * d).natAbs : Int) = D at *
      have k3 : (r * d - n * s) * v * q = (r * d - n * s) * q * v := Int.mul_right_comm _ _ _
      have k4 : (n * q - p * d) * s * v = (n * q - p * d) * v * s := Int.mul_right_comm _ _ _
      have k5 : D * q * s = D * s * q := Int.mul_right_comm _ _ _
      omega
    · exact high u v h1 g

theorem best_ok {n d m : Int} (hv : valid n d = true) (hm : ¬ (m < 1 ∨ 100000 < m)) : (bestT n d m).2.2 = 0 ∧ BestOk n d m (bestT n d m).1 (bestT n d m).2.1 ∧ (d ≤ m → (bestT n d m).1 = n ∧ (bestT n d m).2.1 = d) := by
  by_cases hd : d ≤ m
  · rw [bestT_own hm hd]
    refine ⟨rfl, ⟨hv, hd, fun u v h1 _ => ?_⟩, fun _ => ⟨rfl, rfl⟩⟩
    unfold Close
    rw [show n * d - n * d = 0 by omega]
    simp only [Int.natAbs_zero, Int.natCast_zero, Int.zero_mul]
    exact Int.mul_nonneg (by omega) (by have := vpos hv; omega)
  · have h := best_near (bestArg_of hv hm hd)
    rw [bestT_near hm hd]
    refine ⟨by split <;> rfl, ?_, fun h => absurd h hd⟩
    split
    · rename_i hc; rw [if_pos hc, if_pos hc] at h; exact h
    · rename_i hc; rw [if_neg hc, if_neg hc] at h; exact h

/-- The distance in lowest terms. -/
theorem near_le {n d p q u v : Int} (ha : valid n d = true) (hb : valid p q = true) (hc : valid u v = true) (h : (subT n d p q).2.2 = 0) (h' : (subT n d u v).2.2 = 0) (hcl : Close n d p q u v) :
    ((subT n d p q).1.natAbs : Int) * (subT n d u v).2.1 ≤ ((subT n d u v).1.natAbs : Int) * (subT n d p q).2.1 := by
  have g := sub_ok ha hb h
  have g' := sub_ok ha hc h'
  have k := g.q; have k' := g'.q
  have pv := vpos g.v; have pv' := vpos g'.v
  have pd := vpos ha; have pq := vpos hb; have pw := vpos hc
  unfold Close at hcl
  generalize (subT n d p q).1 = x at *
  generalize (subT n d p q).2.1 = x' at *
  generalize (subT n d u v).1 = y at *
  generalize (subT n d u v).2.1 = y' at *
  have a1 : ((n * q - p * d).natAbs : Int) * x' = (x.natAbs : Int) * (d * q) := by rw [abs_mul_pos (by omega), abs_mul_pos (Int.le_of_lt (Int.mul_pos pd pq)), k]
  have a2 : ((n * v - u * d).natAbs : Int) * y' = (y.natAbs : Int) * (d * v) := by rw [abs_mul_pos (by omega), abs_mul_pos (Int.le_of_lt (Int.mul_pos pd pw)), k']
  generalize ((n * q - p * d).natAbs : Int) = D at *
  generalize ((n * v - u * d).natAbs : Int) = E at *
  generalize (x.natAbs : Int) = X at *
  generalize (y.natAbs : Int) = Y at *
  have pos : 0 < d * q * v := Int.mul_pos (Int.mul_pos pd pq) pw
  refine Int.le_of_mul_le_mul_right (a := d * q * v) ?_ pos
  have b1 : X * y' * (d * q * v) = D * v * (x' * y') := by
    have : X * y' * (d * q * v) = X * (d * q) * (y' * v) := by grind
    rw [this, ← a1]; grind
  have b2 : Y * x' * (d * q * v) = E * q * (x' * y') := by
    have : Y * x' * (d * q * v) = Y * (d * v) * (x' * q) := by grind
    rw [this, ← a2]; grind
  rw [b1, b2]
  exact Int.mul_le_mul_of_nonneg_right hcl (Int.le_of_lt (Int.mul_pos pv pv'))
end Go.Proofs.YtoggkjobihlohaaDoor
