/-
  Plain laws: comparing, with sums, products and mediants.
-/
import Derived.Test.YtoggkjobihlohaaDoorP6
namespace Go.Proofs.YtoggkjobihlohaaDoor

def sg (x : Int) : Int := if x < 0 then -1 else if 0 < x then 1 else 0
theorem cmp_sg (n d m e : Int) : cmpI n d m e = sg (n * e - m * d) := by
  unfold cmpI sg
  by_cases h1 : n * e < m * d
  · rw [if_pos h1, if_pos (by omega)]
  · by_cases h2 : m * d < n * e
    · rw [if_neg h1, if_pos h2, if_neg (by omega), if_pos (by omega)]
    · rw [if_neg h1, if_neg h2, if_neg (by omega), if_neg (by omega)]
theorem sg_scale {A B P Q : Int} (h : A * P = B * Q) (hP : 0 < P) (hQ : 0 < Q) : sg A = sg B := by
  unfold sg
  rcases Int.lt_trichotomy A 0 with g | g | g
  · have h1 : A * P < 0 := Int.mul_neg_of_neg_of_pos g hP
    have h2 : B < 0 := by
      rcases Int.lt_or_le B 0 with k | k
      · exact k
      · have : 0 ≤ B * Q := Int.mul_nonneg k (by omega)
        omega
    rw [if_pos g, if_pos h2]
  · subst g
    have h2 : B = 0 := by
      rw [Int.zero_mul] at h
      rcases Int.mul_eq_zero.1 h.symm with k | k
      · exact k
      · omega
    rw [h2]
  · have h1 : 0 < A * P := Int.mul_pos g hP
    have h2 : 0 < B := by
      rcases Int.lt_or_le 0 B with k | k
      · exact k
      · have : B * Q ≤ 0 := Int.mul_nonpos_of_nonpos_of_nonneg k (by omega)
        omega
    rw [if_neg (by omega), if_pos g, if_neg (by omega), if_pos h2]
theorem sg_neg (x : Int) : sg (-x) = 0 - sg x := by
  unfold sg
  rcases Int.lt_trichotomy x 0 with g | g | g
  · rw [if_neg (by omega), if_pos (by omega), if_pos g]; rfl
  · subst g; rfl
  · rw [if_pos (by omega), if_neg (by omega), if_pos g]; rfl

section
variable {n d m e k l : Int}
theorem cmp_anti (n d m e : Int) : cmpI n d m e = 0 - cmpI m e n d := by
  rw [cmp_sg, cmp_sg, show n * e - m * d = -(m * d - n * e) by omega, sg_neg]
theorem cmp_zero (ha : valid n d = true) (hb : valid m e = true) : cmpI n d m e = 0 ↔ n = m ∧ d = e := by
  constructor
  · intro h
    have h1 : n * e = m * d := by
      unfold cmpI at h
      split at h
      · cases h
      · split at h
        · cases h
        · omega
    have h2 := low_congr (vpos ha) (vpos hb) h1
    rw [low_own ha, low_own hb] at h2
    simp only [Prod.mk.injEq, and_true] at h2
    exact h2
  · rintro ⟨rfl, rfl⟩
    simp [cmpI]
theorem cmp_nonpos (n d m e : Int) : cmpI n d m e ≤ 0 ↔ n * e ≤ m * d := by
  have := cmp_le n d m e
  rw [Bool.eq_iff_iff] at this
  simpa using this
theorem cmp_trans (ha : valid n d = true) (hb : valid m e = true) (hc : valid k l = true) (h1 : cmpI n d m e ≤ 0) (h2 : cmpI m e k l ≤ 0) : cmpI n d k l ≤ 0 := by
  rw [cmp_nonpos] at *
  have pd := vpos ha; have pe := vpos hb; have pl := vpos hc
  have a1 : n * e * l ≤ m * d * l := Int.mul_le_mul_of_nonneg_right h1 (by omega)
  have a2 : m * l * d ≤ k * e * d := Int.mul_le_mul_of_nonneg_right h2 (by omega)
  refine Int.le_of_mul_le_mul_right (a := e) ?_ pe
  have e1 : n * l * e = n * e * l := by grind
  have e2 : m * d * l = m * l * d := by grind
  have e3 : k * d * e = k * e * d := by grind
  omega
theorem cmp_add (ha : valid n d = true) (hb : valid m e = true) (hc : valid k l = true) (h : (addT n d k l).2.2 = 0) (h' : (addT m e k l).2.2 = 0) :
    cmpI (addT n d k l).1 (addT n d k l).2.1 (addT m e k l).1 (addT m e k l).2.1 = cmpI n d m e := by
  have g := add_ok ha hc h
  have g' := add_ok hb hc h'
  have q := g.q; have q' := g'.q
  have pv := vpos g.v; have pv' := vpos g'.v
  have pd := vpos ha; have pe := vpos hb; have pl := vpos hc
  generalize (addT n d k l).1 = p at *
  generalize (addT n d k l).2.1 = u at *
  generalize (addT m e k l).1 = r at *
  generalize (addT m e k l).2.1 = s at *
  rw [cmp_sg, cmp_sg]
  refine sg_scale (P := d * l * (e * l)) (Q := s * u * (l * l)) ?_ (Int.mul_pos (Int.mul_pos pd pl) (Int.mul_pos pe pl)) (Int.mul_pos (Int.mul_pos pv' pv) (Int.mul_pos pl pl))
  grind
theorem cmp_mul (ha : valid n d = true) (hb : valid m e = true) (hc : valid k l = true) (hk : 0 < k) (h : (mulT n d k l).2.2 = 0) (h' : (mulT m e k l).2.2 = 0) :
    cmpI (mulT n d k l).1 (mulT n d k l).2.1 (mulT m e k l).1 (mulT m e k l).2.1 = cmpI n d m e := by
  have g := mul_ok ha hc h
  have g' := mul_ok hb hc h'
  have q := g.q; have q' := g'.q
  have pv := vpos g.v; have pv' := vpos g'.v
  have pd := vpos ha; have pe := vpos hb; have pl := vpos hc
  generalize (mulT n d k l).1 = p at *
  generalize (mulT n d k l).2.1 = u at *
  generalize (mulT m e k l).1 = r at *
  generalize (mulT m e k l).2.1 = s at *
  rw [cmp_sg, cmp_sg]
  refine sg_scale (P := d * l * (e * l)) (Q := s * u * (l * k)) ?_ (Int.mul_pos (Int.mul_pos pd pl) (Int.mul_pos pe pl)) (Int.mul_pos (Int.mul_pos pv' pv) (Int.mul_pos pl hk))
  grind
theorem cmp_med (ha : valid n d = true) (hb : valid m e = true) (h : (medT n d m e).2.2 = 0) :
    cmpI n d (medT n d m e).1 (medT n d m e).2.1 = cmpI n d m e ∧ cmpI (medT n d m e).1 (medT n d m e).2.1 m e = cmpI n d m e := by
  have g := med_ok ha hb h
  have q := g.q
  have pv := vpos g.v
  have pd := vpos ha; have pe := vpos hb
  generalize (medT n d m e).1 = p at *
  generalize (medT n d m e).2.1 = u at *
  rw [cmp_sg, cmp_sg n d m e, cmp_sg]
  constructor
  · refine sg_scale (P := d + e) (Q := u) ?_ (by omega) pv
    grind
  · refine sg_scale (P := d + e) (Q := u) ?_ (by omega) pv
    grind
end
end Go.Proofs.YtoggkjobihlohaaDoor
