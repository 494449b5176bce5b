/-
  Plain laws: what is in intervals, their meets, hulls, sums and multiples.
-/
import Derived.Test.YtoggkjobihlohaaDoorF28
namespace Go.Proofs.YtoggkjobihlohaaDoor

theorem leQ_trans {n d m e k l : Int} (hd : 0 < d) (he : 0 < e) (hl : 0 < l) (h : n * e ≤ m * d) (h' : m * l ≤ k * e) : n * l ≤ k * d := by
  have a1 : n * e * l ≤ m * d * l := Int.mul_le_mul_of_nonneg_right h (by omega)
  have a2 : m * l * d ≤ k * e * d := Int.mul_le_mul_of_nonneg_right h' (by omega)
  refine Int.le_of_mul_le_mul_right (a := e) ?_ he
  have e1 : n * l * e = n * e * l := by grind
  have e2 : m * d * l = m * l * d := by grind
  have e3 : k * d * e = k * e * d := by grind
  omega
section
variable {a b c d k l m n p q u v z : Int}
theorem gr_le (hb : 0 < b) (hl : 0 < l) (hq : 0 < q) : (grN a b k l).1 * q ≤ p * (grN a b k l).2 ↔ a * q ≤ p * b ∧ k * q ≤ p * l := by
  unfold grN
  split
  · rename_i h
    have h := (cmp_gt a b k l).1 h
    exact ⟨fun h1 => ⟨h1, leQ_trans hl hb hq (Int.le_of_lt h) h1⟩, fun h1 => h1.1⟩
  · rename_i h
    have h : ¬ k * b < a * l := fun hh => h ((cmp_gt a b k l).2 hh)
    exact ⟨fun h1 => ⟨leQ_trans hb hl hq (Int.not_lt.1 h) h1, h1⟩, fun h1 => h1.2⟩
theorem le_le (hb : 0 < b) (hl : 0 < l) (hq : 0 < q) : p * (leN a b k l).2 ≤ (leN a b k l).1 * q ↔ p * b ≤ a * q ∧ p * l ≤ k * q := by
  unfold leN
  split
  · rename_i h
    have h := (cmp_gt a b k l).1 h
    exact ⟨fun h1 => ⟨leQ_trans hq hl hb h1 (Int.le_of_lt h), h1⟩, fun h1 => h1.2⟩
  · rename_i h
    have h : ¬ k * b < a * l := fun hh => h ((cmp_gt a b k l).2 hh)
    exact ⟨fun h1 => ⟨h1, leQ_trans hq hb hl h1 (Int.not_lt.1 h)⟩, fun h1 => h1.1⟩
theorem gr_lo (hb : 0 < b) (hl : 0 < l) (hq : 0 < q) (h : p * b ≤ a * q ∨ p * l ≤ k * q) : p * (grN a b k l).2 ≤ (grN a b k l).1 * q := by
  unfold grN
  split
  · rename_i g
    have g := (cmp_gt a b k l).1 g
    rcases h with h | h
    · exact h
    · exact leQ_trans hq hl hb h (Int.le_of_lt g)
  · rename_i g
    have g : ¬ k * b < a * l := fun hh => g ((cmp_gt a b k l).2 hh)
    rcases h with h | h
    · exact leQ_trans hq hb hl h (Int.not_lt.1 g)
    · exact h
theorem le_hi (hb : 0 < b) (hl : 0 < l) (hq : 0 < q) (h : a * q ≤ p * b ∨ k * q ≤ p * l) : (leN a b k l).1 * q ≤ p * (leN a b k l).2 := by
  unfold leN
  split
  · rename_i g
    have g := (cmp_gt a b k l).1 g
    rcases h with h | h
    · exact leQ_trans hl hb hq (Int.le_of_lt g) h
    · exact h
  · rename_i g
    have g : ¬ k * b < a * l := fun hh => g ((cmp_gt a b k l).2 hh)
    rcases h with h | h
    · exact h
    · exact leQ_trans hb hl hq (Int.not_lt.1 g) h
theorem meet_has (hx : validR a b c d = true) (hy : validR k l m n = true) (hp : valid p q = true) :
    (((meetT a b c d k l m n).2.2.2.2 == 0) && hasB (meetT a b c d k l m n).1 (meetT a b c d k l m n).2.1 (meetT a b c d k l m n).2.2.1 (meetT a b c d k l m n).2.2.2.1 p q) = (hasB a b c d p q && hasB k l m n p q) := by
  obtain ⟨⟨v1, v2⟩, i1⟩ := validR_iff.1 hx
  obtain ⟨⟨v3, v4⟩, i2⟩ := validR_iff.1 hy
  have g1 := gr_le (a := a) (k := k) (p := p) (vpos v1) (vpos v3) (vpos hp)
  have g2 := le_le (a := c) (k := m) (p := p) (vpos v2) (vpos v4) (vpos hp)
  have w1 := grN_valid v1 v3
  have w2 := leN_valid v2 v4
  rw [Bool.eq_iff_iff]
  simp only [Bool.and_eq_true, hasB_iff, beq_iff_eq]
  unfold meetT
  by_cases hc : cmpI (grN a b k l).1 (grN a b k l).2 (leN c d m n).1 (leN c d m n).2 > 0
  · rw [if_pos hc]
    constructor
    · rintro ⟨h, _⟩; cases h
    · rintro ⟨⟨_, _, h1, h2⟩, _, _, h3, h4⟩
      exfalso
      have := leQ_trans (vpos w1) (vpos hp) (vpos w2) (g1.2 ⟨h1, h3⟩) (g2.2 ⟨h2, h4⟩)
      have := (cmp_nonpos _ _ _ _).2 this
      omega
  · rw [if_neg hc]
    have hle := (cmp_nonpos _ _ _ _).1 (show cmpI (grN a b k l).1 (grN a b k l).2 (leN c d m n).1 (leN c d m n).2 ≤ 0 by omega)
    constructor
    · rintro ⟨_, _, _, h1, h2⟩
      exact ⟨⟨hx, hp, (g1.1 h1).1, (g2.1 h2).1⟩, hy, hp, (g1.1 h1).2, (g2.1 h2).2⟩
    · rintro ⟨⟨_, _, h1, h2⟩, _, _, h3, h4⟩
      exact ⟨rfl, validR_iff.2 ⟨⟨w1, w2⟩, hle⟩, hp, g1.2 ⟨h1, h3⟩, g2.2 ⟨h2, h4⟩⟩
theorem hull_has (hx : validR a b c d = true) (hy : validR k l m n = true) (hp : valid p q = true) (h : (hasB a b c d p q || hasB k l m n p q) = true) :
    hasB (hullT a b c d k l m n).1 (hullT a b c d k l m n).2.1 (hullT a b c d k l m n).2.2.1 (hullT a b c d k l m n).2.2.2.1 p q = true := by
  obtain ⟨⟨v1, v2⟩, i1⟩ := validR_iff.1 hx
  obtain ⟨⟨v3, v4⟩, i2⟩ := validR_iff.1 hy
  have w1 := leN_valid v1 v3
  have w2 := grN_valid v2 v4
  have h' : (a * q ≤ p * b ∧ p * d ≤ c * q) ∨ (k * q ≤ p * l ∧ p * n ≤ m * q) := by
    simp only [Bool.or_eq_true, hasB_iff] at h
    rcases h with h | h
    · exact .inl h.2.2
    · exact .inr h.2.2
  have e1 := le_hi (a := a) (k := k) (p := p) (vpos v1) (vpos v3) (vpos hp) (h'.imp And.left And.left)
  have e2 := gr_lo (a := c) (k := m) (p := p) (vpos v2) (vpos v4) (vpos hp) (h'.imp And.right And.right)
  exact hasB_iff.2 ⟨validR_iff.2 ⟨⟨w1, w2⟩, leQ_trans (vpos w1) (vpos hp) (vpos w2) e1 e2⟩, hp, e1, e2⟩

theorem both_of {x y : Int × Int × Int} (h : (bothT x y).2.2.2.2 = 0) : x.2.2 = 0 ∧ y.2.2 = 0 ∧ bothT x y = (x.1, x.2.1, y.1, y.2.1, 0) := by
  unfold bothT at h ⊢
  by_cases h1 : x.2.2 = 0
  · rw [if_pos h1] at h ⊢
    by_cases h2 : y.2.2 = 0
    · rw [if_pos h2]; exact ⟨h1, h2, rfl⟩
    · rw [if_neg h2] at h; exact absurd h h2
  · rw [if_neg h1] at h; exact absurd h h1
theorem sum_has (hx : validR a b c d = true) (hy : validR k l m n = true) (h1 : (sumR a b c d k l m n).2.2.2.2 = 0) (h2 : (addT p q u v).2.2 = 0) (h3 : hasB a b c d p q = true) (h4 : hasB k l m n u v = true) :
    hasB (sumR a b c d k l m n).1 (sumR a b c d k l m n).2.1 (sumR a b c d k l m n).2.2.1 (sumR a b c d k l m n).2.2.2.1 (addT p q u v).1 (addT p q u v).2.1 = true := by
  obtain ⟨⟨v1, v2⟩, i1⟩ := validR_iff.1 hx
  obtain ⟨⟨v3, v4⟩, i2⟩ := validR_iff.1 hy
  obtain ⟨_, v5, j1, j2⟩ := hasB_iff.1 h3
  obtain ⟨_, v6, j3, j4⟩ := hasB_iff.1 h4
  obtain ⟨e1, e2, e3⟩ := both_of h1
  have o1 := add_ok v1 v3 e1
  have o2 := add_ok v2 v4 e2
  have o3 := add_ok v5 v6 h2
  have p1 := vpos v1; have p2 := vpos v2; have p3 := vpos v3; have p4 := vpos v4; have p5 := vpos v5; have p6 := vpos v6
  have lo := le_of_low o1 o3 (Int.mul_pos p1 p3) (Int.mul_pos p5 p6) (by
    have t1 : (a * q) * (l * v) ≤ (p * b) * (l * v) := Int.mul_le_mul_of_nonneg_right j1 (Int.le_of_lt (Int.mul_pos p3 p6))
    have t2 : (k * v) * (b * q) ≤ (u * l) * (b * q) := Int.mul_le_mul_of_nonneg_right j3 (Int.le_of_lt (Int.mul_pos p1 p5))
    have q1 : (a * l + k * b) * (q * v) = (a * q) * (l * v) + (k * v) * (b * q) := by grind
    have q2 : (p * v + u * q) * (b * l) = (p * b) * (l * v) + (u * l) * (b * q) := by grind
    omega)
  have hi := le_of_low o3 o2 (Int.mul_pos p5 p6) (Int.mul_pos p2 p4) (by
    have t1 : (p * d) * (v * n) ≤ (c * q) * (v * n) := Int.mul_le_mul_of_nonneg_right j2 (Int.le_of_lt (Int.mul_pos p6 p4))
    have t2 : (u * n) * (q * d) ≤ (m * v) * (q * d) := Int.mul_le_mul_of_nonneg_right j4 (Int.le_of_lt (Int.mul_pos p5 p2))
    have q1 : (p * v + u * q) * (d * n) = (p * d) * (v * n) + (u * n) * (q * d) := by grind
    have q2 : (c * n + m * d) * (q * v) = (c * q) * (v * n) + (m * v) * (q * d) := by grind
    omega)
  rw [sumR, e3]
  exact hasB_iff.2 ⟨validR_iff.2 ⟨⟨o1.v, o2.v⟩, leQ_trans (vpos o1.v) (vpos o3.v) (vpos o2.v) lo hi⟩, o3.v, lo, hi⟩
theorem scale_has (hx : validR a b c d = true) (hu : valid u v = true) (h1 : (scaleR a b c d u v).2.2.2.2 = 0) (h2 : (mulT p q u v).2.2 = 0) (h3 : hasB a b c d p q = true) :
    hasB (scaleR a b c d u v).1 (scaleR a b c d u v).2.1 (scaleR a b c d u v).2.2.1 (scaleR a b c d u v).2.2.2.1 (mulT p q u v).1 (mulT p q u v).2.1 = true := by
  obtain ⟨⟨v1, v2⟩, i1⟩ := validR_iff.1 hx
  obtain ⟨_, v5, j1, j2⟩ := hasB_iff.1 h3
  have o3 := mul_ok v5 hu h2
  have p1 := vpos v1; have p2 := vpos v2; have p5 := vpos v5; have p6 := vpos hu
  unfold scaleR at h1 ⊢
  by_cases hn : u < 0
  · rw [if_pos hn] at h1 ⊢
    obtain ⟨e1, e2, e3⟩ := both_of h1
    have o1 := mul_ok v2 hu e1
    have o2 := mul_ok v1 hu e2
    have lo := le_of_low o1 o3 (Int.mul_pos p2 p6) (Int.mul_pos p5 p6) (by
      have t1 : (p * d) * (0 - u) * v ≤ (c * q) * (0 - u) * v := Int.mul_le_mul_of_nonneg_right (Int.mul_le_mul_of_nonneg_right j2 (by omega)) (by omega)
      have q1 : (c * u) * (q * v) = 0 - (c * q) * (0 - u) * v := by grind
      have q2 : (p * u) * (d * v) = 0 - (p * d) * (0 - u) * v := by grind
      omega)
    have hi := le_of_low o3 o2 (Int.mul_pos p5 p6) (Int.mul_pos p1 p6) (by
      have t1 : (a * q) * (0 - u) * v ≤ (p * b) * (0 - u) * v := Int.mul_le_mul_of_nonneg_right (Int.mul_le_mul_of_nonneg_right j1 (by omega)) (by omega)
      have q1 : (p * u) * (b * v) = 0 - (p * b) * (0 - u) * v := by grind
      have q2 : (a * u) * (q * v) = 0 - (a * q) * (0 - u) * v := by grind
      omega)
    rw [e3]
    exact hasB_iff.2 ⟨validR_iff.2 ⟨⟨o1.v, o2.v⟩, leQ_trans (vpos o1.v) (vpos o3.v) (vpos o2.v) lo hi⟩, o3.v, lo, hi⟩
  · rw [if_neg hn] at h1 ⊢
    obtain ⟨e1, e2, e3⟩ := both_of h1
    have o1 := mul_ok v1 hu e1
    have o2 := mul_ok v2 hu e2
    have lo := le_of_low o1 o3 (Int.mul_pos p1 p6) (Int.mul_pos p5 p6) (by
      have t1 : (a * q) * u * v ≤ (p * b) * u * v := Int.mul_le_mul_of_nonneg_right (Int.mul_le_mul_of_nonneg_right j1 (by omega)) (by omega)
      have q1 : (a * u) * (q * v) = (a * q) * u * v := by grind
      have q2 : (p * u) * (b * v) = (p * b) * u * v := by grind
      omega)
    have hi := le_of_low o3 o2 (Int.mul_pos p5 p6) (Int.mul_pos p2 p6) (by
      have t1 : (p * d) * u * v ≤ (c * q) * u * v := Int.mul_le_mul_of_nonneg_right (Int.mul_le_mul_of_nonneg_right j2 (by omega)) (by omega)
      have q1 : (p * u) * (d * v) = (p * d) * u * v := by grind
      have q2 : (c * u) * (q * v) = (c * q) * u * v := by grind
      omega)
    rw [e3]
    exact hasB_iff.2 ⟨validR_iff.2 ⟨⟨o1.v, o2.v⟩, leQ_trans (vpos o1.v) (vpos o3.v) (vpos o2.v) lo hi⟩, o3.v, lo, hi⟩

theorem up_le (hb : 0 < b) : upI a b ≤ z ↔ a ≤ z * b := by
  unfold upI
  have h := Int.le_ediv_iff_mul_le (a := -z) (b := -a) hb
  rw [Int.neg_mul] at h
  omega
theorem make_one : (makeT z 1).2.2 = 0 → makeT z 1 = (z, 1, 0) ∧ valid z 1 = true := by
  intro h
  rw [makeT_ne (by decide)] at h ⊢
  have g := low_ok (by decide) h
  have hv := g.v
  have hq := g.q
  have p1 := vpos hv
  -- the divisor is 1: it has no common divisor with the dividend
  have hz : valid z 1 = true := by
    have b1 := valid_iff.1 hv
    generalize (lowT z 1).1 = p at *
    generalize (lowT z 1).2.1 = q at *
    rw [Int.mul_one] at hq
    subst hq
    have hg : q = 1 := by
      have h1 : (q.natAbs : Nat) ∣ Int.gcd (z * q) q := Nat.dvd_gcd (by rw [Int.natAbs_mul]; exact Nat.dvd_mul_left _ _) (Nat.dvd_refl _)
      have h2 : Int.gcd (z * q) q = 1 := by simp_all
      rw [h2] at h1
      have := Nat.dvd_one.1 h1
      omega
    subst hg
    rwa [Int.mul_one] at hv
  exact ⟨low_own hz, hz⟩
theorem whole_has (hx : validR a b c d = true) (hz : valid z 1 = true) :
    hasB a b c d z 1 = ((wholeT a b c d).2.2 == 0 && (decide ((wholeT a b c d).1 ≤ z) && decide (z ≤ (wholeT a b c d).2.1))) := by
  obtain ⟨⟨v1, v2⟩, i1⟩ := validR_iff.1 hx
  have g1 := up_le (a := a) (z := z) (vpos v1)
  have g2 := Int.le_ediv_iff_mul_le (a := z) (b := c) (vpos v2)
  rw [Bool.eq_iff_iff]
  simp only [Bool.and_eq_true, hasB_iff, beq_iff_eq, decide_eq_true_eq, Int.mul_one]
  unfold wholeT
  by_cases hc : c / d < upI a b
  · rw [if_pos hc]
    constructor
    · rintro ⟨_, _, h1, h2⟩; exfalso; omega
    · rintro ⟨h, _⟩; cases h
  · rw [if_neg hc]
    exact ⟨fun ⟨_, _, h1, h2⟩ => ⟨rfl, g1.2 h1, g2.2 h2⟩, fun ⟨_, h1, h2⟩ => ⟨hx, hz, g1.1 h1, g2.1 h2⟩⟩
theorem up_next (hb : 0 < b) : upI a b = a / b ∨ upI a b = a / b + 1 := by
  have h1 := (up_le (a := a) (b := b) (z := a / b + 1) hb).2 (by
    have := Int.lt_ediv_add_one_mul_self a hb
    omega)
  have h2 : a / b ≤ upI a b := by
    have := (up_le (a := a) (b := b) (z := upI a b) hb).1 (Int.le_refl _)
    have h3 := Int.ediv_mul_le a (b := b) (by omega)
    refine Int.le_of_mul_le_mul_right (a := b) (Int.le_trans h3 this) hb
  omega
theorem div_same {A B C D : Int} (hB : 0 < B) (hD : 0 < D) (h : A * D = C * B) : A / B = C / D := by
  have key : ∀ {A B C D : Int}, 0 < B → 0 < D → A * D = C * B → A / B ≤ C / D := by
    intro A B C D hB hD h
    rw [Int.le_ediv_iff_mul_le hD]
    have h1 := Int.ediv_mul_le A (b := B) (by omega)
    have h2 := Int.mul_le_mul_of_nonneg_right h1 (Int.le_of_lt hD)
    refine Int.le_of_mul_le_mul_right (a := B) ?_ hB
    have e : A / B * D * B = A / B * B * D := by grind
    omega
  exact Int.le_antisymm (key hB hD h) (key hD hB h.symm)
theorem up_same {A B C D : Int} (hB : 0 < B) (hD : 0 < D) (h : A * D = C * B) : upI A B = upI C D := by
  unfold upI
  rw [div_same hB hD (by rw [Int.neg_mul, Int.neg_mul, h])]
/-- What ExactBetween asks of a number and an integer. -/
structure PartFacts (p q z : Int) : Prop where
  nx : (partX p q z).2.2 = 0 → (partX p q z).2.1 = (partX p q z).1 ∨ (partX p q z).2.1 = (partX p q z).1 + 1
  fl : (partX p q z).2.2 = 0 → (two mulT p q z 1).2.2 = 0 → valid z 1 = true → floorX (two mulT p q z 1).1 (two mulT p q z 1).2.1 = (partX p q z).1
  ce : (partX p q z).2.2 = 0 → (two mulT p q z 1).2.2 = 0 → valid z 1 = true → ceilX (two mulT p q z 1).1 (two mulT p q z 1).2.1 = (partX p q z).2.1
  er : (two mulT p q z 1).2.2 = 0 → valid z 1 = true → errX (two mulT p q z 1).1 (two mulT p q z 1).2.1 = 0
theorem part_facts (hp : valid p q = true) : PartFacts p q z := by
  have pq := vpos hp
  have pt : (partX p q z).2.2 = 0 → partX p q z = (p * z / q, upI (p * z) q, 0) := by
    intro h
    rw [partX_good hp] at h ⊢
    by_cases g : z < -2147483647 ∨ 2147483647 < z
    · rw [partT_bad g] at h; cases h
    · exact partT_good g
  have mu : (two mulT p q z 1).2.2 = 0 → valid z 1 = true → LowOk (p * z) (q * 1) (two mulT p q z 1) := by
    intro h hz
    rw [two_good (by rw [hp, hz]; rfl)] at h ⊢
    exact mul_ok hp hz h
  refine ⟨fun h => ?_, fun h h2 hz => ?_, fun h h2 hz => ?_, fun h2 hz => ?_⟩
  · rw [pt h]; exact up_next pq
  · have o := mu h2 hz
    have oq := o.q
    rw [Int.mul_one] at oq
    rw [pt h, floorX_good o.v]
    exact div_same (vpos o.v) pq oq.symm
  · have o := mu h2 hz
    have oq := o.q
    rw [Int.mul_one] at oq
    rw [pt h, ceilX_good o.v]
    exact up_same (vpos o.v) pq oq.symm
  · have o := mu h2 hz
    simp [errX, o.v]
end
end Go.Proofs.YtoggkjobihlohaaDoor
