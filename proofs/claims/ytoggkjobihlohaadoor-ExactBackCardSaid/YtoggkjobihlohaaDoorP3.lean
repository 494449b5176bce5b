/-
  Plain laws: the number with a small denominator that is closest, by neighbours.
-/
import Derived.Test.YtoggkjobihlohaaDoorF11
import Derived.Test.YtoggkjobihlohaaDoorP5
namespace Go.Proofs.YtoggkjobihlohaaDoor

theorem mulB {a b A B : Int} (h1 : -A ≤ a) (h2 : a ≤ A) (h3 : -B ≤ b) (h4 : b ≤ B) : -(A * B) ≤ a * b ∧ a * b ≤ A * B := by
  have h5 : a.natAbs * b.natAbs ≤ A.natAbs * B.natAbs := Nat.mul_le_mul (by omega) (by omega)
  have h6 : (a * b).natAbs = a.natAbs * b.natAbs := Int.natAbs_mul a b
  have h7 : (A * B).natAbs = A.natAbs * B.natAbs := Int.natAbs_mul A B
  have h8 : 0 ≤ A * B := Int.mul_nonneg (by omega) (by omega)
  omega

structure Nb.Inv (n d m : Int) (x : Nb) : Prop where
  ok : x.Ok n d m
  un : x.r * x.q - x.p * x.s = 1

/-- The two distances, by the neighbours' denominators, add up to d. -/
theorem Nb.Inv.sum {n d m : Int} {x : Nb} (h : x.Inv n d m) : (n * x.q - x.p * d) * x.s + (x.r * d - n * x.s) * x.q = d := by
  have := h.un
  obtain ⟨p, q, r, s⟩ := x
  simp only at *
  have e : (n * q - p * d) * s + (r * d - n * s) * q = d * (r * q - p * s) := by grind
  rw [e, this, Int.mul_one]

structure Nb.Sz (n d m : Int) (x : Nb) : Prop where
  a : 0 < n * x.q - x.p * d ∧ n * x.q - x.p * d < d
  b : 0 < x.r * d - n * x.s ∧ x.r * d - n * x.s < d
  p : -2147483647 ≤ x.p ∧ x.p ≤ 2147483647
  r : -2147483647 ≤ x.r ∧ x.r ≤ 2147483647
  nq : -214748364700000 ≤ n * x.q ∧ n * x.q ≤ 214748364700000
  ns : -214748364700000 ≤ n * x.s ∧ n * x.s ≤ 214748364700000
  pd : -214748364700000 - 2147483647 ≤ x.p * d ∧ x.p * d ≤ 214748364700000 + 2147483647
  rd : -214748364700000 ≤ x.r * d ∧ x.r * d ≤ 214748364700000 + 2147483647
  asB : 0 ≤ (n * x.q - x.p * d) * x.s ∧ (n * x.q - x.p * d) * x.s ≤ 2147483647
  bqB : 0 ≤ (x.r * d - n * x.s) * x.q ∧ (x.r * d - n * x.s) * x.q ≤ 2147483647
  q : 1 ≤ x.q ∧ x.q ≤ m
  s : 1 ≤ x.s ∧ x.s ≤ m

/-- A number, and a greatest denominator, that Best looks at. -/
structure BestArg (n d m : Int) : Prop where
  hn : -2147483647 ≤ n ∧ n ≤ 2147483647
  hd : d ≤ 2147483647
  hm : 1 ≤ m ∧ m ≤ 100000
  lt : m < d
  co : Int.gcd n d = 1

theorem BestArg.ne {n d m : Int} (h : BestArg n d m) {r s : Int} (h1 : 1 ≤ s) (h2 : s ≤ m) : r * d ≠ n * s := by
  intro e
  have h3 : d ∣ n * s := ⟨r, by rw [Int.mul_comm d r]; exact e.symm⟩
  have h4 : d ∣ s := by
    exact dvd_co (by rw [Int.gcd_comm]; exact h.co) h3
  have := Int.le_of_dvd (by omega) h4
  have := h.lt
  omega

theorem Nb.Inv.sz {n d m : Int} {x : Nb} (hb : BestArg n d m) (h : x.Inv n d m) : x.Sz n d m := by
  have hs := h.sum
  obtain ⟨⟨⟨q1, q2⟩, ⟨s1, s2⟩, lo, hi⟩, un⟩ := h
  obtain ⟨n1, n2⟩ := hb.hn
  obtain ⟨m1, m2⟩ := hb.hm
  have hd := hb.hd
  have hlt := hb.lt
  obtain ⟨p, q, r, s⟩ := x
  simp only at *
  have a1 : 0 < n * q - p * d := by omega
  have b1 : 0 < r * d - n * s := by omega
  have as1 : 1 * s ≤ (n * q - p * d) * s := Int.mul_le_mul_of_nonneg_right (by omega) (by omega)
  have bq1 : 1 * q ≤ (r * d - n * s) * q := Int.mul_le_mul_of_nonneg_right (by omega) (by omega)
  have as2 : (n * q - p * d) * 1 ≤ (n * q - p * d) * s := Int.mul_le_mul_of_nonneg_left s1 (by omega)
  have bq2 : (r * d - n * s) * 1 ≤ (r * d - n * s) * q := Int.mul_le_mul_of_nonneg_left q1 (by omega)
  have nq := mulB (a := n) (b := q) (A := 2147483647) (B := 100000) (by omega) (by omega) (by omega) (by omega)
  have ns := mulB (a := n) (b := s) (A := 2147483647) (B := 100000) (by omega) (by omega) (by omega) (by omega)
  have key : ∀ u v w : Int, u * d = n * v + w → 1 ≤ v → v ≤ m → -(d - v) ≤ w → w ≤ d - v → -2147483647 ≤ u ∧ u ≤ 2147483647 := by
    intro u v w e h1 h2 h3 h4
    constructor
    · rcases Int.lt_or_le u (-2147483647) with g | g
      · exfalso
        have e1 : u * d ≤ -2147483648 * d := Int.mul_le_mul_of_nonneg_right (by omega) (by omega)
        have e2 : -2147483647 * v ≤ n * v := Int.mul_le_mul_of_nonneg_right n1 (by omega)
        have e3 : 2147483647 * v ≤ 2147483647 * d := Int.mul_le_mul_of_nonneg_left (by omega) (by omega)
        omega
      · exact g
    · rcases Int.lt_or_le 2147483647 u with g | g
      · exfalso
        have e1 : 2147483648 * d ≤ u * d := Int.mul_le_mul_of_nonneg_right (by omega) (by omega)
        have e2 : n * v ≤ 2147483647 * v := Int.mul_le_mul_of_nonneg_right n2 (by omega)
        have e3 : 2147483647 * v ≤ 2147483647 * d := Int.mul_le_mul_of_nonneg_left (by omega) (by omega)
        omega
      · exact g
  have as3 : (n * q - p * d) + (s - 1) ≤ (n * q - p * d) * s := by
    have : ((n * q - p * d) - 1) * (s - 1) = (n * q - p * d) * s - (n * q - p * d) - (s - 1) := by generalize n * q - p * d = A; grind
    have : 0 ≤ ((n * q - p * d) - 1) * (s - 1) := Int.mul_nonneg (by omega) (by omega)
    omega
  have bq3 : (r * d - n * s) + (q - 1) ≤ (r * d - n * s) * q := by
    have : ((r * d - n * s) - 1) * (q - 1) = (r * d - n * s) * q - (r * d - n * s) - (q - 1) := by generalize r * d - n * s = A; grind
    have : 0 ≤ ((r * d - n * s) - 1) * (q - 1) := Int.mul_nonneg (by omega) (by omega)
    omega
  have kp := key p q (p * d - n * q) (by omega) q1 q2 (by omega) (by omega)
  have kr := key r s (r * d - n * s) (by omega) s1 s2 (by omega) (by omega)
  exact ⟨⟨a1, by simp only; omega⟩, ⟨b1, by simp only; omega⟩, kp, kr, ⟨by simp only; omega, by simp only; omega⟩, ⟨by simp only; omega, by simp only; omega⟩, ⟨by simp only; omega, by simp only; omega⟩, ⟨by simp only; omega, by simp only; omega⟩, ⟨by simp only; omega, by simp only; omega⟩, ⟨by simp only; omega, by simp only; omega⟩, ⟨q1, q2⟩, ⟨s1, s2⟩⟩

/-- The neighbours to begin with. -/
def Nb.start (n d : Int) : Nb := ⟨n / d, 1, n / d + 1, 1⟩
theorem Nb.start_inv {n d m : Int} (hb : BestArg n d m) : (Nb.start n d).Inv n d m := by
  obtain ⟨m1, m2⟩ := hb.hm
  have hlt := hb.lt
  have e := Int.ediv_mul_add_emod n d
  have e1 := Int.emod_nonneg n (show d ≠ 0 by omega)
  have e2 := Int.emod_lt_of_pos n (show 0 < d by omega)
  have e3 := hb.ne (r := n / d) (s := 1) (by omega) m1
  have e4 : (n / d + 1) * d = n / d * d + d := by rw [Int.add_mul, Int.one_mul]
  refine ⟨⟨⟨Int.le_refl _, m1⟩, ⟨Int.le_refl _, m1⟩, ?_, ?_⟩, ?_⟩ <;> simp only [Nb.start] <;> omega

theorem Nb.step_inv {n d m : Int} {x : Nb} (hb : BestArg n d m) (h : x.Inv n d m) (hm : x.q + x.s ≤ m) : (x.step n d).Inv n d m := by
  have hne : (x.p + x.r) * d ≠ n * (x.q + x.s) := hb.ne (by have := h.ok.q; have := h.ok.s; omega) hm
  refine ⟨(Nb.step_ok h.ok hm hne).1, ?_⟩
  have hu := h.un
  obtain ⟨p, q, r, s⟩ := x
  unfold Nb.step
  split <;> (simp only at *; grind)

/-- Many steps to the lower side. -/
def Nb.lo (n d m : Int) (x : Nb) : Nb := ⟨x.p + stepsK x.p x.q x.r x.s n d m * x.r, x.q + stepsK x.p x.q x.r x.s n d m * x.s, x.r, x.s⟩
/-- Many steps to the upper side. -/
def Nb.hi (n d m : Int) (x : Nb) : Nb := ⟨x.p, x.q, x.r + stepsK x.r x.s x.p x.q n d m * x.p, x.s + stepsK x.r x.s x.p x.q n d m * x.q⟩

theorem stepsK_spec {A B u v k : Int} (hB : 0 < B) (hA : B < A) (hs : 0 < v) (hq : v ≤ u) (hk : k = if (A - 1) / B < u / v then (A - 1) / B else u / v) : 1 ≤ k ∧ k * B < A ∧ k * v ≤ u := by
  have a1 : 1 ≤ (A - 1) / B := (Int.le_ediv_iff_mul_le hB).2 (by omega)
  have a2 : (A - 1) / B * B ≤ A - 1 := Int.ediv_mul_le _ (by omega)
  have b1 : 1 ≤ u / v := (Int.le_ediv_iff_mul_le hs).2 (by omega)
  have b2 : u / v * v ≤ u := Int.ediv_mul_le _ (by omega)
  split at hk
  · rename_i h
    subst hk
    have : (A - 1) / B * v ≤ u / v * v := Int.mul_le_mul_of_nonneg_right (by omega) (by omega)
    exact ⟨a1, by omega, by omega⟩
  · rename_i h
    subst hk
    have : u / v * B ≤ (A - 1) / B * B := Int.mul_le_mul_of_nonneg_right (by omega) (by omega)
    exact ⟨b1, by omega, b2⟩

theorem stepsK_eq {p q r s n d m a b : Int} (ha : a = ((n * q - p * d).natAbs : Int)) (hb : b = ((r * d - n * s).natAbs : Int)) (h1 : 0 < a) (h2 : 0 < b) (hs : 0 < s) (hq : q ≤ m) :
    stepsK p q r s n d m = if (a - 1) / b < (m - q) / s then (a - 1) / b else (m - q) / s := by
  unfold stepsK
  rw [if_pos (by omega), ← ha, ← hb, Int.tdiv_eq_ediv_of_nonneg (by omega), Int.tdiv_eq_ediv_of_nonneg (by omega)]

theorem Nb.lo_inv {n d m : Int} {x : Nb} (hb : BestArg n d m) (h : x.Inv n d m) (hm : x.q + x.s ≤ m) (hlt : (x.p + x.r) * d < n * (x.q + x.s)) :
    1 ≤ stepsK x.p x.q x.r x.s n d m ∧ stepsK x.p x.q x.r x.s n d m ≤ 100000 ∧ (x.lo n d m).Inv n d m ∧ Nb.fin n d m x = Nb.fin n d m (x.lo n d m) ∧ x.q < (x.lo n d m).q := by
  have S := h.sz hb
  obtain ⟨⟨⟨q1, q2⟩, ⟨s1, s2⟩, lo, hi⟩, un⟩ := h
  obtain ⟨m1, m2⟩ := hb.hm
  obtain ⟨p, q, r, s⟩ := x
  have A := S.a; have B := S.b
  simp only [Nb.lo] at *
  have e1 : (p + r) * d = p * d + r * d := Int.add_mul _ _ _
  have e2 : n * (q + s) = n * q + n * s := Int.mul_add _ _ _
  have K := stepsK_spec (A := n * q - p * d) (B := r * d - n * s) (u := m - q) (v := s) B.1 (by omega) (by omega) (by omega) (stepsK_eq (p := p) (q := q) (r := r) (s := s) (n := n) (d := d) (m := m) (a := n * q - p * d) (b := r * d - n * s) (by omega) (by omega) (by omega) (by omega) (by omega) q2)
  generalize stepsK p q r s n d m = k at *
  obtain ⟨k1, k2, k3⟩ := K
  have ks : k * 1 ≤ k * s := Int.mul_le_mul_of_nonneg_left s1 (by omega)
  have kB : 0 ≤ k * (r * d - n * s) := Int.mul_nonneg (by omega) (by omega)
  refine ⟨k1, by omega, ⟨⟨⟨by simp only; omega, by simp only; omega⟩, ⟨s1, s2⟩, ?_, hi⟩, ?_⟩, ?_, by omega⟩
  · simp only
    have : n * (q + k * s) - (p + k * r) * d = (n * q - p * d) - k * (r * d - n * s) := by grind
    omega
  · simp only
    have : r * (q + k * s) - (p + k * r) * s = r * q - p * s := by grind
    omega
  · have := Nb.many_lo (n := n) (d := d) (m := m) k.toNat p q r s q1 s1 (by omega) (by rw [Int.toNat_of_nonneg (by omega)]; exact k2) (by rw [Int.toNat_of_nonneg (by omega)]; omega)
    rwa [Int.toNat_of_nonneg (by omega)] at this

theorem Nb.hi_inv {n d m : Int} {x : Nb} (hb : BestArg n d m) (h : x.Inv n d m) (hm : x.q + x.s ≤ m) (hlt : ¬ (x.p + x.r) * d < n * (x.q + x.s)) :
    1 ≤ stepsK x.r x.s x.p x.q n d m ∧ stepsK x.r x.s x.p x.q n d m ≤ 100000 ∧ (x.hi n d m).Inv n d m ∧ Nb.fin n d m x = Nb.fin n d m (x.hi n d m) ∧ x.s < (x.hi n d m).s := by
  have hne : (x.p + x.r) * d ≠ n * (x.q + x.s) := hb.ne (by have := h.ok.q; have := h.ok.s; omega) hm
  have S := h.sz hb
  obtain ⟨⟨⟨q1, q2⟩, ⟨s1, s2⟩, lo, hi⟩, un⟩ := h
  obtain ⟨m1, m2⟩ := hb.hm
  obtain ⟨p, q, r, s⟩ := x
  have A := S.a; have B := S.b
  simp only [Nb.hi] at *
  have e1 : (p + r) * d = p * d + r * d := Int.add_mul _ _ _
  have e2 : n * (q + s) = n * q + n * s := Int.mul_add _ _ _
  have K := stepsK_spec (A := r * d - n * s) (B := n * q - p * d) (u := m - s) (v := q) A.1 (by omega) (by omega) (by omega) (stepsK_eq (p := r) (q := s) (r := p) (s := q) (n := n) (d := d) (m := m) (a := r * d - n * s) (b := n * q - p * d) (by omega) (by omega) (by omega) (by omega) (by omega) s2)
  generalize stepsK r s p q n d m = k at *
  obtain ⟨k1, k2, k3⟩ := K
  have ks : k * 1 ≤ k * q := Int.mul_le_mul_of_nonneg_left q1 (by omega)
  have kB : 0 ≤ k * (n * q - p * d) := Int.mul_nonneg (by omega) (by omega)
  refine ⟨k1, by omega, ⟨⟨⟨q1, q2⟩, ⟨by simp only; omega, by simp only; omega⟩, lo, ?_⟩, ?_⟩, ?_, by omega⟩
  · simp only
    have : (r + k * p) * d - n * (s + k * q) = (r * d - n * s) - k * (n * q - p * d) := by grind
    omega
  · simp only
    have : (r + k * p) * q - p * (s + k * q) = r * q - p * s := by grind
    omega
  · have := Nb.many_hi (n := n) (d := d) (m := m) k.toNat p q r s q1 s1 (by omega) (by rw [Int.toNat_of_nonneg (by omega)]; exact k2) (by rw [Int.toNat_of_nonneg (by omega)]; omega)
    rwa [Int.toNat_of_nonneg (by omega)] at this

theorem Nb.finK_inv {n d m : Int} (hb : BestArg n d m) : ∀ (k : Nat) {x : Nb}, x.Inv n d m → (Nb.finK n d m k x).Inv n d m
  | 0, _, h => h
  | k + 1, x, h => by
    unfold Nb.finK
    split
    · exact Nb.finK_inv hb k (Nb.step_inv hb h ‹_›)
    · exact h
def bestN (n d m : Int) : Nb := Nb.fin n d m (Nb.start n d)
theorem bestN_inv {n d m : Int} (hb : BestArg n d m) : (bestN n d m).Inv n d m := Nb.finK_inv hb _ (Nb.start_inv hb)
/-- The closest number, and the error. -/
def bestT (n d m : Int) : Int × Int × Int :=
  if m < 1 ∨ 100000 < m then (0, 0, 1)
  else if d ≤ m then (n, d, 0)
  else if closeB (bestN n d m).p (bestN n d m).q (bestN n d m).r (bestN n d m).s n d = true then ((bestN n d m).p, (bestN n d m).q, 0)
  else ((bestN n d m).r, (bestN n d m).s, 0)
theorem bestT_bad {n d m : Int} (h : m < 1 ∨ 100000 < m) : bestT n d m = (0, 0, 1) := if_pos h
theorem bestT_own {n d m : Int} (h : ¬ (m < 1 ∨ 100000 < m)) (h2 : d ≤ m) : bestT n d m = (n, d, 0) := by rw [bestT, if_neg h, if_pos h2]
theorem bestT_near {n d m : Int} (h : ¬ (m < 1 ∨ 100000 < m)) (h2 : ¬ d ≤ m) : bestT n d m = (if closeB (bestN n d m).p (bestN n d m).q (bestN n d m).r (bestN n d m).s n d = true then ((bestN n d m).p, (bestN n d m).q, 0)
  else ((bestN n d m).r, (bestN n d m).s, 0)) := by rw [bestT, if_neg h, if_neg h2]
def bestX (n d m : Int) : Int × Int × Int := if valid n d = true then bestT n d m else (0, 0, 1)
theorem bestX_bad {n d m : Int} (h : valid n d = false) : bestX n d m = (0, 0, 1) := by simp only [bestX, h, Bool.false_eq_true, if_false]
theorem bestX_good {n d m : Int} (h : valid n d = true) : bestX n d m = bestT n d m := if_pos h

/-- Numbers of neighbours are in lowest terms. -/
theorem gcd_of_un {p q r s : Int} (h : r * q - p * s = 1) : Int.gcd p q = 1 ∧ Int.gcd r s = 1 := by
  constructor
  · have h1 : (Int.gcd p q : Int) ∣ r * q - p * s := Int.dvd_sub (Int.dvd_mul_of_dvd_right (Int.gcd_dvd_right ..)) (Int.dvd_mul_of_dvd_left (Int.gcd_dvd_left ..))
    rw [h] at h1
    have := Int.le_of_dvd (by omega) h1
    have h0 : Int.gcd p q ≠ 0 := fun e => by
      rw [e] at h1
      obtain ⟨c, hc⟩ := h1
      simp at hc
    omega
  · have h1 : (Int.gcd r s : Int) ∣ r * q - p * s := Int.dvd_sub (Int.dvd_mul_of_dvd_left (Int.gcd_dvd_left ..)) (Int.dvd_mul_of_dvd_right (Int.gcd_dvd_right ..))
    rw [h] at h1
    have := Int.le_of_dvd (by omega) h1
    have h0 : Int.gcd r s ≠ 0 := fun e => by
      rw [e] at h1
      obtain ⟨c, hc⟩ := h1
      simp at hc
    omega
end Go.Proofs.YtoggkjobihlohaaDoor
