/-
  Plain laws: quotients in lowest terms depend on their value alone.
-/
import Derived.Test.YtoggkjobihlohaaDoorF1
namespace Go.Proofs.YtoggkjobihlohaaDoor

def lowQ (p q : Int) : Int × Int × Int := if q > 2147483647 ∨ p < -2147483647 ∨ p > 2147483647 then (0, 0, 3) else (p, q, 0)
theorem lowQ_valid {p q : Int} (h : valid p q = true) : lowQ p q = (p, q, 0) := by
  have := valid_iff.1 h
  exact if_neg (by omega)

theorem dvd_co {k n m : Int} (h : Int.gcd k n = 1) (hd : k ∣ n * m) : k ∣ m := by
  have := Int.dvd_gcd_mul_iff_dvd_mul.2 hd
  rw [h] at this
  simpa using this

/-- A quotient, taken apart. -/
structure Red (n d p q k : Int) : Prop where
  hk : 0 < k
  hq : 0 < q
  hn : n = p * k
  hd : d = q * k
  co : Int.gcd p q = 1
theorem red_of (n d : Int) (hd : 0 < d) : ∃ p q k, Red n d p q k := by
  have hg : 0 < Int.gcd n d := Int.gcd_pos_of_ne_zero_right n (by omega)
  obtain ⟨p, hp⟩ := Int.gcd_dvd_left (a := n) (b := d)
  obtain ⟨q, hq⟩ := Int.gcd_dvd_right (a := n) (b := d)
  have h1 : Int.gcd p q = 1 := by
    have e : Int.gcd ((Int.gcd n d : Int) * p) ((Int.gcd n d : Int) * q) = Int.gcd n d := by rw [← hp, ← hq]
    rw [Int.gcd_mul_left, Int.natAbs_natCast] at e
    exact Nat.eq_of_mul_eq_mul_left hg (by omega)
  refine ⟨p, q, (Int.gcd n d : Int), ⟨by omega, ?_, by rw [Int.mul_comm]; exact hp, by rw [Int.mul_comm]; exact hq, h1⟩⟩
  rcases Int.lt_or_le 0 q with g | g
  · exact g
  · have : (Int.gcd n d : Int) * q ≤ 0 := Int.mul_nonpos_of_nonneg_of_nonpos (by omega) g
    omega
theorem low_red {n d p q k : Int} (h : Red n d p q k) : lowT n d = lowQ p q := by
  obtain ⟨hk, hq, rfl, rfl, h1⟩ := h
  have hg : (Int.gcd (p * k) (q * k) : Int) = k := by
    rw [Int.gcd_mul_right, h1, Nat.one_mul]; omega
  rw [low_pos (Int.mul_pos hq hk), hg, Int.mul_tdiv_cancel _ (by omega), Int.mul_tdiv_cancel _ (by omega)]
  rfl
theorem red_same {n d n' d' p q k : Int} (h : Red n d p q k) (hd : 0 < d') (he : n * d' = n' * d) : ∃ k', Red n' d' p q k' := by
  obtain ⟨hk, hq, rfl, rfl, h1⟩ := h
  have e1 : p * d' = n' * q := by
    refine Int.eq_of_mul_eq_mul_right (a := k) (by omega) ?_
    rw [Int.mul_right_comm, he, Int.mul_assoc]
  have h2 : q ∣ d' := by
    exact dvd_co (n := p) (by rw [Int.gcd_comm]; exact h1) ⟨n', by rw [e1, Int.mul_comm]⟩
  obtain ⟨k', rfl⟩ := h2
  have hk' : 0 < k' := by
    rcases Int.lt_or_le 0 k' with g | g
    · exact g
    · have : q * k' ≤ 0 := Int.mul_nonpos_of_nonneg_of_nonpos (by omega) g
      omega
  refine ⟨k', hk', hq, ?_, rfl, h1⟩
  refine Int.eq_of_mul_eq_mul_right (a := q) (by omega) ?_
  rw [← e1]; grind
/-- Equal quotients have equal lowest terms. -/
theorem low_congr {n d n' d' : Int} (hd : 0 < d) (hd' : 0 < d') (he : n * d' = n' * d) : lowT n d = lowT n' d' := by
  obtain ⟨p, q, k, h⟩ := red_of n d hd
  obtain ⟨k', h'⟩ := red_same h hd' he
  rw [low_red h, low_red h']
theorem low_own {p q : Int} (h : valid p q = true) : lowT p q = (p, q, 0) := by
  have v := valid_iff.1 h
  rw [low_red (p := p) (q := q) (k := 1) ⟨by omega, by omega, by omega, by omega, v.2.2.2.2⟩, lowQ_valid h]
/-- A quotient that has the value of a valid number is that number. -/
theorem low_eq {n d p q : Int} (hd : 0 < d) (h : valid p q = true) (he : n * q = p * d) : lowT n d = (p, q, 0) := by
  rw [← low_own h]
  have v := valid_iff.1 h
  exact low_congr hd (by omega) he
/-- A quotient in lowest terms, or ErrRange. -/
inductive Low (n d : Int) : Int × Int × Int → Prop
  | ok (p q : Int) (h : valid p q = true) (he : n * q = p * d) : Low n d (p, q, 0)
  | bad : Low n d (0, 0, 3)
theorem low_cases (n d : Int) (hd : 0 < d) : Low n d (lowT n d) := by
  obtain ⟨p, q, k, h⟩ := red_of n d hd
  rw [low_red h]
  unfold lowQ
  split
  · exact .bad
  · obtain ⟨hk, hq, rfl, rfl, h1⟩ := h
    exact .ok p q (valid_iff.2 ⟨by omega, by omega, by omega, by omega, h1⟩) (by rw [Int.mul_assoc, Int.mul_comm k])
end Go.Proofs.YtoggkjobihlohaaDoor
