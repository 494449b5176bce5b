/-
  Plain laws: continued fractions folded.
-/
import Derived.Test.YtoggkjobihlohaaDoorP5
import Derived.Test.YtoggkjobihlohaaDoorF14
namespace Go.Proofs.YtoggkjobihlohaaDoor

/-- The quotient of the terms behind the first one: its numerator and denominator, if the numerators stay small. -/
def tl : List Int → Option (Int × Int)
  | [] => some (1, 0)
  | x :: r => match tl r with
    | none => none
    | some (p, q) => if x * p + q > 2147483647 then none else some (x * p + q, p)
def foldHead (x : Int) : Option (Int × Int) → Int × Int × Int
  | none => (0, 0, 3)
  | some (p, q) => if x * p + q > 2147483647 ∨ x * p + q < -2147483647 then (0, 0, 3) else (x * p + q, p, 0)
def allPos (l : List Int) : Bool := l.all fun n => decide (1 ≤ n)
/-- Fold: the number of a continued fraction, or an error. -/
def foldT (l : List Int) : Int × Int × Int :=
  if 50 < l.length then (0, 0, 2) else match l with
    | [] => (0, 0, 1)
    | x :: r => if allPos r = true then foldHead x (tl r) else (0, 0, 1)

theorem allPos_mem {l : List Int} (h : allPos l = true) {x : Int} (hx : x ∈ l) : 1 ≤ x := by
  simp only [allPos, List.all_eq_true, decide_eq_true_eq] at h
  exact h x hx
theorem allPos_cons {x : Int} {l : List Int} : allPos (x :: l) = true ↔ 1 ≤ x ∧ allPos l = true := by simp [allPos]
theorem allPos_drop {l : List Int} (h : allPos l = true) (j : Nat) : allPos (l.drop j) = true := by
  simp only [allPos, List.all_eq_true, decide_eq_true_eq] at *
  exact fun x hx => h x (List.mem_of_mem_drop hx)

/-- What the terms behind the first one make. -/
structure TlOk (p q : Int) : Prop where
  p1 : 1 ≤ p
  pM : p ≤ 2147483647
  q0 : 0 ≤ q
  qp : q ≤ p
  co : Int.gcd p q = 1
theorem gcd_fold (x p q : Int) : Int.gcd (x * p + q) p = Int.gcd p q := by
  rw [Int.gcd_comm p q, Int.add_comm]
  exact Int.gcd_add_mul_right_left ..
theorem tl_ok : ∀ {l : List Int} {p q : Int}, allPos l = true → tl l = some (p, q) → TlOk p q
  | [], p, q, _, h => by
    obtain ⟨rfl, rfl⟩ := Prod.mk.inj (Option.some.inj h)
    exact ⟨by omega, by omega, by omega, by omega, rfl⟩
  | x :: r, p, q, ha, h => by
    rw [allPos_cons] at ha
    unfold tl at h
    split at h
    · cases h
    · rename_i p' q' hr
      have i := tl_ok ha.2 hr
      split at h
      · cases h
      · obtain ⟨rfl, rfl⟩ := Prod.mk.inj (Option.some.inj h)
        have h1 := i.p1
        have h2 := i.q0
        have h3 := i.qp
        have h4 := i.pM
        have h5 : 1 * p' ≤ x * p' := Int.mul_le_mul_of_nonneg_right ha.1 (by omega)
        exact ⟨by omega, by omega, by omega, by omega, by rw [gcd_fold]; exact i.co⟩
theorem tl_none_drop : ∀ {l : List Int} {j : Nat}, tl (l.drop j) = none → tl l = none
  | _, 0, h => h
  | [], _ + 1, h => h
  | x :: r, j + 1, h => by
    have := tl_none_drop (l := r) (j := j) h
    unfold tl; rw [this]
theorem drop_step {l : List Int} {j : Nat} (h : j < l.length) (d : Int) : l.drop j = l.getD j d :: l.drop (j + 1) := by
  rw [List.drop_eq_getElem_cons h]
  simp [List.getD, h]
theorem tl_step {l : List Int} {j : Nat} (h : j < l.length) (d : Int) {p q : Int} (ht : tl (l.drop (j + 1)) = some (p, q)) :
    tl (l.drop j) = if l.getD j d * p + q > 2147483647 then none else some (l.getD j d * p + q, p) := by
  rw [drop_step h d]; unfold tl; rw [ht]
/-- A numerator that grew too great. -/
theorem tl_over {l : List Int} {j : Nat} (hj : 0 < j) (h : j < l.length) (d : Int) {p q : Int} (ht : tl (l.drop (j + 1)) = some (p, q)) (ho : l.getD j d * p + q > 2147483647) : tl (l.drop 1) = none := by
  have h1 := tl_step h d ht
  rw [if_pos ho] at h1
  have : tl ((l.drop 1).drop (j - 1)) = none := by rw [List.drop_drop, show 1 + (j - 1) = j by omega]; exact h1
  exact tl_none_drop this
theorem foldT_long {l : List Int} (h : 50 < l.length) : foldT l = (0, 0, 2) := if_pos h
theorem foldT_nil {l : List Int} (h : l.length = 0) : foldT l = (0, 0, 1) := by
  cases l with
  | nil => rfl
  | cons => simp at h
theorem foldT_cons {l : List Int} (h : ¬ 50 < l.length) (h0 : 0 < l.length) (d : Int) : foldT l = if allPos (l.drop 1) = true then foldHead (l.getD 0 d) (tl (l.drop 1)) else (0, 0, 1) := by
  cases l with
  | nil => simp at h0
  | cons x r => simp only [foldT, if_neg h]; rfl
theorem foldT_bad {l : List Int} (h : ¬ 50 < l.length) (hb : allPos (l.drop 1) = false) : foldT l = (0, 0, 1) := by
  cases l with
  | nil => rfl
  | cons x r =>
    rw [foldT_cons h (by simp) 0, hb]; rfl
theorem foldT_none {l : List Int} (h : ¬ 50 < l.length) (h0 : 0 < l.length) (ha : allPos (l.drop 1) = true) (hn : tl (l.drop 1) = none) : foldT l = (0, 0, 3) := by
  rw [foldT_cons h h0 0, if_pos ha, hn]; rfl
theorem foldT_some {l : List Int} (h : ¬ 50 < l.length) (h0 : 0 < l.length) (d : Int) (ha : allPos (l.drop 1) = true) {p q : Int} (hn : tl (l.drop 1) = some (p, q)) :
    foldT l = if l.getD 0 d * p + q > 2147483647 ∨ l.getD 0 d * p + q < -2147483647 then (0, 0, 3) else (l.getD 0 d * p + q, p, 0) := by
  rw [foldT_cons h h0 d, if_pos ha, hn]; rfl
/-- The last step's quotient is in lowest terms. -/
theorem fold_low {x p q : Int} (h : TlOk p q) : lowT (x * p + q) p = if x * p + q > 2147483647 ∨ x * p + q < -2147483647 then (0, 0, 3) else (x * p + q, p, 0) := by
  have h1 := h.p1
  have h2 := h.pM
  have hr : Red (x * p + q) p (x * p + q) p 1 := ⟨by omega, by omega, by omega, by omega, by rw [gcd_fold]; exact h.co⟩
  rw [low_red hr]
  unfold lowQ
  by_cases hc : x * p + q > 2147483647 ∨ x * p + q < -2147483647
  · rw [if_pos (by omega), if_pos hc]
  · rw [if_neg (by omega), if_neg hc]
/-- A term beyond the range makes a number beyond it. -/
theorem big_pos {x p q : Int} (h : TlOk p q) (hx : x > 2147483647) : x * p + q > 2147483647 := by
  have h1 := h.p1
  have h2 := h.q0
  have : x * 1 ≤ x * p := Int.mul_le_mul_of_nonneg_left h1 (by omega)
  omega
theorem big_neg {x p q : Int} (h : TlOk p q) (hx : x < -2147483648) : x * p + q < -2147483647 := by
  have h1 := h.p1
  have h2 := h.qp
  have : x * p ≤ (-2147483649) * p := Int.mul_le_mul_of_nonneg_right (by omega) (by omega)
  omega
theorem fold_fits {x p q : Int} (h : TlOk p q) (h1 : -2147483648 ≤ x) (h2 : x ≤ 2147483648) : -9223372036854775808 ≤ x * p ∧ x * p ≤ 9223372036854775807 ∧ -9223372036854775808 ≤ x * p + q ∧ x * p + q ≤ 9223372036854775807 := by
  have a := h.p1
  have b := h.pM
  have c := h.qp
  have d := h.q0
  have e1 : x * p ≤ 2147483648 * p := Int.mul_le_mul_of_nonneg_right h2 (by omega)
  have e2 : (-2147483648) * p ≤ x * p := Int.mul_le_mul_of_nonneg_right h1 (by omega)
  omega
end Go.Proofs.YtoggkjobihlohaaDoor
