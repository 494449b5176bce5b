/-
  Chapter 1: continued fractions, in the program: Fold, and the specification's Fold and Expand.
-/
import Derived.Test.YtoggkjobihlohaaDoorP11
import Derived.Test.YtoggkjobihlohaaDoorF18
namespace Go.Proofs.YtoggkjobihlohaaDoor
open Go Go.Sx
set_option maxRecDepth 100000
variable {Γ : Glob}

def inAllI (l : List Int) : Prop := ∀ x ∈ l, inR .i64 x
theorem inAllI_get {l : List Int} (h : inAllI l) {i : Nat} (hi : i < l.length) (d : Int) : inR .i64 (l.getD i d) := h _ (getD_mem hi d)
/-- The terms behind the first one are looked at, one by one. -/
def posTo (l : List Int) (k : Nat) : Prop := ∀ t, t < k → t + 1 < l.length → 1 ≤ l.getD (1 + t) 0
theorem posTo_all {l : List Int} (h : posTo l (l.length - 1)) : allPos (l.drop 1) = true := by
  simp only [allPos, List.all_eq_true, decide_eq_true_eq]
  intro x hx
  obtain ⟨t, ht⟩ := List.getElem?_of_mem hx
  rw [List.getElem?_drop] at ht
  have hlt := (List.getElem?_eq_some_iff.1 ht).1
  have := h t (by omega) (by omega)
  simpa [List.getD, ht] using this
theorem posTo_bad {l : List Int} {t : Nat} (h : t + 1 < l.length) (hx : l.getD (1 + t) 0 < 1) : allPos (l.drop 1) = false := by
  have hm : l.getD (1 + t) 0 ∈ l.drop 1 := by
    rw [show l.getD (1 + t) 0 = (l.drop 1).getD t 0 by simp [List.getD, Nat.add_comm]]
    exact getD_mem (by simp; omega) 0
  cases ha : allPos (l.drop 1) with
  | false => rfl
  | true => have := allPos_mem ha hm; omega
theorem getD_eq {l : List Int} {i : Nat} (h : i < l.length) (d : Int) : l.getD i d = l.getD i 0 := by simp [List.getD, h]
/-- Where a fold stands: the terms from j on are folded. -/
structure Fo where
  j : Nat
  p : Int
  q : Int
def Fo.Inv (l : List Int) (s : Fo) (p0 q0 : Int) : Prop :=
  (s.j = l.length ∧ s.p = p0 ∧ s.q = q0) ∨ (0 < s.j ∧ s.j < l.length ∧ tl (l.drop s.j) = some (s.p, s.q)) ∨
    (s.j = 0 ∧ (-2147483648 ≤ l.getD 0 0 ∧ l.getD 0 0 ≤ 2147483648) ∧ ∃ p q, tl (l.drop 1) = some (p, q) ∧ s.p = l.getD 0 0 * p + q ∧ s.q = p)
theorem fo_tl {l : List Int} {s : Fo} {p0 q0 : Int} (hi : s.Inv l p0 q0) (hj : 0 < s.j) : ∃ p q, tl (l.drop s.j) = some (p, q) ∧ (s.j < l.length → s.p = p ∧ s.q = q) ∧ (s.j = l.length → s.p = p0 ∧ s.q = q0 ∧ p = 1 ∧ q = 0) := by
  rcases hi with ⟨h1, h2, h3⟩ | ⟨h1, h2, h3⟩ | ⟨h1, _⟩
  · exact ⟨1, 0, by rw [h1, List.drop_length]; rfl, fun h => by omega, fun _ => ⟨h2, h3, rfl, rfl⟩⟩
  · exact ⟨s.p, s.q, h3, fun _ => ⟨rfl, rfl⟩, fun h => by omega⟩
  · omega
/-- What a step of a fold does. -/
structure FoStep (l : List Int) (j : Nat) (p q : Int) : Prop where
  ok : TlOk p q
  x1 : 0 < j → 1 ≤ l.getD j 0
  ht : tl (l.drop (j + 1)) = some (p, q)
theorem fo_step {l : List Int} {j : Nat} {p q : Int} (ha : allPos (l.drop 1) = true) (hj : j < l.length) (ht : tl (l.drop (j + 1)) = some (p, q)) : FoStep l j p q := by
  refine ⟨tl_ok (l := l.drop (j + 1)) ?_ ht, fun h => ?_, ht⟩
  · have := allPos_drop ha j
    rwa [List.drop_drop, Nat.add_comm 1 j] at this
  · refine allPos_mem ha ?_
    rw [show l.getD j 0 = (l.drop 1).getD (j - 1) 0 by simp only [List.getD, List.getElem?_drop]; rw [show 1 + (j - 1) = j by omega]]
    exact getD_mem (by simp; omega) 0
theorem fo_next {l : List Int} {j : Nat} {p q : Int} (hj : j < l.length) (h : FoStep l j p q) (hb : 0 < j → l.getD j 0 * p + q ≤ 2147483647) (hv : -2147483648 ≤ l.getD j 0 ∧ l.getD j 0 ≤ 2147483648) (p0 q0 : Int) : (Fo.mk j (l.getD j 0 * p + q) p).Inv l p0 q0 := by
  by_cases h0 : 0 < j
  · right; left
    refine ⟨h0, hj, ?_⟩
    rw [tl_step hj 0 h.ht, if_neg (by have := hb h0; omega)]
  · have : j = 0 := by omega
    subst this
    right; right
    exact ⟨rfl, hv, p, q, h.ht, rfl, rfl⟩
theorem fo_none {l : List Int} {j : Nat} {p q : Int} (hlen : ¬ 50 < l.length) (ha : allPos (l.drop 1) = true) (hj : j < l.length) (h : FoStep l j p q) (hb : 0 < j) (ho : 2147483647 < l.getD j 0 * p + q) : foldT l = (0, 0, 3) :=
  foldT_none hlen (by omega) ha (tl_over hb hj 0 h.ht (by omega))
theorem fo_big {l : List Int} {j : Nat} {p q : Int} (hlen : ¬ 50 < l.length) (ha : allPos (l.drop 1) = true) (hj : j < l.length) (h : FoStep l j p q) (ho : 2147483647 < l.getD j 0 ∨ l.getD j 0 < -2147483648) : foldT l = (0, 0, 3) := by
  by_cases h0 : 0 < j
  · have := h.x1 h0
    exact fo_none hlen ha hj h h0 (big_pos h.ok (by omega))
  · have : j = 0 := by omega
    subst this
    rw [foldT_some hlen hj 0 ha h.ht, if_pos]
    rcases ho with ho | ho
    · exact .inl (big_pos h.ok (by omega))
    · exact .inr (big_neg h.ok (by omega))
/-- Behind the last step. -/
theorem fo_end {l : List Int} {s : Fo} {p0 q0 : Int} (hlen : ¬ 50 < l.length) (h0 : 0 < l.length) (ha : allPos (l.drop 1) = true) (hi : s.Inv l p0 q0) (hj : s.j = 0) :
    foldT l = (if s.p > 2147483647 ∨ s.p < -2147483647 then (0, 0, 3) else (s.p, s.q, 0)) ∧ lowT s.p s.q = foldT l ∧ 1 ≤ s.q ∧ s.q ≤ 2147483647 ∧ inR .i64 s.p := by
  rcases hi with ⟨h1, _⟩ | ⟨h1, _⟩ | ⟨_, hv, p, q, h3, h4, h5⟩
  · omega
  · omega
  · have hs := fo_step ha h0 h3
    have hT := foldT_some hlen h0 0 ha h3
    rw [h4, h5]
    exact ⟨hT, by rw [fold_low hs.ok, hT], hs.ok.p1, hs.ok.pM, by have := fold_fits hs.ok hv.1 hv.2; simp only [inR]; omega⟩
end Go.Proofs.YtoggkjobihlohaaDoor
