/-
  Chapter 1: the specification's Parse, in the program.
-/
import Derived.Test.YtoggkjobihlohaaDoorF38
namespace Go.Proofs.YtoggkjobihlohaaDoor
open Go Go.Sx
set_option maxRecDepth 100000
variable {Γ : Glob}

def R39 : List (Nat × Ctr) := [(109, c109), (72, c72), (22, c22)]
theorem R39_ok : LOk Tryd.prog Γ R39 := ((LOk.nil.cons (FnOk.of Tryd.func22 rfl rfl) c22_ok).cons (FnOk.of Tryd.func72 rfl rfl) c72_ok).cons (FnOk.of Tryd.func109 rfl rfl) c109_ok
theorem dgs_bound : ∀ (k : Nat) (n : Int) (l : List UInt8), 0 ≤ n → 0 ≤ (dgs k n l).1 ∧ (dgs k n l).1 < (n + 1) * 10 ^ k ∧ (dgs k n l).2 ≤ l.length
  | 0, n, l, h => by simp only [dgs]; omega
  | k + 1, n, [], h => by
    simp only [dgs, List.length_nil]
    have : (0 : Int) < 10 ^ (k + 1) := Int.pow_pos (by omega)
    have h2 : (n + 1) * 1 ≤ (n + 1) * 10 ^ (k + 1) := Int.mul_le_mul_of_nonneg_left (by omega) (by omega)
    omega
  | k + 1, n, c :: r, h => by
    simp only [dgs]
    split
    · rename_i hc
      simp only [isDig, Bool.and_eq_true, decide_eq_true_eq] at hc
      have ih := dgs_bound k (10 * n + ((c.toNat : Int) - 48)) r (by omega)
      simp only [List.length_cons]
      refine ⟨ih.1, ?_, by omega⟩
      have hp : (0 : Int) ≤ 10 ^ k := Int.pow_nonneg (by omega)
      have h2 : (10 * n + ((c.toNat : Int) - 48) + 1) * 10 ^ k ≤ ((n + 1) * 10) * 10 ^ k := Int.mul_le_mul_of_nonneg_right (by omega) hp
      have h3 : (n + 1) * 10 ^ (k + 1) = ((n + 1) * 10) * 10 ^ k := by rw [Int.pow_succ, Int.mul_comm (10 ^ k) 10, ← Int.mul_assoc]
      omega
    · simp only [List.length_cons]
      have : (0 : Int) < 10 ^ (k + 1) := Int.pow_pos (by omega)
      have h2 : (n + 1) * 1 ≤ (n + 1) * 10 ^ (k + 1) := Int.mul_le_mul_of_nonneg_left (by omega) (by omega)
      omega
theorem dgs_ten (l : List UInt8) : 0 ≤ (dgs 10 0 l).1 ∧ (dgs 10 0 l).1 < 10000000000 ∧ (dgs 10 0 l).2 ≤ l.length := by
  have := dgs_bound 10 0 l (by omega)
  have e : ((0 : Int) + 1) * 10 ^ 10 = 10000000000 := by decide
  rw [e] at this
  exact this
/-- What Parse reads, by its branches. -/
theorem parseN_of {l : List UInt8} {m : Bool} (hm : minusAt l = m) {A : Nat} (hA : A = if m = true then 1 else 0) {d : Int}
    (hd : (A + (dgs 10 0 (l.drop A)).2 < l.length ∧ (l.getD (A + (dgs 10 0 (l.drop A)).2) 0).toNat = 47 ∧ d = (dgs 10 0 (l.drop (A + (dgs 10 0 (l.drop A)).2 + 1))).1) ∨
      (¬ (A + (dgs 10 0 (l.drop A)).2 < l.length ∧ (l.getD (A + (dgs 10 0 (l.drop A)).2) 0).toNat = 47) ∧ d = 1)) :
    parseN l = (if m = true then 0 - (dgs 10 0 (l.drop A)).1 else (dgs 10 0 (l.drop A)).1, d) := by
  unfold parseN
  rw [hm, ← hA]
  simp only [Prod.mk.injEq, true_and]
  rcases hd with ⟨h1, h2, rfl⟩ | ⟨h1, rfl⟩
  · rw [dg_drop h1]
    simp only
    rw [if_pos h2]
  · rcases Nat.lt_or_ge (A + (dgs 10 0 (l.drop A)).2) l.length with h2 | h2
    · rw [dg_drop h2]
      simp only
      rw [if_neg fun h => h1 ⟨h2, h⟩]
    · rw [List.drop_eq_nil_of_le h2]
theorem minus_of {l : List UInt8} (h : 0 < l.length) : minusAt l = decide ((l.getD 0 0).toNat = 45) := by
  cases l with
  | nil => simp at h
  | cons c r => rfl
theorem minus_nil {l : List UInt8} (h : ¬ 0 < l.length) : minusAt l = false := by
  cases l with
  | nil => rfl
  | cons c r => simp at h

theorem nat_one : Int.toNat 1 = 1 := rfl
theorem nat_zero : Int.toNat 0 = 0 := rfl
theorem nat_k1 (k : Nat) : (1 + (k : Int)).toNat = 1 + k := by omega
theorem nat_k2 (k : Nat) : (1 + (k : Int) + 1).toNat = 1 + k + 1 := by omega
theorem nat_k3 (k : Nat) : (0 + (k : Int)).toNat = 0 + k := by omega
theorem nat_k4 (k : Nat) : (0 + (k : Int) + 1).toNat = 0 + k + 1 := by omega
theorem getD_list (s : ByteArray) (i : Nat) : s.data.getD i 0 = s.data.toList.getD i 0 := by simp [List.getD, Array.getD_eq_getD_getElem?]
theorem toList_inj {a b : ByteArray} : a.toList = b.toList ↔ a = b := by rw [← toList_beq, beq_iff_eq]
theorem toList_bne {a b : ByteArray} : (a.toList == b.toList) = false ↔ ¬ a = b := by rw [← Bool.not_eq_true, toList_beq]
theorem dig_in (l : List UInt8) : inR .i64 (dgs 10 0 l).1 := by have := dgs_ten l; simp only [inR]; omega
theorem dig_neg (l : List UInt8) : inR .i64 (0 - (dgs 10 0 l).1) := by have := dgs_ten l; simp only [inR]; omega
theorem parseN_m {l : List UInt8} (h0 : 0 < l.length) (h1 : (l.getD 0 0).toNat = 45) {d : Int}
    (hd : (1 + (dgs 10 0 (l.drop 1)).2 < l.length ∧ (l.getD (1 + (dgs 10 0 (l.drop 1)).2) 0).toNat = 47 ∧ d = (dgs 10 0 (l.drop (1 + (dgs 10 0 (l.drop 1)).2 + 1))).1) ∨
      (¬ (1 + (dgs 10 0 (l.drop 1)).2 < l.length ∧ (l.getD (1 + (dgs 10 0 (l.drop 1)).2) 0).toNat = 47) ∧ d = 1)) : parseN l = (0 - (dgs 10 0 (l.drop 1)).1, d) :=
  parseN_of (m := true) ((minus_of h0).trans (decide_eq_true h1)) rfl hd
theorem parseN_p {l : List UInt8} (h0 : 0 < l.length → ¬ (l.getD 0 0).toNat = 45) {d : Int}
    (hd : (0 + (dgs 10 0 (l.drop 0)).2 < l.length ∧ (l.getD (0 + (dgs 10 0 (l.drop 0)).2) 0).toNat = 47 ∧ d = (dgs 10 0 (l.drop (0 + (dgs 10 0 (l.drop 0)).2 + 1))).1) ∨
      (¬ (0 + (dgs 10 0 (l.drop 0)).2 < l.length ∧ (l.getD (0 + (dgs 10 0 (l.drop 0)).2) 0).toNat = 47) ∧ d = 1)) : parseN l = ((dgs 10 0 (l.drop 0)).1, d) := by
  refine parseN_of (m := false) ?_ rfl hd
  by_cases h : 0 < l.length
  · exact (minus_of h).trans (decide_eq_false (h0 h))
  · exact minus_nil h
theorem parseR_bad1 {s : ByteArray} {n d : Int} (hN : parseN s.data.toList = (n, d)) (hv : valid n d = false) : parseR s = (0, 0, 7) := by
  unfold parseR finT; rw [hN, if_neg (by simp [hv])]
theorem parseR_bad2 {s : ByteArray} {n d : Int} (hN : parseN s.data.toList = (n, d)) (hp : ¬ printT n d = s) : parseR s = (0, 0, 7) := by
  unfold parseR finT; rw [hN, if_neg fun h => hp h.2]
theorem parseR_ok {s : ByteArray} {n d : Int} (hN : parseN s.data.toList = (n, d)) (hv : valid n d = true) (hp : printT n d = s) : parseR s = (n, d, 0) := by
  unfold parseR finT; rw [hN, if_pos ⟨hv, hp⟩]

def c71 : Ctr := .fn fun args _ => match args with
  | [.a (.v (.string s))] => some ([(s.data.toList.length : Int) ≤ 1000000], .agg [vI (parseR s).1, vI (parseR s).2.1, vI (parseR s).2.2])
  | _ => none
set_option maxHeartbeats 4000000 in
theorem c71_ok : Ctr.Ok Tryd.prog Γ 71 c71 := Ctr.fn_ok0 (prog_ok R39_ok true) Tryd.func71 rfl rfl rfl (by
  intro args q t hF hq
  split at hF
  next s =>
    obtain ⟨rfl, rfl⟩ := Prod.mk.inj (Option.some.inj hF); clear hF
    obtain ⟨h1, -⟩ := hq
    have hsz : s.data.toList.length = s.size := Array.length_toList
    refine ⟨rfl, rfl, ?_⟩
    repeat' ((conv => whnf); (first | apply And.intro | intro _))
    all_goals try (conv => whnf)
    all_goals try (first | rfl | trivial | exact LexB.mk (by kernel_rfl) | exact LexG.mk (by kernel_rfl) | exact Forced.mk (by kernel_rfl))
    all_goals try subst_vars
    all_goals try simp only [nat_one, nat_zero, nat_k1, nat_k2, nat_k3, nat_k4, getD_list, decide_eq_true_eq, decide_eq_false_iff_not, beq_iff_eq, beq_eq_false_iff_ne, ne_eq, Bool.not_eq_true', Bool.not_eq_false', toList_inj] at *
    all_goals try (exfalso; omega)
    all_goals try exact ⟨by omega⟩
    all_goals try exact ⟨by simp only [inR]; omega⟩
    all_goals try exact ⟨dig_in _⟩
    all_goals try exact ⟨dig_neg _⟩
    all_goals try exact ⟨by assumption⟩
    all_goals first
      | (have hN := parseN_m (l := s.data.toList) (by omega) (by omega) (.inl ⟨by omega, by omega, rfl⟩)
         first | (rw [parseR_bad1 hN (by assumption)]; done) | (rw [parseR_bad2 hN (by assumption)]; done) | (rw [parseR_ok hN (by assumption) (by assumption)]; done))
      | (have hN := parseN_m (l := s.data.toList) (by omega) (by omega) (.inr ⟨by omega, rfl⟩)
         first | (rw [parseR_bad1 hN (by assumption)]; done) | (rw [parseR_bad2 hN (by assumption)]; done) | (rw [parseR_ok hN (by assumption) (by assumption)]; done))
      | (have hN := parseN_p (l := s.data.toList) (by omega) (.inl ⟨by omega, by omega, rfl⟩)
         first | (rw [parseR_bad1 hN (by assumption)]; done) | (rw [parseR_bad2 hN (by assumption)]; done) | (rw [parseR_ok hN (by assumption) (by assumption)]; done))
      | (have hN := parseN_p (l := s.data.toList) (by omega) (.inr ⟨by omega, rfl⟩)
         first | (rw [parseR_bad1 hN (by assumption)]; done) | (rw [parseR_bad2 hN (by assumption)]; done) | (rw [parseR_ok hN (by assumption) (by assumption)]; done))
  next => cases hF)
end Go.Proofs.YtoggkjobihlohaaDoor
