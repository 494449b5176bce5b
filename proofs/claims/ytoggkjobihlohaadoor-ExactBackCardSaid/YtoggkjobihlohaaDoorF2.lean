/-
  Chapter 1: the reference's Make.
-/
import Derived.Test.YtoggkjobihlohaaDoorF1
namespace Go.Proofs.YtoggkjobihlohaaDoor
open Go Go.Sx
set_option maxRecDepth 100000
variable {Γ : Glob}

/-! ### The reference's Make -/
/-- Halving what is even changes no quotient. -/
theorem low_half (n d : Int) : lowT (2 * n) (2 * d) = lowT n d := by
  unfold lowT lowC
  have hg : (Int.gcd (2 * n) (2 * d) : Int) = 2 * (Int.gcd n d : Int) := by rw [Int.gcd_mul_left]; simp
  have hn : ((2 * n).natAbs : Int) = 2 * (n.natAbs : Int) := by omega
  have hd : ((2 * d).natAbs : Int) = 2 * (d.natAbs : Int) := by omega
  rw [hg, hn, hd, Int.mul_ediv_mul_of_pos _ _ (by omega), Int.mul_ediv_mul_of_pos _ _ (by omega)]
  have h1 : decide (2 * n < 0) = decide (n < 0) := by simp; omega
  have h2 : decide (2 * d < 0) = decide (d < 0) := by simp; omega
  rw [h1, h2]
theorem low_neg (n d : Int) (hn : n ≠ 0) (hd : d ≠ 0) : lowT (-n) (-d) = lowT n d := by
  unfold lowT lowC
  rw [Int.gcd_neg, Int.neg_gcd, Int.natAbs_neg, Int.natAbs_neg]
  have h : (decide (-n < 0) = decide (-d < 0)) ↔ (decide (n < 0) = decide (d < 0)) := by simp; omega
  simp only [h]
theorem low_neg0 (d : Int) : lowT 0 (-d) = lowT 0 d := by
  unfold lowT lowC
  simp
theorem low_odd_d (n : Int) (h : n % 2 ≠ 0) : lowT n (-9223372036854775808) = (0, 0, 3) := by
  have : Int.gcd n (-9223372036854775808) = 1 := by
    have h1 : n.natAbs % 2 = 1 := by omega
    have h2 : Nat.Coprime n.natAbs (2 ^ 63) := Nat.Coprime.pow_right 63 (by
      rw [Nat.coprime_comm]
      show Nat.gcd 2 n.natAbs = 1
      rw [Nat.gcd_rec, h1]; exact Nat.gcd_one_left 2)
    rw [Int.gcd_eq_natAbs_gcd_natAbs, show (-9223372036854775808 : Int).natAbs = 2 ^ 63 by rfl]; exact h2
  unfold lowT
  rw [this]
  exact lowC_bad (by right; decide)
theorem low_odd_n (d : Int) (h : d % 2 ≠ 0) : lowT (-9223372036854775808) d = (0, 0, 3) := by
  have : Int.gcd (-9223372036854775808) d = 1 := by
    have h1 : d.natAbs % 2 = 1 := by omega
    have h2 : Nat.Coprime d.natAbs (2 ^ 63) := Nat.Coprime.pow_right 63 (by
      rw [Nat.coprime_comm]
      show Nat.gcd 2 d.natAbs = 1
      rw [Nat.gcd_rec, h1]; exact Nat.gcd_one_left 2)
    rw [Int.gcd_eq_natAbs_gcd_natAbs, show (-9223372036854775808 : Int).natAbs = 2 ^ 63 by rfl]; exact h2.symm
  unfold lowT
  rw [this]
  exact lowC_bad (by left; decide)
theorem low_same (d : Int) (h : d ≠ 0) : lowT d d = (1, 1, 0) := by
  have h1 : (d.natAbs : Int) / (d.natAbs : Int) = 1 := Int.ediv_self (by omega)
  unfold lowT
  rw [Int.gcd_self, h1]
  exact lowC_pos (by decide) rfl
theorem low_zero (d : Int) (h : d ≠ 0) : lowT 0 d = (0, 1, 0) := by
  have h1 : (d.natAbs : Int) / (d.natAbs : Int) = 1 := Int.ediv_self (by omega)
  have h2 : ((0 : Int).natAbs : Int) / (d.natAbs : Int) = 0 := by simp
  unfold lowT
  rw [Int.gcd_zero_left, h1, h2]
  by_cases hd : d < 0
  · rw [lowC_neg (by decide) (by simp [hd])]; rfl
  · rw [lowC_pos (by decide) (by simp [hd])]

theorem makeT_half {n d : Int} (hd : d ≠ 0) : makeT (2 * n) (2 * d) = makeT n d := by
  rw [makeT_ne (by omega), makeT_ne hd, low_half]

def R2 : List (Nat × Ctr) := (75, c75) :: R1
theorem R2_ok : LOk Tryd.prog Γ R2 := R1_ok.cons (FnOk.of Tryd.func75 rfl rfl) c75_ok

/-- The reference's Make where it does not call itself. -/
def c20a : Ctr := .fn fun args _ => match args with
  | [.a (.v (.int .i64 n)), .a (.v (.int .i64 d))] => some ([inR .i64 n, inR .i64 d, d ≠ -9223372036854775808, n ≠ -9223372036854775808 ∨ 0 ≤ d], .agg [vI (makeT n d).1, vI (makeT n d).2.1, vI (makeT n d).2.2])
  | _ => none
theorem c20a_ok : Ctr.Ok Tryd.prog Γ 20 c20a := Ctr.fn_ok0 (prog_ok R2_ok true) Tryd.func20 rfl rfl rfl (by
  intro args q t hF hq
  split at hF
  next n d =>
    obtain ⟨rfl, rfl⟩ := Prod.mk.inj (Option.some.inj hF); clear hF
    obtain ⟨h1, h2, h3, h4, -⟩ := hq
    refine ⟨rfl, rfl, ?_⟩
    repeat' ((conv => whnf); (first | apply And.intro | intro _))
    all_goals try (conv => whnf)
    all_goals try (first | rfl | trivial | exact ⟨by kernel_rfl⟩)
    all_goals try subst_vars
    all_goals simp only [decide_eq_true_eq, decide_eq_false_iff_not, inR, bne_iff_ne, bne_eq_false_iff_eq, beq_iff_eq, beq_eq_false_iff_ne] at *
    all_goals first
      | exact ⟨by omega⟩
      | omega
      | (rw [makeT_zero ‹d = 0›]; done)
      | (rw [makeT_ne (by omega)]; first | rfl | done)
      | (rw [‹n = d›, makeT_ne (by omega), low_same d (by omega)]; done)
      | skip
    all_goals rw [makeT_ne (by omega)]
    all_goals rw [show (0 - n) = -n by omega, show (0 - d) = -d by omega]
    all_goals simp only [lowN, lowD, lowE]
    all_goals by_cases hn : n = 0
    all_goals first
      | rw [hn, Int.neg_zero, low_neg0]
      | rw [low_neg n d hn (by omega)]
  next => cases hF)

def R3 : List (Nat × Ctr) := (20, c20a) :: R2
theorem R3_ok : LOk Tryd.prog Γ R3 := R2_ok.cons (FnOk.of Tryd.func20 rfl rfl) c20a_ok
theorem tmod_two (n : Int) : 2 * n.tdiv 2 + n.tmod 2 = n ∧ -2 < n.tmod 2 ∧ n.tmod 2 < 2 := by
  refine ⟨Int.mul_tdiv_add_tmod n 2, ?_, Int.tmod_lt_of_pos n (by omega)⟩
  have := Int.tmod_lt_of_pos (-n) (show (0 : Int) < 2 by omega)
  rw [Int.neg_tmod] at this; omega

/-- The reference's Make. -/
def c20 : Ctr := .fn fun args _ => match args with
  | [.a (.v (.int .i64 n)), .a (.v (.int .i64 d))] => some ([inR .i64 n, inR .i64 d], .agg [vI (makeT n d).1, vI (makeT n d).2.1, vI (makeT n d).2.2])
  | _ => none
theorem c20_ok : Ctr.Ok Tryd.prog Γ 20 c20 := Ctr.fn_ok0 (prog_ok R3_ok true) Tryd.func20 rfl rfl rfl (by
  intro args q t hF hq
  split at hF
  next n d =>
    obtain ⟨rfl, rfl⟩ := Prod.mk.inj (Option.some.inj hF); clear hF
    obtain ⟨h1, h2, -⟩ := hq
    refine ⟨rfl, rfl, ?_⟩
    obtain ⟨q1, q2, q3⟩ := tmod_two n
    obtain ⟨p1, p2, p3⟩ := tmod_two d
    repeat' ((conv => whnf); (first | apply And.intro | intro _))
    all_goals try (conv => whnf)
    all_goals try (first | rfl | trivial | exact ⟨by kernel_rfl⟩)
    all_goals try subst_vars
    all_goals simp only [decide_eq_true_eq, decide_eq_false_iff_not, inR, bne_iff_ne, bne_eq_false_iff_eq, beq_iff_eq, beq_eq_false_iff_ne] at *
    all_goals first
      | exact ⟨by omega⟩
      | omega
      | (rw [makeT_zero ‹d = 0›]; done)
      | (rw [makeT_ne (by omega)]; first | rfl | done)
      | (rw [‹n = d›, makeT_ne (by omega), low_same d (by omega)]; done)
      | skip
    all_goals first
      | (rw [makeT_ne (by omega), ‹n = 0›, low_zero d (by omega)]; done)
      | (have hd : d = -9223372036854775808 := by assumption
         rw [makeT_ne (by omega), hd, low_odd_d n (by omega)]; done)
      | (have hn : n = -9223372036854775808 := by assumption
         rw [makeT_ne (by omega), hn, low_odd_n d (by omega)]; done)
      | (have e1 : 2 * n.tdiv 2 = n := by omega
         have e2 : 2 * d.tdiv 2 = d := by omega
         have e3 := makeT_half (n := n.tdiv 2) (d := d.tdiv 2) (by omega)
         rw [e1, e2] at e3
         rw [e3]; done)
      | skip
    all_goals rw [makeT_ne (by omega)]
    all_goals rw [show (0 - n) = -n by omega, show (0 - d) = -d by omega]
    all_goals simp only [lowN, lowD, lowE]
    all_goals by_cases hn : n = 0
    all_goals first
      | rw [hn, Int.neg_zero, low_neg0]
      | rw [low_neg n d hn (by omega)]
  next => cases hF)
end Go.Proofs.YtoggkjobihlohaaDoor
