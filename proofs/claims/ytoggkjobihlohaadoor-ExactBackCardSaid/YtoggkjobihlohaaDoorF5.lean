/-
  Chapter 1: Simplest, in the program and in the reference.
-/
import Derived.Test.YtoggkjobihlohaaDoorF4
namespace Go.Proofs.YtoggkjobihlohaaDoor
open Go Go.Sx
set_option maxRecDepth 100000
variable {Γ : Glob}

/-- The simplest number of a valid interval. -/
def simT (a b c d : Int) : Int × Int := if 0 < a then spl a b c d else if c < 0 then (-(spl (-c) d (-a) b).1, (spl (-c) d (-a) b).2) else (0, 1)
def simX (a b c d : Int) : Int × Int × Int := if validR a b c d = true then ((simT a b c d).1, (simT a b c d).2, 0) else (0, 0, 1)
theorem simX_bad {a b c d : Int} (h : validR a b c d = false) : simX a b c d = (0, 0, 1) := by simp only [simX, h, Bool.false_eq_true, if_false]
theorem simX_good {a b c d : Int} (h : validR a b c d = true) : simX a b c d = ((simT a b c d).1, (simT a b c d).2, 0) := by simp only [simX, h, if_true]
theorem validR_iff {a b c d : Int} : validR a b c d = true ↔ (valid a b = true ∧ valid c d = true) ∧ a * d ≤ c * b := by simp [validR]
theorem between_pos {a b c d : Int} (h : validR a b c d = true) (ha : 0 < a) : Between a b c d := by
  obtain ⟨⟨h1, h2⟩, h3⟩ := validR_iff.1 h
  have v1 := valid_iff.1 h1
  have v2 := valid_iff.1 h2
  refine ⟨ha, by omega, ?_, by omega, h3⟩
  have h4 : 0 < a * d := Int.mul_pos ha (by omega)
  exact Int.pos_of_mul_pos_left (by omega : 0 < c * b) (by omega)
theorem between_neg {a b c d : Int} (h : validR a b c d = true) (hc : c < 0) : Between (-c) d (-a) b := by
  obtain ⟨⟨h1, h2⟩, h3⟩ := validR_iff.1 h
  have v1 := valid_iff.1 h1
  have v2 := valid_iff.1 h2
  have h4 : c * b < 0 := Int.mul_neg_of_neg_of_pos hc (by omega)
  have ha : a < 0 := by
    rcases Int.lt_or_le a 0 with hh | hh
    · exact hh
    · have : 0 ≤ a * d := Int.mul_nonneg hh (by omega)
      omega
  refine ⟨by omega, by omega, by omega, by omega, ?_⟩
  rw [Int.neg_mul, Int.neg_mul]; omega

theorem validR_bound {a b c d : Int} (h : validR a b c d = true) : 1 ≤ b ∧ b ≤ 2147483647 ∧ -2147483647 ≤ a ∧ a ≤ 2147483647 ∧ 1 ≤ d ∧ d ≤ 2147483647 ∧ -2147483647 ≤ c ∧ c ≤ 2147483647 := by
  obtain ⟨⟨h1, h2⟩, h3⟩ := validR_iff.1 h
  have v1 := valid_iff.1 h1
  have v2 := valid_iff.1 h2
  omega
/-- What the walks need to know of Simplest. -/
structure SimFacts (a b c d : Int) : Prop where
  bd : 1 ≤ b ∧ b ≤ 2147483647 ∧ -2147483647 ≤ a ∧ a ≤ 2147483647 ∧ 1 ≤ d ∧ d ≤ 2147483647 ∧ -2147483647 ≤ c ∧ c ≤ 2147483647
  pos : 0 < a → Between a b c d ∧ 0 < c ∧ simT a b c d = spl a b c d
  neg : ¬ 0 < a → c < 0 → Between (0 - c) d (0 - a) b ∧ a < 0 ∧ simT a b c d = (0 - (spl (0 - c) d (0 - a) b).1, (spl (0 - c) d (0 - a) b).2) ∧ 0 < (spl (0 - c) d (0 - a) b).1 ∧ (spl (0 - c) d (0 - a) b).1 ≤ 2147483647
  nul : ¬ 0 < a → ¬ c < 0 → simT a b c d = (0, 1)
theorem simFacts {a b c d : Int} (h : validR a b c d = true) : SimFacts a b c d := by
  have hb := validR_bound h
  refine ⟨hb, fun ha => ?_, fun ha hc => ?_, fun ha hc => by rw [simT, if_neg ha, if_neg hc]⟩
  · have g := between_pos h ha
    exact ⟨g, g.pc, by rw [simT, if_pos ha]⟩
  · have g := between_neg h hc
    have hbd := spl_bound _ _ _ _ _ g (Nat.le_refl _)
    have e1 : 0 - c = -c := by omega
    have e2 : 0 - a = -a := by omega
    have g3 := g.pc
    rw [e1, e2]
    exact ⟨g, by omega, by rw [simT, if_neg ha, if_pos hc]; simp, hbd.1, by omega⟩

def L5 : List (Nat × Ctr) := (56, c56) :: (80, c80) :: L4
theorem L5_ok : LOk Tryd.prog Γ L5 := (L4_ok.cons (FnOk.of Tryd.func80 rfl rfl) c80_ok).cons (FnOk.of Tryd.func56 rfl rfl) c56_ok

def c23 : Ctr := .fn fun args _ => match args with
  | [.agg [.v (.int .i64 a), .v (.int .i64 b), .v (.int .i64 c), .v (.int .i64 d)]] => some ([inR .i64 a, inR .i64 b, inR .i64 c, inR .i64 d], .tup [.agg [vI (simX a b c d).1, vI (simX a b c d).2.1], .a (vI (simX a b c d).2.2)])
  | _ => none
theorem c23_ok : Ctr.Ok Tryd.prog Γ 23 c23 := Ctr.fn_ok0 (prog_ok L5_ok true) Tryd.func23 rfl rfl rfl (by
  intro args q t hF hq
  split at hF
  next a b c d =>
    obtain ⟨rfl, rfl⟩ := Prod.mk.inj (Option.some.inj hF); clear hF
    obtain ⟨h1, h2, h3, h4, -⟩ := hq
    refine ⟨rfl, rfl, ?_⟩
    repeat' ((conv => whnf); (first | apply And.intro | intro _))
    all_goals try (conv => whnf)
    all_goals try (first | rfl | trivial | exact ⟨by kernel_rfl⟩)
    all_goals try subst_vars
    all_goals try simp only [decide_eq_true_eq, decide_eq_false_iff_not, Bool.not_eq_true', Bool.not_eq_false'] at *
    all_goals try exact ⟨by assumption⟩
    all_goals try (rw [simX_bad ‹_›]; done)
    all_goals (have F := simFacts ‹_›; have hb := F.bd; have E := simX_good ‹validR a b c d = true›)
    all_goals try (have F1 := F.pos ‹_›)
    all_goals try (have F2 := F.neg ‹_› ‹_›)
    all_goals try (have F3 := F.nul ‹_› ‹_›)
    all_goals first
      | exact ⟨F1.1⟩
      | exact ⟨F2.1⟩
      | exact ⟨by omega⟩
      | exact ⟨by simp only [inR]; omega⟩
      | (rw [E, F1.2.2]; done)
      | (rw [E, F2.2.2.1]; done)
      | (rw [E, F3]; done)
  next => cases hF)
end Go.Proofs.YtoggkjobihlohaaDoor
