/-
  Chapter 1: Best's steps.
-/
import Derived.Test.YtoggkjobihlohaaDoorF9
namespace Go.Proofs.YtoggkjobihlohaaDoor
open Go Go.Sx
set_option maxRecDepth 100000
variable {Γ : Glob}

/-- How often y is added to x, on x's side of n/d, up to a denominator. -/
def stepsK (p q r s n d most : Int) : Int :=
  if 0 < (r * d - n * s).natAbs then (if (((n * q - p * d).natAbs : Int) - 1).tdiv ((r * d - n * s).natAbs : Int) < (most - q).tdiv s then (((n * q - p * d).natAbs : Int) - 1).tdiv ((r * d - n * s).natAbs : Int) else (most - q).tdiv s) else (most - q).tdiv s

def c85 : Ctr := .fn fun args _ => match args with
  | [.agg [.v (.int .i64 p), .v (.int .i64 q)], .agg [.v (.int .i64 r), .v (.int .i64 s)], .agg [.v (.int .i64 n), .v (.int .i64 d)], .a (.v (.int .i64 most))] =>
    some ([inR .i64 (most - q), 0 < s, n * q - p * d ≠ 0, inR .i64 (n * q), inR .i64 (p * d), inR .i64 (n * q - p * d), inR .i64 (r * d), inR .i64 (n * s), inR .i64 (r * d - n * s),
        inR .i64 (stepsK p q r s n d most * r), inR .i64 (stepsK p q r s n d most * s), inR .i64 (p + stepsK p q r s n d most * r), inR .i64 (q + stepsK p q r s n d most * s)],
      .agg [vI (p + stepsK p q r s n d most * r), vI (q + stepsK p q r s n d most * s)])
  | _ => none
theorem c85_ok : Ctr.Ok Tryd.prog Γ 85 c85 := Ctr.fn_ok0 (prog_ok L1_ok true) Tryd.func85 rfl rfl rfl (by
  intro args q t hF hq
  split at hF
  next p q r s n d most =>
    obtain ⟨rfl, rfl⟩ := Prod.mk.inj (Option.some.inj hF); clear hF
    obtain ⟨h1, h2, h3, h4, h5, h6, h7, h8, h9, h10, h11, h12, h13, -⟩ := hq
    refine ⟨rfl, rfl, ?_⟩
    obtain ⟨b1, b2, -⟩ := tdiv_le h2 h1
    have e0 : ((n * q - p * d).natAbs : Int) - 1 = ((n * q - p * d).natAbs : Int) - 1 := rfl
    have e1 : (((n * q - p * d).natAbs : Int) - 1).tdiv ((r * d - n * s).natAbs : Int) = (((n * q - p * d).natAbs : Int) - 1) / ((r * d - n * s).natAbs : Int) := Int.tdiv_eq_ediv_of_nonneg (by omega)
    have e2 := div_le_nat (((n * q - p * d).natAbs : Int) - 1) ((r * d - n * s).natAbs : Int) (by omega) (by omega)
    have g1 : ((r * d - n * s).natAbs : Int) > 0 → stepsK p q r s n d most = if (((n * q - p * d).natAbs : Int) - 1).tdiv ((r * d - n * s).natAbs : Int) < (most - q).tdiv s then (((n * q - p * d).natAbs : Int) - 1).tdiv ((r * d - n * s).natAbs : Int) else (most - q).tdiv s := fun h => by rw [stepsK, if_pos (by omega)]
    have g2 : ¬ ((r * d - n * s).natAbs : Int) > 0 → stepsK p q r s n d most = (most - q).tdiv s := fun h => by rw [stepsK, if_neg (by omega)]
    repeat' ((conv => whnf); (first | apply And.intro | intro _))
    all_goals try (conv => whnf)
    all_goals try (first | rfl | trivial | exact ⟨by kernel_rfl⟩)
    all_goals try subst_vars
    all_goals try exact ⟨by assumption⟩
    all_goals try simp only [decide_eq_true_eq, decide_eq_false_iff_not] at *
    all_goals try (rw [← g1 ‹_›])
    all_goals try (rw [← g2 ‹_›])
    all_goals try exact ⟨by assumption⟩
    all_goals try rfl
    all_goals (simp only [inR] at *; exact ⟨by omega⟩)
  next => cases hF)
end Go.Proofs.YtoggkjobihlohaaDoor
