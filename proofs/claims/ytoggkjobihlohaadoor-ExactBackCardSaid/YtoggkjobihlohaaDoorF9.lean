/-
  Chapter 1: Best's helpers.
-/
import Derived.Test.YtoggkjobihlohaaDoorF8
namespace Go.Proofs.YtoggkjobihlohaaDoor
open Go Go.Sx
set_option maxRecDepth 100000
variable {Γ : Glob}

/-- Which of two numbers is closer to a third one between them. -/
def closeB (p q r s n d : Int) : Bool := decide ((n * q - p * d) * s ≤ (r * d - n * s) * q)

def c86 : Ctr := .fn fun args _ => match args with
  | [.agg [.v (.int .i64 p), .v (.int .i64 q)], .agg [.v (.int .i64 r), .v (.int .i64 s)], .agg [.v (.int .i64 n), .v (.int .i64 d)]] =>
    some ([inR .i64 (n * q), inR .i64 (p * d), inR .i64 (n * q - p * d), inR .i64 ((n * q - p * d) * s), inR .i64 (r * d), inR .i64 (n * s), inR .i64 (r * d - n * s), inR .i64 ((r * d - n * s) * q)],
      .agg [vI (if closeB p q r s n d then p else r), vI (if closeB p q r s n d then q else s)])
  | _ => none
theorem c86_ok : Ctr.Ok Tryd.prog Γ 86 c86 := Ctr.fn_ok0 (prog_ok L0_ok true) Tryd.func86 rfl rfl rfl (by
  intro args q t hF hq
  split at hF
  next p q r s n d =>
    obtain ⟨rfl, rfl⟩ := Prod.mk.inj (Option.some.inj hF); clear hF
    obtain ⟨h1, h2, h3, h4, h5, h6, h7, h8, -⟩ := hq
    refine ⟨rfl, rfl, ?_⟩
    repeat' ((conv => whnf); (first | apply And.intro | intro _))
    all_goals try (conv => whnf)
    all_goals try (first | rfl | trivial | exact ⟨by kernel_rfl⟩)
    all_goals try subst_vars
    all_goals first
      | exact ⟨by assumption⟩
      | (rw [closeB, if_pos (by assumption)]; done)
      | (rw [closeB, if_neg (by simp only [*]; simp)]; done)
  next => cases hF)
end Go.Proofs.YtoggkjobihlohaaDoor
