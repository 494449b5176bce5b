/-
  Chapter 1: the reference's closer.
-/
import Derived.Test.YtoggkjobihlohaaDoorF10
import Derived.Test.YtoggkjobihlohaaDoorP2
namespace Go.Proofs.YtoggkjobihlohaaDoor
open Go Go.Sx
set_option maxRecDepth 100000
variable {Γ : Glob}

def c87 : Ctr := .fn fun args _ => match args with
  | [.agg [.v (.int .i64 n), .v (.int .i64 d)], .a (.v (.int .i64 p)), .a (.v (.int .i64 q)), .a (.v (.int .i64 r)), .a (.v (.int .i64 s))] =>
    some ([inR .i64 (n * q), inR .i64 (p * d), inR .i64 (n * q - p * d), inR .i64 ((n * q - p * d) * s), inR .i64 (r * d), inR .i64 (n * s), inR .i64 (r * d - n * s), inR .i64 ((r * d - n * s) * q)], bl (closeB p q r s n d))
  | _ => none
theorem c87_ok : Ctr.Ok Tryd.prog Γ 87 c87 := Ctr.fn_ok0 (prog_ok L0_ok true) Tryd.func87 rfl rfl rfl (by
  intro args q t hF hq
  split at hF
  next n d p q r s =>
    obtain ⟨rfl, rfl⟩ := Prod.mk.inj (Option.some.inj hF); clear hF
    obtain ⟨h1, h2, h3, h4, h5, h6, h7, h8, -⟩ := hq
    refine ⟨rfl, rfl, ?_⟩
    repeat' ((conv => whnf); (first | apply And.intro | intro _))
    all_goals try (conv => whnf)
    all_goals try (first | rfl | trivial | exact ⟨by kernel_rfl⟩)
    all_goals try subst_vars
    all_goals first
      | exact ⟨by assumption⟩
      | rfl
  next => cases hF)
end Go.Proofs.YtoggkjobihlohaaDoor
