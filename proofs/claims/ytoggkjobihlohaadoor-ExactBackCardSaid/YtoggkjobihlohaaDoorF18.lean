/-
  Chapter 1: the statements ExactMakes, ExactSimplest and ExactBest, walked.
-/
import Derived.Test.YtoggkjobihlohaaDoorF17
namespace Go.Proofs.YtoggkjobihlohaaDoor
open Go Go.Sx
set_option maxRecDepth 100000

def R8 : List (Nat × Ctr) := (27, c27) :: R7
theorem R8_ok {Γ : Glob} : LOk Tryd.prog Γ R8 := R7_ok.cons (FnOk.of Tryd.func27 rfl rfl) c27_ok
theorem look_app {l m : List (Nat × Ctr)} {f : Nat} {c : Ctr} (h : Sx.look (l ++ m) f = some c) : Sx.look l f = some c ∨ Sx.look m f = some c := by
  induction l with
  | nil => exact .inr h
  | cons x l ih =>
    obtain ⟨g, d⟩ := x
    simp only [List.cons_append, Sx.look] at h ⊢
    split
    · rename_i hg; rw [hg] at h; exact .inl h
    · rename_i hg; rw [hg] at h; exact ih h
theorem LOk.app {P : Program} {Γ : Glob} {l m : List (Nat × Ctr)} (h1 : LOk P Γ l) (h2 : LOk P Γ m) : LOk P Γ (l ++ m) := ⟨fun f c h => (look_app h).elim (h1.h f c) (h2.h f c)⟩
def LR : List (Nat × Ctr) := (18, c18) :: (L9 ++ R8)
theorem LR_ok : LOk Tryd.prog ΓL LR := (LOk.app L9_ok R8_ok).cons (FnOk.of Tryd.func18 rfl rfl) c18_ok

def c3 : Ctr := .fn fun args _ => match args with
  | [.a (.v (.int .i64 n)), .a (.v (.int .i64 d)), .agg [.v (.int .i64 a), .v (.int .i64 b)]] => some ([inR .i64 n, inR .i64 d, inR .i64 a, inR .i64 b], bl true)
  | _ => none
theorem c3_ok : Ctr.Ok Tryd.prog ΓL 3 c3 := Ctr.fn_ok0 (prog_ok LR_ok true) Tryd.func3 rfl rfl rfl (by
  intro args q t hF hq
  split at hF
  next n d a b =>
    obtain ⟨rfl, rfl⟩ := Prod.mk.inj (Option.some.inj hF); clear hF
    obtain ⟨h1, h2, h3, h4, -⟩ := hq
    refine ⟨rfl, rfl, ?_⟩
    repeat' ((conv => whnf); (first | apply And.intro | intro _))
    all_goals try (conv => whnf)
    all_goals try (first | rfl | trivial | exact LexB.mk (by kernel_rfl) | exact LexG.mk (by kernel_rfl) | exact Forced.mk (by kernel_rfl))
    all_goals try subst_vars
    all_goals try exact ⟨by assumption⟩
    all_goals try (simp only [and_self, decide_true] at *; done)
    all_goals try exact beq_self_eq_true _
    all_goals (exfalso; simp only [and_self, decide_true, reduceCtorEq] at *)
  next => cases hF)

def c4 : Ctr := .fn fun args _ => match args with
  | [.agg [.v (.int .i64 a), .v (.int .i64 b), .v (.int .i64 c), .v (.int .i64 d)]] => some ([inR .i64 a, inR .i64 b, inR .i64 c, inR .i64 d], bl true)
  | _ => none
theorem c4_ok : Ctr.Ok Tryd.prog ΓL 4 c4 := Ctr.fn_ok0 (prog_ok LR_ok true) Tryd.func4 rfl rfl rfl (by
  intro args q t hF hq
  split at hF
  next a b c d =>
    obtain ⟨rfl, rfl⟩ := Prod.mk.inj (Option.some.inj hF); clear hF
    obtain ⟨h1, h2, h3, h4, -⟩ := hq
    refine ⟨rfl, rfl, ?_⟩
    repeat' ((conv => whnf); (first | apply And.intro | intro _))
    all_goals try (conv => whnf)
    all_goals try (first | rfl | trivial | exact LexB.mk (by kernel_rfl) | exact LexG.mk (by kernel_rfl) | exact Forced.mk (by kernel_rfl))
    all_goals try subst_vars
    all_goals try simp only [Bool.not_eq_true', Bool.not_eq_false', beq_iff_eq, beq_eq_false_iff_ne, Bool.and_true, Bool.and_eq_true, reduceCtorEq] at *
    all_goals try contradiction
    all_goals try exact ⟨by assumption⟩
    all_goals try rw [simX_bad ‹_›] at *
    all_goals try rw [simX_good ‹_›] at *
    all_goals try contradiction
    all_goals exact ⟨rfl, rfl⟩
  next => cases hF)

def c5 : Ctr := .fn fun args _ => match args with
  | [.agg [.v (.int .i64 n), .v (.int .i64 d)], .a (.v (.int .i64 m))] => some ([inR .i64 n, inR .i64 d, inR .i64 m], bl true)
  | _ => none
theorem c5_ok : Ctr.Ok Tryd.prog ΓL 5 c5 := Ctr.fn_ok0 (prog_ok LR_ok true) Tryd.func5 rfl rfl rfl (by
  intro args q t hF hq
  split at hF
  next n d m =>
    obtain ⟨rfl, rfl⟩ := Prod.mk.inj (Option.some.inj hF); clear hF
    obtain ⟨h1, h2, h3, -⟩ := hq
    refine ⟨rfl, rfl, ?_⟩
    repeat' ((conv => whnf); (first | apply And.intro | intro _))
    all_goals try (conv => whnf)
    all_goals try (first | rfl | trivial | exact LexB.mk (by kernel_rfl) | exact LexG.mk (by kernel_rfl) | exact Forced.mk (by kernel_rfl))
    all_goals try subst_vars
    all_goals try simp only [Bool.not_eq_true', Bool.not_eq_false', beq_iff_eq, beq_eq_false_iff_ne, Bool.and_true, Bool.and_eq_true, reduceCtorEq] at *
    all_goals try contradiction
    all_goals try exact ⟨by assumption⟩
    all_goals try rw [bestX_bad ‹_›] at *
    all_goals try rw [bestX_good ‹_›] at *
    all_goals try contradiction
    all_goals try exact ⟨rfl, rfl⟩
    all_goals exact decide_eq_true ⟨rfl, rfl, rfl⟩
  next => cases hF)
end Go.Proofs.YtoggkjobihlohaaDoor
