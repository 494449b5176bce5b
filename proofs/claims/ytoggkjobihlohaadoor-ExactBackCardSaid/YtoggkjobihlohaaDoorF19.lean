/-
  Chapter 1: Floor, Ceil, Cmp, Neg, Has; ExactParts, walked.
-/
import Derived.Test.YtoggkjobihlohaaDoorF18
import Derived.Test.YtoggkjobihlohaaDoorP4
namespace Go.Proofs.YtoggkjobihlohaaDoor
open Go Go.Sx
set_option maxRecDepth 100000
variable {Γ : Glob}

def floorX (n d : Int) : Int := if valid n d = true then n / d else 0
theorem floorX_bad {n d : Int} (h : valid n d = false) : floorX n d = 0 := by simp only [floorX, h, Bool.false_eq_true, if_false]
theorem floorX_good {n d : Int} (h : valid n d = true) : floorX n d = n / d := if_pos h
def ceilX (n d : Int) : Int := if valid n d = true then upI n d else 0
theorem ceilX_bad {n d : Int} (h : valid n d = false) : ceilX n d = 0 := by simp only [ceilX, h, Bool.false_eq_true, if_false]
theorem ceilX_good {n d : Int} (h : valid n d = true) : ceilX n d = upI n d := if_pos h

def L10 : List (Nat × Ctr) := (88, c88) :: (83, c83) :: (84, c84) :: (21, c21) :: (56, c56) :: L2
theorem L10_ok : LOk Tryd.prog Γ L10 := ((((L2_ok.cons (FnOk.of Tryd.func56 rfl rfl) c56_ok).cons (FnOk.of Tryd.func21 rfl rfl) c21_ok).cons (FnOk.of Tryd.func84 rfl rfl) c84_ok).cons (FnOk.of Tryd.func83 rfl rfl) c83_ok).cons (FnOk.of Tryd.func88 rfl rfl) c88_ok

def c29 : Ctr := .fn fun args _ => match args with
  | [.agg [.v (.int .i64 n), .v (.int .i64 d)]] => some ([inR .i64 n, inR .i64 d], .tup [.a (vI (floorX n d)), .a (vI (errX n d))])
  | _ => none
theorem c29_ok : Ctr.Ok Tryd.prog Γ 29 c29 := Ctr.fn_ok0 (prog_ok L10_ok true) Tryd.func29 rfl rfl rfl (by
  intro args q t hF hq
  split at hF
  next n d =>
    obtain ⟨rfl, rfl⟩ := Prod.mk.inj (Option.some.inj hF); clear hF
    obtain ⟨h1, h2, -⟩ := hq
    refine ⟨rfl, rfl, ?_⟩
    repeat' ((conv => whnf); (first | apply And.intro | intro _))
    all_goals try (conv => whnf)
    all_goals try (first | rfl | trivial | exact LexB.mk (by kernel_rfl) | exact LexG.mk (by kernel_rfl) | exact Forced.mk (by kernel_rfl))
    all_goals try subst_vars
    all_goals try dsimp only [CK.ty, Tup, kII] at *
    all_goals try simp only [allValid, List.all_cons, List.all_nil, Bool.and_true, bne_iff_ne, bne_eq_false_iff_eq, ne_eq, ite_ok] at *
    all_goals try simp only [Bool.not_eq_true] at *
    all_goals try (refine ⟨?_⟩; first | assumption | decide | (simp; done))
    all_goals try exact ⟨⟨h1, h2⟩, trivial⟩
    all_goals try (rw [floorX_bad ‹_›]; done)
    all_goals try (rw [errX_bad ‹_›, ‹valid n d = false›]; rfl)
    all_goals try (rw [floorX_good ‹_›]; done)
    all_goals try (rw [errX_good ‹_›]; done)
    all_goals (have v := valid_iff.1 ‹valid n d = true›; exact ⟨by omega⟩)
  next => cases hF)

def c30 : Ctr := .fn fun args _ => match args with
  | [.agg [.v (.int .i64 n), .v (.int .i64 d)]] => some ([inR .i64 n, inR .i64 d], .tup [.a (vI (ceilX n d)), .a (vI (errX n d))])
  | _ => none
theorem c30_ok : Ctr.Ok Tryd.prog Γ 30 c30 := Ctr.fn_ok0 (prog_ok L10_ok true) Tryd.func30 rfl rfl rfl (by
  intro args q t hF hq
  split at hF
  next n d =>
    obtain ⟨rfl, rfl⟩ := Prod.mk.inj (Option.some.inj hF); clear hF
    obtain ⟨h1, h2, -⟩ := hq
    refine ⟨rfl, rfl, ?_⟩
    repeat' ((conv => whnf); (first | apply And.intro | intro _))
    all_goals try (conv => whnf)
    all_goals try (first | rfl | trivial | exact LexB.mk (by kernel_rfl) | exact LexG.mk (by kernel_rfl) | exact Forced.mk (by kernel_rfl))
    all_goals try subst_vars
    all_goals try dsimp only [CK.ty, Tup, kII] at *
    all_goals try simp only [allValid, List.all_cons, List.all_nil, Bool.and_true, bne_iff_ne, bne_eq_false_iff_eq, ne_eq, ite_ok] at *
    all_goals try simp only [Bool.not_eq_true] at *
    all_goals try (refine ⟨?_⟩; first | assumption | decide | (simp; done))
    all_goals try exact ⟨⟨h1, h2⟩, trivial⟩
    all_goals try (rw [ceilX_bad ‹_›]; done)
    all_goals try (rw [errX_bad ‹_›, ‹valid n d = false›]; rfl)
    all_goals try (rw [errX_good ‹_›]; done)
    all_goals (have v := valid_iff.1 ‹valid n d = true›
               have f1 := div_fits (n := 0 - n) (show 0 < d by omega) (by omega)
               have e1 : 0 - (0 - n) / d = upI n d := by rw [upI, Int.zero_sub, Int.zero_sub])
    all_goals first
      | (rw [ceilX_good ‹_›, e1]; done)
      | exact ⟨by omega⟩
      | exact ⟨by simp only [inR]; omega⟩
  next => cases hF)

/-- Whether a valid interval has a valid number. -/
def hasB (a b c d n m : Int) : Bool := validR a b c d && (valid n m && (decide (a * m ≤ n * b) && decide (n * d ≤ c * m)))
theorem hasB_iff {a b c d n m : Int} : hasB a b c d n m = true ↔ validR a b c d = true ∧ valid n m = true ∧ a * m ≤ n * b ∧ n * d ≤ c * m := by simp [hasB]
def c28 : Ctr := .fn fun args _ => match args with
  | [.agg [.v (.int .i64 a), .v (.int .i64 b), .v (.int .i64 c), .v (.int .i64 d)], .agg [.v (.int .i64 n), .v (.int .i64 m)]] => some ([inR .i64 a, inR .i64 b, inR .i64 c, inR .i64 d, inR .i64 n, inR .i64 m], bl (hasB a b c d n m))
  | _ => none
theorem c28_ok : Ctr.Ok Tryd.prog Γ 28 c28 := Ctr.fn_ok0 (prog_ok L10_ok true) Tryd.func28 rfl rfl rfl (by
  intro args q t hF hq
  split at hF
  next a b c d n m =>
    obtain ⟨rfl, rfl⟩ := Prod.mk.inj (Option.some.inj hF); clear hF
    obtain ⟨h1, h2, h3, h4, h5, h6, -⟩ := hq
    refine ⟨rfl, rfl, ?_⟩
    repeat' ((conv => whnf); (first | apply And.intro | intro _))
    all_goals try (conv => whnf)
    all_goals try (first | rfl | trivial | exact LexB.mk (by kernel_rfl) | exact LexG.mk (by kernel_rfl) | exact Forced.mk (by kernel_rfl))
    all_goals try subst_vars
    all_goals try exact ⟨by assumption⟩
    all_goals try simp only [cmp_le, Bool.and_eq_true, Bool.and_eq_false_iff] at *
    all_goals try (have v1 := validR_bound ‹validR a b c d = true›)
    all_goals try (have v2 := valid_iff.1 ‹valid n m = true›)
    all_goals try exact ⟨mul_fits (by omega) (by omega)⟩
    all_goals try (rw [hasB, ‹validR a b c d = false›, Bool.false_and]; done)
    all_goals try (rw [hasB, ‹validR a b c d = true›, ‹valid n m = false›]; rfl)
    all_goals try (rw [hasB, ‹validR a b c d = true›, ‹valid n m = true›, ‹decide (a * m ≤ n * b) = false›]; rfl)
    all_goals (rw [hasB, ‹validR a b c d = true›, ‹valid n m = true›, ‹decide (a * m ≤ n * b) = true›]; rfl)
  next => cases hF)

def LP : List (Nat × Ctr) := (29, c29) :: (30, c30) :: LR
theorem LP_ok : LOk Tryd.prog ΓL LP := (LR_ok.cons (FnOk.of Tryd.func30 rfl rfl) c30_ok).cons (FnOk.of Tryd.func29 rfl rfl) c29_ok

def c7 : Ctr := .fn fun args _ => match args with
  | [.agg [.v (.int .i64 n), .v (.int .i64 d)], .a (.v (.int .i64 k))] => some ([inR .i64 n, inR .i64 d, inR .i64 k], bl true)
  | _ => none
theorem c7_ok : Ctr.Ok Tryd.prog ΓL 7 c7 := Ctr.fn_ok0 (prog_ok LP_ok true) Tryd.func7 rfl rfl rfl (by
  intro args q t hF hq
  split at hF
  next n d k =>
    obtain ⟨rfl, rfl⟩ := Prod.mk.inj (Option.some.inj hF); clear hF
    obtain ⟨h1, h2, h3, -⟩ := hq
    refine ⟨rfl, rfl, ?_⟩
    repeat' ((conv => whnf); (first | apply And.intro | intro _))
    all_goals try (conv => whnf)
    all_goals try (first | rfl | trivial | exact LexB.mk (by kernel_rfl) | exact LexG.mk (by kernel_rfl) | exact Forced.mk (by kernel_rfl))
    all_goals try subst_vars
    all_goals try exact ⟨by assumption⟩
    all_goals try simp only [Bool.not_eq_true', Bool.not_eq_false', beq_iff_eq, beq_eq_false_iff_ne, Bool.and_true, Bool.and_eq_true, reduceCtorEq] at *
    all_goals try contradiction
    all_goals try exact ⟨by assumption⟩
    all_goals try rw [floorX_bad ‹_›] at *
    all_goals try rw [ceilX_bad ‹_›] at *
    all_goals try rw [errX_bad ‹_›] at *
    all_goals try rw [partX_bad ‹_›] at *
    all_goals try rw [floorX_good ‹_›] at *
    all_goals try rw [ceilX_good ‹_›] at *
    all_goals try rw [errX_good ‹_›] at *
    all_goals try rw [partX_good ‹_›] at *
    all_goals try contradiction
    all_goals try exact ⟨rfl, rfl⟩
    all_goals try rfl
    all_goals try (simp only [beq_self_eq_true, Bool.and_self, reduceCtorEq] at *; done)
    all_goals (have v := valid_iff.1 ‹valid n d = true›)
    all_goals first | exact ⟨by omega⟩ | exact ⟨by simp only [inR]; omega⟩
  next => cases hF)

end Go.Proofs.YtoggkjobihlohaaDoor
