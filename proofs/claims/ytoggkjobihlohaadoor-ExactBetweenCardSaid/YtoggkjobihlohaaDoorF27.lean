/-
  Chapter 1: the specification's intervals.
-/
import Derived.Test.YtoggkjobihlohaaDoorF26
namespace Go.Proofs.YtoggkjobihlohaaDoor
open Go Go.Sx
set_option maxRecDepth 100000
variable {Γ : Glob}

theorem cmp_eq_of {n d m e : Int} (ha : valid n d = true) (hb : valid m e = true) (h1 : ¬ n * e < m * d) (h2 : ¬ m * d < n * e) : n = m ∧ d = e := by
  refine (cmp_zero ha hb).1 ?_
  rw [cmpI, if_neg h1, if_neg h2]
theorem grN_lt {n d m e : Int} (h : n * e < m * d) : grN n d m e = (m, e) := if_neg (by rw [cmp_gt]; omega)
theorem grN_ge {n d m e : Int} (ha : valid n d = true) (hb : valid m e = true) (h : ¬ n * e < m * d) : grN n d m e = (n, d) := by
  by_cases g : m * d < n * e
  · exact if_pos (by rw [cmp_gt]; omega)
  · obtain ⟨rfl, rfl⟩ := cmp_eq_of ha hb h g
    unfold grN
    split <;> rfl
theorem leN_lt {n d m e : Int} (h : m * d < n * e) : leN n d m e = (m, e) := if_pos (by rw [cmp_gt]; omega)
theorem leN_ge {n d m e : Int} (h : ¬ m * d < n * e) : leN n d m e = (n, d) := if_neg (by rw [cmp_gt]; omega)
/-- Of two numbers, or their errors, the interval that they are the ends of. -/
def bothT (p q : Int × Int × Int) : Int × Int × Int × Int × Int :=
  if p.2.2 = 0 then (if q.2.2 = 0 then (p.1, p.2.1, q.1, q.2.1, 0) else (0, 0, 0, 0, q.2.2)) else (0, 0, 0, 0, p.2.2)
def sumR (a b c d k l m n : Int) : Int × Int × Int × Int × Int := bothT (addT a b k l) (addT c d m n)
def scaleR (a b c d n m : Int) : Int × Int × Int × Int × Int := if n < 0 then bothT (mulT c d n m) (mulT a b n m) else bothT (mulT a b n m) (mulT c d n m)

def c103 : Ctr := .fn fun args _ => match args with
  | [.agg [.v (.int .i64 n), .v (.int .i64 d)], .agg [.v (.int .i64 m), .v (.int .i64 e)]] => some ([valid n d = true, valid m e = true], .agg [vI (grN n d m e).1, vI (grN n d m e).2])
  | _ => none
theorem c103_ok : Ctr.Ok Tryd.prog Γ 103 c103 := Ctr.fn_ok0 (prog_ok (L0_ok.cons (FnOk.of Tryd.func81 rfl rfl) c81_ok) true) Tryd.func103 rfl rfl rfl (by
  intro args q t hF hq
  split at hF
  next n d m e =>
    obtain ⟨rfl, rfl⟩ := Prod.mk.inj (Option.some.inj hF); clear hF
    obtain ⟨h1, h2, -⟩ := hq
    refine ⟨rfl, rfl, ?_⟩
    repeat' ((conv => whnf); (first | apply And.intro | intro _))
    all_goals try (conv => whnf)
    all_goals try (first | rfl | trivial | exact LexB.mk (by kernel_rfl) | exact LexG.mk (by kernel_rfl) | exact LexT.mk (by kernel_rfl) | exact Forced.mk (by kernel_rfl))
    all_goals try subst_vars
    all_goals (have f := valid_mul h1 h2; have f1 := f.1; have f2 := f.2; clear f)
    all_goals first
      | exact ⟨by assumption⟩
      | (rw [grN_lt (of_decide_eq_true ‹_›)]; done)
      | (rw [grN_ge h1 h2 (of_decide_eq_false ‹_›)]; done)
  next => cases hF)

def c104 : Ctr := .fn fun args _ => match args with
  | [.agg [.v (.int .i64 n), .v (.int .i64 d)], .agg [.v (.int .i64 m), .v (.int .i64 e)]] => some ([valid n d = true, valid m e = true], .agg [vI (leN n d m e).1, vI (leN n d m e).2])
  | _ => none
theorem c104_ok : Ctr.Ok Tryd.prog Γ 104 c104 := Ctr.fn_ok0 (prog_ok (L0_ok.cons (FnOk.of Tryd.func81 rfl rfl) c81_ok) true) Tryd.func104 rfl rfl rfl (by
  intro args q t hF hq
  split at hF
  next n d m e =>
    obtain ⟨rfl, rfl⟩ := Prod.mk.inj (Option.some.inj hF); clear hF
    obtain ⟨h1, h2, -⟩ := hq
    refine ⟨rfl, rfl, ?_⟩
    repeat' ((conv => whnf); (first | apply And.intro | intro _))
    all_goals try (conv => whnf)
    all_goals try (first | rfl | trivial | exact LexB.mk (by kernel_rfl) | exact LexG.mk (by kernel_rfl) | exact LexT.mk (by kernel_rfl) | exact Forced.mk (by kernel_rfl))
    all_goals try subst_vars
    all_goals (have f := valid_mul h1 h2; have f1 := f.1; have f2 := f.2; clear f)
    all_goals first
      | exact ⟨by assumption⟩
      | (rw [leN_lt (of_decide_eq_true ‹_›)]; done)
      | (rw [leN_ge (of_decide_eq_false ‹_›)]; done)
  next => cases hF)

def c105 : Ctr := .fn fun args _ => match args with
  | [.agg [.v (.int .i64 n), .v (.int .i64 d), .v (.int .i64 g)], .agg [.v (.int .i64 m), .v (.int .i64 e), .v (.int .i64 h)]] => some ([], .agg [vI (bothT (n, d, g) (m, e, h)).1, vI (bothT (n, d, g) (m, e, h)).2.1, vI (bothT (n, d, g) (m, e, h)).2.2.1, vI (bothT (n, d, g) (m, e, h)).2.2.2.1, vI (bothT (n, d, g) (m, e, h)).2.2.2.2])
  | _ => none
theorem c105_ok : Ctr.Ok Tryd.prog Γ 105 c105 := Ctr.fn_ok0 (prog_ok L0_ok true) Tryd.func105 rfl rfl rfl (by
  intro args q t hF hq
  split at hF
  next n d g m e h =>
    obtain ⟨rfl, rfl⟩ := Prod.mk.inj (Option.some.inj hF); clear hF
    clear hq
    refine ⟨rfl, rfl, ?_⟩
    repeat' ((conv => whnf); (first | apply And.intro | intro _))
    all_goals try (conv => whnf)
    all_goals try (first | rfl | trivial | exact LexB.mk (by kernel_rfl) | exact LexG.mk (by kernel_rfl) | exact LexT.mk (by kernel_rfl) | exact Forced.mk (by kernel_rfl))
    all_goals try subst_vars
    all_goals try simp only [bne_iff_ne, ne_eq, bne_eq_false_iff_eq] at *
    all_goals (simp [bothT, *])
  next => cases hF)

def c57 : Ctr := .fn fun args _ => match args with
  | [.agg [.v (.int .i64 a), .v (.int .i64 b), .v (.int .i64 c), .v (.int .i64 d)], .agg [.v (.int .i64 n), .v (.int .i64 m)]] => some ([validR a b c d = true, valid n m = true], bl (decide (a * m ≤ n * b) && decide (n * d ≤ c * m)))
  | _ => none
theorem c57_ok : Ctr.Ok Tryd.prog Γ 57 c57 := Ctr.fn_ok0 (prog_ok (L0_ok.cons (FnOk.of Tryd.func81 rfl rfl) c81_ok) true) Tryd.func57 rfl rfl rfl (by
  intro args q t hF hq
  split at hF
  next a b c d n m =>
    obtain ⟨rfl, rfl⟩ := Prod.mk.inj (Option.some.inj hF); clear hF
    obtain ⟨h1, h2, -⟩ := hq
    refine ⟨rfl, rfl, ?_⟩
    repeat' ((conv => whnf); (first | apply And.intro | intro _))
    all_goals try (conv => whnf)
    all_goals try (first | rfl | trivial | exact LexB.mk (by kernel_rfl) | exact LexG.mk (by kernel_rfl) | exact LexT.mk (by kernel_rfl) | exact Forced.mk (by kernel_rfl))
    all_goals try subst_vars
    all_goals (have v := (validR_iff.1 h1).1; have g1 := valid_mul v.1 h2; have g2 := valid_mul v.2 h2; have f1 := g1.1; have f2 := g1.2; have f3 := g2.1; have f4 := g2.2; clear g1 g2)
    all_goals try exact ⟨by assumption⟩
    all_goals (rw [Bool.eq_iff_iff]; simp only [Bool.not_eq_true', Bool.not_eq_false', decide_eq_true_eq, decide_eq_false_iff_not, Bool.and_eq_true, Bool.false_eq_true, iff_false] at *; omega)
  next => cases hF)

def RG : List (Nat × Ctr) := (103, c103) :: (104, c104) :: (105, c105) :: (81, c81) :: (51, c51) :: (53, c53) :: (33, c33) :: (34, c34) :: []
theorem RG_ok : LOk Tryd.prog Γ RG := (((((((L0_ok.cons (FnOk.of Tryd.func34 rfl rfl) c34_ok).cons (FnOk.of Tryd.func33 rfl rfl) c33_ok).cons (FnOk.of Tryd.func53 rfl rfl) c53_ok).cons (FnOk.of Tryd.func51 rfl rfl) c51_ok).cons (FnOk.of Tryd.func81 rfl rfl) c81_ok).cons (FnOk.of Tryd.func105 rfl rfl) c105_ok).cons (FnOk.of Tryd.func104 rfl rfl) c104_ok).cons (FnOk.of Tryd.func103 rfl rfl) c103_ok

def c64 : Ctr := .fn fun args _ => match args with
  | [.agg [.v (.int .i64 a), .v (.int .i64 b), .v (.int .i64 c), .v (.int .i64 d)], .agg [.v (.int .i64 k), .v (.int .i64 l), .v (.int .i64 m), .v (.int .i64 n)]] => some ([validR a b c d = true, validR k l m n = true], .agg [vI (meetT a b c d k l m n).1, vI (meetT a b c d k l m n).2.1, vI (meetT a b c d k l m n).2.2.1, vI (meetT a b c d k l m n).2.2.2.1, vI (meetT a b c d k l m n).2.2.2.2])
  | _ => none
theorem c64_ok : Ctr.Ok Tryd.prog Γ 64 c64 := Ctr.fn_ok0 (prog_ok RG_ok true) Tryd.func64 rfl rfl rfl (by
  intro args q t hF hq
  split at hF
  next a b c d k l m n =>
    obtain ⟨rfl, rfl⟩ := Prod.mk.inj (Option.some.inj hF); clear hF
    obtain ⟨h1, h2, -⟩ := hq
    refine ⟨rfl, rfl, ?_⟩
    repeat' ((conv => whnf); (first | apply And.intro | intro _))
    all_goals try (conv => whnf)
    all_goals try (first | rfl | trivial | exact LexB.mk (by kernel_rfl) | exact LexG.mk (by kernel_rfl) | exact LexT.mk (by kernel_rfl) | exact Forced.mk (by kernel_rfl))
    all_goals try subst_vars
    all_goals (have v := (validR_iff.1 h1).1; have v' := (validR_iff.1 h2).1
               obtain ⟨f1, f2, f3, f4, f5, f6⟩ := twoFacts (show (validR a b c d && validR k l m n) = true by rw [h1, h2]; rfl)
               have w1 := v.1; have w2 := v.2; have w3 := v'.1; have w4 := v'.2)
    all_goals try exact ⟨by assumption⟩
    all_goals first
      | (rw [meetT, if_pos (by rw [gt_iff_lt, cmp_gt]; exact of_decide_eq_true ‹_›)]; done)
      | (rw [meetT, if_neg (by rw [gt_iff_lt, cmp_gt]; exact of_decide_eq_false ‹_›)]; done)
  next => cases hF)

def c65 : Ctr := .fn fun args _ => match args with
  | [.agg [.v (.int .i64 a), .v (.int .i64 b), .v (.int .i64 c), .v (.int .i64 d)], .agg [.v (.int .i64 k), .v (.int .i64 l), .v (.int .i64 m), .v (.int .i64 n)]] => some ([validR a b c d = true, validR k l m n = true], .agg [vI (leN a b k l).1, vI (leN a b k l).2, vI (grN c d m n).1, vI (grN c d m n).2])
  | _ => none
theorem c65_ok : Ctr.Ok Tryd.prog Γ 65 c65 := Ctr.fn_ok0 (prog_ok RG_ok true) Tryd.func65 rfl rfl rfl (by
  intro args q t hF hq
  split at hF
  next a b c d k l m n =>
    obtain ⟨rfl, rfl⟩ := Prod.mk.inj (Option.some.inj hF); clear hF
    obtain ⟨h1, h2, -⟩ := hq
    refine ⟨rfl, rfl, ?_⟩
    repeat' ((conv => whnf); (first | apply And.intro | intro _))
    all_goals try (conv => whnf)
    all_goals try (first | rfl | trivial | exact LexB.mk (by kernel_rfl) | exact LexG.mk (by kernel_rfl) | exact LexT.mk (by kernel_rfl) | exact Forced.mk (by kernel_rfl))
    all_goals try subst_vars
    all_goals (have v := (validR_iff.1 h1).1; have v' := (validR_iff.1 h2).1
               obtain ⟨f1, f2, f3, f4, f5, f6⟩ := twoFacts (show (validR a b c d && validR k l m n) = true by rw [h1, h2]; rfl)
               have w1 := v.1; have w2 := v.2; have w3 := v'.1; have w4 := v'.2)
    all_goals try exact ⟨by assumption⟩
    all_goals rfl
  next => cases hF)

def c66 : Ctr := .fn fun args _ => match args with
  | [.agg [.v (.int .i64 a), .v (.int .i64 b), .v (.int .i64 c), .v (.int .i64 d)], .agg [.v (.int .i64 k), .v (.int .i64 l), .v (.int .i64 m), .v (.int .i64 n)]] => some ([validR a b c d = true, validR k l m n = true], .agg [vI (sumR a b c d k l m n).1, vI (sumR a b c d k l m n).2.1, vI (sumR a b c d k l m n).2.2.1, vI (sumR a b c d k l m n).2.2.2.1, vI (sumR a b c d k l m n).2.2.2.2])
  | _ => none
theorem c66_ok : Ctr.Ok Tryd.prog Γ 66 c66 := Ctr.fn_ok0 (prog_ok RG_ok true) Tryd.func66 rfl rfl rfl (by
  intro args q t hF hq
  split at hF
  next a b c d k l m n =>
    obtain ⟨rfl, rfl⟩ := Prod.mk.inj (Option.some.inj hF); clear hF
    obtain ⟨h1, h2, -⟩ := hq
    refine ⟨rfl, rfl, ?_⟩
    repeat' ((conv => whnf); (first | apply And.intro | intro _))
    all_goals try (conv => whnf)
    all_goals try (first | rfl | trivial | exact LexB.mk (by kernel_rfl) | exact LexG.mk (by kernel_rfl) | exact LexT.mk (by kernel_rfl) | exact Forced.mk (by kernel_rfl))
    all_goals try subst_vars
    all_goals (have v := (validR_iff.1 h1).1; have v' := (validR_iff.1 h2).1
               obtain ⟨f1, f2, f3, f4, f5, f6⟩ := twoFacts (show (validR a b c d && validR k l m n) = true by rw [h1, h2]; rfl)
               have w1 := v.1; have w2 := v.2; have w3 := v'.1; have w4 := v'.2)
    all_goals try exact ⟨by assumption⟩
    all_goals rfl
  next => cases hF)

def c67 : Ctr := .fn fun args _ => match args with
  | [.agg [.v (.int .i64 a), .v (.int .i64 b), .v (.int .i64 c), .v (.int .i64 d)], .agg [.v (.int .i64 n), .v (.int .i64 m)]] => some ([validR a b c d = true, valid n m = true], .agg [vI (scaleR a b c d n m).1, vI (scaleR a b c d n m).2.1, vI (scaleR a b c d n m).2.2.1, vI (scaleR a b c d n m).2.2.2.1, vI (scaleR a b c d n m).2.2.2.2])
  | _ => none
theorem c67_ok : Ctr.Ok Tryd.prog Γ 67 c67 := Ctr.fn_ok0 (prog_ok RG_ok true) Tryd.func67 rfl rfl rfl (by
  intro args q t hF hq
  split at hF
  next a b c d n m =>
    obtain ⟨rfl, rfl⟩ := Prod.mk.inj (Option.some.inj hF); clear hF
    obtain ⟨h1, h2, -⟩ := hq
    refine ⟨rfl, rfl, ?_⟩
    repeat' ((conv => whnf); (first | apply And.intro | intro _))
    all_goals try (conv => whnf)
    all_goals try (first | rfl | trivial | exact LexB.mk (by kernel_rfl) | exact LexG.mk (by kernel_rfl) | exact LexT.mk (by kernel_rfl) | exact Forced.mk (by kernel_rfl))
    all_goals try subst_vars
    all_goals (have v := (validR_iff.1 h1).1; have w1 := v.1; have w2 := v.2)
    all_goals try exact ⟨by assumption⟩
    all_goals first
      | (rw [scaleR, if_pos (of_decide_eq_true ‹_›)]; done)
      | (rw [scaleR, if_neg (of_decide_eq_false ‹_›)]; done)
  next => cases hF)

def T68 : OT := (.alt 0 (.alt 1 (.alt 2 (.alt 3 (.alt 4 (.alt 5 (.alt 6 (.alt 7 .fin .fin) .fin) (.alt 6 (.alt 5 (.alt 7 .fin .fin) .fin) .fin)) (.alt 6 (.alt 4 (.alt 5 (.alt 7 .fin .fin) .fin) .fin) .fin)) (.alt 6 (.alt 3 (.alt 4 (.alt 5 (.alt 7 .fin .fin) .fin) .fin) .fin) .fin)) (.alt 3 (.alt 2 (.alt 4 (.alt 5 (.alt 6 (.alt 7 .fin .fin) .fin) (.alt 6 (.alt 5 (.alt 7 .fin .fin) .fin) .fin)) (.alt 6 (.alt 4 (.alt 5 (.alt 7 .fin .fin) .fin) .fin) .fin)) (.alt 4 (.alt 2 (.alt 5 (.alt 6 (.alt 7 .fin .fin) .fin) (.alt 6 (.alt 5 (.alt 7 .fin .fin) .fin) .fin)) (.alt 6 (.alt 2 (.alt 5 (.alt 7 .fin .fin) .fin) .fin) .fin)) (.alt 6 (.alt 2 (.alt 4 (.alt 5 (.alt 7 .fin .fin) .fin) .fin) (.alt 4 (.alt 2 (.alt 5 (.alt 7 .fin .fin) .fin) .fin) .fin)) .fin))) (.alt 6 (.alt 2 (.alt 3 (.alt 4 (.alt 5 (.alt 7 .fin .fin) .fin) .fin) .fin) (.alt 3 (.alt 2 (.alt 4 (.alt 5 (.alt 7 .fin .fin) .fin) .fin) (.alt 4 (.alt 2 (.alt 5 (.alt 7 .fin .fin) .fin) .fin) .fin)) .fin)) .fin))) (.alt 3 (.alt 1 (.alt 2 (.alt 4 (.alt 5 (.alt 6 (.alt 7 .fin .fin) .fin) (.alt 6 (.alt 5 (.alt 7 .fin .fin) .fin) .fin)) (.alt 6 (.alt 4 (.alt 5 (.alt 7 .fin .fin) .fin) .fin) .fin)) (.alt 4 (.alt 2 (.alt 5 (.alt 6 (.alt 7 .fin .fin) .fin) (.alt 6 (.alt 5 (.alt 7 .fin .fin) .fin) .fin)) (.alt 6 (.alt 2 (.alt 5 (.alt 7 .fin .fin) .fin) .fin) .fin)) (.alt 6 (.alt 2 (.alt 4 (.alt 5 (.alt 7 .fin .fin) .fin) .fin) (.alt 4 (.alt 2 (.alt 5 (.alt 7 .fin .fin) .fin) .fin) .fin)) .fin))) (.alt 4 (.alt 1 (.alt 2 (.alt 5 (.alt 6 (.alt 7 .fin .fin) .fin) (.alt 6 (.alt 5 (.alt 7 .fin .fin) .fin) .fin)) (.alt 6 (.alt 2 (.alt 5 (.alt 7 .fin .fin) .fin) .fin) .fin)) (.alt 6 (.alt 1 (.alt 2 (.alt 5 (.alt 7 .fin .fin) .fin) .fin) .fin) .fin)) (.alt 6 (.alt 1 (.alt 2 (.alt 4 (.alt 5 (.alt 7 .fin .fin) .fin) .fin) (.alt 4 (.alt 2 (.alt 5 (.alt 7 .fin .fin) .fin) .fin) .fin)) (.alt 4 (.alt 1 (.alt 2 (.alt 5 (.alt 7 .fin .fin) .fin) .fin) .fin) .fin)) .fin))) (.alt 6 (.alt 1 (.alt 2 (.alt 3 (.alt 4 (.alt 5 (.alt 7 .fin .fin) .fin) .fin) .fin) (.alt 3 (.alt 2 (.alt 4 (.alt 5 (.alt 7 .fin .fin) .fin) .fin) (.alt 4 (.alt 2 (.alt 5 (.alt 7 .fin .fin) .fin) .fin) .fin)) .fin)) (.alt 3 (.alt 1 (.alt 2 (.alt 4 (.alt 5 (.alt 7 .fin .fin) .fin) .fin) (.alt 4 (.alt 2 (.alt 5 (.alt 7 .fin .fin) .fin) .fin) .fin)) (.alt 4 (.alt 1 (.alt 2 (.alt 5 (.alt 7 .fin .fin) .fin) .fin) .fin) .fin)) .fin)) .fin))) (.alt 1 (.alt 0 (.alt 2 (.alt 3 (.alt 4 (.alt 5 (.alt 6 (.alt 7 .fin .fin) .fin) (.alt 6 (.alt 5 (.alt 7 .fin .fin) .fin) .fin)) (.alt 6 (.alt 4 (.alt 5 (.alt 7 .fin .fin) .fin) .fin) .fin)) (.alt 6 (.alt 3 (.alt 4 (.alt 5 (.alt 7 .fin .fin) .fin) .fin) .fin) .fin)) (.alt 3 (.alt 2 (.alt 4 (.alt 5 (.alt 6 (.alt 7 .fin .fin) .fin) (.alt 6 (.alt 5 (.alt 7 .fin .fin) .fin) .fin)) (.alt 6 (.alt 4 (.alt 5 (.alt 7 .fin .fin) .fin) .fin) .fin)) (.alt 4 (.alt 2 (.alt 5 (.alt 6 (.alt 7 .fin .fin) .fin) (.alt 6 (.alt 5 (.alt 7 .fin .fin) .fin) .fin)) (.alt 6 (.alt 2 (.alt 5 (.alt 7 .fin .fin) .fin) .fin) .fin)) (.alt 6 (.alt 2 (.alt 4 (.alt 5 (.alt 7 .fin .fin) .fin) .fin) (.alt 4 (.alt 2 (.alt 5 (.alt 7 .fin .fin) .fin) .fin) .fin)) .fin))) (.alt 6 (.alt 2 (.alt 3 (.alt 4 (.alt 5 (.alt 7 .fin .fin) .fin) .fin) .fin) (.alt 3 (.alt 2 (.alt 4 (.alt 5 (.alt 7 .fin .fin) .fin) .fin) (.alt 4 (.alt 2 (.alt 5 (.alt 7 .fin .fin) .fin) .fin) .fin)) .fin)) .fin))) (.alt 2 (.alt 0 (.alt 3 (.alt 4 (.alt 5 (.alt 6 (.alt 7 .fin .fin) .fin) (.alt 6 (.alt 5 (.alt 7 .fin .fin) .fin) .fin)) (.alt 6 (.alt 4 (.alt 5 (.alt 7 .fin .fin) .fin) .fin) .fin)) (.alt 6 (.alt 3 (.alt 4 (.alt 5 (.alt 7 .fin .fin) .fin) .fin) .fin) .fin)) (.alt 3 (.alt 0 (.alt 4 (.alt 5 (.alt 6 (.alt 7 .fin .fin) .fin) (.alt 6 (.alt 5 (.alt 7 .fin .fin) .fin) .fin)) (.alt 6 (.alt 4 (.alt 5 (.alt 7 .fin .fin) .fin) .fin) .fin)) (.alt 4 (.alt 0 (.alt 5 (.alt 6 (.alt 7 .fin .fin) .fin) (.alt 6 (.alt 5 (.alt 7 .fin .fin) .fin) .fin)) (.alt 5 (.alt 0 (.alt 6 (.alt 7 .fin .fin) .fin) .fin) .fin)) .fin)) .fin)) (.alt 3 (.alt 0 (.alt 2 (.alt 4 (.alt 5 (.alt 6 (.alt 7 .fin .fin) .fin) (.alt 6 (.alt 5 (.alt 7 .fin .fin) .fin) .fin)) (.alt 6 (.alt 4 (.alt 5 (.alt 7 .fin .fin) .fin) .fin) .fin)) (.alt 4 (.alt 2 (.alt 5 (.alt 6 (.alt 7 .fin .fin) .fin) (.alt 6 (.alt 5 (.alt 7 .fin .fin) .fin) .fin)) (.alt 6 (.alt 2 (.alt 5 (.alt 7 .fin .fin) .fin) .fin) .fin)) (.alt 6 (.alt 2 (.alt 4 (.alt 5 (.alt 7 .fin .fin) .fin) .fin) (.alt 4 (.alt 2 (.alt 5 (.alt 7 .fin .fin) .fin) .fin) .fin)) .fin))) (.alt 2 (.alt 0 (.alt 4 (.alt 5 (.alt 6 (.alt 7 .fin .fin) .fin) (.alt 6 (.alt 5 (.alt 7 .fin .fin) .fin) .fin)) (.alt 6 (.alt 4 (.alt 5 (.alt 7 .fin .fin) .fin) .fin) .fin)) (.alt 4 (.alt 0 (.alt 5 (.alt 6 (.alt 7 .fin .fin) .fin) (.alt 6 (.alt 5 (.alt 7 .fin .fin) .fin) .fin)) (.alt 5 (.alt 0 (.alt 6 (.alt 7 .fin .fin) .fin) .fin) .fin)) .fin)) (.alt 4 (.alt 0 (.alt 2 (.alt 5 (.alt 6 (.alt 7 .fin .fin) .fin) (.alt 6 (.alt 5 (.alt 7 .fin .fin) .fin) .fin)) (.alt 6 (.alt 2 (.alt 5 (.alt 7 .fin .fin) .fin) .fin) .fin)) (.alt 2 (.alt 0 (.alt 5 (.alt 6 (.alt 7 .fin .fin) .fin) (.alt 6 (.alt 5 (.alt 7 .fin .fin) .fin) .fin)) (.alt 5 (.alt 0 (.alt 6 (.alt 7 .fin .fin) .fin) .fin) .fin)) .fin)) .fin))) .fin))) (.alt 3 (.alt 0 (.alt 1 (.alt 2 (.alt 4 (.alt 5 (.alt 6 (.alt 7 .fin .fin) .fin) (.alt 6 (.alt 5 (.alt 7 .fin .fin) .fin) .fin)) (.alt 6 (.alt 4 (.alt 5 (.alt 7 .fin .fin) .fin) .fin) .fin)) (.alt 4 (.alt 2 (.alt 5 (.alt 6 (.alt 7 .fin .fin) .fin) (.alt 6 (.alt 5 (.alt 7 .fin .fin) .fin) .fin)) (.alt 6 (.alt 2 (.alt 5 (.alt 7 .fin .fin) .fin) .fin) .fin)) (.alt 6 (.alt 2 (.alt 4 (.alt 5 (.alt 7 .fin .fin) .fin) .fin) (.alt 4 (.alt 2 (.alt 5 (.alt 7 .fin .fin) .fin) .fin) .fin)) .fin))) (.alt 4 (.alt 1 (.alt 2 (.alt 5 (.alt 6 (.alt 7 .fin .fin) .fin) (.alt 6 (.alt 5 (.alt 7 .fin .fin) .fin) .fin)) (.alt 6 (.alt 2 (.alt 5 (.alt 7 .fin .fin) .fin) .fin) .fin)) (.alt 6 (.alt 1 (.alt 2 (.alt 5 (.alt 7 .fin .fin) .fin) .fin) .fin) .fin)) (.alt 6 (.alt 1 (.alt 2 (.alt 4 (.alt 5 (.alt 7 .fin .fin) .fin) .fin) (.alt 4 (.alt 2 (.alt 5 (.alt 7 .fin .fin) .fin) .fin) .fin)) (.alt 4 (.alt 1 (.alt 2 (.alt 5 (.alt 7 .fin .fin) .fin) .fin) .fin) .fin)) .fin))) (.alt 1 (.alt 0 (.alt 2 (.alt 4 (.alt 5 (.alt 6 (.alt 7 .fin .fin) .fin) (.alt 6 (.alt 5 (.alt 7 .fin .fin) .fin) .fin)) (.alt 6 (.alt 4 (.alt 5 (.alt 7 .fin .fin) .fin) .fin) .fin)) (.alt 4 (.alt 2 (.alt 5 (.alt 6 (.alt 7 .fin .fin) .fin) (.alt 6 (.alt 5 (.alt 7 .fin .fin) .fin) .fin)) (.alt 6 (.alt 2 (.alt 5 (.alt 7 .fin .fin) .fin) .fin) .fin)) (.alt 6 (.alt 2 (.alt 4 (.alt 5 (.alt 7 .fin .fin) .fin) .fin) (.alt 4 (.alt 2 (.alt 5 (.alt 7 .fin .fin) .fin) .fin) .fin)) .fin))) (.alt 2 (.alt 0 (.alt 4 (.alt 5 (.alt 6 (.alt 7 .fin .fin) .fin) (.alt 6 (.alt 5 (.alt 7 .fin .fin) .fin) .fin)) (.alt 6 (.alt 4 (.alt 5 (.alt 7 .fin .fin) .fin) .fin) .fin)) (.alt 4 (.alt 0 (.alt 5 (.alt 6 (.alt 7 .fin .fin) .fin) (.alt 6 (.alt 5 (.alt 7 .fin .fin) .fin) .fin)) (.alt 5 (.alt 0 (.alt 6 (.alt 7 .fin .fin) .fin) .fin) .fin)) .fin)) (.alt 4 (.alt 0 (.alt 2 (.alt 5 (.alt 6 (.alt 7 .fin .fin) .fin) (.alt 6 (.alt 5 (.alt 7 .fin .fin) .fin) .fin)) (.alt 6 (.alt 2 (.alt 5 (.alt 7 .fin .fin) .fin) .fin) .fin)) (.alt 2 (.alt 0 (.alt 5 (.alt 6 (.alt 7 .fin .fin) .fin) (.alt 6 (.alt 5 (.alt 7 .fin .fin) .fin) .fin)) (.alt 5 (.alt 0 (.alt 6 (.alt 7 .fin .fin) .fin) .fin) .fin)) .fin)) .fin))) (.alt 4 (.alt 0 (.alt 1 (.alt 2 (.alt 5 (.alt 6 (.alt 7 .fin .fin) .fin) (.alt 6 (.alt 5 (.alt 7 .fin .fin) .fin) .fin)) (.alt 6 (.alt 2 (.alt 5 (.alt 7 .fin .fin) .fin) .fin) .fin)) (.alt 6 (.alt 1 (.alt 2 (.alt 5 (.alt 7 .fin .fin) .fin) .fin) .fin) .fin)) (.alt 1 (.alt 0 (.alt 2 (.alt 5 (.alt 6 (.alt 7 .fin .fin) .fin) (.alt 6 (.alt 5 (.alt 7 .fin .fin) .fin) .fin)) (.alt 6 (.alt 2 (.alt 5 (.alt 7 .fin .fin) .fin) .fin) .fin)) (.alt 2 (.alt 0 (.alt 5 (.alt 6 (.alt 7 .fin .fin) .fin) (.alt 6 (.alt 5 (.alt 7 .fin .fin) .fin) .fin)) (.alt 5 (.alt 0 (.alt 6 (.alt 7 .fin .fin) .fin) .fin) .fin)) .fin)) .fin)) .fin))) .fin)))
def c68 : Ctr := .fn fun args _ => match args with
  | [.agg [.v (.int .i64 a), .v (.int .i64 b), .v (.int .i64 c), .v (.int .i64 d)]] => some ([validR a b c d = true], .tup [.agg [vI (upI a b), vI (c / d)], .a (.v (.bool (decide (upI a b ≤ c / d))))])
  | _ => none
set_option maxHeartbeats 4000000 in
theorem c68_ok : Ctr.Ok Tryd.prog Γ 68 c68 := Ctr.fn_ok0 (prog_okT RG_ok true [] [(2, T68)] 0) Tryd.func68 rfl rfl rfl (by
  intro args q t hF hq
  split at hF
  next a b c d =>
    obtain ⟨rfl, rfl⟩ := Prod.mk.inj (Option.some.inj hF); clear hF
    obtain ⟨h1, -⟩ := hq
    refine ⟨rfl, rfl, ?_⟩
    repeat' ((conv => whnf); (first | apply And.intro | intro _))
    all_goals try (conv => whnf)
    all_goals try (first | rfl | trivial | exact LexB.mk (by kernel_rfl) | exact LexG.mk (by kernel_rfl) | exact LexT.mk (by kernel_rfl) | exact Forced.mk (by kernel_rfl))
    all_goals try subst_vars
    all_goals (have hb := validR_bound h1
               have f1 := div_fits (n := 0 - a) (show 0 < b by omega) (by omega)
               have f2 := div_fits (n := c) (show 0 < d by omega) (by omega)
               have e1 : 0 - (0 - a) / b = upI a b := by rw [upI, Int.zero_sub, Int.zero_sub])
    all_goals first
      | rfl
      | exact ⟨by omega⟩
      | exact ⟨by simp only [inR]; omega⟩
  next => cases hF)

end Go.Proofs.YtoggkjobihlohaaDoor
