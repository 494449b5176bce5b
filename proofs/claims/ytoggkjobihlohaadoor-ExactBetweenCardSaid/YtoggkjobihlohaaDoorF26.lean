/-
  Chapter 1: the intervals' small functions: ranges, greater, Meet, Hull, Whole, and the specification's.
-/
import Derived.Test.YtoggkjobihlohaaDoorF21
import Derived.Test.YtoggkjobihlohaaDoorP7
namespace Go.Proofs.YtoggkjobihlohaaDoor
open Go Go.Sx
set_option maxRecDepth 100000
variable {Γ : Glob}

/-- The lesser one of two numbers (the first, if they are alike). -/
def leN (n d m e : Int) : Int × Int := if 0 < cmpI n d m e then (m, e) else (n, d)
/-- The greater one of two numbers (the second, if they are alike). -/
def grN (n d m e : Int) : Int × Int := if 0 < cmpI n d m e then (n, d) else (m, e)
theorem leN_gt {n d m e : Int} (h : decide (cmpI n d m e > 0) = true) : leN n d m e = (m, e) := if_pos (of_decide_eq_true h)
theorem leN_le {n d m e : Int} (h : decide (cmpI n d m e > 0) = false) : leN n d m e = (n, d) := if_neg (of_decide_eq_false h)
theorem grN_gt {n d m e : Int} (h : decide (cmpI n d m e > 0) = true) : grN n d m e = (n, d) := if_pos (of_decide_eq_true h)
theorem grN_le {n d m e : Int} (h : decide (cmpI n d m e > 0) = false) : grN n d m e = (m, e) := if_neg (of_decide_eq_false h)
theorem cmp_gt (n d m e : Int) : 0 < cmpI n d m e ↔ m * d < n * e := by
  have := cmp_nonpos n d m e
  omega

def c98 : Ctr := .fn fun args _ => match args with
  | [.agg [.v (.int .i64 a), .v (.int .i64 b), .v (.int .i64 c), .v (.int .i64 d)], .agg [.v (.int .i64 k), .v (.int .i64 l), .v (.int .i64 m), .v (.int .i64 n)]] => some ([inR .i64 a, inR .i64 b, inR .i64 c, inR .i64 d, inR .i64 k, inR .i64 l, inR .i64 m, inR .i64 n], .a (vI (if (validR a b c d && validR k l m n) = true then 0 else 1)))
  | _ => none
theorem c98_ok : Ctr.Ok Tryd.prog Γ 98 c98 := Ctr.fn_ok0 (prog_ok L10_ok true) Tryd.func98 rfl rfl rfl (by
  intro args q t hF hq
  split at hF
  next a b c d k l m n =>
    obtain ⟨rfl, rfl⟩ := Prod.mk.inj (Option.some.inj hF); clear hF
    obtain ⟨h1, h2, h3, h4, h5, h6, h7, h8, -⟩ := hq
    refine ⟨rfl, rfl, ?_⟩
    repeat' ((conv => whnf); (first | apply And.intro | intro _))
    all_goals try (conv => whnf)
    all_goals try (first | rfl | trivial | exact LexB.mk (by kernel_rfl) | exact LexG.mk (by kernel_rfl) | exact LexT.mk (by kernel_rfl) | exact Forced.mk (by kernel_rfl))
    all_goals try subst_vars
    all_goals try exact ⟨by assumption⟩
    all_goals try simp only [Bool.not_eq_true', Bool.not_eq_false'] at *
    all_goals try (simp_all; done)
  next => cases hF)

def T99 : OT := (.alt 0 (.alt 1 (.alt 2 (.alt 3 .fin .fin) .fin) (.alt 2 (.alt 1 (.alt 3 .fin .fin) .fin) .fin)) (.alt 1 (.alt 0 (.alt 2 (.alt 3 .fin .fin) .fin) .fin) .fin))
def c99 : Ctr := .fn fun args _ => match args with
  | [.agg [.v (.int .i64 n), .v (.int .i64 d)], .agg [.v (.int .i64 m), .v (.int .i64 e)], .a (.fn f [])] => (match Nat.beq f 84 with
    | true => some ([inR .i64 n, inR .i64 d, inR .i64 m, inR .i64 e, inR .i64 (n * e), inR .i64 (m * d)], .tup [.agg [vI (leN n d m e).1, vI (leN n d m e).2], .agg [vI (grN n d m e).1, vI (grN n d m e).2]])
    | false => none)
  | _ => none
theorem c99_ok : Ctr.Ok Tryd.prog Γ 99 c99 := Ctr.fn_ok1 (prog_okT L10_ok true [] [(2, T99), (3, T99)] 0) Tryd.func99 rfl rfl rfl (by
  intro args rg q t hF hq
  split at hF
  next n d m e f =>
    split at hF
    next hf =>
      obtain ⟨rfl, rfl⟩ := Prod.mk.inj (Option.some.inj hF); clear hF
      obtain rfl := Nat.eq_of_beq_eq_true hf
      obtain ⟨h1, h2, h3, h4, h5, h6, -⟩ := hq
      refine ⟨rfl, [], [.agg [.v (.int .i64 n), .v (.int .i64 d)], .agg [.v (.int .i64 m), .v (.int .i64 e)], .a (.fn 84 [])], [], ⟨rfl, rfl, fun i g hg => (by simp at hg), rfl⟩, ?_⟩
      repeat' ((conv => whnf); (first | apply And.intro | intro _))
      all_goals try (conv => whnf)
      all_goals try (first | rfl | trivial | exact LexB.mk (by kernel_rfl) | exact LexG.mk (by kernel_rfl) | exact LexT.mk (by kernel_rfl) | exact Forced.mk (by kernel_rfl))
      all_goals try subst_vars
      all_goals try exact ⟨by assumption⟩
      all_goals first
        | (rw [leN_gt ‹_›]; done)
        | (rw [leN_le ‹_›]; done)
        | (rw [grN_gt ‹_›]; done)
        | (rw [grN_le ‹_›]; done)
    next => cases hF
  next => cases hF)


/-- Meet of two intervals that are valid. -/
def meetT (a b c d k l m n : Int) : Int × Int × Int × Int × Int :=
  if cmpI (grN a b k l).1 (grN a b k l).2 (leN c d m n).1 (leN c d m n).2 > 0 then (0, 0, 0, 0, 5) else ((grN a b k l).1, (grN a b k l).2, (leN c d m n).1, (leN c d m n).2, 0)
def hullT (a b c d k l m n : Int) : Int × Int × Int × Int × Int := ((leN a b k l).1, (leN a b k l).2, (grN c d m n).1, (grN c d m n).2, 0)
def wholeT (a b c d : Int) : Int × Int × Int := if c / d < upI a b then (0, 0, 5) else (upI a b, c / d, 0)
def twoR (T : Int → Int → Int → Int → Int → Int → Int → Int → Int × Int × Int × Int × Int) (a b c d k l m n : Int) : Int × Int × Int × Int × Int :=
  if (validR a b c d && validR k l m n) = true then T a b c d k l m n else (0, 0, 0, 0, 1)
theorem twoR_bad {T : Int → Int → Int → Int → Int → Int → Int → Int → Int × Int × Int × Int × Int} {a b c d k l m n : Int} (h : (validR a b c d && validR k l m n) = false) : twoR T a b c d k l m n = (0, 0, 0, 0, 1) := by simp only [twoR, h, Bool.false_eq_true, if_false]
theorem twoR_good {T : Int → Int → Int → Int → Int → Int → Int → Int → Int × Int × Int × Int × Int} {a b c d k l m n : Int} (h : (validR a b c d && validR k l m n) = true) : twoR T a b c d k l m n = T a b c d k l m n := if_pos h
def wholeX (a b c d : Int) : Int × Int × Int := if validR a b c d = true then wholeT a b c d else (0, 0, 1)
theorem wholeX_bad {a b c d : Int} (h : validR a b c d = false) : wholeX a b c d = (0, 0, 1) := by simp only [wholeX, h, Bool.false_eq_true, if_false]
theorem wholeX_good {a b c d : Int} (h : validR a b c d = true) : wholeX a b c d = wholeT a b c d := if_pos h
theorem leN_valid {n d m e : Int} (ha : valid n d = true) (hb : valid m e = true) : valid (leN n d m e).1 (leN n d m e).2 = true := by unfold leN; split <;> assumption
theorem grN_valid {n d m e : Int} (ha : valid n d = true) (hb : valid m e = true) : valid (grN n d m e).1 (grN n d m e).2 = true := by unfold grN; split <;> assumption
theorem valid_mul {n d m e : Int} (ha : valid n d = true) (hb : valid m e = true) : inR .i64 (n * e) ∧ inR .i64 (m * d) := by
  have v1 := valid_iff.1 ha; have v2 := valid_iff.1 hb
  exact ⟨mul_fits (by omega) (by omega), mul_fits (by omega) (by omega)⟩
/-- What two valid intervals' functions look at. -/
structure TwoFacts (a b c d k l m n : Int) : Prop where
  f1 : inR .i64 (a * l)
  f2 : inR .i64 (k * b)
  f3 : inR .i64 (c * n)
  f4 : inR .i64 (m * d)
  f5 : inR .i64 ((grN a b k l).1 * (leN c d m n).2)
  f6 : inR .i64 ((leN c d m n).1 * (grN a b k l).2)
theorem twoFacts {a b c d k l m n : Int} (h : (validR a b c d && validR k l m n) = true) : TwoFacts a b c d k l m n := by
  have h' := Bool.and_eq_true_iff.1 h
  have v := (validR_iff.1 h'.1).1; have v' := (validR_iff.1 h'.2).1
  exact ⟨(valid_mul v.1 v'.1).1, (valid_mul v.1 v'.1).2, (valid_mul v.2 v'.2).1, (valid_mul v.2 v'.2).2, (valid_mul (grN_valid v.1 v'.1) (leN_valid v.2 v'.2)).1, (valid_mul (grN_valid v.1 v'.1) (leN_valid v.2 v'.2)).2⟩
def LG : List (Nat × Ctr) := (98, c98) :: (99, c99) :: L10
theorem LG_ok : LOk Tryd.prog Γ LG := (L10_ok.cons (FnOk.of Tryd.func99 rfl rfl) c99_ok).cons (FnOk.of Tryd.func98 rfl rfl) c98_ok

def c58 : Ctr := .fn fun args _ => match args with
  | [.agg [.v (.int .i64 a), .v (.int .i64 b), .v (.int .i64 c), .v (.int .i64 d)], .agg [.v (.int .i64 k), .v (.int .i64 l), .v (.int .i64 m), .v (.int .i64 n)]] => some ([inR .i64 a, inR .i64 b, inR .i64 c, inR .i64 d, inR .i64 k, inR .i64 l, inR .i64 m, inR .i64 n], .tup [.agg [vI (twoR meetT a b c d k l m n).1, vI (twoR meetT a b c d k l m n).2.1, vI (twoR meetT a b c d k l m n).2.2.1, vI (twoR meetT a b c d k l m n).2.2.2.1], .a (vI (twoR meetT a b c d k l m n).2.2.2.2)])
  | _ => none
theorem c58_ok : Ctr.Ok Tryd.prog Γ 58 c58 := Ctr.fn_ok0 (prog_ok LG_ok true) Tryd.func58 rfl rfl rfl (by
  intro args q t hF hq
  split at hF
  next a b c d k l m n =>
    obtain ⟨rfl, rfl⟩ := Prod.mk.inj (Option.some.inj hF); clear hF
    obtain ⟨h1, h2, h3, h4, h5, h6, h7, h8, -⟩ := hq
    refine ⟨rfl, rfl, ?_⟩
    repeat' ((conv => whnf); (first | apply And.intro | intro _))
    all_goals try (conv => whnf)
    all_goals try (first | rfl | trivial | exact LexB.mk (by kernel_rfl) | exact LexG.mk (by kernel_rfl) | exact LexT.mk (by kernel_rfl) | exact Forced.mk (by kernel_rfl))
    all_goals try subst_vars
    all_goals try exact ⟨by assumption⟩
    all_goals first
      | (have hv : (validR a b c d && validR k l m n) = false := by simpa using ‹((if (validR a b c d && validR k l m n) = true then (0 : Int) else 1) != 0) = true›
         simp only [hv, twoR_bad hv]; done)
      | (have hv : (validR a b c d && validR k l m n) = false := by simpa using ‹((if (validR a b c d && validR k l m n) = true then (0 : Int) else 1) != 0) = true›
         rw [twoR_bad hv, if_neg (by rw [hv]; decide)]; done)
      | (have hv : (validR a b c d && validR k l m n) = true := by simpa using ‹((if (validR a b c d && validR k l m n) = true then (0 : Int) else 1) != 0) = false›
         obtain ⟨f1, f2, f3, f4, f5, f6⟩ := twoFacts hv
         first
           | exact ⟨by assumption⟩
           | (rw [twoR_good hv]; rfl)
           | (rw [twoR_good hv, meetT, if_pos (of_decide_eq_true ‹_›)]; done)
           | (rw [twoR_good hv, meetT, if_neg (of_decide_eq_false ‹_›)]; done))
  next => cases hF)

def c59 : Ctr := .fn fun args _ => match args with
  | [.agg [.v (.int .i64 a), .v (.int .i64 b), .v (.int .i64 c), .v (.int .i64 d)], .agg [.v (.int .i64 k), .v (.int .i64 l), .v (.int .i64 m), .v (.int .i64 n)]] => some ([inR .i64 a, inR .i64 b, inR .i64 c, inR .i64 d, inR .i64 k, inR .i64 l, inR .i64 m, inR .i64 n], .tup [.agg [vI (twoR hullT a b c d k l m n).1, vI (twoR hullT a b c d k l m n).2.1, vI (twoR hullT a b c d k l m n).2.2.1, vI (twoR hullT a b c d k l m n).2.2.2.1], .a (vI (twoR hullT a b c d k l m n).2.2.2.2)])
  | _ => none
theorem c59_ok : Ctr.Ok Tryd.prog Γ 59 c59 := Ctr.fn_ok0 (prog_ok LG_ok true) Tryd.func59 rfl rfl rfl (by
  intro args q t hF hq
  split at hF
  next a b c d k l m n =>
    obtain ⟨rfl, rfl⟩ := Prod.mk.inj (Option.some.inj hF); clear hF
    obtain ⟨h1, h2, h3, h4, h5, h6, h7, h8, -⟩ := hq
    refine ⟨rfl, rfl, ?_⟩
    repeat' ((conv => whnf); (first | apply And.intro | intro _))
    all_goals try (conv => whnf)
    all_goals try (first | rfl | trivial | exact LexB.mk (by kernel_rfl) | exact LexG.mk (by kernel_rfl) | exact LexT.mk (by kernel_rfl) | exact Forced.mk (by kernel_rfl))
    all_goals try subst_vars
    all_goals try exact ⟨by assumption⟩
    all_goals first
      | (have hv : (validR a b c d && validR k l m n) = false := by simpa using ‹((if (validR a b c d && validR k l m n) = true then (0 : Int) else 1) != 0) = true›
         simp only [hv, twoR_bad hv]; done)
      | (have hv : (validR a b c d && validR k l m n) = false := by simpa using ‹((if (validR a b c d && validR k l m n) = true then (0 : Int) else 1) != 0) = true›
         rw [twoR_bad hv, if_neg (by rw [hv]; decide)]; done)
      | (have hv : (validR a b c d && validR k l m n) = true := by simpa using ‹((if (validR a b c d && validR k l m n) = true then (0 : Int) else 1) != 0) = false›
         obtain ⟨f1, f2, f3, f4, f5, f6⟩ := twoFacts hv
         first
           | exact ⟨by assumption⟩
           | (rw [twoR_good hv]; rfl)
           | (rw [twoR_good hv, meetT, if_pos (of_decide_eq_true ‹_›)]; done)
           | (rw [twoR_good hv, meetT, if_neg (of_decide_eq_false ‹_›)]; done))
  next => cases hF)

def c62 : Ctr := .fn fun args _ => match args with
  | [.agg [.v (.int .i64 a), .v (.int .i64 b), .v (.int .i64 c), .v (.int .i64 d)]] => some ([inR .i64 a, inR .i64 b, inR .i64 c, inR .i64 d], .tup [.agg [vI (wholeX a b c d).1, vI (wholeX a b c d).2.1], .a (vI (wholeX a b c d).2.2)])
  | _ => none
theorem c62_ok : Ctr.Ok Tryd.prog Γ 62 c62 := Ctr.fn_ok0 (prog_ok LG_ok true) Tryd.func62 rfl rfl rfl (by
  intro args q t hF hq
  split at hF
  next a b c d =>
    obtain ⟨rfl, rfl⟩ := Prod.mk.inj (Option.some.inj hF); clear hF
    obtain ⟨h1, h2, h3, h4, -⟩ := hq
    refine ⟨rfl, rfl, ?_⟩
    repeat' ((conv => whnf); (first | apply And.intro | intro _))
    all_goals try (conv => whnf)
    all_goals try (first | rfl | trivial | exact LexB.mk (by kernel_rfl) | exact LexG.mk (by kernel_rfl) | exact LexT.mk (by kernel_rfl) | exact Forced.mk (by kernel_rfl))
    all_goals try subst_vars
    all_goals try exact ⟨by assumption⟩
    all_goals try simp only [Bool.not_eq_true', Bool.not_eq_false'] at *
    all_goals try (rw [wholeX_bad ‹_›]; done)
    all_goals (have hb := validR_bound ‹validR a b c d = true›
               have f1 := div_fits (n := 0 - a) (show 0 < b by omega) (by omega)
               have f2 := div_fits (n := c) (show 0 < d by omega) (by omega)
               have e1 : 0 - (0 - a) / b = upI a b := by rw [upI, Int.zero_sub, Int.zero_sub]
               first
                 | exact ⟨by omega⟩
                 | exact ⟨by simp only [inR]; omega⟩
                 | (rw [wholeX_good ‹_›, wholeT, if_pos (by simp only [decide_eq_true_eq, e1] at *; omega)]; done)
                 | (rw [wholeX_good ‹_›, wholeT, if_neg (by simp only [decide_eq_false_iff_not, e1] at *; omega)]; done)
                 | (rw [wholeX_good ‹_›, wholeT, if_neg (by simp only [decide_eq_false_iff_not, e1] at *; omega), e1]; done))
  next => cases hF)

end Go.Proofs.YtoggkjobihlohaaDoor
