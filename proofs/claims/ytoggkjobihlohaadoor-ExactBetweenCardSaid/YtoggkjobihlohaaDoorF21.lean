/-
  Chapter 1: sums and their like in the reference; ExactSums, walked.
-/
import Derived.Test.YtoggkjobihlohaaDoorF20
namespace Go.Proofs.YtoggkjobihlohaaDoor
open Go Go.Sx
set_option maxRecDepth 100000
variable {Γ : Glob}

theorem valid_neg {n d : Int} (h : valid n d = true) : valid (0 - n) d = true := by
  have v := valid_iff.1 h
  refine valid_iff.2 ⟨by omega, by omega, by omega, by omega, ?_⟩
  rw [Int.zero_sub, Int.neg_gcd]; exact v.2.2.2.2
theorem low_flip (n d : Int) (hd : d ≠ 0) : lowT (0 - n) (0 - d) = lowT n d := by
  rw [Int.zero_sub, Int.zero_sub]
  by_cases h : n = 0
  · subst h; exact low_neg0 d
  · exact low_neg n d h hd
theorem div_flip {n d m e : Int} (hm : m < 0) (hd : 0 < d) : lowT (0 - n * e) (d * (0 - m)) = divT n d m e := by
  have e1 : d * (0 - m) = 0 - d * m := by rw [Int.mul_sub, Int.mul_zero]
  have e2 : d * m ≠ 0 := fun h => by rcases Int.mul_eq_zero.1 h with h | h <;> omega
  rw [divT_ne (by omega), e1, low_flip _ _ e2]

def c49 : Ctr := .fn fun args _ => match args with
  | [.agg [.v (.int .i64 n), .v (.int .i64 d)]] => some ([inR .i64 (0 - n)], .agg [vI (0 - n), vI d])
  | _ => none
theorem c49_ok : Ctr.Ok Tryd.prog Γ 49 c49 := Ctr.fn_ok0 (prog_ok L0_ok true) Tryd.func49 rfl rfl rfl (by
  intro args q t hF hq
  split at hF
  next n d =>
    obtain ⟨rfl, rfl⟩ := Prod.mk.inj (Option.some.inj hF); clear hF
    obtain ⟨h1, -⟩ := hq
    refine ⟨rfl, rfl, ?_⟩
    repeat' ((conv => whnf); (first | apply And.intro | intro _))
    all_goals try (conv => whnf)
    all_goals try (first | rfl | trivial | exact LexB.mk (by kernel_rfl) | exact LexG.mk (by kernel_rfl) | exact Forced.mk (by kernel_rfl))
    all_goals try subst_vars
    all_goals first | exact ⟨by assumption⟩ | rfl
  next => cases hF)

def c50 : Ctr := .fn fun args _ => match args with
  | [.agg [.v (.int .i64 n), .v (.int .i64 d)], .agg [.v (.int .i64 m), .v (.int .i64 e)]] => some ([inR .i64 (n * e), inR .i64 (m * d)], .a (vI (cmpI n d m e)))
  | _ => none
theorem c50_ok : Ctr.Ok Tryd.prog Γ 50 c50 := Ctr.fn_ok0 (prog_ok (L0_ok.cons (FnOk.of Tryd.func81 rfl rfl) c81_ok) true) Tryd.func50 rfl rfl rfl (by
  intro args q t hF hq
  split at hF
  next n d m e =>
    obtain ⟨rfl, rfl⟩ := Prod.mk.inj (Option.some.inj hF); clear hF
    obtain ⟨h1, h2, -⟩ := hq
    refine ⟨rfl, rfl, ?_⟩
    repeat' ((conv => whnf); (first | apply And.intro | intro _))
    all_goals try (conv => whnf)
    all_goals try (first | rfl | trivial | exact LexB.mk (by kernel_rfl) | exact LexG.mk (by kernel_rfl) | exact Forced.mk (by kernel_rfl))
    all_goals try subst_vars
    all_goals try exact ⟨by assumption⟩
    all_goals simp only [decide_eq_true_eq, decide_eq_false_iff_not] at *
    all_goals first
      | (rw [cmpI, if_pos ‹_›]; done)
      | (rw [cmpI, if_neg ‹_›, if_pos ‹_›]; done)
      | (rw [cmpI, if_neg ‹_›, if_neg ‹_›]; done)
  next => cases hF)

def R9 : List (Nat × Ctr) := (75, c75) :: (81, c81) :: R1
theorem R9_ok : LOk Tryd.prog Γ R9 := (R1_ok.cons (FnOk.of Tryd.func81 rfl rfl) c81_ok).cons (FnOk.of Tryd.func75 rfl rfl) c75_ok

def c51 : Ctr := .fn fun args _ => match args with
  | [.agg [.v (.int .i64 n), .v (.int .i64 d)], .agg [.v (.int .i64 m), .v (.int .i64 e)]] => some ([valid n d = true, valid m e = true], .agg [vI (addT n d m e).1, vI (addT n d m e).2.1, vI (addT n d m e).2.2])
  | _ => none
theorem c51_ok : Ctr.Ok Tryd.prog Γ 51 c51 := Ctr.fn_ok0 (prog_ok R9_ok true) Tryd.func51 rfl rfl rfl (by
  intro args q t hF hq
  split at hF
  next n d m e =>
    obtain ⟨rfl, rfl⟩ := Prod.mk.inj (Option.some.inj hF); clear hF
    obtain ⟨h1, h2, -⟩ := hq
    refine ⟨rfl, rfl, ?_⟩
    repeat' ((conv => whnf); (first | apply And.intro | intro _))
    all_goals try (conv => whnf)
    all_goals try (first | rfl | trivial | exact LexB.mk (by kernel_rfl) | exact LexG.mk (by kernel_rfl) | exact Forced.mk (by kernel_rfl))
    all_goals try subst_vars
    all_goals (have F := twoFit h1 h2; have f1 := F.ne; have f2 := F.md; have f3 := F.nm; have f4 := F.dm; have f5 := F.de; have f6 := F.a; have f7 := F.b; have f8 := F.c; have f9 := F.f)
    all_goals first
      | exact ⟨by simp only [inR]; omega⟩
      | exact ⟨by omega⟩
      | rfl
  next => cases hF)

def c53 : Ctr := .fn fun args _ => match args with
  | [.agg [.v (.int .i64 n), .v (.int .i64 d)], .agg [.v (.int .i64 m), .v (.int .i64 e)]] => some ([valid n d = true, valid m e = true], .agg [vI (mulT n d m e).1, vI (mulT n d m e).2.1, vI (mulT n d m e).2.2])
  | _ => none
theorem c53_ok : Ctr.Ok Tryd.prog Γ 53 c53 := Ctr.fn_ok0 (prog_ok R9_ok true) Tryd.func53 rfl rfl rfl (by
  intro args q t hF hq
  split at hF
  next n d m e =>
    obtain ⟨rfl, rfl⟩ := Prod.mk.inj (Option.some.inj hF); clear hF
    obtain ⟨h1, h2, -⟩ := hq
    refine ⟨rfl, rfl, ?_⟩
    repeat' ((conv => whnf); (first | apply And.intro | intro _))
    all_goals try (conv => whnf)
    all_goals try (first | rfl | trivial | exact LexB.mk (by kernel_rfl) | exact LexG.mk (by kernel_rfl) | exact Forced.mk (by kernel_rfl))
    all_goals try subst_vars
    all_goals (have F := twoFit h1 h2; have f1 := F.ne; have f2 := F.md; have f3 := F.nm; have f4 := F.dm; have f5 := F.de; have f6 := F.a; have f7 := F.b; have f8 := F.c; have f9 := F.f)
    all_goals first
      | exact ⟨by simp only [inR]; omega⟩
      | exact ⟨by omega⟩
      | rfl
  next => cases hF)

def c55 : Ctr := .fn fun args _ => match args with
  | [.agg [.v (.int .i64 n), .v (.int .i64 d)], .agg [.v (.int .i64 m), .v (.int .i64 e)]] => some ([valid n d = true, valid m e = true], .agg [vI (medT n d m e).1, vI (medT n d m e).2.1, vI (medT n d m e).2.2])
  | _ => none
theorem c55_ok : Ctr.Ok Tryd.prog Γ 55 c55 := Ctr.fn_ok0 (prog_ok R9_ok true) Tryd.func55 rfl rfl rfl (by
  intro args q t hF hq
  split at hF
  next n d m e =>
    obtain ⟨rfl, rfl⟩ := Prod.mk.inj (Option.some.inj hF); clear hF
    obtain ⟨h1, h2, -⟩ := hq
    refine ⟨rfl, rfl, ?_⟩
    repeat' ((conv => whnf); (first | apply And.intro | intro _))
    all_goals try (conv => whnf)
    all_goals try (first | rfl | trivial | exact LexB.mk (by kernel_rfl) | exact LexG.mk (by kernel_rfl) | exact Forced.mk (by kernel_rfl))
    all_goals try subst_vars
    all_goals (have F := twoFit h1 h2; have f1 := F.ne; have f2 := F.md; have f3 := F.nm; have f4 := F.dm; have f5 := F.de; have f6 := F.a; have f7 := F.b; have f8 := F.c; have f9 := F.f)
    all_goals first
      | exact ⟨by simp only [inR]; omega⟩
      | exact ⟨by omega⟩
      | rfl
  next => cases hF)

theorem sub_add (n d m e : Int) : addT n d (0 - m) e = subT n d m e := by
  unfold addT subT
  rw [show n * e + (0 - m) * d = n * e - m * d by rw [Int.sub_mul]; omega]
def c52 : Ctr := .fn fun args _ => match args with
  | [.agg [.v (.int .i64 n), .v (.int .i64 d)], .agg [.v (.int .i64 m), .v (.int .i64 e)]] => some ([valid n d = true, valid m e = true], .agg [vI (subT n d m e).1, vI (subT n d m e).2.1, vI (subT n d m e).2.2])
  | _ => none
theorem c52_ok : Ctr.Ok Tryd.prog Γ 52 c52 := Ctr.fn_ok0 (prog_ok ((R9_ok.cons (FnOk.of Tryd.func51 rfl rfl) c51_ok).cons (FnOk.of Tryd.func49 rfl rfl) c49_ok) true) Tryd.func52 rfl rfl rfl (by
  intro args q t hF hq
  split at hF
  next n d m e =>
    obtain ⟨rfl, rfl⟩ := Prod.mk.inj (Option.some.inj hF); clear hF
    obtain ⟨h1, h2, -⟩ := hq
    refine ⟨rfl, rfl, ?_⟩
    repeat' ((conv => whnf); (first | apply And.intro | intro _))
    all_goals try (conv => whnf)
    all_goals try (first | rfl | trivial | exact LexB.mk (by kernel_rfl) | exact LexG.mk (by kernel_rfl) | exact Forced.mk (by kernel_rfl))
    all_goals try subst_vars
    all_goals (have F := twoFit h1 h2; have f1 := F.ne; have f2 := F.md; have f3 := F.nm; have f4 := F.dm; have f5 := F.de; have f6 := F.a; have f7 := F.b; have f8 := F.c; have f9 := F.f)
    all_goals first
      | exact ⟨by simp only [inR]; omega⟩
      | exact ⟨h1⟩
      | exact ⟨valid_neg h2⟩
      | (rw [sub_add]; done)
  next => cases hF)

def c54 : Ctr := .fn fun args _ => match args with
  | [.agg [.v (.int .i64 n), .v (.int .i64 d)], .agg [.v (.int .i64 m), .v (.int .i64 e)]] => some ([valid n d = true, valid m e = true], .agg [vI (divT n d m e).1, vI (divT n d m e).2.1, vI (divT n d m e).2.2])
  | _ => none
theorem c54_ok : Ctr.Ok Tryd.prog Γ 54 c54 := Ctr.fn_ok0 (prog_ok R9_ok true) Tryd.func54 rfl rfl rfl (by
  intro args q t hF hq
  split at hF
  next n d m e =>
    obtain ⟨rfl, rfl⟩ := Prod.mk.inj (Option.some.inj hF); clear hF
    obtain ⟨h1, h2, -⟩ := hq
    refine ⟨rfl, rfl, ?_⟩
    repeat' ((conv => whnf); (first | apply And.intro | intro _))
    all_goals try (conv => whnf)
    all_goals try (first | rfl | trivial | exact LexB.mk (by kernel_rfl) | exact LexG.mk (by kernel_rfl) | exact Forced.mk (by kernel_rfl))
    all_goals try subst_vars
    all_goals try simp only [decide_eq_true_eq, decide_eq_false_iff_not, beq_iff_eq, beq_eq_false_iff_ne, ne_eq] at *
    all_goals try (rw [divT_zero ‹m = 0›]; done)
    all_goals (have F := twoFit h1 h2; have f1 := F.ne; have f2 := F.md; have f3 := F.nm; have f4 := F.dm; have f5 := F.de; have f6 := F.a; have f7 := F.b; have f8 := F.c; have f9 := F.f)
    all_goals try (rw [← div_flip ‹m < 0› (by omega)]; rfl)
    all_goals try (rw [divT_ne ‹¬ m = 0›]; rfl)
    all_goals (have g1 : m < 0 → 0 < d * (0 - m) := fun h => Int.mul_pos (by omega) (by omega))
    all_goals (have g2 : 0 < m → 0 < d * m := fun h => Int.mul_pos (by omega) (by omega))
    all_goals (have g3 : d * (0 - m) = - (d * m) := by rw [Int.mul_sub, Int.mul_zero]; omega)
    all_goals first
      | exact ⟨by simp only [inR]; omega⟩
      | exact ⟨by omega⟩
  next => cases hF)

def c35 : Ctr := .fn fun args _ => match args with
  | [.agg [.v (.int .i64 n), .v (.int .i64 d)], .agg [.v (.int .i64 m), .v (.int .i64 e)]] => some ([inR .i64 n, inR .i64 d, inR .i64 m, inR .i64 e], bl (!(valid n d && valid m e)))
  | _ => none
theorem c35_ok : Ctr.Ok Tryd.prog Γ 35 c35 := Ctr.fn_ok0 (prog_ok (L0_ok.cons (FnOk.of Tryd.func22 rfl rfl) c22_ok) true) Tryd.func35 rfl rfl rfl (by
  intro args q t hF hq
  split at hF
  next n d m e =>
    obtain ⟨rfl, rfl⟩ := Prod.mk.inj (Option.some.inj hF); clear hF
    obtain ⟨h1, h2, h3, h4, -⟩ := hq
    refine ⟨rfl, rfl, ?_⟩
    repeat' ((conv => whnf); (first | apply And.intro | intro _))
    all_goals try (conv => whnf)
    all_goals try (first | rfl | trivial | exact LexB.mk (by kernel_rfl) | exact LexG.mk (by kernel_rfl) | exact Forced.mk (by kernel_rfl))
    all_goals try subst_vars
    all_goals try exact ⟨by assumption⟩
    all_goals simp only [Bool.not_eq_true', Bool.not_eq_false'] at *
    all_goals first
      | (rw [‹valid n d = false›]; rfl)
      | (rw [‹valid n d = true›]; rfl)
  next => cases hF)

def LS : List (Nat × Ctr) := (35, c35) :: (37, c37) :: (48, c48) :: (38, c38) :: (41, c41) :: (39, c39) :: (42, c42) :: (40, c40) :: (49, c49) :: (50, c50) :: (51, c51) :: (52, c52) :: (53, c53) :: (54, c54) :: (55, c55) :: LP
theorem LS_ok : LOk Tryd.prog ΓL LS := (((((((((((((((LP_ok.cons (FnOk.of Tryd.func55 rfl rfl) c55_ok).cons (FnOk.of Tryd.func54 rfl rfl) c54_ok).cons (FnOk.of Tryd.func53 rfl rfl) c53_ok).cons (FnOk.of Tryd.func52 rfl rfl) c52_ok).cons (FnOk.of Tryd.func51 rfl rfl) c51_ok).cons (FnOk.of Tryd.func50 rfl rfl) c50_ok).cons (FnOk.of Tryd.func49 rfl rfl) c49_ok).cons (FnOk.of Tryd.func40 rfl rfl) c40_ok).cons (FnOk.of Tryd.func42 rfl rfl) c42_ok).cons (FnOk.of Tryd.func39 rfl rfl) c39_ok).cons (FnOk.of Tryd.func41 rfl rfl) c41_ok).cons (FnOk.of Tryd.func38 rfl rfl) c38_ok).cons (FnOk.of Tryd.func48 rfl rfl) c48_ok).cons (FnOk.of Tryd.func37 rfl rfl) c37_ok).cons (FnOk.of Tryd.func35 rfl rfl) c35_ok)

def c12 : Ctr := .fn fun args _ => match args with
  | [.agg [.v (.int .i64 n), .v (.int .i64 d)], .agg [.v (.int .i64 m), .v (.int .i64 e)]] => some ([inR .i64 n, inR .i64 d, inR .i64 m, inR .i64 e], bl true)
  | _ => none
set_option maxHeartbeats 4000000 in
theorem c12_ok : Ctr.Ok Tryd.prog ΓL 12 c12 := Ctr.fn_ok0 (prog_okC LS_ok true [86]) Tryd.func12 rfl rfl rfl (by
  intro args q t hF hq
  split at hF
  next n d m e =>
    obtain ⟨rfl, rfl⟩ := Prod.mk.inj (Option.some.inj hF); clear hF
    obtain ⟨h1, h2, h3, h4, -⟩ := hq
    refine ⟨rfl, rfl, ?_⟩
    repeat' ((conv => whnf); (first | apply And.intro | intro _))
    all_goals try (conv => whnf)
    all_goals try (first | rfl | trivial | exact LexB.mk (by kernel_rfl) | exact LexG.mk (by kernel_rfl) | exact Forced.mk (by kernel_rfl))
    all_goals try subst_vars
    all_goals try (first | exact Nat.le_of_ble_eq_true rfl | exact ⟨by assumption⟩)
    all_goals try (simp_all [two, negX, cmpX]; done)
    all_goals try ((cases hv1 : valid n d <;> cases hv2 : valid m e) <;> (simp_all [two, negX, cmpX]; done))
    all_goals first
      | (have hv : valid n d = true := by simpa using ‹(!valid n d) = false›
         have v := valid_iff.1 hv
         exact ⟨by simp only [inR]; omega⟩)
      | (have hv : valid n d = true ∧ valid m e = true := by simpa using ‹(!(valid n d && valid m e)) = false›
         have F := twoFit hv.1 hv.2
         have f1 := F.ne
         have f2 := F.md
         first | exact ⟨hv.1⟩ | exact ⟨hv.2⟩ | exact ⟨by simp only [inR]; omega⟩)
  next => cases hF)

end Go.Proofs.YtoggkjobihlohaaDoor
