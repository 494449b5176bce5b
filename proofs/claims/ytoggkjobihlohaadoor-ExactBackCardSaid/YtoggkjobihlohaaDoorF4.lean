/-
  Chapter 1: the simplest number of an interval, in the program.
-/
import Derived.Test.YtoggkjobihlohaaDoorF3
import Derived.Test.YtoggkjobihlohaaDoorP1
namespace Go.Proofs.YtoggkjobihlohaaDoor
open Go Go.Sx
set_option maxRecDepth 100000
variable {Γ : Glob}

def c80k (k : Nat) : Ctr := .fn fun args _ => match args with
  | [.agg [.v (.int .i64 a), .v (.int .i64 b)], .agg [.v (.int .i64 c), .v (.int .i64 d)]] =>
    some ([Between a b c d, a ≤ 2147483647 ∧ b ≤ 2147483647 ∧ c ≤ 2147483647 ∧ d ≤ 2147483647, (b + d).toNat ≤ k], .agg [vI (spl a b c d).1, vI (spl a b c d).2])
  | _ => none
/-- What the walk needs to know of its numbers. -/
structure SplFacts (a b c d : Int) : Prop where
  n0 : 0 ≤ a / b ∧ a / b ≤ a ∧ 0 ≤ a / b * b ∧ a / b * b ≤ a
  one : a / b * b = a → spl a b c d = (a / b, 1)
  two : a / b * b ≠ a → a / b < c / d → spl a b c d = (a / b + 1, 1)
  nxt : a / b * b ≠ a → ¬ a / b < c / d → Between d (c - a / b * d) b (a - a / b * b) ∧ (c - a / b * d) + (a - a / b * b) < b + d ∧ 0 ≤ a / b * d ∧ a / b * d ≤ c
  res : a / b * b ≠ a → ¬ a / b < c / d → 0 ≤ a / b * (spl d (c - a / b * d) b (a - a / b * b)).1 ∧ 0 < (spl d (c - a / b * d) b (a - a / b * b)).1 ∧ 0 < (spl d (c - a / b * d) b (a - a / b * b)).2 ∧
    (a / b * (spl d (c - a / b * d) b (a - a / b * b)).1 + (spl d (c - a / b * d) b (a - a / b * b)).2 ≤ a ∨ a / b * (spl d (c - a / b * d) b (a - a / b * b)).1 + (spl d (c - a / b * d) b (a - a / b * b)).2 ≤ c) ∧
    spl a b c d = (a / b * (spl d (c - a / b * d) b (a - a / b * b)).1 + (spl d (c - a / b * d) b (a - a / b * b)).2, (spl d (c - a / b * d) b (a - a / b * b)).1)
theorem splFacts {a b c d : Int} (h : Between a b c d) : SplFacts a b c d := by
  have ha := h.pa; have hb := h.pb; have hc := h.pc; have hd := h.pd
  have ea : a / b * b + a % b = a := Int.ediv_mul_add_emod a b
  have ec : c / d * d + c % d = c := Int.ediv_mul_add_emod c d
  have ra := Int.emod_nonneg a (show b ≠ 0 by omega)
  have na : 0 ≤ a / b := Int.ediv_nonneg (by omega) (by omega)
  have nb : a / b ≤ a := Int.ediv_le_self _ (by omega)
  have nm : 0 ≤ a / b * b := Int.mul_nonneg na (by omega)
  have e2 : a - a / b * b = a % b := by omega
  refine ⟨⟨na, nb, nm, by omega⟩, fun h1 => ?_, fun h1 h2 => ?_, fun h1 h2 => ?_, fun h1 h2 => ?_⟩
  · rw [spl_eq h, if_pos (by omega)]
  · rw [spl_eq h, if_neg (by omega), if_pos h2]
  · obtain ⟨g, e, hlt⟩ := h.next (by omega) h2
    have e1 : c - a / b * d = c % d := by rw [e]; omega
    have hp := g.pb
    rw [e1, e2]
    exact ⟨g, hlt, Int.mul_nonneg na (by omega), by omega⟩
  · obtain ⟨g, e, hlt⟩ := h.next (by omega) h2
    have e1 : c - a / b * d = c % d := by rw [e]; omega
    rw [e1, e2]
    have hs : spl a b c d = _ := (spl_eq h).trans ((if_neg (by omega)).trans (if_neg h2))
    have hbd := spl_bound _ a b c d h (Nat.le_refl _)
    have hb2 := spl_bound _ _ _ _ _ g (Nat.le_refl _)
    rw [hs] at hbd
    refine ⟨Int.mul_nonneg na (by omega), hb2.1, hb2.2.1, ?_, hs⟩
    rcases hbd.2.2 with ⟨h5, _⟩ | ⟨h5, _⟩
    · exact .inl h5
    · exact .inr h5

theorem c80k_ok : ∀ k, Ctr.Ok Tryd.prog Γ 80 (c80k k) := by
  intro k
  induction k with
  | zero =>
    intro args rg q t hF hq
    simp only at hF
    split at hF
    · obtain ⟨rfl, rfl⟩ := Prod.mk.inj (Option.some.inj hF)
      obtain ⟨h1, h2, h3, -⟩ := hq
      have := h1.pb; have := h1.pd; omega
    · cases hF
  | succ k ih => exact Ctr.fn_ok0 (prog_ok (L4_ok.cons (FnOk.of Tryd.func80 rfl rfl) ih) true) Tryd.func80 rfl rfl rfl (by
      intro args q t hF hq
      split at hF
      next a b c d =>
        obtain ⟨rfl, rfl⟩ := Prod.mk.inj (Option.some.inj hF); clear hF
        obtain ⟨h1, h2, h3, -⟩ := hq
        refine ⟨rfl, rfl, ?_⟩
        have pa := h1.pa; have pb := h1.pb; have pc := h1.pc; have pd := h1.pd
        have F := splFacts h1
        have n0 := F.n0
        have F1 := F.one; have F2 := F.two; have F3 := F.nxt; have F4 := F.res
        have q1 : c / d ≤ c := Int.ediv_le_self _ (by omega)
        repeat' ((conv => whnf); (first | apply And.intro | intro _))
        all_goals try (conv => whnf)
        all_goals try (first | rfl | trivial | exact ⟨by kernel_rfl⟩)
        all_goals try subst_vars
        all_goals try simp only [decide_eq_true_eq, decide_eq_false_iff_not, beq_iff_eq, beq_eq_false_iff_ne, inR] at *
        all_goals try (have G1 := F1 ‹_›)
        all_goals try (have G2 := F2 ‹_› ‹_›)
        all_goals try (have G3 := F3 ‹_› ‹_›; have G3b := G3.1.pb; have G3d := G3.1.pd)
        all_goals try (have G4 := F4 ‹_› ‹_›)
        all_goals (first | exact ⟨by omega⟩ | exact ⟨G3.1⟩ | (rw [G1]; done) | (rw [G2]; done) | (rw [G4.2.2.2.2]; done))
      next => cases hF)

/-- The simplest number from a/b to c/d. -/
def c80 : Ctr := .fn fun args _ => match args with
  | [.agg [.v (.int .i64 a), .v (.int .i64 b)], .agg [.v (.int .i64 c), .v (.int .i64 d)]] =>
    some ([Between a b c d, a ≤ 2147483647 ∧ b ≤ 2147483647 ∧ c ≤ 2147483647 ∧ d ≤ 2147483647], .agg [vI (spl a b c d).1, vI (spl a b c d).2])
  | _ => none
theorem c80_ok : Ctr.Ok Tryd.prog Γ 80 c80 := by
  intro args rg q t hF hq
  simp only at hF
  split at hF
  next a b c d =>
    obtain ⟨rfl, rfl⟩ := Prod.mk.inj (Option.some.inj hF)
    obtain ⟨h1, h2, -⟩ := hq
    exact c80k_ok (b + d).toNat _ rg _ _ rfl ⟨h1, h2, Nat.le_refl _, trivial⟩
  next => cases hF
end Go.Proofs.YtoggkjobihlohaaDoor
