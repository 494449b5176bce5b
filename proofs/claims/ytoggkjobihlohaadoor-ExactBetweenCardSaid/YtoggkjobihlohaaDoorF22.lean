/-
  Chapter 1: ExactLeast, ExactField and ExactOrder, walked.
-/
import Derived.Test.YtoggkjobihlohaaDoorP7
namespace Go.Proofs.YtoggkjobihlohaaDoor
open Go Go.Sx
set_option maxRecDepth 100000

def LH : List (Nat × Ctr) := (28, c28) :: LS
theorem LH_ok : LOk Tryd.prog ΓL LH := LS_ok.cons (FnOk.of Tryd.func28 rfl rfl) c28_ok

/-- What ExactLeast looks at. -/
structure LeastFacts (a b c d n m : Int) : Prop where
  E : simX a b c d = ((simT a b c d).1, (simT a b c d).2, 0)
  v : valid (simT a b c d).1 (simT a b c d).2 = true
  i1 : inR .i64 (simT a b c d).1
  i2 : inR .i64 (simT a b c d).2
  has : hasB a b c d (simT a b c d).1 (simT a b c d).2 = true
  least : hasB a b c d n m = true → ¬ m < (simT a b c d).2
theorem leastFacts {a b c d n m : Int} (hx : validR a b c d = true) (hn : valid n m = true) : LeastFacts a b c d n m := by
  obtain ⟨V, hi⟩ := sim_in hx
  have vb := valid_iff.1 V
  refine ⟨simX_good hx, V, by simp only [inR]; omega, by simp only [inR]; omega, hasB_iff.2 ⟨hx, V, hi.lo, hi.hi⟩, fun h => ?_⟩
  have := (sim_least hx (vpos hn) ⟨(hasB_iff.1 h).2.2.1, (hasB_iff.1 h).2.2.2⟩).1
  omega
theorem least_within {a b c d a' b' c' d' : Int} (hx : validR a b c d = true) (hy : validR a' b' c' d' = true) (h1 : hasB a b c d a' b' = true) (h2 : hasB a b c d c' d' = true) :
    ¬ (simT a' b' c' d').2 < (simT a b c d).2 ∧ (hasB a' b' c' d' (simT a b c d).1 (simT a b c d).2 = true → simT a' b' c' d' = simT a b c d) := by
  have h1 := hasB_iff.1 h1
  have h2 := hasB_iff.1 h2
  have W := sim_within hx hy ⟨h1.2.2.1, h1.2.2.2⟩ ⟨h2.2.2.1, h2.2.2.2⟩
  refine ⟨by have := W.1; omega, fun h => W.2 ?_⟩
  have h := hasB_iff.1 h
  exact ⟨h.2.2.1, h.2.2.2⟩

def c6 : Ctr := .fn fun args _ => match args with
  | [.agg [.v (.int .i64 a), .v (.int .i64 b), .v (.int .i64 c), .v (.int .i64 d)], .agg [.v (.int .i64 a'), .v (.int .i64 b'), .v (.int .i64 c'), .v (.int .i64 d')], .agg [.v (.int .i64 n), .v (.int .i64 m)]] => some ([inR .i64 a, inR .i64 b, inR .i64 c, inR .i64 d, inR .i64 a', inR .i64 b', inR .i64 c', inR .i64 d', inR .i64 n, inR .i64 m], bl true)
  | _ => none
set_option maxHeartbeats 4000000 in
theorem c6_ok : Ctr.Ok Tryd.prog ΓL 6 c6 := Ctr.fn_ok0 (prog_okC LH_ok true [44, 58]) Tryd.func6 rfl rfl rfl (by
  intro args q t hF hq
  split at hF
  next a b c d a' b' c' d' n m =>
    obtain ⟨rfl, rfl⟩ := Prod.mk.inj (Option.some.inj hF); clear hF
    obtain ⟨h1, h2, h3, h4, h5, h6, h7, h8, h9, h10, -⟩ := hq
    refine ⟨rfl, rfl, ?_⟩
    repeat' ((conv => whnf); (first | apply And.intro | intro _))
    all_goals try (conv => whnf)
    all_goals try (first | rfl | trivial | exact LexB.mk (by kernel_rfl) | exact LexG.mk (by kernel_rfl) | exact Forced.mk (by kernel_rfl))
    all_goals try subst_vars
    all_goals try (first | exact Nat.le_of_ble_eq_true rfl | exact ⟨by assumption⟩)
    all_goals try (simp_all; done)
    all_goals (have hx : validR a b c d = true := by simpa using ‹(!validR a b c d) = false›
               have hn : valid n m = true := by simpa using ‹(!valid n m) = false›
               obtain ⟨E, V, i1, i2, H, L⟩ := leastFacts hx hn
               simp only [E] at *)
    all_goals try exact ⟨by assumption⟩
    all_goals try (simp_all; done)
    all_goals try exact absurd (of_decide_eq_true ‹decide (m < (simT a b c d).2) = true›) (L ‹hasB a b c d n m = true›)
    all_goals (have hy : validR a' b' c' d' = true := ‹_›
               have W := least_within hx hy ‹hasB a b c d a' b' = true› ‹hasB a b c d c' d' = true›
               simp only [simX_good hy] at *)
    · exact absurd ‹((0 : Int) != 0) = true› (by decide)
    · exact absurd (of_decide_eq_true ‹_›) W.1
    · have e := W.2 ‹_›
      simp [e] at *
  next => cases hF)

end Go.Proofs.YtoggkjobihlohaaDoor
