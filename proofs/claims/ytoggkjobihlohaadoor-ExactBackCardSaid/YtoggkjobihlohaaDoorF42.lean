/-
  Chapter 1: the statement ExactTexts, walked.
-/
import Derived.Test.YtoggkjobihlohaaDoorF41
namespace Go.Proofs.YtoggkjobihlohaaDoor
open Go Go.Sx
set_option maxRecDepth 100000

def LT : List (Nat × Ctr) := (70, c70) :: (71, c71) :: (72, c72) :: (22, c22) :: LR
theorem LT_ok : LOk Tryd.prog ΓE LT := ((((LOk.toE LR_ok).cons (FnOk.of Tryd.func22 rfl rfl) c22_ok).cons (FnOk.of Tryd.func72 rfl rfl) c72_ok).cons (FnOk.of Tryd.func71 rfl rfl) c71_ok).cons (FnOk.of Tryd.func70 rfl rfl) c70_ok
theorem short_of {s : ByteArray} (h : decide ((s.size : Int) > 60) = false) : (s.data.toList.length : Int) ≤ 1000000 := by
  have := of_decide_eq_false h
  have hsz : s.data.toList.length = s.size := Array.length_toList
  omega
theorem text_bad {a b : Int} (h : valid a b = false) : ((printX a b).toList == (ByteArray.mk #[]).toList) = true := by rw [printX_bad h]; exact beq_self_eq_true _
theorem text_good {a b : Int} (h : valid a b = true) : ((printX a b).toList == (printT a b).toList) = true := by rw [printX_good h]; exact beq_self_eq_true _
def c15 : Ctr := .fn fun args _ => match args with
  | [.agg [.v (.int .i64 a), .v (.int .i64 b)], .a (.v (.string _))] => some ([inR .i64 a, inR .i64 b], bl true)
  | _ => none
theorem c15_ok : Ctr.Ok Tryd.prog ΓE 15 c15 := Ctr.fn_ok0 (prog_ok LT_ok true) Tryd.func15 rfl rfl rfl (by
  intro args q t hF hq
  split at hF
  next a b s =>
    obtain ⟨rfl, rfl⟩ := Prod.mk.inj (Option.some.inj hF); clear hF
    obtain ⟨h1, h2, -⟩ := hq
    refine ⟨rfl, rfl, ?_⟩
    repeat' ((conv => whnf); (first | apply And.intro | intro _))
    all_goals try (conv => whnf)
    all_goals try (first | rfl | trivial | exact LexB.mk (by kernel_rfl) | exact LexG.mk (by kernel_rfl) | exact Forced.mk (by kernel_rfl))
    all_goals try subst_vars
    all_goals try exact ⟨by assumption⟩
    all_goals try exact ⟨short_of (by assumption)⟩
    all_goals try (show (true = true); rfl)
    all_goals try simp only [parse_same, and_self, decide_true, Bool.not_true, Bool.not_eq_true', Bool.not_eq_false', reduceCtorEq] at *
    all_goals try exact ⟨by assumption⟩
    all_goals try exact text_bad (by assumption)
    all_goals try exact text_good (by assumption)
    all_goals try exact absurd (errX_bad ‹valid a b = false›) (ne_of_beq_false ‹(errX a b == 1) = false›)
    all_goals exact absurd (errX_good ‹valid a b = true›) (ne_of_beq_false ‹(errX a b == 0) = false›)
  next => cases hF)
end Go.Proofs.YtoggkjobihlohaaDoor
