/-
  Chapter 1: the chapter's examples.
-/
import Derived.Test.YtoggkjobihlohaaDoorF16
namespace Go.Proofs.YtoggkjobihlohaaDoor
open Go Go.Sx
set_option maxRecDepth 100000

def L9 : List (Nat × Ctr) := (69, c69) :: (46, c46) :: (74, c74) :: (19, c19) :: L8
theorem L9_ok : LOk Tryd.prog ΓL L9 := (((L8_ok.cons (FnOk.of Tryd.func19 rfl rfl) c19_ok).cons (FnOk.of Tryd.func74 rfl rfl) c74_ok).cons (FnOk.of Tryd.func46 rfl rfl) c46_ok).cons (FnOk.of Tryd.func69 rfl rfl) c69_ok

theorem ex_make : makeT 6 (-4) = (-3, 2, 0) := by decide +kernel
theorem ex_best : bestX 355 113 10 = (22, 7, 0) := by decide +kernel
theorem ex_sim : simX 5 7 3 4 = (3, 4, 0) := by decide +kernel
theorem ex_part : partX (-3) 2 5 = (-8, -7, 0) := by decide +kernel
theorem ex_expand : expand 415 93 = [4, 2, 6, 7] := by decide +kernel
theorem ex_valid : valid 415 93 = true := by decide +kernel
theorem ex_err : errX (-3) 2 = 0 := by decide +kernel
theorem ex_print : printX (-3) 2 = ⟨#[45, 51, 47, 50]⟩ := by
  have h1 : Lib.itoa (-3) = [45, 51] := by
    unfold Lib.itoa
    rw [if_pos (by decide), Lib.decDigits_one (by decide)]; rfl
  have h2 : Lib.itoa 2 = [50] := by
    unfold Lib.itoa
    rw [if_neg (by decide), Lib.decDigits_one (by decide)]; rfl
  rw [printX_good (by decide +kernel), printT_two (by decide), h1, h2]
  rfl
def c18 : Ctr := .fn fun args _ => match args with
  | [] => some ([], bl true)
  | _ => none
theorem c18_ok : Ctr.Ok Tryd.prog ΓL 18 c18 := Ctr.fn_ok0 (prog_ok L9_ok true) Tryd.func18 rfl rfl rfl (by
  intro args q t hF hq
  split at hF
  next =>
    obtain ⟨rfl, rfl⟩ := Prod.mk.inj (Option.some.inj hF); clear hF
    refine ⟨rfl, rfl, ?_⟩
    repeat' ((conv => whnf); (first | apply And.intro | intro _))
    all_goals try (conv => whnf)
    all_goals try (first | rfl | trivial | exact ⟨by kernel_rfl⟩)
    all_goals try subst_vars
    all_goals try exact ⟨by decide⟩
    all_goals try simp only [ex_make, ex_best, ex_sim, ex_part, ex_expand, ex_valid, ex_err, ex_print] at *
    all_goals try contradiction
    all_goals try exact ⟨by simp only [inR]; omega⟩
    all_goals try exact Int.NonNeg.mk _
    all_goals first | rfl | exact beq_self_eq_true _
  next => cases hF)
end Go.Proofs.YtoggkjobihlohaaDoor
