/-
  Chapter 1: the statement ExactFractions, walked.
-/
import Derived.Test.YtoggkjobihlohaaDoorF34
import Derived.Test.YtoggkjobihlohaaDoorF18
namespace Go.Proofs.YtoggkjobihlohaaDoor
open Go Go.Sx
set_option maxRecDepth 100000

def LF : List (Nat × Ctr) := (44, c44) :: (45, c45) :: (47, c47) :: (22, c22) :: LR
theorem LF_ok : LOk Tryd.prog ΓL LF := (((LR_ok.cons (FnOk.of Tryd.func22 rfl rfl) c22_ok).cons (FnOk.of Tryd.func47 rfl rfl) c47_ok).cons (FnOk.of Tryd.func45 rfl rfl) c45_ok).cons (FnOk.of Tryd.func44 rfl rfl) c44_ok

theorem not_long60 {l : List Int} (h : decide ((l.length : Int) > 60) = false) : l.length ≤ 1099511627776 := by have := of_decide_eq_false h; omega
theorem expand_small {a b : Int} (h : valid a b = true) : (expand a b).length ≤ 1099511627776 := by
  have vb := valid_iff.1 h
  have := expand_len (n := a) (d := b) ⟨by omega, by omega⟩
  omega
theorem same_self (l : List Int) : sameL l l = true := decide_eq_true rfl

def c11 : Ctr := .fn fun args rg => match args with
  | [.agg [.v (.int .i64 a), .v (.int .i64 b)], .a (.sl r lo n)] => (match rg.getD r .dead with
    | .arr _ [.int .i64] xs _ => some ([inR .i64 a, inR .i64 b, lo = 0, n = xs.length, inAllI xs], bl true)
    | _ => none)
  | _ => none
theorem c11_ok : Ctr.Ok Tryd.prog ΓL 11 c11 := Ctr.fn_ok1 (prog_ok LF_ok true) Tryd.func11 rfl rfl rfl (by
  intro args rg q t hF hq
  split at hF
  next a b r lo n =>
    split at hF
    next te xs o hr =>
      obtain ⟨rfl, rfl⟩ := Prod.mk.inj (Option.some.inj hF); clear hF
      obtain ⟨h1, h2, rfl, rfl, h5, -⟩ := hq
      have hr' := getD_arr hr (by simp)
      refine ⟨rfl, [r], [.agg [.v (.int .i64 a), .v (.int .i64 b)], .a (.sl 0 0 xs.length)], [.arr te kI xs o], ⟨rfl, rfl, fun r' g hg => ?_, rfl⟩, ?_⟩
      · cases r' with
        | zero => simp at hg; subst hg; exact ⟨rfl, .inr hr'⟩
        | succ r' => simp at hg
      have l1 : @List.length (Tup kI) xs = @List.length Int xs := rfl
      have l2 : @List.length (Tup [CK.int IntKind.i64]) xs = @List.length Int xs := rfl
      repeat' ((conv => whnf); (first | apply And.intro | intro _))
      all_goals try (conv => whnf)
      all_goals try (first | rfl | trivial | exact LexB.mk (by kernel_rfl) | exact LexG.mk (by kernel_rfl) | exact Forced.mk (by kernel_rfl))
      all_goals try subst_vars
      all_goals try exact ⟨by assumption⟩
      all_goals try (first | exact h1.1 | exact h1.2 | exact h2.1 | exact h2.2 | exact ⟨rfl⟩)
      all_goals try exact ⟨not_long60 (l := xs) (by assumption)⟩
      all_goals try exact ⟨expand_small ‹valid a b = true›⟩
      all_goals try exact same_self _
      all_goals try (show (true = true); rfl)
      all_goals try (exfalso; simp_all; done)
      all_goals (simp_all; done)
    next => cases hF
  next => cases hF)
end Go.Proofs.YtoggkjobihlohaaDoor
