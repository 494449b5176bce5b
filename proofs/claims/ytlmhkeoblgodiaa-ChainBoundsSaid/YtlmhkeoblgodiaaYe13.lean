/-
  Texts of the claims on chapter 2: Ye13. No condition: lemmas and contracts.
-/
import Derived.Test.YtlmhkeoblgodiaaYe1
set_option linter.all false
section
/-
  Chapter 2: what the laws ask of a system and nodes. Printed by gen42.py.
-/
namespace Go.Proofs.Ytlmhkeoblgodiaa
open Go Go.Sy Go.Chn
set_option maxRecDepth 100000
set_option maxHeartbeats 1000000
set_option linter.unusedVariables false
set_option linter.unusedSimpArgs false
variable {Γ : Glob}
def L41 : List (Nat × Ctr) := [(26, c26), (34, c34), (57, c57)]
theorem L41_ok : CsOk Try.prog Γ L41 := ((CsOk.nil.cons (body_of Try.func57 rfl rfl).fn c57_ok).cons (body_of Try.func34 rfl rfl).fn c34_ok).cons (body_of Try.func26 rfl rfl).fn c26_ok
theorem rt_2 {N : Int} {L : List Lk} : (rtF N L).2 = conB N L := by
  unfold rtF; split
  · rename_i h; exact h.symm
  · rename_i h; simpa using h
theorem nd2_no {N a b : Int} (h : (!nodeB N a) = true ∨ (!nodeB N b) = true) : ndB N [a, b] = false := by
  rw [nd_two]; rcases h with h | h <;> simp at h <;> simp [h]
theorem nd2_yes {N a b : Int} (h : (!nodeB N a) = false) (h2 : (!nodeB N b) = false) : ndB N [a, b] = true := by
  rw [nd_two, nt_f h, nt_f h2]; rfl
attribute [local irreducible] checkF rtF nodeB askF
def c41 : Ctr := fSnn (fun _ L _ _ => [(Duty.of (L.length ≤ 1000000))]) (fun N L a b => .a (vI (askF N L [a, b])))
theorem c41_ok : Ctr.Ok Try.prog Γ 41 c41 := fSnn_ok (d := 0) (prog_ok L41_ok BsOk.nil false 0) (body_of Try.func41 rfl rfl) (fun _ _ _ _ => rfl) (by
  intro N L a b ⟨hL, _⟩
  simp only [Duty.of_p] at hL
  have g0 := @ask0 N L [a, b]
  have g1 := @ask1 N L [a, b]
  have g2 := @ask2 N L [a, b]
  have g3 := @ask3 N L [a, b]
  generalize askF N L [a, b] = res at *
  repeat' ((conv => whnf); (first | apply And.intro | intro _))
  all_goals try (conv => whnf)
  all_goals try exact LexB.mk (by kernel_rfl)
  all_goals subst_vars
  all_goals try simp only [getL, getI, castLk, castIk] at *
  all_goals try first
    | exact ⟨rfl⟩
    | exact ⟨trivial⟩
    | exact ⟨show L.length ≤ 1000000 from hL⟩
    | exact (g0 (by assumption)).symm
    | exact g0 (by assumption)
    | exact (g1 (by assumption) (nd2_no (.inl (by assumption)))).symm
    | exact (g1 (by assumption) (nd2_no (.inr (by assumption)))).symm
    | exact (g2 (by assumption) (nd2_yes (by assumption) (by assumption)) (by rw [← rt_2]; exact nt_t (by assumption))).symm
    | exact (g3 (by assumption) (nd2_yes (by assumption) (by assumption)) (by rw [← rt_2]; exact nt_f (by assumption))).symm
    | exact ⟨toNat_of (ok_of (by assumption))⟩
    | exact ⟨ask_of (ok_of (by assumption))⟩
  all_goals sorry)
end Go.Proofs.Ytlmhkeoblgodiaa
end
