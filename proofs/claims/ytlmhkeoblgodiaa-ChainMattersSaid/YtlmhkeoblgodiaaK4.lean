/-
  Texts of the claims on chapter 2: K4. No condition: lemmas and contracts.
-/
import Derived.Test.YtlmhkeoblgodiaaYk4
import Derived.Test.YtlmhkeoblgodiaaC82
set_option linter.all false
section
/-
  ChainMatters: for every input the statement answers true and leaves its arguments as they were. Conditions: those of the row.
-/
namespace Go.Proofs.Ytlmhkeoblgodiaa.lawChainMatters
open Go Go.Sy Go.ChangeShapes Go.WideShapes Go.RowKit
set_option maxRecDepth 100000
set_option linter.unusedVariables false

theorem contract (H : Type) (enc : TypeId × Value → H) (W : World) (base : Nat) (args : Array Value) (ds gs : List (DataW H)) (before : List MemPlace)
    (hval : ∀ (j : Nat) t v, Try.f4.params[j]? = some t → args[j]? = some v → Value.okWide Try.prog W .any base t v)
    (hW : DataW.Whole enc Try.prog Try.f4.params.toList Rows.chainMattersSpec.vars false W args.toList ds gs before) :
    Calls Try.prog 4 args W fun e W' => ∃ v, e = .returned v ∧ Rows.chainMattersSpec.post enc Try.prog Try.f4 false true false false W args v W' := by
  have hW' := hW
  obtain ⟨p, q, hA0, -, -, -, -⟩ := hW
  have hA : DataW.TrodAll enc Try.prog W 0 (fun _ => true) true Try.f4.params.toList args.toList ds p := hA0
  rw [Try.params4] at hA hval
  obtain ⟨v0, vs0, d0, ds0, p0, q0, hargs, rfl, rfl, h0, r0⟩ := trodAll_cons hA
  obtain ⟨v1, vs1, d1, ds1, p1, q1, rfl, rfl, rfl, h1, r1⟩ := trodAll_cons r0
  obtain ⟨rfl, rfl, rfl⟩ := trodAll_nil r1
  obtain rfl : args = #[v0, v1] := by cases args; simp_all
  obtain ⟨n0, c0, I0, xs0, rfl, k0, s0⟩ := arg_sys (hval 0 24 v0 rfl rfl) h0
  obtain ⟨n1, rfl⟩ := arg_int (hval 1 3 v1 rfl rfl) h1
  refine (law_calls (As := [⟨44, kL, xs0, I0⟩]) (args := [.agg [.v (.int .i64 n0), .sl 0 [] 0 xs0.length], .a (.v (.int .i64 n1))]) (vs := [.agg #[.int .i64 n0, c0], .int .i64 n1]) c4_ok rfl ⟨rfl, rfl, trivial⟩ (fun A hA => ?_) ⟨ok_sys (Nat.le_of_ble_eq_true rfl) k0, ok_int n1, trivial⟩).mono fun e W' ⟨he, hb⟩ => ?_
  · simp only [List.mem_cons, List.not_mem_nil, or_false] at hA
    rcases hA with rfl
    · exact ⟨rfl, s0⟩
  subst he
  exact ⟨_, rfl, post_true (by kernel_rfl) rfl (by kernel_rfl) hW' rfl hb⟩

theorem lifted (os : Os) (started : os.Started) (H : Type) (enc : TypeId × Value → H) :
    ReturnsInHanded {} Try.checked os 4 .any (Rows.chainMattersSpec.pre6 enc Try.prog Try.f4 Rows.chainMattersRow.domain false) (Rows.chainMattersSpec.post enc Try.prog Try.f4 false true false false) := by
  refine returnsInHanded_of_change (C := Try.checked) own started (by kernel_rfl) Try.func4
    (ChangeSpec.witness6 (enc := enc) (C := Try.checked) false ⟨#[], #[.agg #[.int .i64 0, .slice none 0 0], .int .i64 0], []⟩ 8 (by kernel_rfl) (by kernel_rfl) (by kernel_rfl) (by kernel_rfl)) ?_
  intro W base args ds gs before hval hW _ _
  exact contract H enc W base args ds gs before hval hW
theorem said : Rows.ChainMattersSaid :=
  OpenClaim.holds_of_wide 4 Try.f4 rfl rfl rfl rfl rfl rfl rfl ⟨rfl, rfl, rfl, rfl, rfl⟩ rfl rfl rfl rfl rfl (by kernel_rfl) Try.func4 (by kernel_rfl)
    (of_decide_eq_true (by kernel_rfl)) (by unfold Func.isWrapper; first | (rw [if_pos (by decide +kernel)]; kernel_rfl) | (rw [if_neg (by decide +kernel)]; exact ⟨rfl, rfl⟩))
    (fun os started H enc _ => lifted os started H enc)
end Go.Proofs.Ytlmhkeoblgodiaa.lawChainMatters
end
