/-
  StackMemory: for every input the statement answers true and leaves its arguments as they were. Conditions: those of the row.
-/
import Derived.Test.YtccnimhgjjnmoaaSya1z
import Derived.Test.YtccnimhgjjnmoaaSya2z
import Derived.Test.YtccnimhgjjnmoaaSya3z
import Derived.Test.YtccnimhgjjnmoaaSya4z
import Derived.Test.YtccnimhgjjnmoaaSya5z
import Derived.Test.YtccnimhgjjnmoaaPla6z
import Derived.Test.YtccnimhgjjnmoaaYka7z
import Derived.Test.YtccnimhgjjnmoaaYka8z
import Derived.Test.YtccnimhgjjnmoaaYka9z
import Derived.Test.YtccnimhgjjnmoaaYka10z
import Derived.Test.YtccnimhgjjnmoaaYka11z
import Derived.Test.YtccnimhgjjnmoaaYka12z
import Derived.Test.YtccnimhgjjnmoaaYka13z
import Derived.Test.YtccnimhgjjnmoaaYka14z
import Derived.Test.YtccnimhgjjnmoaaYka15z
import Derived.Test.YtccnimhgjjnmoaaYka16z
import Derived.Test.YtccnimhgjjnmoaaYka17z
import Derived.Test.YtccnimhgjjnmoaaYka18z
import Derived.Test.YtccnimhgjjnmoaaPlb1z
import Derived.Test.YtccnimhgjjnmoaaPlc1z
import Derived.Test.YtccnimhgjjnmoaaPlg1z
import Derived.Test.YtccnimhgjjnmoaaYkl1z
import Derived.Test.YtccnimhgjjnmoaaPlb1y
import Derived.Test.YtccnimhgjjnmoaaYke1y
set_option linter.all false
set_option maxRecDepth 100000
set_option maxHeartbeats 40000000
section
namespace Go.Proofs.Ytccnimhgjjnmoaa.lawStackMemory
open Go Go.Sy Go.dg Go.ChangeShapes Go.WideShapes Go.RowKit
set_option maxRecDepth 100000
set_option linter.unusedVariables false

theorem contract (H : Type) (enc : TypeId × Value -> H) (W : World) (base : Nat) (args : Array Value) (ds gs : List (DataW H)) (before : List MemPlace)
    (hval : ∀ (j : Nat) t v, Try.f8.params[j]? = some t -> args[j]? = some v -> Value.okWide Try.prog W .any base t v)
    (hW : DataW.Whole enc Try.prog Try.f8.params.toList Rows.stackMemorySpec.vars false W args.toList ds gs before) :
    Calls Try.prog 8 args W fun e W' => ∃ v, e = .returned v /\ Rows.stackMemorySpec.post enc Try.prog Try.f8 false true false false W args v W' := by
  have xQ := hW
  obtain ⟨p, q, G7, -, -, -, -⟩ := hW
  have hA : DataW.TrodAll enc Try.prog W 0 (fun _ => true) true Try.f8.params.toList args.toList ds p := G7
  rw [Try.params8] at hA hval
  obtain ⟨v0, Qa, d0, Pt, p0, q0, hargs, rfl, rfl, h0, r0⟩ := trodAll_cons hA
  obtain ⟨v1, Qb, d1, Dn, p1, q1, rfl, rfl, rfl, h1, r1⟩ := trodAll_cons r0
  obtain ⟨rfl, rfl, rfl⟩ := trodAll_nil r1
  obtain rfl : args = #[v0, v1] := by cases args; simp_all
  obtain ⟨I0, KJ, k0, s0⟩ := awl (hval 0 22 v0 rfl rfl) h0
  obtain ⟨a1, b1, c1, rfl⟩ := aur (hval 1 24 v1 rfl rfl) h1
  refine (q9 (As := [⟨67, kK, KJ, I0⟩]) (args := [.a (.sl 0 [] 0 KJ.length), .agg [.v (.int .i64 a1), .v (.int .i64 b1), .v (.int .i64 c1)]]) (vs := [v0, .agg #[.int .i64 a1, .int .i64 b1, .int .i64 c1]]) aJa rfl ⟨rfl, rfl, trivial⟩ (fun A hA => ?_) ⟨Pf (Nat.le_of_ble_eq_true rfl) k0, aw1 a1 b1 c1, trivial⟩).mono fun e W' ⟨he, hb⟩ => ?_
  · simp only [List.mem_cons, List.not_mem_nil, or_false] at hA
    rcases hA with rfl
    · exact ⟨rfl, s0⟩
  subst he
  exact ⟨_, rfl, rF (by kernel_rfl) rfl (by kernel_rfl) xQ rfl hb⟩

theorem lifted (os : Os) (started : os.Started) (H : Type) (enc : TypeId × Value -> H) :
    ReturnsInHanded {} Try.checked os 8 .any (Rows.stackMemorySpec.pre6 enc Try.prog Try.f8 Rows.stackMemoryRow.domain false) (Rows.stackMemorySpec.post enc Try.prog Try.f8 false true false false) := by
  refine returnsInHanded_of_change (C := Try.checked) own started (by kernel_rfl) Try.func8
    (ChangeSpec.witness6 (enc := enc) (C := Try.checked) false ⟨#[], #[.slice none 0 0, .agg #[.int .i64 0, .int .i64 0, .int .i64 0]], []⟩ 8 (by kernel_rfl) (by kernel_rfl) (by kernel_rfl) (by kernel_rfl)) ?_
  intro W base args ds gs before hval hW _ _
  exact contract H enc W base args ds gs before hval hW
theorem ay1 {a b : Bool} (h : a = true) (k : b = true) : (a && b) = true := by rw [h, k]; rfl
set_option maxHeartbeats 40000000 in
theorem jf : joinedFacts Try.pinned.checked.prog 8 Try.f8 Rows.stackMemorySpec Rows.stackMemoryRow = true := by
  unfold joinedFacts
  repeat' (with_reducible (refine ay1 ?_ ?_))
  all_goals (as_aux_lemma => kernel_rfl)
theorem said : Rows.StackMemorySaid :=
  OpenClaim.holds_of_wide 8 Try.f8 rfl rfl rfl rfl rfl rfl rfl ⟨rfl, rfl, rfl, rfl, rfl⟩ rfl rfl rfl rfl rfl (by kernel_rfl) Try.func8 jf
    (of_decide_eq_true (by kernel_rfl)) (by unfold Func.isWrapper; first | (rw [if_pos (by decide +kernel)]; kernel_rfl) | (rw [if_neg (by decide +kernel)]; exact ⟨rfl, rfl⟩))
    (fun os started H enc _ => lifted os started H enc)
end Go.Proofs.Ytccnimhgjjnmoaa.lawStackMemory
end
