/-
  StackScales: for every input the statement answers true and leaves its arguments as they were. Conditions: those of the row.
-/
import Derived.Test.YtccnimhgjjnmoaaSya1z
import Derived.Test.YtccnimhgjjnmoaaSya2z
import Derived.Test.YtccnimhgjjnmoaaSya3z
import Derived.Test.YtccnimhgjjnmoaaSya4z
import Derived.Test.YtccnimhgjjnmoaaSya5z
import Derived.Test.YtccnimhgjjnmoaaPla6z
import Derived.Test.YtccnimhgjjnmoaaYka7z
import Derived.Test.YtccnimhgjjnmoaaYka8z
import Derived.Test.YtccnimhgjjnmoaaYka9z
import Derived.Test.YtccnimhgjjnmoaaYka10z
import Derived.Test.YtccnimhgjjnmoaaYka11z
import Derived.Test.YtccnimhgjjnmoaaYka12z
import Derived.Test.YtccnimhgjjnmoaaYka13z
import Derived.Test.YtccnimhgjjnmoaaYka14z
import Derived.Test.YtccnimhgjjnmoaaYka15z
import Derived.Test.YtccnimhgjjnmoaaYka16z
import Derived.Test.YtccnimhgjjnmoaaYka17z
import Derived.Test.YtccnimhgjjnmoaaYka18z
import Derived.Test.YtccnimhgjjnmoaaPlb1z
import Derived.Test.YtccnimhgjjnmoaaPlc1z
import Derived.Test.YtccnimhgjjnmoaaPld1z
import Derived.Test.YtccnimhgjjnmoaaPlf1z
import Derived.Test.YtccnimhgjjnmoaaPlg1z
import Derived.Test.YtccnimhgjjnmoaaPlh1z
import Derived.Test.YtccnimhgjjnmoaaYkl1z
import Derived.Test.YtccnimhgjjnmoaaPlp1z
import Derived.Test.YtccnimhgjjnmoaaYkp2z
import Derived.Test.YtccnimhgjjnmoaaPlr1z
import Derived.Test.YtccnimhgjjnmoaaYkr2z
import Derived.Test.YtccnimhgjjnmoaaPla1y
import Derived.Test.YtccnimhgjjnmoaaYka2y
import Derived.Test.YtccnimhgjjnmoaaPlc1y
import Derived.Test.YtccnimhgjjnmoaaYkc2y
set_option linter.all false
set_option maxRecDepth 100000
set_option maxHeartbeats 40000000
section
namespace Go.Proofs.Ytccnimhgjjnmoaa.lawStackScales
open Go Go.Sy Go.dg Go.ChangeShapes Go.WideShapes Go.RowKit
set_option maxRecDepth 100000
set_option linter.unusedVariables false

theorem contract (H : Type) (enc : TypeId × Value -> H) (W : World) (base : Nat) (args : Array Value) (ds gs : List (DataW H)) (before : List MemPlace)
    (hval : ∀ (j : Nat) t v, Try.f11.params[j]? = some t -> args[j]? = some v -> Value.okWide Try.prog W .any base t v)
    (hW : DataW.Whole enc Try.prog Try.f11.params.toList Rows.stackScalesSpec.vars false W args.toList ds gs before) :
    Calls Try.prog 11 args W fun e W' => ∃ v, e = .returned v /\ Rows.stackScalesSpec.post enc Try.prog Try.f11 false true false false W args v W' := by
  have xQ := hW
  obtain ⟨p, q, G7, -, -, -, -⟩ := hW
  have hA : DataW.TrodAll enc Try.prog W 0 (fun _ => true) true Try.f11.params.toList args.toList ds p := G7
  rw [Try.params11] at hA hval
  obtain ⟨v0, Qa, d0, Pt, p0, q0, hargs, rfl, rfl, h0, r0⟩ := trodAll_cons hA
  obtain ⟨v1, Qb, d1, Dn, p1, q1, rfl, rfl, rfl, h1, r1⟩ := trodAll_cons r0
  obtain ⟨v2, Qc, d2, xE, p2, q2, rfl, rfl, rfl, h2, r2⟩ := trodAll_cons r1
  obtain ⟨v3, RY, d3, Pu, p3, q3, rfl, rfl, rfl, h3, r3⟩ := trodAll_cons r2
  obtain ⟨rfl, rfl, rfl⟩ := trodAll_nil r3
  obtain rfl : args = #[v0, v1, v2, v3] := by cases args; simp_all
  obtain ⟨I0, KJ, k0, s0⟩ := awl (hval 0 22 v0 rfl rfl) h0
  obtain ⟨a1, b1, c1, rfl⟩ := aur (hval 1 24 v1 rfl rfl) h1
  obtain ⟨a2, b2, c2, rfl⟩ := aur (hval 2 24 v2 rfl rfl) h2
  obtain ⟨n3, rfl, aaN⟩ := aKd Try.underlying5 (hval 3 5 v3 rfl rfl) h3
  refine (q9 (As := [⟨67, kK, KJ, I0⟩]) (args := [.a (.sl 0 [] 0 KJ.length), .agg [.v (.int .i64 a1), .v (.int .i64 b1), .v (.int .i64 c1)], .agg [.v (.int .i64 a2), .v (.int .i64 b2), .v (.int .i64 c2)], .a (.v (.int .u8 n3))]) (vs := [v0, .agg #[.int .i64 a1, .int .i64 b1, .int .i64 c1], .agg #[.int .i64 a2, .int .i64 b2, .int .i64 c2], .int .u8 n3]) aJb rfl ⟨rfl, rfl, (by have hw := aaN; simp [Lit.wf, IntKind.min, IntKind.max, IntKind.signed, IntKind.bits] at hw; exact ⟨by omega, by omega⟩), trivial⟩ (fun A hA => ?_) ⟨Pf (Nat.le_of_ble_eq_true rfl) k0, aw1 a1 b1 c1, aw1 a2 b2 c2, aKn .u8 n3, trivial⟩).mono fun e W' ⟨he, hb⟩ => ?_
  · simp only [List.mem_cons, List.not_mem_nil, or_false] at hA
    rcases hA with rfl
    · exact ⟨rfl, s0⟩
  subst he
  exact ⟨_, rfl, rF (by kernel_rfl) rfl (by kernel_rfl) xQ rfl hb⟩

theorem lifted (os : Os) (started : os.Started) (H : Type) (enc : TypeId × Value -> H) :
    ReturnsInHanded {} Try.checked os 11 .any (Rows.stackScalesSpec.pre6 enc Try.prog Try.f11 Rows.stackScalesRow.domain false) (Rows.stackScalesSpec.post enc Try.prog Try.f11 false true false false) := by
  refine returnsInHanded_of_change (C := Try.checked) own started (by kernel_rfl) Try.func11
    (ChangeSpec.witness6 (enc := enc) (C := Try.checked) false ⟨#[], #[.slice none 0 0, .agg #[.int .i64 0, .int .i64 0, .int .i64 0], .agg #[.int .i64 0, .int .i64 0, .int .i64 0], .int .u8 0], []⟩ 8 (by kernel_rfl) (by kernel_rfl) (by kernel_rfl) (by kernel_rfl)) ?_
  intro W base args ds gs before hval hW _ _
  exact contract H enc W base args ds gs before hval hW
theorem ay1 {a b : Bool} (h : a = true) (k : b = true) : (a && b) = true := by rw [h, k]; rfl
set_option maxHeartbeats 40000000 in
theorem jf : joinedFacts Try.pinned.checked.prog 11 Try.f11 Rows.stackScalesSpec Rows.stackScalesRow = true := by
  unfold joinedFacts
  repeat' (with_reducible (refine ay1 ?_ ?_))
  all_goals (as_aux_lemma => kernel_rfl)
theorem said : Rows.StackScalesSaid :=
  OpenClaim.holds_of_wide 11 Try.f11 rfl rfl rfl rfl rfl rfl rfl ⟨rfl, rfl, rfl, rfl, rfl⟩ rfl rfl rfl rfl rfl (by kernel_rfl) Try.func11 jf
    (of_decide_eq_true (by kernel_rfl)) (by unfold Func.isWrapper; first | (rw [if_pos (by decide +kernel)]; kernel_rfl) | (rw [if_neg (by decide +kernel)]; exact ⟨rfl, rfl⟩))
    (fun os started H enc _ => lifted os started H enc)
end Go.Proofs.Ytccnimhgjjnmoaa.lawStackScales
end
