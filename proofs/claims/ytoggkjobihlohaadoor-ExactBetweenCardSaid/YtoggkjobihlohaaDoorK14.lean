/-
  ExactBetween: the row and the card: for every input the statement answers true and leaves its arguments as they were. Conditions: those of the row (the listed tables read as laid).
-/
import Derived.Test.YtoggkjobihlohaaDoorR1
import Derived.Test.YtoggkjobihlohaaDoorF30
namespace Go.Proofs.YtoggkjobihlohaaDoor.lawExactBetween
open Go Go.Sx Go.ChangeShapes Go.WideShapes Go.RowKit
set_option maxRecDepth 100000

theorem contract (H : Type) (enc : TypeId × Value → H) (W : World) (base : Nat) (args : Array Value) (ds gs : List (DataW H)) (before : List MemPlace)
    (hval : ∀ (j : Nat) t v, Tryd.f14.params[j]? = some t → args[j]? = some v → Value.okWide Tryd.prog W .any base t v)
    (hW : DataW.Whole enc Tryd.prog Tryd.f14.params.toList Rows.exactBetweenSpec.vars false W args.toList ds gs before) (hL : laidMetH Tryd.prog Rows.exactBetweenRow.laid W) (hs : W.ShapedOpen Tryd.prog) :
    Calls Tryd.prog 14 args W fun e W' => ∃ v, e = .returned v ∧ Rows.exactBetweenSpec.post enc Tryd.prog Tryd.f14 false true false false W args v W' := by
  have hW' := hW
  obtain ⟨p, q, hA0, -, -, -, -⟩ := hW
  have hA : DataW.TrodAll enc Tryd.prog W 0 (fun _ => true) true Tryd.f14.params.toList args.toList ds p := hA0
  rw [Tryd.params14] at hA hval
  obtain ⟨v0, vs0, d0, ds0, p0, q0, hargs, rfl, rfl, h0, r0⟩ := trodAll_cons hA
  obtain ⟨v1, vs1, d1, ds1, p1, q1, rfl, rfl, rfl, h1, r1⟩ := trodAll_cons r0
  obtain ⟨v2, vs2, d2, ds2, p2, q2, rfl, rfl, rfl, h2, r2⟩ := trodAll_cons r1
  obtain ⟨v3, vs3, d3, ds3, p3, q3, rfl, rfl, rfl, h3, r3⟩ := trodAll_cons r2
  obtain ⟨v4, vs4, d4, ds4, p4, q4, rfl, rfl, rfl, h4, r4⟩ := trodAll_cons r3
  obtain ⟨rfl, rfl, rfl⟩ := trodAll_nil r4
  obtain rfl : args = #[v0, v1, v2, v3, v4] := by cases args; simp_all
  obtain ⟨a0, b0, c0, e0, rfl, i0, j0, k0, l0⟩ := arg_range (hval 0 35 v0 rfl rfl) h0
  obtain ⟨a1, b1, c1, e1, rfl, i1, j1, k1, l1⟩ := arg_range (hval 1 35 v1 rfl rfl) h1
  obtain ⟨a2, b2, rfl, i2, j2⟩ := arg_rat (hval 2 23 v2 rfl rfl) h2
  obtain ⟨a3, b3, rfl, i3, j3⟩ := arg_rat (hval 3 23 v3 rfl rfl) h3
  obtain ⟨n4, rfl, i4⟩ := arg_int (hval 4 3 v4 rfl rfl) h4
  refine (law_calls (args := [.agg [.v (.int .i64 a0), .v (.int .i64 b0), .v (.int .i64 c0), .v (.int .i64 e0)], .agg [.v (.int .i64 a1), .v (.int .i64 b1), .v (.int .i64 c1), .v (.int .i64 e1)], .agg [.v (.int .i64 a2), .v (.int .i64 b2)], .agg [.v (.int .i64 a3), .v (.int .i64 b3)], .a (.v (.int .i64 n4))]) (q := [inR .i64 a0, inR .i64 b0, inR .i64 c0, inR .i64 e0, inR .i64 a1, inR .i64 b1, inR .i64 c1, inR .i64 e1, inR .i64 a2, inR .i64 b2, inR .i64 a3, inR .i64 b3, inR .i64 n4]) (vs := [.agg #[.int .i64 a0, .int .i64 b0, .int .i64 c0, .int .i64 e0], .agg #[.int .i64 a1, .int .i64 b1, .int .i64 c1, .int .i64 e1], .agg #[.int .i64 a2, .int .i64 b2], .agg #[.int .i64 a3, .int .i64 b3], .int .i64 n4]) c14_ok rfl ⟨i0, j0, k0, l0, i1, j1, k1, l1, i2, j2, i3, j3, i4, trivial⟩ (laid_of hL hs) (size_of_shape hs) ⟨ok_range a0 b0 c0 e0, ok_range a1 b1 c1 e1, ok_rat a2 b2, ok_rat a3 b3, ok_int n4, trivial⟩).mono fun e W' ⟨he, hb⟩ => ?_
  subst he
  exact ⟨_, rfl, post_true (by kernel_rfl) rfl (by kernel_rfl) hW' rfl hb⟩

theorem laid_met (os : Os) : laidMet Tryd.prog Rows.exactBetweenRow.laid ((laidWorld os).forCall (fun _ _ => 0) ⟨#[], #[Value.agg #[.int .i64 0, .int .i64 0, .int .i64 0, .int .i64 0], Value.agg #[.int .i64 0, .int .i64 0, .int .i64 0, .int .i64 0], Value.agg #[.int .i64 0, .int .i64 0], Value.agg #[.int .i64 0, .int .i64 0], Value.int .i64 0], []⟩).memory := w_laid os _
theorem reads (os : Os) {H : Type} (enc : TypeId × Value → H) : ∃ places, DataW.whole enc Tryd.prog ((laidWorld os).forCall (fun _ _ => 0) ⟨#[], #[Value.agg #[.int .i64 0, .int .i64 0, .int .i64 0, .int .i64 0], Value.agg #[.int .i64 0, .int .i64 0, .int .i64 0, .int .i64 0], Value.agg #[.int .i64 0, .int .i64 0], Value.agg #[.int .i64 0, .int .i64 0], Value.int .i64 0], []⟩).memory Tryd.f14.params.toList Rows.exactBetweenSpec.vars false #[Value.agg #[.int .i64 0, .int .i64 0, .int .i64 0, .int .i64 0], Value.agg #[.int .i64 0, .int .i64 0, .int .i64 0, .int .i64 0], Value.agg #[.int .i64 0, .int .i64 0], Value.agg #[.int .i64 0, .int .i64 0], Value.int .i64 0].toList 8 = some ([.agg [.agg [.lit (.int .i64 0), .lit (.int .i64 0)], .agg [.lit (.int .i64 0), .lit (.int .i64 0)]], .agg [.agg [.lit (.int .i64 0), .lit (.int .i64 0)], .agg [.lit (.int .i64 0), .lit (.int .i64 0)]], .agg [.lit (.int .i64 0), .lit (.int .i64 0)], .agg [.lit (.int .i64 0), .lit (.int .i64 0)], .lit (.int .i64 0)], [], places) :=
  ⟨[], by kernel_rfl⟩
theorem lifted (os : Os) (started : os.Started) (H : Type) (enc : TypeId × Value → H) (F : Stop.Interp) :
    ReturnsInHanded {} Tryd.checked os 14 .any ((OpenSpec.ofChange Rows.exactBetweenSpec).preRow enc Tryd.prog Tryd.f14 Rows.exactBetweenRow.domain false Rows.exactBetweenRow.laid) (((OpenSpec.ofChange Rows.exactBetweenSpec).at F).post enc Tryd.prog Tryd.f14 false true false false) := by
  obtain ⟨places, hx⟩ := reads os enc
  refine returnsInHanded_of_row (C := Tryd.checked) (s := OpenSpec.ofChange Rows.exactBetweenSpec) own started (by kernel_rfl) Tryd.func14
    (witness_row_at (enc := enc) (C := Tryd.checked) false (laidWorld os) #[Value.agg #[.int .i64 0, .int .i64 0, .int .i64 0, .int .i64 0], Value.agg #[.int .i64 0, .int .i64 0, .int .i64 0, .int .i64 0], Value.agg #[.int .i64 0, .int .i64 0], Value.agg #[.int .i64 0, .int .i64 0], Value.int .i64 0] rfl (w_vars os _) (w_rest os _) (by kernel_rfl)
      (OpenSpec.preRow_of_cond 8 hx (by kernel_rfl) (fun k hk => by cases hk) (by kernel_rfl) (laid_met os))) ?_
  intro W base args ds gs before hval hW _ _ _ hL hs _
  exact contract H enc W base args ds gs before hval hW hL hs
theorem said : Rows.ExactBetweenSaid :=
  OpenClaim.holds_of_cond 14 Tryd.f14 rfl rfl rfl rfl rfl rfl rfl ⟨rfl, rfl, rfl, rfl, rfl⟩ rfl rfl rfl rfl rfl (by kernel_rfl) Tryd.func14 (by kernel_rfl)
    (of_decide_eq_true (by kernel_rfl)) (by unfold Func.isWrapper; first | (rw [if_pos (by decide +kernel)]; kernel_rfl) | (rw [if_neg (by decide +kernel)]; exact ⟨rfl, rfl⟩))
    (fun os started H enc _ F => by rw [OpenClaim.pre_eq_preRow]; exact lifted os started H enc F)
theorem plain (f : FuncId) (fn : Func) (hf : Tryd.pinned.checked.prog.funcNamed "wringing/wringinglaw01.ExactBetween" = some f) (hfn : Tryd.pinned.checked.prog.funcs[f]? = some fn) :
    true = Tryd.pinned.checked.prog.looks [] ∧ ∀ (j : Nat) t, fn.params[j]? = some t → Tryd.pinned.checked.prog.wantsStandIn t = false :=
  plain2 (show Tryd.prog.funcNamed "wringing/wringinglaw01.ExactBetween" = some 14 by kernel_rfl) Tryd.func14 Tryd.params14 (by decide) f fn hf hfn
theorem card : Rows.ExactBetweenCardSaid :=
  Claim7.holds_tied_plain_at .later [] _ _ _ _ said (fun _ h => by cases h) (by kernel_rfl) (fun _ h => by cases h) exactBetween_row_tie rfl ⟨rfl, rfl⟩ (by kernel_rfl) rfl plain (by kernel_rfl)
end Go.Proofs.YtoggkjobihlohaaDoor.lawExactBetween
