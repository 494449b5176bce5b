/-
  ExactFractions: the row and the card: for every input the statement answers true and leaves its arguments as they were. Conditions: those of the row (the listed tables read as laid).
-/
import Derived.Test.YtoggkjobihlohaaDoorR1
import Derived.Test.YtoggkjobihlohaaDoorR2
import Derived.Test.YtoggkjobihlohaaDoorF35
namespace Go.Proofs.YtoggkjobihlohaaDoor.lawExactFractions
open Go Go.Sx Go.ChangeShapes Go.WideShapes Go.RowKit
set_option maxRecDepth 100000

theorem contract (H : Type) (enc : TypeId × Value → H) (W : World) (base : Nat) (args : Array Value) (ds gs : List (DataW H)) (before : List MemPlace)
    (hval : ∀ (j : Nat) t v, Tryd.f11.params[j]? = some t → args[j]? = some v → Value.okWide Tryd.prog W .any base t v)
    (hW : DataW.Whole enc Tryd.prog Tryd.f11.params.toList Rows.exactFractionsSpec.vars false W args.toList ds gs before) (hL : laidMetH Tryd.prog Rows.exactFractionsRow.laid W) (hs : W.ShapedOpen Tryd.prog) :
    Calls Tryd.prog 11 args W fun e W' => ∃ v, e = .returned v ∧ Rows.exactFractionsSpec.post enc Tryd.prog Tryd.f11 false true false false W args v W' := by
  have hW' := hW
  obtain ⟨p, q, hA0, -, -, -, -⟩ := hW
  have hA : DataW.TrodAll enc Tryd.prog W 0 (fun _ => true) true Tryd.f11.params.toList args.toList ds p := hA0
  rw [Tryd.params11] at hA hval
  obtain ⟨v0, vs0, d0, ds0, p0, q0, hargs, rfl, rfl, h0, r0⟩ := trodAll_cons hA
  obtain ⟨v1, vs1, d1, ds1, p1, q1, rfl, rfl, rfl, h1, r1⟩ := trodAll_cons r0
  obtain ⟨rfl, rfl, rfl⟩ := trodAll_nil r1
  obtain rfl : args = #[v0, v1] := by cases args; simp_all
  obtain ⟨a0, b0, rfl, i0, j0⟩ := arg_rat (hval 0 23 v0 rfl rfl) h0
  obtain ⟨I1, xs1, ok1, rg1, in1⟩ := arg_ints (hval 1 56 v1 rfl rfl) h1
  refine (law_calls_sl (args := [.agg [.v (.int .i64 a0), .v (.int .i64 b0)], .a (.sl 0 0 xs1.length)]) (q := [inR .i64 a0, inR .i64 b0, (0 : Nat) = 0, xs1.length = xs1.length, inAllI xs1]) (xs := xs1) (vs := [.agg #[.int .i64 a0, .int .i64 b0], v1]) c11_ok rfl ⟨i0, j0, rfl, rfl, in1, trivial⟩ (laid_of hL hs) (size_of_shape hs) ⟨ok_rat a0 b0, ok1, trivial⟩ rg1).mono fun e W' ⟨he, hb⟩ => ?_
  subst he
  exact ⟨_, rfl, post_true (by kernel_rfl) rfl (by kernel_rfl) hW' rfl hb⟩

theorem laid_met (os : Os) : laidMet Tryd.prog Rows.exactFractionsRow.laid ((laidWorld os).forCall (fun _ _ => 0) ⟨#[], #[Value.agg #[.int .i64 0, .int .i64 0], Value.slice none 0 0], []⟩).memory := w_laid os _
theorem reads (os : Os) {H : Type} (enc : TypeId × Value → H) : ∃ places, DataW.whole enc Tryd.prog ((laidWorld os).forCall (fun _ _ => 0) ⟨#[], #[Value.agg #[.int .i64 0, .int .i64 0], Value.slice none 0 0], []⟩).memory Tryd.f11.params.toList Rows.exactFractionsSpec.vars false #[Value.agg #[.int .i64 0, .int .i64 0], Value.slice none 0 0].toList 8 = some ([.agg [.lit (.int .i64 0), .lit (.int .i64 0)], .nil], [], places) :=
  ⟨[], by kernel_rfl⟩
theorem lifted (os : Os) (started : os.Started) (H : Type) (enc : TypeId × Value → H) (F : Stop.Interp) :
    ReturnsInHanded {} Tryd.checked os 11 .any ((OpenSpec.ofChange Rows.exactFractionsSpec).preRow enc Tryd.prog Tryd.f11 Rows.exactFractionsRow.domain false Rows.exactFractionsRow.laid) (((OpenSpec.ofChange Rows.exactFractionsSpec).at F).post enc Tryd.prog Tryd.f11 false true false false) := by
  obtain ⟨places, hx⟩ := reads os enc
  refine returnsInHanded_of_row (C := Tryd.checked) (s := OpenSpec.ofChange Rows.exactFractionsSpec) own started (by kernel_rfl) Tryd.func11
    (witness_row_at (enc := enc) (C := Tryd.checked) false (laidWorld os) #[Value.agg #[.int .i64 0, .int .i64 0], Value.slice none 0 0] rfl (w_vars os _) (w_rest os _) (by kernel_rfl)
      (OpenSpec.preRow_of_cond 8 hx (by kernel_rfl) (fun k hk => by cases hk) (by kernel_rfl) (laid_met os))) ?_
  intro W base args ds gs before hval hW _ _ _ hL hs _
  exact contract H enc W base args ds gs before hval hW hL hs
theorem said : Rows.ExactFractionsSaid :=
  OpenClaim.holds_of_cond 11 Tryd.f11 rfl rfl rfl rfl rfl rfl rfl ⟨rfl, rfl, rfl, rfl, rfl⟩ rfl rfl rfl rfl rfl (by kernel_rfl) Tryd.func11 (by kernel_rfl)
    (of_decide_eq_true (by kernel_rfl)) (by unfold Func.isWrapper; first | (rw [if_pos (by decide +kernel)]; kernel_rfl) | (rw [if_neg (by decide +kernel)]; exact ⟨rfl, rfl⟩))
    (fun os started H enc _ F => by rw [OpenClaim.pre_eq_preRow]; exact lifted os started H enc F)
theorem plain (f : FuncId) (fn : Func) (hf : Tryd.pinned.checked.prog.funcNamed "wringing/wringinglaw01.ExactFractions" = some f) (hfn : Tryd.pinned.checked.prog.funcs[f]? = some fn) :
    true = Tryd.pinned.checked.prog.looks [] ∧ ∀ (j : Nat) t, fn.params[j]? = some t → Tryd.pinned.checked.prog.wantsStandIn t = false :=
  plain2 (show Tryd.prog.funcNamed "wringing/wringinglaw01.ExactFractions" = some 11 by kernel_rfl) Tryd.func11 Tryd.params11 (by decide) f fn hf hfn
theorem card : Rows.ExactFractionsCardSaid :=
  Claim7.holds_tied_plain_at .later [] _ _ _ _ said (fun _ h => by cases h) (by kernel_rfl) (fun _ h => by cases h) exactFractions_row_tie rfl ⟨rfl, rfl⟩ (by kernel_rfl) rfl plain (by kernel_rfl)
end Go.Proofs.YtoggkjobihlohaaDoor.lawExactFractions
