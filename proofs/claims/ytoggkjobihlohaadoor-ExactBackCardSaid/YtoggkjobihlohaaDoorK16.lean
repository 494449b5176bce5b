/-
  ExactBack: the row and the card: for every input the statement answers true and leaves its arguments as they were. Conditions: those of the row (the listed tables read as laid).
-/
import Derived.Test.YtoggkjobihlohaaDoorR1
import Derived.Test.YtoggkjobihlohaaDoorR3
import Derived.Test.YtoggkjobihlohaaDoorF43
namespace Go.Proofs.YtoggkjobihlohaaDoor.lawExactBack
open Go Go.Sx Go.ChangeShapes Go.WideShapes Go.RowKit
set_option maxRecDepth 100000

theorem contract (H : Type) (enc : TypeId × Value → H) (W : World) (base : Nat) (args : Array Value) (ds gs : List (DataW H)) (before : List MemPlace)
    (hval : ∀ (j : Nat) t v, Tryd.f16.params[j]? = some t → args[j]? = some v → Value.okWide Tryd.prog W .any base t v)
    (hW : DataW.Whole enc Tryd.prog Tryd.f16.params.toList Rows.exactBackSpec.vars false W args.toList ds gs before) (hL : laidMetH Tryd.prog Rows.exactBackRow.laid W) (hs : W.ShapedOpen Tryd.prog) :
    Calls Tryd.prog 16 args W fun e W' => ∃ v, e = .returned v ∧ Rows.exactBackSpec.post enc Tryd.prog Tryd.f16 false true false false W args v W' := by
  have hW' := hW
  obtain ⟨p, q, hA0, -, -, -, -⟩ := hW
  have hA : DataW.TrodAll enc Tryd.prog W 0 (fun _ => true) true Tryd.f16.params.toList args.toList ds p := hA0
  rw [Tryd.params16] at hA hval
  obtain ⟨v0, vs0, d0, ds0, p0, q0, hargs, rfl, rfl, h0, r0⟩ := trodAll_cons hA
  obtain ⟨v1, vs1, d1, ds1, p1, q1, rfl, rfl, rfl, h1, r1⟩ := trodAll_cons r0
  obtain ⟨v2, vs2, d2, ds2, p2, q2, rfl, rfl, rfl, h2, r2⟩ := trodAll_cons r1
  obtain ⟨rfl, rfl, rfl⟩ := trodAll_nil r2
  obtain rfl : args = #[v0, v1, v2] := by cases args; simp_all
  obtain ⟨a0, b0, rfl, i0, j0⟩ := arg_rat (hval 0 23 v0 rfl rfl) h0
  obtain ⟨I1, xs1, ok1, rg1, in1⟩ := arg_ints (hval 1 56 v1 rfl rfl) h1
  obtain ⟨s2, rfl⟩ := arg_str (hval 2 9 v2 rfl rfl) h2
  refine (law_calls_slE (args := [.agg [.v (.int .i64 a0), .v (.int .i64 b0)], .a (.sl 0 0 xs1.length), .a (.v (.string s2))]) (q := [inR .i64 a0, inR .i64 b0, (0 : Nat) = 0, xs1.length = xs1.length, inAllI xs1]) (xs := xs1) (vs := [.agg #[.int .i64 a0, .int .i64 b0], v1, .string s2]) c16_ok rfl ⟨i0, j0, rfl, rfl, in1, trivial⟩ (laidE_of hL hs) (size_of_shape hs) ⟨ok_rat a0 b0, ok1, ok_str s2, trivial⟩ rg1).mono fun e W' ⟨he, hb⟩ => ?_
  subst he
  exact ⟨_, rfl, post_true (by kernel_rfl) rfl (by kernel_rfl) hW' rfl hb⟩

theorem laid_met (os : Os) : laidMet Tryd.prog Rows.exactBackRow.laid ((laidWorldE os).forCall (fun _ _ => 0) ⟨#[], #[Value.agg #[.int .i64 0, .int .i64 0], Value.slice none 0 0, Value.string ⟨#[]⟩], []⟩).memory := wE_laid os _
theorem reads (os : Os) {H : Type} (enc : TypeId × Value → H) : ∃ places, DataW.whole enc Tryd.prog ((laidWorldE os).forCall (fun _ _ => 0) ⟨#[], #[Value.agg #[.int .i64 0, .int .i64 0], Value.slice none 0 0, Value.string ⟨#[]⟩], []⟩).memory Tryd.f16.params.toList Rows.exactBackSpec.vars false #[Value.agg #[.int .i64 0, .int .i64 0], Value.slice none 0 0, Value.string ⟨#[]⟩].toList 8 = some ([.agg [.lit (.int .i64 0), .lit (.int .i64 0)], .nil, .lit (.string [])], [], places) :=
  ⟨[], by kernel_rfl⟩
theorem lifted (os : Os) (started : os.Started) (H : Type) (enc : TypeId × Value → H) (F : Stop.Interp) :
    ReturnsInHanded {} Tryd.checked os 16 .any ((OpenSpec.ofChange Rows.exactBackSpec).preRow enc Tryd.prog Tryd.f16 Rows.exactBackRow.domain false Rows.exactBackRow.laid) (((OpenSpec.ofChange Rows.exactBackSpec).at F).post enc Tryd.prog Tryd.f16 false true false false) := by
  obtain ⟨places, hx⟩ := reads os enc
  refine returnsInHanded_of_row (C := Tryd.checked) (s := OpenSpec.ofChange Rows.exactBackSpec) own started (by kernel_rfl) Tryd.func16
    (witness_row_at (enc := enc) (C := Tryd.checked) false (laidWorldE os) #[Value.agg #[.int .i64 0, .int .i64 0], Value.slice none 0 0, Value.string ⟨#[]⟩] rfl (wE_vars os _) (wE_rest os _) (by kernel_rfl)
      (OpenSpec.preRow_of_cond 8 hx (by kernel_rfl) (fun k hk => by cases hk) (by kernel_rfl) (laid_met os))) ?_
  intro W base args ds gs before hval hW _ _ _ hL hs _
  exact contract H enc W base args ds gs before hval hW hL hs
theorem said : Rows.ExactBackSaid :=
  OpenClaim.holds_of_cond 16 Tryd.f16 rfl rfl rfl rfl rfl rfl rfl ⟨rfl, rfl, rfl, rfl, rfl⟩ rfl rfl rfl rfl rfl (by kernel_rfl) Tryd.func16 (by kernel_rfl)
    (of_decide_eq_true (by kernel_rfl)) (by unfold Func.isWrapper; first | (rw [if_pos (by decide +kernel)]; kernel_rfl) | (rw [if_neg (by decide +kernel)]; exact ⟨rfl, rfl⟩))
    (fun os started H enc _ F => by rw [OpenClaim.pre_eq_preRow]; exact lifted os started H enc F)
theorem plain (f : FuncId) (fn : Func) (hf : Tryd.pinned.checked.prog.funcNamed "wringing/wringinglaw01.ExactBack" = some f) (hfn : Tryd.pinned.checked.prog.funcs[f]? = some fn) :
    true = Tryd.pinned.checked.prog.looks [] ∧ ∀ (j : Nat) t, fn.params[j]? = some t → Tryd.pinned.checked.prog.wantsStandIn t = false :=
  plain2 (show Tryd.prog.funcNamed "wringing/wringinglaw01.ExactBack" = some 16 by kernel_rfl) Tryd.func16 Tryd.params16 (by decide) f fn hf hfn
theorem card : Rows.ExactBackCardSaid :=
  Claim7.holds_tied_plain_at .later [] _ _ _ _ said (fun _ h => by cases h) (by kernel_rfl) (fun _ h => by cases h) exactBack_row_tie rfl ⟨rfl, rfl⟩ (by kernel_rfl) rfl plain (by kernel_rfl)
end Go.Proofs.YtoggkjobihlohaaDoor.lawExactBack
