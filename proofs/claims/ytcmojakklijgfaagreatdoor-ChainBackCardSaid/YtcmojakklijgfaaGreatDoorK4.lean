/-
  ChainBack: for every input the statement answers true and leaves its arguments as they were. Conditions: those of the row (the listed tables read as laid).
-/
import Derived.Test.YtcmojakklijgfaaGreatDoorYk5t
import Derived.Test.YtcmojakklijgfaaGreatDoorYk6t
set_option linter.all false
set_option maxRecDepth 100000
set_option maxHeartbeats 4000000
section
namespace Go.Proofs.YtcmojakklijgfaaGreatDoor.lawChainBack
open Go Go.Sy Go.Chn Go.ChangeShapes Go.WideShapes Go.RowKit
set_option maxRecDepth 100000
set_option linter.unusedVariables false

theorem contract (H : Type) (enc : TypeId × Value → H) (W : World) (base : Nat) (args : Array Value) (ds gs : List (DataW H)) (before : List MemPlace)
    (hval : ∀ (j : Nat) t v, Tryz.f4.params[j]? = some t → args[j]? = some v → Value.okWide Tryz.prog W .any base t v)
    (hW : DataW.Whole enc Tryz.prog Tryz.f4.params.toList Rows.chainBackSpec.vars false W args.toList ds gs before) (hL : laidMetH Tryz.prog Rows.chainBackRow.laid W) (hs : W.ShapedOpen Tryz.prog) :
    Calls Tryz.prog 4 args W fun e W' => ∃ v, e = .returned v ∧ Rows.chainBackSpec.post enc Tryz.prog Tryz.f4 false true false false W args v W' := by
  have hW' := hW
  obtain ⟨p, q, hA0, -, -, -, -⟩ := hW
  have hA : DataW.TrodAll enc Tryz.prog W 0 (fun _ => true) true Tryz.f4.params.toList args.toList ds p := hA0
  rw [Tryz.params4] at hA hval
  obtain ⟨v0, vs0, d0, ds0, p0, q0, hargs, rfl, rfl, h0, r0⟩ := trodAll_cons hA
  obtain ⟨v1, vs1, d1, ds1, p1, q1, rfl, rfl, rfl, h1, r1⟩ := trodAll_cons r0
  obtain ⟨rfl, rfl, rfl⟩ := trodAll_nil r1
  obtain rfl : args = #[v0, v1] := by cases args; simp_all
  obtain ⟨n0, c0, I0, xs0, rfl, k0, s0⟩ := arg_sys (hval 0 24 v0 rfl rfl) h0
  obtain ⟨t1, rfl⟩ := arg_str (hval 1 9 v1 rfl rfl) h1
  refine (law_callsT (hL := laidT_of hL hs) (As := [⟨54, kL, xs0, I0⟩]) (args := [.agg [.v (.int .i64 n0), .sl 0 [] 0 xs0.length], .a (.v (.string t1))]) (vs := [.agg #[.int .i64 n0, c0], .string t1]) c_ChainBack_ok rfl ⟨rfl, rfl, trivial⟩ (fun A hA => ?_) ⟨ok_sys (Nat.le_of_ble_eq_true rfl) k0, ok_str t1, trivial⟩).mono fun e W' ⟨he, hb⟩ => ?_
  · simp only [List.mem_cons, List.not_mem_nil, or_false] at hA
    rcases hA with rfl
    · exact ⟨rfl, s0⟩
  subst he
  exact ⟨_, rfl, post_true (by kernel_rfl) rfl (by kernel_rfl) hW' rfl hb⟩

theorem laid_met (os : Os) : laidMet Tryz.prog Rows.chainBackRow.laid ((laidWorld7 os).forCall (fun _ _ => 0) ⟨#[], #[Value.agg #[.int .i64 0, .slice none 0 0], Value.string ByteArray.empty], []⟩).memory := w7_laid os _
theorem reads (os : Os) {H : Type} (enc : TypeId × Value → H) : ∃ places, DataW.whole enc Tryz.prog ((laidWorld7 os).forCall (fun _ _ => 0) ⟨#[], #[Value.agg #[.int .i64 0, .slice none 0 0], Value.string ByteArray.empty], []⟩).memory Tryz.f4.params.toList Rows.chainBackSpec.vars false #[Value.agg #[.int .i64 0, .slice none 0 0], Value.string ByteArray.empty].toList 8 = some ([.agg [.lit (.int .i64 0), .nil], .lit (.string [])], [], places) :=
  ⟨[], by kernel_rfl⟩
theorem lifted (os : Os) (started : os.Started) (H : Type) (enc : TypeId × Value → H) (F : Stop.Interp) :
    ReturnsInHanded {} Tryz.checked os 4 .any ((OpenSpec.ofChange Rows.chainBackSpec).preRow enc Tryz.prog Tryz.f4 Rows.chainBackRow.domain false Rows.chainBackRow.laid) (((OpenSpec.ofChange Rows.chainBackSpec).at F).post enc Tryz.prog Tryz.f4 false true false false) := by
  obtain ⟨places, hx⟩ := reads os enc
  refine returnsInHanded_of_row (C := Tryz.checked) (s := OpenSpec.ofChange Rows.chainBackSpec) own started (by kernel_rfl) Tryz.func4
    (witness_row_at (enc := enc) (C := Tryz.checked) false (laidWorld7 os) #[Value.agg #[.int .i64 0, .slice none 0 0], Value.string ByteArray.empty] rfl (w7_vars os _) (w7_rest os _) (by kernel_rfl)
      (OpenSpec.preRow_of_cond 8 hx (by kernel_rfl) (fun k hk => by cases hk) (by kernel_rfl) (laid_met os))) ?_
  intro W base args ds gs before hval hW _ _ _ hL hs _
  exact contract H enc W base args ds gs before hval hW hL hs
theorem said : Rows.ChainBackSaid :=
  OpenClaim.holds_of_cond 4 Tryz.f4 rfl rfl rfl rfl rfl rfl rfl ⟨rfl, rfl, rfl, rfl, rfl⟩ rfl rfl rfl rfl rfl (by kernel_rfl) Tryz.func4 (by kernel_rfl)
    (of_decide_eq_true (by kernel_rfl)) (by unfold Func.isWrapper; first | (rw [if_pos (by decide +kernel)]; kernel_rfl) | (rw [if_neg (by decide +kernel)]; exact ⟨rfl, rfl⟩))
    (fun os started H enc _ F => by rw [OpenClaim.pre_eq_preRow]; exact lifted os started H enc F)
theorem plain (f : FuncId) (fn : Func) (hf : Tryz.pinned.checked.prog.funcNamed "wringing/wringinglaw02.ChainBack" = some f) (hfn : Tryz.pinned.checked.prog.funcs[f]? = some fn) :
    true = Tryz.pinned.checked.prog.looks [] ∧ ∀ (j : Nat) t, fn.params[j]? = some t → Tryz.pinned.checked.prog.wantsStandIn t = false :=
  plain2X (show Tryz.prog.funcNamed "wringing/wringinglaw02.ChainBack" = some 4 by kernel_rfl) Tryz.func4 Tryz.params4 (by decide) f fn hf hfn
theorem card : Rows.ChainBackCardSaid :=
  Claim7.holds_tied_plain_at .later [] _ _ _ _ said (fun _ h => by cases h) (by kernel_rfl) (fun _ h => by cases h) chainBack_row_tie rfl ⟨rfl, rfl⟩ (by kernel_rfl) rfl plain (by kernel_rfl)
end Go.Proofs.YtcmojakklijgfaaGreatDoor.lawChainBack
end
