/-
  PlateShops: for every input the statement answers true and leaves its arguments as they were. Conditions: those of the row (the listed tables read as laid).
-/
import Derived.Test.YthejmgnkenokpaaGreatDoorYk1c
import Derived.Test.YthejmgnkenokpaaGreatDoorYk2c
import Derived.Test.YthejmgnkenokpaaGreatDoorYm1c
set_option linter.all false
set_option maxRecDepth 100000
set_option maxHeartbeats 4000000
section
namespace Go.Proofs.YthejmgnkenokpaaGreatDoor.lawPlateShops
open Go Go.Sy Go.bK Go.ChangeShapes Go.WideShapes Go.RowKit
set_option maxRecDepth 100000
set_option linter.unusedVariables false

theorem contract (H : Type) (enc : TypeId × Value -> H) (W : World) (base : Nat) (args : Array Value) (ds gs : List (DataW H)) (before : List MemPlace)
    (hval : ∀ (j : Nat) t v, Tryz.f6.params[j]? = some t -> args[j]? = some v -> Value.okWide Tryz.prog W .any base t v)
    (hW : DataW.Whole enc Tryz.prog Tryz.f6.params.toList Rows.plateShopsSpec.vars false W args.toList ds gs before) (hL : laidMetH Tryz.prog Rows.plateShopsRow.laid W) (hs : W.ShapedOpen Tryz.prog) :
    Calls Tryz.prog 6 args W fun e W' => ∃ v, e = .returned v /\ Rows.plateShopsSpec.post enc Tryz.prog Tryz.f6 false true false false W args v W' := by
  have xQ := hW
  obtain ⟨p, q, G7, -, -, -, -⟩ := hW
  have hA : DataW.TrodAll enc Tryz.prog W 0 (fun _ => true) true Tryz.f6.params.toList args.toList ds p := G7
  rw [Tryz.params6] at hA hval
  obtain ⟨v0, Qa, d0, Pt, p0, q0, hargs, rfl, rfl, h0, r0⟩ := trodAll_cons hA
  obtain ⟨v1, Qb, d1, Dn, p1, q1, rfl, rfl, rfl, h1, r1⟩ := trodAll_cons r0
  obtain ⟨v2, Qc, d2, xE, p2, q2, rfl, rfl, rfl, h2, r2⟩ := trodAll_cons r1
  obtain ⟨rfl, rfl, rfl⟩ := trodAll_nil r2
  obtain rfl : args = #[v0, v1, v2] := by cases args; simp_all
  obtain ⟨n0, m0, c0, I0, KJ, rfl, k0, s0⟩ := IE (hval 0 24 v0 rfl rfl) h0
  obtain ⟨a1, b1, e1, rfl⟩ := XZ (hval 1 46 v1 rfl rfl) h1
  obtain ⟨t2, rfl⟩ := aii (hval 2 9 v2 rfl rfl) h2
  refine (ahw (hL := ah7 hL hs) (As := [⟨46, kW, KJ, I0⟩]) (args := [.agg [.v (.int .i64 n0), .v (.int .i64 m0), .sl 0 [] 0 KJ.length], .agg [.v (.int .i64 a1), .v (.int .i64 b1), .v (.int .i64 e1)], .a (.v (.string t2))]) (vs := [.agg #[.int .i64 n0, .int .i64 m0, c0], .agg #[.int .i64 a1, .int .i64 b1, .int .i64 e1], .string t2]) ahp rfl ⟨rfl, rfl, trivial⟩ (fun A hA => ?_) ⟨Lz (Nat.le_of_ble_eq_true rfl) k0, YK a1 b1 e1, aiO t2, trivial⟩).mono fun e W' ⟨he, hb⟩ => ?_
  · simp only [List.mem_cons, List.not_mem_nil, or_false] at hA
    rcases hA with rfl
    · exact ⟨rfl, s0⟩
  subst he
  exact ⟨_, rfl, rF (by kernel_rfl) rfl (by kernel_rfl) xQ rfl hb⟩

theorem mP (os : Os) : laidMet Tryz.prog Rows.plateShopsRow.laid ((hJ os).forCall (fun _ _ => 0) ⟨#[], #[Value.agg #[.int .i64 0, .int .i64 0, .slice none 0 0], Value.agg #[.int .i64 0, .int .i64 0, .int .i64 0], Value.string ByteArray.empty], []⟩).memory := ais os _
theorem reads (os : Os) {H : Type} (enc : TypeId × Value -> H) : ∃ places, DataW.whole enc Tryz.prog ((hJ os).forCall (fun _ _ => 0) ⟨#[], #[Value.agg #[.int .i64 0, .int .i64 0, .slice none 0 0], Value.agg #[.int .i64 0, .int .i64 0, .int .i64 0], Value.string ByteArray.empty], []⟩).memory Tryz.f6.params.toList Rows.plateShopsSpec.vars false #[Value.agg #[.int .i64 0, .int .i64 0, .slice none 0 0], Value.agg #[.int .i64 0, .int .i64 0, .int .i64 0], Value.string ByteArray.empty].toList 8 = some ([.agg [.lit (.int .i64 0), .lit (.int .i64 0), .nil], .agg [.lit (.int .i64 0), .lit (.int .i64 0), .lit (.int .i64 0)], .lit (.string [])], [], places) :=
  ⟨[], by kernel_rfl⟩
theorem lifted (os : Os) (started : os.Started) (H : Type) (enc : TypeId × Value -> H) (F : Stop.Interp) :
    ReturnsInHanded {} Tryz.checked os 6 .any ((OpenSpec.ofChange Rows.plateShopsSpec).preRow enc Tryz.prog Tryz.f6 Rows.plateShopsRow.domain false Rows.plateShopsRow.laid) (((OpenSpec.ofChange Rows.plateShopsSpec).at F).post enc Tryz.prog Tryz.f6 false true false false) := by
  obtain ⟨places, hx⟩ := reads os enc
  refine returnsInHanded_of_row (C := Tryz.checked) (s := OpenSpec.ofChange Rows.plateShopsSpec) own started (by kernel_rfl) Tryz.func6
    (witness_row_at (enc := enc) (C := Tryz.checked) false (hJ os) #[Value.agg #[.int .i64 0, .int .i64 0, .slice none 0 0], Value.agg #[.int .i64 0, .int .i64 0, .int .i64 0], Value.string ByteArray.empty] rfl (aiu os _) (ait os _) (by kernel_rfl)
      (OpenSpec.preRow_of_cond 8 hx (by kernel_rfl) (fun k hk => by cases hk) (by kernel_rfl) (mP os))) ?_
  intro W base args ds gs before hval hW _ _ _ hL hs _
  exact contract H enc W base args ds gs before hval hW hL hs
theorem said : Rows.PlateShopsSaid :=
  OpenClaim.holds_of_cond 6 Tryz.f6 rfl rfl rfl rfl rfl rfl rfl ⟨rfl, rfl, rfl, rfl, rfl⟩ rfl rfl rfl rfl rfl (by kernel_rfl) Tryz.func6 (by kernel_rfl)
    (of_decide_eq_true (by kernel_rfl)) (by unfold Func.isWrapper; first | (rw [if_pos (by decide +kernel)]; kernel_rfl) | (rw [if_neg (by decide +kernel)]; exact ⟨rfl, rfl⟩))
    (fun os started H enc _ F => by rw [OpenClaim.pre_eq_preRow]; exact lifted os started H enc F)
theorem plain (f : FuncId) (fn : Func) (hf : Tryz.pinned.checked.prog.funcNamed "wringing/wringinglaw03.PlateShops" = some f) (hfn : Tryz.pinned.checked.prog.funcs[f]? = some fn) :
    true = Tryz.pinned.checked.prog.looks [] /\ ∀ (j : Nat) t, fn.params[j]? = some t -> Tryz.pinned.checked.prog.wantsStandIn t = false :=
  aio (show Tryz.prog.funcNamed "wringing/wringinglaw03.PlateShops" = some 6 by kernel_rfl) Tryz.func6 Tryz.params6 (by decide) f fn hf hfn
theorem card : Rows.PlateShopsCardSaid :=
  Claim7.holds_tied_plain_at .later [] _ _ _ _ said (fun _ h => by cases h) (by kernel_rfl) (fun _ h => by cases h) plateShops_row_tie rfl ⟨rfl, rfl⟩ (by kernel_rfl) rfl plain (by kernel_rfl)
end Go.Proofs.YthejmgnkenokpaaGreatDoor.lawPlateShops
end
