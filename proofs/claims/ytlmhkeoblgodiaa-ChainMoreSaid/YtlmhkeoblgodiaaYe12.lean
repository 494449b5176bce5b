/-
  Texts of the claims on chapter 2: Ye12. No condition: lemmas and contracts.
-/
import Derived.Test.YtlmhkeoblgodiaaYe3
set_option linter.all false
section
/-
  Chapter 2: from a walk to the row: arguments of one byte, and links. No condition.
-/
namespace Go.Proofs.Ytlmhkeoblgodiaa
open Go Go.Sy Go.ChangeShapes Go.WideShapes Go.RowKit
set_option maxRecDepth 100000
set_option linter.unusedVariables false
section
variable {H : Type} {enc : TypeId × Value → H} {w : World} {base : Nat} {spare : Nat → Bool} {held : Bool}
theorem arg_u8 {r : Reach} {b0 : Nat} {v : Value} {d : DataW H} {p : List MemPlace} (hv : Value.okWide Try.prog w r b0 5 v) (h : DataW.Trod enc Try.prog w base spare held 5 v d p) : ∃ n, v = .int .u8 n ∧ 0 ≤ n ∧ n < 256 := by
  obtain ⟨n, rfl, _, _, hw⟩ := open_int Try.underlying5 hv h
  refine ⟨n, rfl, ?_⟩
  simp [Lit.wf, IntKind.min, IntKind.max, IntKind.signed, IntKind.bits] at hw
  omega
theorem arg_link {r : Reach} {b0 : Nat} {v : Value} {d : DataW H} {p : List MemPlace} (hv : Value.okWide Try.prog w r b0 44 v) (h : DataW.Trod enc Try.prog w base spare held 44 v d p) : ∃ a b c, v = .agg #[.int .i64 a, .int .i64 b, .int .i64 c] := by
  have hv' := hv
  simp only [Value.okWide, Try.underlying44] at hv'
  obtain ⟨cs, rfl, hsz, ts, hts, -, hrow⟩ := hv'
  obtain ⟨l⟩ := cs
  have hl : l.length = 3 := hsz.trans (by kernel_rfl)
  match l, hl with
  | [c0, c1, c2], _ =>
    obtain ⟨fuel, hf⟩ := h
    obtain ⟨xs, n, _, _, _, hlen, hf⟩ := DataW.trod_struct Try.underlying44 hf
    match xs, hlen with
    | [y0, y1, y2], _ =>
      have e : Try.prog.cellsOf 3 = 1 := by kernel_rfl
      obtain ⟨a, rfl⟩ := cell_int (c := c0) (by simpa [e, Value.cells] using hf 0 _ rfl)
      obtain ⟨b, rfl⟩ := cell_int (c := c1) (by simpa [e, Value.cells] using hf 1 _ rfl)
      obtain ⟨c, rfl⟩ := cell_int (c := c2) (by simpa [e, Value.cells] using hf 2 _ rfl)
      exact ⟨a, b, c, rfl⟩
end
theorem ok_u8 {N : Nat} {ρ : Keys} (n : Int) : Tm.ok N ρ (.a (.v (.int .u8 n))) (.int .u8 n) := ⟨rfl, rfl⟩
theorem ok_link {N : Nat} {ρ : Keys} (a b c : Int) : Tm.ok N ρ (.agg [.v (.int .i64 a), .v (.int .i64 b), .v (.int .i64 c)]) (.agg #[.int .i64 a, .int .i64 b, .int .i64 c]) := ⟨[_, _, _], rfl, ⟨rfl, rfl⟩, ⟨rfl, rfl⟩, ⟨rfl, rfl⟩, trivial⟩
end Go.Proofs.Ytlmhkeoblgodiaa
end
