/-
  From the walks to the rows: the library's errors, and arguments that are texts.
-/
import Derived.Test.YtoggkjobihlohaaDoorR2
import Derived.Test.YtoggkjobihlohaaDoorF40
namespace Go.Proofs.YtoggkjobihlohaaDoor
open Go Go.Sx Go.ChangeShapes Go.WideShapes Go.RowKit
set_option maxRecDepth 100000

theorem gE1 : Tryd.prog.globalNamed "strconv.ErrSyntax" = some 1 := by kernel_rfl
theorem gE2 : Tryd.prog.globalNamed "strconv.ErrRange" = some 2 := by kernel_rfl
theorem gE1Type : (Tryd.prog.globals[1]?).map (·.type) = some 117 := by kernel_rfl
theorem gE2Type : (Tryd.prog.globals[2]?).map (·.type) = some 117 := by kernel_rfl
theorem cells9 : Tryd.prog.cellsOf 9 = 1 := by kernel_rfl
theorem cells158 : Tryd.prog.cellsOf 158 = 1 := by kernel_rfl
theorem star : "*" ++ "errors.errorString" = "*errors.errorString" := by decide
theorem row156 (u : TypeId) (h : Tryd.prog.typeName? 3 u = some "*errors.errorString") : u = 156 :=
  typeName_ptr_named (nm := "errors.errorString") (by rw [star]; kernel_rfl) (by kernel_rfl) (by decide) u (by rw [star]; exact h)

/-- What the rows of texts list. -/
def laid5 : List (String × DataW Unit) := [("math/bits.deBruijn32tab", Rows.laid_math_bits_deBruijn32tab), ("math/bits.deBruijn64tab", Rows.laid_math_bits_deBruijn64tab), ("internal/strconv.uint64pow10", Rows.laid_internal_strconv_uint64pow10),
  ("strconv.ErrRange", Rows.laid_strconv_ErrRange), ("strconv.ErrSyntax", Rows.laid_strconv_ErrSyntax)]
theorem cell_of_var {W : World} {n : String} {g : Nat} {x : Value} (hg : Tryd.prog.globalNamed n = some g) (h : W.var? Tryd.prog n = some #[x]) : W.cell? ⟨g, 0, none⟩ = some x := by
  simpa using World.var?_cell hg h 0
theorem laidE_of {W : World} (h : laidMetH Tryd.prog laid5 W) (hs : W.ShapedOpen Tryd.prog) : LaidE W := by
  have h1 : laidMet Tryd.prog laid5 W := h
  have h2 : Lib.TabIs Tryd.prog W "internal/strconv.uint64pow10" .u64 pow10L := Lib.tabIs_of_head pow10_at gTabType u147 u89 cells89 cells147 h1.tail.tail
  rw [pow10L_eq] at h2
  obtain ⟨a, s, hr, _⟩ := laid_sentinel h1.tail.tail.tail gE2 gE2Type (ifc_ok 117 rfl) row156 Tryd.underlying156 Tryd.underlying158 rfl rfl Tryd.underlying9 cells158 cells9
  obtain ⟨a', s', hy, _⟩ := laid_sentinel h1.tail.tail.tail.tail gE1 gE1Type (ifc_ok 117 rfl) row156 Tryd.underlying156 Tryd.underlying158 rfl rfl Tryd.underlying9 cells158 cells9
  exact ⟨⟨h2, Tryd.laysM145.s1_3 W hs⟩, ⟨_, cell_of_var gE1 hy, .inr ⟨_, _, rfl⟩⟩, ⟨_, cell_of_var gE2 hr, .inr ⟨_, _, rfl⟩⟩⟩

/-- A world that holds the tables and the errors. -/
noncomputable def low : Nat := (World.holding Tryd.prog default ⟨#[], #[], []⟩).heap.size
def errTab (b : Nat) (h : Array Obj) : Array Obj := (h.modify 1 fun
    | .cells _ t frozen => .cells #[.iface 156 (.pointer (some ⟨b, 0, none⟩))] t frozen
    | o => o).modify 2 fun
    | .cells _ t frozen => .cells #[.iface 156 (.pointer (some ⟨b + 1, 0, none⟩))] t frozen
    | o => o
noncomputable def laidWorldE (os : Os) : World :=
  let w0 := World.holding Tryd.prog os ⟨#[.cells #[.string ⟨#[105, 110, 118, 97, 108, 105, 100, 32, 115, 121, 110, 116, 97, 120]⟩] 158, .cells #[.string ⟨#[118, 97, 108, 117, 101, 32, 111, 117, 116, 32, 111, 102, 32, 114, 97, 110, 103, 101]⟩] 158], #[], []⟩
  { w0 with heap := errTab low (layTab 5 (layTab 4 (layTab 3 w0.heap))) }
theorem wE_vars (os : Os) (args : Array Value) : ((laidWorldE os).forCall (fun _ _ => 0) ⟨#[], args, []⟩).variablesB Tryd.checked.prog = true := by kernel_rfl
theorem wE_rest (os : Os) (args : Array Value) : ((((laidWorldE os).forCall (fun _ _ => 0) ⟨#[], args, []⟩).heap.toList.drop Tryd.checked.prog.globals.size).take ((begin Tryd.checked.prog (fun _ _ => 0) default).world.heap.size - Tryd.checked.prog.globals.size) =
      (begin Tryd.checked.prog (fun _ _ => 0) default).world.heap.toList.drop Tryd.checked.prog.globals.size) := by kernel_rfl
theorem wE_laid (os : Os) (args : Array Value) : laidMet Tryd.prog laid5 ((laidWorldE os).forCall (fun _ _ => 0) ⟨#[], args, []⟩).memory :=
  laidMet_of_run' 8 (by kernel_rfl) (by kernel_rfl)

/-! ### Texts -/
theorem arg_str {H : Type} {enc : TypeId × Value → H} {w : World} {base : Nat} {spare : Nat → Bool} {held : Bool} {r : Reach} {b0 : Nat} {v : Value} {d : DataW H} {p : List MemPlace} (hv : Value.okWide Tryd.prog w r b0 9 v) (_h : DataW.Trod enc Tryd.prog w base spare held 9 v d p) : ∃ s, v = .string s :=
  okWide_string Tryd.underlying9 hv
theorem ok_str {N : Nat} {ρ : Nat → RI} (s : ByteArray) : Tm.ok N ρ (.a (.v (.string s))) (.string s) := ⟨rfl, rfl⟩
/-- A statement's walk, at plain arguments, with the library's errors laid. -/
theorem law_callsE {f : FuncId} {F : List Tm → List Reg → Option (List Prop × Tm)} (hc : Ctr.Ok Tryd.prog ΓE f (.fn F)) {args : List Tm} {q : List Prop} (hF : F args [] = some (q, bl true)) (hq : obl q) {W : World} {vs : List Value}
    (hL : LaidE W) (h6 : 6 ≤ W.heap.size) (hargs : okL (Tm.ok 0 (fun _ => ⟨0, 0, 0, true, 0⟩)) args vs) : Calls Tryd.prog f vs.toArray W fun e W' => e = .returned (.bool true) ∧ Below W.heap.size W W' :=
  (hc args [] q _ hF hq W.heap.size (fun _ => ⟨0, 0, 0, true, 0⟩) W vs (Nat.le_refl _) h6 hL hargs (fun r g h => by cases h) (fun r r' g g' h => by cases h)).mono fun e w' ⟨v, he, hv, hb⟩ => by
    obtain ⟨rfl, _⟩ := hv
    exact ⟨he, hb⟩
theorem law_calls_slE {f : FuncId} {F : List Tm → List Reg → Option (List Prop × Tm)} (hc : Ctr.Ok Tryd.prog ΓE f (.fn F)) {args : List Tm} {q : List Prop} {xs : List Int} (hF : F args [.arr 3 kI xs false] = some (q, bl true)) (hq : obl q) {W : World} {vs : List Value} {I : RI}
    (hL : LaidE W) (h6 : 6 ≤ W.heap.size) (hargs : okL (Tm.ok 1 (fun _ => I)) args vs) (hreg : Reg.ok 1 (fun _ => I) W.heap.size W I (.arr 3 kI xs false)) : Calls Tryd.prog f vs.toArray W fun e W' => e = .returned (.bool true) ∧ Below W.heap.size W W' :=
  (hc args [.arr 3 kI xs false] q _ hF hq W.heap.size (fun _ => I) W vs (Nat.le_refl _) h6 hL hargs
    (fun r g h => by
      cases r with
      | succ r => cases h
      | zero => obtain rfl := Option.some.inj h; exact hreg)
    (fun r r' g g' h _ o => by
      cases r with
      | succ r => cases h
      | zero => obtain rfl := Option.some.inj h; cases o.1)).mono fun e w' ⟨v, he, hv, hb⟩ => by
    obtain ⟨rfl, _⟩ := hv
    exact ⟨he, hb⟩
end Go.Proofs.YtoggkjobihlohaaDoor
