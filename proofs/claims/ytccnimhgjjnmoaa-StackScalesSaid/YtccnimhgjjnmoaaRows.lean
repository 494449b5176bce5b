/-
  No cell of these rows narrows 'for every input' (looked for: loops, veiled, ifaces, maps, wideKeys, modest, calm, conditions, laid).
  DERIVED. THE GIVEN ROWS OF THIS SEAT. 17 by the template 'for every input the law returns true; each argument reads behind the call as it read before'; 0 by the template 'total and deterministic' (their statements: YtccnimhgjjnmoaaTotals.lean).
  GIVEN WITH THE SEED: the statements are not yours to turn. If you find one false, say at which input.
  Laid BY PROGRAM, IN A SANDBOX (cutbox-rows.mjs): the forced cells as the released guide's own fill.sh prints them over the translation e3a35fa844aa2b8a… (all of the seat's roots in one cut). By AI agents, Wed Nov 11 2026. No macro, syntax, notation, axiom, sorry.
-/
import Derived.Test.YtccnimhgjjnmoaaChecked
import GoSem.Claim
import GoSem.ClaimJoined
import GoSem.ClaimMapViews
import Derived.JoinedTies
import Derived.KernelRfl
namespace Go.Proofs.Ytccnimhgjjnmoaa
/- THE CELL 'sum', in the pinned program and in every row, IS THE sha256 OF THE DUMP (.gsa) THAT YtccnimhgjjnmoaaProg.lean LOADS. Nothing in Lean hashes anything: it is a label: what it is worth is what the hold of that sum in a sandbox is worth. -/
noncomputable def Try.pinned : Pinned := { name := "ytccnimhgjjnmoaa", sum := "e3a35fa844aa2b8a4aedbf9ef04573afdc2444749f22665463e906c620bc48e5", checked := Try.checked }
namespace Rows
def none {H : Type} : Left H := { results := [], args := [] }

/-- 'wringinglaw04.StackMakes': WHATEVER THE INPUT: true; the input reads as it did. -/
def stackMakesSpec : ChangeSpec := { name := "stackMakes", fn := fun _ => fun
  | [d1, d2] => { results := [.lit (.bool true)], args := [d1, d2] }
  | _ => none }
def stackMakesRow : OpenClaim := { program := "ytccnimhgjjnmoaa", sum := "e3a35fa844aa2b8a4aedbf9ef04573afdc2444749f22665463e906c620bc48e5", func := "wringing/wringinglaw04.StackMakes", spec := "stackMakes", unfollowed := true, recurses := true, apart := false }
def StackMakesSaid : Prop := stackMakesRow.holds Try.pinned (OpenSpec.ofChange stackMakesSpec)

/-- ITS FALSE NEIGHBOUR: 'it returns false'. Refute it at one input. -/
def stackMakesWrong : ChangeSpec := { name := "stackMakes", fn := fun _ => fun
  | [d1, d2] => { results := [.lit (.bool false)], args := [d1, d2] }
  | _ => none }
def StackMakesWrongFalsely : Prop := stackMakesRow.holds Try.pinned (OpenSpec.ofChange stackMakesWrong)

/-- 'wringinglaw04.StackPairs': WHATEVER THE INPUT: true; the input reads as it did. -/
def stackPairsSpec : ChangeSpec := { name := "stackPairs", fn := fun _ => fun
  | [d1, d2, d3] => { results := [.lit (.bool true)], args := [d1, d2, d3] }
  | _ => none }
def stackPairsRow : OpenClaim := { program := "ytccnimhgjjnmoaa", sum := "e3a35fa844aa2b8a4aedbf9ef04573afdc2444749f22665463e906c620bc48e5", func := "wringing/wringinglaw04.StackPairs", spec := "stackPairs", unfollowed := true, recurses := true, apart := false }
def StackPairsSaid : Prop := stackPairsRow.holds Try.pinned (OpenSpec.ofChange stackPairsSpec)

/-- ITS FALSE NEIGHBOUR: 'it returns false'. Refute it at one input. -/
def stackPairsWrong : ChangeSpec := { name := "stackPairs", fn := fun _ => fun
  | [d1, d2, d3] => { results := [.lit (.bool false)], args := [d1, d2, d3] }
  | _ => none }
def StackPairsWrongFalsely : Prop := stackPairsRow.holds Try.pinned (OpenSpec.ofChange stackPairsWrong)

/-- 'wringinglaw04.StackSeries': WHATEVER THE INPUT: true; the input reads as it did. -/
def stackSeriesSpec : ChangeSpec := { name := "stackSeries", fn := fun _ => fun
  | [d1, d2, d3, d4] => { results := [.lit (.bool true)], args := [d1, d2, d3, d4] }
  | _ => none }
def stackSeriesRow : OpenClaim := { program := "ytccnimhgjjnmoaa", sum := "e3a35fa844aa2b8a4aedbf9ef04573afdc2444749f22665463e906c620bc48e5", func := "wringing/wringinglaw04.StackSeries", spec := "stackSeries", unfollowed := true, recurses := true, apart := false }
def StackSeriesSaid : Prop := stackSeriesRow.holds Try.pinned (OpenSpec.ofChange stackSeriesSpec)

/-- ITS FALSE NEIGHBOUR: 'it returns false'. Refute it at one input. -/
def stackSeriesWrong : ChangeSpec := { name := "stackSeries", fn := fun _ => fun
  | [d1, d2, d3, d4] => { results := [.lit (.bool false)], args := [d1, d2, d3, d4] }
  | _ => none }
def StackSeriesWrongFalsely : Prop := stackSeriesRow.holds Try.pinned (OpenSpec.ofChange stackSeriesWrong)

/-- 'wringinglaw04.StackTables': WHATEVER THE INPUT: true; the input reads as it did. -/
def stackTablesSpec : ChangeSpec := { name := "stackTables", fn := fun _ => fun
  | [d1, d2, d3] => { results := [.lit (.bool true)], args := [d1, d2, d3] }
  | _ => none }
def stackTablesRow : OpenClaim := { program := "ytccnimhgjjnmoaa", sum := "e3a35fa844aa2b8a4aedbf9ef04573afdc2444749f22665463e906c620bc48e5", func := "wringing/wringinglaw04.StackTables", spec := "stackTables", unfollowed := true, recurses := true, apart := false }
def StackTablesSaid : Prop := stackTablesRow.holds Try.pinned (OpenSpec.ofChange stackTablesSpec)

/-- ITS FALSE NEIGHBOUR: 'it returns false'. Refute it at one input. -/
def stackTablesWrong : ChangeSpec := { name := "stackTables", fn := fun _ => fun
  | [d1, d2, d3] => { results := [.lit (.bool false)], args := [d1, d2, d3] }
  | _ => none }
def StackTablesWrongFalsely : Prop := stackTablesRow.holds Try.pinned (OpenSpec.ofChange stackTablesWrong)

/-- 'wringinglaw04.StackDenies': WHATEVER THE INPUT: true; the input reads as it did. -/
def stackDeniesSpec : ChangeSpec := { name := "stackDenies", fn := fun _ => fun
  | [d1, d2, d3, d4, d5] => { results := [.lit (.bool true)], args := [d1, d2, d3, d4, d5] }
  | _ => none }
def stackDeniesRow : OpenClaim := { program := "ytccnimhgjjnmoaa", sum := "e3a35fa844aa2b8a4aedbf9ef04573afdc2444749f22665463e906c620bc48e5", func := "wringing/wringinglaw04.StackDenies", spec := "stackDenies", unfollowed := true, recurses := true, apart := false }
def StackDeniesSaid : Prop := stackDeniesRow.holds Try.pinned (OpenSpec.ofChange stackDeniesSpec)

/-- ITS FALSE NEIGHBOUR: 'it returns false'. Refute it at one input. -/
def stackDeniesWrong : ChangeSpec := { name := "stackDenies", fn := fun _ => fun
  | [d1, d2, d3, d4, d5] => { results := [.lit (.bool false)], args := [d1, d2, d3, d4, d5] }
  | _ => none }
def StackDeniesWrongFalsely : Prop := stackDeniesRow.holds Try.pinned (OpenSpec.ofChange stackDeniesWrong)

/-- 'wringinglaw04.StackMemory': WHATEVER THE INPUT: true; the input reads as it did. -/
def stackMemorySpec : ChangeSpec := { name := "stackMemory", fn := fun _ => fun
  | [d1, d2] => { results := [.lit (.bool true)], args := [d1, d2] }
  | _ => none }
def stackMemoryRow : OpenClaim := { program := "ytccnimhgjjnmoaa", sum := "e3a35fa844aa2b8a4aedbf9ef04573afdc2444749f22665463e906c620bc48e5", func := "wringing/wringinglaw04.StackMemory", spec := "stackMemory", unfollowed := true, recurses := true, apart := false }
def StackMemorySaid : Prop := stackMemoryRow.holds Try.pinned (OpenSpec.ofChange stackMemorySpec)

/-- ITS FALSE NEIGHBOUR: 'it returns false'. Refute it at one input. -/
def stackMemoryWrong : ChangeSpec := { name := "stackMemory", fn := fun _ => fun
  | [d1, d2] => { results := [.lit (.bool false)], args := [d1, d2] }
  | _ => none }
def StackMemoryWrongFalsely : Prop := stackMemoryRow.holds Try.pinned (OpenSpec.ofChange stackMemoryWrong)

/-- 'wringinglaw04.StackOthers': WHATEVER THE INPUT: true; the input reads as it did. -/
def stackOthersSpec : ChangeSpec := { name := "stackOthers", fn := fun _ => fun
  | [d1, d2] => { results := [.lit (.bool true)], args := [d1, d2] }
  | _ => none }
def stackOthersRow : OpenClaim := { program := "ytccnimhgjjnmoaa", sum := "e3a35fa844aa2b8a4aedbf9ef04573afdc2444749f22665463e906c620bc48e5", func := "wringing/wringinglaw04.StackOthers", spec := "stackOthers", unfollowed := true, recurses := true, apart := false }
def StackOthersSaid : Prop := stackOthersRow.holds Try.pinned (OpenSpec.ofChange stackOthersSpec)

/-- ITS FALSE NEIGHBOUR: 'it returns false'. Refute it at one input. -/
def stackOthersWrong : ChangeSpec := { name := "stackOthers", fn := fun _ => fun
  | [d1, d2] => { results := [.lit (.bool false)], args := [d1, d2] }
  | _ => none }
def StackOthersWrongFalsely : Prop := stackOthersRow.holds Try.pinned (OpenSpec.ofChange stackOthersWrong)

/-- 'wringinglaw04.StackNeeds': WHATEVER THE INPUT: true; the input reads as it did. -/
def stackNeedsSpec : ChangeSpec := { name := "stackNeeds", fn := fun _ => fun
  | [d1, d2] => { results := [.lit (.bool true)], args := [d1, d2] }
  | _ => none }
def stackNeedsRow : OpenClaim := { program := "ytccnimhgjjnmoaa", sum := "e3a35fa844aa2b8a4aedbf9ef04573afdc2444749f22665463e906c620bc48e5", func := "wringing/wringinglaw04.StackNeeds", spec := "stackNeeds", unfollowed := true, recurses := true, apart := false }
def StackNeedsSaid : Prop := stackNeedsRow.holds Try.pinned (OpenSpec.ofChange stackNeedsSpec)

/-- ITS FALSE NEIGHBOUR: 'it returns false'. Refute it at one input. -/
def stackNeedsWrong : ChangeSpec := { name := "stackNeeds", fn := fun _ => fun
  | [d1, d2] => { results := [.lit (.bool false)], args := [d1, d2] }
  | _ => none }
def StackNeedsWrongFalsely : Prop := stackNeedsRow.holds Try.pinned (OpenSpec.ofChange stackNeedsWrong)

/-- 'wringinglaw04.StackScales': WHATEVER THE INPUT: true; the input reads as it did. -/
def stackScalesSpec : ChangeSpec := { name := "stackScales", fn := fun _ => fun
  | [d1, d2, d3, d4] => { results := [.lit (.bool true)], args := [d1, d2, d3, d4] }
  | _ => none }
def stackScalesRow : OpenClaim := { program := "ytccnimhgjjnmoaa", sum := "e3a35fa844aa2b8a4aedbf9ef04573afdc2444749f22665463e906c620bc48e5", func := "wringing/wringinglaw04.StackScales", spec := "stackScales", unfollowed := true, recurses := true, apart := false }
def StackScalesSaid : Prop := stackScalesRow.holds Try.pinned (OpenSpec.ofChange stackScalesSpec)

/-- ITS FALSE NEIGHBOUR: 'it returns false'. Refute it at one input. -/
def stackScalesWrong : ChangeSpec := { name := "stackScales", fn := fun _ => fun
  | [d1, d2, d3, d4] => { results := [.lit (.bool false)], args := [d1, d2, d3, d4] }
  | _ => none }
def StackScalesWrongFalsely : Prop := stackScalesRow.holds Try.pinned (OpenSpec.ofChange stackScalesWrong)

/-- 'wringinglaw04.StackNext': WHATEVER THE INPUT: true; the input reads as it did. -/
def stackNextSpec : ChangeSpec := { name := "stackNext", fn := fun _ => fun
  | [d1, d2] => { results := [.lit (.bool true)], args := [d1, d2] }
  | _ => none }
def stackNextRow : OpenClaim := { program := "ytccnimhgjjnmoaa", sum := "e3a35fa844aa2b8a4aedbf9ef04573afdc2444749f22665463e906c620bc48e5", func := "wringing/wringinglaw04.StackNext", spec := "stackNext", unfollowed := true, recurses := true, apart := false }
def StackNextSaid : Prop := stackNextRow.holds Try.pinned (OpenSpec.ofChange stackNextSpec)

/-- ITS FALSE NEIGHBOUR: 'it returns false'. Refute it at one input. -/
def stackNextWrong : ChangeSpec := { name := "stackNext", fn := fun _ => fun
  | [d1, d2] => { results := [.lit (.bool false)], args := [d1, d2] }
  | _ => none }
def StackNextWrongFalsely : Prop := stackNextRow.holds Try.pinned (OpenSpec.ofChange stackNextWrong)

/-- 'wringinglaw04.StackFilms': WHATEVER THE INPUT: true; the input reads as it did. -/
def stackFilmsSpec : ChangeSpec := { name := "stackFilms", fn := fun _ => fun
  | [d1, d2, d3, d4] => { results := [.lit (.bool true)], args := [d1, d2, d3, d4] }
  | _ => none }
def stackFilmsRow : OpenClaim := { program := "ytccnimhgjjnmoaa", sum := "e3a35fa844aa2b8a4aedbf9ef04573afdc2444749f22665463e906c620bc48e5", func := "wringing/wringinglaw04.StackFilms", spec := "stackFilms", unfollowed := true, recurses := true, apart := false }
def StackFilmsSaid : Prop := stackFilmsRow.holds Try.pinned (OpenSpec.ofChange stackFilmsSpec)

/-- ITS FALSE NEIGHBOUR: 'it returns false'. Refute it at one input. -/
def stackFilmsWrong : ChangeSpec := { name := "stackFilms", fn := fun _ => fun
  | [d1, d2, d3, d4] => { results := [.lit (.bool false)], args := [d1, d2, d3, d4] }
  | _ => none }
def StackFilmsWrongFalsely : Prop := stackFilmsRow.holds Try.pinned (OpenSpec.ofChange stackFilmsWrong)

/-- 'wringinglaw04.StackLengths': WHATEVER THE INPUT: true; the input reads as it did. -/
def stackLengthsSpec : ChangeSpec := { name := "stackLengths", fn := fun _ => fun
  | [d1, d2, d3] => { results := [.lit (.bool true)], args := [d1, d2, d3] }
  | _ => none }
def stackLengthsRow : OpenClaim := { program := "ytccnimhgjjnmoaa", sum := "e3a35fa844aa2b8a4aedbf9ef04573afdc2444749f22665463e906c620bc48e5", func := "wringing/wringinglaw04.StackLengths", spec := "stackLengths", unfollowed := true, recurses := true, apart := false }
def StackLengthsSaid : Prop := stackLengthsRow.holds Try.pinned (OpenSpec.ofChange stackLengthsSpec)

/-- ITS FALSE NEIGHBOUR: 'it returns false'. Refute it at one input. -/
def stackLengthsWrong : ChangeSpec := { name := "stackLengths", fn := fun _ => fun
  | [d1, d2, d3] => { results := [.lit (.bool false)], args := [d1, d2, d3] }
  | _ => none }
def StackLengthsWrongFalsely : Prop := stackLengthsRow.holds Try.pinned (OpenSpec.ofChange stackLengthsWrong)

/-- 'wringinglaw04.StackFewest': WHATEVER THE INPUT: true; the input reads as it did. -/
def stackFewestSpec : ChangeSpec := { name := "stackFewest", fn := fun _ => fun
  | [d1, d2, d3, d4] => { results := [.lit (.bool true)], args := [d1, d2, d3, d4] }
  | _ => none }
def stackFewestRow : OpenClaim := { program := "ytccnimhgjjnmoaa", sum := "e3a35fa844aa2b8a4aedbf9ef04573afdc2444749f22665463e906c620bc48e5", func := "wringing/wringinglaw04.StackFewest", spec := "stackFewest", unfollowed := true, recurses := true, apart := false }
def StackFewestSaid : Prop := stackFewestRow.holds Try.pinned (OpenSpec.ofChange stackFewestSpec)

/-- ITS FALSE NEIGHBOUR: 'it returns false'. Refute it at one input. -/
def stackFewestWrong : ChangeSpec := { name := "stackFewest", fn := fun _ => fun
  | [d1, d2, d3, d4] => { results := [.lit (.bool false)], args := [d1, d2, d3, d4] }
  | _ => none }
def StackFewestWrongFalsely : Prop := stackFewestRow.holds Try.pinned (OpenSpec.ofChange stackFewestWrong)

/-- 'wringinglaw04.StackGrows': WHATEVER THE INPUT: true; the input reads as it did. -/
def stackGrowsSpec : ChangeSpec := { name := "stackGrows", fn := fun _ => fun
  | [d1, d2, d3] => { results := [.lit (.bool true)], args := [d1, d2, d3] }
  | _ => none }
def stackGrowsRow : OpenClaim := { program := "ytccnimhgjjnmoaa", sum := "e3a35fa844aa2b8a4aedbf9ef04573afdc2444749f22665463e906c620bc48e5", func := "wringing/wringinglaw04.StackGrows", spec := "stackGrows", unfollowed := true, recurses := true, apart := false }
def StackGrowsSaid : Prop := stackGrowsRow.holds Try.pinned (OpenSpec.ofChange stackGrowsSpec)

/-- ITS FALSE NEIGHBOUR: 'it returns false'. Refute it at one input. -/
def stackGrowsWrong : ChangeSpec := { name := "stackGrows", fn := fun _ => fun
  | [d1, d2, d3] => { results := [.lit (.bool false)], args := [d1, d2, d3] }
  | _ => none }
def StackGrowsWrongFalsely : Prop := stackGrowsRow.holds Try.pinned (OpenSpec.ofChange stackGrowsWrong)

/-- 'wringinglaw04.StackBoth': WHATEVER THE INPUT: true; the input reads as it did. -/
def stackBothSpec : ChangeSpec := { name := "stackBoth", fn := fun _ => fun
  | [d1, d2, d3, d4, d5] => { results := [.lit (.bool true)], args := [d1, d2, d3, d4, d5] }
  | _ => none }
def stackBothRow : OpenClaim := { program := "ytccnimhgjjnmoaa", sum := "e3a35fa844aa2b8a4aedbf9ef04573afdc2444749f22665463e906c620bc48e5", func := "wringing/wringinglaw04.StackBoth", spec := "stackBoth", unfollowed := true, recurses := true, apart := false }
def StackBothSaid : Prop := stackBothRow.holds Try.pinned (OpenSpec.ofChange stackBothSpec)

/-- ITS FALSE NEIGHBOUR: 'it returns false'. Refute it at one input. -/
def stackBothWrong : ChangeSpec := { name := "stackBoth", fn := fun _ => fun
  | [d1, d2, d3, d4, d5] => { results := [.lit (.bool false)], args := [d1, d2, d3, d4, d5] }
  | _ => none }
def StackBothWrongFalsely : Prop := stackBothRow.holds Try.pinned (OpenSpec.ofChange stackBothWrong)

/-- 'wringinglaw04.StackLacks': WHATEVER THE INPUT: true; the input reads as it did. -/
def stackLacksSpec : ChangeSpec := { name := "stackLacks", fn := fun _ => fun
  | [d1, d2, d3] => { results := [.lit (.bool true)], args := [d1, d2, d3] }
  | _ => none }
def stackLacksRow : OpenClaim := { program := "ytccnimhgjjnmoaa", sum := "e3a35fa844aa2b8a4aedbf9ef04573afdc2444749f22665463e906c620bc48e5", func := "wringing/wringinglaw04.StackLacks", spec := "stackLacks", unfollowed := true, recurses := true, apart := false }
def StackLacksSaid : Prop := stackLacksRow.holds Try.pinned (OpenSpec.ofChange stackLacksSpec)

/-- ITS FALSE NEIGHBOUR: 'it returns false'. Refute it at one input. -/
def stackLacksWrong : ChangeSpec := { name := "stackLacks", fn := fun _ => fun
  | [d1, d2, d3] => { results := [.lit (.bool false)], args := [d1, d2, d3] }
  | _ => none }
def StackLacksWrongFalsely : Prop := stackLacksRow.holds Try.pinned (OpenSpec.ofChange stackLacksWrong)

/-- 'wringinglaw04.StackWider': WHATEVER THE INPUT: true; the input reads as it did. -/
def stackWiderSpec : ChangeSpec := { name := "stackWider", fn := fun _ => fun
  | [d1, d2, d3, d4] => { results := [.lit (.bool true)], args := [d1, d2, d3, d4] }
  | _ => none }
def stackWiderRow : OpenClaim := { program := "ytccnimhgjjnmoaa", sum := "e3a35fa844aa2b8a4aedbf9ef04573afdc2444749f22665463e906c620bc48e5", func := "wringing/wringinglaw04.StackWider", spec := "stackWider", unfollowed := true, recurses := true, apart := false }
def StackWiderSaid : Prop := stackWiderRow.holds Try.pinned (OpenSpec.ofChange stackWiderSpec)

/-- ITS FALSE NEIGHBOUR: 'it returns false'. Refute it at one input. -/
def stackWiderWrong : ChangeSpec := { name := "stackWider", fn := fun _ => fun
  | [d1, d2, d3, d4] => { results := [.lit (.bool false)], args := [d1, d2, d3, d4] }
  | _ => none }
def StackWiderWrongFalsely : Prop := stackWiderRow.holds Try.pinned (OpenSpec.ofChange stackWiderWrong)

/- THE SECOND FORM. 'bulk': how many values and letters a reading holds, each counted each time it is reached (what is shared counts as often as it is met; a slice's spare places count too). A statement '..UptoSaid' is the law's where the arguments, and the package variables that the reading takes, are together of bulk at most 1048576: NARROWER than '..Said'. Prove '..Said' where nothing that the law and all that it calls make is longer than what came in: it says more and counts as full. Else prove '..UptoSaid'. A law counts once. -/
mutual
def uptoBulk {H : Type} : DataW H → Nat
  | .lit (.string bytes) => bytes.length + 1
  | .lit _ => 1
  | .nil => 1
  | .ptr d => uptoBulk d + 1
  | .slice elems spare => uptoBulkAll elems + uptoBulkAll spare + 1
  | .agg parts => uptoBulkAll parts + 1
  | .iface _ d => uptoBulk d + 1
  | .map entries => uptoBulkEntries entries + 1
  | .held _ => 1
def uptoBulkAll {H : Type} : List (DataW H) → Nat
  | [] => 0
  | d :: r => uptoBulk d + uptoBulkAll r
def uptoBulkEntries {H : Type} : List (Lit × DataW H) → Nat
  | [] => 0
  | x :: r => uptoBulkEntry x + uptoBulkEntries r
def uptoBulkEntry {H : Type} : Lit × DataW H → Nat
  | (.string bytes, d) => bytes.length + uptoBulk d + 1
  | (_, d) => uptoBulk d + 1
 end
def uptoSmall : (H : Type) → List (DataW H) → Bool := fun _ ds => decide (uptoBulkAll ds ≤ 1048576)
def OpenSpec.upto (s : _root_.Go.ChangeSpec) : _root_.Go.OpenSpec := { _root_.Go.OpenSpec.ofChange s with cond := some uptoSmall }

/-- 'wringinglaw04.StackMakes', WHERE WHAT IT READS IS OF BULK AT MOST 1048576: true; the input reads as it did. -/
def stackMakesUptoRow : OpenClaim := { program := "ytccnimhgjjnmoaa", sum := "e3a35fa844aa2b8a4aedbf9ef04573afdc2444749f22665463e906c620bc48e5", func := "wringing/wringinglaw04.StackMakes", spec := "stackMakes", unfollowed := true, recurses := true, apart := false, narrowed := true }
def StackMakesUptoSaid : Prop := stackMakesUptoRow.holds Try.pinned (OpenSpec.upto stackMakesSpec)

/-- 'wringinglaw04.StackPairs', WHERE WHAT IT READS IS OF BULK AT MOST 1048576: true; the input reads as it did. -/
def stackPairsUptoRow : OpenClaim := { program := "ytccnimhgjjnmoaa", sum := "e3a35fa844aa2b8a4aedbf9ef04573afdc2444749f22665463e906c620bc48e5", func := "wringing/wringinglaw04.StackPairs", spec := "stackPairs", unfollowed := true, recurses := true, apart := false, narrowed := true }
def StackPairsUptoSaid : Prop := stackPairsUptoRow.holds Try.pinned (OpenSpec.upto stackPairsSpec)

/-- 'wringinglaw04.StackSeries', WHERE WHAT IT READS IS OF BULK AT MOST 1048576: true; the input reads as it did. -/
def stackSeriesUptoRow : OpenClaim := { program := "ytccnimhgjjnmoaa", sum := "e3a35fa844aa2b8a4aedbf9ef04573afdc2444749f22665463e906c620bc48e5", func := "wringing/wringinglaw04.StackSeries", spec := "stackSeries", unfollowed := true, recurses := true, apart := false, narrowed := true }
def StackSeriesUptoSaid : Prop := stackSeriesUptoRow.holds Try.pinned (OpenSpec.upto stackSeriesSpec)

/-- 'wringinglaw04.StackTables', WHERE WHAT IT READS IS OF BULK AT MOST 1048576: true; the input reads as it did. -/
def stackTablesUptoRow : OpenClaim := { program := "ytccnimhgjjnmoaa", sum := "e3a35fa844aa2b8a4aedbf9ef04573afdc2444749f22665463e906c620bc48e5", func := "wringing/wringinglaw04.StackTables", spec := "stackTables", unfollowed := true, recurses := true, apart := false, narrowed := true }
def StackTablesUptoSaid : Prop := stackTablesUptoRow.holds Try.pinned (OpenSpec.upto stackTablesSpec)

/-- 'wringinglaw04.StackDenies', WHERE WHAT IT READS IS OF BULK AT MOST 1048576: true; the input reads as it did. -/
def stackDeniesUptoRow : OpenClaim := { program := "ytccnimhgjjnmoaa", sum := "e3a35fa844aa2b8a4aedbf9ef04573afdc2444749f22665463e906c620bc48e5", func := "wringing/wringinglaw04.StackDenies", spec := "stackDenies", unfollowed := true, recurses := true, apart := false, narrowed := true }
def StackDeniesUptoSaid : Prop := stackDeniesUptoRow.holds Try.pinned (OpenSpec.upto stackDeniesSpec)

/-- 'wringinglaw04.StackMemory', WHERE WHAT IT READS IS OF BULK AT MOST 1048576: true; the input reads as it did. -/
def stackMemoryUptoRow : OpenClaim := { program := "ytccnimhgjjnmoaa", sum := "e3a35fa844aa2b8a4aedbf9ef04573afdc2444749f22665463e906c620bc48e5", func := "wringing/wringinglaw04.StackMemory", spec := "stackMemory", unfollowed := true, recurses := true, apart := false, narrowed := true }
def StackMemoryUptoSaid : Prop := stackMemoryUptoRow.holds Try.pinned (OpenSpec.upto stackMemorySpec)

/-- 'wringinglaw04.StackOthers', WHERE WHAT IT READS IS OF BULK AT MOST 1048576: true; the input reads as it did. -/
def stackOthersUptoRow : OpenClaim := { program := "ytccnimhgjjnmoaa", sum := "e3a35fa844aa2b8a4aedbf9ef04573afdc2444749f22665463e906c620bc48e5", func := "wringing/wringinglaw04.StackOthers", spec := "stackOthers", unfollowed := true, recurses := true, apart := false, narrowed := true }
def StackOthersUptoSaid : Prop := stackOthersUptoRow.holds Try.pinned (OpenSpec.upto stackOthersSpec)

/-- 'wringinglaw04.StackNeeds', WHERE WHAT IT READS IS OF BULK AT MOST 1048576: true; the input reads as it did. -/
def stackNeedsUptoRow : OpenClaim := { program := "ytccnimhgjjnmoaa", sum := "e3a35fa844aa2b8a4aedbf9ef04573afdc2444749f22665463e906c620bc48e5", func := "wringing/wringinglaw04.StackNeeds", spec := "stackNeeds", unfollowed := true, recurses := true, apart := false, narrowed := true }
def StackNeedsUptoSaid : Prop := stackNeedsUptoRow.holds Try.pinned (OpenSpec.upto stackNeedsSpec)

/-- 'wringinglaw04.StackScales', WHERE WHAT IT READS IS OF BULK AT MOST 1048576: true; the input reads as it did. -/
def stackScalesUptoRow : OpenClaim := { program := "ytccnimhgjjnmoaa", sum := "e3a35fa844aa2b8a4aedbf9ef04573afdc2444749f22665463e906c620bc48e5", func := "wringing/wringinglaw04.StackScales", spec := "stackScales", unfollowed := true, recurses := true, apart := false, narrowed := true }
def StackScalesUptoSaid : Prop := stackScalesUptoRow.holds Try.pinned (OpenSpec.upto stackScalesSpec)

/-- 'wringinglaw04.StackNext', WHERE WHAT IT READS IS OF BULK AT MOST 1048576: true; the input reads as it did. -/
def stackNextUptoRow : OpenClaim := { program := "ytccnimhgjjnmoaa", sum := "e3a35fa844aa2b8a4aedbf9ef04573afdc2444749f22665463e906c620bc48e5", func := "wringing/wringinglaw04.StackNext", spec := "stackNext", unfollowed := true, recurses := true, apart := false, narrowed := true }
def StackNextUptoSaid : Prop := stackNextUptoRow.holds Try.pinned (OpenSpec.upto stackNextSpec)

/-- 'wringinglaw04.StackFilms', WHERE WHAT IT READS IS OF BULK AT MOST 1048576: true; the input reads as it did. -/
def stackFilmsUptoRow : OpenClaim := { program := "ytccnimhgjjnmoaa", sum := "e3a35fa844aa2b8a4aedbf9ef04573afdc2444749f22665463e906c620bc48e5", func := "wringing/wringinglaw04.StackFilms", spec := "stackFilms", unfollowed := true, recurses := true, apart := false, narrowed := true }
def StackFilmsUptoSaid : Prop := stackFilmsUptoRow.holds Try.pinned (OpenSpec.upto stackFilmsSpec)

/-- 'wringinglaw04.StackLengths', WHERE WHAT IT READS IS OF BULK AT MOST 1048576: true; the input reads as it did. -/
def stackLengthsUptoRow : OpenClaim := { program := "ytccnimhgjjnmoaa", sum := "e3a35fa844aa2b8a4aedbf9ef04573afdc2444749f22665463e906c620bc48e5", func := "wringing/wringinglaw04.StackLengths", spec := "stackLengths", unfollowed := true, recurses := true, apart := false, narrowed := true }
def StackLengthsUptoSaid : Prop := stackLengthsUptoRow.holds Try.pinned (OpenSpec.upto stackLengthsSpec)

/-- 'wringinglaw04.StackFewest', WHERE WHAT IT READS IS OF BULK AT MOST 1048576: true; the input reads as it did. -/
def stackFewestUptoRow : OpenClaim := { program := "ytccnimhgjjnmoaa", sum := "e3a35fa844aa2b8a4aedbf9ef04573afdc2444749f22665463e906c620bc48e5", func := "wringing/wringinglaw04.StackFewest", spec := "stackFewest", unfollowed := true, recurses := true, apart := false, narrowed := true }
def StackFewestUptoSaid : Prop := stackFewestUptoRow.holds Try.pinned (OpenSpec.upto stackFewestSpec)

/-- 'wringinglaw04.StackGrows', WHERE WHAT IT READS IS OF BULK AT MOST 1048576: true; the input reads as it did. -/
def stackGrowsUptoRow : OpenClaim := { program := "ytccnimhgjjnmoaa", sum := "e3a35fa844aa2b8a4aedbf9ef04573afdc2444749f22665463e906c620bc48e5", func := "wringing/wringinglaw04.StackGrows", spec := "stackGrows", unfollowed := true, recurses := true, apart := false, narrowed := true }
def StackGrowsUptoSaid : Prop := stackGrowsUptoRow.holds Try.pinned (OpenSpec.upto stackGrowsSpec)

/-- 'wringinglaw04.StackBoth', WHERE WHAT IT READS IS OF BULK AT MOST 1048576: true; the input reads as it did. -/
def stackBothUptoRow : OpenClaim := { program := "ytccnimhgjjnmoaa", sum := "e3a35fa844aa2b8a4aedbf9ef04573afdc2444749f22665463e906c620bc48e5", func := "wringing/wringinglaw04.StackBoth", spec := "stackBoth", unfollowed := true, recurses := true, apart := false, narrowed := true }
def StackBothUptoSaid : Prop := stackBothUptoRow.holds Try.pinned (OpenSpec.upto stackBothSpec)

/-- 'wringinglaw04.StackLacks', WHERE WHAT IT READS IS OF BULK AT MOST 1048576: true; the input reads as it did. -/
def stackLacksUptoRow : OpenClaim := { program := "ytccnimhgjjnmoaa", sum := "e3a35fa844aa2b8a4aedbf9ef04573afdc2444749f22665463e906c620bc48e5", func := "wringing/wringinglaw04.StackLacks", spec := "stackLacks", unfollowed := true, recurses := true, apart := false, narrowed := true }
def StackLacksUptoSaid : Prop := stackLacksUptoRow.holds Try.pinned (OpenSpec.upto stackLacksSpec)

/-- 'wringinglaw04.StackWider', WHERE WHAT IT READS IS OF BULK AT MOST 1048576: true; the input reads as it did. -/
def stackWiderUptoRow : OpenClaim := { program := "ytccnimhgjjnmoaa", sum := "e3a35fa844aa2b8a4aedbf9ef04573afdc2444749f22665463e906c620bc48e5", func := "wringing/wringinglaw04.StackWider", spec := "stackWider", unfollowed := true, recurses := true, apart := false, narrowed := true }
def StackWiderUptoSaid : Prop := stackWiderUptoRow.holds Try.pinned (OpenSpec.upto stackWiderSpec)

end Rows
end Go.Proofs.Ytccnimhgjjnmoaa
