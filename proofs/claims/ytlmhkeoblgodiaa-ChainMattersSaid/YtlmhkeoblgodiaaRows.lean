/-
  No cell of these rows narrows 'for every input' (looked for: loops, veiled, ifaces, maps, wideKeys, modest, calm, conditions, laid).
  DERIVED. THE GIVEN ROWS OF THIS SEAT. 17 by the template 'for every input the law returns true; each argument reads behind the call as it read before'; 0 by the template 'total and deterministic' (their statements: YtlmhkeoblgodiaaTotals.lean).
  GIVEN WITH THE SEED: the statements are not yours to turn. If you find one false, say at which input.
  Laid BY PROGRAM, IN A SANDBOX (cutbox-rows.mjs): the forced cells as the released guide's own fill.sh prints them over the translation d9e583cfda15c4b8… (all of the seat's roots in one cut). By AI agents, Wed Nov 11 2026. No macro, syntax, notation, axiom, sorry.
-/
import Derived.Test.YtlmhkeoblgodiaaChecked
import GoSem.Claim
import GoSem.ClaimJoined
import GoSem.ClaimMapViews
import Derived.JoinedTies
import Derived.KernelRfl
namespace Go.Proofs.Ytlmhkeoblgodiaa
/- THE CELL 'sum', in the pinned program and in every row, IS THE sha256 OF THE DUMP (.gsa) THAT YtlmhkeoblgodiaaProg.lean LOADS. Nothing in Lean hashes anything: it is a label: what it is worth is what the hold of that sum in a sandbox is worth. -/
noncomputable def Try.pinned : Pinned := { name := "ytlmhkeoblgodiaa", sum := "d9e583cfda15c4b86177be954f0268071a51dc52cd036c9d795c50de4e0646d3", checked := Try.checked }
namespace Rows
def none {H : Type} : Left H := { results := [], args := [] }

/-- 'wringinglaw02.ChainChecks': WHATEVER THE INPUT: true; the input reads as it did. -/
def chainChecksSpec : ChangeSpec := { name := "chainChecks", fn := fun _ => fun
  | [d] => { results := [.lit (.bool true)], args := [d] }
  | _ => none }
def chainChecksRow : OpenClaim := { program := "ytlmhkeoblgodiaa", sum := "d9e583cfda15c4b86177be954f0268071a51dc52cd036c9d795c50de4e0646d3", func := "wringing/wringinglaw02.ChainChecks", spec := "chainChecks", unfollowed := true, recurses := true, apart := false }
def ChainChecksSaid : Prop := chainChecksRow.holds Try.pinned (OpenSpec.ofChange chainChecksSpec)

/-- ITS FALSE NEIGHBOUR: 'it returns false'. Refute it at one input. -/
def chainChecksWrong : ChangeSpec := { name := "chainChecks", fn := fun _ => fun
  | [d] => { results := [.lit (.bool false)], args := [d] }
  | _ => none }
def ChainChecksWrongFalsely : Prop := chainChecksRow.holds Try.pinned (OpenSpec.ofChange chainChecksWrong)

/-- 'wringinglaw02.ChainMatters': WHATEVER THE INPUT: true; the input reads as it did. -/
def chainMattersSpec : ChangeSpec := { name := "chainMatters", fn := fun _ => fun
  | [d1, d2] => { results := [.lit (.bool true)], args := [d1, d2] }
  | _ => none }
def chainMattersRow : OpenClaim := { program := "ytlmhkeoblgodiaa", sum := "d9e583cfda15c4b86177be954f0268071a51dc52cd036c9d795c50de4e0646d3", func := "wringing/wringinglaw02.ChainMatters", spec := "chainMatters", unfollowed := true, recurses := true, apart := false }
def ChainMattersSaid : Prop := chainMattersRow.holds Try.pinned (OpenSpec.ofChange chainMattersSpec)

/-- ITS FALSE NEIGHBOUR: 'it returns false'. Refute it at one input. -/
def chainMattersWrong : ChangeSpec := { name := "chainMatters", fn := fun _ => fun
  | [d1, d2] => { results := [.lit (.bool false)], args := [d1, d2] }
  | _ => none }
def ChainMattersWrongFalsely : Prop := chainMattersRow.holds Try.pinned (OpenSpec.ofChange chainMattersWrong)

/-- 'wringinglaw02.ChainBounds': WHATEVER THE INPUT: true; the input reads as it did. -/
def chainBoundsSpec : ChangeSpec := { name := "chainBounds", fn := fun _ => fun
  | [d1, d2, d3] => { results := [.lit (.bool true)], args := [d1, d2, d3] }
  | _ => none }
def chainBoundsRow : OpenClaim := { program := "ytlmhkeoblgodiaa", sum := "d9e583cfda15c4b86177be954f0268071a51dc52cd036c9d795c50de4e0646d3", func := "wringing/wringinglaw02.ChainBounds", spec := "chainBounds", unfollowed := true, recurses := true, apart := false }
def ChainBoundsSaid : Prop := chainBoundsRow.holds Try.pinned (OpenSpec.ofChange chainBoundsSpec)

/-- ITS FALSE NEIGHBOUR: 'it returns false'. Refute it at one input. -/
def chainBoundsWrong : ChangeSpec := { name := "chainBounds", fn := fun _ => fun
  | [d1, d2, d3] => { results := [.lit (.bool false)], args := [d1, d2, d3] }
  | _ => none }
def ChainBoundsWrongFalsely : Prop := chainBoundsRow.holds Try.pinned (OpenSpec.ofChange chainBoundsWrong)

/-- 'wringinglaw02.ChainMore': WHATEVER THE INPUT: true; the input reads as it did. -/
def chainMoreSpec : ChangeSpec := { name := "chainMore", fn := fun _ => fun
  | [d1, d2, d3, d4] => { results := [.lit (.bool true)], args := [d1, d2, d3, d4] }
  | _ => none }
def chainMoreRow : OpenClaim := { program := "ytlmhkeoblgodiaa", sum := "d9e583cfda15c4b86177be954f0268071a51dc52cd036c9d795c50de4e0646d3", func := "wringing/wringinglaw02.ChainMore", spec := "chainMore", unfollowed := true, recurses := true, apart := false }
def ChainMoreSaid : Prop := chainMoreRow.holds Try.pinned (OpenSpec.ofChange chainMoreSpec)

/-- ITS FALSE NEIGHBOUR: 'it returns false'. Refute it at one input. -/
def chainMoreWrong : ChangeSpec := { name := "chainMore", fn := fun _ => fun
  | [d1, d2, d3, d4] => { results := [.lit (.bool false)], args := [d1, d2, d3, d4] }
  | _ => none }
def ChainMoreWrongFalsely : Prop := chainMoreRow.holds Try.pinned (OpenSpec.ofChange chainMoreWrong)

/-- 'wringinglaw02.ChainOrder': WHATEVER THE INPUT: true; the input reads as it did. -/
def chainOrderSpec : ChangeSpec := { name := "chainOrder", fn := fun _ => fun
  | [d1, d2] => { results := [.lit (.bool true)], args := [d1, d2] }
  | _ => none }
def chainOrderRow : OpenClaim := { program := "ytlmhkeoblgodiaa", sum := "d9e583cfda15c4b86177be954f0268071a51dc52cd036c9d795c50de4e0646d3", func := "wringing/wringinglaw02.ChainOrder", spec := "chainOrder", unfollowed := true, recurses := true, apart := false }
def ChainOrderSaid : Prop := chainOrderRow.holds Try.pinned (OpenSpec.ofChange chainOrderSpec)

/-- ITS FALSE NEIGHBOUR: 'it returns false'. Refute it at one input. -/
def chainOrderWrong : ChangeSpec := { name := "chainOrder", fn := fun _ => fun
  | [d1, d2] => { results := [.lit (.bool false)], args := [d1, d2] }
  | _ => none }
def ChainOrderWrongFalsely : Prop := chainOrderRow.holds Try.pinned (OpenSpec.ofChange chainOrderWrong)

/-- 'wringinglaw02.ChainLattice': WHATEVER THE INPUT: true; the input reads as it did. -/
def chainLatticeSpec : ChangeSpec := { name := "chainLattice", fn := fun _ => fun
  | [d1, d2, d3] => { results := [.lit (.bool true)], args := [d1, d2, d3] }
  | _ => none }
def chainLatticeRow : OpenClaim := { program := "ytlmhkeoblgodiaa", sum := "d9e583cfda15c4b86177be954f0268071a51dc52cd036c9d795c50de4e0646d3", func := "wringing/wringinglaw02.ChainLattice", spec := "chainLattice", unfollowed := true, recurses := true, apart := false }
def ChainLatticeSaid : Prop := chainLatticeRow.holds Try.pinned (OpenSpec.ofChange chainLatticeSpec)

/-- ITS FALSE NEIGHBOUR: 'it returns false'. Refute it at one input. -/
def chainLatticeWrong : ChangeSpec := { name := "chainLattice", fn := fun _ => fun
  | [d1, d2, d3] => { results := [.lit (.bool false)], args := [d1, d2, d3] }
  | _ => none }
def ChainLatticeWrongFalsely : Prop := chainLatticeRow.holds Try.pinned (OpenSpec.ofChange chainLatticeWrong)

/-- 'wringinglaw02.ChainShifts': WHATEVER THE INPUT: true; the input reads as it did. -/
def chainShiftsSpec : ChangeSpec := { name := "chainShifts", fn := fun _ => fun
  | [d1, d2, d3, d4, d5] => { results := [.lit (.bool true)], args := [d1, d2, d3, d4, d5] }
  | _ => none }
def chainShiftsRow : OpenClaim := { program := "ytlmhkeoblgodiaa", sum := "d9e583cfda15c4b86177be954f0268071a51dc52cd036c9d795c50de4e0646d3", func := "wringing/wringinglaw02.ChainShifts", spec := "chainShifts", unfollowed := true, recurses := true, apart := false }
def ChainShiftsSaid : Prop := chainShiftsRow.holds Try.pinned (OpenSpec.ofChange chainShiftsSpec)

/-- ITS FALSE NEIGHBOUR: 'it returns false'. Refute it at one input. -/
def chainShiftsWrong : ChangeSpec := { name := "chainShifts", fn := fun _ => fun
  | [d1, d2, d3, d4, d5] => { results := [.lit (.bool false)], args := [d1, d2, d3, d4, d5] }
  | _ => none }
def ChainShiftsWrongFalsely : Prop := chainShiftsRow.holds Try.pinned (OpenSpec.ofChange chainShiftsWrong)

/-- 'wringinglaw02.ChainChanges': WHATEVER THE INPUT: true; the input reads as it did. -/
def chainChangesSpec : ChangeSpec := { name := "chainChanges", fn := fun _ => fun
  | [d1, d2, d3] => { results := [.lit (.bool true)], args := [d1, d2, d3] }
  | _ => none }
def chainChangesRow : OpenClaim := { program := "ytlmhkeoblgodiaa", sum := "d9e583cfda15c4b86177be954f0268071a51dc52cd036c9d795c50de4e0646d3", func := "wringing/wringinglaw02.ChainChanges", spec := "chainChanges", unfollowed := true, recurses := true, apart := false }
def ChainChangesSaid : Prop := chainChangesRow.holds Try.pinned (OpenSpec.ofChange chainChangesSpec)

/-- ITS FALSE NEIGHBOUR: 'it returns false'. Refute it at one input. -/
def chainChangesWrong : ChangeSpec := { name := "chainChanges", fn := fun _ => fun
  | [d1, d2, d3] => { results := [.lit (.bool false)], args := [d1, d2, d3] }
  | _ => none }
def ChainChangesWrongFalsely : Prop := chainChangesRow.holds Try.pinned (OpenSpec.ofChange chainChangesWrong)

/-- 'wringinglaw02.ChainOrNot': WHATEVER THE INPUT: true; the input reads as it did. -/
def chainOrNotSpec : ChangeSpec := { name := "chainOrNot", fn := fun _ => fun
  | [d1, d2, d3] => { results := [.lit (.bool true)], args := [d1, d2, d3] }
  | _ => none }
def chainOrNotRow : OpenClaim := { program := "ytlmhkeoblgodiaa", sum := "d9e583cfda15c4b86177be954f0268071a51dc52cd036c9d795c50de4e0646d3", func := "wringing/wringinglaw02.ChainOrNot", spec := "chainOrNot", unfollowed := true, recurses := true, apart := false }
def ChainOrNotSaid : Prop := chainOrNotRow.holds Try.pinned (OpenSpec.ofChange chainOrNotSpec)

/-- ITS FALSE NEIGHBOUR: 'it returns false'. Refute it at one input. -/
def chainOrNotWrong : ChangeSpec := { name := "chainOrNot", fn := fun _ => fun
  | [d1, d2, d3] => { results := [.lit (.bool false)], args := [d1, d2, d3] }
  | _ => none }
def ChainOrNotWrongFalsely : Prop := chainOrNotRow.holds Try.pinned (OpenSpec.ofChange chainOrNotWrong)

/-- 'wringinglaw02.ChainMemory': WHATEVER THE INPUT: true; the input reads as it did. -/
def chainMemorySpec : ChangeSpec := { name := "chainMemory", fn := fun _ => fun
  | [d1, d2, d3] => { results := [.lit (.bool true)], args := [d1, d2, d3] }
  | _ => none }
def chainMemoryRow : OpenClaim := { program := "ytlmhkeoblgodiaa", sum := "d9e583cfda15c4b86177be954f0268071a51dc52cd036c9d795c50de4e0646d3", func := "wringing/wringinglaw02.ChainMemory", spec := "chainMemory", unfollowed := true, recurses := true, apart := false }
def ChainMemorySaid : Prop := chainMemoryRow.holds Try.pinned (OpenSpec.ofChange chainMemorySpec)

/-- ITS FALSE NEIGHBOUR: 'it returns false'. Refute it at one input. -/
def chainMemoryWrong : ChangeSpec := { name := "chainMemory", fn := fun _ => fun
  | [d1, d2, d3] => { results := [.lit (.bool false)], args := [d1, d2, d3] }
  | _ => none }
def ChainMemoryWrongFalsely : Prop := chainMemoryRow.holds Try.pinned (OpenSpec.ofChange chainMemoryWrong)

/-- 'wringinglaw02.ChainBetween': WHATEVER THE INPUT: true; the input reads as it did. -/
def chainBetweenSpec : ChangeSpec := { name := "chainBetween", fn := fun _ => fun
  | [d1, d2, d3, d4] => { results := [.lit (.bool true)], args := [d1, d2, d3, d4] }
  | _ => none }
def chainBetweenRow : OpenClaim := { program := "ytlmhkeoblgodiaa", sum := "d9e583cfda15c4b86177be954f0268071a51dc52cd036c9d795c50de4e0646d3", func := "wringing/wringinglaw02.ChainBetween", spec := "chainBetween", unfollowed := true, recurses := true, apart := false }
def ChainBetweenSaid : Prop := chainBetweenRow.holds Try.pinned (OpenSpec.ofChange chainBetweenSpec)

/-- ITS FALSE NEIGHBOUR: 'it returns false'. Refute it at one input. -/
def chainBetweenWrong : ChangeSpec := { name := "chainBetween", fn := fun _ => fun
  | [d1, d2, d3, d4] => { results := [.lit (.bool false)], args := [d1, d2, d3, d4] }
  | _ => none }
def ChainBetweenWrongFalsely : Prop := chainBetweenRow.holds Try.pinned (OpenSpec.ofChange chainBetweenWrong)

/-- 'wringinglaw02.ChainLists': WHATEVER THE INPUT: true; the input reads as it did. -/
def chainListsSpec : ChangeSpec := { name := "chainLists", fn := fun _ => fun
  | [d1, d2, d3, d4, d5] => { results := [.lit (.bool true)], args := [d1, d2, d3, d4, d5] }
  | _ => none }
def chainListsRow : OpenClaim := { program := "ytlmhkeoblgodiaa", sum := "d9e583cfda15c4b86177be954f0268071a51dc52cd036c9d795c50de4e0646d3", func := "wringing/wringinglaw02.ChainLists", spec := "chainLists", unfollowed := true, recurses := true, apart := false }
def ChainListsSaid : Prop := chainListsRow.holds Try.pinned (OpenSpec.ofChange chainListsSpec)

/-- ITS FALSE NEIGHBOUR: 'it returns false'. Refute it at one input. -/
def chainListsWrong : ChangeSpec := { name := "chainLists", fn := fun _ => fun
  | [d1, d2, d3, d4, d5] => { results := [.lit (.bool false)], args := [d1, d2, d3, d4, d5] }
  | _ => none }
def ChainListsWrongFalsely : Prop := chainListsRow.holds Try.pinned (OpenSpec.ofChange chainListsWrong)

/-- 'wringinglaw02.ChainTurned': WHATEVER THE INPUT: true; the input reads as it did. -/
def chainTurnedSpec : ChangeSpec := { name := "chainTurned", fn := fun _ => fun
  | [d1, d2, d3] => { results := [.lit (.bool true)], args := [d1, d2, d3] }
  | _ => none }
def chainTurnedRow : OpenClaim := { program := "ytlmhkeoblgodiaa", sum := "d9e583cfda15c4b86177be954f0268071a51dc52cd036c9d795c50de4e0646d3", func := "wringing/wringinglaw02.ChainTurned", spec := "chainTurned", unfollowed := true, recurses := true, apart := false }
def ChainTurnedSaid : Prop := chainTurnedRow.holds Try.pinned (OpenSpec.ofChange chainTurnedSpec)

/-- ITS FALSE NEIGHBOUR: 'it returns false'. Refute it at one input. -/
def chainTurnedWrong : ChangeSpec := { name := "chainTurned", fn := fun _ => fun
  | [d1, d2, d3] => { results := [.lit (.bool false)], args := [d1, d2, d3] }
  | _ => none }
def ChainTurnedWrongFalsely : Prop := chainTurnedRow.holds Try.pinned (OpenSpec.ofChange chainTurnedWrong)

/-- 'wringinglaw02.ChainReduced': WHATEVER THE INPUT: true; the input reads as it did. -/
def chainReducedSpec : ChangeSpec := { name := "chainReduced", fn := fun _ => fun
  | [d] => { results := [.lit (.bool true)], args := [d] }
  | _ => none }
def chainReducedRow : OpenClaim := { program := "ytlmhkeoblgodiaa", sum := "d9e583cfda15c4b86177be954f0268071a51dc52cd036c9d795c50de4e0646d3", func := "wringing/wringinglaw02.ChainReduced", spec := "chainReduced", unfollowed := true, recurses := true, apart := false }
def ChainReducedSaid : Prop := chainReducedRow.holds Try.pinned (OpenSpec.ofChange chainReducedSpec)

/-- ITS FALSE NEIGHBOUR: 'it returns false'. Refute it at one input. -/
def chainReducedWrong : ChangeSpec := { name := "chainReduced", fn := fun _ => fun
  | [d] => { results := [.lit (.bool false)], args := [d] }
  | _ => none }
def ChainReducedWrongFalsely : Prop := chainReducedRow.holds Try.pinned (OpenSpec.ofChange chainReducedWrong)

/-- 'wringinglaw02.ChainSharp': WHATEVER THE INPUT: true; the input reads as it did. -/
def chainSharpSpec : ChangeSpec := { name := "chainSharp", fn := fun _ => fun
  | [d1, d2, d3, d4, d5] => { results := [.lit (.bool true)], args := [d1, d2, d3, d4, d5] }
  | _ => none }
def chainSharpRow : OpenClaim := { program := "ytlmhkeoblgodiaa", sum := "d9e583cfda15c4b86177be954f0268071a51dc52cd036c9d795c50de4e0646d3", func := "wringing/wringinglaw02.ChainSharp", spec := "chainSharp", unfollowed := true, recurses := true, apart := false }
def ChainSharpSaid : Prop := chainSharpRow.holds Try.pinned (OpenSpec.ofChange chainSharpSpec)

/-- ITS FALSE NEIGHBOUR: 'it returns false'. Refute it at one input. -/
def chainSharpWrong : ChangeSpec := { name := "chainSharp", fn := fun _ => fun
  | [d1, d2, d3, d4, d5] => { results := [.lit (.bool false)], args := [d1, d2, d3, d4, d5] }
  | _ => none }
def ChainSharpWrongFalsely : Prop := chainSharpRow.holds Try.pinned (OpenSpec.ofChange chainSharpWrong)

/-- 'wringinglaw02.ChainTables': WHATEVER THE INPUT: true; the input reads as it did. -/
def chainTablesSpec : ChangeSpec := { name := "chainTables", fn := fun _ => fun
  | [d] => { results := [.lit (.bool true)], args := [d] }
  | _ => none }
def chainTablesRow : OpenClaim := { program := "ytlmhkeoblgodiaa", sum := "d9e583cfda15c4b86177be954f0268071a51dc52cd036c9d795c50de4e0646d3", func := "wringing/wringinglaw02.ChainTables", spec := "chainTables", unfollowed := true, recurses := true, apart := false }
def ChainTablesSaid : Prop := chainTablesRow.holds Try.pinned (OpenSpec.ofChange chainTablesSpec)

/-- ITS FALSE NEIGHBOUR: 'it returns false'. Refute it at one input. -/
def chainTablesWrong : ChangeSpec := { name := "chainTables", fn := fun _ => fun
  | [d] => { results := [.lit (.bool false)], args := [d] }
  | _ => none }
def ChainTablesWrongFalsely : Prop := chainTablesRow.holds Try.pinned (OpenSpec.ofChange chainTablesWrong)

/-- 'wringinglaw02.ChainClosed': WHATEVER THE INPUT: true; the input reads as it did. -/
def chainClosedSpec : ChangeSpec := { name := "chainClosed", fn := fun _ => fun
  | [d1, d2, d3, d4, d5] => { results := [.lit (.bool true)], args := [d1, d2, d3, d4, d5] }
  | _ => none }
def chainClosedRow : OpenClaim := { program := "ytlmhkeoblgodiaa", sum := "d9e583cfda15c4b86177be954f0268071a51dc52cd036c9d795c50de4e0646d3", func := "wringing/wringinglaw02.ChainClosed", spec := "chainClosed", unfollowed := true, recurses := true, apart := false }
def ChainClosedSaid : Prop := chainClosedRow.holds Try.pinned (OpenSpec.ofChange chainClosedSpec)

/-- ITS FALSE NEIGHBOUR: 'it returns false'. Refute it at one input. -/
def chainClosedWrong : ChangeSpec := { name := "chainClosed", fn := fun _ => fun
  | [d1, d2, d3, d4, d5] => { results := [.lit (.bool false)], args := [d1, d2, d3, d4, d5] }
  | _ => none }
def ChainClosedWrongFalsely : Prop := chainClosedRow.holds Try.pinned (OpenSpec.ofChange chainClosedWrong)

/- THE SECOND FORM. 'bulk': how many values and letters a reading holds, each counted each time it is reached (what is shared counts as often as it is met; a slice's spare places count too). A statement '..UptoSaid' is the law's where the arguments, and the package variables that the reading takes, are together of bulk at most 1048576: NARROWER than '..Said'. Prove '..Said' where nothing that the law and all that it calls make is longer than what came in: it says more and counts as full. Else prove '..UptoSaid'. A law counts once. -/
mutual
def uptoBulk {H : Type} : DataW H → Nat
  | .lit (.string bytes) => bytes.length + 1
  | .lit _ => 1
  | .nil => 1
  | .ptr d => uptoBulk d + 1
  | .slice elems spare => uptoBulkAll elems + uptoBulkAll spare + 1
  | .agg parts => uptoBulkAll parts + 1
  | .iface _ d => uptoBulk d + 1
  | .map entries => uptoBulkEntries entries + 1
  | .held _ => 1
def uptoBulkAll {H : Type} : List (DataW H) → Nat
  | [] => 0
  | d :: r => uptoBulk d + uptoBulkAll r
def uptoBulkEntries {H : Type} : List (Lit × DataW H) → Nat
  | [] => 0
  | x :: r => uptoBulkEntry x + uptoBulkEntries r
def uptoBulkEntry {H : Type} : Lit × DataW H → Nat
  | (.string bytes, d) => bytes.length + uptoBulk d + 1
  | (_, d) => uptoBulk d + 1
 end
def uptoSmall : (H : Type) → List (DataW H) → Bool := fun _ ds => decide (uptoBulkAll ds ≤ 1048576)
def OpenSpec.upto (s : _root_.Go.ChangeSpec) : _root_.Go.OpenSpec := { _root_.Go.OpenSpec.ofChange s with cond := some uptoSmall }

/-- 'wringinglaw02.ChainChecks', WHERE WHAT IT READS IS OF BULK AT MOST 1048576: true; the input reads as it did. -/
def chainChecksUptoRow : OpenClaim := { program := "ytlmhkeoblgodiaa", sum := "d9e583cfda15c4b86177be954f0268071a51dc52cd036c9d795c50de4e0646d3", func := "wringing/wringinglaw02.ChainChecks", spec := "chainChecks", unfollowed := true, recurses := true, apart := false, narrowed := true }
def ChainChecksUptoSaid : Prop := chainChecksUptoRow.holds Try.pinned (OpenSpec.upto chainChecksSpec)

/-- 'wringinglaw02.ChainMatters', WHERE WHAT IT READS IS OF BULK AT MOST 1048576: true; the input reads as it did. -/
def chainMattersUptoRow : OpenClaim := { program := "ytlmhkeoblgodiaa", sum := "d9e583cfda15c4b86177be954f0268071a51dc52cd036c9d795c50de4e0646d3", func := "wringing/wringinglaw02.ChainMatters", spec := "chainMatters", unfollowed := true, recurses := true, apart := false, narrowed := true }
def ChainMattersUptoSaid : Prop := chainMattersUptoRow.holds Try.pinned (OpenSpec.upto chainMattersSpec)

/-- 'wringinglaw02.ChainBounds', WHERE WHAT IT READS IS OF BULK AT MOST 1048576: true; the input reads as it did. -/
def chainBoundsUptoRow : OpenClaim := { program := "ytlmhkeoblgodiaa", sum := "d9e583cfda15c4b86177be954f0268071a51dc52cd036c9d795c50de4e0646d3", func := "wringing/wringinglaw02.ChainBounds", spec := "chainBounds", unfollowed := true, recurses := true, apart := false, narrowed := true }
def ChainBoundsUptoSaid : Prop := chainBoundsUptoRow.holds Try.pinned (OpenSpec.upto chainBoundsSpec)

/-- 'wringinglaw02.ChainMore', WHERE WHAT IT READS IS OF BULK AT MOST 1048576: true; the input reads as it did. -/
def chainMoreUptoRow : OpenClaim := { program := "ytlmhkeoblgodiaa", sum := "d9e583cfda15c4b86177be954f0268071a51dc52cd036c9d795c50de4e0646d3", func := "wringing/wringinglaw02.ChainMore", spec := "chainMore", unfollowed := true, recurses := true, apart := false, narrowed := true }
def ChainMoreUptoSaid : Prop := chainMoreUptoRow.holds Try.pinned (OpenSpec.upto chainMoreSpec)

/-- 'wringinglaw02.ChainOrder', WHERE WHAT IT READS IS OF BULK AT MOST 1048576: true; the input reads as it did. -/
def chainOrderUptoRow : OpenClaim := { program := "ytlmhkeoblgodiaa", sum := "d9e583cfda15c4b86177be954f0268071a51dc52cd036c9d795c50de4e0646d3", func := "wringing/wringinglaw02.ChainOrder", spec := "chainOrder", unfollowed := true, recurses := true, apart := false, narrowed := true }
def ChainOrderUptoSaid : Prop := chainOrderUptoRow.holds Try.pinned (OpenSpec.upto chainOrderSpec)

/-- 'wringinglaw02.ChainLattice', WHERE WHAT IT READS IS OF BULK AT MOST 1048576: true; the input reads as it did. -/
def chainLatticeUptoRow : OpenClaim := { program := "ytlmhkeoblgodiaa", sum := "d9e583cfda15c4b86177be954f0268071a51dc52cd036c9d795c50de4e0646d3", func := "wringing/wringinglaw02.ChainLattice", spec := "chainLattice", unfollowed := true, recurses := true, apart := false, narrowed := true }
def ChainLatticeUptoSaid : Prop := chainLatticeUptoRow.holds Try.pinned (OpenSpec.upto chainLatticeSpec)

/-- 'wringinglaw02.ChainShifts', WHERE WHAT IT READS IS OF BULK AT MOST 1048576: true; the input reads as it did. -/
def chainShiftsUptoRow : OpenClaim := { program := "ytlmhkeoblgodiaa", sum := "d9e583cfda15c4b86177be954f0268071a51dc52cd036c9d795c50de4e0646d3", func := "wringing/wringinglaw02.ChainShifts", spec := "chainShifts", unfollowed := true, recurses := true, apart := false, narrowed := true }
def ChainShiftsUptoSaid : Prop := chainShiftsUptoRow.holds Try.pinned (OpenSpec.upto chainShiftsSpec)

/-- 'wringinglaw02.ChainChanges', WHERE WHAT IT READS IS OF BULK AT MOST 1048576: true; the input reads as it did. -/
def chainChangesUptoRow : OpenClaim := { program := "ytlmhkeoblgodiaa", sum := "d9e583cfda15c4b86177be954f0268071a51dc52cd036c9d795c50de4e0646d3", func := "wringing/wringinglaw02.ChainChanges", spec := "chainChanges", unfollowed := true, recurses := true, apart := false, narrowed := true }
def ChainChangesUptoSaid : Prop := chainChangesUptoRow.holds Try.pinned (OpenSpec.upto chainChangesSpec)

/-- 'wringinglaw02.ChainOrNot', WHERE WHAT IT READS IS OF BULK AT MOST 1048576: true; the input reads as it did. -/
def chainOrNotUptoRow : OpenClaim := { program := "ytlmhkeoblgodiaa", sum := "d9e583cfda15c4b86177be954f0268071a51dc52cd036c9d795c50de4e0646d3", func := "wringing/wringinglaw02.ChainOrNot", spec := "chainOrNot", unfollowed := true, recurses := true, apart := false, narrowed := true }
def ChainOrNotUptoSaid : Prop := chainOrNotUptoRow.holds Try.pinned (OpenSpec.upto chainOrNotSpec)

/-- 'wringinglaw02.ChainMemory', WHERE WHAT IT READS IS OF BULK AT MOST 1048576: true; the input reads as it did. -/
def chainMemoryUptoRow : OpenClaim := { program := "ytlmhkeoblgodiaa", sum := "d9e583cfda15c4b86177be954f0268071a51dc52cd036c9d795c50de4e0646d3", func := "wringing/wringinglaw02.ChainMemory", spec := "chainMemory", unfollowed := true, recurses := true, apart := false, narrowed := true }
def ChainMemoryUptoSaid : Prop := chainMemoryUptoRow.holds Try.pinned (OpenSpec.upto chainMemorySpec)

/-- 'wringinglaw02.ChainBetween', WHERE WHAT IT READS IS OF BULK AT MOST 1048576: true; the input reads as it did. -/
def chainBetweenUptoRow : OpenClaim := { program := "ytlmhkeoblgodiaa", sum := "d9e583cfda15c4b86177be954f0268071a51dc52cd036c9d795c50de4e0646d3", func := "wringing/wringinglaw02.ChainBetween", spec := "chainBetween", unfollowed := true, recurses := true, apart := false, narrowed := true }
def ChainBetweenUptoSaid : Prop := chainBetweenUptoRow.holds Try.pinned (OpenSpec.upto chainBetweenSpec)

/-- 'wringinglaw02.ChainLists', WHERE WHAT IT READS IS OF BULK AT MOST 1048576: true; the input reads as it did. -/
def chainListsUptoRow : OpenClaim := { program := "ytlmhkeoblgodiaa", sum := "d9e583cfda15c4b86177be954f0268071a51dc52cd036c9d795c50de4e0646d3", func := "wringing/wringinglaw02.ChainLists", spec := "chainLists", unfollowed := true, recurses := true, apart := false, narrowed := true }
def ChainListsUptoSaid : Prop := chainListsUptoRow.holds Try.pinned (OpenSpec.upto chainListsSpec)

/-- 'wringinglaw02.ChainTurned', WHERE WHAT IT READS IS OF BULK AT MOST 1048576: true; the input reads as it did. -/
def chainTurnedUptoRow : OpenClaim := { program := "ytlmhkeoblgodiaa", sum := "d9e583cfda15c4b86177be954f0268071a51dc52cd036c9d795c50de4e0646d3", func := "wringing/wringinglaw02.ChainTurned", spec := "chainTurned", unfollowed := true, recurses := true, apart := false, narrowed := true }
def ChainTurnedUptoSaid : Prop := chainTurnedUptoRow.holds Try.pinned (OpenSpec.upto chainTurnedSpec)

/-- 'wringinglaw02.ChainReduced', WHERE WHAT IT READS IS OF BULK AT MOST 1048576: true; the input reads as it did. -/
def chainReducedUptoRow : OpenClaim := { program := "ytlmhkeoblgodiaa", sum := "d9e583cfda15c4b86177be954f0268071a51dc52cd036c9d795c50de4e0646d3", func := "wringing/wringinglaw02.ChainReduced", spec := "chainReduced", unfollowed := true, recurses := true, apart := false, narrowed := true }
def ChainReducedUptoSaid : Prop := chainReducedUptoRow.holds Try.pinned (OpenSpec.upto chainReducedSpec)

/-- 'wringinglaw02.ChainSharp', WHERE WHAT IT READS IS OF BULK AT MOST 1048576: true; the input reads as it did. -/
def chainSharpUptoRow : OpenClaim := { program := "ytlmhkeoblgodiaa", sum := "d9e583cfda15c4b86177be954f0268071a51dc52cd036c9d795c50de4e0646d3", func := "wringing/wringinglaw02.ChainSharp", spec := "chainSharp", unfollowed := true, recurses := true, apart := false, narrowed := true }
def ChainSharpUptoSaid : Prop := chainSharpUptoRow.holds Try.pinned (OpenSpec.upto chainSharpSpec)

/-- 'wringinglaw02.ChainTables', WHERE WHAT IT READS IS OF BULK AT MOST 1048576: true; the input reads as it did. -/
def chainTablesUptoRow : OpenClaim := { program := "ytlmhkeoblgodiaa", sum := "d9e583cfda15c4b86177be954f0268071a51dc52cd036c9d795c50de4e0646d3", func := "wringing/wringinglaw02.ChainTables", spec := "chainTables", unfollowed := true, recurses := true, apart := false, narrowed := true }
def ChainTablesUptoSaid : Prop := chainTablesUptoRow.holds Try.pinned (OpenSpec.upto chainTablesSpec)

/-- 'wringinglaw02.ChainClosed', WHERE WHAT IT READS IS OF BULK AT MOST 1048576: true; the input reads as it did. -/
def chainClosedUptoRow : OpenClaim := { program := "ytlmhkeoblgodiaa", sum := "d9e583cfda15c4b86177be954f0268071a51dc52cd036c9d795c50de4e0646d3", func := "wringing/wringinglaw02.ChainClosed", spec := "chainClosed", unfollowed := true, recurses := true, apart := false, narrowed := true }
def ChainClosedUptoSaid : Prop := chainClosedUptoRow.holds Try.pinned (OpenSpec.upto chainClosedSpec)

end Rows
end Go.Proofs.Ytlmhkeoblgodiaa
