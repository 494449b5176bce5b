/-
  NARROWER THAN 'FOR EVERY INPUT', by the rows' own cells (each row's printed sentence says how): PlateClasses: laid · PlateShapes: laid · PlateTurns: laid · PlateGroup: laid · PlateThree: laid · PlateFollows: laid · PlateHelps: laid · PlateMore: laid · PlateWalks: laid · PlateGaps: laid · PlateFlat: laid · PlateBound: laid.
  DERIVED. THE GIVEN ROWS OF THIS SEAT. 12 by the template 'for every input the law returns true; each argument reads behind the call as it read before'; 0 by the template 'total and deterministic' (their statements: YthejmgnkenokpaaDoorTotals.lean).
  GIVEN WITH THE SEED: the statements are not yours to turn. If you find one false, say at which input.
  Laid BY PROGRAM, IN A SANDBOX (cutbox-rows.mjs): the forced cells as the released guide's own fill.sh prints them over the translation 5cf63f9795c4900d… (all of the seat's roots in one cut). By AI agents, Wed Nov 11 2026. No macro, syntax, notation, axiom, sorry.
-/
import Derived.Test.YthejmgnkenokpaaDoorChecked
import GoSem.Claim
import GoSem.ClaimJoined
import GoSem.ClaimMapViews
import Derived.JoinedTies
import Derived.KernelRfl
namespace Go.Proofs.YthejmgnkenokpaaDoor
/- THE CELL 'sum', in the pinned program and in every row, IS THE sha256 OF THE DUMP (.gsa) THAT YthejmgnkenokpaaDoorProg.lean LOADS. Nothing in Lean hashes anything: it is a label: what it is worth is what the hold of that sum in a sandbox is worth. -/
noncomputable def Tryd.pinned : Pinned := { name := "ythejmgnkenokpaadoor", sum := "5cf63f9795c4900ded1827b35a7cf8c8c7a4dd2b48d2afb204a5a5e6c8ef8fa1", checked := Tryd.checked }
namespace Rows
def none {H : Type} : Left H := { results := [], args := [] }

/- WHAT THE LISTED PACKAGE-LEVEL VARIABLES READ AS WHEN THE CALL BEGINS. Each datum BY PROGRAM (the guide's laid-datum.mjs) off the statement by which the dump's own 'gosem.cut.vars' lays the variable. In a bare row this is a premise. The card (YthejmgnkenokpaaDoorCards.lean) ties it to the program's text. -/
def laid_math_bits_deBruijn32tab {H : Type} : DataW H := .agg [.lit (.int .u8 0), .lit (.int .u8 1), .lit (.int .u8 28), .lit (.int .u8 2), .lit (.int .u8 29), .lit (.int .u8 14), .lit (.int .u8 24), .lit (.int .u8 3), .lit (.int .u8 30), .lit (.int .u8 22), .lit (.int .u8 20), .lit (.int .u8 15), .lit (.int .u8 25), .lit (.int .u8 17), .lit (.int .u8 4), .lit (.int .u8 8), .lit (.int .u8 31), .lit (.int .u8 27), .lit (.int .u8 13), .lit (.int .u8 23), .lit (.int .u8 21), .lit (.int .u8 19), .lit (.int .u8 16), .lit (.int .u8 7), .lit (.int .u8 26), .lit (.int .u8 12), .lit (.int .u8 18), .lit (.int .u8 6), .lit (.int .u8 11), .lit (.int .u8 5), .lit (.int .u8 10), .lit (.int .u8 9)]
def laid_math_bits_deBruijn64tab {H : Type} : DataW H := .agg [.lit (.int .u8 0), .lit (.int .u8 1), .lit (.int .u8 56), .lit (.int .u8 2), .lit (.int .u8 57), .lit (.int .u8 49), .lit (.int .u8 28), .lit (.int .u8 3), .lit (.int .u8 61), .lit (.int .u8 58), .lit (.int .u8 42), .lit (.int .u8 50), .lit (.int .u8 38), .lit (.int .u8 29), .lit (.int .u8 17), .lit (.int .u8 4), .lit (.int .u8 62), .lit (.int .u8 47), .lit (.int .u8 59), .lit (.int .u8 36), .lit (.int .u8 45), .lit (.int .u8 43), .lit (.int .u8 51), .lit (.int .u8 22), .lit (.int .u8 53), .lit (.int .u8 39), .lit (.int .u8 33), .lit (.int .u8 30), .lit (.int .u8 24), .lit (.int .u8 18), .lit (.int .u8 12), .lit (.int .u8 5), .lit (.int .u8 63), .lit (.int .u8 55), .lit (.int .u8 48), .lit (.int .u8 27), .lit (.int .u8 60), .lit (.int .u8 41), .lit (.int .u8 37), .lit (.int .u8 16), .lit (.int .u8 46), .lit (.int .u8 35), .lit (.int .u8 44), .lit (.int .u8 21), .lit (.int .u8 52), .lit (.int .u8 32), .lit (.int .u8 23), .lit (.int .u8 11), .lit (.int .u8 54), .lit (.int .u8 26), .lit (.int .u8 40), .lit (.int .u8 15), .lit (.int .u8 34), .lit (.int .u8 20), .lit (.int .u8 31), .lit (.int .u8 10), .lit (.int .u8 25), .lit (.int .u8 14), .lit (.int .u8 19), .lit (.int .u8 9), .lit (.int .u8 13), .lit (.int .u8 8), .lit (.int .u8 7), .lit (.int .u8 6)]
def laid_internal_strconv_uint64pow10 {H : Type} : DataW H := .agg [.lit (.int .u64 1), .lit (.int .u64 10), .lit (.int .u64 100), .lit (.int .u64 1000), .lit (.int .u64 10000), .lit (.int .u64 100000), .lit (.int .u64 1000000), .lit (.int .u64 10000000), .lit (.int .u64 100000000), .lit (.int .u64 1000000000), .lit (.int .u64 10000000000), .lit (.int .u64 100000000000), .lit (.int .u64 1000000000000), .lit (.int .u64 10000000000000), .lit (.int .u64 100000000000000), .lit (.int .u64 1000000000000000), .lit (.int .u64 10000000000000000), .lit (.int .u64 100000000000000000), .lit (.int .u64 1000000000000000000), .lit (.int .u64 10000000000000000000)]

/-- 'wringinglaw03.PlateClasses': WHATEVER THE INPUT: true; the input reads as it did. -/
def plateClassesSpec : ChangeSpec := { name := "plateClasses", fn := fun _ => fun
  | [d1, d2] => { results := [.lit (.bool true)], args := [d1, d2] }
  | _ => none }
def plateClassesRow : OpenClaim := { program := "ythejmgnkenokpaadoor", sum := "5cf63f9795c4900ded1827b35a7cf8c8c7a4dd2b48d2afb204a5a5e6c8ef8fa1", func := "wringing/wringinglaw03.PlateClasses", spec := "plateClasses", unfollowed := true, recurses := true, named := ["internal/strconv.uint64pow10", "math/bits.deBruijn32tab", "math/bits.deBruijn64tab"], plainKeys := false, apart := false, laid := [("math/bits.deBruijn32tab", laid_math_bits_deBruijn32tab), ("math/bits.deBruijn64tab", laid_math_bits_deBruijn64tab), ("internal/strconv.uint64pow10", laid_internal_strconv_uint64pow10)] }
def PlateClassesSaid : Prop := plateClassesRow.holds Tryd.pinned (OpenSpec.ofChange plateClassesSpec)

/-- ITS FALSE NEIGHBOUR: 'it returns false'. Refute it at one input. -/
def plateClassesWrong : ChangeSpec := { name := "plateClasses", fn := fun _ => fun
  | [d1, d2] => { results := [.lit (.bool false)], args := [d1, d2] }
  | _ => none }
def PlateClassesWrongFalsely : Prop := plateClassesRow.holds Tryd.pinned (OpenSpec.ofChange plateClassesWrong)

/-- 'wringinglaw03.PlateShapes': WHATEVER THE INPUT: true; the input reads as it did. -/
def plateShapesSpec : ChangeSpec := { name := "plateShapes", fn := fun _ => fun
  | [d1, d2, d3] => { results := [.lit (.bool true)], args := [d1, d2, d3] }
  | _ => none }
def plateShapesRow : OpenClaim := { program := "ythejmgnkenokpaadoor", sum := "5cf63f9795c4900ded1827b35a7cf8c8c7a4dd2b48d2afb204a5a5e6c8ef8fa1", func := "wringing/wringinglaw03.PlateShapes", spec := "plateShapes", unfollowed := true, recurses := true, named := ["internal/strconv.uint64pow10", "math/bits.deBruijn32tab", "math/bits.deBruijn64tab"], plainKeys := false, apart := false, laid := [("math/bits.deBruijn32tab", laid_math_bits_deBruijn32tab), ("math/bits.deBruijn64tab", laid_math_bits_deBruijn64tab), ("internal/strconv.uint64pow10", laid_internal_strconv_uint64pow10)] }
def PlateShapesSaid : Prop := plateShapesRow.holds Tryd.pinned (OpenSpec.ofChange plateShapesSpec)

/-- ITS FALSE NEIGHBOUR: 'it returns false'. Refute it at one input. -/
def plateShapesWrong : ChangeSpec := { name := "plateShapes", fn := fun _ => fun
  | [d1, d2, d3] => { results := [.lit (.bool false)], args := [d1, d2, d3] }
  | _ => none }
def PlateShapesWrongFalsely : Prop := plateShapesRow.holds Tryd.pinned (OpenSpec.ofChange plateShapesWrong)

/-- 'wringinglaw03.PlateTurns': WHATEVER THE INPUT: true; the input reads as it did. -/
def plateTurnsSpec : ChangeSpec := { name := "plateTurns", fn := fun _ => fun
  | [d1, d2, d3, d4] => { results := [.lit (.bool true)], args := [d1, d2, d3, d4] }
  | _ => none }
def plateTurnsRow : OpenClaim := { program := "ythejmgnkenokpaadoor", sum := "5cf63f9795c4900ded1827b35a7cf8c8c7a4dd2b48d2afb204a5a5e6c8ef8fa1", func := "wringing/wringinglaw03.PlateTurns", spec := "plateTurns", unfollowed := true, recurses := true, named := ["internal/strconv.uint64pow10", "math/bits.deBruijn32tab", "math/bits.deBruijn64tab"], plainKeys := false, apart := false, laid := [("math/bits.deBruijn32tab", laid_math_bits_deBruijn32tab), ("math/bits.deBruijn64tab", laid_math_bits_deBruijn64tab), ("internal/strconv.uint64pow10", laid_internal_strconv_uint64pow10)] }
def PlateTurnsSaid : Prop := plateTurnsRow.holds Tryd.pinned (OpenSpec.ofChange plateTurnsSpec)

/-- ITS FALSE NEIGHBOUR: 'it returns false'. Refute it at one input. -/
def plateTurnsWrong : ChangeSpec := { name := "plateTurns", fn := fun _ => fun
  | [d1, d2, d3, d4] => { results := [.lit (.bool false)], args := [d1, d2, d3, d4] }
  | _ => none }
def PlateTurnsWrongFalsely : Prop := plateTurnsRow.holds Tryd.pinned (OpenSpec.ofChange plateTurnsWrong)

/-- 'wringinglaw03.PlateGroup': WHATEVER THE INPUT: true; the input reads as it did. -/
def plateGroupSpec : ChangeSpec := { name := "plateGroup", fn := fun _ => fun
  | [d1, d2, d3, d4, d5] => { results := [.lit (.bool true)], args := [d1, d2, d3, d4, d5] }
  | _ => none }
def plateGroupRow : OpenClaim := { program := "ythejmgnkenokpaadoor", sum := "5cf63f9795c4900ded1827b35a7cf8c8c7a4dd2b48d2afb204a5a5e6c8ef8fa1", func := "wringing/wringinglaw03.PlateGroup", spec := "plateGroup", unfollowed := true, recurses := true, named := ["internal/strconv.uint64pow10", "math/bits.deBruijn32tab", "math/bits.deBruijn64tab"], plainKeys := false, apart := false, laid := [("math/bits.deBruijn32tab", laid_math_bits_deBruijn32tab), ("math/bits.deBruijn64tab", laid_math_bits_deBruijn64tab), ("internal/strconv.uint64pow10", laid_internal_strconv_uint64pow10)] }
def PlateGroupSaid : Prop := plateGroupRow.holds Tryd.pinned (OpenSpec.ofChange plateGroupSpec)

/-- ITS FALSE NEIGHBOUR: 'it returns false'. Refute it at one input. -/
def plateGroupWrong : ChangeSpec := { name := "plateGroup", fn := fun _ => fun
  | [d1, d2, d3, d4, d5] => { results := [.lit (.bool false)], args := [d1, d2, d3, d4, d5] }
  | _ => none }
def PlateGroupWrongFalsely : Prop := plateGroupRow.holds Tryd.pinned (OpenSpec.ofChange plateGroupWrong)

/-- 'wringinglaw03.PlateThree': WHATEVER THE INPUT: true; the input reads as it did. -/
def plateThreeSpec : ChangeSpec := { name := "plateThree", fn := fun _ => fun
  | [d1, d2, d3, d4] => { results := [.lit (.bool true)], args := [d1, d2, d3, d4] }
  | _ => none }
def plateThreeRow : OpenClaim := { program := "ythejmgnkenokpaadoor", sum := "5cf63f9795c4900ded1827b35a7cf8c8c7a4dd2b48d2afb204a5a5e6c8ef8fa1", func := "wringing/wringinglaw03.PlateThree", spec := "plateThree", unfollowed := true, recurses := true, named := ["internal/strconv.uint64pow10", "math/bits.deBruijn32tab", "math/bits.deBruijn64tab"], plainKeys := false, apart := false, laid := [("math/bits.deBruijn32tab", laid_math_bits_deBruijn32tab), ("math/bits.deBruijn64tab", laid_math_bits_deBruijn64tab), ("internal/strconv.uint64pow10", laid_internal_strconv_uint64pow10)] }
def PlateThreeSaid : Prop := plateThreeRow.holds Tryd.pinned (OpenSpec.ofChange plateThreeSpec)

/-- ITS FALSE NEIGHBOUR: 'it returns false'. Refute it at one input. -/
def plateThreeWrong : ChangeSpec := { name := "plateThree", fn := fun _ => fun
  | [d1, d2, d3, d4] => { results := [.lit (.bool false)], args := [d1, d2, d3, d4] }
  | _ => none }
def PlateThreeWrongFalsely : Prop := plateThreeRow.holds Tryd.pinned (OpenSpec.ofChange plateThreeWrong)

/-- 'wringinglaw03.PlateFollows': WHATEVER THE INPUT: true; the input reads as it did. -/
def plateFollowsSpec : ChangeSpec := { name := "plateFollows", fn := fun _ => fun
  | [d1, d2, d3] => { results := [.lit (.bool true)], args := [d1, d2, d3] }
  | _ => none }
def plateFollowsRow : OpenClaim := { program := "ythejmgnkenokpaadoor", sum := "5cf63f9795c4900ded1827b35a7cf8c8c7a4dd2b48d2afb204a5a5e6c8ef8fa1", func := "wringing/wringinglaw03.PlateFollows", spec := "plateFollows", unfollowed := true, recurses := true, named := ["internal/strconv.uint64pow10", "math/bits.deBruijn32tab", "math/bits.deBruijn64tab"], plainKeys := false, apart := false, laid := [("math/bits.deBruijn32tab", laid_math_bits_deBruijn32tab), ("math/bits.deBruijn64tab", laid_math_bits_deBruijn64tab), ("internal/strconv.uint64pow10", laid_internal_strconv_uint64pow10)] }
def PlateFollowsSaid : Prop := plateFollowsRow.holds Tryd.pinned (OpenSpec.ofChange plateFollowsSpec)

/-- ITS FALSE NEIGHBOUR: 'it returns false'. Refute it at one input. -/
def plateFollowsWrong : ChangeSpec := { name := "plateFollows", fn := fun _ => fun
  | [d1, d2, d3] => { results := [.lit (.bool false)], args := [d1, d2, d3] }
  | _ => none }
def PlateFollowsWrongFalsely : Prop := plateFollowsRow.holds Tryd.pinned (OpenSpec.ofChange plateFollowsWrong)

/-- 'wringinglaw03.PlateHelps': WHATEVER THE INPUT: true; the input reads as it did. -/
def plateHelpsSpec : ChangeSpec := { name := "plateHelps", fn := fun _ => fun
  | [d1, d2] => { results := [.lit (.bool true)], args := [d1, d2] }
  | _ => none }
def plateHelpsRow : OpenClaim := { program := "ythejmgnkenokpaadoor", sum := "5cf63f9795c4900ded1827b35a7cf8c8c7a4dd2b48d2afb204a5a5e6c8ef8fa1", func := "wringing/wringinglaw03.PlateHelps", spec := "plateHelps", unfollowed := true, recurses := true, named := ["internal/strconv.uint64pow10", "math/bits.deBruijn32tab", "math/bits.deBruijn64tab"], plainKeys := false, apart := false, laid := [("math/bits.deBruijn32tab", laid_math_bits_deBruijn32tab), ("math/bits.deBruijn64tab", laid_math_bits_deBruijn64tab), ("internal/strconv.uint64pow10", laid_internal_strconv_uint64pow10)] }
def PlateHelpsSaid : Prop := plateHelpsRow.holds Tryd.pinned (OpenSpec.ofChange plateHelpsSpec)

/-- ITS FALSE NEIGHBOUR: 'it returns false'. Refute it at one input. -/
def plateHelpsWrong : ChangeSpec := { name := "plateHelps", fn := fun _ => fun
  | [d1, d2] => { results := [.lit (.bool false)], args := [d1, d2] }
  | _ => none }
def PlateHelpsWrongFalsely : Prop := plateHelpsRow.holds Tryd.pinned (OpenSpec.ofChange plateHelpsWrong)

/-- 'wringinglaw03.PlateMore': WHATEVER THE INPUT: true; the input reads as it did. -/
def plateMoreSpec : ChangeSpec := { name := "plateMore", fn := fun _ => fun
  | [d1, d2, d3] => { results := [.lit (.bool true)], args := [d1, d2, d3] }
  | _ => none }
def plateMoreRow : OpenClaim := { program := "ythejmgnkenokpaadoor", sum := "5cf63f9795c4900ded1827b35a7cf8c8c7a4dd2b48d2afb204a5a5e6c8ef8fa1", func := "wringing/wringinglaw03.PlateMore", spec := "plateMore", unfollowed := true, recurses := true, named := ["internal/strconv.uint64pow10", "math/bits.deBruijn32tab", "math/bits.deBruijn64tab"], plainKeys := false, apart := false, laid := [("math/bits.deBruijn32tab", laid_math_bits_deBruijn32tab), ("math/bits.deBruijn64tab", laid_math_bits_deBruijn64tab), ("internal/strconv.uint64pow10", laid_internal_strconv_uint64pow10)] }
def PlateMoreSaid : Prop := plateMoreRow.holds Tryd.pinned (OpenSpec.ofChange plateMoreSpec)

/-- ITS FALSE NEIGHBOUR: 'it returns false'. Refute it at one input. -/
def plateMoreWrong : ChangeSpec := { name := "plateMore", fn := fun _ => fun
  | [d1, d2, d3] => { results := [.lit (.bool false)], args := [d1, d2, d3] }
  | _ => none }
def PlateMoreWrongFalsely : Prop := plateMoreRow.holds Tryd.pinned (OpenSpec.ofChange plateMoreWrong)

/-- 'wringinglaw03.PlateWalks': WHATEVER THE INPUT: true; the input reads as it did. -/
def plateWalksSpec : ChangeSpec := { name := "plateWalks", fn := fun _ => fun
  | [d1, d2, d3, d4] => { results := [.lit (.bool true)], args := [d1, d2, d3, d4] }
  | _ => none }
def plateWalksRow : OpenClaim := { program := "ythejmgnkenokpaadoor", sum := "5cf63f9795c4900ded1827b35a7cf8c8c7a4dd2b48d2afb204a5a5e6c8ef8fa1", func := "wringing/wringinglaw03.PlateWalks", spec := "plateWalks", unfollowed := true, recurses := true, named := ["internal/strconv.uint64pow10", "math/bits.deBruijn32tab", "math/bits.deBruijn64tab"], plainKeys := false, apart := false, laid := [("math/bits.deBruijn32tab", laid_math_bits_deBruijn32tab), ("math/bits.deBruijn64tab", laid_math_bits_deBruijn64tab), ("internal/strconv.uint64pow10", laid_internal_strconv_uint64pow10)] }
def PlateWalksSaid : Prop := plateWalksRow.holds Tryd.pinned (OpenSpec.ofChange plateWalksSpec)

/-- ITS FALSE NEIGHBOUR: 'it returns false'. Refute it at one input. -/
def plateWalksWrong : ChangeSpec := { name := "plateWalks", fn := fun _ => fun
  | [d1, d2, d3, d4] => { results := [.lit (.bool false)], args := [d1, d2, d3, d4] }
  | _ => none }
def PlateWalksWrongFalsely : Prop := plateWalksRow.holds Tryd.pinned (OpenSpec.ofChange plateWalksWrong)

/-- 'wringinglaw03.PlateGaps': WHATEVER THE INPUT: true; the input reads as it did. -/
def plateGapsSpec : ChangeSpec := { name := "plateGaps", fn := fun _ => fun
  | [d1, d2, d3, d4] => { results := [.lit (.bool true)], args := [d1, d2, d3, d4] }
  | _ => none }
def plateGapsRow : OpenClaim := { program := "ythejmgnkenokpaadoor", sum := "5cf63f9795c4900ded1827b35a7cf8c8c7a4dd2b48d2afb204a5a5e6c8ef8fa1", func := "wringing/wringinglaw03.PlateGaps", spec := "plateGaps", unfollowed := true, recurses := true, named := ["internal/strconv.uint64pow10", "math/bits.deBruijn32tab", "math/bits.deBruijn64tab"], plainKeys := false, apart := false, laid := [("math/bits.deBruijn32tab", laid_math_bits_deBruijn32tab), ("math/bits.deBruijn64tab", laid_math_bits_deBruijn64tab), ("internal/strconv.uint64pow10", laid_internal_strconv_uint64pow10)] }
def PlateGapsSaid : Prop := plateGapsRow.holds Tryd.pinned (OpenSpec.ofChange plateGapsSpec)

/-- ITS FALSE NEIGHBOUR: 'it returns false'. Refute it at one input. -/
def plateGapsWrong : ChangeSpec := { name := "plateGaps", fn := fun _ => fun
  | [d1, d2, d3, d4] => { results := [.lit (.bool false)], args := [d1, d2, d3, d4] }
  | _ => none }
def PlateGapsWrongFalsely : Prop := plateGapsRow.holds Tryd.pinned (OpenSpec.ofChange plateGapsWrong)

/-- 'wringinglaw03.PlateFlat': WHATEVER THE INPUT: true; the input reads as it did. -/
def plateFlatSpec : ChangeSpec := { name := "plateFlat", fn := fun _ => fun
  | [d1, d2, d3, d4] => { results := [.lit (.bool true)], args := [d1, d2, d3, d4] }
  | _ => none }
def plateFlatRow : OpenClaim := { program := "ythejmgnkenokpaadoor", sum := "5cf63f9795c4900ded1827b35a7cf8c8c7a4dd2b48d2afb204a5a5e6c8ef8fa1", func := "wringing/wringinglaw03.PlateFlat", spec := "plateFlat", unfollowed := true, recurses := true, named := ["internal/strconv.uint64pow10", "math/bits.deBruijn32tab", "math/bits.deBruijn64tab"], plainKeys := false, apart := false, laid := [("math/bits.deBruijn32tab", laid_math_bits_deBruijn32tab), ("math/bits.deBruijn64tab", laid_math_bits_deBruijn64tab), ("internal/strconv.uint64pow10", laid_internal_strconv_uint64pow10)] }
def PlateFlatSaid : Prop := plateFlatRow.holds Tryd.pinned (OpenSpec.ofChange plateFlatSpec)

/-- ITS FALSE NEIGHBOUR: 'it returns false'. Refute it at one input. -/
def plateFlatWrong : ChangeSpec := { name := "plateFlat", fn := fun _ => fun
  | [d1, d2, d3, d4] => { results := [.lit (.bool false)], args := [d1, d2, d3, d4] }
  | _ => none }
def PlateFlatWrongFalsely : Prop := plateFlatRow.holds Tryd.pinned (OpenSpec.ofChange plateFlatWrong)

/-- 'wringinglaw03.PlateBound': WHATEVER THE INPUT: true; the input reads as it did. -/
def plateBoundSpec : ChangeSpec := { name := "plateBound", fn := fun _ => fun
  | [d1, d2, d3] => { results := [.lit (.bool true)], args := [d1, d2, d3] }
  | _ => none }
def plateBoundRow : OpenClaim := { program := "ythejmgnkenokpaadoor", sum := "5cf63f9795c4900ded1827b35a7cf8c8c7a4dd2b48d2afb204a5a5e6c8ef8fa1", func := "wringing/wringinglaw03.PlateBound", spec := "plateBound", unfollowed := true, recurses := true, named := ["internal/strconv.uint64pow10", "math/bits.deBruijn32tab", "math/bits.deBruijn64tab"], plainKeys := false, apart := false, laid := [("math/bits.deBruijn32tab", laid_math_bits_deBruijn32tab), ("math/bits.deBruijn64tab", laid_math_bits_deBruijn64tab), ("internal/strconv.uint64pow10", laid_internal_strconv_uint64pow10)] }
def PlateBoundSaid : Prop := plateBoundRow.holds Tryd.pinned (OpenSpec.ofChange plateBoundSpec)

/-- ITS FALSE NEIGHBOUR: 'it returns false'. Refute it at one input. -/
def plateBoundWrong : ChangeSpec := { name := "plateBound", fn := fun _ => fun
  | [d1, d2, d3] => { results := [.lit (.bool false)], args := [d1, d2, d3] }
  | _ => none }
def PlateBoundWrongFalsely : Prop := plateBoundRow.holds Tryd.pinned (OpenSpec.ofChange plateBoundWrong)

/- THE SECOND FORM. 'bulk': how many values and letters a reading holds, each counted each time it is reached (what is shared counts as often as it is met; a slice's spare places count too). A statement '..UptoSaid' is the law's where the arguments, and the package variables that the reading takes, are together of bulk at most 1048576: NARROWER than '..Said'. Prove '..Said' where nothing that the law and all that it calls make is longer than what came in: it says more and counts as full. Else prove '..UptoSaid'. A law counts once. -/
mutual
def uptoBulk {H : Type} : DataW H → Nat
  | .lit (.string bytes) => bytes.length + 1
  | .lit _ => 1
  | .nil => 1
  | .ptr d => uptoBulk d + 1
  | .slice elems spare => uptoBulkAll elems + uptoBulkAll spare + 1
  | .agg parts => uptoBulkAll parts + 1
  | .iface _ d => uptoBulk d + 1
  | .map entries => uptoBulkEntries entries + 1
  | .held _ => 1
def uptoBulkAll {H : Type} : List (DataW H) → Nat
  | [] => 0
  | d :: r => uptoBulk d + uptoBulkAll r
def uptoBulkEntries {H : Type} : List (Lit × DataW H) → Nat
  | [] => 0
  | x :: r => uptoBulkEntry x + uptoBulkEntries r
def uptoBulkEntry {H : Type} : Lit × DataW H → Nat
  | (.string bytes, d) => bytes.length + uptoBulk d + 1
  | (_, d) => uptoBulk d + 1
 end
def uptoSmall : (H : Type) → List (DataW H) → Bool := fun _ ds => decide (uptoBulkAll ds ≤ 1048576)
def OpenSpec.upto (s : _root_.Go.ChangeSpec) : _root_.Go.OpenSpec := { _root_.Go.OpenSpec.ofChange s with cond := some uptoSmall }

/-- 'wringinglaw03.PlateClasses', WHERE WHAT IT READS IS OF BULK AT MOST 1048576: true; the input reads as it did. -/
def plateClassesUptoRow : OpenClaim := { program := "ythejmgnkenokpaadoor", sum := "5cf63f9795c4900ded1827b35a7cf8c8c7a4dd2b48d2afb204a5a5e6c8ef8fa1", func := "wringing/wringinglaw03.PlateClasses", spec := "plateClasses", unfollowed := true, recurses := true, named := ["internal/strconv.uint64pow10", "math/bits.deBruijn32tab", "math/bits.deBruijn64tab"], plainKeys := false, apart := false, laid := [("math/bits.deBruijn32tab", laid_math_bits_deBruijn32tab), ("math/bits.deBruijn64tab", laid_math_bits_deBruijn64tab), ("internal/strconv.uint64pow10", laid_internal_strconv_uint64pow10)], narrowed := true }
def PlateClassesUptoSaid : Prop := plateClassesUptoRow.holds Tryd.pinned (OpenSpec.upto plateClassesSpec)

/-- 'wringinglaw03.PlateShapes', WHERE WHAT IT READS IS OF BULK AT MOST 1048576: true; the input reads as it did. -/
def plateShapesUptoRow : OpenClaim := { program := "ythejmgnkenokpaadoor", sum := "5cf63f9795c4900ded1827b35a7cf8c8c7a4dd2b48d2afb204a5a5e6c8ef8fa1", func := "wringing/wringinglaw03.PlateShapes", spec := "plateShapes", unfollowed := true, recurses := true, named := ["internal/strconv.uint64pow10", "math/bits.deBruijn32tab", "math/bits.deBruijn64tab"], plainKeys := false, apart := false, laid := [("math/bits.deBruijn32tab", laid_math_bits_deBruijn32tab), ("math/bits.deBruijn64tab", laid_math_bits_deBruijn64tab), ("internal/strconv.uint64pow10", laid_internal_strconv_uint64pow10)], narrowed := true }
def PlateShapesUptoSaid : Prop := plateShapesUptoRow.holds Tryd.pinned (OpenSpec.upto plateShapesSpec)

/-- 'wringinglaw03.PlateTurns', WHERE WHAT IT READS IS OF BULK AT MOST 1048576: true; the input reads as it did. -/
def plateTurnsUptoRow : OpenClaim := { program := "ythejmgnkenokpaadoor", sum := "5cf63f9795c4900ded1827b35a7cf8c8c7a4dd2b48d2afb204a5a5e6c8ef8fa1", func := "wringing/wringinglaw03.PlateTurns", spec := "plateTurns", unfollowed := true, recurses := true, named := ["internal/strconv.uint64pow10", "math/bits.deBruijn32tab", "math/bits.deBruijn64tab"], plainKeys := false, apart := false, laid := [("math/bits.deBruijn32tab", laid_math_bits_deBruijn32tab), ("math/bits.deBruijn64tab", laid_math_bits_deBruijn64tab), ("internal/strconv.uint64pow10", laid_internal_strconv_uint64pow10)], narrowed := true }
def PlateTurnsUptoSaid : Prop := plateTurnsUptoRow.holds Tryd.pinned (OpenSpec.upto plateTurnsSpec)

/-- 'wringinglaw03.PlateGroup', WHERE WHAT IT READS IS OF BULK AT MOST 1048576: true; the input reads as it did. -/
def plateGroupUptoRow : OpenClaim := { program := "ythejmgnkenokpaadoor", sum := "5cf63f9795c4900ded1827b35a7cf8c8c7a4dd2b48d2afb204a5a5e6c8ef8fa1", func := "wringing/wringinglaw03.PlateGroup", spec := "plateGroup", unfollowed := true, recurses := true, named := ["internal/strconv.uint64pow10", "math/bits.deBruijn32tab", "math/bits.deBruijn64tab"], plainKeys := false, apart := false, laid := [("math/bits.deBruijn32tab", laid_math_bits_deBruijn32tab), ("math/bits.deBruijn64tab", laid_math_bits_deBruijn64tab), ("internal/strconv.uint64pow10", laid_internal_strconv_uint64pow10)], narrowed := true }
def PlateGroupUptoSaid : Prop := plateGroupUptoRow.holds Tryd.pinned (OpenSpec.upto plateGroupSpec)

/-- 'wringinglaw03.PlateThree', WHERE WHAT IT READS IS OF BULK AT MOST 1048576: true; the input reads as it did. -/
def plateThreeUptoRow : OpenClaim := { program := "ythejmgnkenokpaadoor", sum := "5cf63f9795c4900ded1827b35a7cf8c8c7a4dd2b48d2afb204a5a5e6c8ef8fa1", func := "wringing/wringinglaw03.PlateThree", spec := "plateThree", unfollowed := true, recurses := true, named := ["internal/strconv.uint64pow10", "math/bits.deBruijn32tab", "math/bits.deBruijn64tab"], plainKeys := false, apart := false, laid := [("math/bits.deBruijn32tab", laid_math_bits_deBruijn32tab), ("math/bits.deBruijn64tab", laid_math_bits_deBruijn64tab), ("internal/strconv.uint64pow10", laid_internal_strconv_uint64pow10)], narrowed := true }
def PlateThreeUptoSaid : Prop := plateThreeUptoRow.holds Tryd.pinned (OpenSpec.upto plateThreeSpec)

/-- 'wringinglaw03.PlateFollows', WHERE WHAT IT READS IS OF BULK AT MOST 1048576: true; the input reads as it did. -/
def plateFollowsUptoRow : OpenClaim := { program := "ythejmgnkenokpaadoor", sum := "5cf63f9795c4900ded1827b35a7cf8c8c7a4dd2b48d2afb204a5a5e6c8ef8fa1", func := "wringing/wringinglaw03.PlateFollows", spec := "plateFollows", unfollowed := true, recurses := true, named := ["internal/strconv.uint64pow10", "math/bits.deBruijn32tab", "math/bits.deBruijn64tab"], plainKeys := false, apart := false, laid := [("math/bits.deBruijn32tab", laid_math_bits_deBruijn32tab), ("math/bits.deBruijn64tab", laid_math_bits_deBruijn64tab), ("internal/strconv.uint64pow10", laid_internal_strconv_uint64pow10)], narrowed := true }
def PlateFollowsUptoSaid : Prop := plateFollowsUptoRow.holds Tryd.pinned (OpenSpec.upto plateFollowsSpec)

/-- 'wringinglaw03.PlateHelps', WHERE WHAT IT READS IS OF BULK AT MOST 1048576: true; the input reads as it did. -/
def plateHelpsUptoRow : OpenClaim := { program := "ythejmgnkenokpaadoor", sum := "5cf63f9795c4900ded1827b35a7cf8c8c7a4dd2b48d2afb204a5a5e6c8ef8fa1", func := "wringing/wringinglaw03.PlateHelps", spec := "plateHelps", unfollowed := true, recurses := true, named := ["internal/strconv.uint64pow10", "math/bits.deBruijn32tab", "math/bits.deBruijn64tab"], plainKeys := false, apart := false, laid := [("math/bits.deBruijn32tab", laid_math_bits_deBruijn32tab), ("math/bits.deBruijn64tab", laid_math_bits_deBruijn64tab), ("internal/strconv.uint64pow10", laid_internal_strconv_uint64pow10)], narrowed := true }
def PlateHelpsUptoSaid : Prop := plateHelpsUptoRow.holds Tryd.pinned (OpenSpec.upto plateHelpsSpec)

/-- 'wringinglaw03.PlateMore', WHERE WHAT IT READS IS OF BULK AT MOST 1048576: true; the input reads as it did. -/
def plateMoreUptoRow : OpenClaim := { program := "ythejmgnkenokpaadoor", sum := "5cf63f9795c4900ded1827b35a7cf8c8c7a4dd2b48d2afb204a5a5e6c8ef8fa1", func := "wringing/wringinglaw03.PlateMore", spec := "plateMore", unfollowed := true, recurses := true, named := ["internal/strconv.uint64pow10", "math/bits.deBruijn32tab", "math/bits.deBruijn64tab"], plainKeys := false, apart := false, laid := [("math/bits.deBruijn32tab", laid_math_bits_deBruijn32tab), ("math/bits.deBruijn64tab", laid_math_bits_deBruijn64tab), ("internal/strconv.uint64pow10", laid_internal_strconv_uint64pow10)], narrowed := true }
def PlateMoreUptoSaid : Prop := plateMoreUptoRow.holds Tryd.pinned (OpenSpec.upto plateMoreSpec)

/-- 'wringinglaw03.PlateWalks', WHERE WHAT IT READS IS OF BULK AT MOST 1048576: true; the input reads as it did. -/
def plateWalksUptoRow : OpenClaim := { program := "ythejmgnkenokpaadoor", sum := "5cf63f9795c4900ded1827b35a7cf8c8c7a4dd2b48d2afb204a5a5e6c8ef8fa1", func := "wringing/wringinglaw03.PlateWalks", spec := "plateWalks", unfollowed := true, recurses := true, named := ["internal/strconv.uint64pow10", "math/bits.deBruijn32tab", "math/bits.deBruijn64tab"], plainKeys := false, apart := false, laid := [("math/bits.deBruijn32tab", laid_math_bits_deBruijn32tab), ("math/bits.deBruijn64tab", laid_math_bits_deBruijn64tab), ("internal/strconv.uint64pow10", laid_internal_strconv_uint64pow10)], narrowed := true }
def PlateWalksUptoSaid : Prop := plateWalksUptoRow.holds Tryd.pinned (OpenSpec.upto plateWalksSpec)

/-- 'wringinglaw03.PlateGaps', WHERE WHAT IT READS IS OF BULK AT MOST 1048576: true; the input reads as it did. -/
def plateGapsUptoRow : OpenClaim := { program := "ythejmgnkenokpaadoor", sum := "5cf63f9795c4900ded1827b35a7cf8c8c7a4dd2b48d2afb204a5a5e6c8ef8fa1", func := "wringing/wringinglaw03.PlateGaps", spec := "plateGaps", unfollowed := true, recurses := true, named := ["internal/strconv.uint64pow10", "math/bits.deBruijn32tab", "math/bits.deBruijn64tab"], plainKeys := false, apart := false, laid := [("math/bits.deBruijn32tab", laid_math_bits_deBruijn32tab), ("math/bits.deBruijn64tab", laid_math_bits_deBruijn64tab), ("internal/strconv.uint64pow10", laid_internal_strconv_uint64pow10)], narrowed := true }
def PlateGapsUptoSaid : Prop := plateGapsUptoRow.holds Tryd.pinned (OpenSpec.upto plateGapsSpec)

/-- 'wringinglaw03.PlateFlat', WHERE WHAT IT READS IS OF BULK AT MOST 1048576: true; the input reads as it did. -/
def plateFlatUptoRow : OpenClaim := { program := "ythejmgnkenokpaadoor", sum := "5cf63f9795c4900ded1827b35a7cf8c8c7a4dd2b48d2afb204a5a5e6c8ef8fa1", func := "wringing/wringinglaw03.PlateFlat", spec := "plateFlat", unfollowed := true, recurses := true, named := ["internal/strconv.uint64pow10", "math/bits.deBruijn32tab", "math/bits.deBruijn64tab"], plainKeys := false, apart := false, laid := [("math/bits.deBruijn32tab", laid_math_bits_deBruijn32tab), ("math/bits.deBruijn64tab", laid_math_bits_deBruijn64tab), ("internal/strconv.uint64pow10", laid_internal_strconv_uint64pow10)], narrowed := true }
def PlateFlatUptoSaid : Prop := plateFlatUptoRow.holds Tryd.pinned (OpenSpec.upto plateFlatSpec)

/-- 'wringinglaw03.PlateBound', WHERE WHAT IT READS IS OF BULK AT MOST 1048576: true; the input reads as it did. -/
def plateBoundUptoRow : OpenClaim := { program := "ythejmgnkenokpaadoor", sum := "5cf63f9795c4900ded1827b35a7cf8c8c7a4dd2b48d2afb204a5a5e6c8ef8fa1", func := "wringing/wringinglaw03.PlateBound", spec := "plateBound", unfollowed := true, recurses := true, named := ["internal/strconv.uint64pow10", "math/bits.deBruijn32tab", "math/bits.deBruijn64tab"], plainKeys := false, apart := false, laid := [("math/bits.deBruijn32tab", laid_math_bits_deBruijn32tab), ("math/bits.deBruijn64tab", laid_math_bits_deBruijn64tab), ("internal/strconv.uint64pow10", laid_internal_strconv_uint64pow10)], narrowed := true }
def PlateBoundUptoSaid : Prop := plateBoundUptoRow.holds Tryd.pinned (OpenSpec.upto plateBoundSpec)

end Rows
end Go.Proofs.YthejmgnkenokpaaDoor
