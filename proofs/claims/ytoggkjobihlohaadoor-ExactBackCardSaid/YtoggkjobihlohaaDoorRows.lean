/-
  NARROWER THAN 'FOR EVERY INPUT', by the rows' own cells (each row's printed sentence says how): ExactMakes: laid · ExactSimplest: laid · ExactBest: laid · ExactLeast: laid · ExactParts: laid · ExactClosest: laid · ExactOrder: laid · ExactField: laid · ExactFractions: laid · ExactSums: laid · ExactRanges: laid · ExactBetween: laid · ExactTexts: laid · ExactBack: laid.
  DERIVED. THE GIVEN ROWS OF THIS SEAT. 14 by the template 'for every input the law returns true; each argument reads behind the call as it read before'; 0 by the template 'total and deterministic' (their statements: YtoggkjobihlohaaDoorTotals.lean).
  GIVEN WITH THE SEED: the statements are not yours to turn. If you find one false, say at which input.
  Laid BY PROGRAM, IN A SANDBOX (cutbox-rows.mjs): the forced cells as the released guide's own fill.sh prints them over the translation 14d92b12ced2dbd9… (all of the seat's roots in one cut). By AI agents, Wed Nov 11 2026. No macro, syntax, notation, axiom, sorry.
-/
import Derived.Test.YtoggkjobihlohaaDoorChecked
import GoSem.Claim
import GoSem.ClaimJoined
import GoSem.ClaimMapViews
import Derived.JoinedTies
import Derived.KernelRfl
namespace Go.Proofs.YtoggkjobihlohaaDoor
/- THE CELL 'sum', in the pinned program and in every row, IS THE sha256 OF THE DUMP (.gsa) THAT YtoggkjobihlohaaDoorProg.lean LOADS. Nothing in Lean hashes anything: it is a label: what it is worth is what the hold of that sum in a sandbox is worth. -/
noncomputable def Tryd.pinned : Pinned := { name := "ytoggkjobihlohaadoor", sum := "14d92b12ced2dbd9c90cfb4b4e4f50e4240bea370bb4b60380bcaefaecf400bf", checked := Tryd.checked }
namespace Rows
def none {H : Type} : Left H := { results := [], args := [] }

/- WHAT THE LISTED PACKAGE-LEVEL VARIABLES READ AS WHEN THE CALL BEGINS. Each datum BY PROGRAM (the guide's laid-datum.mjs) off the statement by which the dump's own 'gosem.cut.vars' lays the variable. In a bare row this is a premise. The card (YtoggkjobihlohaaDoorCards.lean) ties it to the program's text. -/
def laid_math_bits_deBruijn32tab {H : Type} : DataW H := .agg [.lit (.int .u8 0), .lit (.int .u8 1), .lit (.int .u8 28), .lit (.int .u8 2), .lit (.int .u8 29), .lit (.int .u8 14), .lit (.int .u8 24), .lit (.int .u8 3), .lit (.int .u8 30), .lit (.int .u8 22), .lit (.int .u8 20), .lit (.int .u8 15), .lit (.int .u8 25), .lit (.int .u8 17), .lit (.int .u8 4), .lit (.int .u8 8), .lit (.int .u8 31), .lit (.int .u8 27), .lit (.int .u8 13), .lit (.int .u8 23), .lit (.int .u8 21), .lit (.int .u8 19), .lit (.int .u8 16), .lit (.int .u8 7), .lit (.int .u8 26), .lit (.int .u8 12), .lit (.int .u8 18), .lit (.int .u8 6), .lit (.int .u8 11), .lit (.int .u8 5), .lit (.int .u8 10), .lit (.int .u8 9)]
def laid_math_bits_deBruijn64tab {H : Type} : DataW H := .agg [.lit (.int .u8 0), .lit (.int .u8 1), .lit (.int .u8 56), .lit (.int .u8 2), .lit (.int .u8 57), .lit (.int .u8 49), .lit (.int .u8 28), .lit (.int .u8 3), .lit (.int .u8 61), .lit (.int .u8 58), .lit (.int .u8 42), .lit (.int .u8 50), .lit (.int .u8 38), .lit (.int .u8 29), .lit (.int .u8 17), .lit (.int .u8 4), .lit (.int .u8 62), .lit (.int .u8 47), .lit (.int .u8 59), .lit (.int .u8 36), .lit (.int .u8 45), .lit (.int .u8 43), .lit (.int .u8 51), .lit (.int .u8 22), .lit (.int .u8 53), .lit (.int .u8 39), .lit (.int .u8 33), .lit (.int .u8 30), .lit (.int .u8 24), .lit (.int .u8 18), .lit (.int .u8 12), .lit (.int .u8 5), .lit (.int .u8 63), .lit (.int .u8 55), .lit (.int .u8 48), .lit (.int .u8 27), .lit (.int .u8 60), .lit (.int .u8 41), .lit (.int .u8 37), .lit (.int .u8 16), .lit (.int .u8 46), .lit (.int .u8 35), .lit (.int .u8 44), .lit (.int .u8 21), .lit (.int .u8 52), .lit (.int .u8 32), .lit (.int .u8 23), .lit (.int .u8 11), .lit (.int .u8 54), .lit (.int .u8 26), .lit (.int .u8 40), .lit (.int .u8 15), .lit (.int .u8 34), .lit (.int .u8 20), .lit (.int .u8 31), .lit (.int .u8 10), .lit (.int .u8 25), .lit (.int .u8 14), .lit (.int .u8 19), .lit (.int .u8 9), .lit (.int .u8 13), .lit (.int .u8 8), .lit (.int .u8 7), .lit (.int .u8 6)]
def laid_internal_strconv_uint64pow10 {H : Type} : DataW H := .agg [.lit (.int .u64 1), .lit (.int .u64 10), .lit (.int .u64 100), .lit (.int .u64 1000), .lit (.int .u64 10000), .lit (.int .u64 100000), .lit (.int .u64 1000000), .lit (.int .u64 10000000), .lit (.int .u64 100000000), .lit (.int .u64 1000000000), .lit (.int .u64 10000000000), .lit (.int .u64 100000000000), .lit (.int .u64 1000000000000), .lit (.int .u64 10000000000000), .lit (.int .u64 100000000000000), .lit (.int .u64 1000000000000000), .lit (.int .u64 10000000000000000), .lit (.int .u64 100000000000000000), .lit (.int .u64 1000000000000000000), .lit (.int .u64 10000000000000000000)]
def laid_strconv_ErrRange {H : Type} : DataW H := .iface "*errors.errorString" (.ptr (.agg [.lit (.string [118, 97, 108, 117, 101, 32, 111, 117, 116, 32, 111, 102, 32, 114, 97, 110, 103, 101])]))
def laid_strconv_ErrSyntax {H : Type} : DataW H := .iface "*errors.errorString" (.ptr (.agg [.lit (.string [105, 110, 118, 97, 108, 105, 100, 32, 115, 121, 110, 116, 97, 120])]))

/-- 'wringinglaw01.ExactMakes': WHATEVER THE INPUT: true; the input reads as it did. -/
def exactMakesSpec : ChangeSpec := { name := "exactMakes", fn := fun _ => fun
  | [d1, d2, d3] => { results := [.lit (.bool true)], args := [d1, d2, d3] }
  | _ => none }
def exactMakesRow : OpenClaim := { program := "ytoggkjobihlohaadoor", sum := "14d92b12ced2dbd9c90cfb4b4e4f50e4240bea370bb4b60380bcaefaecf400bf", func := "wringing/wringinglaw01.ExactMakes", spec := "exactMakes", unfollowed := true, recurses := true, named := ["internal/strconv.uint64pow10", "math/bits.deBruijn32tab", "math/bits.deBruijn64tab"], apart := false, laid := [("math/bits.deBruijn32tab", laid_math_bits_deBruijn32tab), ("math/bits.deBruijn64tab", laid_math_bits_deBruijn64tab), ("internal/strconv.uint64pow10", laid_internal_strconv_uint64pow10)] }
def ExactMakesSaid : Prop := exactMakesRow.holds Tryd.pinned (OpenSpec.ofChange exactMakesSpec)

/-- ITS FALSE NEIGHBOUR: 'it returns false'. Refute it at one input. -/
def exactMakesWrong : ChangeSpec := { name := "exactMakes", fn := fun _ => fun
  | [d1, d2, d3] => { results := [.lit (.bool false)], args := [d1, d2, d3] }
  | _ => none }
def ExactMakesWrongFalsely : Prop := exactMakesRow.holds Tryd.pinned (OpenSpec.ofChange exactMakesWrong)

/-- 'wringinglaw01.ExactSimplest': WHATEVER THE INPUT: true; the input reads as it did. -/
def exactSimplestSpec : ChangeSpec := { name := "exactSimplest", fn := fun _ => fun
  | [d] => { results := [.lit (.bool true)], args := [d] }
  | _ => none }
def exactSimplestRow : OpenClaim := { program := "ytoggkjobihlohaadoor", sum := "14d92b12ced2dbd9c90cfb4b4e4f50e4240bea370bb4b60380bcaefaecf400bf", func := "wringing/wringinglaw01.ExactSimplest", spec := "exactSimplest", unfollowed := true, recurses := true, named := ["internal/strconv.uint64pow10", "math/bits.deBruijn32tab", "math/bits.deBruijn64tab"], apart := false, laid := [("math/bits.deBruijn32tab", laid_math_bits_deBruijn32tab), ("math/bits.deBruijn64tab", laid_math_bits_deBruijn64tab), ("internal/strconv.uint64pow10", laid_internal_strconv_uint64pow10)] }
def ExactSimplestSaid : Prop := exactSimplestRow.holds Tryd.pinned (OpenSpec.ofChange exactSimplestSpec)

/-- ITS FALSE NEIGHBOUR: 'it returns false'. Refute it at one input. -/
def exactSimplestWrong : ChangeSpec := { name := "exactSimplest", fn := fun _ => fun
  | [d] => { results := [.lit (.bool false)], args := [d] }
  | _ => none }
def ExactSimplestWrongFalsely : Prop := exactSimplestRow.holds Tryd.pinned (OpenSpec.ofChange exactSimplestWrong)

/-- 'wringinglaw01.ExactBest': WHATEVER THE INPUT: true; the input reads as it did. -/
def exactBestSpec : ChangeSpec := { name := "exactBest", fn := fun _ => fun
  | [d1, d2] => { results := [.lit (.bool true)], args := [d1, d2] }
  | _ => none }
def exactBestRow : OpenClaim := { program := "ytoggkjobihlohaadoor", sum := "14d92b12ced2dbd9c90cfb4b4e4f50e4240bea370bb4b60380bcaefaecf400bf", func := "wringing/wringinglaw01.ExactBest", spec := "exactBest", unfollowed := true, recurses := true, named := ["internal/strconv.uint64pow10", "math/bits.deBruijn32tab", "math/bits.deBruijn64tab"], apart := false, laid := [("math/bits.deBruijn32tab", laid_math_bits_deBruijn32tab), ("math/bits.deBruijn64tab", laid_math_bits_deBruijn64tab), ("internal/strconv.uint64pow10", laid_internal_strconv_uint64pow10)] }
def ExactBestSaid : Prop := exactBestRow.holds Tryd.pinned (OpenSpec.ofChange exactBestSpec)

/-- ITS FALSE NEIGHBOUR: 'it returns false'. Refute it at one input. -/
def exactBestWrong : ChangeSpec := { name := "exactBest", fn := fun _ => fun
  | [d1, d2] => { results := [.lit (.bool false)], args := [d1, d2] }
  | _ => none }
def ExactBestWrongFalsely : Prop := exactBestRow.holds Tryd.pinned (OpenSpec.ofChange exactBestWrong)

/-- 'wringinglaw01.ExactLeast': WHATEVER THE INPUT: true; the input reads as it did. -/
def exactLeastSpec : ChangeSpec := { name := "exactLeast", fn := fun _ => fun
  | [d1, d2, d3] => { results := [.lit (.bool true)], args := [d1, d2, d3] }
  | _ => none }
def exactLeastRow : OpenClaim := { program := "ytoggkjobihlohaadoor", sum := "14d92b12ced2dbd9c90cfb4b4e4f50e4240bea370bb4b60380bcaefaecf400bf", func := "wringing/wringinglaw01.ExactLeast", spec := "exactLeast", unfollowed := true, recurses := true, named := ["internal/strconv.uint64pow10", "math/bits.deBruijn32tab", "math/bits.deBruijn64tab"], apart := false, laid := [("math/bits.deBruijn32tab", laid_math_bits_deBruijn32tab), ("math/bits.deBruijn64tab", laid_math_bits_deBruijn64tab), ("internal/strconv.uint64pow10", laid_internal_strconv_uint64pow10)] }
def ExactLeastSaid : Prop := exactLeastRow.holds Tryd.pinned (OpenSpec.ofChange exactLeastSpec)

/-- ITS FALSE NEIGHBOUR: 'it returns false'. Refute it at one input. -/
def exactLeastWrong : ChangeSpec := { name := "exactLeast", fn := fun _ => fun
  | [d1, d2, d3] => { results := [.lit (.bool false)], args := [d1, d2, d3] }
  | _ => none }
def ExactLeastWrongFalsely : Prop := exactLeastRow.holds Tryd.pinned (OpenSpec.ofChange exactLeastWrong)

/-- 'wringinglaw01.ExactParts': WHATEVER THE INPUT: true; the input reads as it did. -/
def exactPartsSpec : ChangeSpec := { name := "exactParts", fn := fun _ => fun
  | [d1, d2] => { results := [.lit (.bool true)], args := [d1, d2] }
  | _ => none }
def exactPartsRow : OpenClaim := { program := "ytoggkjobihlohaadoor", sum := "14d92b12ced2dbd9c90cfb4b4e4f50e4240bea370bb4b60380bcaefaecf400bf", func := "wringing/wringinglaw01.ExactParts", spec := "exactParts", unfollowed := true, recurses := true, named := ["internal/strconv.uint64pow10", "math/bits.deBruijn32tab", "math/bits.deBruijn64tab"], apart := false, laid := [("math/bits.deBruijn32tab", laid_math_bits_deBruijn32tab), ("math/bits.deBruijn64tab", laid_math_bits_deBruijn64tab), ("internal/strconv.uint64pow10", laid_internal_strconv_uint64pow10)] }
def ExactPartsSaid : Prop := exactPartsRow.holds Tryd.pinned (OpenSpec.ofChange exactPartsSpec)

/-- ITS FALSE NEIGHBOUR: 'it returns false'. Refute it at one input. -/
def exactPartsWrong : ChangeSpec := { name := "exactParts", fn := fun _ => fun
  | [d1, d2] => { results := [.lit (.bool false)], args := [d1, d2] }
  | _ => none }
def ExactPartsWrongFalsely : Prop := exactPartsRow.holds Tryd.pinned (OpenSpec.ofChange exactPartsWrong)

/-- 'wringinglaw01.ExactClosest': WHATEVER THE INPUT: true; the input reads as it did. -/
def exactClosestSpec : ChangeSpec := { name := "exactClosest", fn := fun _ => fun
  | [d1, d2, d3, d4] => { results := [.lit (.bool true)], args := [d1, d2, d3, d4] }
  | _ => none }
def exactClosestRow : OpenClaim := { program := "ytoggkjobihlohaadoor", sum := "14d92b12ced2dbd9c90cfb4b4e4f50e4240bea370bb4b60380bcaefaecf400bf", func := "wringing/wringinglaw01.ExactClosest", spec := "exactClosest", unfollowed := true, recurses := true, named := ["internal/strconv.uint64pow10", "math/bits.deBruijn32tab", "math/bits.deBruijn64tab"], apart := false, laid := [("math/bits.deBruijn32tab", laid_math_bits_deBruijn32tab), ("math/bits.deBruijn64tab", laid_math_bits_deBruijn64tab), ("internal/strconv.uint64pow10", laid_internal_strconv_uint64pow10)] }
def ExactClosestSaid : Prop := exactClosestRow.holds Tryd.pinned (OpenSpec.ofChange exactClosestSpec)

/-- ITS FALSE NEIGHBOUR: 'it returns false'. Refute it at one input. -/
def exactClosestWrong : ChangeSpec := { name := "exactClosest", fn := fun _ => fun
  | [d1, d2, d3, d4] => { results := [.lit (.bool false)], args := [d1, d2, d3, d4] }
  | _ => none }
def ExactClosestWrongFalsely : Prop := exactClosestRow.holds Tryd.pinned (OpenSpec.ofChange exactClosestWrong)

/-- 'wringinglaw01.ExactOrder': WHATEVER THE INPUT: true; the input reads as it did. -/
def exactOrderSpec : ChangeSpec := { name := "exactOrder", fn := fun _ => fun
  | [d1, d2, d3] => { results := [.lit (.bool true)], args := [d1, d2, d3] }
  | _ => none }
def exactOrderRow : OpenClaim := { program := "ytoggkjobihlohaadoor", sum := "14d92b12ced2dbd9c90cfb4b4e4f50e4240bea370bb4b60380bcaefaecf400bf", func := "wringing/wringinglaw01.ExactOrder", spec := "exactOrder", unfollowed := true, recurses := true, named := ["internal/strconv.uint64pow10", "math/bits.deBruijn32tab", "math/bits.deBruijn64tab"], apart := false, laid := [("math/bits.deBruijn32tab", laid_math_bits_deBruijn32tab), ("math/bits.deBruijn64tab", laid_math_bits_deBruijn64tab), ("internal/strconv.uint64pow10", laid_internal_strconv_uint64pow10)] }
def ExactOrderSaid : Prop := exactOrderRow.holds Tryd.pinned (OpenSpec.ofChange exactOrderSpec)

/-- ITS FALSE NEIGHBOUR: 'it returns false'. Refute it at one input. -/
def exactOrderWrong : ChangeSpec := { name := "exactOrder", fn := fun _ => fun
  | [d1, d2, d3] => { results := [.lit (.bool false)], args := [d1, d2, d3] }
  | _ => none }
def ExactOrderWrongFalsely : Prop := exactOrderRow.holds Tryd.pinned (OpenSpec.ofChange exactOrderWrong)

/-- 'wringinglaw01.ExactField': WHATEVER THE INPUT: true; the input reads as it did. -/
def exactFieldSpec : ChangeSpec := { name := "exactField", fn := fun _ => fun
  | [d1, d2, d3] => { results := [.lit (.bool true)], args := [d1, d2, d3] }
  | _ => none }
def exactFieldRow : OpenClaim := { program := "ytoggkjobihlohaadoor", sum := "14d92b12ced2dbd9c90cfb4b4e4f50e4240bea370bb4b60380bcaefaecf400bf", func := "wringing/wringinglaw01.ExactField", spec := "exactField", unfollowed := true, recurses := true, named := ["internal/strconv.uint64pow10", "math/bits.deBruijn32tab", "math/bits.deBruijn64tab"], apart := false, laid := [("math/bits.deBruijn32tab", laid_math_bits_deBruijn32tab), ("math/bits.deBruijn64tab", laid_math_bits_deBruijn64tab), ("internal/strconv.uint64pow10", laid_internal_strconv_uint64pow10)] }
def ExactFieldSaid : Prop := exactFieldRow.holds Tryd.pinned (OpenSpec.ofChange exactFieldSpec)

/-- ITS FALSE NEIGHBOUR: 'it returns false'. Refute it at one input. -/
def exactFieldWrong : ChangeSpec := { name := "exactField", fn := fun _ => fun
  | [d1, d2, d3] => { results := [.lit (.bool false)], args := [d1, d2, d3] }
  | _ => none }
def ExactFieldWrongFalsely : Prop := exactFieldRow.holds Tryd.pinned (OpenSpec.ofChange exactFieldWrong)

/-- 'wringinglaw01.ExactFractions': WHATEVER THE INPUT: true; the input reads as it did. -/
def exactFractionsSpec : ChangeSpec := { name := "exactFractions", fn := fun _ => fun
  | [d1, d2] => { results := [.lit (.bool true)], args := [d1, d2] }
  | _ => none }
def exactFractionsRow : OpenClaim := { program := "ytoggkjobihlohaadoor", sum := "14d92b12ced2dbd9c90cfb4b4e4f50e4240bea370bb4b60380bcaefaecf400bf", func := "wringing/wringinglaw01.ExactFractions", spec := "exactFractions", unfollowed := true, recurses := true, named := ["internal/strconv.uint64pow10", "math/bits.deBruijn32tab", "math/bits.deBruijn64tab"], apart := false, laid := [("math/bits.deBruijn32tab", laid_math_bits_deBruijn32tab), ("math/bits.deBruijn64tab", laid_math_bits_deBruijn64tab), ("internal/strconv.uint64pow10", laid_internal_strconv_uint64pow10)] }
def ExactFractionsSaid : Prop := exactFractionsRow.holds Tryd.pinned (OpenSpec.ofChange exactFractionsSpec)

/-- ITS FALSE NEIGHBOUR: 'it returns false'. Refute it at one input. -/
def exactFractionsWrong : ChangeSpec := { name := "exactFractions", fn := fun _ => fun
  | [d1, d2] => { results := [.lit (.bool false)], args := [d1, d2] }
  | _ => none }
def ExactFractionsWrongFalsely : Prop := exactFractionsRow.holds Tryd.pinned (OpenSpec.ofChange exactFractionsWrong)

/-- 'wringinglaw01.ExactSums': WHATEVER THE INPUT: true; the input reads as it did. -/
def exactSumsSpec : ChangeSpec := { name := "exactSums", fn := fun _ => fun
  | [d1, d2] => { results := [.lit (.bool true)], args := [d1, d2] }
  | _ => none }
def exactSumsRow : OpenClaim := { program := "ytoggkjobihlohaadoor", sum := "14d92b12ced2dbd9c90cfb4b4e4f50e4240bea370bb4b60380bcaefaecf400bf", func := "wringing/wringinglaw01.ExactSums", spec := "exactSums", unfollowed := true, recurses := true, named := ["internal/strconv.uint64pow10", "math/bits.deBruijn32tab", "math/bits.deBruijn64tab"], apart := false, laid := [("math/bits.deBruijn32tab", laid_math_bits_deBruijn32tab), ("math/bits.deBruijn64tab", laid_math_bits_deBruijn64tab), ("internal/strconv.uint64pow10", laid_internal_strconv_uint64pow10)] }
def ExactSumsSaid : Prop := exactSumsRow.holds Tryd.pinned (OpenSpec.ofChange exactSumsSpec)

/-- ITS FALSE NEIGHBOUR: 'it returns false'. Refute it at one input. -/
def exactSumsWrong : ChangeSpec := { name := "exactSums", fn := fun _ => fun
  | [d1, d2] => { results := [.lit (.bool false)], args := [d1, d2] }
  | _ => none }
def ExactSumsWrongFalsely : Prop := exactSumsRow.holds Tryd.pinned (OpenSpec.ofChange exactSumsWrong)

/-- 'wringinglaw01.ExactRanges': WHATEVER THE INPUT: true; the input reads as it did. -/
def exactRangesSpec : ChangeSpec := { name := "exactRanges", fn := fun _ => fun
  | [d1, d2, d3] => { results := [.lit (.bool true)], args := [d1, d2, d3] }
  | _ => none }
def exactRangesRow : OpenClaim := { program := "ytoggkjobihlohaadoor", sum := "14d92b12ced2dbd9c90cfb4b4e4f50e4240bea370bb4b60380bcaefaecf400bf", func := "wringing/wringinglaw01.ExactRanges", spec := "exactRanges", unfollowed := true, recurses := true, named := ["internal/strconv.uint64pow10", "math/bits.deBruijn32tab", "math/bits.deBruijn64tab"], apart := false, laid := [("math/bits.deBruijn32tab", laid_math_bits_deBruijn32tab), ("math/bits.deBruijn64tab", laid_math_bits_deBruijn64tab), ("internal/strconv.uint64pow10", laid_internal_strconv_uint64pow10)] }
def ExactRangesSaid : Prop := exactRangesRow.holds Tryd.pinned (OpenSpec.ofChange exactRangesSpec)

/-- ITS FALSE NEIGHBOUR: 'it returns false'. Refute it at one input. -/
def exactRangesWrong : ChangeSpec := { name := "exactRanges", fn := fun _ => fun
  | [d1, d2, d3] => { results := [.lit (.bool false)], args := [d1, d2, d3] }
  | _ => none }
def ExactRangesWrongFalsely : Prop := exactRangesRow.holds Tryd.pinned (OpenSpec.ofChange exactRangesWrong)

/-- 'wringinglaw01.ExactBetween': WHATEVER THE INPUT: true; the input reads as it did. -/
def exactBetweenSpec : ChangeSpec := { name := "exactBetween", fn := fun _ => fun
  | [d1, d2, d3, d4, d5] => { results := [.lit (.bool true)], args := [d1, d2, d3, d4, d5] }
  | _ => none }
def exactBetweenRow : OpenClaim := { program := "ytoggkjobihlohaadoor", sum := "14d92b12ced2dbd9c90cfb4b4e4f50e4240bea370bb4b60380bcaefaecf400bf", func := "wringing/wringinglaw01.ExactBetween", spec := "exactBetween", unfollowed := true, recurses := true, named := ["internal/strconv.uint64pow10", "math/bits.deBruijn32tab", "math/bits.deBruijn64tab"], apart := false, laid := [("math/bits.deBruijn32tab", laid_math_bits_deBruijn32tab), ("math/bits.deBruijn64tab", laid_math_bits_deBruijn64tab), ("internal/strconv.uint64pow10", laid_internal_strconv_uint64pow10)] }
def ExactBetweenSaid : Prop := exactBetweenRow.holds Tryd.pinned (OpenSpec.ofChange exactBetweenSpec)

/-- ITS FALSE NEIGHBOUR: 'it returns false'. Refute it at one input. -/
def exactBetweenWrong : ChangeSpec := { name := "exactBetween", fn := fun _ => fun
  | [d1, d2, d3, d4, d5] => { results := [.lit (.bool false)], args := [d1, d2, d3, d4, d5] }
  | _ => none }
def ExactBetweenWrongFalsely : Prop := exactBetweenRow.holds Tryd.pinned (OpenSpec.ofChange exactBetweenWrong)

/-- 'wringinglaw01.ExactTexts': WHATEVER THE INPUT: true; the input reads as it did. -/
def exactTextsSpec : ChangeSpec := { name := "exactTexts", fn := fun _ => fun
  | [d1, d2] => { results := [.lit (.bool true)], args := [d1, d2] }
  | _ => none }
def exactTextsRow : OpenClaim := { program := "ytoggkjobihlohaadoor", sum := "14d92b12ced2dbd9c90cfb4b4e4f50e4240bea370bb4b60380bcaefaecf400bf", func := "wringing/wringinglaw01.ExactTexts", spec := "exactTexts", inPlace := ["internal/bytealg.IndexByteString", "internal/bytealg.IndexString"], unfollowed := true, recurses := true, named := ["internal/strconv.uint64pow10", "math/bits.deBruijn32tab", "math/bits.deBruijn64tab", "internal/bytealg.MaxLen", "strconv.ErrSyntax", "strconv.ErrRange"], apart := false, laid := [("math/bits.deBruijn32tab", laid_math_bits_deBruijn32tab), ("math/bits.deBruijn64tab", laid_math_bits_deBruijn64tab), ("internal/strconv.uint64pow10", laid_internal_strconv_uint64pow10), ("strconv.ErrRange", laid_strconv_ErrRange), ("strconv.ErrSyntax", laid_strconv_ErrSyntax)] }
def ExactTextsSaid : Prop := exactTextsRow.holds Tryd.pinned (OpenSpec.ofChange exactTextsSpec)

/-- ITS FALSE NEIGHBOUR: 'it returns false'. Refute it at one input. -/
def exactTextsWrong : ChangeSpec := { name := "exactTexts", fn := fun _ => fun
  | [d1, d2] => { results := [.lit (.bool false)], args := [d1, d2] }
  | _ => none }
def ExactTextsWrongFalsely : Prop := exactTextsRow.holds Tryd.pinned (OpenSpec.ofChange exactTextsWrong)

/-- 'wringinglaw01.ExactBack': WHATEVER THE INPUT: true; the input reads as it did. -/
def exactBackSpec : ChangeSpec := { name := "exactBack", fn := fun _ => fun
  | [d1, d2, d3] => { results := [.lit (.bool true)], args := [d1, d2, d3] }
  | _ => none }
def exactBackRow : OpenClaim := { program := "ytoggkjobihlohaadoor", sum := "14d92b12ced2dbd9c90cfb4b4e4f50e4240bea370bb4b60380bcaefaecf400bf", func := "wringing/wringinglaw01.ExactBack", spec := "exactBack", inPlace := ["internal/bytealg.IndexByteString", "internal/bytealg.IndexString"], unfollowed := true, recurses := true, named := ["internal/strconv.uint64pow10", "math/bits.deBruijn32tab", "math/bits.deBruijn64tab", "internal/bytealg.MaxLen", "strconv.ErrSyntax", "strconv.ErrRange"], apart := false, laid := [("math/bits.deBruijn32tab", laid_math_bits_deBruijn32tab), ("math/bits.deBruijn64tab", laid_math_bits_deBruijn64tab), ("internal/strconv.uint64pow10", laid_internal_strconv_uint64pow10), ("strconv.ErrRange", laid_strconv_ErrRange), ("strconv.ErrSyntax", laid_strconv_ErrSyntax)] }
def ExactBackSaid : Prop := exactBackRow.holds Tryd.pinned (OpenSpec.ofChange exactBackSpec)

/-- ITS FALSE NEIGHBOUR: 'it returns false'. Refute it at one input. -/
def exactBackWrong : ChangeSpec := { name := "exactBack", fn := fun _ => fun
  | [d1, d2, d3] => { results := [.lit (.bool false)], args := [d1, d2, d3] }
  | _ => none }
def ExactBackWrongFalsely : Prop := exactBackRow.holds Tryd.pinned (OpenSpec.ofChange exactBackWrong)

/- THE SECOND FORM. 'bulk': how many values and letters a reading holds, each counted each time it is reached (what is shared counts as often as it is met; a slice's spare places count too). A statement '..UptoSaid' is the law's where the arguments, and the package variables that the reading takes, are together of bulk at most 1048576: NARROWER than '..Said'. Prove '..Said' where nothing that the law and all that it calls make is longer than what came in: it says more and counts as full. Else prove '..UptoSaid'. A law counts once. -/
mutual
def uptoBulk {H : Type} : DataW H → Nat
  | .lit (.string bytes) => bytes.length + 1
  | .lit _ => 1
  | .nil => 1
  | .ptr d => uptoBulk d + 1
  | .slice elems spare => uptoBulkAll elems + uptoBulkAll spare + 1
  | .agg parts => uptoBulkAll parts + 1
  | .iface _ d => uptoBulk d + 1
  | .map entries => uptoBulkEntries entries + 1
  | .held _ => 1
def uptoBulkAll {H : Type} : List (DataW H) → Nat
  | [] => 0
  | d :: r => uptoBulk d + uptoBulkAll r
def uptoBulkEntries {H : Type} : List (Lit × DataW H) → Nat
  | [] => 0
  | x :: r => uptoBulkEntry x + uptoBulkEntries r
def uptoBulkEntry {H : Type} : Lit × DataW H → Nat
  | (.string bytes, d) => bytes.length + uptoBulk d + 1
  | (_, d) => uptoBulk d + 1
 end
def uptoSmall : (H : Type) → List (DataW H) → Bool := fun _ ds => decide (uptoBulkAll ds ≤ 1048576)
def OpenSpec.upto (s : _root_.Go.ChangeSpec) : _root_.Go.OpenSpec := { _root_.Go.OpenSpec.ofChange s with cond := some uptoSmall }

/-- 'wringinglaw01.ExactMakes', WHERE WHAT IT READS IS OF BULK AT MOST 1048576: true; the input reads as it did. -/
def exactMakesUptoRow : OpenClaim := { program := "ytoggkjobihlohaadoor", sum := "14d92b12ced2dbd9c90cfb4b4e4f50e4240bea370bb4b60380bcaefaecf400bf", func := "wringing/wringinglaw01.ExactMakes", spec := "exactMakes", unfollowed := true, recurses := true, named := ["internal/strconv.uint64pow10", "math/bits.deBruijn32tab", "math/bits.deBruijn64tab"], apart := false, laid := [("math/bits.deBruijn32tab", laid_math_bits_deBruijn32tab), ("math/bits.deBruijn64tab", laid_math_bits_deBruijn64tab), ("internal/strconv.uint64pow10", laid_internal_strconv_uint64pow10)], narrowed := true }
def ExactMakesUptoSaid : Prop := exactMakesUptoRow.holds Tryd.pinned (OpenSpec.upto exactMakesSpec)

/-- 'wringinglaw01.ExactSimplest', WHERE WHAT IT READS IS OF BULK AT MOST 1048576: true; the input reads as it did. -/
def exactSimplestUptoRow : OpenClaim := { program := "ytoggkjobihlohaadoor", sum := "14d92b12ced2dbd9c90cfb4b4e4f50e4240bea370bb4b60380bcaefaecf400bf", func := "wringing/wringinglaw01.ExactSimplest", spec := "exactSimplest", unfollowed := true, recurses := true, named := ["internal/strconv.uint64pow10", "math/bits.deBruijn32tab", "math/bits.deBruijn64tab"], apart := false, laid := [("math/bits.deBruijn32tab", laid_math_bits_deBruijn32tab), ("math/bits.deBruijn64tab", laid_math_bits_deBruijn64tab), ("internal/strconv.uint64pow10", laid_internal_strconv_uint64pow10)], narrowed := true }
def ExactSimplestUptoSaid : Prop := exactSimplestUptoRow.holds Tryd.pinned (OpenSpec.upto exactSimplestSpec)

/-- 'wringinglaw01.ExactBest', WHERE WHAT IT READS IS OF BULK AT MOST 1048576: true; the input reads as it did. -/
def exactBestUptoRow : OpenClaim := { program := "ytoggkjobihlohaadoor", sum := "14d92b12ced2dbd9c90cfb4b4e4f50e4240bea370bb4b60380bcaefaecf400bf", func := "wringing/wringinglaw01.ExactBest", spec := "exactBest", unfollowed := true, recurses := true, named := ["internal/strconv.uint64pow10", "math/bits.deBruijn32tab", "math/bits.deBruijn64tab"], apart := false, laid := [("math/bits.deBruijn32tab", laid_math_bits_deBruijn32tab), ("math/bits.deBruijn64tab", laid_math_bits_deBruijn64tab), ("internal/strconv.uint64pow10", laid_internal_strconv_uint64pow10)], narrowed := true }
def ExactBestUptoSaid : Prop := exactBestUptoRow.holds Tryd.pinned (OpenSpec.upto exactBestSpec)

/-- 'wringinglaw01.ExactLeast', WHERE WHAT IT READS IS OF BULK AT MOST 1048576: true; the input reads as it did. -/
def exactLeastUptoRow : OpenClaim := { program := "ytoggkjobihlohaadoor", sum := "14d92b12ced2dbd9c90cfb4b4e4f50e4240bea370bb4b60380bcaefaecf400bf", func := "wringing/wringinglaw01.ExactLeast", spec := "exactLeast", unfollowed := true, recurses := true, named := ["internal/strconv.uint64pow10", "math/bits.deBruijn32tab", "math/bits.deBruijn64tab"], apart := false, laid := [("math/bits.deBruijn32tab", laid_math_bits_deBruijn32tab), ("math/bits.deBruijn64tab", laid_math_bits_deBruijn64tab), ("internal/strconv.uint64pow10", laid_internal_strconv_uint64pow10)], narrowed := true }
def ExactLeastUptoSaid : Prop := exactLeastUptoRow.holds Tryd.pinned (OpenSpec.upto exactLeastSpec)

/-- 'wringinglaw01.ExactParts', WHERE WHAT IT READS IS OF BULK AT MOST 1048576: true; the input reads as it did. -/
def exactPartsUptoRow : OpenClaim := { program := "ytoggkjobihlohaadoor", sum := "14d92b12ced2dbd9c90cfb4b4e4f50e4240bea370bb4b60380bcaefaecf400bf", func := "wringing/wringinglaw01.ExactParts", spec := "exactParts", unfollowed := true, recurses := true, named := ["internal/strconv.uint64pow10", "math/bits.deBruijn32tab", "math/bits.deBruijn64tab"], apart := false, laid := [("math/bits.deBruijn32tab", laid_math_bits_deBruijn32tab), ("math/bits.deBruijn64tab", laid_math_bits_deBruijn64tab), ("internal/strconv.uint64pow10", laid_internal_strconv_uint64pow10)], narrowed := true }
def ExactPartsUptoSaid : Prop := exactPartsUptoRow.holds Tryd.pinned (OpenSpec.upto exactPartsSpec)

/-- 'wringinglaw01.ExactClosest', WHERE WHAT IT READS IS OF BULK AT MOST 1048576: true; the input reads as it did. -/
def exactClosestUptoRow : OpenClaim := { program := "ytoggkjobihlohaadoor", sum := "14d92b12ced2dbd9c90cfb4b4e4f50e4240bea370bb4b60380bcaefaecf400bf", func := "wringing/wringinglaw01.ExactClosest", spec := "exactClosest", unfollowed := true, recurses := true, named := ["internal/strconv.uint64pow10", "math/bits.deBruijn32tab", "math/bits.deBruijn64tab"], apart := false, laid := [("math/bits.deBruijn32tab", laid_math_bits_deBruijn32tab), ("math/bits.deBruijn64tab", laid_math_bits_deBruijn64tab), ("internal/strconv.uint64pow10", laid_internal_strconv_uint64pow10)], narrowed := true }
def ExactClosestUptoSaid : Prop := exactClosestUptoRow.holds Tryd.pinned (OpenSpec.upto exactClosestSpec)

/-- 'wringinglaw01.ExactOrder', WHERE WHAT IT READS IS OF BULK AT MOST 1048576: true; the input reads as it did. -/
def exactOrderUptoRow : OpenClaim := { program := "ytoggkjobihlohaadoor", sum := "14d92b12ced2dbd9c90cfb4b4e4f50e4240bea370bb4b60380bcaefaecf400bf", func := "wringing/wringinglaw01.ExactOrder", spec := "exactOrder", unfollowed := true, recurses := true, named := ["internal/strconv.uint64pow10", "math/bits.deBruijn32tab", "math/bits.deBruijn64tab"], apart := false, laid := [("math/bits.deBruijn32tab", laid_math_bits_deBruijn32tab), ("math/bits.deBruijn64tab", laid_math_bits_deBruijn64tab), ("internal/strconv.uint64pow10", laid_internal_strconv_uint64pow10)], narrowed := true }
def ExactOrderUptoSaid : Prop := exactOrderUptoRow.holds Tryd.pinned (OpenSpec.upto exactOrderSpec)

/-- 'wringinglaw01.ExactField', WHERE WHAT IT READS IS OF BULK AT MOST 1048576: true; the input reads as it did. -/
def exactFieldUptoRow : OpenClaim := { program := "ytoggkjobihlohaadoor", sum := "14d92b12ced2dbd9c90cfb4b4e4f50e4240bea370bb4b60380bcaefaecf400bf", func := "wringing/wringinglaw01.ExactField", spec := "exactField", unfollowed := true, recurses := true, named := ["internal/strconv.uint64pow10", "math/bits.deBruijn32tab", "math/bits.deBruijn64tab"], apart := false, laid := [("math/bits.deBruijn32tab", laid_math_bits_deBruijn32tab), ("math/bits.deBruijn64tab", laid_math_bits_deBruijn64tab), ("internal/strconv.uint64pow10", laid_internal_strconv_uint64pow10)], narrowed := true }
def ExactFieldUptoSaid : Prop := exactFieldUptoRow.holds Tryd.pinned (OpenSpec.upto exactFieldSpec)

/-- 'wringinglaw01.ExactFractions', WHERE WHAT IT READS IS OF BULK AT MOST 1048576: true; the input reads as it did. -/
def exactFractionsUptoRow : OpenClaim := { program := "ytoggkjobihlohaadoor", sum := "14d92b12ced2dbd9c90cfb4b4e4f50e4240bea370bb4b60380bcaefaecf400bf", func := "wringing/wringinglaw01.ExactFractions", spec := "exactFractions", unfollowed := true, recurses := true, named := ["internal/strconv.uint64pow10", "math/bits.deBruijn32tab", "math/bits.deBruijn64tab"], apart := false, laid := [("math/bits.deBruijn32tab", laid_math_bits_deBruijn32tab), ("math/bits.deBruijn64tab", laid_math_bits_deBruijn64tab), ("internal/strconv.uint64pow10", laid_internal_strconv_uint64pow10)], narrowed := true }
def ExactFractionsUptoSaid : Prop := exactFractionsUptoRow.holds Tryd.pinned (OpenSpec.upto exactFractionsSpec)

/-- 'wringinglaw01.ExactSums', WHERE WHAT IT READS IS OF BULK AT MOST 1048576: true; the input reads as it did. -/
def exactSumsUptoRow : OpenClaim := { program := "ytoggkjobihlohaadoor", sum := "14d92b12ced2dbd9c90cfb4b4e4f50e4240bea370bb4b60380bcaefaecf400bf", func := "wringing/wringinglaw01.ExactSums", spec := "exactSums", unfollowed := true, recurses := true, named := ["internal/strconv.uint64pow10", "math/bits.deBruijn32tab", "math/bits.deBruijn64tab"], apart := false, laid := [("math/bits.deBruijn32tab", laid_math_bits_deBruijn32tab), ("math/bits.deBruijn64tab", laid_math_bits_deBruijn64tab), ("internal/strconv.uint64pow10", laid_internal_strconv_uint64pow10)], narrowed := true }
def ExactSumsUptoSaid : Prop := exactSumsUptoRow.holds Tryd.pinned (OpenSpec.upto exactSumsSpec)

/-- 'wringinglaw01.ExactRanges', WHERE WHAT IT READS IS OF BULK AT MOST 1048576: true; the input reads as it did. -/
def exactRangesUptoRow : OpenClaim := { program := "ytoggkjobihlohaadoor", sum := "14d92b12ced2dbd9c90cfb4b4e4f50e4240bea370bb4b60380bcaefaecf400bf", func := "wringing/wringinglaw01.ExactRanges", spec := "exactRanges", unfollowed := true, recurses := true, named := ["internal/strconv.uint64pow10", "math/bits.deBruijn32tab", "math/bits.deBruijn64tab"], apart := false, laid := [("math/bits.deBruijn32tab", laid_math_bits_deBruijn32tab), ("math/bits.deBruijn64tab", laid_math_bits_deBruijn64tab), ("internal/strconv.uint64pow10", laid_internal_strconv_uint64pow10)], narrowed := true }
def ExactRangesUptoSaid : Prop := exactRangesUptoRow.holds Tryd.pinned (OpenSpec.upto exactRangesSpec)

/-- 'wringinglaw01.ExactBetween', WHERE WHAT IT READS IS OF BULK AT MOST 1048576: true; the input reads as it did. -/
def exactBetweenUptoRow : OpenClaim := { program := "ytoggkjobihlohaadoor", sum := "14d92b12ced2dbd9c90cfb4b4e4f50e4240bea370bb4b60380bcaefaecf400bf", func := "wringing/wringinglaw01.ExactBetween", spec := "exactBetween", unfollowed := true, recurses := true, named := ["internal/strconv.uint64pow10", "math/bits.deBruijn32tab", "math/bits.deBruijn64tab"], apart := false, laid := [("math/bits.deBruijn32tab", laid_math_bits_deBruijn32tab), ("math/bits.deBruijn64tab", laid_math_bits_deBruijn64tab), ("internal/strconv.uint64pow10", laid_internal_strconv_uint64pow10)], narrowed := true }
def ExactBetweenUptoSaid : Prop := exactBetweenUptoRow.holds Tryd.pinned (OpenSpec.upto exactBetweenSpec)

/-- 'wringinglaw01.ExactTexts', WHERE WHAT IT READS IS OF BULK AT MOST 1048576: true; the input reads as it did. -/
def exactTextsUptoRow : OpenClaim := { program := "ytoggkjobihlohaadoor", sum := "14d92b12ced2dbd9c90cfb4b4e4f50e4240bea370bb4b60380bcaefaecf400bf", func := "wringing/wringinglaw01.ExactTexts", spec := "exactTexts", inPlace := ["internal/bytealg.IndexByteString", "internal/bytealg.IndexString"], unfollowed := true, recurses := true, named := ["internal/strconv.uint64pow10", "math/bits.deBruijn32tab", "math/bits.deBruijn64tab", "internal/bytealg.MaxLen", "strconv.ErrSyntax", "strconv.ErrRange"], apart := false, laid := [("math/bits.deBruijn32tab", laid_math_bits_deBruijn32tab), ("math/bits.deBruijn64tab", laid_math_bits_deBruijn64tab), ("internal/strconv.uint64pow10", laid_internal_strconv_uint64pow10), ("strconv.ErrRange", laid_strconv_ErrRange), ("strconv.ErrSyntax", laid_strconv_ErrSyntax)], narrowed := true }
def ExactTextsUptoSaid : Prop := exactTextsUptoRow.holds Tryd.pinned (OpenSpec.upto exactTextsSpec)

/-- 'wringinglaw01.ExactBack', WHERE WHAT IT READS IS OF BULK AT MOST 1048576: true; the input reads as it did. -/
def exactBackUptoRow : OpenClaim := { program := "ytoggkjobihlohaadoor", sum := "14d92b12ced2dbd9c90cfb4b4e4f50e4240bea370bb4b60380bcaefaecf400bf", func := "wringing/wringinglaw01.ExactBack", spec := "exactBack", inPlace := ["internal/bytealg.IndexByteString", "internal/bytealg.IndexString"], unfollowed := true, recurses := true, named := ["internal/strconv.uint64pow10", "math/bits.deBruijn32tab", "math/bits.deBruijn64tab", "internal/bytealg.MaxLen", "strconv.ErrSyntax", "strconv.ErrRange"], apart := false, laid := [("math/bits.deBruijn32tab", laid_math_bits_deBruijn32tab), ("math/bits.deBruijn64tab", laid_math_bits_deBruijn64tab), ("internal/strconv.uint64pow10", laid_internal_strconv_uint64pow10), ("strconv.ErrRange", laid_strconv_ErrRange), ("strconv.ErrSyntax", laid_strconv_ErrSyntax)], narrowed := true }
def ExactBackUptoSaid : Prop := exactBackUptoRow.holds Tryd.pinned (OpenSpec.upto exactBackSpec)

end Rows
end Go.Proofs.YtoggkjobihlohaaDoor
