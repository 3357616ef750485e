/-
  NARROWER THAN 'FOR EVERY INPUT', by the rows' own cells (each row's printed sentence says how): PlaceMuls: laid · PlaceMulLaws: laid · PlaceRecipTwice: laid · PlaceRecipProduct: laid · PlaceParses: laid · PlaceRecips: laid · PlaceWholeBack: laid · PlaceNears: laid · PlaceTables: laid · PlacePairs: laid · PlaceStepsMake: laid · PlaceSums: laid · PlaceRatios: laid · PlaceTableParts: laid · PlaceNearBounds: laid · PlaceRootBounds: laid · PlaceRatioBack: laid · PlaceDigitsBack: laid · PlaceChecks: laid · PlaceKnown: laid.
  DERIVED. THE GIVEN ROWS OF THIS SEAT. 20 by the template 'for every input the law returns true; each argument reads behind the call as it read before'; 0 by the template 'total and deterministic' (their statements: YtpocekfifokndaaDoorTotals.lean).
  GIVEN WITH THE SEED: the statements are not yours to turn. If you find one false, say at which input.
  Laid BY PROGRAM, IN A SANDBOX (cutbox-rows.mjs): the forced cells as the released guide's own fill.sh prints them over the translation 3e7836ffb68092c1… (all of the seat's roots in one cut). By AI agents, Wed Nov 11 2026. No macro, syntax, notation, axiom, sorry.
-/
import Derived.Test.YtpocekfifokndaaDoorChecked
import GoSem.PinnedTables
import GoSem.Claim
import GoSem.ClaimJoined
import GoSem.ClaimMapViews
import Derived.JoinedTies
import Derived.KernelRfl
namespace Go.Proofs.YtpocekfifokndaaDoor
/- THE CELL 'sum', in the pinned program and in every row, IS THE sha256 OF THE DUMP (.gsa) THAT YtpocekfifokndaaDoorProg.lean LOADS. Nothing in Lean hashes anything: it is a label: what it is worth is what the hold of that sum in a sandbox is worth. -/
noncomputable def Tryd.pinned : Pinned := { name := "ytpocekfifokndaadoor", sum := "3e7836ffb68092c1aabb3529cba85b98358c39bb30aad3a8ee1d9d8a4123e5d8", checked := Tryd.checked }
namespace Rows
def none {H : Type} : Left H := { results := [], args := [] }

/- WHAT THE LISTED PACKAGE-LEVEL VARIABLES READ AS WHEN THE CALL BEGINS. Each datum BY PROGRAM (the guide's laid-datum.mjs) off the statement by which the dump's own 'gosem.cut.vars' lays the variable. In a bare row this is a premise. The card (YtpocekfifokndaaDoorCards.lean) ties it to the program's text. -/
def laid_unicode_utf8_acceptRanges {H : Type} : DataW H := .agg [.agg [.lit (.int .u8 128), .lit (.int .u8 191)], .agg [.lit (.int .u8 160), .lit (.int .u8 191)], .agg [.lit (.int .u8 128), .lit (.int .u8 159)], .agg [.lit (.int .u8 144), .lit (.int .u8 191)], .agg [.lit (.int .u8 128), .lit (.int .u8 143)], .agg [.lit (.int .u8 0), .lit (.int .u8 0)], .agg [.lit (.int .u8 0), .lit (.int .u8 0)], .agg [.lit (.int .u8 0), .lit (.int .u8 0)], .agg [.lit (.int .u8 0), .lit (.int .u8 0)], .agg [.lit (.int .u8 0), .lit (.int .u8 0)], .agg [.lit (.int .u8 0), .lit (.int .u8 0)], .agg [.lit (.int .u8 0), .lit (.int .u8 0)], .agg [.lit (.int .u8 0), .lit (.int .u8 0)], .agg [.lit (.int .u8 0), .lit (.int .u8 0)], .agg [.lit (.int .u8 0), .lit (.int .u8 0)], .agg [.lit (.int .u8 0), .lit (.int .u8 0)]]
/-- One of Go's own tables, pinned by name: the form's constant. -/
def laid_unicode_utf8_first : DataW Unit := Go.Pinned.utf8First
def laid_bulla_metro_zero {H : Type} : DataW H := .agg [.lit (.int .i64 0), .lit (.int .i64 1)]
def laid_math_bits_deBruijn32tab {H : Type} : DataW H := .agg [.lit (.int .u8 0), .lit (.int .u8 1), .lit (.int .u8 28), .lit (.int .u8 2), .lit (.int .u8 29), .lit (.int .u8 14), .lit (.int .u8 24), .lit (.int .u8 3), .lit (.int .u8 30), .lit (.int .u8 22), .lit (.int .u8 20), .lit (.int .u8 15), .lit (.int .u8 25), .lit (.int .u8 17), .lit (.int .u8 4), .lit (.int .u8 8), .lit (.int .u8 31), .lit (.int .u8 27), .lit (.int .u8 13), .lit (.int .u8 23), .lit (.int .u8 21), .lit (.int .u8 19), .lit (.int .u8 16), .lit (.int .u8 7), .lit (.int .u8 26), .lit (.int .u8 12), .lit (.int .u8 18), .lit (.int .u8 6), .lit (.int .u8 11), .lit (.int .u8 5), .lit (.int .u8 10), .lit (.int .u8 9)]
def laid_math_bits_deBruijn64tab {H : Type} : DataW H := .agg [.lit (.int .u8 0), .lit (.int .u8 1), .lit (.int .u8 56), .lit (.int .u8 2), .lit (.int .u8 57), .lit (.int .u8 49), .lit (.int .u8 28), .lit (.int .u8 3), .lit (.int .u8 61), .lit (.int .u8 58), .lit (.int .u8 42), .lit (.int .u8 50), .lit (.int .u8 38), .lit (.int .u8 29), .lit (.int .u8 17), .lit (.int .u8 4), .lit (.int .u8 62), .lit (.int .u8 47), .lit (.int .u8 59), .lit (.int .u8 36), .lit (.int .u8 45), .lit (.int .u8 43), .lit (.int .u8 51), .lit (.int .u8 22), .lit (.int .u8 53), .lit (.int .u8 39), .lit (.int .u8 33), .lit (.int .u8 30), .lit (.int .u8 24), .lit (.int .u8 18), .lit (.int .u8 12), .lit (.int .u8 5), .lit (.int .u8 63), .lit (.int .u8 55), .lit (.int .u8 48), .lit (.int .u8 27), .lit (.int .u8 60), .lit (.int .u8 41), .lit (.int .u8 37), .lit (.int .u8 16), .lit (.int .u8 46), .lit (.int .u8 35), .lit (.int .u8 44), .lit (.int .u8 21), .lit (.int .u8 52), .lit (.int .u8 32), .lit (.int .u8 23), .lit (.int .u8 11), .lit (.int .u8 54), .lit (.int .u8 26), .lit (.int .u8 40), .lit (.int .u8 15), .lit (.int .u8 34), .lit (.int .u8 20), .lit (.int .u8 31), .lit (.int .u8 10), .lit (.int .u8 25), .lit (.int .u8 14), .lit (.int .u8 19), .lit (.int .u8 9), .lit (.int .u8 13), .lit (.int .u8 8), .lit (.int .u8 7), .lit (.int .u8 6)]
def laid_internal_strconv_uint64pow10 {H : Type} : DataW H := .agg [.lit (.int .u64 1), .lit (.int .u64 10), .lit (.int .u64 100), .lit (.int .u64 1000), .lit (.int .u64 10000), .lit (.int .u64 100000), .lit (.int .u64 1000000), .lit (.int .u64 10000000), .lit (.int .u64 100000000), .lit (.int .u64 1000000000), .lit (.int .u64 10000000000), .lit (.int .u64 100000000000), .lit (.int .u64 1000000000000), .lit (.int .u64 10000000000000), .lit (.int .u64 100000000000000), .lit (.int .u64 1000000000000000), .lit (.int .u64 10000000000000000), .lit (.int .u64 100000000000000000), .lit (.int .u64 1000000000000000000), .lit (.int .u64 10000000000000000000)]

/-- 'bullalaw03.PlaceMuls': WHATEVER THE INPUT: true; the input reads as it did. -/
def placeMulsSpec : ChangeSpec := { name := "placeMuls", fn := fun _ => fun
  | [d1, d2] => { results := [.lit (.bool true)], args := [d1, d2] }
  | _ => none }
def placeMulsRow : OpenClaim := { program := "ytpocekfifokndaadoor", sum := "3e7836ffb68092c1aabb3529cba85b98358c39bb30aad3a8ee1d9d8a4123e5d8", func := "bulla/bullalaw03.PlaceMuls", spec := "placeMuls", inPlace := ["internal/bytealg.CountString", "internal/bytealg.IndexByteString", "internal/bytealg.IndexString"], unfollowed := true, recurses := true, named := ["unicode/utf8.first", "unicode/utf8.acceptRanges", "internal/bytealg.MaxLen"], apart := false, laid := [("unicode/utf8.acceptRanges", laid_unicode_utf8_acceptRanges), ("unicode/utf8.first", laid_unicode_utf8_first)] }
def PlaceMulsSaid : Prop := placeMulsRow.holds Tryd.pinned (OpenSpec.ofChange placeMulsSpec)

/-- ITS FALSE NEIGHBOUR: 'it returns false'. Refute it at one input. -/
def placeMulsWrong : ChangeSpec := { name := "placeMuls", fn := fun _ => fun
  | [d1, d2] => { results := [.lit (.bool false)], args := [d1, d2] }
  | _ => none }
def PlaceMulsWrongFalsely : Prop := placeMulsRow.holds Tryd.pinned (OpenSpec.ofChange placeMulsWrong)

/-- 'bullalaw03.PlaceMulLaws': WHATEVER THE INPUT: true; the input reads as it did. -/
def placeMulLawsSpec : ChangeSpec := { name := "placeMulLaws", fn := fun _ => fun
  | [d1, d2, d3] => { results := [.lit (.bool true)], args := [d1, d2, d3] }
  | _ => none }
def placeMulLawsRow : OpenClaim := { program := "ytpocekfifokndaadoor", sum := "3e7836ffb68092c1aabb3529cba85b98358c39bb30aad3a8ee1d9d8a4123e5d8", func := "bulla/bullalaw03.PlaceMulLaws", spec := "placeMulLaws", inPlace := ["internal/bytealg.CountString", "internal/bytealg.IndexByteString", "internal/bytealg.IndexString"], unfollowed := true, recurses := true, named := ["unicode/utf8.first", "unicode/utf8.acceptRanges", "internal/bytealg.MaxLen"], apart := false, laid := [("unicode/utf8.acceptRanges", laid_unicode_utf8_acceptRanges), ("unicode/utf8.first", laid_unicode_utf8_first)] }
def PlaceMulLawsSaid : Prop := placeMulLawsRow.holds Tryd.pinned (OpenSpec.ofChange placeMulLawsSpec)

/-- ITS FALSE NEIGHBOUR: 'it returns false'. Refute it at one input. -/
def placeMulLawsWrong : ChangeSpec := { name := "placeMulLaws", fn := fun _ => fun
  | [d1, d2, d3] => { results := [.lit (.bool false)], args := [d1, d2, d3] }
  | _ => none }
def PlaceMulLawsWrongFalsely : Prop := placeMulLawsRow.holds Tryd.pinned (OpenSpec.ofChange placeMulLawsWrong)

/-- 'bullalaw03.PlaceRecipTwice': WHATEVER THE INPUT: true; the input reads as it did. -/
def placeRecipTwiceSpec : ChangeSpec := { name := "placeRecipTwice", fn := fun _ => fun
  | [d1, d2] => { results := [.lit (.bool true)], args := [d1, d2] }
  | _ => none }
def placeRecipTwiceRow : OpenClaim := { program := "ytpocekfifokndaadoor", sum := "3e7836ffb68092c1aabb3529cba85b98358c39bb30aad3a8ee1d9d8a4123e5d8", func := "bulla/bullalaw03.PlaceRecipTwice", spec := "placeRecipTwice", inPlace := ["internal/bytealg.CountString", "internal/bytealg.IndexByteString", "internal/bytealg.IndexString"], unfollowed := true, recurses := true, named := ["unicode/utf8.first", "unicode/utf8.acceptRanges", "internal/bytealg.MaxLen"], apart := false, laid := [("unicode/utf8.acceptRanges", laid_unicode_utf8_acceptRanges), ("unicode/utf8.first", laid_unicode_utf8_first)] }
def PlaceRecipTwiceSaid : Prop := placeRecipTwiceRow.holds Tryd.pinned (OpenSpec.ofChange placeRecipTwiceSpec)

/-- ITS FALSE NEIGHBOUR: 'it returns false'. Refute it at one input. -/
def placeRecipTwiceWrong : ChangeSpec := { name := "placeRecipTwice", fn := fun _ => fun
  | [d1, d2] => { results := [.lit (.bool false)], args := [d1, d2] }
  | _ => none }
def PlaceRecipTwiceWrongFalsely : Prop := placeRecipTwiceRow.holds Tryd.pinned (OpenSpec.ofChange placeRecipTwiceWrong)

/-- 'bullalaw03.PlaceRecipProduct': WHATEVER THE INPUT: true; the input reads as it did. -/
def placeRecipProductSpec : ChangeSpec := { name := "placeRecipProduct", fn := fun _ => fun
  | [d1, d2] => { results := [.lit (.bool true)], args := [d1, d2] }
  | _ => none }
def placeRecipProductRow : OpenClaim := { program := "ytpocekfifokndaadoor", sum := "3e7836ffb68092c1aabb3529cba85b98358c39bb30aad3a8ee1d9d8a4123e5d8", func := "bulla/bullalaw03.PlaceRecipProduct", spec := "placeRecipProduct", inPlace := ["internal/bytealg.CountString", "internal/bytealg.IndexByteString", "internal/bytealg.IndexString"], unfollowed := true, recurses := true, named := ["unicode/utf8.first", "unicode/utf8.acceptRanges", "internal/bytealg.MaxLen"], apart := false, laid := [("unicode/utf8.acceptRanges", laid_unicode_utf8_acceptRanges), ("unicode/utf8.first", laid_unicode_utf8_first)] }
def PlaceRecipProductSaid : Prop := placeRecipProductRow.holds Tryd.pinned (OpenSpec.ofChange placeRecipProductSpec)

/-- ITS FALSE NEIGHBOUR: 'it returns false'. Refute it at one input. -/
def placeRecipProductWrong : ChangeSpec := { name := "placeRecipProduct", fn := fun _ => fun
  | [d1, d2] => { results := [.lit (.bool false)], args := [d1, d2] }
  | _ => none }
def PlaceRecipProductWrongFalsely : Prop := placeRecipProductRow.holds Tryd.pinned (OpenSpec.ofChange placeRecipProductWrong)

/-- 'bullalaw03.PlaceParses': WHATEVER THE INPUT: true; the input reads as it did. -/
def placeParsesSpec : ChangeSpec := { name := "placeParses", fn := fun _ => fun
  | [d1, d2] => { results := [.lit (.bool true)], args := [d1, d2] }
  | _ => none }
def placeParsesRow : OpenClaim := { program := "ytpocekfifokndaadoor", sum := "3e7836ffb68092c1aabb3529cba85b98358c39bb30aad3a8ee1d9d8a4123e5d8", func := "bulla/bullalaw03.PlaceParses", spec := "placeParses", inPlace := ["internal/bytealg.CountString", "internal/bytealg.IndexByteString", "internal/bytealg.IndexString"], unfollowed := true, recurses := true, named := ["unicode/utf8.first", "unicode/utf8.acceptRanges", "internal/bytealg.MaxLen"], apart := false, laid := [("unicode/utf8.acceptRanges", laid_unicode_utf8_acceptRanges), ("unicode/utf8.first", laid_unicode_utf8_first)] }
def PlaceParsesSaid : Prop := placeParsesRow.holds Tryd.pinned (OpenSpec.ofChange placeParsesSpec)

/-- ITS FALSE NEIGHBOUR: 'it returns false'. Refute it at one input. -/
def placeParsesWrong : ChangeSpec := { name := "placeParses", fn := fun _ => fun
  | [d1, d2] => { results := [.lit (.bool false)], args := [d1, d2] }
  | _ => none }
def PlaceParsesWrongFalsely : Prop := placeParsesRow.holds Tryd.pinned (OpenSpec.ofChange placeParsesWrong)

/-- 'bullalaw03.PlaceRecips': WHATEVER THE INPUT: true; the input reads as it did. -/
def placeRecipsSpec : ChangeSpec := { name := "placeRecips", fn := fun _ => fun
  | [d] => { results := [.lit (.bool true)], args := [d] }
  | _ => none }
def placeRecipsRow : OpenClaim := { program := "ytpocekfifokndaadoor", sum := "3e7836ffb68092c1aabb3529cba85b98358c39bb30aad3a8ee1d9d8a4123e5d8", func := "bulla/bullalaw03.PlaceRecips", spec := "placeRecips", inPlace := ["internal/bytealg.CountString", "internal/bytealg.IndexByteString", "internal/bytealg.IndexString"], unfollowed := true, recurses := true, named := ["unicode/utf8.first", "unicode/utf8.acceptRanges", "internal/bytealg.MaxLen"], apart := false, laid := [("unicode/utf8.acceptRanges", laid_unicode_utf8_acceptRanges), ("unicode/utf8.first", laid_unicode_utf8_first)] }
def PlaceRecipsSaid : Prop := placeRecipsRow.holds Tryd.pinned (OpenSpec.ofChange placeRecipsSpec)

/-- ITS FALSE NEIGHBOUR: 'it returns false'. Refute it at one input. -/
def placeRecipsWrong : ChangeSpec := { name := "placeRecips", fn := fun _ => fun
  | [d] => { results := [.lit (.bool false)], args := [d] }
  | _ => none }
def PlaceRecipsWrongFalsely : Prop := placeRecipsRow.holds Tryd.pinned (OpenSpec.ofChange placeRecipsWrong)

/-- 'bullalaw03.PlaceWholeBack': WHATEVER THE INPUT: true; the input reads as it did. -/
def placeWholeBackSpec : ChangeSpec := { name := "placeWholeBack", fn := fun _ => fun
  | [d1, d2] => { results := [.lit (.bool true)], args := [d1, d2] }
  | _ => none }
def placeWholeBackRow : OpenClaim := { program := "ytpocekfifokndaadoor", sum := "3e7836ffb68092c1aabb3529cba85b98358c39bb30aad3a8ee1d9d8a4123e5d8", func := "bulla/bullalaw03.PlaceWholeBack", spec := "placeWholeBack", inPlace := ["internal/bytealg.CountString", "internal/bytealg.IndexByteString", "internal/bytealg.IndexString"], unfollowed := true, recurses := true, named := ["unicode/utf8.first", "unicode/utf8.acceptRanges", "internal/bytealg.MaxLen"], apart := false, laid := [("unicode/utf8.acceptRanges", laid_unicode_utf8_acceptRanges), ("unicode/utf8.first", laid_unicode_utf8_first)] }
def PlaceWholeBackSaid : Prop := placeWholeBackRow.holds Tryd.pinned (OpenSpec.ofChange placeWholeBackSpec)

/-- ITS FALSE NEIGHBOUR: 'it returns false'. Refute it at one input. -/
def placeWholeBackWrong : ChangeSpec := { name := "placeWholeBack", fn := fun _ => fun
  | [d1, d2] => { results := [.lit (.bool false)], args := [d1, d2] }
  | _ => none }
def PlaceWholeBackWrongFalsely : Prop := placeWholeBackRow.holds Tryd.pinned (OpenSpec.ofChange placeWholeBackWrong)

/-- 'bullalaw03.PlaceNears': WHATEVER THE INPUT: true; the input reads as it did. -/
def placeNearsSpec : ChangeSpec := { name := "placeNears", fn := fun _ => fun
  | [d1, d2] => { results := [.lit (.bool true)], args := [d1, d2] }
  | _ => none }
def placeNearsRow : OpenClaim := { program := "ytpocekfifokndaadoor", sum := "3e7836ffb68092c1aabb3529cba85b98358c39bb30aad3a8ee1d9d8a4123e5d8", func := "bulla/bullalaw03.PlaceNears", spec := "placeNears", inPlace := ["internal/bytealg.CountString", "internal/bytealg.IndexByteString", "internal/bytealg.IndexString"], unfollowed := true, recurses := true, named := ["unicode/utf8.first", "unicode/utf8.acceptRanges", "internal/bytealg.MaxLen"], apart := false, laid := [("unicode/utf8.acceptRanges", laid_unicode_utf8_acceptRanges), ("unicode/utf8.first", laid_unicode_utf8_first)] }
def PlaceNearsSaid : Prop := placeNearsRow.holds Tryd.pinned (OpenSpec.ofChange placeNearsSpec)

/-- ITS FALSE NEIGHBOUR: 'it returns false'. Refute it at one input. -/
def placeNearsWrong : ChangeSpec := { name := "placeNears", fn := fun _ => fun
  | [d1, d2] => { results := [.lit (.bool false)], args := [d1, d2] }
  | _ => none }
def PlaceNearsWrongFalsely : Prop := placeNearsRow.holds Tryd.pinned (OpenSpec.ofChange placeNearsWrong)

/-- 'bullalaw03.PlaceTables': WHATEVER THE INPUT: true; the input reads as it did. -/
def placeTablesSpec : ChangeSpec := { name := "placeTables", fn := fun _ => fun
  | [d1, d2] => { results := [.lit (.bool true)], args := [d1, d2] }
  | _ => none }
def placeTablesRow : OpenClaim := { program := "ytpocekfifokndaadoor", sum := "3e7836ffb68092c1aabb3529cba85b98358c39bb30aad3a8ee1d9d8a4123e5d8", func := "bulla/bullalaw03.PlaceTables", spec := "placeTables", inPlace := ["internal/bytealg.CountString", "internal/bytealg.IndexByteString", "internal/bytealg.IndexString"], unfollowed := true, recurses := true, named := ["unicode/utf8.first", "unicode/utf8.acceptRanges", "internal/bytealg.MaxLen"], apart := false, laid := [("unicode/utf8.acceptRanges", laid_unicode_utf8_acceptRanges), ("unicode/utf8.first", laid_unicode_utf8_first)] }
def PlaceTablesSaid : Prop := placeTablesRow.holds Tryd.pinned (OpenSpec.ofChange placeTablesSpec)

/-- ITS FALSE NEIGHBOUR: 'it returns false'. Refute it at one input. -/
def placeTablesWrong : ChangeSpec := { name := "placeTables", fn := fun _ => fun
  | [d1, d2] => { results := [.lit (.bool false)], args := [d1, d2] }
  | _ => none }
def PlaceTablesWrongFalsely : Prop := placeTablesRow.holds Tryd.pinned (OpenSpec.ofChange placeTablesWrong)

/-- 'bullalaw03.PlacePairs': WHATEVER THE INPUT: true; the input reads as it did. -/
def placePairsSpec : ChangeSpec := { name := "placePairs", fn := fun _ => fun
  | [d1, d2] => { results := [.lit (.bool true)], args := [d1, d2] }
  | _ => none }
def placePairsRow : OpenClaim := { program := "ytpocekfifokndaadoor", sum := "3e7836ffb68092c1aabb3529cba85b98358c39bb30aad3a8ee1d9d8a4123e5d8", func := "bulla/bullalaw03.PlacePairs", spec := "placePairs", inPlace := ["internal/bytealg.CountString", "internal/bytealg.IndexByteString", "internal/bytealg.IndexString"], unfollowed := true, recurses := true, named := ["unicode/utf8.first", "unicode/utf8.acceptRanges", "internal/bytealg.MaxLen"], apart := false, laid := [("unicode/utf8.acceptRanges", laid_unicode_utf8_acceptRanges), ("unicode/utf8.first", laid_unicode_utf8_first)] }
def PlacePairsSaid : Prop := placePairsRow.holds Tryd.pinned (OpenSpec.ofChange placePairsSpec)

/-- ITS FALSE NEIGHBOUR: 'it returns false'. Refute it at one input. -/
def placePairsWrong : ChangeSpec := { name := "placePairs", fn := fun _ => fun
  | [d1, d2] => { results := [.lit (.bool false)], args := [d1, d2] }
  | _ => none }
def PlacePairsWrongFalsely : Prop := placePairsRow.holds Tryd.pinned (OpenSpec.ofChange placePairsWrong)

/-- 'bullalaw03.PlaceStepsMake': WHATEVER THE INPUT: true; the input reads as it did. -/
def placeStepsMakeSpec : ChangeSpec := { name := "placeStepsMake", fn := fun _ => fun
  | [d] => { results := [.lit (.bool true)], args := [d] }
  | _ => none }
def placeStepsMakeRow : OpenClaim := { program := "ytpocekfifokndaadoor", sum := "3e7836ffb68092c1aabb3529cba85b98358c39bb30aad3a8ee1d9d8a4123e5d8", func := "bulla/bullalaw03.PlaceStepsMake", spec := "placeStepsMake", inPlace := ["internal/bytealg.CountString", "internal/bytealg.IndexByteString", "internal/bytealg.IndexString"], unfollowed := true, recurses := true, named := ["unicode/utf8.first", "unicode/utf8.acceptRanges", "internal/bytealg.MaxLen"], apart := false, laid := [("unicode/utf8.acceptRanges", laid_unicode_utf8_acceptRanges), ("unicode/utf8.first", laid_unicode_utf8_first)] }
def PlaceStepsMakeSaid : Prop := placeStepsMakeRow.holds Tryd.pinned (OpenSpec.ofChange placeStepsMakeSpec)

/-- ITS FALSE NEIGHBOUR: 'it returns false'. Refute it at one input. -/
def placeStepsMakeWrong : ChangeSpec := { name := "placeStepsMake", fn := fun _ => fun
  | [d] => { results := [.lit (.bool false)], args := [d] }
  | _ => none }
def PlaceStepsMakeWrongFalsely : Prop := placeStepsMakeRow.holds Tryd.pinned (OpenSpec.ofChange placeStepsMakeWrong)

/-- 'bullalaw03.PlaceSums': WHATEVER THE INPUT: true; the input reads as it did. -/
def placeSumsSpec : ChangeSpec := { name := "placeSums", fn := fun _ => fun
  | [d] => { results := [.lit (.bool true)], args := [d] }
  | _ => none }
def placeSumsRow : OpenClaim := { program := "ytpocekfifokndaadoor", sum := "3e7836ffb68092c1aabb3529cba85b98358c39bb30aad3a8ee1d9d8a4123e5d8", func := "bulla/bullalaw03.PlaceSums", spec := "placeSums", inPlace := ["internal/bytealg.CountString", "internal/bytealg.IndexByteString", "internal/bytealg.IndexString"], unfollowed := true, recurses := true, named := ["unicode/utf8.first", "unicode/utf8.acceptRanges", "internal/bytealg.MaxLen"], apart := false, laid := [("unicode/utf8.acceptRanges", laid_unicode_utf8_acceptRanges), ("unicode/utf8.first", laid_unicode_utf8_first)] }
def PlaceSumsSaid : Prop := placeSumsRow.holds Tryd.pinned (OpenSpec.ofChange placeSumsSpec)

/-- ITS FALSE NEIGHBOUR: 'it returns false'. Refute it at one input. -/
def placeSumsWrong : ChangeSpec := { name := "placeSums", fn := fun _ => fun
  | [d] => { results := [.lit (.bool false)], args := [d] }
  | _ => none }
def PlaceSumsWrongFalsely : Prop := placeSumsRow.holds Tryd.pinned (OpenSpec.ofChange placeSumsWrong)

/-- 'bullalaw03.PlaceRatios': WHATEVER THE INPUT: true; the input reads as it did. -/
def placeRatiosSpec : ChangeSpec := { name := "placeRatios", fn := fun _ => fun
  | [d1, d2] => { results := [.lit (.bool true)], args := [d1, d2] }
  | _ => none }
def placeRatiosRow : OpenClaim := { program := "ytpocekfifokndaadoor", sum := "3e7836ffb68092c1aabb3529cba85b98358c39bb30aad3a8ee1d9d8a4123e5d8", func := "bulla/bullalaw03.PlaceRatios", spec := "placeRatios", inPlace := ["internal/bytealg.CountString", "internal/bytealg.IndexByteString", "internal/bytealg.IndexString"], unfollowed := true, recurses := true, named := ["unicode/utf8.first", "unicode/utf8.acceptRanges", "internal/bytealg.MaxLen"], apart := false, laid := [("unicode/utf8.acceptRanges", laid_unicode_utf8_acceptRanges), ("unicode/utf8.first", laid_unicode_utf8_first)] }
def PlaceRatiosSaid : Prop := placeRatiosRow.holds Tryd.pinned (OpenSpec.ofChange placeRatiosSpec)

/-- ITS FALSE NEIGHBOUR: 'it returns false'. Refute it at one input. -/
def placeRatiosWrong : ChangeSpec := { name := "placeRatios", fn := fun _ => fun
  | [d1, d2] => { results := [.lit (.bool false)], args := [d1, d2] }
  | _ => none }
def PlaceRatiosWrongFalsely : Prop := placeRatiosRow.holds Tryd.pinned (OpenSpec.ofChange placeRatiosWrong)

/-- 'bullalaw03.PlaceTableParts': WHATEVER THE INPUT: true; the input reads as it did. -/
def placeTablePartsSpec : ChangeSpec := { name := "placeTableParts", fn := fun _ => fun
  | [d1, d2] => { results := [.lit (.bool true)], args := [d1, d2] }
  | _ => none }
def placeTablePartsRow : OpenClaim := { program := "ytpocekfifokndaadoor", sum := "3e7836ffb68092c1aabb3529cba85b98358c39bb30aad3a8ee1d9d8a4123e5d8", func := "bulla/bullalaw03.PlaceTableParts", spec := "placeTableParts", inPlace := ["internal/bytealg.CountString", "internal/bytealg.IndexByteString", "internal/bytealg.IndexString"], unfollowed := true, recurses := true, named := ["unicode/utf8.first", "unicode/utf8.acceptRanges", "internal/bytealg.MaxLen"], apart := false, laid := [("unicode/utf8.acceptRanges", laid_unicode_utf8_acceptRanges), ("unicode/utf8.first", laid_unicode_utf8_first)] }
def PlaceTablePartsSaid : Prop := placeTablePartsRow.holds Tryd.pinned (OpenSpec.ofChange placeTablePartsSpec)

/-- ITS FALSE NEIGHBOUR: 'it returns false'. Refute it at one input. -/
def placeTablePartsWrong : ChangeSpec := { name := "placeTableParts", fn := fun _ => fun
  | [d1, d2] => { results := [.lit (.bool false)], args := [d1, d2] }
  | _ => none }
def PlaceTablePartsWrongFalsely : Prop := placeTablePartsRow.holds Tryd.pinned (OpenSpec.ofChange placeTablePartsWrong)

/-- 'bullalaw03.PlaceNearBounds': WHATEVER THE INPUT: true; the input reads as it did. -/
def placeNearBoundsSpec : ChangeSpec := { name := "placeNearBounds", fn := fun _ => fun
  | [d1, d2] => { results := [.lit (.bool true)], args := [d1, d2] }
  | _ => none }
def placeNearBoundsRow : OpenClaim := { program := "ytpocekfifokndaadoor", sum := "3e7836ffb68092c1aabb3529cba85b98358c39bb30aad3a8ee1d9d8a4123e5d8", func := "bulla/bullalaw03.PlaceNearBounds", spec := "placeNearBounds", inPlace := ["internal/bytealg.CountString", "internal/bytealg.IndexByteString", "internal/bytealg.IndexString"], unfollowed := true, recurses := true, named := ["unicode/utf8.first", "unicode/utf8.acceptRanges", "internal/bytealg.MaxLen"], apart := false, laid := [("unicode/utf8.acceptRanges", laid_unicode_utf8_acceptRanges), ("unicode/utf8.first", laid_unicode_utf8_first)] }
def PlaceNearBoundsSaid : Prop := placeNearBoundsRow.holds Tryd.pinned (OpenSpec.ofChange placeNearBoundsSpec)

/-- ITS FALSE NEIGHBOUR: 'it returns false'. Refute it at one input. -/
def placeNearBoundsWrong : ChangeSpec := { name := "placeNearBounds", fn := fun _ => fun
  | [d1, d2] => { results := [.lit (.bool false)], args := [d1, d2] }
  | _ => none }
def PlaceNearBoundsWrongFalsely : Prop := placeNearBoundsRow.holds Tryd.pinned (OpenSpec.ofChange placeNearBoundsWrong)

/-- 'bullalaw03.PlaceRootBounds': WHATEVER THE INPUT: true; the input reads as it did. -/
def placeRootBoundsSpec : ChangeSpec := { name := "placeRootBounds", fn := fun _ => fun
  | [d1, d2] => { results := [.lit (.bool true)], args := [d1, d2] }
  | _ => none }
def placeRootBoundsRow : OpenClaim := { program := "ytpocekfifokndaadoor", sum := "3e7836ffb68092c1aabb3529cba85b98358c39bb30aad3a8ee1d9d8a4123e5d8", func := "bulla/bullalaw03.PlaceRootBounds", spec := "placeRootBounds", inPlace := ["internal/bytealg.CountString", "internal/bytealg.IndexByteString", "internal/bytealg.IndexString"], unfollowed := true, recurses := true, named := ["unicode/utf8.first", "unicode/utf8.acceptRanges", "internal/bytealg.MaxLen"], apart := false, laid := [("unicode/utf8.acceptRanges", laid_unicode_utf8_acceptRanges), ("unicode/utf8.first", laid_unicode_utf8_first)] }
def PlaceRootBoundsSaid : Prop := placeRootBoundsRow.holds Tryd.pinned (OpenSpec.ofChange placeRootBoundsSpec)

/-- ITS FALSE NEIGHBOUR: 'it returns false'. Refute it at one input. -/
def placeRootBoundsWrong : ChangeSpec := { name := "placeRootBounds", fn := fun _ => fun
  | [d1, d2] => { results := [.lit (.bool false)], args := [d1, d2] }
  | _ => none }
def PlaceRootBoundsWrongFalsely : Prop := placeRootBoundsRow.holds Tryd.pinned (OpenSpec.ofChange placeRootBoundsWrong)

/-- 'bullalaw03.PlaceRatioBack': WHATEVER THE INPUT: true; the input reads as it did. -/
def placeRatioBackSpec : ChangeSpec := { name := "placeRatioBack", fn := fun _ => fun
  | [d1, d2] => { results := [.lit (.bool true)], args := [d1, d2] }
  | _ => none }
def placeRatioBackRow : OpenClaim := { program := "ytpocekfifokndaadoor", sum := "3e7836ffb68092c1aabb3529cba85b98358c39bb30aad3a8ee1d9d8a4123e5d8", func := "bulla/bullalaw03.PlaceRatioBack", spec := "placeRatioBack", inPlace := ["internal/bytealg.CountString", "internal/bytealg.IndexByteString", "internal/bytealg.IndexString"], unfollowed := true, recurses := true, named := ["bulla/metro.zero", "unicode/utf8.first", "unicode/utf8.acceptRanges", "internal/bytealg.MaxLen"], apart := false, laid := [("bulla/metro.zero", laid_bulla_metro_zero), ("unicode/utf8.acceptRanges", laid_unicode_utf8_acceptRanges), ("unicode/utf8.first", laid_unicode_utf8_first)] }
def PlaceRatioBackSaid : Prop := placeRatioBackRow.holds Tryd.pinned (OpenSpec.ofChange placeRatioBackSpec)

/-- ITS FALSE NEIGHBOUR: 'it returns false'. Refute it at one input. -/
def placeRatioBackWrong : ChangeSpec := { name := "placeRatioBack", fn := fun _ => fun
  | [d1, d2] => { results := [.lit (.bool false)], args := [d1, d2] }
  | _ => none }
def PlaceRatioBackWrongFalsely : Prop := placeRatioBackRow.holds Tryd.pinned (OpenSpec.ofChange placeRatioBackWrong)

/-- 'bullalaw03.PlaceDigitsBack': WHATEVER THE INPUT: true; the input reads as it did. -/
def placeDigitsBackSpec : ChangeSpec := { name := "placeDigitsBack", fn := fun _ => fun
  | [d1, d2] => { results := [.lit (.bool true)], args := [d1, d2] }
  | _ => none }
def placeDigitsBackRow : OpenClaim := { program := "ytpocekfifokndaadoor", sum := "3e7836ffb68092c1aabb3529cba85b98358c39bb30aad3a8ee1d9d8a4123e5d8", func := "bulla/bullalaw03.PlaceDigitsBack", spec := "placeDigitsBack", inPlace := ["internal/abi.NoEscape", "internal/bytealg.MakeNoZero", "internal/bytealg.CountString", "internal/bytealg.IndexByteString", "internal/bytealg.IndexString"], unfollowed := true, recurses := true, named := ["internal/strconv.uint64pow10", "math/bits.deBruijn32tab", "math/bits.deBruijn64tab", "unicode/utf8.first", "unicode/utf8.acceptRanges", "internal/bytealg.MaxLen"], apart := false, laid := [("math/bits.deBruijn32tab", laid_math_bits_deBruijn32tab), ("math/bits.deBruijn64tab", laid_math_bits_deBruijn64tab), ("internal/strconv.uint64pow10", laid_internal_strconv_uint64pow10), ("unicode/utf8.acceptRanges", laid_unicode_utf8_acceptRanges), ("unicode/utf8.first", laid_unicode_utf8_first)] }
def PlaceDigitsBackSaid : Prop := placeDigitsBackRow.holds Tryd.pinned (OpenSpec.ofChange placeDigitsBackSpec)

/-- ITS FALSE NEIGHBOUR: 'it returns false'. Refute it at one input. -/
def placeDigitsBackWrong : ChangeSpec := { name := "placeDigitsBack", fn := fun _ => fun
  | [d1, d2] => { results := [.lit (.bool false)], args := [d1, d2] }
  | _ => none }
def PlaceDigitsBackWrongFalsely : Prop := placeDigitsBackRow.holds Tryd.pinned (OpenSpec.ofChange placeDigitsBackWrong)

/-- 'bullalaw03.PlaceChecks': WHATEVER THE INPUT: true; the input reads as it did. -/
def placeChecksSpec : ChangeSpec := { name := "placeChecks", fn := fun _ => fun
  | [d] => { results := [.lit (.bool true)], args := [d] }
  | _ => none }
def placeChecksRow : OpenClaim := { program := "ytpocekfifokndaadoor", sum := "3e7836ffb68092c1aabb3529cba85b98358c39bb30aad3a8ee1d9d8a4123e5d8", func := "bulla/bullalaw03.PlaceChecks", spec := "placeChecks", inPlace := ["internal/abi.NoEscape", "internal/bytealg.MakeNoZero", "internal/bytealg.CountString", "internal/bytealg.IndexByteString", "internal/bytealg.IndexString"], unfollowed := true, recurses := true, named := ["internal/strconv.uint64pow10", "math/bits.deBruijn32tab", "math/bits.deBruijn64tab", "unicode/utf8.first", "unicode/utf8.acceptRanges", "internal/bytealg.MaxLen"], apart := false, laid := [("math/bits.deBruijn32tab", laid_math_bits_deBruijn32tab), ("math/bits.deBruijn64tab", laid_math_bits_deBruijn64tab), ("internal/strconv.uint64pow10", laid_internal_strconv_uint64pow10), ("unicode/utf8.acceptRanges", laid_unicode_utf8_acceptRanges), ("unicode/utf8.first", laid_unicode_utf8_first)] }
def PlaceChecksSaid : Prop := placeChecksRow.holds Tryd.pinned (OpenSpec.ofChange placeChecksSpec)

/-- ITS FALSE NEIGHBOUR: 'it returns false'. Refute it at one input. -/
def placeChecksWrong : ChangeSpec := { name := "placeChecks", fn := fun _ => fun
  | [d] => { results := [.lit (.bool false)], args := [d] }
  | _ => none }
def PlaceChecksWrongFalsely : Prop := placeChecksRow.holds Tryd.pinned (OpenSpec.ofChange placeChecksWrong)

/-- 'bullalaw03.PlaceKnown': WHATEVER THE INPUT: true; the input reads as it did. -/
def placeKnownSpec : ChangeSpec := { name := "placeKnown", fn := fun _ => fun
  | [] => { results := [.lit (.bool true)], args := [] }
  | _ => none }
def placeKnownRow : OpenClaim := { program := "ytpocekfifokndaadoor", sum := "3e7836ffb68092c1aabb3529cba85b98358c39bb30aad3a8ee1d9d8a4123e5d8", func := "bulla/bullalaw03.PlaceKnown", spec := "placeKnown", inPlace := ["internal/abi.NoEscape", "internal/bytealg.MakeNoZero", "internal/bytealg.CountString", "internal/bytealg.IndexByteString", "internal/bytealg.IndexString"], unfollowed := true, recurses := true, named := ["internal/strconv.uint64pow10", "math/bits.deBruijn32tab", "math/bits.deBruijn64tab", "unicode/utf8.first", "unicode/utf8.acceptRanges", "internal/bytealg.MaxLen"], apart := false, laid := [("math/bits.deBruijn32tab", laid_math_bits_deBruijn32tab), ("math/bits.deBruijn64tab", laid_math_bits_deBruijn64tab), ("internal/strconv.uint64pow10", laid_internal_strconv_uint64pow10), ("unicode/utf8.acceptRanges", laid_unicode_utf8_acceptRanges), ("unicode/utf8.first", laid_unicode_utf8_first)] }
def PlaceKnownSaid : Prop := placeKnownRow.holds Tryd.pinned (OpenSpec.ofChange placeKnownSpec)

/-- ITS FALSE NEIGHBOUR: 'it returns false'. Refute it at one input. -/
def placeKnownWrong : ChangeSpec := { name := "placeKnown", fn := fun _ => fun
  | [] => { results := [.lit (.bool false)], args := [] }
  | _ => none }
def PlaceKnownWrongFalsely : Prop := placeKnownRow.holds Tryd.pinned (OpenSpec.ofChange placeKnownWrong)

/- THE SECOND FORM. 'bulk': how many values and letters a reading holds, each counted each time it is reached (what is shared counts as often as it is met; a slice's spare places count too). A statement '..UptoSaid' is the law's where the arguments, and the package variables that the reading takes, are together of bulk at most 1048576: NARROWER than '..Said'. Prove '..Said' where nothing that the law and all that it calls make is longer than what came in: it says more and counts as full. Else prove '..UptoSaid'. A law counts once. -/
mutual
def uptoBulk {H : Type} : DataW H → Nat
  | .lit (.string bytes) => bytes.length + 1
  | .lit _ => 1
  | .nil => 1
  | .ptr d => uptoBulk d + 1
  | .slice elems spare => uptoBulkAll elems + uptoBulkAll spare + 1
  | .agg parts => uptoBulkAll parts + 1
  | .iface _ d => uptoBulk d + 1
  | .map entries => uptoBulkEntries entries + 1
  | .held _ => 1
def uptoBulkAll {H : Type} : List (DataW H) → Nat
  | [] => 0
  | d :: r => uptoBulk d + uptoBulkAll r
def uptoBulkEntries {H : Type} : List (Lit × DataW H) → Nat
  | [] => 0
  | x :: r => uptoBulkEntry x + uptoBulkEntries r
def uptoBulkEntry {H : Type} : Lit × DataW H → Nat
  | (.string bytes, d) => bytes.length + uptoBulk d + 1
  | (_, d) => uptoBulk d + 1
 end
def uptoSmall : (H : Type) → List (DataW H) → Bool := fun _ ds => decide (uptoBulkAll ds ≤ 1048576)
def OpenSpec.upto (s : _root_.Go.ChangeSpec) : _root_.Go.OpenSpec := { _root_.Go.OpenSpec.ofChange s with cond := some uptoSmall }

/-- 'bullalaw03.PlaceMuls', WHERE WHAT IT READS IS OF BULK AT MOST 1048576: true; the input reads as it did. -/
def placeMulsUptoRow : OpenClaim := { program := "ytpocekfifokndaadoor", sum := "3e7836ffb68092c1aabb3529cba85b98358c39bb30aad3a8ee1d9d8a4123e5d8", func := "bulla/bullalaw03.PlaceMuls", spec := "placeMuls", inPlace := ["internal/bytealg.CountString", "internal/bytealg.IndexByteString", "internal/bytealg.IndexString"], unfollowed := true, recurses := true, named := ["unicode/utf8.first", "unicode/utf8.acceptRanges", "internal/bytealg.MaxLen"], apart := false, laid := [("unicode/utf8.acceptRanges", laid_unicode_utf8_acceptRanges), ("unicode/utf8.first", laid_unicode_utf8_first)], narrowed := true }
def PlaceMulsUptoSaid : Prop := placeMulsUptoRow.holds Tryd.pinned (OpenSpec.upto placeMulsSpec)

/-- 'bullalaw03.PlaceMulLaws', WHERE WHAT IT READS IS OF BULK AT MOST 1048576: true; the input reads as it did. -/
def placeMulLawsUptoRow : OpenClaim := { program := "ytpocekfifokndaadoor", sum := "3e7836ffb68092c1aabb3529cba85b98358c39bb30aad3a8ee1d9d8a4123e5d8", func := "bulla/bullalaw03.PlaceMulLaws", spec := "placeMulLaws", inPlace := ["internal/bytealg.CountString", "internal/bytealg.IndexByteString", "internal/bytealg.IndexString"], unfollowed := true, recurses := true, named := ["unicode/utf8.first", "unicode/utf8.acceptRanges", "internal/bytealg.MaxLen"], apart := false, laid := [("unicode/utf8.acceptRanges", laid_unicode_utf8_acceptRanges), ("unicode/utf8.first", laid_unicode_utf8_first)], narrowed := true }
def PlaceMulLawsUptoSaid : Prop := placeMulLawsUptoRow.holds Tryd.pinned (OpenSpec.upto placeMulLawsSpec)

/-- 'bullalaw03.PlaceRecipTwice', WHERE WHAT IT READS IS OF BULK AT MOST 1048576: true; the input reads as it did. -/
def placeRecipTwiceUptoRow : OpenClaim := { program := "ytpocekfifokndaadoor", sum := "3e7836ffb68092c1aabb3529cba85b98358c39bb30aad3a8ee1d9d8a4123e5d8", func := "bulla/bullalaw03.PlaceRecipTwice", spec := "placeRecipTwice", inPlace := ["internal/bytealg.CountString", "internal/bytealg.IndexByteString", "internal/bytealg.IndexString"], unfollowed := true, recurses := true, named := ["unicode/utf8.first", "unicode/utf8.acceptRanges", "internal/bytealg.MaxLen"], apart := false, laid := [("unicode/utf8.acceptRanges", laid_unicode_utf8_acceptRanges), ("unicode/utf8.first", laid_unicode_utf8_first)], narrowed := true }
def PlaceRecipTwiceUptoSaid : Prop := placeRecipTwiceUptoRow.holds Tryd.pinned (OpenSpec.upto placeRecipTwiceSpec)

/-- 'bullalaw03.PlaceRecipProduct', WHERE WHAT IT READS IS OF BULK AT MOST 1048576: true; the input reads as it did. -/
def placeRecipProductUptoRow : OpenClaim := { program := "ytpocekfifokndaadoor", sum := "3e7836ffb68092c1aabb3529cba85b98358c39bb30aad3a8ee1d9d8a4123e5d8", func := "bulla/bullalaw03.PlaceRecipProduct", spec := "placeRecipProduct", inPlace := ["internal/bytealg.CountString", "internal/bytealg.IndexByteString", "internal/bytealg.IndexString"], unfollowed := true, recurses := true, named := ["unicode/utf8.first", "unicode/utf8.acceptRanges", "internal/bytealg.MaxLen"], apart := false, laid := [("unicode/utf8.acceptRanges", laid_unicode_utf8_acceptRanges), ("unicode/utf8.first", laid_unicode_utf8_first)], narrowed := true }
def PlaceRecipProductUptoSaid : Prop := placeRecipProductUptoRow.holds Tryd.pinned (OpenSpec.upto placeRecipProductSpec)

/-- 'bullalaw03.PlaceParses', WHERE WHAT IT READS IS OF BULK AT MOST 1048576: true; the input reads as it did. -/
def placeParsesUptoRow : OpenClaim := { program := "ytpocekfifokndaadoor", sum := "3e7836ffb68092c1aabb3529cba85b98358c39bb30aad3a8ee1d9d8a4123e5d8", func := "bulla/bullalaw03.PlaceParses", spec := "placeParses", inPlace := ["internal/bytealg.CountString", "internal/bytealg.IndexByteString", "internal/bytealg.IndexString"], unfollowed := true, recurses := true, named := ["unicode/utf8.first", "unicode/utf8.acceptRanges", "internal/bytealg.MaxLen"], apart := false, laid := [("unicode/utf8.acceptRanges", laid_unicode_utf8_acceptRanges), ("unicode/utf8.first", laid_unicode_utf8_first)], narrowed := true }
def PlaceParsesUptoSaid : Prop := placeParsesUptoRow.holds Tryd.pinned (OpenSpec.upto placeParsesSpec)

/-- 'bullalaw03.PlaceRecips', WHERE WHAT IT READS IS OF BULK AT MOST 1048576: true; the input reads as it did. -/
def placeRecipsUptoRow : OpenClaim := { program := "ytpocekfifokndaadoor", sum := "3e7836ffb68092c1aabb3529cba85b98358c39bb30aad3a8ee1d9d8a4123e5d8", func := "bulla/bullalaw03.PlaceRecips", spec := "placeRecips", inPlace := ["internal/bytealg.CountString", "internal/bytealg.IndexByteString", "internal/bytealg.IndexString"], unfollowed := true, recurses := true, named := ["unicode/utf8.first", "unicode/utf8.acceptRanges", "internal/bytealg.MaxLen"], apart := false, laid := [("unicode/utf8.acceptRanges", laid_unicode_utf8_acceptRanges), ("unicode/utf8.first", laid_unicode_utf8_first)], narrowed := true }
def PlaceRecipsUptoSaid : Prop := placeRecipsUptoRow.holds Tryd.pinned (OpenSpec.upto placeRecipsSpec)

/-- 'bullalaw03.PlaceWholeBack', WHERE WHAT IT READS IS OF BULK AT MOST 1048576: true; the input reads as it did. -/
def placeWholeBackUptoRow : OpenClaim := { program := "ytpocekfifokndaadoor", sum := "3e7836ffb68092c1aabb3529cba85b98358c39bb30aad3a8ee1d9d8a4123e5d8", func := "bulla/bullalaw03.PlaceWholeBack", spec := "placeWholeBack", inPlace := ["internal/bytealg.CountString", "internal/bytealg.IndexByteString", "internal/bytealg.IndexString"], unfollowed := true, recurses := true, named := ["unicode/utf8.first", "unicode/utf8.acceptRanges", "internal/bytealg.MaxLen"], apart := false, laid := [("unicode/utf8.acceptRanges", laid_unicode_utf8_acceptRanges), ("unicode/utf8.first", laid_unicode_utf8_first)], narrowed := true }
def PlaceWholeBackUptoSaid : Prop := placeWholeBackUptoRow.holds Tryd.pinned (OpenSpec.upto placeWholeBackSpec)

/-- 'bullalaw03.PlaceNears', WHERE WHAT IT READS IS OF BULK AT MOST 1048576: true; the input reads as it did. -/
def placeNearsUptoRow : OpenClaim := { program := "ytpocekfifokndaadoor", sum := "3e7836ffb68092c1aabb3529cba85b98358c39bb30aad3a8ee1d9d8a4123e5d8", func := "bulla/bullalaw03.PlaceNears", spec := "placeNears", inPlace := ["internal/bytealg.CountString", "internal/bytealg.IndexByteString", "internal/bytealg.IndexString"], unfollowed := true, recurses := true, named := ["unicode/utf8.first", "unicode/utf8.acceptRanges", "internal/bytealg.MaxLen"], apart := false, laid := [("unicode/utf8.acceptRanges", laid_unicode_utf8_acceptRanges), ("unicode/utf8.first", laid_unicode_utf8_first)], narrowed := true }
def PlaceNearsUptoSaid : Prop := placeNearsUptoRow.holds Tryd.pinned (OpenSpec.upto placeNearsSpec)

/-- 'bullalaw03.PlaceTables', WHERE WHAT IT READS IS OF BULK AT MOST 1048576: true; the input reads as it did. -/
def placeTablesUptoRow : OpenClaim := { program := "ytpocekfifokndaadoor", sum := "3e7836ffb68092c1aabb3529cba85b98358c39bb30aad3a8ee1d9d8a4123e5d8", func := "bulla/bullalaw03.PlaceTables", spec := "placeTables", inPlace := ["internal/bytealg.CountString", "internal/bytealg.IndexByteString", "internal/bytealg.IndexString"], unfollowed := true, recurses := true, named := ["unicode/utf8.first", "unicode/utf8.acceptRanges", "internal/bytealg.MaxLen"], apart := false, laid := [("unicode/utf8.acceptRanges", laid_unicode_utf8_acceptRanges), ("unicode/utf8.first", laid_unicode_utf8_first)], narrowed := true }
def PlaceTablesUptoSaid : Prop := placeTablesUptoRow.holds Tryd.pinned (OpenSpec.upto placeTablesSpec)

/-- 'bullalaw03.PlacePairs', WHERE WHAT IT READS IS OF BULK AT MOST 1048576: true; the input reads as it did. -/
def placePairsUptoRow : OpenClaim := { program := "ytpocekfifokndaadoor", sum := "3e7836ffb68092c1aabb3529cba85b98358c39bb30aad3a8ee1d9d8a4123e5d8", func := "bulla/bullalaw03.PlacePairs", spec := "placePairs", inPlace := ["internal/bytealg.CountString", "internal/bytealg.IndexByteString", "internal/bytealg.IndexString"], unfollowed := true, recurses := true, named := ["unicode/utf8.first", "unicode/utf8.acceptRanges", "internal/bytealg.MaxLen"], apart := false, laid := [("unicode/utf8.acceptRanges", laid_unicode_utf8_acceptRanges), ("unicode/utf8.first", laid_unicode_utf8_first)], narrowed := true }
def PlacePairsUptoSaid : Prop := placePairsUptoRow.holds Tryd.pinned (OpenSpec.upto placePairsSpec)

/-- 'bullalaw03.PlaceStepsMake', WHERE WHAT IT READS IS OF BULK AT MOST 1048576: true; the input reads as it did. -/
def placeStepsMakeUptoRow : OpenClaim := { program := "ytpocekfifokndaadoor", sum := "3e7836ffb68092c1aabb3529cba85b98358c39bb30aad3a8ee1d9d8a4123e5d8", func := "bulla/bullalaw03.PlaceStepsMake", spec := "placeStepsMake", inPlace := ["internal/bytealg.CountString", "internal/bytealg.IndexByteString", "internal/bytealg.IndexString"], unfollowed := true, recurses := true, named := ["unicode/utf8.first", "unicode/utf8.acceptRanges", "internal/bytealg.MaxLen"], apart := false, laid := [("unicode/utf8.acceptRanges", laid_unicode_utf8_acceptRanges), ("unicode/utf8.first", laid_unicode_utf8_first)], narrowed := true }
def PlaceStepsMakeUptoSaid : Prop := placeStepsMakeUptoRow.holds Tryd.pinned (OpenSpec.upto placeStepsMakeSpec)

/-- 'bullalaw03.PlaceSums', WHERE WHAT IT READS IS OF BULK AT MOST 1048576: true; the input reads as it did. -/
def placeSumsUptoRow : OpenClaim := { program := "ytpocekfifokndaadoor", sum := "3e7836ffb68092c1aabb3529cba85b98358c39bb30aad3a8ee1d9d8a4123e5d8", func := "bulla/bullalaw03.PlaceSums", spec := "placeSums", inPlace := ["internal/bytealg.CountString", "internal/bytealg.IndexByteString", "internal/bytealg.IndexString"], unfollowed := true, recurses := true, named := ["unicode/utf8.first", "unicode/utf8.acceptRanges", "internal/bytealg.MaxLen"], apart := false, laid := [("unicode/utf8.acceptRanges", laid_unicode_utf8_acceptRanges), ("unicode/utf8.first", laid_unicode_utf8_first)], narrowed := true }
def PlaceSumsUptoSaid : Prop := placeSumsUptoRow.holds Tryd.pinned (OpenSpec.upto placeSumsSpec)

/-- 'bullalaw03.PlaceRatios', WHERE WHAT IT READS IS OF BULK AT MOST 1048576: true; the input reads as it did. -/
def placeRatiosUptoRow : OpenClaim := { program := "ytpocekfifokndaadoor", sum := "3e7836ffb68092c1aabb3529cba85b98358c39bb30aad3a8ee1d9d8a4123e5d8", func := "bulla/bullalaw03.PlaceRatios", spec := "placeRatios", inPlace := ["internal/bytealg.CountString", "internal/bytealg.IndexByteString", "internal/bytealg.IndexString"], unfollowed := true, recurses := true, named := ["unicode/utf8.first", "unicode/utf8.acceptRanges", "internal/bytealg.MaxLen"], apart := false, laid := [("unicode/utf8.acceptRanges", laid_unicode_utf8_acceptRanges), ("unicode/utf8.first", laid_unicode_utf8_first)], narrowed := true }
def PlaceRatiosUptoSaid : Prop := placeRatiosUptoRow.holds Tryd.pinned (OpenSpec.upto placeRatiosSpec)

/-- 'bullalaw03.PlaceTableParts', WHERE WHAT IT READS IS OF BULK AT MOST 1048576: true; the input reads as it did. -/
def placeTablePartsUptoRow : OpenClaim := { program := "ytpocekfifokndaadoor", sum := "3e7836ffb68092c1aabb3529cba85b98358c39bb30aad3a8ee1d9d8a4123e5d8", func := "bulla/bullalaw03.PlaceTableParts", spec := "placeTableParts", inPlace := ["internal/bytealg.CountString", "internal/bytealg.IndexByteString", "internal/bytealg.IndexString"], unfollowed := true, recurses := true, named := ["unicode/utf8.first", "unicode/utf8.acceptRanges", "internal/bytealg.MaxLen"], apart := false, laid := [("unicode/utf8.acceptRanges", laid_unicode_utf8_acceptRanges), ("unicode/utf8.first", laid_unicode_utf8_first)], narrowed := true }
def PlaceTablePartsUptoSaid : Prop := placeTablePartsUptoRow.holds Tryd.pinned (OpenSpec.upto placeTablePartsSpec)

/-- 'bullalaw03.PlaceNearBounds', WHERE WHAT IT READS IS OF BULK AT MOST 1048576: true; the input reads as it did. -/
def placeNearBoundsUptoRow : OpenClaim := { program := "ytpocekfifokndaadoor", sum := "3e7836ffb68092c1aabb3529cba85b98358c39bb30aad3a8ee1d9d8a4123e5d8", func := "bulla/bullalaw03.PlaceNearBounds", spec := "placeNearBounds", inPlace := ["internal/bytealg.CountString", "internal/bytealg.IndexByteString", "internal/bytealg.IndexString"], unfollowed := true, recurses := true, named := ["unicode/utf8.first", "unicode/utf8.acceptRanges", "internal/bytealg.MaxLen"], apart := false, laid := [("unicode/utf8.acceptRanges", laid_unicode_utf8_acceptRanges), ("unicode/utf8.first", laid_unicode_utf8_first)], narrowed := true }
def PlaceNearBoundsUptoSaid : Prop := placeNearBoundsUptoRow.holds Tryd.pinned (OpenSpec.upto placeNearBoundsSpec)

/-- 'bullalaw03.PlaceRootBounds', WHERE WHAT IT READS IS OF BULK AT MOST 1048576: true; the input reads as it did. -/
def placeRootBoundsUptoRow : OpenClaim := { program := "ytpocekfifokndaadoor", sum := "3e7836ffb68092c1aabb3529cba85b98358c39bb30aad3a8ee1d9d8a4123e5d8", func := "bulla/bullalaw03.PlaceRootBounds", spec := "placeRootBounds", inPlace := ["internal/bytealg.CountString", "internal/bytealg.IndexByteString", "internal/bytealg.IndexString"], unfollowed := true, recurses := true, named := ["unicode/utf8.first", "unicode/utf8.acceptRanges", "internal/bytealg.MaxLen"], apart := false, laid := [("unicode/utf8.acceptRanges", laid_unicode_utf8_acceptRanges), ("unicode/utf8.first", laid_unicode_utf8_first)], narrowed := true }
def PlaceRootBoundsUptoSaid : Prop := placeRootBoundsUptoRow.holds Tryd.pinned (OpenSpec.upto placeRootBoundsSpec)

/-- 'bullalaw03.PlaceRatioBack', WHERE WHAT IT READS IS OF BULK AT MOST 1048576: true; the input reads as it did. -/
def placeRatioBackUptoRow : OpenClaim := { program := "ytpocekfifokndaadoor", sum := "3e7836ffb68092c1aabb3529cba85b98358c39bb30aad3a8ee1d9d8a4123e5d8", func := "bulla/bullalaw03.PlaceRatioBack", spec := "placeRatioBack", inPlace := ["internal/bytealg.CountString", "internal/bytealg.IndexByteString", "internal/bytealg.IndexString"], unfollowed := true, recurses := true, named := ["bulla/metro.zero", "unicode/utf8.first", "unicode/utf8.acceptRanges", "internal/bytealg.MaxLen"], apart := false, laid := [("bulla/metro.zero", laid_bulla_metro_zero), ("unicode/utf8.acceptRanges", laid_unicode_utf8_acceptRanges), ("unicode/utf8.first", laid_unicode_utf8_first)], narrowed := true }
def PlaceRatioBackUptoSaid : Prop := placeRatioBackUptoRow.holds Tryd.pinned (OpenSpec.upto placeRatioBackSpec)

/-- 'bullalaw03.PlaceDigitsBack', WHERE WHAT IT READS IS OF BULK AT MOST 1048576: true; the input reads as it did. -/
def placeDigitsBackUptoRow : OpenClaim := { program := "ytpocekfifokndaadoor", sum := "3e7836ffb68092c1aabb3529cba85b98358c39bb30aad3a8ee1d9d8a4123e5d8", func := "bulla/bullalaw03.PlaceDigitsBack", spec := "placeDigitsBack", inPlace := ["internal/abi.NoEscape", "internal/bytealg.MakeNoZero", "internal/bytealg.CountString", "internal/bytealg.IndexByteString", "internal/bytealg.IndexString"], unfollowed := true, recurses := true, named := ["internal/strconv.uint64pow10", "math/bits.deBruijn32tab", "math/bits.deBruijn64tab", "unicode/utf8.first", "unicode/utf8.acceptRanges", "internal/bytealg.MaxLen"], apart := false, laid := [("math/bits.deBruijn32tab", laid_math_bits_deBruijn32tab), ("math/bits.deBruijn64tab", laid_math_bits_deBruijn64tab), ("internal/strconv.uint64pow10", laid_internal_strconv_uint64pow10), ("unicode/utf8.acceptRanges", laid_unicode_utf8_acceptRanges), ("unicode/utf8.first", laid_unicode_utf8_first)], narrowed := true }
def PlaceDigitsBackUptoSaid : Prop := placeDigitsBackUptoRow.holds Tryd.pinned (OpenSpec.upto placeDigitsBackSpec)

/-- 'bullalaw03.PlaceChecks', WHERE WHAT IT READS IS OF BULK AT MOST 1048576: true; the input reads as it did. -/
def placeChecksUptoRow : OpenClaim := { program := "ytpocekfifokndaadoor", sum := "3e7836ffb68092c1aabb3529cba85b98358c39bb30aad3a8ee1d9d8a4123e5d8", func := "bulla/bullalaw03.PlaceChecks", spec := "placeChecks", inPlace := ["internal/abi.NoEscape", "internal/bytealg.MakeNoZero", "internal/bytealg.CountString", "internal/bytealg.IndexByteString", "internal/bytealg.IndexString"], unfollowed := true, recurses := true, named := ["internal/strconv.uint64pow10", "math/bits.deBruijn32tab", "math/bits.deBruijn64tab", "unicode/utf8.first", "unicode/utf8.acceptRanges", "internal/bytealg.MaxLen"], apart := false, laid := [("math/bits.deBruijn32tab", laid_math_bits_deBruijn32tab), ("math/bits.deBruijn64tab", laid_math_bits_deBruijn64tab), ("internal/strconv.uint64pow10", laid_internal_strconv_uint64pow10), ("unicode/utf8.acceptRanges", laid_unicode_utf8_acceptRanges), ("unicode/utf8.first", laid_unicode_utf8_first)], narrowed := true }
def PlaceChecksUptoSaid : Prop := placeChecksUptoRow.holds Tryd.pinned (OpenSpec.upto placeChecksSpec)

/-- 'bullalaw03.PlaceKnown', WHERE WHAT IT READS IS OF BULK AT MOST 1048576: true; the input reads as it did. -/
def placeKnownUptoRow : OpenClaim := { program := "ytpocekfifokndaadoor", sum := "3e7836ffb68092c1aabb3529cba85b98358c39bb30aad3a8ee1d9d8a4123e5d8", func := "bulla/bullalaw03.PlaceKnown", spec := "placeKnown", inPlace := ["internal/abi.NoEscape", "internal/bytealg.MakeNoZero", "internal/bytealg.CountString", "internal/bytealg.IndexByteString", "internal/bytealg.IndexString"], unfollowed := true, recurses := true, named := ["internal/strconv.uint64pow10", "math/bits.deBruijn32tab", "math/bits.deBruijn64tab", "unicode/utf8.first", "unicode/utf8.acceptRanges", "internal/bytealg.MaxLen"], apart := false, laid := [("math/bits.deBruijn32tab", laid_math_bits_deBruijn32tab), ("math/bits.deBruijn64tab", laid_math_bits_deBruijn64tab), ("internal/strconv.uint64pow10", laid_internal_strconv_uint64pow10), ("unicode/utf8.acceptRanges", laid_unicode_utf8_acceptRanges), ("unicode/utf8.first", laid_unicode_utf8_first)], narrowed := true }
def PlaceKnownUptoSaid : Prop := placeKnownUptoRow.holds Tryd.pinned (OpenSpec.upto placeKnownSpec)

end Rows
end Go.Proofs.YtpocekfifokndaaDoor
