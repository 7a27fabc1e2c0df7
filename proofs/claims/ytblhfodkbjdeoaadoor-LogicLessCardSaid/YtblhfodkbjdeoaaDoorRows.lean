/-
  NARROWER THAN 'FOR EVERY INPUT', by the rows' own cells (each row's printed sentence says how): LogicBinary: laid · LogicCond: laid · LogicRows: laid · LogicShifts: laid · LogicRises: laid · LogicNumbers: laid · LogicUnary: laid · LogicTurns: laid · LogicFolds: laid · LogicSplits: laid · LogicLess: laid · LogicParts: laid · LogicSums: laid.
  DERIVED. THE GIVEN ROWS OF THIS SEAT. 13 by the template 'for every input the law returns true; each argument reads behind the call as it read before'; 0 by the template 'total and deterministic' (their statements: YtblhfodkbjdeoaaDoorTotals.lean).
  GIVEN WITH THE SEED: the statements are not yours to turn. If you find one false, say at which input.
  Laid BY PROGRAM, IN A SANDBOX (cutbox-rows.mjs): the forced cells as the released guide's own fill.sh prints them over the translation 48fffbf20dff1d25… (all of the seat's roots in one cut). By AI agents, Wed Nov 11 2026. No macro, syntax, notation, axiom, sorry.
-/
import Derived.Test.YtblhfodkbjdeoaaDoorChecked
import GoSem.PinnedTables
import GoSem.Claim
import GoSem.ClaimJoined
import GoSem.ClaimMapViews
import Derived.JoinedTies
import Derived.KernelRfl
namespace Go.Proofs.YtblhfodkbjdeoaaDoor
/- THE CELL 'sum', in the pinned program and in every row, IS THE sha256 OF THE DUMP (.gsa) THAT YtblhfodkbjdeoaaDoorProg.lean LOADS. Nothing in Lean hashes anything: it is a label: what it is worth is what the hold of that sum in a sandbox is worth. -/
noncomputable def Tryd.pinned : Pinned := { name := "ytblhfodkbjdeoaadoor", sum := "48fffbf20dff1d25f4a8420ebd22757e78124f5ddf24e330ce792ce9655a573b", checked := Tryd.checked }
namespace Rows
def none {H : Type} : Left H := { results := [], args := [] }

/- WHAT THE LISTED PACKAGE-LEVEL VARIABLES READ AS WHEN THE CALL BEGINS. Each datum BY PROGRAM (the guide's laid-datum.mjs) off the statement by which the dump's own 'gosem.cut.vars' lays the variable. In a bare row this is a premise. The card (YtblhfodkbjdeoaaDoorCards.lean) ties it to the program's text. -/
def laid_unicode_utf8_acceptRanges {H : Type} : DataW H := .agg [.agg [.lit (.int .u8 128), .lit (.int .u8 191)], .agg [.lit (.int .u8 160), .lit (.int .u8 191)], .agg [.lit (.int .u8 128), .lit (.int .u8 159)], .agg [.lit (.int .u8 144), .lit (.int .u8 191)], .agg [.lit (.int .u8 128), .lit (.int .u8 143)], .agg [.lit (.int .u8 0), .lit (.int .u8 0)], .agg [.lit (.int .u8 0), .lit (.int .u8 0)], .agg [.lit (.int .u8 0), .lit (.int .u8 0)], .agg [.lit (.int .u8 0), .lit (.int .u8 0)], .agg [.lit (.int .u8 0), .lit (.int .u8 0)], .agg [.lit (.int .u8 0), .lit (.int .u8 0)], .agg [.lit (.int .u8 0), .lit (.int .u8 0)], .agg [.lit (.int .u8 0), .lit (.int .u8 0)], .agg [.lit (.int .u8 0), .lit (.int .u8 0)], .agg [.lit (.int .u8 0), .lit (.int .u8 0)], .agg [.lit (.int .u8 0), .lit (.int .u8 0)]]
/-- One of Go's own tables, pinned by name: the form's constant. -/
def laid_unicode_utf8_first : DataW Unit := Go.Pinned.utf8First

/-- 'silkwormlaw01.LogicBinary': WHATEVER THE INPUT: true; the input reads as it did. -/
def logicBinarySpec : ChangeSpec := { name := "logicBinary", fn := fun _ => fun
  | [d1, d2, d3] => { results := [.lit (.bool true)], args := [d1, d2, d3] }
  | _ => none }
def logicBinaryRow : OpenClaim := { program := "ytblhfodkbjdeoaadoor", sum := "48fffbf20dff1d25f4a8420ebd22757e78124f5ddf24e330ce792ce9655a573b", func := "silkworm/silkwormlaw01.LogicBinary", spec := "logicBinary", inPlace := ["internal/bytealg.IndexByteString", "internal/bytealg.IndexString", "internal/abi.NoEscape", "internal/bytealg.MakeNoZero", "internal/bytealg.abigen_runtime_cmpstring"], unfollowed := true, recurses := true, named := ["unicode/utf8.first", "unicode/utf8.acceptRanges", "internal/bytealg.MaxLen"], apart := false, laid := [("unicode/utf8.acceptRanges", laid_unicode_utf8_acceptRanges), ("unicode/utf8.first", laid_unicode_utf8_first)] }
def LogicBinarySaid : Prop := logicBinaryRow.holds Tryd.pinned (OpenSpec.ofChange logicBinarySpec)

/-- ITS FALSE NEIGHBOUR: 'it returns false'. Refute it at one input. -/
def logicBinaryWrong : ChangeSpec := { name := "logicBinary", fn := fun _ => fun
  | [d1, d2, d3] => { results := [.lit (.bool false)], args := [d1, d2, d3] }
  | _ => none }
def LogicBinaryWrongFalsely : Prop := logicBinaryRow.holds Tryd.pinned (OpenSpec.ofChange logicBinaryWrong)

/-- 'silkwormlaw01.LogicCond': WHATEVER THE INPUT: true; the input reads as it did. -/
def logicCondSpec : ChangeSpec := { name := "logicCond", fn := fun _ => fun
  | [d1, d2, d3] => { results := [.lit (.bool true)], args := [d1, d2, d3] }
  | _ => none }
def logicCondRow : OpenClaim := { program := "ytblhfodkbjdeoaadoor", sum := "48fffbf20dff1d25f4a8420ebd22757e78124f5ddf24e330ce792ce9655a573b", func := "silkworm/silkwormlaw01.LogicCond", spec := "logicCond", inPlace := ["internal/bytealg.IndexByteString", "internal/bytealg.IndexString", "internal/abi.NoEscape", "internal/bytealg.MakeNoZero", "internal/bytealg.abigen_runtime_cmpstring"], unfollowed := true, recurses := true, named := ["unicode/utf8.first", "unicode/utf8.acceptRanges", "internal/bytealg.MaxLen"], apart := false, laid := [("unicode/utf8.acceptRanges", laid_unicode_utf8_acceptRanges), ("unicode/utf8.first", laid_unicode_utf8_first)] }
def LogicCondSaid : Prop := logicCondRow.holds Tryd.pinned (OpenSpec.ofChange logicCondSpec)

/-- ITS FALSE NEIGHBOUR: 'it returns false'. Refute it at one input. -/
def logicCondWrong : ChangeSpec := { name := "logicCond", fn := fun _ => fun
  | [d1, d2, d3] => { results := [.lit (.bool false)], args := [d1, d2, d3] }
  | _ => none }
def LogicCondWrongFalsely : Prop := logicCondRow.holds Tryd.pinned (OpenSpec.ofChange logicCondWrong)

/-- 'silkwormlaw01.LogicRows': WHATEVER THE INPUT: true; the input reads as it did. -/
def logicRowsSpec : ChangeSpec := { name := "logicRows", fn := fun _ => fun
  | [d1, d2] => { results := [.lit (.bool true)], args := [d1, d2] }
  | _ => none }
def logicRowsRow : OpenClaim := { program := "ytblhfodkbjdeoaadoor", sum := "48fffbf20dff1d25f4a8420ebd22757e78124f5ddf24e330ce792ce9655a573b", func := "silkworm/silkwormlaw01.LogicRows", spec := "logicRows", inPlace := ["internal/bytealg.IndexByteString", "internal/bytealg.IndexString", "internal/abi.NoEscape", "internal/bytealg.MakeNoZero", "internal/bytealg.abigen_runtime_cmpstring"], unfollowed := true, recurses := true, named := ["unicode/utf8.first", "unicode/utf8.acceptRanges", "internal/bytealg.MaxLen"], apart := false, laid := [("unicode/utf8.acceptRanges", laid_unicode_utf8_acceptRanges), ("unicode/utf8.first", laid_unicode_utf8_first)] }
def LogicRowsSaid : Prop := logicRowsRow.holds Tryd.pinned (OpenSpec.ofChange logicRowsSpec)

/-- ITS FALSE NEIGHBOUR: 'it returns false'. Refute it at one input. -/
def logicRowsWrong : ChangeSpec := { name := "logicRows", fn := fun _ => fun
  | [d1, d2] => { results := [.lit (.bool false)], args := [d1, d2] }
  | _ => none }
def LogicRowsWrongFalsely : Prop := logicRowsRow.holds Tryd.pinned (OpenSpec.ofChange logicRowsWrong)

/-- 'silkwormlaw01.LogicShifts': WHATEVER THE INPUT: true; the input reads as it did. -/
def logicShiftsSpec : ChangeSpec := { name := "logicShifts", fn := fun _ => fun
  | [d1, d2, d3] => { results := [.lit (.bool true)], args := [d1, d2, d3] }
  | _ => none }
def logicShiftsRow : OpenClaim := { program := "ytblhfodkbjdeoaadoor", sum := "48fffbf20dff1d25f4a8420ebd22757e78124f5ddf24e330ce792ce9655a573b", func := "silkworm/silkwormlaw01.LogicShifts", spec := "logicShifts", inPlace := ["internal/bytealg.IndexByteString", "internal/bytealg.IndexString", "internal/abi.NoEscape", "internal/bytealg.MakeNoZero", "internal/bytealg.abigen_runtime_cmpstring"], unfollowed := true, recurses := true, named := ["unicode/utf8.first", "unicode/utf8.acceptRanges", "internal/bytealg.MaxLen"], apart := false, laid := [("unicode/utf8.acceptRanges", laid_unicode_utf8_acceptRanges), ("unicode/utf8.first", laid_unicode_utf8_first)] }
def LogicShiftsSaid : Prop := logicShiftsRow.holds Tryd.pinned (OpenSpec.ofChange logicShiftsSpec)

/-- ITS FALSE NEIGHBOUR: 'it returns false'. Refute it at one input. -/
def logicShiftsWrong : ChangeSpec := { name := "logicShifts", fn := fun _ => fun
  | [d1, d2, d3] => { results := [.lit (.bool false)], args := [d1, d2, d3] }
  | _ => none }
def LogicShiftsWrongFalsely : Prop := logicShiftsRow.holds Tryd.pinned (OpenSpec.ofChange logicShiftsWrong)

/-- 'silkwormlaw01.LogicRises': WHATEVER THE INPUT: true; the input reads as it did. -/
def logicRisesSpec : ChangeSpec := { name := "logicRises", fn := fun _ => fun
  | [d1, d2] => { results := [.lit (.bool true)], args := [d1, d2] }
  | _ => none }
def logicRisesRow : OpenClaim := { program := "ytblhfodkbjdeoaadoor", sum := "48fffbf20dff1d25f4a8420ebd22757e78124f5ddf24e330ce792ce9655a573b", func := "silkworm/silkwormlaw01.LogicRises", spec := "logicRises", inPlace := ["internal/bytealg.IndexByteString", "internal/bytealg.IndexString", "internal/abi.NoEscape", "internal/bytealg.MakeNoZero", "internal/bytealg.abigen_runtime_cmpstring"], unfollowed := true, recurses := true, named := ["unicode/utf8.first", "unicode/utf8.acceptRanges", "internal/bytealg.MaxLen"], apart := false, laid := [("unicode/utf8.acceptRanges", laid_unicode_utf8_acceptRanges), ("unicode/utf8.first", laid_unicode_utf8_first)] }
def LogicRisesSaid : Prop := logicRisesRow.holds Tryd.pinned (OpenSpec.ofChange logicRisesSpec)

/-- ITS FALSE NEIGHBOUR: 'it returns false'. Refute it at one input. -/
def logicRisesWrong : ChangeSpec := { name := "logicRises", fn := fun _ => fun
  | [d1, d2] => { results := [.lit (.bool false)], args := [d1, d2] }
  | _ => none }
def LogicRisesWrongFalsely : Prop := logicRisesRow.holds Tryd.pinned (OpenSpec.ofChange logicRisesWrong)

/-- 'silkwormlaw01.LogicNumbers': WHATEVER THE INPUT: true; the input reads as it did. -/
def logicNumbersSpec : ChangeSpec := { name := "logicNumbers", fn := fun _ => fun
  | [d1, d2] => { results := [.lit (.bool true)], args := [d1, d2] }
  | _ => none }
def logicNumbersRow : OpenClaim := { program := "ytblhfodkbjdeoaadoor", sum := "48fffbf20dff1d25f4a8420ebd22757e78124f5ddf24e330ce792ce9655a573b", func := "silkworm/silkwormlaw01.LogicNumbers", spec := "logicNumbers", inPlace := ["internal/bytealg.IndexByteString", "internal/bytealg.IndexString", "internal/abi.NoEscape", "internal/bytealg.MakeNoZero", "internal/bytealg.abigen_runtime_cmpstring"], unfollowed := true, recurses := true, named := ["unicode/utf8.first", "unicode/utf8.acceptRanges", "internal/bytealg.MaxLen"], apart := false, laid := [("unicode/utf8.acceptRanges", laid_unicode_utf8_acceptRanges), ("unicode/utf8.first", laid_unicode_utf8_first)] }
def LogicNumbersSaid : Prop := logicNumbersRow.holds Tryd.pinned (OpenSpec.ofChange logicNumbersSpec)

/-- ITS FALSE NEIGHBOUR: 'it returns false'. Refute it at one input. -/
def logicNumbersWrong : ChangeSpec := { name := "logicNumbers", fn := fun _ => fun
  | [d1, d2] => { results := [.lit (.bool false)], args := [d1, d2] }
  | _ => none }
def LogicNumbersWrongFalsely : Prop := logicNumbersRow.holds Tryd.pinned (OpenSpec.ofChange logicNumbersWrong)

/-- 'silkwormlaw01.LogicUnary': WHATEVER THE INPUT: true; the input reads as it did. -/
def logicUnarySpec : ChangeSpec := { name := "logicUnary", fn := fun _ => fun
  | [d1, d2] => { results := [.lit (.bool true)], args := [d1, d2] }
  | _ => none }
def logicUnaryRow : OpenClaim := { program := "ytblhfodkbjdeoaadoor", sum := "48fffbf20dff1d25f4a8420ebd22757e78124f5ddf24e330ce792ce9655a573b", func := "silkworm/silkwormlaw01.LogicUnary", spec := "logicUnary", inPlace := ["internal/bytealg.IndexByteString", "internal/bytealg.IndexString", "internal/abi.NoEscape", "internal/bytealg.MakeNoZero", "internal/bytealg.abigen_runtime_cmpstring"], unfollowed := true, recurses := true, named := ["unicode/utf8.first", "unicode/utf8.acceptRanges", "internal/bytealg.MaxLen"], apart := false, laid := [("unicode/utf8.acceptRanges", laid_unicode_utf8_acceptRanges), ("unicode/utf8.first", laid_unicode_utf8_first)] }
def LogicUnarySaid : Prop := logicUnaryRow.holds Tryd.pinned (OpenSpec.ofChange logicUnarySpec)

/-- ITS FALSE NEIGHBOUR: 'it returns false'. Refute it at one input. -/
def logicUnaryWrong : ChangeSpec := { name := "logicUnary", fn := fun _ => fun
  | [d1, d2] => { results := [.lit (.bool false)], args := [d1, d2] }
  | _ => none }
def LogicUnaryWrongFalsely : Prop := logicUnaryRow.holds Tryd.pinned (OpenSpec.ofChange logicUnaryWrong)

/-- 'silkwormlaw01.LogicTurns': WHATEVER THE INPUT: true; the input reads as it did. -/
def logicTurnsSpec : ChangeSpec := { name := "logicTurns", fn := fun _ => fun
  | [d1, d2] => { results := [.lit (.bool true)], args := [d1, d2] }
  | _ => none }
def logicTurnsRow : OpenClaim := { program := "ytblhfodkbjdeoaadoor", sum := "48fffbf20dff1d25f4a8420ebd22757e78124f5ddf24e330ce792ce9655a573b", func := "silkworm/silkwormlaw01.LogicTurns", spec := "logicTurns", inPlace := ["internal/bytealg.IndexByteString", "internal/bytealg.IndexString", "internal/abi.NoEscape", "internal/bytealg.MakeNoZero", "internal/bytealg.abigen_runtime_cmpstring"], unfollowed := true, recurses := true, named := ["unicode/utf8.first", "unicode/utf8.acceptRanges", "internal/bytealg.MaxLen"], apart := false, laid := [("unicode/utf8.acceptRanges", laid_unicode_utf8_acceptRanges), ("unicode/utf8.first", laid_unicode_utf8_first)] }
def LogicTurnsSaid : Prop := logicTurnsRow.holds Tryd.pinned (OpenSpec.ofChange logicTurnsSpec)

/-- ITS FALSE NEIGHBOUR: 'it returns false'. Refute it at one input. -/
def logicTurnsWrong : ChangeSpec := { name := "logicTurns", fn := fun _ => fun
  | [d1, d2] => { results := [.lit (.bool false)], args := [d1, d2] }
  | _ => none }
def LogicTurnsWrongFalsely : Prop := logicTurnsRow.holds Tryd.pinned (OpenSpec.ofChange logicTurnsWrong)

/-- 'silkwormlaw01.LogicFolds': WHATEVER THE INPUT: true; the input reads as it did. -/
def logicFoldsSpec : ChangeSpec := { name := "logicFolds", fn := fun _ => fun
  | [d] => { results := [.lit (.bool true)], args := [d] }
  | _ => none }
def logicFoldsRow : OpenClaim := { program := "ytblhfodkbjdeoaadoor", sum := "48fffbf20dff1d25f4a8420ebd22757e78124f5ddf24e330ce792ce9655a573b", func := "silkworm/silkwormlaw01.LogicFolds", spec := "logicFolds", inPlace := ["internal/bytealg.IndexByteString", "internal/bytealg.IndexString", "internal/abi.NoEscape", "internal/bytealg.MakeNoZero", "internal/bytealg.abigen_runtime_cmpstring"], unfollowed := true, recurses := true, named := ["unicode/utf8.first", "unicode/utf8.acceptRanges", "internal/bytealg.MaxLen"], apart := false, laid := [("unicode/utf8.acceptRanges", laid_unicode_utf8_acceptRanges), ("unicode/utf8.first", laid_unicode_utf8_first)] }
def LogicFoldsSaid : Prop := logicFoldsRow.holds Tryd.pinned (OpenSpec.ofChange logicFoldsSpec)

/-- ITS FALSE NEIGHBOUR: 'it returns false'. Refute it at one input. -/
def logicFoldsWrong : ChangeSpec := { name := "logicFolds", fn := fun _ => fun
  | [d] => { results := [.lit (.bool false)], args := [d] }
  | _ => none }
def LogicFoldsWrongFalsely : Prop := logicFoldsRow.holds Tryd.pinned (OpenSpec.ofChange logicFoldsWrong)

/-- 'silkwormlaw01.LogicSplits': WHATEVER THE INPUT: true; the input reads as it did. -/
def logicSplitsSpec : ChangeSpec := { name := "logicSplits", fn := fun _ => fun
  | [d1, d2] => { results := [.lit (.bool true)], args := [d1, d2] }
  | _ => none }
def logicSplitsRow : OpenClaim := { program := "ytblhfodkbjdeoaadoor", sum := "48fffbf20dff1d25f4a8420ebd22757e78124f5ddf24e330ce792ce9655a573b", func := "silkworm/silkwormlaw01.LogicSplits", spec := "logicSplits", inPlace := ["internal/bytealg.IndexByteString", "internal/bytealg.IndexString", "internal/abi.NoEscape", "internal/bytealg.MakeNoZero", "internal/bytealg.abigen_runtime_cmpstring"], unfollowed := true, recurses := true, named := ["unicode/utf8.first", "unicode/utf8.acceptRanges", "internal/bytealg.MaxLen"], apart := false, laid := [("unicode/utf8.acceptRanges", laid_unicode_utf8_acceptRanges), ("unicode/utf8.first", laid_unicode_utf8_first)] }
def LogicSplitsSaid : Prop := logicSplitsRow.holds Tryd.pinned (OpenSpec.ofChange logicSplitsSpec)

/-- ITS FALSE NEIGHBOUR: 'it returns false'. Refute it at one input. -/
def logicSplitsWrong : ChangeSpec := { name := "logicSplits", fn := fun _ => fun
  | [d1, d2] => { results := [.lit (.bool false)], args := [d1, d2] }
  | _ => none }
def LogicSplitsWrongFalsely : Prop := logicSplitsRow.holds Tryd.pinned (OpenSpec.ofChange logicSplitsWrong)

/-- 'silkwormlaw01.LogicLess': WHATEVER THE INPUT: true; the input reads as it did. -/
def logicLessSpec : ChangeSpec := { name := "logicLess", fn := fun _ => fun
  | [d1, d2, d3] => { results := [.lit (.bool true)], args := [d1, d2, d3] }
  | _ => none }
def logicLessRow : OpenClaim := { program := "ytblhfodkbjdeoaadoor", sum := "48fffbf20dff1d25f4a8420ebd22757e78124f5ddf24e330ce792ce9655a573b", func := "silkworm/silkwormlaw01.LogicLess", spec := "logicLess", inPlace := ["internal/bytealg.IndexByteString", "internal/bytealg.IndexString", "internal/abi.NoEscape", "internal/bytealg.MakeNoZero", "internal/bytealg.abigen_runtime_cmpstring"], unfollowed := true, recurses := true, named := ["unicode/utf8.first", "unicode/utf8.acceptRanges", "internal/bytealg.MaxLen"], apart := false, laid := [("unicode/utf8.acceptRanges", laid_unicode_utf8_acceptRanges), ("unicode/utf8.first", laid_unicode_utf8_first)] }
def LogicLessSaid : Prop := logicLessRow.holds Tryd.pinned (OpenSpec.ofChange logicLessSpec)

/-- ITS FALSE NEIGHBOUR: 'it returns false'. Refute it at one input. -/
def logicLessWrong : ChangeSpec := { name := "logicLess", fn := fun _ => fun
  | [d1, d2, d3] => { results := [.lit (.bool false)], args := [d1, d2, d3] }
  | _ => none }
def LogicLessWrongFalsely : Prop := logicLessRow.holds Tryd.pinned (OpenSpec.ofChange logicLessWrong)

/-- 'silkwormlaw01.LogicParts': WHATEVER THE INPUT: true; the input reads as it did. -/
def logicPartsSpec : ChangeSpec := { name := "logicParts", fn := fun _ => fun
  | [d1, d2, d3] => { results := [.lit (.bool true)], args := [d1, d2, d3] }
  | _ => none }
def logicPartsRow : OpenClaim := { program := "ytblhfodkbjdeoaadoor", sum := "48fffbf20dff1d25f4a8420ebd22757e78124f5ddf24e330ce792ce9655a573b", func := "silkworm/silkwormlaw01.LogicParts", spec := "logicParts", inPlace := ["internal/bytealg.IndexByteString", "internal/bytealg.IndexString", "internal/abi.NoEscape", "internal/bytealg.MakeNoZero", "internal/bytealg.abigen_runtime_cmpstring"], unfollowed := true, recurses := true, named := ["unicode/utf8.first", "unicode/utf8.acceptRanges", "internal/bytealg.MaxLen"], apart := false, laid := [("unicode/utf8.acceptRanges", laid_unicode_utf8_acceptRanges), ("unicode/utf8.first", laid_unicode_utf8_first)] }
def LogicPartsSaid : Prop := logicPartsRow.holds Tryd.pinned (OpenSpec.ofChange logicPartsSpec)

/-- ITS FALSE NEIGHBOUR: 'it returns false'. Refute it at one input. -/
def logicPartsWrong : ChangeSpec := { name := "logicParts", fn := fun _ => fun
  | [d1, d2, d3] => { results := [.lit (.bool false)], args := [d1, d2, d3] }
  | _ => none }
def LogicPartsWrongFalsely : Prop := logicPartsRow.holds Tryd.pinned (OpenSpec.ofChange logicPartsWrong)

/-- 'silkwormlaw01.LogicSums': WHATEVER THE INPUT: true; the input reads as it did. -/
def logicSumsSpec : ChangeSpec := { name := "logicSums", fn := fun _ => fun
  | [d1, d2, d3] => { results := [.lit (.bool true)], args := [d1, d2, d3] }
  | _ => none }
def logicSumsRow : OpenClaim := { program := "ytblhfodkbjdeoaadoor", sum := "48fffbf20dff1d25f4a8420ebd22757e78124f5ddf24e330ce792ce9655a573b", func := "silkworm/silkwormlaw01.LogicSums", spec := "logicSums", inPlace := ["internal/bytealg.IndexByteString", "internal/bytealg.IndexString", "internal/abi.NoEscape", "internal/bytealg.MakeNoZero", "internal/bytealg.abigen_runtime_cmpstring"], unfollowed := true, recurses := true, named := ["unicode/utf8.first", "unicode/utf8.acceptRanges", "internal/bytealg.MaxLen"], apart := false, laid := [("unicode/utf8.acceptRanges", laid_unicode_utf8_acceptRanges), ("unicode/utf8.first", laid_unicode_utf8_first)] }
def LogicSumsSaid : Prop := logicSumsRow.holds Tryd.pinned (OpenSpec.ofChange logicSumsSpec)

/-- ITS FALSE NEIGHBOUR: 'it returns false'. Refute it at one input. -/
def logicSumsWrong : ChangeSpec := { name := "logicSums", fn := fun _ => fun
  | [d1, d2, d3] => { results := [.lit (.bool false)], args := [d1, d2, d3] }
  | _ => none }
def LogicSumsWrongFalsely : Prop := logicSumsRow.holds Tryd.pinned (OpenSpec.ofChange logicSumsWrong)

/- THE SECOND FORM. 'bulk': how many values and letters a reading holds, each counted each time it is reached (what is shared counts as often as it is met; a slice's spare places count too). A statement '..UptoSaid' is the law's where the arguments, and the package variables that the reading takes, are together of bulk at most 1048576: NARROWER than '..Said'. Prove '..Said' where nothing that the law and all that it calls make is longer than what came in: it says more and counts as full. Else prove '..UptoSaid'. A law counts once. -/
mutual
def uptoBulk {H : Type} : DataW H → Nat
  | .lit (.string bytes) => bytes.length + 1
  | .lit _ => 1
  | .nil => 1
  | .ptr d => uptoBulk d + 1
  | .slice elems spare => uptoBulkAll elems + uptoBulkAll spare + 1
  | .agg parts => uptoBulkAll parts + 1
  | .iface _ d => uptoBulk d + 1
  | .map entries => uptoBulkEntries entries + 1
  | .held _ => 1
def uptoBulkAll {H : Type} : List (DataW H) → Nat
  | [] => 0
  | d :: r => uptoBulk d + uptoBulkAll r
def uptoBulkEntries {H : Type} : List (Lit × DataW H) → Nat
  | [] => 0
  | x :: r => uptoBulkEntry x + uptoBulkEntries r
def uptoBulkEntry {H : Type} : Lit × DataW H → Nat
  | (.string bytes, d) => bytes.length + uptoBulk d + 1
  | (_, d) => uptoBulk d + 1
 end
def uptoSmall : (H : Type) → List (DataW H) → Bool := fun _ ds => decide (uptoBulkAll ds ≤ 1048576)
def OpenSpec.upto (s : _root_.Go.ChangeSpec) : _root_.Go.OpenSpec := { _root_.Go.OpenSpec.ofChange s with cond := some uptoSmall }

/-- 'silkwormlaw01.LogicBinary', WHERE WHAT IT READS IS OF BULK AT MOST 1048576: true; the input reads as it did. -/
def logicBinaryUptoRow : OpenClaim := { program := "ytblhfodkbjdeoaadoor", sum := "48fffbf20dff1d25f4a8420ebd22757e78124f5ddf24e330ce792ce9655a573b", func := "silkworm/silkwormlaw01.LogicBinary", spec := "logicBinary", inPlace := ["internal/bytealg.IndexByteString", "internal/bytealg.IndexString", "internal/abi.NoEscape", "internal/bytealg.MakeNoZero", "internal/bytealg.abigen_runtime_cmpstring"], unfollowed := true, recurses := true, named := ["unicode/utf8.first", "unicode/utf8.acceptRanges", "internal/bytealg.MaxLen"], apart := false, laid := [("unicode/utf8.acceptRanges", laid_unicode_utf8_acceptRanges), ("unicode/utf8.first", laid_unicode_utf8_first)], narrowed := true }
def LogicBinaryUptoSaid : Prop := logicBinaryUptoRow.holds Tryd.pinned (OpenSpec.upto logicBinarySpec)

/-- 'silkwormlaw01.LogicCond', WHERE WHAT IT READS IS OF BULK AT MOST 1048576: true; the input reads as it did. -/
def logicCondUptoRow : OpenClaim := { program := "ytblhfodkbjdeoaadoor", sum := "48fffbf20dff1d25f4a8420ebd22757e78124f5ddf24e330ce792ce9655a573b", func := "silkworm/silkwormlaw01.LogicCond", spec := "logicCond", inPlace := ["internal/bytealg.IndexByteString", "internal/bytealg.IndexString", "internal/abi.NoEscape", "internal/bytealg.MakeNoZero", "internal/bytealg.abigen_runtime_cmpstring"], unfollowed := true, recurses := true, named := ["unicode/utf8.first", "unicode/utf8.acceptRanges", "internal/bytealg.MaxLen"], apart := false, laid := [("unicode/utf8.acceptRanges", laid_unicode_utf8_acceptRanges), ("unicode/utf8.first", laid_unicode_utf8_first)], narrowed := true }
def LogicCondUptoSaid : Prop := logicCondUptoRow.holds Tryd.pinned (OpenSpec.upto logicCondSpec)

/-- 'silkwormlaw01.LogicRows', WHERE WHAT IT READS IS OF BULK AT MOST 1048576: true; the input reads as it did. -/
def logicRowsUptoRow : OpenClaim := { program := "ytblhfodkbjdeoaadoor", sum := "48fffbf20dff1d25f4a8420ebd22757e78124f5ddf24e330ce792ce9655a573b", func := "silkworm/silkwormlaw01.LogicRows", spec := "logicRows", inPlace := ["internal/bytealg.IndexByteString", "internal/bytealg.IndexString", "internal/abi.NoEscape", "internal/bytealg.MakeNoZero", "internal/bytealg.abigen_runtime_cmpstring"], unfollowed := true, recurses := true, named := ["unicode/utf8.first", "unicode/utf8.acceptRanges", "internal/bytealg.MaxLen"], apart := false, laid := [("unicode/utf8.acceptRanges", laid_unicode_utf8_acceptRanges), ("unicode/utf8.first", laid_unicode_utf8_first)], narrowed := true }
def LogicRowsUptoSaid : Prop := logicRowsUptoRow.holds Tryd.pinned (OpenSpec.upto logicRowsSpec)

/-- 'silkwormlaw01.LogicShifts', WHERE WHAT IT READS IS OF BULK AT MOST 1048576: true; the input reads as it did. -/
def logicShiftsUptoRow : OpenClaim := { program := "ytblhfodkbjdeoaadoor", sum := "48fffbf20dff1d25f4a8420ebd22757e78124f5ddf24e330ce792ce9655a573b", func := "silkworm/silkwormlaw01.LogicShifts", spec := "logicShifts", inPlace := ["internal/bytealg.IndexByteString", "internal/bytealg.IndexString", "internal/abi.NoEscape", "internal/bytealg.MakeNoZero", "internal/bytealg.abigen_runtime_cmpstring"], unfollowed := true, recurses := true, named := ["unicode/utf8.first", "unicode/utf8.acceptRanges", "internal/bytealg.MaxLen"], apart := false, laid := [("unicode/utf8.acceptRanges", laid_unicode_utf8_acceptRanges), ("unicode/utf8.first", laid_unicode_utf8_first)], narrowed := true }
def LogicShiftsUptoSaid : Prop := logicShiftsUptoRow.holds Tryd.pinned (OpenSpec.upto logicShiftsSpec)

/-- 'silkwormlaw01.LogicRises', WHERE WHAT IT READS IS OF BULK AT MOST 1048576: true; the input reads as it did. -/
def logicRisesUptoRow : OpenClaim := { program := "ytblhfodkbjdeoaadoor", sum := "48fffbf20dff1d25f4a8420ebd22757e78124f5ddf24e330ce792ce9655a573b", func := "silkworm/silkwormlaw01.LogicRises", spec := "logicRises", inPlace := ["internal/bytealg.IndexByteString", "internal/bytealg.IndexString", "internal/abi.NoEscape", "internal/bytealg.MakeNoZero", "internal/bytealg.abigen_runtime_cmpstring"], unfollowed := true, recurses := true, named := ["unicode/utf8.first", "unicode/utf8.acceptRanges", "internal/bytealg.MaxLen"], apart := false, laid := [("unicode/utf8.acceptRanges", laid_unicode_utf8_acceptRanges), ("unicode/utf8.first", laid_unicode_utf8_first)], narrowed := true }
def LogicRisesUptoSaid : Prop := logicRisesUptoRow.holds Tryd.pinned (OpenSpec.upto logicRisesSpec)

/-- 'silkwormlaw01.LogicNumbers', WHERE WHAT IT READS IS OF BULK AT MOST 1048576: true; the input reads as it did. -/
def logicNumbersUptoRow : OpenClaim := { program := "ytblhfodkbjdeoaadoor", sum := "48fffbf20dff1d25f4a8420ebd22757e78124f5ddf24e330ce792ce9655a573b", func := "silkworm/silkwormlaw01.LogicNumbers", spec := "logicNumbers", inPlace := ["internal/bytealg.IndexByteString", "internal/bytealg.IndexString", "internal/abi.NoEscape", "internal/bytealg.MakeNoZero", "internal/bytealg.abigen_runtime_cmpstring"], unfollowed := true, recurses := true, named := ["unicode/utf8.first", "unicode/utf8.acceptRanges", "internal/bytealg.MaxLen"], apart := false, laid := [("unicode/utf8.acceptRanges", laid_unicode_utf8_acceptRanges), ("unicode/utf8.first", laid_unicode_utf8_first)], narrowed := true }
def LogicNumbersUptoSaid : Prop := logicNumbersUptoRow.holds Tryd.pinned (OpenSpec.upto logicNumbersSpec)

/-- 'silkwormlaw01.LogicUnary', WHERE WHAT IT READS IS OF BULK AT MOST 1048576: true; the input reads as it did. -/
def logicUnaryUptoRow : OpenClaim := { program := "ytblhfodkbjdeoaadoor", sum := "48fffbf20dff1d25f4a8420ebd22757e78124f5ddf24e330ce792ce9655a573b", func := "silkworm/silkwormlaw01.LogicUnary", spec := "logicUnary", inPlace := ["internal/bytealg.IndexByteString", "internal/bytealg.IndexString", "internal/abi.NoEscape", "internal/bytealg.MakeNoZero", "internal/bytealg.abigen_runtime_cmpstring"], unfollowed := true, recurses := true, named := ["unicode/utf8.first", "unicode/utf8.acceptRanges", "internal/bytealg.MaxLen"], apart := false, laid := [("unicode/utf8.acceptRanges", laid_unicode_utf8_acceptRanges), ("unicode/utf8.first", laid_unicode_utf8_first)], narrowed := true }
def LogicUnaryUptoSaid : Prop := logicUnaryUptoRow.holds Tryd.pinned (OpenSpec.upto logicUnarySpec)

/-- 'silkwormlaw01.LogicTurns', WHERE WHAT IT READS IS OF BULK AT MOST 1048576: true; the input reads as it did. -/
def logicTurnsUptoRow : OpenClaim := { program := "ytblhfodkbjdeoaadoor", sum := "48fffbf20dff1d25f4a8420ebd22757e78124f5ddf24e330ce792ce9655a573b", func := "silkworm/silkwormlaw01.LogicTurns", spec := "logicTurns", inPlace := ["internal/bytealg.IndexByteString", "internal/bytealg.IndexString", "internal/abi.NoEscape", "internal/bytealg.MakeNoZero", "internal/bytealg.abigen_runtime_cmpstring"], unfollowed := true, recurses := true, named := ["unicode/utf8.first", "unicode/utf8.acceptRanges", "internal/bytealg.MaxLen"], apart := false, laid := [("unicode/utf8.acceptRanges", laid_unicode_utf8_acceptRanges), ("unicode/utf8.first", laid_unicode_utf8_first)], narrowed := true }
def LogicTurnsUptoSaid : Prop := logicTurnsUptoRow.holds Tryd.pinned (OpenSpec.upto logicTurnsSpec)

/-- 'silkwormlaw01.LogicFolds', WHERE WHAT IT READS IS OF BULK AT MOST 1048576: true; the input reads as it did. -/
def logicFoldsUptoRow : OpenClaim := { program := "ytblhfodkbjdeoaadoor", sum := "48fffbf20dff1d25f4a8420ebd22757e78124f5ddf24e330ce792ce9655a573b", func := "silkworm/silkwormlaw01.LogicFolds", spec := "logicFolds", inPlace := ["internal/bytealg.IndexByteString", "internal/bytealg.IndexString", "internal/abi.NoEscape", "internal/bytealg.MakeNoZero", "internal/bytealg.abigen_runtime_cmpstring"], unfollowed := true, recurses := true, named := ["unicode/utf8.first", "unicode/utf8.acceptRanges", "internal/bytealg.MaxLen"], apart := false, laid := [("unicode/utf8.acceptRanges", laid_unicode_utf8_acceptRanges), ("unicode/utf8.first", laid_unicode_utf8_first)], narrowed := true }
def LogicFoldsUptoSaid : Prop := logicFoldsUptoRow.holds Tryd.pinned (OpenSpec.upto logicFoldsSpec)

/-- 'silkwormlaw01.LogicSplits', WHERE WHAT IT READS IS OF BULK AT MOST 1048576: true; the input reads as it did. -/
def logicSplitsUptoRow : OpenClaim := { program := "ytblhfodkbjdeoaadoor", sum := "48fffbf20dff1d25f4a8420ebd22757e78124f5ddf24e330ce792ce9655a573b", func := "silkworm/silkwormlaw01.LogicSplits", spec := "logicSplits", inPlace := ["internal/bytealg.IndexByteString", "internal/bytealg.IndexString", "internal/abi.NoEscape", "internal/bytealg.MakeNoZero", "internal/bytealg.abigen_runtime_cmpstring"], unfollowed := true, recurses := true, named := ["unicode/utf8.first", "unicode/utf8.acceptRanges", "internal/bytealg.MaxLen"], apart := false, laid := [("unicode/utf8.acceptRanges", laid_unicode_utf8_acceptRanges), ("unicode/utf8.first", laid_unicode_utf8_first)], narrowed := true }
def LogicSplitsUptoSaid : Prop := logicSplitsUptoRow.holds Tryd.pinned (OpenSpec.upto logicSplitsSpec)

/-- 'silkwormlaw01.LogicLess', WHERE WHAT IT READS IS OF BULK AT MOST 1048576: true; the input reads as it did. -/
def logicLessUptoRow : OpenClaim := { program := "ytblhfodkbjdeoaadoor", sum := "48fffbf20dff1d25f4a8420ebd22757e78124f5ddf24e330ce792ce9655a573b", func := "silkworm/silkwormlaw01.LogicLess", spec := "logicLess", inPlace := ["internal/bytealg.IndexByteString", "internal/bytealg.IndexString", "internal/abi.NoEscape", "internal/bytealg.MakeNoZero", "internal/bytealg.abigen_runtime_cmpstring"], unfollowed := true, recurses := true, named := ["unicode/utf8.first", "unicode/utf8.acceptRanges", "internal/bytealg.MaxLen"], apart := false, laid := [("unicode/utf8.acceptRanges", laid_unicode_utf8_acceptRanges), ("unicode/utf8.first", laid_unicode_utf8_first)], narrowed := true }
def LogicLessUptoSaid : Prop := logicLessUptoRow.holds Tryd.pinned (OpenSpec.upto logicLessSpec)

/-- 'silkwormlaw01.LogicParts', WHERE WHAT IT READS IS OF BULK AT MOST 1048576: true; the input reads as it did. -/
def logicPartsUptoRow : OpenClaim := { program := "ytblhfodkbjdeoaadoor", sum := "48fffbf20dff1d25f4a8420ebd22757e78124f5ddf24e330ce792ce9655a573b", func := "silkworm/silkwormlaw01.LogicParts", spec := "logicParts", inPlace := ["internal/bytealg.IndexByteString", "internal/bytealg.IndexString", "internal/abi.NoEscape", "internal/bytealg.MakeNoZero", "internal/bytealg.abigen_runtime_cmpstring"], unfollowed := true, recurses := true, named := ["unicode/utf8.first", "unicode/utf8.acceptRanges", "internal/bytealg.MaxLen"], apart := false, laid := [("unicode/utf8.acceptRanges", laid_unicode_utf8_acceptRanges), ("unicode/utf8.first", laid_unicode_utf8_first)], narrowed := true }
def LogicPartsUptoSaid : Prop := logicPartsUptoRow.holds Tryd.pinned (OpenSpec.upto logicPartsSpec)

/-- 'silkwormlaw01.LogicSums', WHERE WHAT IT READS IS OF BULK AT MOST 1048576: true; the input reads as it did. -/
def logicSumsUptoRow : OpenClaim := { program := "ytblhfodkbjdeoaadoor", sum := "48fffbf20dff1d25f4a8420ebd22757e78124f5ddf24e330ce792ce9655a573b", func := "silkworm/silkwormlaw01.LogicSums", spec := "logicSums", inPlace := ["internal/bytealg.IndexByteString", "internal/bytealg.IndexString", "internal/abi.NoEscape", "internal/bytealg.MakeNoZero", "internal/bytealg.abigen_runtime_cmpstring"], unfollowed := true, recurses := true, named := ["unicode/utf8.first", "unicode/utf8.acceptRanges", "internal/bytealg.MaxLen"], apart := false, laid := [("unicode/utf8.acceptRanges", laid_unicode_utf8_acceptRanges), ("unicode/utf8.first", laid_unicode_utf8_first)], narrowed := true }
def LogicSumsUptoSaid : Prop := logicSumsUptoRow.holds Tryd.pinned (OpenSpec.upto logicSumsSpec)

end Rows
end Go.Proofs.YtblhfodkbjdeoaaDoor
