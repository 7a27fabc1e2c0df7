/-
  NARROWER THAN 'FOR EVERY INPUT', by the rows' own cells (each row's printed sentence says how): EngineChecks: laid · EngineLonger: laid · EngineLines: laid · EngineCounts: laid · EngineStill: laid · LpTakes: laid · ConservRefuses: laid · ConservRounds: laid · WarpWaits: laid · WarpRounds: laid.
  DERIVED. THE GIVEN ROWS OF THIS SEAT. 10 by the template 'for every input the law returns true; each argument reads behind the call as it read before'; 0 by the template 'total and deterministic' (their statements: YtpjohgnhmjceiaaGreatDoorTotals.lean).
  GIVEN WITH THE SEED: the statements are not yours to turn. If you find one false, say at which input.
  Laid BY PROGRAM, IN A SANDBOX (cutbox-rows.mjs): the forced cells as the released guide's own fill.sh prints them over the translation 18fe793df57f5c0f… (all of the seat's roots in one cut). By AI agents, Wed Nov 11 2026. No macro, syntax, notation, axiom, sorry.
-/
import Derived.Test.YtpjohgnhmjceiaaGreatDoorChecked
import GoSem.PinnedTables
import GoSem.Claim
import GoSem.ClaimJoined
import GoSem.ClaimMapViews
import Derived.JoinedTies
import Derived.KernelRfl
namespace Go.Proofs.YtpjohgnhmjceiaaGreatDoor
/- THE CELL 'sum', in the pinned program and in every row, IS THE sha256 OF THE DUMP (.gsa) THAT YtpjohgnhmjceiaaGreatDoorProg.lean LOADS. Nothing in Lean hashes anything: it is a label: what it is worth is what the hold of that sum in a sandbox is worth. -/
noncomputable def Tryz.pinned : Pinned := { name := "ytpjohgnhmjceiaagreatdoor", sum := "18fe793df57f5c0ffb4eeb14203d43508ebf269cdd5aa2b762cb2603b3ef8fe3", checked := Tryz.checked }
namespace Rows
def none {H : Type} : Left H := { results := [], args := [] }

/- WHAT THE LISTED PACKAGE-LEVEL VARIABLES READ AS WHEN THE CALL BEGINS. Each datum BY PROGRAM (the guide's laid-datum.mjs) off the statement by which the dump's own 'gosem.cut.vars' lays the variable. In a bare row this is a premise. The card (YtpjohgnhmjceiaaGreatDoorCards.lean) ties it to the program's text. -/
def laid_unicode_utf8_acceptRanges {H : Type} : DataW H := .agg [.agg [.lit (.int .u8 128), .lit (.int .u8 191)], .agg [.lit (.int .u8 160), .lit (.int .u8 191)], .agg [.lit (.int .u8 128), .lit (.int .u8 159)], .agg [.lit (.int .u8 144), .lit (.int .u8 191)], .agg [.lit (.int .u8 128), .lit (.int .u8 143)], .agg [.lit (.int .u8 0), .lit (.int .u8 0)], .agg [.lit (.int .u8 0), .lit (.int .u8 0)], .agg [.lit (.int .u8 0), .lit (.int .u8 0)], .agg [.lit (.int .u8 0), .lit (.int .u8 0)], .agg [.lit (.int .u8 0), .lit (.int .u8 0)], .agg [.lit (.int .u8 0), .lit (.int .u8 0)], .agg [.lit (.int .u8 0), .lit (.int .u8 0)], .agg [.lit (.int .u8 0), .lit (.int .u8 0)], .agg [.lit (.int .u8 0), .lit (.int .u8 0)], .agg [.lit (.int .u8 0), .lit (.int .u8 0)], .agg [.lit (.int .u8 0), .lit (.int .u8 0)]]
/-- One of Go's own tables, pinned by name: the form's constant. -/
def laid_unicode_utf8_first : DataW Unit := Go.Pinned.utf8First

/-- 'silkwormlaw12.EngineChecks': WHATEVER THE INPUT: true; the input reads as it did. -/
def engineChecksSpec : ChangeSpec := { name := "engineChecks", fn := fun _ => fun
  | [d1, d2, d3] => { results := [.lit (.bool true)], args := [d1, d2, d3] }
  | _ => none }
def engineChecksRow : OpenClaim := { program := "ytpjohgnhmjceiaagreatdoor", sum := "18fe793df57f5c0ffb4eeb14203d43508ebf269cdd5aa2b762cb2603b3ef8fe3", func := "silkworm/silkwormlaw12.EngineChecks", spec := "engineChecks", inPlace := ["internal/bytealg.IndexByteString", "internal/bytealg.IndexString", "internal/abi.NoEscape", "internal/bytealg.MakeNoZero", "internal/bytealg.abigen_runtime_cmpstring"], unfollowed := true, recurses := true, named := ["unicode/utf8.first", "unicode/utf8.acceptRanges", "internal/bytealg.MaxLen"], plainKeys := false, apart := false, laid := [("unicode/utf8.acceptRanges", laid_unicode_utf8_acceptRanges), ("unicode/utf8.first", laid_unicode_utf8_first)] }
def EngineChecksSaid : Prop := engineChecksRow.holds Tryz.pinned (OpenSpec.ofChange engineChecksSpec)

/-- ITS FALSE NEIGHBOUR: 'it returns false'. Refute it at one input. -/
def engineChecksWrong : ChangeSpec := { name := "engineChecks", fn := fun _ => fun
  | [d1, d2, d3] => { results := [.lit (.bool false)], args := [d1, d2, d3] }
  | _ => none }
def EngineChecksWrongFalsely : Prop := engineChecksRow.holds Tryz.pinned (OpenSpec.ofChange engineChecksWrong)

/-- 'silkwormlaw12.EngineLonger': WHATEVER THE INPUT: true; the input reads as it did. -/
def engineLongerSpec : ChangeSpec := { name := "engineLonger", fn := fun _ => fun
  | [d1, d2, d3] => { results := [.lit (.bool true)], args := [d1, d2, d3] }
  | _ => none }
def engineLongerRow : OpenClaim := { program := "ytpjohgnhmjceiaagreatdoor", sum := "18fe793df57f5c0ffb4eeb14203d43508ebf269cdd5aa2b762cb2603b3ef8fe3", func := "silkworm/silkwormlaw12.EngineLonger", spec := "engineLonger", inPlace := ["internal/bytealg.IndexByteString", "internal/bytealg.IndexString", "internal/abi.NoEscape", "internal/bytealg.MakeNoZero", "internal/bytealg.abigen_runtime_cmpstring"], unfollowed := true, recurses := true, named := ["unicode/utf8.first", "unicode/utf8.acceptRanges", "internal/bytealg.MaxLen"], plainKeys := false, apart := false, laid := [("unicode/utf8.acceptRanges", laid_unicode_utf8_acceptRanges), ("unicode/utf8.first", laid_unicode_utf8_first)] }
def EngineLongerSaid : Prop := engineLongerRow.holds Tryz.pinned (OpenSpec.ofChange engineLongerSpec)

/-- ITS FALSE NEIGHBOUR: 'it returns false'. Refute it at one input. -/
def engineLongerWrong : ChangeSpec := { name := "engineLonger", fn := fun _ => fun
  | [d1, d2, d3] => { results := [.lit (.bool false)], args := [d1, d2, d3] }
  | _ => none }
def EngineLongerWrongFalsely : Prop := engineLongerRow.holds Tryz.pinned (OpenSpec.ofChange engineLongerWrong)

/-- 'silkwormlaw12.EngineLines': WHATEVER THE INPUT: true; the input reads as it did. -/
def engineLinesSpec : ChangeSpec := { name := "engineLines", fn := fun _ => fun
  | [d1, d2] => { results := [.lit (.bool true)], args := [d1, d2] }
  | _ => none }
def engineLinesRow : OpenClaim := { program := "ytpjohgnhmjceiaagreatdoor", sum := "18fe793df57f5c0ffb4eeb14203d43508ebf269cdd5aa2b762cb2603b3ef8fe3", func := "silkworm/silkwormlaw12.EngineLines", spec := "engineLines", inPlace := ["internal/bytealg.IndexByteString", "internal/bytealg.IndexString", "internal/abi.NoEscape", "internal/bytealg.MakeNoZero", "internal/bytealg.abigen_runtime_cmpstring"], unfollowed := true, recurses := true, named := ["unicode/utf8.first", "unicode/utf8.acceptRanges", "internal/bytealg.MaxLen"], plainKeys := false, apart := false, laid := [("unicode/utf8.acceptRanges", laid_unicode_utf8_acceptRanges), ("unicode/utf8.first", laid_unicode_utf8_first)] }
def EngineLinesSaid : Prop := engineLinesRow.holds Tryz.pinned (OpenSpec.ofChange engineLinesSpec)

/-- ITS FALSE NEIGHBOUR: 'it returns false'. Refute it at one input. -/
def engineLinesWrong : ChangeSpec := { name := "engineLines", fn := fun _ => fun
  | [d1, d2] => { results := [.lit (.bool false)], args := [d1, d2] }
  | _ => none }
def EngineLinesWrongFalsely : Prop := engineLinesRow.holds Tryz.pinned (OpenSpec.ofChange engineLinesWrong)

/-- 'silkwormlaw12.EngineCounts': WHATEVER THE INPUT: true; the input reads as it did. -/
def engineCountsSpec : ChangeSpec := { name := "engineCounts", fn := fun _ => fun
  | [d1, d2] => { results := [.lit (.bool true)], args := [d1, d2] }
  | _ => none }
def engineCountsRow : OpenClaim := { program := "ytpjohgnhmjceiaagreatdoor", sum := "18fe793df57f5c0ffb4eeb14203d43508ebf269cdd5aa2b762cb2603b3ef8fe3", func := "silkworm/silkwormlaw12.EngineCounts", spec := "engineCounts", inPlace := ["internal/bytealg.IndexByteString", "internal/bytealg.IndexString", "internal/abi.NoEscape", "internal/bytealg.MakeNoZero", "internal/bytealg.abigen_runtime_cmpstring"], unfollowed := true, recurses := true, named := ["unicode/utf8.first", "unicode/utf8.acceptRanges", "internal/bytealg.MaxLen"], plainKeys := false, apart := false, laid := [("unicode/utf8.acceptRanges", laid_unicode_utf8_acceptRanges), ("unicode/utf8.first", laid_unicode_utf8_first)] }
def EngineCountsSaid : Prop := engineCountsRow.holds Tryz.pinned (OpenSpec.ofChange engineCountsSpec)

/-- ITS FALSE NEIGHBOUR: 'it returns false'. Refute it at one input. -/
def engineCountsWrong : ChangeSpec := { name := "engineCounts", fn := fun _ => fun
  | [d1, d2] => { results := [.lit (.bool false)], args := [d1, d2] }
  | _ => none }
def EngineCountsWrongFalsely : Prop := engineCountsRow.holds Tryz.pinned (OpenSpec.ofChange engineCountsWrong)

/-- 'silkwormlaw12.EngineStill': WHATEVER THE INPUT: true; the input reads as it did. -/
def engineStillSpec : ChangeSpec := { name := "engineStill", fn := fun _ => fun
  | [d] => { results := [.lit (.bool true)], args := [d] }
  | _ => none }
def engineStillRow : OpenClaim := { program := "ytpjohgnhmjceiaagreatdoor", sum := "18fe793df57f5c0ffb4eeb14203d43508ebf269cdd5aa2b762cb2603b3ef8fe3", func := "silkworm/silkwormlaw12.EngineStill", spec := "engineStill", inPlace := ["internal/bytealg.IndexByteString", "internal/bytealg.IndexString", "internal/abi.NoEscape", "internal/bytealg.MakeNoZero", "internal/bytealg.abigen_runtime_cmpstring"], unfollowed := true, recurses := true, named := ["unicode/utf8.first", "unicode/utf8.acceptRanges", "internal/bytealg.MaxLen"], plainKeys := false, apart := false, laid := [("unicode/utf8.acceptRanges", laid_unicode_utf8_acceptRanges), ("unicode/utf8.first", laid_unicode_utf8_first)] }
def EngineStillSaid : Prop := engineStillRow.holds Tryz.pinned (OpenSpec.ofChange engineStillSpec)

/-- ITS FALSE NEIGHBOUR: 'it returns false'. Refute it at one input. -/
def engineStillWrong : ChangeSpec := { name := "engineStill", fn := fun _ => fun
  | [d] => { results := [.lit (.bool false)], args := [d] }
  | _ => none }
def EngineStillWrongFalsely : Prop := engineStillRow.holds Tryz.pinned (OpenSpec.ofChange engineStillWrong)

/-- 'silkwormlaw15.LpTakes': WHATEVER THE INPUT: true; the input reads as it did. -/
def lpTakesSpec : ChangeSpec := { name := "lpTakes", fn := fun _ => fun
  | [d1, d2] => { results := [.lit (.bool true)], args := [d1, d2] }
  | _ => none }
def lpTakesRow : OpenClaim := { program := "ytpjohgnhmjceiaagreatdoor", sum := "18fe793df57f5c0ffb4eeb14203d43508ebf269cdd5aa2b762cb2603b3ef8fe3", func := "silkworm/silkwormlaw15.LpTakes", spec := "lpTakes", inPlace := ["internal/bytealg.IndexByteString", "internal/bytealg.IndexString", "internal/abi.NoEscape", "internal/bytealg.MakeNoZero", "internal/bytealg.abigen_runtime_cmpstring"], unfollowed := true, recurses := true, named := ["unicode/utf8.first", "unicode/utf8.acceptRanges", "internal/bytealg.MaxLen"], plainKeys := false, apart := false, laid := [("unicode/utf8.acceptRanges", laid_unicode_utf8_acceptRanges), ("unicode/utf8.first", laid_unicode_utf8_first)] }
def LpTakesSaid : Prop := lpTakesRow.holds Tryz.pinned (OpenSpec.ofChange lpTakesSpec)

/-- ITS FALSE NEIGHBOUR: 'it returns false'. Refute it at one input. -/
def lpTakesWrong : ChangeSpec := { name := "lpTakes", fn := fun _ => fun
  | [d1, d2] => { results := [.lit (.bool false)], args := [d1, d2] }
  | _ => none }
def LpTakesWrongFalsely : Prop := lpTakesRow.holds Tryz.pinned (OpenSpec.ofChange lpTakesWrong)

/-- 'silkwormlaw16.ConservRefuses': WHATEVER THE INPUT: true; the input reads as it did. -/
def conservRefusesSpec : ChangeSpec := { name := "conservRefuses", fn := fun _ => fun
  | [d1, d2, d3] => { results := [.lit (.bool true)], args := [d1, d2, d3] }
  | _ => none }
def conservRefusesRow : OpenClaim := { program := "ytpjohgnhmjceiaagreatdoor", sum := "18fe793df57f5c0ffb4eeb14203d43508ebf269cdd5aa2b762cb2603b3ef8fe3", func := "silkworm/silkwormlaw16.ConservRefuses", spec := "conservRefuses", inPlace := ["internal/bytealg.IndexByteString", "internal/bytealg.IndexString", "internal/abi.NoEscape", "internal/bytealg.MakeNoZero", "internal/bytealg.abigen_runtime_cmpstring"], unfollowed := true, recurses := true, named := ["unicode/utf8.first", "unicode/utf8.acceptRanges", "internal/bytealg.MaxLen"], plainKeys := false, apart := false, laid := [("unicode/utf8.acceptRanges", laid_unicode_utf8_acceptRanges), ("unicode/utf8.first", laid_unicode_utf8_first)] }
def ConservRefusesSaid : Prop := conservRefusesRow.holds Tryz.pinned (OpenSpec.ofChange conservRefusesSpec)

/-- ITS FALSE NEIGHBOUR: 'it returns false'. Refute it at one input. -/
def conservRefusesWrong : ChangeSpec := { name := "conservRefuses", fn := fun _ => fun
  | [d1, d2, d3] => { results := [.lit (.bool false)], args := [d1, d2, d3] }
  | _ => none }
def ConservRefusesWrongFalsely : Prop := conservRefusesRow.holds Tryz.pinned (OpenSpec.ofChange conservRefusesWrong)

/-- 'silkwormlaw16.ConservRounds': WHATEVER THE INPUT: true; the input reads as it did. -/
def conservRoundsSpec : ChangeSpec := { name := "conservRounds", fn := fun _ => fun
  | [d1, d2, d3] => { results := [.lit (.bool true)], args := [d1, d2, d3] }
  | _ => none }
def conservRoundsRow : OpenClaim := { program := "ytpjohgnhmjceiaagreatdoor", sum := "18fe793df57f5c0ffb4eeb14203d43508ebf269cdd5aa2b762cb2603b3ef8fe3", func := "silkworm/silkwormlaw16.ConservRounds", spec := "conservRounds", inPlace := ["internal/bytealg.IndexByteString", "internal/bytealg.IndexString", "internal/abi.NoEscape", "internal/bytealg.MakeNoZero", "internal/bytealg.abigen_runtime_cmpstring"], unfollowed := true, recurses := true, named := ["unicode/utf8.first", "unicode/utf8.acceptRanges", "internal/bytealg.MaxLen"], plainKeys := false, apart := false, laid := [("unicode/utf8.acceptRanges", laid_unicode_utf8_acceptRanges), ("unicode/utf8.first", laid_unicode_utf8_first)] }
def ConservRoundsSaid : Prop := conservRoundsRow.holds Tryz.pinned (OpenSpec.ofChange conservRoundsSpec)

/-- ITS FALSE NEIGHBOUR: 'it returns false'. Refute it at one input. -/
def conservRoundsWrong : ChangeSpec := { name := "conservRounds", fn := fun _ => fun
  | [d1, d2, d3] => { results := [.lit (.bool false)], args := [d1, d2, d3] }
  | _ => none }
def ConservRoundsWrongFalsely : Prop := conservRoundsRow.holds Tryz.pinned (OpenSpec.ofChange conservRoundsWrong)

/-- 'silkwormlaw17.WarpWaits': WHATEVER THE INPUT: true; the input reads as it did. -/
def warpWaitsSpec : ChangeSpec := { name := "warpWaits", fn := fun _ => fun
  | [d1, d2] => { results := [.lit (.bool true)], args := [d1, d2] }
  | _ => none }
def warpWaitsRow : OpenClaim := { program := "ytpjohgnhmjceiaagreatdoor", sum := "18fe793df57f5c0ffb4eeb14203d43508ebf269cdd5aa2b762cb2603b3ef8fe3", func := "silkworm/silkwormlaw17.WarpWaits", spec := "warpWaits", inPlace := ["internal/bytealg.IndexByteString", "internal/bytealg.IndexString", "internal/abi.NoEscape", "internal/bytealg.MakeNoZero", "internal/bytealg.abigen_runtime_cmpstring"], unfollowed := true, recurses := true, named := ["unicode/utf8.first", "unicode/utf8.acceptRanges", "internal/bytealg.MaxLen"], plainKeys := false, apart := false, laid := [("unicode/utf8.acceptRanges", laid_unicode_utf8_acceptRanges), ("unicode/utf8.first", laid_unicode_utf8_first)] }
def WarpWaitsSaid : Prop := warpWaitsRow.holds Tryz.pinned (OpenSpec.ofChange warpWaitsSpec)

/-- ITS FALSE NEIGHBOUR: 'it returns false'. Refute it at one input. -/
def warpWaitsWrong : ChangeSpec := { name := "warpWaits", fn := fun _ => fun
  | [d1, d2] => { results := [.lit (.bool false)], args := [d1, d2] }
  | _ => none }
def WarpWaitsWrongFalsely : Prop := warpWaitsRow.holds Tryz.pinned (OpenSpec.ofChange warpWaitsWrong)

/-- 'silkwormlaw17.WarpRounds': WHATEVER THE INPUT: true; the input reads as it did. -/
def warpRoundsSpec : ChangeSpec := { name := "warpRounds", fn := fun _ => fun
  | [d1, d2, d3] => { results := [.lit (.bool true)], args := [d1, d2, d3] }
  | _ => none }
def warpRoundsRow : OpenClaim := { program := "ytpjohgnhmjceiaagreatdoor", sum := "18fe793df57f5c0ffb4eeb14203d43508ebf269cdd5aa2b762cb2603b3ef8fe3", func := "silkworm/silkwormlaw17.WarpRounds", spec := "warpRounds", inPlace := ["internal/bytealg.IndexByteString", "internal/bytealg.IndexString", "internal/abi.NoEscape", "internal/bytealg.MakeNoZero", "internal/bytealg.abigen_runtime_cmpstring"], unfollowed := true, recurses := true, named := ["unicode/utf8.first", "unicode/utf8.acceptRanges", "internal/bytealg.MaxLen"], plainKeys := false, apart := false, laid := [("unicode/utf8.acceptRanges", laid_unicode_utf8_acceptRanges), ("unicode/utf8.first", laid_unicode_utf8_first)] }
def WarpRoundsSaid : Prop := warpRoundsRow.holds Tryz.pinned (OpenSpec.ofChange warpRoundsSpec)

/-- ITS FALSE NEIGHBOUR: 'it returns false'. Refute it at one input. -/
def warpRoundsWrong : ChangeSpec := { name := "warpRounds", fn := fun _ => fun
  | [d1, d2, d3] => { results := [.lit (.bool false)], args := [d1, d2, d3] }
  | _ => none }
def WarpRoundsWrongFalsely : Prop := warpRoundsRow.holds Tryz.pinned (OpenSpec.ofChange warpRoundsWrong)

/- THE SECOND FORM. 'bulk': how many values and letters a reading holds, each counted each time it is reached (what is shared counts as often as it is met; a slice's spare places count too). A statement '..UptoSaid' is the law's where the arguments, and the package variables that the reading takes, are together of bulk at most 1048576: NARROWER than '..Said'. Prove '..Said' where nothing that the law and all that it calls make is longer than what came in: it says more and counts as full. Else prove '..UptoSaid'. A law counts once. -/
mutual
def uptoBulk {H : Type} : DataW H → Nat
  | .lit (.string bytes) => bytes.length + 1
  | .lit _ => 1
  | .nil => 1
  | .ptr d => uptoBulk d + 1
  | .slice elems spare => uptoBulkAll elems + uptoBulkAll spare + 1
  | .agg parts => uptoBulkAll parts + 1
  | .iface _ d => uptoBulk d + 1
  | .map entries => uptoBulkEntries entries + 1
  | .held _ => 1
def uptoBulkAll {H : Type} : List (DataW H) → Nat
  | [] => 0
  | d :: r => uptoBulk d + uptoBulkAll r
def uptoBulkEntries {H : Type} : List (Lit × DataW H) → Nat
  | [] => 0
  | x :: r => uptoBulkEntry x + uptoBulkEntries r
def uptoBulkEntry {H : Type} : Lit × DataW H → Nat
  | (.string bytes, d) => bytes.length + uptoBulk d + 1
  | (_, d) => uptoBulk d + 1
 end
def uptoSmall : (H : Type) → List (DataW H) → Bool := fun _ ds => decide (uptoBulkAll ds ≤ 1048576)
def OpenSpec.upto (s : _root_.Go.ChangeSpec) : _root_.Go.OpenSpec := { _root_.Go.OpenSpec.ofChange s with cond := some uptoSmall }

/-- 'silkwormlaw12.EngineChecks', WHERE WHAT IT READS IS OF BULK AT MOST 1048576: true; the input reads as it did. -/
def engineChecksUptoRow : OpenClaim := { program := "ytpjohgnhmjceiaagreatdoor", sum := "18fe793df57f5c0ffb4eeb14203d43508ebf269cdd5aa2b762cb2603b3ef8fe3", func := "silkworm/silkwormlaw12.EngineChecks", spec := "engineChecks", inPlace := ["internal/bytealg.IndexByteString", "internal/bytealg.IndexString", "internal/abi.NoEscape", "internal/bytealg.MakeNoZero", "internal/bytealg.abigen_runtime_cmpstring"], unfollowed := true, recurses := true, named := ["unicode/utf8.first", "unicode/utf8.acceptRanges", "internal/bytealg.MaxLen"], plainKeys := false, apart := false, laid := [("unicode/utf8.acceptRanges", laid_unicode_utf8_acceptRanges), ("unicode/utf8.first", laid_unicode_utf8_first)], narrowed := true }
def EngineChecksUptoSaid : Prop := engineChecksUptoRow.holds Tryz.pinned (OpenSpec.upto engineChecksSpec)

/-- 'silkwormlaw12.EngineLonger', WHERE WHAT IT READS IS OF BULK AT MOST 1048576: true; the input reads as it did. -/
def engineLongerUptoRow : OpenClaim := { program := "ytpjohgnhmjceiaagreatdoor", sum := "18fe793df57f5c0ffb4eeb14203d43508ebf269cdd5aa2b762cb2603b3ef8fe3", func := "silkworm/silkwormlaw12.EngineLonger", spec := "engineLonger", inPlace := ["internal/bytealg.IndexByteString", "internal/bytealg.IndexString", "internal/abi.NoEscape", "internal/bytealg.MakeNoZero", "internal/bytealg.abigen_runtime_cmpstring"], unfollowed := true, recurses := true, named := ["unicode/utf8.first", "unicode/utf8.acceptRanges", "internal/bytealg.MaxLen"], plainKeys := false, apart := false, laid := [("unicode/utf8.acceptRanges", laid_unicode_utf8_acceptRanges), ("unicode/utf8.first", laid_unicode_utf8_first)], narrowed := true }
def EngineLongerUptoSaid : Prop := engineLongerUptoRow.holds Tryz.pinned (OpenSpec.upto engineLongerSpec)

/-- 'silkwormlaw12.EngineLines', WHERE WHAT IT READS IS OF BULK AT MOST 1048576: true; the input reads as it did. -/
def engineLinesUptoRow : OpenClaim := { program := "ytpjohgnhmjceiaagreatdoor", sum := "18fe793df57f5c0ffb4eeb14203d43508ebf269cdd5aa2b762cb2603b3ef8fe3", func := "silkworm/silkwormlaw12.EngineLines", spec := "engineLines", inPlace := ["internal/bytealg.IndexByteString", "internal/bytealg.IndexString", "internal/abi.NoEscape", "internal/bytealg.MakeNoZero", "internal/bytealg.abigen_runtime_cmpstring"], unfollowed := true, recurses := true, named := ["unicode/utf8.first", "unicode/utf8.acceptRanges", "internal/bytealg.MaxLen"], plainKeys := false, apart := false, laid := [("unicode/utf8.acceptRanges", laid_unicode_utf8_acceptRanges), ("unicode/utf8.first", laid_unicode_utf8_first)], narrowed := true }
def EngineLinesUptoSaid : Prop := engineLinesUptoRow.holds Tryz.pinned (OpenSpec.upto engineLinesSpec)

/-- 'silkwormlaw12.EngineCounts', WHERE WHAT IT READS IS OF BULK AT MOST 1048576: true; the input reads as it did. -/
def engineCountsUptoRow : OpenClaim := { program := "ytpjohgnhmjceiaagreatdoor", sum := "18fe793df57f5c0ffb4eeb14203d43508ebf269cdd5aa2b762cb2603b3ef8fe3", func := "silkworm/silkwormlaw12.EngineCounts", spec := "engineCounts", inPlace := ["internal/bytealg.IndexByteString", "internal/bytealg.IndexString", "internal/abi.NoEscape", "internal/bytealg.MakeNoZero", "internal/bytealg.abigen_runtime_cmpstring"], unfollowed := true, recurses := true, named := ["unicode/utf8.first", "unicode/utf8.acceptRanges", "internal/bytealg.MaxLen"], plainKeys := false, apart := false, laid := [("unicode/utf8.acceptRanges", laid_unicode_utf8_acceptRanges), ("unicode/utf8.first", laid_unicode_utf8_first)], narrowed := true }
def EngineCountsUptoSaid : Prop := engineCountsUptoRow.holds Tryz.pinned (OpenSpec.upto engineCountsSpec)

/-- 'silkwormlaw12.EngineStill', WHERE WHAT IT READS IS OF BULK AT MOST 1048576: true; the input reads as it did. -/
def engineStillUptoRow : OpenClaim := { program := "ytpjohgnhmjceiaagreatdoor", sum := "18fe793df57f5c0ffb4eeb14203d43508ebf269cdd5aa2b762cb2603b3ef8fe3", func := "silkworm/silkwormlaw12.EngineStill", spec := "engineStill", inPlace := ["internal/bytealg.IndexByteString", "internal/bytealg.IndexString", "internal/abi.NoEscape", "internal/bytealg.MakeNoZero", "internal/bytealg.abigen_runtime_cmpstring"], unfollowed := true, recurses := true, named := ["unicode/utf8.first", "unicode/utf8.acceptRanges", "internal/bytealg.MaxLen"], plainKeys := false, apart := false, laid := [("unicode/utf8.acceptRanges", laid_unicode_utf8_acceptRanges), ("unicode/utf8.first", laid_unicode_utf8_first)], narrowed := true }
def EngineStillUptoSaid : Prop := engineStillUptoRow.holds Tryz.pinned (OpenSpec.upto engineStillSpec)

/-- 'silkwormlaw15.LpTakes', WHERE WHAT IT READS IS OF BULK AT MOST 1048576: true; the input reads as it did. -/
def lpTakesUptoRow : OpenClaim := { program := "ytpjohgnhmjceiaagreatdoor", sum := "18fe793df57f5c0ffb4eeb14203d43508ebf269cdd5aa2b762cb2603b3ef8fe3", func := "silkworm/silkwormlaw15.LpTakes", spec := "lpTakes", inPlace := ["internal/bytealg.IndexByteString", "internal/bytealg.IndexString", "internal/abi.NoEscape", "internal/bytealg.MakeNoZero", "internal/bytealg.abigen_runtime_cmpstring"], unfollowed := true, recurses := true, named := ["unicode/utf8.first", "unicode/utf8.acceptRanges", "internal/bytealg.MaxLen"], plainKeys := false, apart := false, laid := [("unicode/utf8.acceptRanges", laid_unicode_utf8_acceptRanges), ("unicode/utf8.first", laid_unicode_utf8_first)], narrowed := true }
def LpTakesUptoSaid : Prop := lpTakesUptoRow.holds Tryz.pinned (OpenSpec.upto lpTakesSpec)

/-- 'silkwormlaw16.ConservRefuses', WHERE WHAT IT READS IS OF BULK AT MOST 1048576: true; the input reads as it did. -/
def conservRefusesUptoRow : OpenClaim := { program := "ytpjohgnhmjceiaagreatdoor", sum := "18fe793df57f5c0ffb4eeb14203d43508ebf269cdd5aa2b762cb2603b3ef8fe3", func := "silkworm/silkwormlaw16.ConservRefuses", spec := "conservRefuses", inPlace := ["internal/bytealg.IndexByteString", "internal/bytealg.IndexString", "internal/abi.NoEscape", "internal/bytealg.MakeNoZero", "internal/bytealg.abigen_runtime_cmpstring"], unfollowed := true, recurses := true, named := ["unicode/utf8.first", "unicode/utf8.acceptRanges", "internal/bytealg.MaxLen"], plainKeys := false, apart := false, laid := [("unicode/utf8.acceptRanges", laid_unicode_utf8_acceptRanges), ("unicode/utf8.first", laid_unicode_utf8_first)], narrowed := true }
def ConservRefusesUptoSaid : Prop := conservRefusesUptoRow.holds Tryz.pinned (OpenSpec.upto conservRefusesSpec)

/-- 'silkwormlaw16.ConservRounds', WHERE WHAT IT READS IS OF BULK AT MOST 1048576: true; the input reads as it did. -/
def conservRoundsUptoRow : OpenClaim := { program := "ytpjohgnhmjceiaagreatdoor", sum := "18fe793df57f5c0ffb4eeb14203d43508ebf269cdd5aa2b762cb2603b3ef8fe3", func := "silkworm/silkwormlaw16.ConservRounds", spec := "conservRounds", inPlace := ["internal/bytealg.IndexByteString", "internal/bytealg.IndexString", "internal/abi.NoEscape", "internal/bytealg.MakeNoZero", "internal/bytealg.abigen_runtime_cmpstring"], unfollowed := true, recurses := true, named := ["unicode/utf8.first", "unicode/utf8.acceptRanges", "internal/bytealg.MaxLen"], plainKeys := false, apart := false, laid := [("unicode/utf8.acceptRanges", laid_unicode_utf8_acceptRanges), ("unicode/utf8.first", laid_unicode_utf8_first)], narrowed := true }
def ConservRoundsUptoSaid : Prop := conservRoundsUptoRow.holds Tryz.pinned (OpenSpec.upto conservRoundsSpec)

/-- 'silkwormlaw17.WarpWaits', WHERE WHAT IT READS IS OF BULK AT MOST 1048576: true; the input reads as it did. -/
def warpWaitsUptoRow : OpenClaim := { program := "ytpjohgnhmjceiaagreatdoor", sum := "18fe793df57f5c0ffb4eeb14203d43508ebf269cdd5aa2b762cb2603b3ef8fe3", func := "silkworm/silkwormlaw17.WarpWaits", spec := "warpWaits", inPlace := ["internal/bytealg.IndexByteString", "internal/bytealg.IndexString", "internal/abi.NoEscape", "internal/bytealg.MakeNoZero", "internal/bytealg.abigen_runtime_cmpstring"], unfollowed := true, recurses := true, named := ["unicode/utf8.first", "unicode/utf8.acceptRanges", "internal/bytealg.MaxLen"], plainKeys := false, apart := false, laid := [("unicode/utf8.acceptRanges", laid_unicode_utf8_acceptRanges), ("unicode/utf8.first", laid_unicode_utf8_first)], narrowed := true }
def WarpWaitsUptoSaid : Prop := warpWaitsUptoRow.holds Tryz.pinned (OpenSpec.upto warpWaitsSpec)

/-- 'silkwormlaw17.WarpRounds', WHERE WHAT IT READS IS OF BULK AT MOST 1048576: true; the input reads as it did. -/
def warpRoundsUptoRow : OpenClaim := { program := "ytpjohgnhmjceiaagreatdoor", sum := "18fe793df57f5c0ffb4eeb14203d43508ebf269cdd5aa2b762cb2603b3ef8fe3", func := "silkworm/silkwormlaw17.WarpRounds", spec := "warpRounds", inPlace := ["internal/bytealg.IndexByteString", "internal/bytealg.IndexString", "internal/abi.NoEscape", "internal/bytealg.MakeNoZero", "internal/bytealg.abigen_runtime_cmpstring"], unfollowed := true, recurses := true, named := ["unicode/utf8.first", "unicode/utf8.acceptRanges", "internal/bytealg.MaxLen"], plainKeys := false, apart := false, laid := [("unicode/utf8.acceptRanges", laid_unicode_utf8_acceptRanges), ("unicode/utf8.first", laid_unicode_utf8_first)], narrowed := true }
def WarpRoundsUptoSaid : Prop := warpRoundsUptoRow.holds Tryz.pinned (OpenSpec.upto warpRoundsSpec)

end Rows
end Go.Proofs.YtpjohgnhmjceiaaGreatDoor
