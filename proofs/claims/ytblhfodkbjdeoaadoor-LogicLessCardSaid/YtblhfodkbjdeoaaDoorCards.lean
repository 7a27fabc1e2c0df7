/-
  DERIVED. GIVEN WITH THE SEED: THE CARDS: each row of YtblhfodkbjdeoaaDoorRows.lean that lists a variable, with what it lists TIED to the program's text (the seventh form; the later family's looks); each row that meets fmt, with fmt's text TOLD by the authors' own Lean function (tested against real Go, not proved from fmt's source: count such statements apart). THE CARD IS WHAT COUNTS. Prove the row's statement (the work); the ties are given (YtblhfodkbjdeoaaDoorTie.lean); close each card by the builder's one call (the guide's Derived/Test/ToyasCard.lean, 'card_holds'). Laid BY PROGRAM, IN A SANDBOX (cutbox-door.mjs). By AI agents, Wed Nov 11 2026. No macro, syntax, notation, axiom, sorry.
-/
import Derived.Test.YtblhfodkbjdeoaaDoorRows
import GoSem.ClaimSeven
namespace Go.Proofs.YtblhfodkbjdeoaaDoor
namespace Rows

/-- THE TIED CARD OF 'silkwormlaw01.LogicBinary'. -/
def logicBinaryCard : Claim7 := { stood := { row := logicBinaryRow, standIns := [], harness := (true, "cfa715149d9069c87465b527d47e9d8fe4145bb143326bc602f17074762e88ee"), looks := false }, kinds := [], alts := [], laidByText := true, laidKinds := [.data, .pinned], laidTests := true, laidLooks := .later }
def LogicBinaryCardSaid : Prop := Claim7.holds Tryd.pinned (.plain (OpenSpec.ofChange logicBinarySpec)) logicBinaryCard

/-- THE TIED CARD OF 'silkwormlaw01.LogicCond'. -/
def logicCondCard : Claim7 := { stood := { row := logicCondRow, standIns := [], harness := (true, "cfa715149d9069c87465b527d47e9d8fe4145bb143326bc602f17074762e88ee"), looks := false }, kinds := [], alts := [], laidByText := true, laidKinds := [.data, .pinned], laidTests := true, laidLooks := .later }
def LogicCondCardSaid : Prop := Claim7.holds Tryd.pinned (.plain (OpenSpec.ofChange logicCondSpec)) logicCondCard

/-- THE TIED CARD OF 'silkwormlaw01.LogicRows'. -/
def logicRowsCard : Claim7 := { stood := { row := logicRowsRow, standIns := [], harness := (true, "cfa715149d9069c87465b527d47e9d8fe4145bb143326bc602f17074762e88ee"), looks := false }, kinds := [], alts := [], laidByText := true, laidKinds := [.data, .pinned], laidTests := true, laidLooks := .later }
def LogicRowsCardSaid : Prop := Claim7.holds Tryd.pinned (.plain (OpenSpec.ofChange logicRowsSpec)) logicRowsCard

/-- THE TIED CARD OF 'silkwormlaw01.LogicShifts'. -/
def logicShiftsCard : Claim7 := { stood := { row := logicShiftsRow, standIns := [], harness := (true, "cfa715149d9069c87465b527d47e9d8fe4145bb143326bc602f17074762e88ee"), looks := false }, kinds := [], alts := [], laidByText := true, laidKinds := [.data, .pinned], laidTests := true, laidLooks := .later }
def LogicShiftsCardSaid : Prop := Claim7.holds Tryd.pinned (.plain (OpenSpec.ofChange logicShiftsSpec)) logicShiftsCard

/-- THE TIED CARD OF 'silkwormlaw01.LogicRises'. -/
def logicRisesCard : Claim7 := { stood := { row := logicRisesRow, standIns := [], harness := (true, "cfa715149d9069c87465b527d47e9d8fe4145bb143326bc602f17074762e88ee"), looks := false }, kinds := [], alts := [], laidByText := true, laidKinds := [.data, .pinned], laidTests := true, laidLooks := .later }
def LogicRisesCardSaid : Prop := Claim7.holds Tryd.pinned (.plain (OpenSpec.ofChange logicRisesSpec)) logicRisesCard

/-- THE TIED CARD OF 'silkwormlaw01.LogicNumbers'. -/
def logicNumbersCard : Claim7 := { stood := { row := logicNumbersRow, standIns := [], harness := (true, "cfa715149d9069c87465b527d47e9d8fe4145bb143326bc602f17074762e88ee"), looks := false }, kinds := [], alts := [], laidByText := true, laidKinds := [.data, .pinned], laidTests := true, laidLooks := .later }
def LogicNumbersCardSaid : Prop := Claim7.holds Tryd.pinned (.plain (OpenSpec.ofChange logicNumbersSpec)) logicNumbersCard

/-- THE TIED CARD OF 'silkwormlaw01.LogicUnary'. -/
def logicUnaryCard : Claim7 := { stood := { row := logicUnaryRow, standIns := [], harness := (true, "cfa715149d9069c87465b527d47e9d8fe4145bb143326bc602f17074762e88ee"), looks := false }, kinds := [], alts := [], laidByText := true, laidKinds := [.data, .pinned], laidTests := true, laidLooks := .later }
def LogicUnaryCardSaid : Prop := Claim7.holds Tryd.pinned (.plain (OpenSpec.ofChange logicUnarySpec)) logicUnaryCard

/-- THE TIED CARD OF 'silkwormlaw01.LogicTurns'. -/
def logicTurnsCard : Claim7 := { stood := { row := logicTurnsRow, standIns := [], harness := (true, "cfa715149d9069c87465b527d47e9d8fe4145bb143326bc602f17074762e88ee"), looks := false }, kinds := [], alts := [], laidByText := true, laidKinds := [.data, .pinned], laidTests := true, laidLooks := .later }
def LogicTurnsCardSaid : Prop := Claim7.holds Tryd.pinned (.plain (OpenSpec.ofChange logicTurnsSpec)) logicTurnsCard

/-- THE TIED CARD OF 'silkwormlaw01.LogicFolds'. -/
def logicFoldsCard : Claim7 := { stood := { row := logicFoldsRow, standIns := [], harness := (true, "cfa715149d9069c87465b527d47e9d8fe4145bb143326bc602f17074762e88ee"), looks := false }, kinds := [], alts := [], laidByText := true, laidKinds := [.data, .pinned], laidTests := true, laidLooks := .later }
def LogicFoldsCardSaid : Prop := Claim7.holds Tryd.pinned (.plain (OpenSpec.ofChange logicFoldsSpec)) logicFoldsCard

/-- THE TIED CARD OF 'silkwormlaw01.LogicSplits'. -/
def logicSplitsCard : Claim7 := { stood := { row := logicSplitsRow, standIns := [], harness := (true, "cfa715149d9069c87465b527d47e9d8fe4145bb143326bc602f17074762e88ee"), looks := false }, kinds := [], alts := [], laidByText := true, laidKinds := [.data, .pinned], laidTests := true, laidLooks := .later }
def LogicSplitsCardSaid : Prop := Claim7.holds Tryd.pinned (.plain (OpenSpec.ofChange logicSplitsSpec)) logicSplitsCard

/-- THE TIED CARD OF 'silkwormlaw01.LogicLess'. -/
def logicLessCard : Claim7 := { stood := { row := logicLessRow, standIns := [], harness := (true, "cfa715149d9069c87465b527d47e9d8fe4145bb143326bc602f17074762e88ee"), looks := false }, kinds := [], alts := [], laidByText := true, laidKinds := [.data, .pinned], laidTests := true, laidLooks := .later }
def LogicLessCardSaid : Prop := Claim7.holds Tryd.pinned (.plain (OpenSpec.ofChange logicLessSpec)) logicLessCard

/-- THE TIED CARD OF 'silkwormlaw01.LogicParts'. -/
def logicPartsCard : Claim7 := { stood := { row := logicPartsRow, standIns := [], harness := (true, "cfa715149d9069c87465b527d47e9d8fe4145bb143326bc602f17074762e88ee"), looks := false }, kinds := [], alts := [], laidByText := true, laidKinds := [.data, .pinned], laidTests := true, laidLooks := .later }
def LogicPartsCardSaid : Prop := Claim7.holds Tryd.pinned (.plain (OpenSpec.ofChange logicPartsSpec)) logicPartsCard

/-- THE TIED CARD OF 'silkwormlaw01.LogicSums'. -/
def logicSumsCard : Claim7 := { stood := { row := logicSumsRow, standIns := [], harness := (true, "cfa715149d9069c87465b527d47e9d8fe4145bb143326bc602f17074762e88ee"), looks := false }, kinds := [], alts := [], laidByText := true, laidKinds := [.data, .pinned], laidTests := true, laidLooks := .later }
def LogicSumsCardSaid : Prop := Claim7.holds Tryd.pinned (.plain (OpenSpec.ofChange logicSumsSpec)) logicSumsCard

/-- THE SECOND FORM's CARD OF 'silkwormlaw01.LogicBinary'. -/
def logicBinaryUptoCard : Claim7 := { stood := { row := logicBinaryUptoRow, standIns := [], harness := (true, "cfa715149d9069c87465b527d47e9d8fe4145bb143326bc602f17074762e88ee"), looks := false }, kinds := [], alts := [], laidByText := true, laidKinds := [.data, .pinned], laidTests := true, laidLooks := .later }
def LogicBinaryUptoCardSaid : Prop := Claim7.holds Tryd.pinned (.plain (OpenSpec.upto logicBinarySpec)) logicBinaryUptoCard

/-- THE SECOND FORM's CARD OF 'silkwormlaw01.LogicCond'. -/
def logicCondUptoCard : Claim7 := { stood := { row := logicCondUptoRow, standIns := [], harness := (true, "cfa715149d9069c87465b527d47e9d8fe4145bb143326bc602f17074762e88ee"), looks := false }, kinds := [], alts := [], laidByText := true, laidKinds := [.data, .pinned], laidTests := true, laidLooks := .later }
def LogicCondUptoCardSaid : Prop := Claim7.holds Tryd.pinned (.plain (OpenSpec.upto logicCondSpec)) logicCondUptoCard

/-- THE SECOND FORM's CARD OF 'silkwormlaw01.LogicRows'. -/
def logicRowsUptoCard : Claim7 := { stood := { row := logicRowsUptoRow, standIns := [], harness := (true, "cfa715149d9069c87465b527d47e9d8fe4145bb143326bc602f17074762e88ee"), looks := false }, kinds := [], alts := [], laidByText := true, laidKinds := [.data, .pinned], laidTests := true, laidLooks := .later }
def LogicRowsUptoCardSaid : Prop := Claim7.holds Tryd.pinned (.plain (OpenSpec.upto logicRowsSpec)) logicRowsUptoCard

/-- THE SECOND FORM's CARD OF 'silkwormlaw01.LogicShifts'. -/
def logicShiftsUptoCard : Claim7 := { stood := { row := logicShiftsUptoRow, standIns := [], harness := (true, "cfa715149d9069c87465b527d47e9d8fe4145bb143326bc602f17074762e88ee"), looks := false }, kinds := [], alts := [], laidByText := true, laidKinds := [.data, .pinned], laidTests := true, laidLooks := .later }
def LogicShiftsUptoCardSaid : Prop := Claim7.holds Tryd.pinned (.plain (OpenSpec.upto logicShiftsSpec)) logicShiftsUptoCard

/-- THE SECOND FORM's CARD OF 'silkwormlaw01.LogicRises'. -/
def logicRisesUptoCard : Claim7 := { stood := { row := logicRisesUptoRow, standIns := [], harness := (true, "cfa715149d9069c87465b527d47e9d8fe4145bb143326bc602f17074762e88ee"), looks := false }, kinds := [], alts := [], laidByText := true, laidKinds := [.data, .pinned], laidTests := true, laidLooks := .later }
def LogicRisesUptoCardSaid : Prop := Claim7.holds Tryd.pinned (.plain (OpenSpec.upto logicRisesSpec)) logicRisesUptoCard

/-- THE SECOND FORM's CARD OF 'silkwormlaw01.LogicNumbers'. -/
def logicNumbersUptoCard : Claim7 := { stood := { row := logicNumbersUptoRow, standIns := [], harness := (true, "cfa715149d9069c87465b527d47e9d8fe4145bb143326bc602f17074762e88ee"), looks := false }, kinds := [], alts := [], laidByText := true, laidKinds := [.data, .pinned], laidTests := true, laidLooks := .later }
def LogicNumbersUptoCardSaid : Prop := Claim7.holds Tryd.pinned (.plain (OpenSpec.upto logicNumbersSpec)) logicNumbersUptoCard

/-- THE SECOND FORM's CARD OF 'silkwormlaw01.LogicUnary'. -/
def logicUnaryUptoCard : Claim7 := { stood := { row := logicUnaryUptoRow, standIns := [], harness := (true, "cfa715149d9069c87465b527d47e9d8fe4145bb143326bc602f17074762e88ee"), looks := false }, kinds := [], alts := [], laidByText := true, laidKinds := [.data, .pinned], laidTests := true, laidLooks := .later }
def LogicUnaryUptoCardSaid : Prop := Claim7.holds Tryd.pinned (.plain (OpenSpec.upto logicUnarySpec)) logicUnaryUptoCard

/-- THE SECOND FORM's CARD OF 'silkwormlaw01.LogicTurns'. -/
def logicTurnsUptoCard : Claim7 := { stood := { row := logicTurnsUptoRow, standIns := [], harness := (true, "cfa715149d9069c87465b527d47e9d8fe4145bb143326bc602f17074762e88ee"), looks := false }, kinds := [], alts := [], laidByText := true, laidKinds := [.data, .pinned], laidTests := true, laidLooks := .later }
def LogicTurnsUptoCardSaid : Prop := Claim7.holds Tryd.pinned (.plain (OpenSpec.upto logicTurnsSpec)) logicTurnsUptoCard

/-- THE SECOND FORM's CARD OF 'silkwormlaw01.LogicFolds'. -/
def logicFoldsUptoCard : Claim7 := { stood := { row := logicFoldsUptoRow, standIns := [], harness := (true, "cfa715149d9069c87465b527d47e9d8fe4145bb143326bc602f17074762e88ee"), looks := false }, kinds := [], alts := [], laidByText := true, laidKinds := [.data, .pinned], laidTests := true, laidLooks := .later }
def LogicFoldsUptoCardSaid : Prop := Claim7.holds Tryd.pinned (.plain (OpenSpec.upto logicFoldsSpec)) logicFoldsUptoCard

/-- THE SECOND FORM's CARD OF 'silkwormlaw01.LogicSplits'. -/
def logicSplitsUptoCard : Claim7 := { stood := { row := logicSplitsUptoRow, standIns := [], harness := (true, "cfa715149d9069c87465b527d47e9d8fe4145bb143326bc602f17074762e88ee"), looks := false }, kinds := [], alts := [], laidByText := true, laidKinds := [.data, .pinned], laidTests := true, laidLooks := .later }
def LogicSplitsUptoCardSaid : Prop := Claim7.holds Tryd.pinned (.plain (OpenSpec.upto logicSplitsSpec)) logicSplitsUptoCard

/-- THE SECOND FORM's CARD OF 'silkwormlaw01.LogicLess'. -/
def logicLessUptoCard : Claim7 := { stood := { row := logicLessUptoRow, standIns := [], harness := (true, "cfa715149d9069c87465b527d47e9d8fe4145bb143326bc602f17074762e88ee"), looks := false }, kinds := [], alts := [], laidByText := true, laidKinds := [.data, .pinned], laidTests := true, laidLooks := .later }
def LogicLessUptoCardSaid : Prop := Claim7.holds Tryd.pinned (.plain (OpenSpec.upto logicLessSpec)) logicLessUptoCard

/-- THE SECOND FORM's CARD OF 'silkwormlaw01.LogicParts'. -/
def logicPartsUptoCard : Claim7 := { stood := { row := logicPartsUptoRow, standIns := [], harness := (true, "cfa715149d9069c87465b527d47e9d8fe4145bb143326bc602f17074762e88ee"), looks := false }, kinds := [], alts := [], laidByText := true, laidKinds := [.data, .pinned], laidTests := true, laidLooks := .later }
def LogicPartsUptoCardSaid : Prop := Claim7.holds Tryd.pinned (.plain (OpenSpec.upto logicPartsSpec)) logicPartsUptoCard

/-- THE SECOND FORM's CARD OF 'silkwormlaw01.LogicSums'. -/
def logicSumsUptoCard : Claim7 := { stood := { row := logicSumsUptoRow, standIns := [], harness := (true, "cfa715149d9069c87465b527d47e9d8fe4145bb143326bc602f17074762e88ee"), looks := false }, kinds := [], alts := [], laidByText := true, laidKinds := [.data, .pinned], laidTests := true, laidLooks := .later }
def LogicSumsUptoCardSaid : Prop := Claim7.holds Tryd.pinned (.plain (OpenSpec.upto logicSumsSpec)) logicSumsUptoCard
end Rows
end Go.Proofs.YtblhfodkbjdeoaaDoor
