/-
  DERIVED. GIVEN WITH THE SEED: THE CARDS: each row of YtpjohgnhmjceiaaGreatDoorRows.lean that lists a variable, with what it lists TIED to the program's text (the seventh form; the later family's looks); each row that meets fmt, with fmt's text TOLD by the authors' own Lean function (tested against real Go, not proved from fmt's source: count such statements apart). THE CARD IS WHAT COUNTS. Prove the row's statement (the work); the ties are given (YtpjohgnhmjceiaaGreatDoorTie.lean); close each card by the builder's one call (the guide's Derived/Test/ToyasCard.lean, 'card_holds'). Laid BY PROGRAM, IN A SANDBOX (cutbox-door.mjs). By AI agents, Wed Nov 11 2026. No macro, syntax, notation, axiom, sorry.
-/
import Derived.Test.YtpjohgnhmjceiaaGreatDoorRows
import GoSem.ClaimSeven
namespace Go.Proofs.YtpjohgnhmjceiaaGreatDoor
namespace Rows

/-- THE TIED CARD OF 'silkwormlaw12.EngineChecks'. -/
def engineChecksCard : Claim7 := { stood := { row := engineChecksRow, standIns := [], harness := (true, "00b0f082f84db19c46bb996ee2cdde60d72420e371fc5aef477bda24bc063efa"), looks := true }, kinds := [], alts := [], laidByText := true, laidKinds := [.data, .pinned], laidTests := true, laidLooks := .later }
def EngineChecksCardSaid : Prop := Claim7.holds Tryz.pinned (.plain (OpenSpec.ofChange engineChecksSpec)) engineChecksCard

/-- THE TIED CARD OF 'silkwormlaw12.EngineLonger'. -/
def engineLongerCard : Claim7 := { stood := { row := engineLongerRow, standIns := [], harness := (true, "00b0f082f84db19c46bb996ee2cdde60d72420e371fc5aef477bda24bc063efa"), looks := true }, kinds := [], alts := [], laidByText := true, laidKinds := [.data, .pinned], laidTests := true, laidLooks := .later }
def EngineLongerCardSaid : Prop := Claim7.holds Tryz.pinned (.plain (OpenSpec.ofChange engineLongerSpec)) engineLongerCard

/-- THE TIED CARD OF 'silkwormlaw12.EngineLines'. -/
def engineLinesCard : Claim7 := { stood := { row := engineLinesRow, standIns := [], harness := (true, "00b0f082f84db19c46bb996ee2cdde60d72420e371fc5aef477bda24bc063efa"), looks := true }, kinds := [], alts := [], laidByText := true, laidKinds := [.data, .pinned], laidTests := true, laidLooks := .later }
def EngineLinesCardSaid : Prop := Claim7.holds Tryz.pinned (.plain (OpenSpec.ofChange engineLinesSpec)) engineLinesCard

/-- THE TIED CARD OF 'silkwormlaw12.EngineCounts'. -/
def engineCountsCard : Claim7 := { stood := { row := engineCountsRow, standIns := [], harness := (true, "00b0f082f84db19c46bb996ee2cdde60d72420e371fc5aef477bda24bc063efa"), looks := true }, kinds := [], alts := [], laidByText := true, laidKinds := [.data, .pinned], laidTests := true, laidLooks := .later }
def EngineCountsCardSaid : Prop := Claim7.holds Tryz.pinned (.plain (OpenSpec.ofChange engineCountsSpec)) engineCountsCard

/-- THE TIED CARD OF 'silkwormlaw12.EngineStill'. -/
def engineStillCard : Claim7 := { stood := { row := engineStillRow, standIns := [], harness := (true, "00b0f082f84db19c46bb996ee2cdde60d72420e371fc5aef477bda24bc063efa"), looks := true }, kinds := [], alts := [], laidByText := true, laidKinds := [.data, .pinned], laidTests := true, laidLooks := .later }
def EngineStillCardSaid : Prop := Claim7.holds Tryz.pinned (.plain (OpenSpec.ofChange engineStillSpec)) engineStillCard

/-- THE TIED CARD OF 'silkwormlaw15.LpTakes'. -/
def lpTakesCard : Claim7 := { stood := { row := lpTakesRow, standIns := [], harness := (true, "00b0f082f84db19c46bb996ee2cdde60d72420e371fc5aef477bda24bc063efa"), looks := true }, kinds := [], alts := [], laidByText := true, laidKinds := [.data, .pinned], laidTests := true, laidLooks := .later }
def LpTakesCardSaid : Prop := Claim7.holds Tryz.pinned (.plain (OpenSpec.ofChange lpTakesSpec)) lpTakesCard

/-- THE TIED CARD OF 'silkwormlaw16.ConservRefuses'. -/
def conservRefusesCard : Claim7 := { stood := { row := conservRefusesRow, standIns := [], harness := (true, "00b0f082f84db19c46bb996ee2cdde60d72420e371fc5aef477bda24bc063efa"), looks := true }, kinds := [], alts := [], laidByText := true, laidKinds := [.data, .pinned], laidTests := true, laidLooks := .later }
def ConservRefusesCardSaid : Prop := Claim7.holds Tryz.pinned (.plain (OpenSpec.ofChange conservRefusesSpec)) conservRefusesCard

/-- THE TIED CARD OF 'silkwormlaw16.ConservRounds'. -/
def conservRoundsCard : Claim7 := { stood := { row := conservRoundsRow, standIns := [], harness := (true, "00b0f082f84db19c46bb996ee2cdde60d72420e371fc5aef477bda24bc063efa"), looks := true }, kinds := [], alts := [], laidByText := true, laidKinds := [.data, .pinned], laidTests := true, laidLooks := .later }
def ConservRoundsCardSaid : Prop := Claim7.holds Tryz.pinned (.plain (OpenSpec.ofChange conservRoundsSpec)) conservRoundsCard

/-- THE TIED CARD OF 'silkwormlaw17.WarpWaits'. -/
def warpWaitsCard : Claim7 := { stood := { row := warpWaitsRow, standIns := [], harness := (true, "00b0f082f84db19c46bb996ee2cdde60d72420e371fc5aef477bda24bc063efa"), looks := true }, kinds := [], alts := [], laidByText := true, laidKinds := [.data, .pinned], laidTests := true, laidLooks := .later }
def WarpWaitsCardSaid : Prop := Claim7.holds Tryz.pinned (.plain (OpenSpec.ofChange warpWaitsSpec)) warpWaitsCard

/-- THE TIED CARD OF 'silkwormlaw17.WarpRounds'. -/
def warpRoundsCard : Claim7 := { stood := { row := warpRoundsRow, standIns := [], harness := (true, "00b0f082f84db19c46bb996ee2cdde60d72420e371fc5aef477bda24bc063efa"), looks := true }, kinds := [], alts := [], laidByText := true, laidKinds := [.data, .pinned], laidTests := true, laidLooks := .later }
def WarpRoundsCardSaid : Prop := Claim7.holds Tryz.pinned (.plain (OpenSpec.ofChange warpRoundsSpec)) warpRoundsCard

/-- THE SECOND FORM's CARD OF 'silkwormlaw12.EngineChecks'. -/
def engineChecksUptoCard : Claim7 := { stood := { row := engineChecksUptoRow, standIns := [], harness := (true, "00b0f082f84db19c46bb996ee2cdde60d72420e371fc5aef477bda24bc063efa"), looks := true }, kinds := [], alts := [], laidByText := true, laidKinds := [.data, .pinned], laidTests := true, laidLooks := .later }
def EngineChecksUptoCardSaid : Prop := Claim7.holds Tryz.pinned (.plain (OpenSpec.upto engineChecksSpec)) engineChecksUptoCard

/-- THE SECOND FORM's CARD OF 'silkwormlaw12.EngineLonger'. -/
def engineLongerUptoCard : Claim7 := { stood := { row := engineLongerUptoRow, standIns := [], harness := (true, "00b0f082f84db19c46bb996ee2cdde60d72420e371fc5aef477bda24bc063efa"), looks := true }, kinds := [], alts := [], laidByText := true, laidKinds := [.data, .pinned], laidTests := true, laidLooks := .later }
def EngineLongerUptoCardSaid : Prop := Claim7.holds Tryz.pinned (.plain (OpenSpec.upto engineLongerSpec)) engineLongerUptoCard

/-- THE SECOND FORM's CARD OF 'silkwormlaw12.EngineLines'. -/
def engineLinesUptoCard : Claim7 := { stood := { row := engineLinesUptoRow, standIns := [], harness := (true, "00b0f082f84db19c46bb996ee2cdde60d72420e371fc5aef477bda24bc063efa"), looks := true }, kinds := [], alts := [], laidByText := true, laidKinds := [.data, .pinned], laidTests := true, laidLooks := .later }
def EngineLinesUptoCardSaid : Prop := Claim7.holds Tryz.pinned (.plain (OpenSpec.upto engineLinesSpec)) engineLinesUptoCard

/-- THE SECOND FORM's CARD OF 'silkwormlaw12.EngineCounts'. -/
def engineCountsUptoCard : Claim7 := { stood := { row := engineCountsUptoRow, standIns := [], harness := (true, "00b0f082f84db19c46bb996ee2cdde60d72420e371fc5aef477bda24bc063efa"), looks := true }, kinds := [], alts := [], laidByText := true, laidKinds := [.data, .pinned], laidTests := true, laidLooks := .later }
def EngineCountsUptoCardSaid : Prop := Claim7.holds Tryz.pinned (.plain (OpenSpec.upto engineCountsSpec)) engineCountsUptoCard

/-- THE SECOND FORM's CARD OF 'silkwormlaw12.EngineStill'. -/
def engineStillUptoCard : Claim7 := { stood := { row := engineStillUptoRow, standIns := [], harness := (true, "00b0f082f84db19c46bb996ee2cdde60d72420e371fc5aef477bda24bc063efa"), looks := true }, kinds := [], alts := [], laidByText := true, laidKinds := [.data, .pinned], laidTests := true, laidLooks := .later }
def EngineStillUptoCardSaid : Prop := Claim7.holds Tryz.pinned (.plain (OpenSpec.upto engineStillSpec)) engineStillUptoCard

/-- THE SECOND FORM's CARD OF 'silkwormlaw15.LpTakes'. -/
def lpTakesUptoCard : Claim7 := { stood := { row := lpTakesUptoRow, standIns := [], harness := (true, "00b0f082f84db19c46bb996ee2cdde60d72420e371fc5aef477bda24bc063efa"), looks := true }, kinds := [], alts := [], laidByText := true, laidKinds := [.data, .pinned], laidTests := true, laidLooks := .later }
def LpTakesUptoCardSaid : Prop := Claim7.holds Tryz.pinned (.plain (OpenSpec.upto lpTakesSpec)) lpTakesUptoCard

/-- THE SECOND FORM's CARD OF 'silkwormlaw16.ConservRefuses'. -/
def conservRefusesUptoCard : Claim7 := { stood := { row := conservRefusesUptoRow, standIns := [], harness := (true, "00b0f082f84db19c46bb996ee2cdde60d72420e371fc5aef477bda24bc063efa"), looks := true }, kinds := [], alts := [], laidByText := true, laidKinds := [.data, .pinned], laidTests := true, laidLooks := .later }
def ConservRefusesUptoCardSaid : Prop := Claim7.holds Tryz.pinned (.plain (OpenSpec.upto conservRefusesSpec)) conservRefusesUptoCard

/-- THE SECOND FORM's CARD OF 'silkwormlaw16.ConservRounds'. -/
def conservRoundsUptoCard : Claim7 := { stood := { row := conservRoundsUptoRow, standIns := [], harness := (true, "00b0f082f84db19c46bb996ee2cdde60d72420e371fc5aef477bda24bc063efa"), looks := true }, kinds := [], alts := [], laidByText := true, laidKinds := [.data, .pinned], laidTests := true, laidLooks := .later }
def ConservRoundsUptoCardSaid : Prop := Claim7.holds Tryz.pinned (.plain (OpenSpec.upto conservRoundsSpec)) conservRoundsUptoCard

/-- THE SECOND FORM's CARD OF 'silkwormlaw17.WarpWaits'. -/
def warpWaitsUptoCard : Claim7 := { stood := { row := warpWaitsUptoRow, standIns := [], harness := (true, "00b0f082f84db19c46bb996ee2cdde60d72420e371fc5aef477bda24bc063efa"), looks := true }, kinds := [], alts := [], laidByText := true, laidKinds := [.data, .pinned], laidTests := true, laidLooks := .later }
def WarpWaitsUptoCardSaid : Prop := Claim7.holds Tryz.pinned (.plain (OpenSpec.upto warpWaitsSpec)) warpWaitsUptoCard

/-- THE SECOND FORM's CARD OF 'silkwormlaw17.WarpRounds'. -/
def warpRoundsUptoCard : Claim7 := { stood := { row := warpRoundsUptoRow, standIns := [], harness := (true, "00b0f082f84db19c46bb996ee2cdde60d72420e371fc5aef477bda24bc063efa"), looks := true }, kinds := [], alts := [], laidByText := true, laidKinds := [.data, .pinned], laidTests := true, laidLooks := .later }
def WarpRoundsUptoCardSaid : Prop := Claim7.holds Tryz.pinned (.plain (OpenSpec.upto warpRoundsSpec)) warpRoundsUptoCard
end Rows
end Go.Proofs.YtpjohgnhmjceiaaGreatDoor
