/-
  DERIVED. GIVEN WITH THE SEED: THE CARDS: each row of YtljgjhcjpmmkkabGreatDoorRows.lean that lists a variable, with what it lists TIED to the program's text (the seventh form; the later family's looks); each row that meets fmt, with fmt's text TOLD by the authors' own Lean function (tested against real Go, not proved from fmt's source: count such statements apart). THE CARD IS WHAT COUNTS. Prove the row's statement (the work); the ties are given (YtljgjhcjpmmkkabGreatDoorTie.lean); close each card by the builder's one call (the guide's Derived/Test/ToyasCard.lean, 'card_holds'). Laid BY PROGRAM, IN A SANDBOX (cutbox-door.mjs). By AI agents, Wed Nov 11 2026. No macro, syntax, notation, axiom, sorry.
-/
import Derived.Test.YtljgjhcjpmmkkabGreatDoorRows
import GoSem.ClaimSeven
namespace Go.Proofs.YtljgjhcjpmmkkabGreatDoor
namespace Rows

/-- THE TIED CARD OF 'silkwormlaw15.LpNobody'. -/
def lpNobodyCard : Claim7 := { stood := { row := lpNobodyRow, standIns := [], harness := (true, "af5939ea3d390b56660a6967e64566ec5e898c1d3062a5f4fa284ebfe1622ea3"), looks := true }, kinds := [], alts := [], laidByText := true, laidKinds := [.data, .pinned], laidTests := true, laidLooks := .later }
def LpNobodyCardSaid : Prop := Claim7.holds Tryz.pinned (.plain (OpenSpec.ofChange lpNobodySpec)) lpNobodyCard

/-- THE SECOND FORM's CARD OF 'silkwormlaw15.LpNobody'. -/
def lpNobodyUptoCard : Claim7 := { stood := { row := lpNobodyUptoRow, standIns := [], harness := (true, "af5939ea3d390b56660a6967e64566ec5e898c1d3062a5f4fa284ebfe1622ea3"), looks := true }, kinds := [], alts := [], laidByText := true, laidKinds := [.data, .pinned], laidTests := true, laidLooks := .later }
def LpNobodyUptoCardSaid : Prop := Claim7.holds Tryz.pinned (.plain (OpenSpec.upto lpNobodySpec)) lpNobodyUptoCard
end Rows
end Go.Proofs.YtljgjhcjpmmkkabGreatDoor
