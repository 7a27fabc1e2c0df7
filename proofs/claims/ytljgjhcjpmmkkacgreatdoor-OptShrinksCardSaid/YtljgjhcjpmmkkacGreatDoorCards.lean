/-
  DERIVED. GIVEN WITH THE SEED: THE CARDS: each row of YtljgjhcjpmmkkacGreatDoorRows.lean that lists a variable, with what it lists TIED to the program's text (the seventh form; the later family's looks); each row that meets fmt, with fmt's text TOLD by the authors' own Lean function (tested against real Go, not proved from fmt's source: count such statements apart). THE CARD IS WHAT COUNTS. Prove the row's statement (the work); the ties are given (YtljgjhcjpmmkkacGreatDoorTie.lean); close each card by the builder's one call (the guide's Derived/Test/ToyasCard.lean, 'card_holds'). Laid BY PROGRAM, IN A SANDBOX (cutbox-door.mjs). By AI agents, Wed Nov 11 2026. No macro, syntax, notation, axiom, sorry.
-/
import Derived.Test.YtljgjhcjpmmkkacGreatDoorRows
import GoSem.ClaimSeven
namespace Go.Proofs.YtljgjhcjpmmkkacGreatDoor
namespace Rows

/-- THE TIED CARD OF 'silkwormlaw10.OptShrinks'. -/
def optShrinksCard : Claim7 := { stood := { row := optShrinksRow, standIns := [], harness := (true, "bb734bd4ef8ca6e3554d82b59838138b86cc98812b85aac246cd66594de7cfae"), looks := false }, kinds := [], alts := [], laidByText := true, laidKinds := [.data, .data, .data, .data, .pinned], laidTests := true, laidLooks := .later }
def OptShrinksCardSaid : Prop := Claim7.holds Tryz.pinned (.plain (OpenSpec.ofChange optShrinksSpec)) optShrinksCard

/-- THE SECOND FORM's CARD OF 'silkwormlaw10.OptShrinks'. -/
def optShrinksUptoCard : Claim7 := { stood := { row := optShrinksUptoRow, standIns := [], harness := (true, "bb734bd4ef8ca6e3554d82b59838138b86cc98812b85aac246cd66594de7cfae"), looks := false }, kinds := [], alts := [], laidByText := true, laidKinds := [.data, .data, .data, .data, .pinned], laidTests := true, laidLooks := .later }
def OptShrinksUptoCardSaid : Prop := Claim7.holds Tryz.pinned (.plain (OpenSpec.upto optShrinksSpec)) optShrinksUptoCard
end Rows
end Go.Proofs.YtljgjhcjpmmkkacGreatDoor
