/-
  DERIVED. GIVEN WITH THE SEED: THE CARDS: each row of YteninjhmmjkckaaGreatDoorRows.lean that lists a variable, with what it lists TIED to the program's text (the seventh form; the later family's looks); each row that meets fmt, with fmt's text TOLD by the authors' own Lean function (tested against real Go, not proved from fmt's source: count such statements apart). THE CARD IS WHAT COUNTS. Prove the row's statement (the work); the ties are given (YteninjhmmjkckaaGreatDoorTie.lean); close each card by the builder's one call (the guide's Derived/Test/ToyasCard.lean, 'card_holds'). Laid BY PROGRAM, IN A SANDBOX (cutbox-door.mjs). By AI agents, Wed Nov 11 2026. No macro, syntax, notation, axiom, sorry.
-/
import Derived.Test.YteninjhmmjkckaaGreatDoorRows
import GoSem.ClaimSeven
namespace Go.Proofs.YteninjhmmjkckaaGreatDoor
namespace Rows

/-- THE TIED CARD OF 'burgesslaw23.SearchOfNothing'. -/
def searchOfNothingCard : Claim7 := { stood := { row := searchOfNothingRow, standIns := [], harness := (true, "fbcb4a8dfbaec867d981a12962024af5ae09298dfd1674fd2c6da77ebf4f9e4b"), looks := true }, kinds := [], alts := [], laidByText := true, laidKinds := [.data, .data, .data, .data, .sentinel, .sentinel, .pinned], laidTests := true, laidLooks := .later }
def SearchOfNothingCardSaid : Prop := Claim7.holds Tryz.pinned (.plain (OpenSpec.ofChange searchOfNothingSpec)) searchOfNothingCard

/-- THE SECOND FORM's CARD OF 'burgesslaw23.SearchOfNothing'. -/
def searchOfNothingUptoCard : Claim7 := { stood := { row := searchOfNothingUptoRow, standIns := [], harness := (true, "fbcb4a8dfbaec867d981a12962024af5ae09298dfd1674fd2c6da77ebf4f9e4b"), looks := true }, kinds := [], alts := [], laidByText := true, laidKinds := [.data, .data, .data, .data, .sentinel, .sentinel, .pinned], laidTests := true, laidLooks := .later }
def SearchOfNothingUptoCardSaid : Prop := Claim7.holds Tryz.pinned (.plain (OpenSpec.upto searchOfNothingSpec)) searchOfNothingUptoCard
end Rows
end Go.Proofs.YteninjhmmjkckaaGreatDoor
