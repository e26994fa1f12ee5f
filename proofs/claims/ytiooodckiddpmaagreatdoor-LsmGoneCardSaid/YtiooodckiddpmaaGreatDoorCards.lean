/-
  DERIVED. GIVEN WITH THE SEED: THE CARDS: each row of YtiooodckiddpmaaGreatDoorRows.lean that lists a variable, with what it lists TIED to the program's text (the seventh form; the later family's looks); each row that meets fmt, with fmt's text TOLD by the authors' own Lean function (tested against real Go, not proved from fmt's source: count such statements apart). THE CARD IS WHAT COUNTS. Prove the row's statement (the work); the ties are given (YtiooodckiddpmaaGreatDoorTie.lean); close each card by the builder's one call (the guide's Derived/Test/ToyasCard.lean, 'card_holds'). Laid BY PROGRAM, IN A SANDBOX (cutbox-door.mjs). By AI agents, Wed Nov 11 2026. No macro, syntax, notation, axiom, sorry.
-/
import Derived.Test.YtiooodckiddpmaaGreatDoorRows
import GoSem.ClaimSeven
namespace Go.Proofs.YtiooodckiddpmaaGreatDoor
namespace Rows

/-- THE TIED CARD OF 'burgesslaw12.LsmCounts'. -/
def lsmCountsCard : Claim7 := { stood := { row := lsmCountsRow, standIns := [], harness := (true, "326d4026c6203b54e8c3abe972220f866378c63d570ee7be93e9d5a87a6a43c2"), looks := false }, kinds := [], alts := [], laidByText := true, laidKinds := [.data, .data, .data], laidTests := true, laidLooks := .later }
def LsmCountsCardSaid : Prop := Claim7.holds Tryz.pinned (.plain (OpenSpec.ofChange lsmCountsSpec)) lsmCountsCard

/-- THE TIED CARD OF 'burgesslaw12.LsmTrue'. -/
def lsmTrueCard : Claim7 := { stood := { row := lsmTrueRow, standIns := [], harness := (true, "326d4026c6203b54e8c3abe972220f866378c63d570ee7be93e9d5a87a6a43c2"), looks := false }, kinds := [], alts := [], laidByText := true, laidKinds := [.data, .data, .data], laidTests := true, laidLooks := .later }
def LsmTrueCardSaid : Prop := Claim7.holds Tryz.pinned (.plain (OpenSpec.ofChange lsmTrueSpec)) lsmTrueCard

/-- THE TIED CARD OF 'burgesslaw12.LsmFull'. -/
def lsmFullCard : Claim7 := { stood := { row := lsmFullRow, standIns := [], harness := (true, "326d4026c6203b54e8c3abe972220f866378c63d570ee7be93e9d5a87a6a43c2"), looks := false }, kinds := [], alts := [], laidByText := true, laidKinds := [.data, .data, .data], laidTests := true, laidLooks := .later }
def LsmFullCardSaid : Prop := Claim7.holds Tryz.pinned (.plain (OpenSpec.ofChange lsmFullSpec)) lsmFullCard

/-- THE TIED CARD OF 'burgesslaw12.LsmStray'. -/
def lsmStrayCard : Claim7 := { stood := { row := lsmStrayRow, standIns := [], harness := (true, "326d4026c6203b54e8c3abe972220f866378c63d570ee7be93e9d5a87a6a43c2"), looks := false }, kinds := [], alts := [], laidByText := true, laidKinds := [.data, .data, .data], laidTests := true, laidLooks := .later }
def LsmStrayCardSaid : Prop := Claim7.holds Tryz.pinned (.plain (OpenSpec.ofChange lsmStraySpec)) lsmStrayCard

/-- THE TIED CARD OF 'burgesslaw12.LsmQuiet'. -/
def lsmQuietCard : Claim7 := { stood := { row := lsmQuietRow, standIns := [], harness := (true, "326d4026c6203b54e8c3abe972220f866378c63d570ee7be93e9d5a87a6a43c2"), looks := false }, kinds := [], alts := [], laidByText := true, laidKinds := [.data, .data, .data], laidTests := true, laidLooks := .later }
def LsmQuietCardSaid : Prop := Claim7.holds Tryz.pinned (.plain (OpenSpec.ofChange lsmQuietSpec)) lsmQuietCard

/-- THE TIED CARD OF 'burgesslaw12.LsmSplits'. -/
def lsmSplitsCard : Claim7 := { stood := { row := lsmSplitsRow, standIns := [], harness := (true, "326d4026c6203b54e8c3abe972220f866378c63d570ee7be93e9d5a87a6a43c2"), looks := false }, kinds := [], alts := [], laidByText := true, laidKinds := [.data, .data, .data], laidTests := true, laidLooks := .later }
def LsmSplitsCardSaid : Prop := Claim7.holds Tryz.pinned (.plain (OpenSpec.ofChange lsmSplitsSpec)) lsmSplitsCard

/-- THE TIED CARD OF 'burgesslaw12.LsmGone'. -/
def lsmGoneCard : Claim7 := { stood := { row := lsmGoneRow, standIns := [], harness := (true, "326d4026c6203b54e8c3abe972220f866378c63d570ee7be93e9d5a87a6a43c2"), looks := false }, kinds := [], alts := [], laidByText := true, laidKinds := [.data, .data, .data], laidTests := true, laidLooks := .later }
def LsmGoneCardSaid : Prop := Claim7.holds Tryz.pinned (.plain (OpenSpec.ofChange lsmGoneSpec)) lsmGoneCard

/-- THE TIED CARD OF 'burgesslaw12.LsmOfNothing'. -/
def lsmOfNothingCard : Claim7 := { stood := { row := lsmOfNothingRow, standIns := [], harness := (true, "326d4026c6203b54e8c3abe972220f866378c63d570ee7be93e9d5a87a6a43c2"), looks := false }, kinds := [], alts := [], laidByText := true, laidKinds := [.data, .data, .data], laidTests := true, laidLooks := .later }
def LsmOfNothingCardSaid : Prop := Claim7.holds Tryz.pinned (.plain (OpenSpec.ofChange lsmOfNothingSpec)) lsmOfNothingCard

/-- THE SECOND FORM's CARD OF 'burgesslaw12.LsmCounts'. -/
def lsmCountsUptoCard : Claim7 := { stood := { row := lsmCountsUptoRow, standIns := [], harness := (true, "326d4026c6203b54e8c3abe972220f866378c63d570ee7be93e9d5a87a6a43c2"), looks := false }, kinds := [], alts := [], laidByText := true, laidKinds := [.data, .data, .data], laidTests := true, laidLooks := .later }
def LsmCountsUptoCardSaid : Prop := Claim7.holds Tryz.pinned (.plain (OpenSpec.upto lsmCountsSpec)) lsmCountsUptoCard

/-- THE SECOND FORM's CARD OF 'burgesslaw12.LsmTrue'. -/
def lsmTrueUptoCard : Claim7 := { stood := { row := lsmTrueUptoRow, standIns := [], harness := (true, "326d4026c6203b54e8c3abe972220f866378c63d570ee7be93e9d5a87a6a43c2"), looks := false }, kinds := [], alts := [], laidByText := true, laidKinds := [.data, .data, .data], laidTests := true, laidLooks := .later }
def LsmTrueUptoCardSaid : Prop := Claim7.holds Tryz.pinned (.plain (OpenSpec.upto lsmTrueSpec)) lsmTrueUptoCard

/-- THE SECOND FORM's CARD OF 'burgesslaw12.LsmFull'. -/
def lsmFullUptoCard : Claim7 := { stood := { row := lsmFullUptoRow, standIns := [], harness := (true, "326d4026c6203b54e8c3abe972220f866378c63d570ee7be93e9d5a87a6a43c2"), looks := false }, kinds := [], alts := [], laidByText := true, laidKinds := [.data, .data, .data], laidTests := true, laidLooks := .later }
def LsmFullUptoCardSaid : Prop := Claim7.holds Tryz.pinned (.plain (OpenSpec.upto lsmFullSpec)) lsmFullUptoCard

/-- THE SECOND FORM's CARD OF 'burgesslaw12.LsmStray'. -/
def lsmStrayUptoCard : Claim7 := { stood := { row := lsmStrayUptoRow, standIns := [], harness := (true, "326d4026c6203b54e8c3abe972220f866378c63d570ee7be93e9d5a87a6a43c2"), looks := false }, kinds := [], alts := [], laidByText := true, laidKinds := [.data, .data, .data], laidTests := true, laidLooks := .later }
def LsmStrayUptoCardSaid : Prop := Claim7.holds Tryz.pinned (.plain (OpenSpec.upto lsmStraySpec)) lsmStrayUptoCard

/-- THE SECOND FORM's CARD OF 'burgesslaw12.LsmQuiet'. -/
def lsmQuietUptoCard : Claim7 := { stood := { row := lsmQuietUptoRow, standIns := [], harness := (true, "326d4026c6203b54e8c3abe972220f866378c63d570ee7be93e9d5a87a6a43c2"), looks := false }, kinds := [], alts := [], laidByText := true, laidKinds := [.data, .data, .data], laidTests := true, laidLooks := .later }
def LsmQuietUptoCardSaid : Prop := Claim7.holds Tryz.pinned (.plain (OpenSpec.upto lsmQuietSpec)) lsmQuietUptoCard

/-- THE SECOND FORM's CARD OF 'burgesslaw12.LsmSplits'. -/
def lsmSplitsUptoCard : Claim7 := { stood := { row := lsmSplitsUptoRow, standIns := [], harness := (true, "326d4026c6203b54e8c3abe972220f866378c63d570ee7be93e9d5a87a6a43c2"), looks := false }, kinds := [], alts := [], laidByText := true, laidKinds := [.data, .data, .data], laidTests := true, laidLooks := .later }
def LsmSplitsUptoCardSaid : Prop := Claim7.holds Tryz.pinned (.plain (OpenSpec.upto lsmSplitsSpec)) lsmSplitsUptoCard

/-- THE SECOND FORM's CARD OF 'burgesslaw12.LsmGone'. -/
def lsmGoneUptoCard : Claim7 := { stood := { row := lsmGoneUptoRow, standIns := [], harness := (true, "326d4026c6203b54e8c3abe972220f866378c63d570ee7be93e9d5a87a6a43c2"), looks := false }, kinds := [], alts := [], laidByText := true, laidKinds := [.data, .data, .data], laidTests := true, laidLooks := .later }
def LsmGoneUptoCardSaid : Prop := Claim7.holds Tryz.pinned (.plain (OpenSpec.upto lsmGoneSpec)) lsmGoneUptoCard

/-- THE SECOND FORM's CARD OF 'burgesslaw12.LsmOfNothing'. -/
def lsmOfNothingUptoCard : Claim7 := { stood := { row := lsmOfNothingUptoRow, standIns := [], harness := (true, "326d4026c6203b54e8c3abe972220f866378c63d570ee7be93e9d5a87a6a43c2"), looks := false }, kinds := [], alts := [], laidByText := true, laidKinds := [.data, .data, .data], laidTests := true, laidLooks := .later }
def LsmOfNothingUptoCardSaid : Prop := Claim7.holds Tryz.pinned (.plain (OpenSpec.upto lsmOfNothingSpec)) lsmOfNothingUptoCard
end Rows
end Go.Proofs.YtiooodckiddpmaaGreatDoor
