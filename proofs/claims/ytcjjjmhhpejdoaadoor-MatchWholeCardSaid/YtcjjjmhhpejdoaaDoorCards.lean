/-
  DERIVED. GIVEN WITH THE SEED: THE CARDS: each row of YtcjjjmhhpejdoaaDoorRows.lean that lists a variable, with what it lists TIED to the program's text (the seventh form; the later family's looks); each row that meets fmt, with fmt's text TOLD by the authors' own Lean function (tested against real Go, not proved from fmt's source: count such statements apart). THE CARD IS WHAT COUNTS. Prove the row's statement (the work); the ties are given (YtcjjjmhhpejdoaaDoorTie.lean); close each card by the builder's one call (the guide's Derived/Test/ToyasCard.lean, 'card_holds'). Laid BY PROGRAM, IN A SANDBOX (cutbox-door.mjs). By AI agents, Wed Nov 11 2026. No macro, syntax, notation, axiom, sorry.
-/
import Derived.Test.YtcjjjmhhpejdoaaDoorRows
import GoSem.ClaimSeven
namespace Go.Proofs.YtcjjjmhhpejdoaaDoor
namespace Rows

/-- THE TIED CARD OF 'burgesslaw21.IndexBegins'. -/
def indexBeginsCard : Claim7 := { stood := { row := indexBeginsRow, standIns := [], harness := (true, "7c5e269c646ecdafec29223b9012b7896f9f58b8341485a9349777e04c37bb45"), looks := false }, kinds := [], alts := [], laidByText := true, laidKinds := [.data, .pinned], laidTests := true, laidLooks := .later }
def IndexBeginsCardSaid : Prop := Claim7.holds Tryd.pinned (.plain (OpenSpec.ofChange indexBeginsSpec)) indexBeginsCard

/-- THE TIED CARD OF 'burgesslaw15.MatchNorms'. -/
def matchNormsCard : Claim7 := { stood := { row := matchNormsRow, standIns := [], harness := (true, "7c5e269c646ecdafec29223b9012b7896f9f58b8341485a9349777e04c37bb45"), looks := false }, kinds := [], alts := [], laidByText := true, laidKinds := [.data, .pinned], laidTests := true, laidLooks := .later }
def MatchNormsCardSaid : Prop := Claim7.holds Tryd.pinned (.plain (OpenSpec.ofChange matchNormsSpec)) matchNormsCard

/-- THE TIED CARD OF 'burgesslaw15.MatchOnce'. -/
def matchOnceCard : Claim7 := { stood := { row := matchOnceRow, standIns := [], harness := (true, "7c5e269c646ecdafec29223b9012b7896f9f58b8341485a9349777e04c37bb45"), looks := false }, kinds := [], alts := [], laidByText := true, laidKinds := [.data, .pinned], laidTests := true, laidLooks := .later }
def MatchOnceCardSaid : Prop := Claim7.holds Tryd.pinned (.plain (OpenSpec.ofChange matchOnceSpec)) matchOnceCard

/-- THE TIED CARD OF 'burgesslaw15.MatchWhole'. -/
def matchWholeCard : Claim7 := { stood := { row := matchWholeRow, standIns := [], harness := (true, "7c5e269c646ecdafec29223b9012b7896f9f58b8341485a9349777e04c37bb45"), looks := false }, kinds := [], alts := [], laidByText := true, laidKinds := [.data, .pinned], laidTests := true, laidLooks := .later }
def MatchWholeCardSaid : Prop := Claim7.holds Tryd.pinned (.plain (OpenSpec.ofChange matchWholeSpec)) matchWholeCard

/-- THE SECOND FORM's CARD OF 'burgesslaw21.IndexBegins'. -/
def indexBeginsUptoCard : Claim7 := { stood := { row := indexBeginsUptoRow, standIns := [], harness := (true, "7c5e269c646ecdafec29223b9012b7896f9f58b8341485a9349777e04c37bb45"), looks := false }, kinds := [], alts := [], laidByText := true, laidKinds := [.data, .pinned], laidTests := true, laidLooks := .later }
def IndexBeginsUptoCardSaid : Prop := Claim7.holds Tryd.pinned (.plain (OpenSpec.upto indexBeginsSpec)) indexBeginsUptoCard

/-- THE SECOND FORM's CARD OF 'burgesslaw15.MatchNorms'. -/
def matchNormsUptoCard : Claim7 := { stood := { row := matchNormsUptoRow, standIns := [], harness := (true, "7c5e269c646ecdafec29223b9012b7896f9f58b8341485a9349777e04c37bb45"), looks := false }, kinds := [], alts := [], laidByText := true, laidKinds := [.data, .pinned], laidTests := true, laidLooks := .later }
def MatchNormsUptoCardSaid : Prop := Claim7.holds Tryd.pinned (.plain (OpenSpec.upto matchNormsSpec)) matchNormsUptoCard

/-- THE SECOND FORM's CARD OF 'burgesslaw15.MatchOnce'. -/
def matchOnceUptoCard : Claim7 := { stood := { row := matchOnceUptoRow, standIns := [], harness := (true, "7c5e269c646ecdafec29223b9012b7896f9f58b8341485a9349777e04c37bb45"), looks := false }, kinds := [], alts := [], laidByText := true, laidKinds := [.data, .pinned], laidTests := true, laidLooks := .later }
def MatchOnceUptoCardSaid : Prop := Claim7.holds Tryd.pinned (.plain (OpenSpec.upto matchOnceSpec)) matchOnceUptoCard

/-- THE SECOND FORM's CARD OF 'burgesslaw15.MatchWhole'. -/
def matchWholeUptoCard : Claim7 := { stood := { row := matchWholeUptoRow, standIns := [], harness := (true, "7c5e269c646ecdafec29223b9012b7896f9f58b8341485a9349777e04c37bb45"), looks := false }, kinds := [], alts := [], laidByText := true, laidKinds := [.data, .pinned], laidTests := true, laidLooks := .later }
def MatchWholeUptoCardSaid : Prop := Claim7.holds Tryd.pinned (.plain (OpenSpec.upto matchWholeSpec)) matchWholeUptoCard
end Rows
end Go.Proofs.YtcjjjmhhpejdoaaDoor
