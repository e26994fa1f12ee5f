/-
  DERIVED. GIVEN WITH THE SEED: THE CARDS: each row of YtcjjjmhhpejdoaaGreatDoorRows.lean that lists a variable, with what it lists TIED to the program's text (the seventh form; the later family's looks); each row that meets fmt, with fmt's text TOLD by the authors' own Lean function (tested against real Go, not proved from fmt's source: count such statements apart). THE CARD IS WHAT COUNTS. Prove the row's statement (the work); the ties are given (YtcjjjmhhpejdoaaGreatDoorTie.lean); close each card by the builder's one call (the guide's Derived/Test/ToyasCard.lean, 'card_holds'). Laid BY PROGRAM, IN A SANDBOX (cutbox-door.mjs). By AI agents, Wed Nov 11 2026. No macro, syntax, notation, axiom, sorry.
-/
import Derived.Test.YtcjjjmhhpejdoaaGreatDoorRows
import GoSem.ClaimSeven
namespace Go.Proofs.YtcjjjmhhpejdoaaGreatDoor
namespace Rows

/-- THE TIED CARD OF 'burgesslaw15.MatchSubs'. -/
def matchSubsCard : Claim7 := { stood := { row := matchSubsRow, standIns := [], harness := (true, "45eb52538c1fbc57331eaf83fa546ae7ac80c7a99ae8692fefd3e4238a135d4d"), looks := true }, kinds := [], alts := [], laidByText := true, laidKinds := [.data, .pinned], laidTests := true, laidLooks := .later }
def MatchSubsCardSaid : Prop := Claim7.holds Tryz.pinned (.plain (OpenSpec.ofChange matchSubsSpec)) matchSubsCard

/-- THE TIED CARD OF 'burgesslaw21.IndexKeys'. -/
def indexKeysCard : Claim7 := { stood := { row := indexKeysRow, standIns := [], harness := (true, "45eb52538c1fbc57331eaf83fa546ae7ac80c7a99ae8692fefd3e4238a135d4d"), looks := true }, kinds := [], alts := [], laidByText := true, laidKinds := [.data, .pinned], laidTests := true, laidLooks := .later }
def IndexKeysCardSaid : Prop := Claim7.holds Tryz.pinned (.plain (OpenSpec.ofChange indexKeysSpec)) indexKeysCard

/-- THE TIED CARD OF 'burgesslaw21.IndexFinds'. -/
def indexFindsCard : Claim7 := { stood := { row := indexFindsRow, standIns := [], harness := (true, "45eb52538c1fbc57331eaf83fa546ae7ac80c7a99ae8692fefd3e4238a135d4d"), looks := true }, kinds := [], alts := [], laidByText := true, laidKinds := [.data, .pinned], laidTests := true, laidLooks := .later }
def IndexFindsCardSaid : Prop := Claim7.holds Tryz.pinned (.plain (OpenSpec.ofChange indexFindsSpec)) indexFindsCard

/-- THE TIED CARD OF 'burgesslaw21.IndexRise'. -/
def indexRiseCard : Claim7 := { stood := { row := indexRiseRow, standIns := [], harness := (true, "45eb52538c1fbc57331eaf83fa546ae7ac80c7a99ae8692fefd3e4238a135d4d"), looks := true }, kinds := [], alts := [], laidByText := true, laidKinds := [.data, .pinned], laidTests := true, laidLooks := .later }
def IndexRiseCardSaid : Prop := Claim7.holds Tryz.pinned (.plain (OpenSpec.ofChange indexRiseSpec)) indexRiseCard

/-- THE TIED CARD OF 'burgesslaw21.IndexCase'. -/
def indexCaseCard : Claim7 := { stood := { row := indexCaseRow, standIns := [], harness := (true, "45eb52538c1fbc57331eaf83fa546ae7ac80c7a99ae8692fefd3e4238a135d4d"), looks := true }, kinds := [], alts := [], laidByText := true, laidKinds := [.data, .pinned], laidTests := true, laidLooks := .later }
def IndexCaseCardSaid : Prop := Claim7.holds Tryz.pinned (.plain (OpenSpec.ofChange indexCaseSpec)) indexCaseCard

/-- THE TIED CARD OF 'burgesslaw15.MatchTwo'. -/
def matchTwoCard : Claim7 := { stood := { row := matchTwoRow, standIns := [], harness := (true, "45eb52538c1fbc57331eaf83fa546ae7ac80c7a99ae8692fefd3e4238a135d4d"), looks := true }, kinds := [], alts := [], laidByText := true, laidKinds := [.data, .data, .data, .data, .sentinel, .sentinel, .pinned], laidTests := true, laidLooks := .later }
def MatchTwoCardSaid : Prop := Claim7.holds Tryz.pinned (.plain (OpenSpec.ofChange matchTwoSpec)) matchTwoCard

/-- THE TIED CARD OF 'burgesslaw15.MatchOrder'. -/
def matchOrderCard : Claim7 := { stood := { row := matchOrderRow, standIns := [], harness := (true, "45eb52538c1fbc57331eaf83fa546ae7ac80c7a99ae8692fefd3e4238a135d4d"), looks := true }, kinds := [], alts := [], laidByText := true, laidKinds := [.data, .data, .data, .data, .sentinel, .sentinel, .pinned], laidTests := true, laidLooks := .later }
def MatchOrderCardSaid : Prop := Claim7.holds Tryz.pinned (.plain (OpenSpec.ofChange matchOrderSpec)) matchOrderCard

/-- THE TIED CARD OF 'burgesslaw15.MatchNumbers'. -/
def matchNumbersCard : Claim7 := { stood := { row := matchNumbersRow, standIns := [], harness := (true, "45eb52538c1fbc57331eaf83fa546ae7ac80c7a99ae8692fefd3e4238a135d4d"), looks := true }, kinds := [], alts := [], laidByText := true, laidKinds := [.data, .data, .data, .data, .sentinel, .sentinel, .pinned], laidTests := true, laidLooks := .later }
def MatchNumbersCardSaid : Prop := Claim7.holds Tryz.pinned (.plain (OpenSpec.ofChange matchNumbersSpec)) matchNumbersCard

/-- THE TIED CARD OF 'burgesslaw17.EvalFilters'. -/
def evalFiltersCard : Claim7 := { stood := { row := evalFiltersRow, standIns := [], harness := (true, "45eb52538c1fbc57331eaf83fa546ae7ac80c7a99ae8692fefd3e4238a135d4d"), looks := true }, kinds := [], alts := [], laidByText := true, laidKinds := [.data, .data, .data, .data, .sentinel, .sentinel, .pinned], laidTests := true, laidLooks := .later }
def EvalFiltersCardSaid : Prop := Claim7.holds Tryz.pinned (.plain (OpenSpec.ofChange evalFiltersSpec)) evalFiltersCard

/-- THE TIED CARD OF 'burgesslaw17.EvalItems'. -/
def evalItemsCard : Claim7 := { stood := { row := evalItemsRow, standIns := [], harness := (true, "45eb52538c1fbc57331eaf83fa546ae7ac80c7a99ae8692fefd3e4238a135d4d"), looks := true }, kinds := [], alts := [], laidByText := true, laidKinds := [.data, .data, .data, .data, .sentinel, .sentinel, .pinned], laidTests := true, laidLooks := .later }
def EvalItemsCardSaid : Prop := Claim7.holds Tryz.pinned (.plain (OpenSpec.ofChange evalItemsSpec)) evalItemsCard

/-- THE TIED CARD OF 'burgesslaw17.EvalThree'. -/
def evalThreeCard : Claim7 := { stood := { row := evalThreeRow, standIns := [], harness := (true, "45eb52538c1fbc57331eaf83fa546ae7ac80c7a99ae8692fefd3e4238a135d4d"), looks := true }, kinds := [], alts := [], laidByText := true, laidKinds := [.data, .data, .data, .data, .sentinel, .sentinel, .pinned], laidTests := true, laidLooks := .later }
def EvalThreeCardSaid : Prop := Claim7.holds Tryz.pinned (.plain (OpenSpec.ofChange evalThreeSpec)) evalThreeCard

/-- THE TIED CARD OF 'burgesslaw17.EvalTurned'. -/
def evalTurnedCard : Claim7 := { stood := { row := evalTurnedRow, standIns := [], harness := (true, "45eb52538c1fbc57331eaf83fa546ae7ac80c7a99ae8692fefd3e4238a135d4d"), looks := true }, kinds := [], alts := [], laidByText := true, laidKinds := [.data, .data, .data, .data, .sentinel, .sentinel, .pinned], laidTests := true, laidLooks := .later }
def EvalTurnedCardSaid : Prop := Claim7.holds Tryz.pinned (.plain (OpenSpec.ofChange evalTurnedSpec)) evalTurnedCard

/-- THE TIED CARD OF 'burgesslaw17.EvalTwice'. -/
def evalTwiceCard : Claim7 := { stood := { row := evalTwiceRow, standIns := [], harness := (true, "45eb52538c1fbc57331eaf83fa546ae7ac80c7a99ae8692fefd3e4238a135d4d"), looks := true }, kinds := [], alts := [], laidByText := true, laidKinds := [.data, .data, .data, .data, .sentinel, .sentinel, .pinned], laidTests := true, laidLooks := .later }
def EvalTwiceCardSaid : Prop := Claim7.holds Tryz.pinned (.plain (OpenSpec.ofChange evalTwiceSpec)) evalTwiceCard

/-- THE TIED CARD OF 'burgesslaw17.EvalKids'. -/
def evalKidsCard : Claim7 := { stood := { row := evalKidsRow, standIns := [], harness := (true, "45eb52538c1fbc57331eaf83fa546ae7ac80c7a99ae8692fefd3e4238a135d4d"), looks := true }, kinds := [], alts := [], laidByText := true, laidKinds := [.data, .data, .data, .data, .sentinel, .sentinel, .pinned], laidTests := true, laidLooks := .later }
def EvalKidsCardSaid : Prop := Claim7.holds Tryz.pinned (.plain (OpenSpec.ofChange evalKidsSpec)) evalKidsCard

/-- THE TIED CARD OF 'burgesslaw17.EvalHas'. -/
def evalHasCard : Claim7 := { stood := { row := evalHasRow, standIns := [], harness := (true, "45eb52538c1fbc57331eaf83fa546ae7ac80c7a99ae8692fefd3e4238a135d4d"), looks := true }, kinds := [], alts := [], laidByText := true, laidKinds := [.data, .data, .data, .data, .sentinel, .sentinel, .pinned], laidTests := true, laidLooks := .later }
def EvalHasCardSaid : Prop := Claim7.holds Tryz.pinned (.plain (OpenSpec.ofChange evalHasSpec)) evalHasCard

/-- THE SECOND FORM's CARD OF 'burgesslaw15.MatchSubs'. -/
def matchSubsUptoCard : Claim7 := { stood := { row := matchSubsUptoRow, standIns := [], harness := (true, "45eb52538c1fbc57331eaf83fa546ae7ac80c7a99ae8692fefd3e4238a135d4d"), looks := true }, kinds := [], alts := [], laidByText := true, laidKinds := [.data, .pinned], laidTests := true, laidLooks := .later }
def MatchSubsUptoCardSaid : Prop := Claim7.holds Tryz.pinned (.plain (OpenSpec.upto matchSubsSpec)) matchSubsUptoCard

/-- THE SECOND FORM's CARD OF 'burgesslaw21.IndexKeys'. -/
def indexKeysUptoCard : Claim7 := { stood := { row := indexKeysUptoRow, standIns := [], harness := (true, "45eb52538c1fbc57331eaf83fa546ae7ac80c7a99ae8692fefd3e4238a135d4d"), looks := true }, kinds := [], alts := [], laidByText := true, laidKinds := [.data, .pinned], laidTests := true, laidLooks := .later }
def IndexKeysUptoCardSaid : Prop := Claim7.holds Tryz.pinned (.plain (OpenSpec.upto indexKeysSpec)) indexKeysUptoCard

/-- THE SECOND FORM's CARD OF 'burgesslaw21.IndexFinds'. -/
def indexFindsUptoCard : Claim7 := { stood := { row := indexFindsUptoRow, standIns := [], harness := (true, "45eb52538c1fbc57331eaf83fa546ae7ac80c7a99ae8692fefd3e4238a135d4d"), looks := true }, kinds := [], alts := [], laidByText := true, laidKinds := [.data, .pinned], laidTests := true, laidLooks := .later }
def IndexFindsUptoCardSaid : Prop := Claim7.holds Tryz.pinned (.plain (OpenSpec.upto indexFindsSpec)) indexFindsUptoCard

/-- THE SECOND FORM's CARD OF 'burgesslaw21.IndexRise'. -/
def indexRiseUptoCard : Claim7 := { stood := { row := indexRiseUptoRow, standIns := [], harness := (true, "45eb52538c1fbc57331eaf83fa546ae7ac80c7a99ae8692fefd3e4238a135d4d"), looks := true }, kinds := [], alts := [], laidByText := true, laidKinds := [.data, .pinned], laidTests := true, laidLooks := .later }
def IndexRiseUptoCardSaid : Prop := Claim7.holds Tryz.pinned (.plain (OpenSpec.upto indexRiseSpec)) indexRiseUptoCard

/-- THE SECOND FORM's CARD OF 'burgesslaw21.IndexCase'. -/
def indexCaseUptoCard : Claim7 := { stood := { row := indexCaseUptoRow, standIns := [], harness := (true, "45eb52538c1fbc57331eaf83fa546ae7ac80c7a99ae8692fefd3e4238a135d4d"), looks := true }, kinds := [], alts := [], laidByText := true, laidKinds := [.data, .pinned], laidTests := true, laidLooks := .later }
def IndexCaseUptoCardSaid : Prop := Claim7.holds Tryz.pinned (.plain (OpenSpec.upto indexCaseSpec)) indexCaseUptoCard

/-- THE SECOND FORM's CARD OF 'burgesslaw15.MatchTwo'. -/
def matchTwoUptoCard : Claim7 := { stood := { row := matchTwoUptoRow, standIns := [], harness := (true, "45eb52538c1fbc57331eaf83fa546ae7ac80c7a99ae8692fefd3e4238a135d4d"), looks := true }, kinds := [], alts := [], laidByText := true, laidKinds := [.data, .data, .data, .data, .sentinel, .sentinel, .pinned], laidTests := true, laidLooks := .later }
def MatchTwoUptoCardSaid : Prop := Claim7.holds Tryz.pinned (.plain (OpenSpec.upto matchTwoSpec)) matchTwoUptoCard

/-- THE SECOND FORM's CARD OF 'burgesslaw15.MatchOrder'. -/
def matchOrderUptoCard : Claim7 := { stood := { row := matchOrderUptoRow, standIns := [], harness := (true, "45eb52538c1fbc57331eaf83fa546ae7ac80c7a99ae8692fefd3e4238a135d4d"), looks := true }, kinds := [], alts := [], laidByText := true, laidKinds := [.data, .data, .data, .data, .sentinel, .sentinel, .pinned], laidTests := true, laidLooks := .later }
def MatchOrderUptoCardSaid : Prop := Claim7.holds Tryz.pinned (.plain (OpenSpec.upto matchOrderSpec)) matchOrderUptoCard

/-- THE SECOND FORM's CARD OF 'burgesslaw15.MatchNumbers'. -/
def matchNumbersUptoCard : Claim7 := { stood := { row := matchNumbersUptoRow, standIns := [], harness := (true, "45eb52538c1fbc57331eaf83fa546ae7ac80c7a99ae8692fefd3e4238a135d4d"), looks := true }, kinds := [], alts := [], laidByText := true, laidKinds := [.data, .data, .data, .data, .sentinel, .sentinel, .pinned], laidTests := true, laidLooks := .later }
def MatchNumbersUptoCardSaid : Prop := Claim7.holds Tryz.pinned (.plain (OpenSpec.upto matchNumbersSpec)) matchNumbersUptoCard

/-- THE SECOND FORM's CARD OF 'burgesslaw17.EvalFilters'. -/
def evalFiltersUptoCard : Claim7 := { stood := { row := evalFiltersUptoRow, standIns := [], harness := (true, "45eb52538c1fbc57331eaf83fa546ae7ac80c7a99ae8692fefd3e4238a135d4d"), looks := true }, kinds := [], alts := [], laidByText := true, laidKinds := [.data, .data, .data, .data, .sentinel, .sentinel, .pinned], laidTests := true, laidLooks := .later }
def EvalFiltersUptoCardSaid : Prop := Claim7.holds Tryz.pinned (.plain (OpenSpec.upto evalFiltersSpec)) evalFiltersUptoCard

/-- THE SECOND FORM's CARD OF 'burgesslaw17.EvalItems'. -/
def evalItemsUptoCard : Claim7 := { stood := { row := evalItemsUptoRow, standIns := [], harness := (true, "45eb52538c1fbc57331eaf83fa546ae7ac80c7a99ae8692fefd3e4238a135d4d"), looks := true }, kinds := [], alts := [], laidByText := true, laidKinds := [.data, .data, .data, .data, .sentinel, .sentinel, .pinned], laidTests := true, laidLooks := .later }
def EvalItemsUptoCardSaid : Prop := Claim7.holds Tryz.pinned (.plain (OpenSpec.upto evalItemsSpec)) evalItemsUptoCard

/-- THE SECOND FORM's CARD OF 'burgesslaw17.EvalThree'. -/
def evalThreeUptoCard : Claim7 := { stood := { row := evalThreeUptoRow, standIns := [], harness := (true, "45eb52538c1fbc57331eaf83fa546ae7ac80c7a99ae8692fefd3e4238a135d4d"), looks := true }, kinds := [], alts := [], laidByText := true, laidKinds := [.data, .data, .data, .data, .sentinel, .sentinel, .pinned], laidTests := true, laidLooks := .later }
def EvalThreeUptoCardSaid : Prop := Claim7.holds Tryz.pinned (.plain (OpenSpec.upto evalThreeSpec)) evalThreeUptoCard

/-- THE SECOND FORM's CARD OF 'burgesslaw17.EvalTurned'. -/
def evalTurnedUptoCard : Claim7 := { stood := { row := evalTurnedUptoRow, standIns := [], harness := (true, "45eb52538c1fbc57331eaf83fa546ae7ac80c7a99ae8692fefd3e4238a135d4d"), looks := true }, kinds := [], alts := [], laidByText := true, laidKinds := [.data, .data, .data, .data, .sentinel, .sentinel, .pinned], laidTests := true, laidLooks := .later }
def EvalTurnedUptoCardSaid : Prop := Claim7.holds Tryz.pinned (.plain (OpenSpec.upto evalTurnedSpec)) evalTurnedUptoCard

/-- THE SECOND FORM's CARD OF 'burgesslaw17.EvalTwice'. -/
def evalTwiceUptoCard : Claim7 := { stood := { row := evalTwiceUptoRow, standIns := [], harness := (true, "45eb52538c1fbc57331eaf83fa546ae7ac80c7a99ae8692fefd3e4238a135d4d"), looks := true }, kinds := [], alts := [], laidByText := true, laidKinds := [.data, .data, .data, .data, .sentinel, .sentinel, .pinned], laidTests := true, laidLooks := .later }
def EvalTwiceUptoCardSaid : Prop := Claim7.holds Tryz.pinned (.plain (OpenSpec.upto evalTwiceSpec)) evalTwiceUptoCard

/-- THE SECOND FORM's CARD OF 'burgesslaw17.EvalKids'. -/
def evalKidsUptoCard : Claim7 := { stood := { row := evalKidsUptoRow, standIns := [], harness := (true, "45eb52538c1fbc57331eaf83fa546ae7ac80c7a99ae8692fefd3e4238a135d4d"), looks := true }, kinds := [], alts := [], laidByText := true, laidKinds := [.data, .data, .data, .data, .sentinel, .sentinel, .pinned], laidTests := true, laidLooks := .later }
def EvalKidsUptoCardSaid : Prop := Claim7.holds Tryz.pinned (.plain (OpenSpec.upto evalKidsSpec)) evalKidsUptoCard

/-- THE SECOND FORM's CARD OF 'burgesslaw17.EvalHas'. -/
def evalHasUptoCard : Claim7 := { stood := { row := evalHasUptoRow, standIns := [], harness := (true, "45eb52538c1fbc57331eaf83fa546ae7ac80c7a99ae8692fefd3e4238a135d4d"), looks := true }, kinds := [], alts := [], laidByText := true, laidKinds := [.data, .data, .data, .data, .sentinel, .sentinel, .pinned], laidTests := true, laidLooks := .later }
def EvalHasUptoCardSaid : Prop := Claim7.holds Tryz.pinned (.plain (OpenSpec.upto evalHasSpec)) evalHasUptoCard
end Rows
end Go.Proofs.YtcjjjmhhpejdoaaGreatDoor
