/-
  DERIVED. GIVEN WITH THE SEED: THE CARDS: each row of YtndlihclgdkpaaaGreatDoorRows.lean that lists a variable, with what it lists TIED to the program's text (the seventh form; the later family's looks); each row that meets fmt, with fmt's text TOLD by the authors' own Lean function (tested against real Go, not proved from fmt's source: count such statements apart). THE CARD IS WHAT COUNTS. Prove the row's statement (the work); the ties are given (YtndlihclgdkpaaaGreatDoorTie.lean); close each card by the builder's one call (the guide's Derived/Test/ToyasCard.lean, 'card_holds'). Laid BY PROGRAM, IN A SANDBOX (cutbox-door.mjs). By AI agents, Wed Nov 11 2026. No macro, syntax, notation, axiom, sorry.
-/
import Derived.Test.YtndlihclgdkpaaaGreatDoorRows
import GoSem.ClaimSeven
namespace Go.Proofs.YtndlihclgdkpaaaGreatDoor
namespace Rows

/-- THE TIED CARD OF 'kinkeeplaw43.ReceiptIssues'. -/
def receiptIssuesCard : Claim7 := { stood := { row := receiptIssuesRow, standIns := [], harness := (true, "669c61c4f52373a90f3db5c85bfd3483126573ad7e675f42b6907166e5c57dbc"), looks := false }, kinds := [], alts := [], laidByText := true, laidKinds := [.data, .data, .data], laidTests := true, laidLooks := .later }
def ReceiptIssuesCardSaid : Prop := Claim7.holds Tryz.pinned (.plain (OpenSpec.ofChange receiptIssuesSpec)) receiptIssuesCard

/-- THE TIED CARD OF 'kinkeeplaw43.ReceiptReturns'. -/
def receiptReturnsCard : Claim7 := { stood := { row := receiptReturnsRow, standIns := [], harness := (true, "669c61c4f52373a90f3db5c85bfd3483126573ad7e675f42b6907166e5c57dbc"), looks := false }, kinds := [], alts := [], laidByText := true, laidKinds := [.data, .data, .data], laidTests := true, laidLooks := .later }
def ReceiptReturnsCardSaid : Prop := Claim7.holds Tryz.pinned (.plain (OpenSpec.ofChange receiptReturnsSpec)) receiptReturnsCard

/-- THE TIED CARD OF 'kinkeeplaw43.ReceiptVerifies'. -/
def receiptVerifiesCard : Claim7 := { stood := { row := receiptVerifiesRow, standIns := [], harness := (true, "669c61c4f52373a90f3db5c85bfd3483126573ad7e675f42b6907166e5c57dbc"), looks := false }, kinds := [], alts := [], laidByText := true, laidKinds := [.data, .data, .data], laidTests := true, laidLooks := .later }
def ReceiptVerifiesCardSaid : Prop := Claim7.holds Tryz.pinned (.plain (OpenSpec.ofChange receiptVerifiesSpec)) receiptVerifiesCard

/-- THE TIED CARD OF 'kinkeeplaw43.ReceiptChanged'. -/
def receiptChangedCard : Claim7 := { stood := { row := receiptChangedRow, standIns := [], harness := (true, "669c61c4f52373a90f3db5c85bfd3483126573ad7e675f42b6907166e5c57dbc"), looks := false }, kinds := [], alts := [], laidByText := true, laidKinds := [.data, .data, .data], laidTests := true, laidLooks := .later }
def ReceiptChangedCardSaid : Prop := Claim7.holds Tryz.pinned (.plain (OpenSpec.ofChange receiptChangedSpec)) receiptChangedCard

/-- THE TIED CARD OF 'kinkeeplaw43.ReceiptEncodes'. -/
def receiptEncodesCard : Claim7 := { stood := { row := receiptEncodesRow, standIns := [], harness := (true, "669c61c4f52373a90f3db5c85bfd3483126573ad7e675f42b6907166e5c57dbc"), looks := false }, kinds := [], alts := [], laidByText := true, laidKinds := [.data, .data, .data], laidTests := true, laidLooks := .later }
def ReceiptEncodesCardSaid : Prop := Claim7.holds Tryz.pinned (.plain (OpenSpec.ofChange receiptEncodesSpec)) receiptEncodesCard

/-- THE TIED CARD OF 'kinkeeplaw43.ReceiptDecodes'. -/
def receiptDecodesCard : Claim7 := { stood := { row := receiptDecodesRow, standIns := [], harness := (true, "669c61c4f52373a90f3db5c85bfd3483126573ad7e675f42b6907166e5c57dbc"), looks := false }, kinds := [], alts := [], laidByText := true, laidKinds := [.data, .data, .data], laidTests := true, laidLooks := .later }
def ReceiptDecodesCardSaid : Prop := Claim7.holds Tryz.pinned (.plain (OpenSpec.ofChange receiptDecodesSpec)) receiptDecodesCard

/-- THE TIED CARD OF 'kinkeeplaw43.ReceiptContradicts'. -/
def receiptContradictsCard : Claim7 := { stood := { row := receiptContradictsRow, standIns := [], harness := (true, "669c61c4f52373a90f3db5c85bfd3483126573ad7e675f42b6907166e5c57dbc"), looks := false }, kinds := [], alts := [], laidByText := true, laidKinds := [.data, .data, .data], laidTests := true, laidLooks := .later }
def ReceiptContradictsCardSaid : Prop := Claim7.holds Tryz.pinned (.plain (OpenSpec.ofChange receiptContradictsSpec)) receiptContradictsCard

/-- THE TIED CARD OF 'kinkeeplaw43.ReceiptBooks'. -/
def receiptBooksCard : Claim7 := { stood := { row := receiptBooksRow, standIns := [], harness := (true, "669c61c4f52373a90f3db5c85bfd3483126573ad7e675f42b6907166e5c57dbc"), looks := false }, kinds := [], alts := [], laidByText := true, laidKinds := [.data, .data, .data], laidTests := true, laidLooks := .later }
def ReceiptBooksCardSaid : Prop := Claim7.holds Tryz.pinned (.plain (OpenSpec.ofChange receiptBooksSpec)) receiptBooksCard

/-- THE TIED CARD OF 'kinkeeplaw43.ReceiptOrder'. -/
def receiptOrderCard : Claim7 := { stood := { row := receiptOrderRow, standIns := [], harness := (true, "669c61c4f52373a90f3db5c85bfd3483126573ad7e675f42b6907166e5c57dbc"), looks := false }, kinds := [], alts := [], laidByText := true, laidKinds := [.data, .data, .data], laidTests := true, laidLooks := .later }
def ReceiptOrderCardSaid : Prop := Claim7.holds Tryz.pinned (.plain (OpenSpec.ofChange receiptOrderSpec)) receiptOrderCard

/-- THE TIED CARD OF 'kinkeeplaw46.GossipForged'. -/
def gossipForgedCard : Claim7 := { stood := { row := gossipForgedRow, standIns := [], harness := (true, "669c61c4f52373a90f3db5c85bfd3483126573ad7e675f42b6907166e5c57dbc"), looks := false }, kinds := [], alts := [], laidByText := true, laidKinds := [.data, .data, .data], laidTests := true, laidLooks := .later }
def GossipForgedCardSaid : Prop := Claim7.holds Tryz.pinned (.plain (OpenSpec.ofChange gossipForgedSpec)) gossipForgedCard

/-- THE TIED CARD OF 'kinkeeplaw46.GossipVerifies'. -/
def gossipVerifiesCard : Claim7 := { stood := { row := gossipVerifiesRow, standIns := [], harness := (true, "669c61c4f52373a90f3db5c85bfd3483126573ad7e675f42b6907166e5c57dbc"), looks := false }, kinds := [], alts := [], laidByText := true, laidKinds := [.data, .data, .data], laidTests := true, laidLooks := .later }
def GossipVerifiesCardSaid : Prop := Claim7.holds Tryz.pinned (.plain (OpenSpec.ofChange gossipVerifiesSpec)) gossipVerifiesCard

/-- THE SECOND FORM's CARD OF 'kinkeeplaw43.ReceiptIssues'. -/
def receiptIssuesUptoCard : Claim7 := { stood := { row := receiptIssuesUptoRow, standIns := [], harness := (true, "669c61c4f52373a90f3db5c85bfd3483126573ad7e675f42b6907166e5c57dbc"), looks := false }, kinds := [], alts := [], laidByText := true, laidKinds := [.data, .data, .data], laidTests := true, laidLooks := .later }
def ReceiptIssuesUptoCardSaid : Prop := Claim7.holds Tryz.pinned (.plain (OpenSpec.upto receiptIssuesSpec)) receiptIssuesUptoCard

/-- THE SECOND FORM's CARD OF 'kinkeeplaw43.ReceiptReturns'. -/
def receiptReturnsUptoCard : Claim7 := { stood := { row := receiptReturnsUptoRow, standIns := [], harness := (true, "669c61c4f52373a90f3db5c85bfd3483126573ad7e675f42b6907166e5c57dbc"), looks := false }, kinds := [], alts := [], laidByText := true, laidKinds := [.data, .data, .data], laidTests := true, laidLooks := .later }
def ReceiptReturnsUptoCardSaid : Prop := Claim7.holds Tryz.pinned (.plain (OpenSpec.upto receiptReturnsSpec)) receiptReturnsUptoCard

/-- THE SECOND FORM's CARD OF 'kinkeeplaw43.ReceiptVerifies'. -/
def receiptVerifiesUptoCard : Claim7 := { stood := { row := receiptVerifiesUptoRow, standIns := [], harness := (true, "669c61c4f52373a90f3db5c85bfd3483126573ad7e675f42b6907166e5c57dbc"), looks := false }, kinds := [], alts := [], laidByText := true, laidKinds := [.data, .data, .data], laidTests := true, laidLooks := .later }
def ReceiptVerifiesUptoCardSaid : Prop := Claim7.holds Tryz.pinned (.plain (OpenSpec.upto receiptVerifiesSpec)) receiptVerifiesUptoCard

/-- THE SECOND FORM's CARD OF 'kinkeeplaw43.ReceiptChanged'. -/
def receiptChangedUptoCard : Claim7 := { stood := { row := receiptChangedUptoRow, standIns := [], harness := (true, "669c61c4f52373a90f3db5c85bfd3483126573ad7e675f42b6907166e5c57dbc"), looks := false }, kinds := [], alts := [], laidByText := true, laidKinds := [.data, .data, .data], laidTests := true, laidLooks := .later }
def ReceiptChangedUptoCardSaid : Prop := Claim7.holds Tryz.pinned (.plain (OpenSpec.upto receiptChangedSpec)) receiptChangedUptoCard

/-- THE SECOND FORM's CARD OF 'kinkeeplaw43.ReceiptEncodes'. -/
def receiptEncodesUptoCard : Claim7 := { stood := { row := receiptEncodesUptoRow, standIns := [], harness := (true, "669c61c4f52373a90f3db5c85bfd3483126573ad7e675f42b6907166e5c57dbc"), looks := false }, kinds := [], alts := [], laidByText := true, laidKinds := [.data, .data, .data], laidTests := true, laidLooks := .later }
def ReceiptEncodesUptoCardSaid : Prop := Claim7.holds Tryz.pinned (.plain (OpenSpec.upto receiptEncodesSpec)) receiptEncodesUptoCard

/-- THE SECOND FORM's CARD OF 'kinkeeplaw43.ReceiptDecodes'. -/
def receiptDecodesUptoCard : Claim7 := { stood := { row := receiptDecodesUptoRow, standIns := [], harness := (true, "669c61c4f52373a90f3db5c85bfd3483126573ad7e675f42b6907166e5c57dbc"), looks := false }, kinds := [], alts := [], laidByText := true, laidKinds := [.data, .data, .data], laidTests := true, laidLooks := .later }
def ReceiptDecodesUptoCardSaid : Prop := Claim7.holds Tryz.pinned (.plain (OpenSpec.upto receiptDecodesSpec)) receiptDecodesUptoCard

/-- THE SECOND FORM's CARD OF 'kinkeeplaw43.ReceiptContradicts'. -/
def receiptContradictsUptoCard : Claim7 := { stood := { row := receiptContradictsUptoRow, standIns := [], harness := (true, "669c61c4f52373a90f3db5c85bfd3483126573ad7e675f42b6907166e5c57dbc"), looks := false }, kinds := [], alts := [], laidByText := true, laidKinds := [.data, .data, .data], laidTests := true, laidLooks := .later }
def ReceiptContradictsUptoCardSaid : Prop := Claim7.holds Tryz.pinned (.plain (OpenSpec.upto receiptContradictsSpec)) receiptContradictsUptoCard

/-- THE SECOND FORM's CARD OF 'kinkeeplaw43.ReceiptBooks'. -/
def receiptBooksUptoCard : Claim7 := { stood := { row := receiptBooksUptoRow, standIns := [], harness := (true, "669c61c4f52373a90f3db5c85bfd3483126573ad7e675f42b6907166e5c57dbc"), looks := false }, kinds := [], alts := [], laidByText := true, laidKinds := [.data, .data, .data], laidTests := true, laidLooks := .later }
def ReceiptBooksUptoCardSaid : Prop := Claim7.holds Tryz.pinned (.plain (OpenSpec.upto receiptBooksSpec)) receiptBooksUptoCard

/-- THE SECOND FORM's CARD OF 'kinkeeplaw43.ReceiptOrder'. -/
def receiptOrderUptoCard : Claim7 := { stood := { row := receiptOrderUptoRow, standIns := [], harness := (true, "669c61c4f52373a90f3db5c85bfd3483126573ad7e675f42b6907166e5c57dbc"), looks := false }, kinds := [], alts := [], laidByText := true, laidKinds := [.data, .data, .data], laidTests := true, laidLooks := .later }
def ReceiptOrderUptoCardSaid : Prop := Claim7.holds Tryz.pinned (.plain (OpenSpec.upto receiptOrderSpec)) receiptOrderUptoCard

/-- THE SECOND FORM's CARD OF 'kinkeeplaw46.GossipForged'. -/
def gossipForgedUptoCard : Claim7 := { stood := { row := gossipForgedUptoRow, standIns := [], harness := (true, "669c61c4f52373a90f3db5c85bfd3483126573ad7e675f42b6907166e5c57dbc"), looks := false }, kinds := [], alts := [], laidByText := true, laidKinds := [.data, .data, .data], laidTests := true, laidLooks := .later }
def GossipForgedUptoCardSaid : Prop := Claim7.holds Tryz.pinned (.plain (OpenSpec.upto gossipForgedSpec)) gossipForgedUptoCard

/-- THE SECOND FORM's CARD OF 'kinkeeplaw46.GossipVerifies'. -/
def gossipVerifiesUptoCard : Claim7 := { stood := { row := gossipVerifiesUptoRow, standIns := [], harness := (true, "669c61c4f52373a90f3db5c85bfd3483126573ad7e675f42b6907166e5c57dbc"), looks := false }, kinds := [], alts := [], laidByText := true, laidKinds := [.data, .data, .data], laidTests := true, laidLooks := .later }
def GossipVerifiesUptoCardSaid : Prop := Claim7.holds Tryz.pinned (.plain (OpenSpec.upto gossipVerifiesSpec)) gossipVerifiesUptoCard
end Rows
end Go.Proofs.YtndlihclgdkpaaaGreatDoor
