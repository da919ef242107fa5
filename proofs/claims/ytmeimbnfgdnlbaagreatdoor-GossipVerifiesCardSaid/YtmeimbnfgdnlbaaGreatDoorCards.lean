/-
  DERIVED. GIVEN WITH THE SEED: THE CARDS: each row of YtmeimbnfgdnlbaaGreatDoorRows.lean that lists a variable, with what it lists TIED to the program's text (the seventh form; the later family's looks); each row that meets fmt, with fmt's text TOLD by the authors' own Lean function (tested against real Go, not proved from fmt's source: count such statements apart). THE CARD IS WHAT COUNTS. Prove the row's statement (the work); the ties are given (YtmeimbnfgdnlbaaGreatDoorTie.lean); close each card by the builder's one call (the guide's Derived/Test/ToyasCard.lean, 'card_holds'). Laid BY PROGRAM, IN A SANDBOX (cutbox-door.mjs). By AI agents, Wed Nov 11 2026. No macro, syntax, notation, axiom, sorry.
-/
import Derived.Test.YtmeimbnfgdnlbaaGreatDoorRows
import GoSem.ClaimSeven
namespace Go.Proofs.YtmeimbnfgdnlbaaGreatDoor
namespace Rows

/-- THE TIED CARD OF 'kinkeeplaw46.GossipChains'. -/
def gossipChainsCard : Claim7 := { stood := { row := gossipChainsRow, standIns := [], harness := (true, "746153efa1a84636d505071bda3b4f7509e5a3fa2a64f82404ce3b7ca4ef1ba7"), looks := false }, kinds := [], alts := [], laidByText := true, laidKinds := [.data, .data, .data], laidTests := true, laidLooks := .later }
def GossipChainsCardSaid : Prop := Claim7.holds Tryz.pinned (.plain (OpenSpec.ofChange gossipChainsSpec)) gossipChainsCard

/-- THE TIED CARD OF 'kinkeeplaw46.GossipForged'. -/
def gossipForgedCard : Claim7 := { stood := { row := gossipForgedRow, standIns := [], harness := (true, "746153efa1a84636d505071bda3b4f7509e5a3fa2a64f82404ce3b7ca4ef1ba7"), looks := false }, kinds := [], alts := [], laidByText := true, laidKinds := [.data, .data, .data], laidTests := true, laidLooks := .later }
def GossipForgedCardSaid : Prop := Claim7.holds Tryz.pinned (.plain (OpenSpec.ofChange gossipForgedSpec)) gossipForgedCard

/-- THE TIED CARD OF 'kinkeeplaw46.GossipVerifies'. -/
def gossipVerifiesCard : Claim7 := { stood := { row := gossipVerifiesRow, standIns := [], harness := (true, "746153efa1a84636d505071bda3b4f7509e5a3fa2a64f82404ce3b7ca4ef1ba7"), looks := false }, kinds := [], alts := [], laidByText := true, laidKinds := [.data, .data, .data], laidTests := true, laidLooks := .later }
def GossipVerifiesCardSaid : Prop := Claim7.holds Tryz.pinned (.plain (OpenSpec.ofChange gossipVerifiesSpec)) gossipVerifiesCard

/-- THE TIED CARD OF 'kinkeeplaw46.GossipForks'. -/
def gossipForksCard : Claim7 := { stood := { row := gossipForksRow, standIns := [], harness := (true, "746153efa1a84636d505071bda3b4f7509e5a3fa2a64f82404ce3b7ca4ef1ba7"), looks := false }, kinds := [], alts := [], laidByText := true, laidKinds := [.data, .data, .data], laidTests := true, laidLooks := .later }
def GossipForksCardSaid : Prop := Claim7.holds Tryz.pinned (.plain (OpenSpec.ofChange gossipForksSpec)) gossipForksCard

/-- THE TIED CARD OF 'kinkeeplaw46.GossipEncodes'. -/
def gossipEncodesCard : Claim7 := { stood := { row := gossipEncodesRow, standIns := [], harness := (true, "746153efa1a84636d505071bda3b4f7509e5a3fa2a64f82404ce3b7ca4ef1ba7"), looks := false }, kinds := [], alts := [], laidByText := true, laidKinds := [.data, .data, .data], laidTests := true, laidLooks := .later }
def GossipEncodesCardSaid : Prop := Claim7.holds Tryz.pinned (.plain (OpenSpec.ofChange gossipEncodesSpec)) gossipEncodesCard

/-- THE TIED CARD OF 'kinkeeplaw46.GossipDecodes'. -/
def gossipDecodesCard : Claim7 := { stood := { row := gossipDecodesRow, standIns := [], harness := (true, "746153efa1a84636d505071bda3b4f7509e5a3fa2a64f82404ce3b7ca4ef1ba7"), looks := false }, kinds := [], alts := [], laidByText := true, laidKinds := [.data, .data, .data], laidTests := true, laidLooks := .later }
def GossipDecodesCardSaid : Prop := Claim7.holds Tryz.pinned (.plain (OpenSpec.ofChange gossipDecodesSpec)) gossipDecodesCard

/-- THE SECOND FORM's CARD OF 'kinkeeplaw46.GossipChains'. -/
def gossipChainsUptoCard : Claim7 := { stood := { row := gossipChainsUptoRow, standIns := [], harness := (true, "746153efa1a84636d505071bda3b4f7509e5a3fa2a64f82404ce3b7ca4ef1ba7"), looks := false }, kinds := [], alts := [], laidByText := true, laidKinds := [.data, .data, .data], laidTests := true, laidLooks := .later }
def GossipChainsUptoCardSaid : Prop := Claim7.holds Tryz.pinned (.plain (OpenSpec.upto gossipChainsSpec)) gossipChainsUptoCard

/-- THE SECOND FORM's CARD OF 'kinkeeplaw46.GossipForged'. -/
def gossipForgedUptoCard : Claim7 := { stood := { row := gossipForgedUptoRow, standIns := [], harness := (true, "746153efa1a84636d505071bda3b4f7509e5a3fa2a64f82404ce3b7ca4ef1ba7"), looks := false }, kinds := [], alts := [], laidByText := true, laidKinds := [.data, .data, .data], laidTests := true, laidLooks := .later }
def GossipForgedUptoCardSaid : Prop := Claim7.holds Tryz.pinned (.plain (OpenSpec.upto gossipForgedSpec)) gossipForgedUptoCard

/-- THE SECOND FORM's CARD OF 'kinkeeplaw46.GossipVerifies'. -/
def gossipVerifiesUptoCard : Claim7 := { stood := { row := gossipVerifiesUptoRow, standIns := [], harness := (true, "746153efa1a84636d505071bda3b4f7509e5a3fa2a64f82404ce3b7ca4ef1ba7"), looks := false }, kinds := [], alts := [], laidByText := true, laidKinds := [.data, .data, .data], laidTests := true, laidLooks := .later }
def GossipVerifiesUptoCardSaid : Prop := Claim7.holds Tryz.pinned (.plain (OpenSpec.upto gossipVerifiesSpec)) gossipVerifiesUptoCard

/-- THE SECOND FORM's CARD OF 'kinkeeplaw46.GossipForks'. -/
def gossipForksUptoCard : Claim7 := { stood := { row := gossipForksUptoRow, standIns := [], harness := (true, "746153efa1a84636d505071bda3b4f7509e5a3fa2a64f82404ce3b7ca4ef1ba7"), looks := false }, kinds := [], alts := [], laidByText := true, laidKinds := [.data, .data, .data], laidTests := true, laidLooks := .later }
def GossipForksUptoCardSaid : Prop := Claim7.holds Tryz.pinned (.plain (OpenSpec.upto gossipForksSpec)) gossipForksUptoCard

/-- THE SECOND FORM's CARD OF 'kinkeeplaw46.GossipEncodes'. -/
def gossipEncodesUptoCard : Claim7 := { stood := { row := gossipEncodesUptoRow, standIns := [], harness := (true, "746153efa1a84636d505071bda3b4f7509e5a3fa2a64f82404ce3b7ca4ef1ba7"), looks := false }, kinds := [], alts := [], laidByText := true, laidKinds := [.data, .data, .data], laidTests := true, laidLooks := .later }
def GossipEncodesUptoCardSaid : Prop := Claim7.holds Tryz.pinned (.plain (OpenSpec.upto gossipEncodesSpec)) gossipEncodesUptoCard

/-- THE SECOND FORM's CARD OF 'kinkeeplaw46.GossipDecodes'. -/
def gossipDecodesUptoCard : Claim7 := { stood := { row := gossipDecodesUptoRow, standIns := [], harness := (true, "746153efa1a84636d505071bda3b4f7509e5a3fa2a64f82404ce3b7ca4ef1ba7"), looks := false }, kinds := [], alts := [], laidByText := true, laidKinds := [.data, .data, .data], laidTests := true, laidLooks := .later }
def GossipDecodesUptoCardSaid : Prop := Claim7.holds Tryz.pinned (.plain (OpenSpec.upto gossipDecodesSpec)) gossipDecodesUptoCard
end Rows
end Go.Proofs.YtmeimbnfgdnlbaaGreatDoor
