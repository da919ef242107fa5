/-
  DERIVED. GIVEN WITH THE SEED: THE CARDS: each row of YtmcbnhkcjhlbaaaGreatDoorRows.lean that lists a variable, with what it lists TIED to the program's text (the seventh form; the later family's looks); each row that meets fmt, with fmt's text TOLD by the authors' own Lean function (tested against real Go, not proved from fmt's source: count such statements apart). THE CARD IS WHAT COUNTS. Prove the row's statement (the work); the ties are given (YtmcbnhkcjhlbaaaGreatDoorTie.lean); close each card by the builder's one call (the guide's Derived/Test/ToyasCard.lean, 'card_holds'). Laid BY PROGRAM, IN A SANDBOX (cutbox-door.mjs). By AI agents, Wed Nov 11 2026. No macro, syntax, notation, axiom, sorry.
-/
import Derived.Test.YtmcbnhkcjhlbaaaGreatDoorRows
import GoSem.ClaimSeven
namespace Go.Proofs.YtmcbnhkcjhlbaaaGreatDoor
namespace Rows

/-- THE TIED CARD OF 'kinkeeptop.TopScanChunks'. -/
def topScanChunksCard : Claim7 := { stood := { row := topScanChunksRow, standIns := [], harness := (true, "94a66c9dca03b589068f88ea1f00859e146d4a88f53f78df834a993c7a71a01b"), looks := false }, kinds := [], alts := [], laidByText := true, laidKinds := [.data, .data, .data, .data, .data, .pinned], laidTests := true, laidLooks := .later }
def TopScanChunksCardSaid : Prop := Claim7.holds Tryz.pinned (.plain (OpenSpec.ofChange topScanChunksSpec)) topScanChunksCard

/-- THE TIED CARD OF 'kinkeeptop.TopDiffBuild'. -/
def topDiffBuildCard : Claim7 := { stood := { row := topDiffBuildRow, standIns := [], harness := (true, "94a66c9dca03b589068f88ea1f00859e146d4a88f53f78df834a993c7a71a01b"), looks := false }, kinds := [], alts := [], laidByText := true, laidKinds := [.data, .data, .data, .data, .data, .pinned], laidTests := true, laidLooks := .later }
def TopDiffBuildCardSaid : Prop := Claim7.holds Tryz.pinned (.plain (OpenSpec.ofChange topDiffBuildSpec)) topDiffBuildCard

/-- THE SECOND FORM's CARD OF 'kinkeeptop.TopScanChunks'. -/
def topScanChunksUptoCard : Claim7 := { stood := { row := topScanChunksUptoRow, standIns := [], harness := (true, "94a66c9dca03b589068f88ea1f00859e146d4a88f53f78df834a993c7a71a01b"), looks := false }, kinds := [], alts := [], laidByText := true, laidKinds := [.data, .data, .data, .data, .data, .pinned], laidTests := true, laidLooks := .later }
def TopScanChunksUptoCardSaid : Prop := Claim7.holds Tryz.pinned (.plain (OpenSpec.upto topScanChunksSpec)) topScanChunksUptoCard

/-- THE SECOND FORM's CARD OF 'kinkeeptop.TopDiffBuild'. -/
def topDiffBuildUptoCard : Claim7 := { stood := { row := topDiffBuildUptoRow, standIns := [], harness := (true, "94a66c9dca03b589068f88ea1f00859e146d4a88f53f78df834a993c7a71a01b"), looks := false }, kinds := [], alts := [], laidByText := true, laidKinds := [.data, .data, .data, .data, .data, .pinned], laidTests := true, laidLooks := .later }
def TopDiffBuildUptoCardSaid : Prop := Claim7.holds Tryz.pinned (.plain (OpenSpec.upto topDiffBuildSpec)) topDiffBuildUptoCard
end Rows
end Go.Proofs.YtmcbnhkcjhlbaaaGreatDoor
