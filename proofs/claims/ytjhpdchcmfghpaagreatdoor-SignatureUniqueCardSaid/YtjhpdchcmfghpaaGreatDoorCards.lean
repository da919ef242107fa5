/-
  DERIVED. GIVEN WITH THE SEED: THE CARDS: each row of YtjhpdchcmfghpaaGreatDoorRows.lean that lists a variable, with what it lists TIED to the program's text (the seventh form; the later family's looks); each row that meets fmt, with fmt's text TOLD by the authors' own Lean function (tested against real Go, not proved from fmt's source: count such statements apart). THE CARD IS WHAT COUNTS. Prove the row's statement (the work); the ties are given (YtjhpdchcmfghpaaGreatDoorTie.lean); close each card by the builder's one call (the guide's Derived/Test/ToyasCard.lean, 'card_holds'). Laid BY PROGRAM, IN A SANDBOX (cutbox-door.mjs). By AI agents, Wed Nov 11 2026. No macro, syntax, notation, axiom, sorry.
-/
import Derived.Test.YtjhpdchcmfghpaaGreatDoorRows
import GoSem.ClaimSeven
namespace Go.Proofs.YtjhpdchcmfghpaaGreatDoor
namespace Rows

/-- THE TIED CARD OF 'kinkeeplaw13.SignatureUnique'. -/
def signatureUniqueCard : Claim7 := { stood := { row := signatureUniqueRow, standIns := [], harness := (true, "12c947585c86bae91bed0b14012c1a40db1738558cfa766660282181bf8e0794"), looks := false }, kinds := [], alts := [], laidByText := true, laidKinds := [.data, .data, .data], laidTests := true, laidLooks := .later }
def SignatureUniqueCardSaid : Prop := Claim7.holds Tryz.pinned (.plain (OpenSpec.ofChange signatureUniqueSpec)) signatureUniqueCard

/-- THE TIED CARD OF 'kinkeeplaw13.SignatureRuns'. -/
def signatureRunsCard : Claim7 := { stood := { row := signatureRunsRow, standIns := [], harness := (true, "12c947585c86bae91bed0b14012c1a40db1738558cfa766660282181bf8e0794"), looks := false }, kinds := [], alts := [], laidByText := true, laidKinds := [.data, .data, .data], laidTests := true, laidLooks := .later }
def SignatureRunsCardSaid : Prop := Claim7.holds Tryz.pinned (.plain (OpenSpec.ofChange signatureRunsSpec)) signatureRunsCard

/-- THE SECOND FORM's CARD OF 'kinkeeplaw13.SignatureUnique'. -/
def signatureUniqueUptoCard : Claim7 := { stood := { row := signatureUniqueUptoRow, standIns := [], harness := (true, "12c947585c86bae91bed0b14012c1a40db1738558cfa766660282181bf8e0794"), looks := false }, kinds := [], alts := [], laidByText := true, laidKinds := [.data, .data, .data], laidTests := true, laidLooks := .later }
def SignatureUniqueUptoCardSaid : Prop := Claim7.holds Tryz.pinned (.plain (OpenSpec.upto signatureUniqueSpec)) signatureUniqueUptoCard

/-- THE SECOND FORM's CARD OF 'kinkeeplaw13.SignatureRuns'. -/
def signatureRunsUptoCard : Claim7 := { stood := { row := signatureRunsUptoRow, standIns := [], harness := (true, "12c947585c86bae91bed0b14012c1a40db1738558cfa766660282181bf8e0794"), looks := false }, kinds := [], alts := [], laidByText := true, laidKinds := [.data, .data, .data], laidTests := true, laidLooks := .later }
def SignatureRunsUptoCardSaid : Prop := Claim7.holds Tryz.pinned (.plain (OpenSpec.upto signatureRunsSpec)) signatureRunsUptoCard
end Rows
end Go.Proofs.YtjhpdchcmfghpaaGreatDoor
