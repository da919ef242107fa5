/- The document's Merkle root, leaves and public key of a signer. -/
import Derived.Test.YtmeimbnfgdnlbaaGreatDoorGh
set_option linter.unusedVariables false
set_option linter.unusedSimpArgs false
open Go.Lib (hid)
namespace Go.Proofs.YtmeimbnfgdnlbaaGreatDoor
open Go.RowKit
open Kit (Chg)
open Sha (v)
open Go.Proofs.YtmeimbnfgdnlbaaGreatDoor.One
end Go.Proofs.YtmeimbnfgdnlbaaGreatDoor
