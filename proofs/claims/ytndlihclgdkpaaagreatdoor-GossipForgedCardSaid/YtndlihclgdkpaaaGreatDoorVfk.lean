/- gossip: VerifyFork, walked. -/
import Derived.Lib.MinMax
import Derived.Test.YtndlihclgdkpaaaGreatDoorGc
import Derived.Test.YtndlihclgdkpaaaGreatDoorGg
import Derived.Test.YtndlihclgdkpaaaGreatDoorVcw
set_option linter.unusedVariables false
set_option linter.unusedSimpArgs false
open Go.Lib (hid)
namespace Go.Proofs.YtndlihclgdkpaaaGreatDoor
open Go.RowKit
open Kit (Chg)
open Sha (v)
open Go.Proofs.YtndlihclgdkpaaaGreatDoor.One
theorem HeadIn.later {w w':World} {x:HV} (h:HeadIn w x) (hb:Below w.heap.size w w'):HeadIn w' x:=⟨h.1,h.2.1,h.2.2.1.later hb,h.2.2.2.later hb⟩
end Go.Proofs.YtndlihclgdkpaaaGreatDoor
