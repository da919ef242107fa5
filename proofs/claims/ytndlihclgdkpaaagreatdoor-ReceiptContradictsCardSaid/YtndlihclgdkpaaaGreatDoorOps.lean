/- The opening of a signature that came in. -/
import Derived.Test.YtndlihclgdkpaaaGreatDoorGb
import Derived.Test.YtndlihclgdkpaaaGreatDoorGf
set_option linter.unusedVariables false
set_option linter.unusedSimpArgs false
open Go.Lib (hid)
namespace Go.Proofs.YtndlihclgdkpaaaGreatDoor
open Go.ChangeShapes Go.WideShapes Go.ChangeAt Go.RowKit
theorem cellsStrs: Tryz.prog.cellsOf 43 =1:=by kernel_rfl
end Go.Proofs.YtndlihclgdkpaaaGreatDoor
