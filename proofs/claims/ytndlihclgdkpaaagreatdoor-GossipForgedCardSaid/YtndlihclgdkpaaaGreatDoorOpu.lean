/- The opening of bytes (one byte each) that came in. -/
import Derived.Test.YtndlihclgdkpaaaGreatDoorGb
set_option linter.unusedVariables false
set_option linter.unusedSimpArgs false
open Go.Lib (hid)
namespace Go.Proofs.YtndlihclgdkpaaaGreatDoor
theorem u8_of_wf {n:Int} (h:(Lit.int .u8 n).wf=true): ∃k:Nat,k<256∧n=(k:Int):=by
 have hb:0≤n∧n<256:=by
  simp [Lit.wf,IntKind.min,IntKind.max,IntKind.bits,IntKind.signed] at h
  omega
 refine ⟨n.toNat,?_,?_⟩<;> omega
end Go.Proofs.YtndlihclgdkpaaaGreatDoor
