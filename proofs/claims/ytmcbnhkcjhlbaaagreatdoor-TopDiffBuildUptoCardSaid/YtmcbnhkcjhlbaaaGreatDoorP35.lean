/- Texts Lift of the proof, each as a section; no premises beyond those that each theorem states. -/
import Derived.Test.YtmcbnhkcjhlbaaaGreatDoorTie
import Derived.ProofKit
import Derived.OpenShut
import Derived.ShutString
import Derived.SliceStrings
import Derived.ChangeMaps5
import Derived.ChangeOld
import Derived.LaidLaws
import Derived.LaidHandle
import Derived.LaidMore
import Derived.Lib.LaidTab
import Derived.MakeChecks
import Derived.SevenTiedAt
import Derived.Lib.SmallJoins
import Derived.SizedLaws
import Derived.Test.YtmcbnhkcjhlbaaaGreatDoorP04
set_option linter.unusedVariables false
set_option linter.unusedSimpArgs false
namespace Go.Proofs.YtmcbnhkcjhlbaaaGreatDoor
open Go.ChangeShapes Go.WideShapes Go.ChangeAt Go.RowKit

theorem own : ownKnob Tryz.prog.godebug = none := by kernel_rfl
theorem laidOut : laidOutB Tryz.prog = true := by kernel_rfl
abbrev laid1 : List (String × DataW Unit) := [("kinkeep/sha256.initial", Rows.laid_kinkeep_sha256_initial), ("kinkeep/sha256.constants", Rows.laid_kinkeep_sha256_constants), ("kinkeep/hmac.pads", Rows.laid_kinkeep_hmac_pads)]
theorem gIni : Tryz.prog.globalNamed "kinkeep/sha256.initial" = some 0 := by kernel_rfl
theorem tIni : (Tryz.prog.globals[0]?).map (·.type) = some 170 := by kernel_rfl
theorem gKon : Tryz.prog.globalNamed "kinkeep/sha256.constants" = some 1 := by kernel_rfl
theorem tKon : (Tryz.prog.globals[1]?).map (·.type) = some 241 := by kernel_rfl
theorem gPad : Tryz.prog.globalNamed "kinkeep/hmac.pads" = some 2 := by kernel_rfl
theorem tPad : (Tryz.prog.globals[2]?).map (·.type) = some 267 := by kernel_rfl
theorem cells32 : Tryz.prog.cellsOf 169 = 1 := by kernel_rfl
theorem cells8 : Tryz.prog.cellsOf 170 = 8 := by kernel_rfl
theorem cells64 : Tryz.prog.cellsOf 241 = 64 := by kernel_rfl
theorem cells2 : Tryz.prog.cellsOf 267 = 2 := by kernel_rfl
theorem cellsU8 : Tryz.prog.cellsOf 5 = 1 := by kernel_rfl
theorem cellsInt : Tryz.prog.cellsOf 3 = 1 := by kernel_rfl
theorem cellsStr : Tryz.prog.cellsOf 9 = 1 := by kernel_rfl
theorem laid_tail {P : Program} {w : World} {n : String} {d : DataW Unit} {r : List (String × DataW Unit)} (h : laidMet P ((n, d) :: r) w) : laidMet P r w := by
  obtain ⟨ps, ⟨g, t, cs, fuel, p, q, _, _, _, _, hr, rfl⟩, hnd, hc⟩ := h
  exact ⟨q, hr, (List.nodup_append.1 hnd).2.1, fun b off hm => hc b off (List.mem_append_right _ hm)⟩
theorem of_laid {W : World} (h : laidMetH Tryz.prog laid1 W) : Laid W := by
  rw [MakeChecks.laidMetH_plain _ _ _ (by kernel_rfl)] at h
  have h1 : laidMet Tryz.prog (("kinkeep/sha256.initial", Lib.tabData .u32 (Sha.initL.map Int.ofNat)) :: ("kinkeep/sha256.constants", Lib.tabData .u32 (Sha.kList.map Int.ofNat)) :: ("kinkeep/hmac.pads", Lib.tabData .u8 [54, 92]) :: []) W := h
  have h2 := laid_tail h1
  have h3 := laid_tail h2
  have t1 := Lib.tabIs_of_head gIni tIni Tryz.underlying170 Tryz.underlying169 cells32 cells8 h1
  have t2 := Lib.tabIs_of_head gKon tKon Tryz.underlying241 Tryz.underlying169 cells32 cells64 h2
  have t3 := Lib.tabIs_of_head gPad tPad Tryz.underlying267 Tryz.underlying5 cellsU8 cells2 h3
  refine ⟨fun t ht => ?_, fun i hi => ?_, t3.cell gPad 0 (by decide), t3.cell gPad 1 (by decide)⟩
  · have := t2.cell gKon t (by rw [List.length_map, Sha.kList_length]; exact ht)
    rw [this]
    have hk := Sha.kList_lt t ht
    unfold Sha.kon
    rw [Sha.ofNat_v _ hk, List.getD_eq_getElem?_getD, List.getD_eq_getElem?_getD, List.getElem?_map, List.getElem?_eq_getElem (by rw [Sha.kList_length]; exact ht)]
    rfl
  · have := t1.cell gIni i (by rw [List.length_map]; exact hi)
    rw [Nat.zero_add, this]
    match i, hi with
    | 0, _ => rfl
    | 1, _ => rfl
    | 2, _ => rfl
    | 3, _ => rfl
    | 4, _ => rfl
    | 5, _ => rfl
    | 6, _ => rfl
    | 7, _ => rfl

end Go.Proofs.YtmcbnhkcjhlbaaaGreatDoor
