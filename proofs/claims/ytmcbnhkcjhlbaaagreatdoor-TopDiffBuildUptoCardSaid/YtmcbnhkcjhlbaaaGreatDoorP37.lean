/- Texts Tlf of the proof, each as a section; no premises beyond those that each theorem states. -/
import Derived.Test.YtmcbnhkcjhlbaaaGreatDoorTie
import Derived.ProofKit
import Derived.OpenShut
import Derived.ShutString
import Derived.SliceStrings
import Derived.ChangeMaps5
import Derived.ChangeOld
import Derived.LaidLaws
import Derived.LaidHandle
import Derived.LaidMore
import Derived.Lib.LaidTab
import Derived.Lib.LaidU8T
import Derived.PinnedBridge
import Derived.Lay
import Derived.MakeChecks
import Derived.SevenTiedAt
import Derived.SizedLaws
import Derived.Deep.DeepHandedRow
import Derived.Test.YtmcbnhkcjhlbaaaGreatDoorP11
import Derived.Test.YtmcbnhkcjhlbaaaGreatDoorP36
set_option linter.unusedVariables false
set_option linter.unusedSimpArgs false
namespace Go.Proofs.YtmcbnhkcjhlbaaaGreatDoor.Tp
open Go.ChangeShapes Go.WideShapes Go.ChangeAt Go.RowKit

theorem own : ownKnob Tryz.prog.godebug = none := by kernel_rfl
theorem laidOut : laidOutB Tryz.prog = true := by kernel_rfl
abbrev laid6 : List (String × DataW Unit) := [("math/bits.deBruijn64tab", Rows.laid_math_bits_deBruijn64tab), ("kinkeep/sha256.initial", Rows.laid_kinkeep_sha256_initial), ("kinkeep/sha256.constants", Rows.laid_kinkeep_sha256_constants), ("kinkeep/hmac.pads", Rows.laid_kinkeep_hmac_pads), ("unicode/utf8.acceptRanges", Rows.laid_unicode_utf8_acceptRanges), ("unicode/utf8.first", Rows.laid_unicode_utf8_first)]
theorem gTab : Tryz.prog.globalNamed "math/bits.deBruijn64tab" = some 4 := by kernel_rfl
theorem tTab : (Tryz.prog.globals[4]?).map (·.type) = some 162 := by kernel_rfl
theorem gIni : Tryz.prog.globalNamed "kinkeep/sha256.initial" = some 0 := by kernel_rfl
theorem tIni : (Tryz.prog.globals[0]?).map (·.type) = some 170 := by kernel_rfl
theorem gKon : Tryz.prog.globalNamed "kinkeep/sha256.constants" = some 1 := by kernel_rfl
theorem tKon : (Tryz.prog.globals[1]?).map (·.type) = some 241 := by kernel_rfl
theorem gPad : Tryz.prog.globalNamed "kinkeep/hmac.pads" = some 2 := by kernel_rfl
theorem tPad : (Tryz.prog.globals[2]?).map (·.type) = some 267 := by kernel_rfl
theorem cells32 : Tryz.prog.cellsOf 169 = 1 := by kernel_rfl
theorem cells8 : Tryz.prog.cellsOf 170 = 8 := by kernel_rfl
theorem cells64 : Tryz.prog.cellsOf 241 = 64 := by kernel_rfl
theorem cells64b : Tryz.prog.cellsOf 162 = 64 := by kernel_rfl
theorem cells2 : Tryz.prog.cellsOf 267 = 2 := by kernel_rfl
theorem u8Types : U8Types Tryz.prog lays196_ren := U8Types.of196 lays196
theorem u8Extra : U8Extra Tryz.prog lays196_ren := ⟨by kernel_rfl, by kernel_rfl, by kernel_rfl, by kernel_rfl, by kernel_rfl, by kernel_rfl, by kernel_rfl⟩
theorem accept_eq : Rows.laid_unicode_utf8_acceptRanges = Lib.acceptData := by kernel_rfl
theorem laid_tail {P : Program} {w : World} {n : String} {d : DataW Unit} {r : List (String × DataW Unit)} (h : laidMet P ((n, d) :: r) w) : laidMet P r w := by
  obtain ⟨ps, ⟨g, t, cs, fuel, p, q, _, _, _, _, hr, rfl⟩, hnd, hc⟩ := h
  exact ⟨q, hr, (List.nodup_append.1 hnd).2.1, fun b off hm => hc b off (List.mem_append_right _ hm)⟩
theorem laid_plain : (laid6.all fun x => x.2.handleName?.isNone) = true := by kernel_rfl
theorem of_laid {W : World} (h0 : laidMetH Tryz.prog laid6 W) : Laid W := by
  have h := h0
  rw [MakeChecks.laidMetH_plain _ _ _ laid_plain] at h
  have h1 : laidMet Tryz.prog (("kinkeep/sha256.initial", Lib.tabData .u32 (Sha.initL.map Int.ofNat)) :: ("kinkeep/sha256.constants", Lib.tabData .u32 (Sha.kList.map Int.ofNat)) :: ("kinkeep/hmac.pads", Lib.tabData .u8 [54, 92]) :: [("unicode/utf8.acceptRanges", Rows.laid_unicode_utf8_acceptRanges), ("unicode/utf8.first", Rows.laid_unicode_utf8_first)]) W := laid_tail h
  have h2 := laid_tail h1
  have h3 := laid_tail h2
  have t1 := Lib.tabIs_of_head gIni tIni Tryz.underlying170 Tryz.underlying169 cells32 cells8 h1
  have t2 := Lib.tabIs_of_head gKon tKon Tryz.underlying241 Tryz.underlying169 cells32 cells64 h2
  have t3 := Lib.tabIs_of_head gPad tPad Tryz.underlying267 Tryz.underlying5 cellsU8 cells2 h3
  refine ⟨fun t ht => ?_, fun i hi => ?_, t3.cell gPad 0 (by decide), t3.cell gPad 1 (by decide)⟩
  · have := t2.cell gKon t (by rw [List.length_map, Sha.kList_length]; exact ht)
    rw [this]
    have hk := Sha.kList_lt t ht
    unfold Sha.kon
    rw [Sha.ofNat_v _ hk, List.getD_eq_getElem?_getD, List.getD_eq_getElem?_getD, List.getElem?_map, List.getElem?_eq_getElem (by rw [Sha.kList_length]; exact ht)]
    rfl
  · have := t1.cell gIni i (by rw [List.length_map]; exact hi)
    rw [Nat.zero_add, this]
    match i, hi with
    | 0, _ => rfl
    | 1, _ => rfl
    | 2, _ => rfl
    | 3, _ => rfl
    | 4, _ => rfl
    | 5, _ => rfl
    | 6, _ => rfl
    | 7, _ => rfl
theorem tab_of_laid {W : World} (h0 : laidMetH Tryz.prog laid6 W) : TabAt 4 Lib.deBruijn64tab W := by
  have h := h0
  rw [MakeChecks.laidMetH_plain _ _ _ laid_plain] at h
  have h' : laidMet Tryz.prog (("math/bits.deBruijn64tab", Lib.tabData .u8 (Lib.deBruijn64tab.map Int.ofNat)) :: [("kinkeep/sha256.initial", Rows.laid_kinkeep_sha256_initial), ("kinkeep/sha256.constants", Rows.laid_kinkeep_sha256_constants), ("kinkeep/hmac.pads", Rows.laid_kinkeep_hmac_pads), ("unicode/utf8.acceptRanges", Rows.laid_unicode_utf8_acceptRanges), ("unicode/utf8.first", Rows.laid_unicode_utf8_first)]) W := h
  have ht := Lib.tabIs_of_head gTab tTab Tryz.underlying162 Tryz.underlying5 cellsU8 cells64b h'
  intro j hj
  have := ht.cell gTab j (by rw [List.length_map]; exact hj)
  rw [this, List.getD_eq_getElem?_getD, List.getD_eq_getElem?_getD, List.getElem?_map, List.getElem?_eq_getElem hj]
  rfl
theorem utf_of_laid {W : World} (h0 : laidMetH Tryz.prog laid6 W) : Lib.Utf8Tabs 5 6 W := by
  have h := h0
  rw [MakeChecks.laidMetH_plain _ _ _ laid_plain] at h
  have h4 : Lib.VarReads Tryz.prog W "unicode/utf8.acceptRanges" Lib.acceptData := accept_eq ▸ Lib.laidMet.reads h (by simp)
  have h3 : Lib.VarReads Tryz.prog W "unicode/utf8.first" Lib.firstData := Pinned.utf8First_eq ▸ Lib.laidMet.reads h (n := "unicode/utf8.first") (d := Rows.laid_unicode_utf8_first) (by simp)
  exact utf8Tabs_of_readsT u8Types u8Extra h3 h4
theorem mx_row : (((begin Tryz.prog (fun _ _ => 0) default).world.heap[3]?).bind Obj.row?) = some (#[.int .i64 0], 3) := by kernel_rfl
theorem glob_size : Tryz.prog.globals.size = 7 := by kernel_rfl
theorem int_buildable : Tryz.prog.buildable 3 = true := by kernel_rfl
theorem cell_int {P : Program} {w : World} {r : Reach} {b : Nat} {t : TypeId} {v : Value} (ht : P.underlying t = some (.int .i64)) (h : Cell.ok P w r b t v) : ∃ z, v = .int .i64 z := by
  simp only [Cell.ok, ht] at h
  cases v with
  | int k z =>
    have h1 : k = .i64 := by simpa using h.1
    exact ⟨z, by rw [h1]⟩
  | _ => simp at h
theorem int_cells : Tryz.prog.cellTypes Tryz.prog.depth 3 = some [3] := by kernel_rfl
theorem row_one {P : Program} {w : World} {r : Reach} {cs : Array Value} {t : TypeId} (ht : P.underlying t = some (.int .i64)) (hc : P.cellTypes P.depth t = some [t]) (hs : cs.size = 1) (h : Row.ok P w r 0 t cs) : ∃ z, cs = #[.int .i64 z] := by
  obtain ⟨ts, h4, _, h5⟩ := h
  have h6 : ts = [t] := Option.some.inj (h4.symm.trans hc)
  obtain ⟨l⟩ := cs
  match l, hs with
  | [v], _ =>
    obtain ⟨u, h8, h9⟩ := h5 0 v (by simp)
    rw [h6] at h8
    have h10 : u = t := by simpa using h8.symm
    rw [h10] at h9
    obtain ⟨z, rfl⟩ := cell_int ht h9
    exact ⟨z, rfl⟩
theorem glob_row {P : Program} {W : World} {g : Nat} {t : TypeId} {zero : Array Value} (hs : W.ShapedOpen P) (hg : g < P.globals.size) (hr : (((begin P (fun _ _ => 0) default).world.heap[g]?).bind Obj.row?) = some (zero, t)) (hz : zero.size = 1) (ht : P.underlying t = some (.int .i64)) (hc : P.cellTypes P.depth t = some [t]) (hb : P.buildable t = true) : ∃ m, W.cell? ⟨g, 0, none⟩ = some (.int .i64 m) := by
  obtain ⟨cs, h1, h2, h3⟩ := hs.1 g _ _ hg hr
  obtain ⟨z, hz2⟩ := row_one ht hc (h2.trans hz) (h3 hb)
  rw [hz2] at h1
  exact ⟨z, (cell_of_row _ _ _ _ _ _ h1).trans rfl⟩
theorem mx_of {W : World} (hs : W.ShapedOpen Tryz.prog) : ∃ m, W.cell? ⟨3, 0, none⟩ = some (.int .i64 m) :=
  glob_row hs (by rw [glob_size]; decide) mx_row rfl Tryz.underlying3 int_cells int_buildable
theorem top_of {W : World} (h : laidMetH Tryz.prog laid6 W) (hs : W.ShapedOpen Tryz.prog) : Top W := by
  have hu := utf_of_laid h
  refine ⟨of_laid h, tab_of_laid h, hu, ?_, ?_⟩
  · exact mx_of hs
  · have h6 := World.block_lt_of_cell? W _ (hu.2 0 (by decide)).1
    exact h6
end Go.Proofs.YtmcbnhkcjhlbaaaGreatDoor.Tp
