/- What every lifted proof of this seat shares: what is laid, the opening of parameters and lists of strings. -/
import Derived.Test.YtmnendoloankgaaDoorMac
import Derived.Test.YtmnendoloankgaaDoorTie
import Derived.ProofKit
import Derived.OpenShut
import Derived.ShutString
import Derived.SliceStrings
import Derived.ChangeMaps5
import Derived.ChangeOld
import Derived.LaidLaws
import Derived.LaidHandle
import Derived.LaidMore
import Derived.Lib.LaidTab
import Derived.MakeChecks
import Derived.SevenTiedAt
import Derived.Lib.SmallJoins
import Derived.SizedLaws
namespace Go.Proofs.YtmnendoloankgaaDoor
open Go.ChangeShapes Go.WideShapes Go.ChangeAt Go.RowKit
set_option linter.unusedVariables false
set_option linter.unusedSimpArgs false

theorem own : ownKnob Tryd.prog.godebug = none := by kernel_rfl
theorem laidOut : laidOutB Tryd.prog = true := by kernel_rfl
abbrev laid1 : List (String × DataW Unit) := [("kinkeep/sha256.initial", Rows.laid_kinkeep_sha256_initial), ("kinkeep/sha256.constants", Rows.laid_kinkeep_sha256_constants), ("kinkeep/hmac.pads", Rows.laid_kinkeep_hmac_pads)]
theorem gIni : Tryd.prog.globalNamed "kinkeep/sha256.initial" = some 1 := by kernel_rfl
theorem tIni : (Tryd.prog.globals[1]?).map (·.type) = some 128 := by kernel_rfl
theorem gKon : Tryd.prog.globalNamed "kinkeep/sha256.constants" = some 2 := by kernel_rfl
theorem tKon : (Tryd.prog.globals[2]?).map (·.type) = some 149 := by kernel_rfl
theorem gPad : Tryd.prog.globalNamed "kinkeep/hmac.pads" = some 0 := by kernel_rfl
theorem tPad : (Tryd.prog.globals[0]?).map (·.type) = some 144 := by kernel_rfl
theorem cells32 : Tryd.prog.cellsOf 127 = 1 := by kernel_rfl
theorem cells8 : Tryd.prog.cellsOf 128 = 8 := by kernel_rfl
theorem cells64 : Tryd.prog.cellsOf 149 = 64 := by kernel_rfl
theorem cells2 : Tryd.prog.cellsOf 144 = 2 := by kernel_rfl
theorem cellsU8 : Tryd.prog.cellsOf 5 = 1 := by kernel_rfl
theorem cellsInt : Tryd.prog.cellsOf 3 = 1 := by kernel_rfl
theorem cellsStr : Tryd.prog.cellsOf 9 = 1 := by kernel_rfl
theorem cellsPar : Tryd.prog.cellsOf 23 = 2 := by kernel_rfl
theorem door_met (os : Os) (args : Array Value) : laidMetH Tryd.prog laid1 ((World.doorLaid Tryd.prog 24 os).forCall (fun _ _ => 0) ⟨#[], args, []⟩).memory :=
  laidMetH_of_parts3 (fuel := 8) (laidMet_of_run' 8 (by kernel_rfl) (by kernel_rfl)) (by kernel_rfl) (by kernel_rfl)

theorem laid_tail {P : Program} {w : World} {n : String} {d : DataW Unit} {r : List (String × DataW Unit)} (h : laidMet P ((n, d) :: r) w) : laidMet P r w := by
  obtain ⟨ps, ⟨g, t, cs, fuel, p, q, _, _, _, _, hr, rfl⟩, hnd, hc⟩ := h
  exact ⟨q, hr, (List.nodup_append.1 hnd).2.1, fun b off hm => hc b off (List.mem_append_right _ hm)⟩
theorem of_laid {W : World} (h : laidMetH Tryd.prog laid1 W) : Laid W := by
  rw [MakeChecks.laidMetH_plain _ _ _ (by kernel_rfl)] at h
  have h1 : laidMet Tryd.prog (("kinkeep/sha256.initial", Lib.tabData .u32 (Sha.initL.map Int.ofNat)) :: ("kinkeep/sha256.constants", Lib.tabData .u32 (Sha.kList.map Int.ofNat)) :: ("kinkeep/hmac.pads", Lib.tabData .u8 [54, 92]) :: []) W := h
  have h2 := laid_tail h1
  have h3 := laid_tail h2
  have t1 := Lib.tabIs_of_head gIni tIni Tryd.underlying128 Tryd.underlying127 cells32 cells8 h1
  have t2 := Lib.tabIs_of_head gKon tKon Tryd.underlying149 Tryd.underlying127 cells32 cells64 h2
  have t3 := Lib.tabIs_of_head gPad tPad Tryd.underlying144 Tryd.underlying5 cellsU8 cells2 h3
  refine ⟨fun t ht => ?_, fun i hi => ?_, t3.cell gPad 0 (by decide), t3.cell gPad 1 (by decide)⟩
  · have := t2.cell gKon t (by rw [List.length_map, Sha.kList_length]; exact ht)
    rw [this]
    have hk := Sha.kList_lt t ht
    unfold Sha.kon
    rw [Sha.ofNat_v _ hk, List.getD_eq_getElem?_getD, List.getD_eq_getElem?_getD, List.getElem?_map, List.getElem?_eq_getElem (by rw [Sha.kList_length]; exact ht)]
    rfl
  · have := t1.cell gIni i (by rw [List.length_map]; exact hi)
    rw [Nat.zero_add, this]
    match i, hi with
    | 0, _ => rfl
    | 1, _ => rfl
    | 2, _ => rfl
    | 3, _ => rfl
    | 4, _ => rfl
    | 5, _ => rfl
    | 6, _ => rfl
    | 7, _ => rfl

theorem array2 {α : Type} {cs : Array α} (h : cs.size = 2) : ∃ c0 c1, cs = #[c0, c1] := by
  obtain ⟨l⟩ := cs
  match l, h with
  | [c0, c1], _ => exact ⟨c0, c1, rfl⟩
theorem Tryd.fieldsPar : (match Tryd.prog.underlying 23 with | some (.struct fields) => fields.toList.map (fun f => (f.type, f.offset)) | _ => []) = [(3, 0), (3, 1)] := by kernel_rfl
set_option maxRecDepth 100000 in
theorem open_params {H : Type} {enc : TypeId × Value → H} {W : World} {base : Nat} {spare : Nat → Bool} {held : Bool} {r : Reach} {b0 : Nat} {v : Value} {d : DataW H} {p : List MemPlace} (hv : Value.okWide Tryd.prog W r b0 23 v) (h : DataW.Trod enc Tryd.prog W base spare held 23 v d p) :
    ∃ (B S : Int), v = .agg #[.int .i64 B, .int .i64 S] := by
  have hF := Tryd.fieldsPar
  cases hu : Tryd.prog.underlying 23 with
  | none => rw [hu] at hF; simp at hF
  | some td =>
    rw [hu] at hF
    cases td with
    | struct fields =>
      obtain ⟨cs, rfl, hsz⟩ := okWide_struct hu hv
      obtain ⟨c0, c1, rfl⟩ := array2 (hsz.trans cellsPar)
      obtain ⟨fuel, hf⟩ := h
      obtain ⟨xs, n, _, _, hl, hlen, hf⟩ := DataW.trod_struct hu hf
      obtain ⟨fl⟩ := fields
      match fl, hF with
      | [f0, f1], hF =>
        simp only [List.map_cons, List.map_nil, List.cons.injEq, Prod.mk.injEq, and_true] at hF
        obtain ⟨⟨t0, o0⟩, ⟨t1, o1⟩⟩ := hF
        match xs, hlen with
        | [y0, y1], _ =>
          have h0 := hf 0 f0 rfl
          have h1 := hf 1 f1 rfl
          rw [t0, o0, cellsInt] at h0
          rw [t1, o1, cellsInt] at h1
          obtain ⟨n0, e0, _, w0⟩ := DataW.trod_int Tryd.underlying3 h0
          obtain ⟨n1, e1, _, w1⟩ := DataW.trod_int Tryd.underlying3 h1
          simp [Value.cells] at e0 e1
          exact ⟨n0, n1, by rw [e0, e1]⟩
    | _ => simp at hF
/-- A list of strings that came in. -/
theorem open_strs {H : Type} {enc : TypeId × Value → H} {W : World} {a : Option Addr} {len cap fuel : Nat} {x : DataW H × List MemPlace}
    (hf : DataW.trod enc Tryd.prog W 0 (fun _ => true) true fuel 47 [.slice a len cap] = some x) :
    ∃ ss : List ByteArray, ss.length = len ∧ len ≤ 9223372036854775807 ∧ StrsAt W a ss := by
  rcases open_strings Tryd.underlying47 Tryd.underlying9 cellsStr hf with ⟨hcs, _⟩ | ⟨ad, l, c, zs, hcs, _, hl, hm, hz, hx, hcell, hwz⟩
  · simp at hcs
    obtain ⟨rfl, rfl, rfl⟩ := hcs
    exact ⟨[], rfl, by omega, .inl rfl⟩
  · simp at hcs
    obtain ⟨rfl, rfl, rfl⟩ := hcs
    simp only [if_true] at hz
    have hlen : (zs.take len).length = len := by rw [List.length_take]; omega
    have hmx : len ≤ 9223372036854775807 := Nat.le_trans hl hm
    refine ⟨zs.take len, hlen, hmx, ?_⟩
    by_cases h0 : len = 0
    · left
      exact List.eq_nil_of_length_eq_zero (by rw [hlen]; exact h0)
    · right
      obtain ⟨b, off, spot⟩ := ad
      have hspot : spot = none := by simpa [Addr.add] using World.cell?_spot (hcell 0 (by omega))
      subst hspot
      refine ⟨b, off, rfl, fun i hi => ?_⟩
      rw [hlen] at hi
      have hc := hcell i (by omega)
      rw [add_none] at hc
      rw [hc, List.getD_eq_getElem?_getD, List.getD_eq_getElem?_getD, List.getElem?_take_of_lt hi]
end Go.Proofs.YtmnendoloankgaaDoor
