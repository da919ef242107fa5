/- What every lifted proof of this seat shares: the table that is laid, the opening of byte slices. -/
import Derived.Test.YtfnhcjcahcacnaaDoorApp
import Derived.Test.YtfnhcjcahcacnaaDoorTie
import Derived.ProofKit
import Derived.OpenShut
import Derived.ShutString
import Derived.ChangeOld
import Derived.LaidLaws
import Derived.LaidHandle
import Derived.LaidMore
import Derived.Lib.LaidTab
import Derived.MakeChecks
import Derived.SevenTiedAt
namespace Go.Proofs.YtfnhcjcahcacnaaDoor
open Go.ChangeShapes Go.WideShapes Go.ChangeAt Go.RowKit
open Roll (u)

theorem own : ownKnob Tryd.prog.godebug = none := by kernel_rfl
theorem laidOut : laidOutB Tryd.prog = true := by kernel_rfl
abbrev laid1 : List (String × DataW Unit) := [("math/bits.deBruijn64tab", Rows.laid_math_bits_deBruijn64tab)]
theorem gTab : Tryd.prog.globalNamed "math/bits.deBruijn64tab" = some 0 := by kernel_rfl
theorem tTab : (Tryd.prog.globals[0]?).map (·.type) = some 77 := by kernel_rfl
theorem cells5 : Tryd.prog.cellsOf 5 = 1 := by kernel_rfl
theorem cells77 : Tryd.prog.cellsOf 77 = 64 := by kernel_rfl
theorem bytes5 : Tryd.prog.bytesOf 5 = 1 := by kernel_rfl
theorem door_met (os : Os) (args : Array Value) : laidMetH Tryd.prog laid1 ((World.doorLaid Tryd.prog 14 os).forCall (fun _ _ => 0) ⟨#[], args, []⟩).memory :=
  laidMetH_of_parts3 (fuel := 8) (laidMet_of_run' 8 (by kernel_rfl) (by kernel_rfl)) (by kernel_rfl) (by kernel_rfl)

theorem of_laid {W : World} (h : laidMetH Tryd.prog laid1 W) : TabAt 0 Lib.deBruijn64tab W := by
  rw [MakeChecks.laidMetH_plain _ _ _ (by kernel_rfl)] at h
  have h' : laidMet Tryd.prog (("math/bits.deBruijn64tab", Lib.tabData .u8 (Lib.deBruijn64tab.map Int.ofNat)) :: []) W := h
  have ht := Lib.tabIs_of_head gTab tTab Tryd.underlying77 Tryd.underlying5 cells5 cells77 h'
  intro j hj
  have := ht.cell gTab j (by rw [List.length_map]; exact hj)
  rw [this, List.getD_eq_getElem?_getD, List.getD_eq_getElem?_getD, List.getElem?_map, List.getElem?_eq_getElem hj]
  rfl

/-- A slice of bytes that came in. -/
theorem open_bytes {H : Type} {enc : TypeId × Value → H} {W : World} {a : Option Addr} {len cap fuel : Nat} {x : DataW H × List MemPlace}
    (hf : DataW.trod enc Tryd.prog W 0 (fun _ => true) true fuel 28 [.slice a len cap] = some x) :
    ∃ bs, len = bs.length ∧ BytesAt W a bs ∧ bs.length ≤ cap ∧ (a = none → cap = 0) ∧ (bs.length = 0 ∨ ∃ es sp, x.1 = .slice es sp ∧ es.length = bs.length) := by
  rcases open_ints Tryd.underlying28 Tryd.underlying5 cells5 hf with ⟨hcs, _⟩ | ⟨ad, l, c, zs, hcs, _, hl, hm, hz, hx, hcell, hwz⟩
  · simp at hcs
    obtain ⟨rfl, rfl, rfl⟩ := hcs
    exact ⟨[], rfl, ⟨.inl rfl, by simp, Nat.zero_le _⟩, Nat.le_refl _, fun _ => rfl, .inl rfl⟩
  · simp at hcs
    obtain ⟨rfl, rfl, rfl⟩ := hcs
    simp only [if_true] at hz
    have hlen : ((zs.take len).map Int.toNat).length = len := by rw [List.length_map, List.length_take]; omega
    refine ⟨(zs.take len).map Int.toNat, hlen.symm, ⟨?_, ?_, by omega⟩, by omega, (fun e => by cases e), .inr ⟨_, _, by rw [hx], by simp [lits]⟩⟩
    · by_cases h0 : len = 0
      · left
        exact List.eq_nil_of_length_eq_zero (by rw [hlen]; exact h0)
      · right
        obtain ⟨b, off, spot⟩ := ad
        have hspot : spot = none := by simpa [Addr.add] using World.cell?_spot (hcell 0 (by omega))
        subst hspot
        refine ⟨b, off, rfl, fun i hi => ?_⟩
        rw [hlen] at hi
        have hc := hcell i (by omega)
        rw [add_none] at hc
        rw [hc]
        have hiz : i < zs.length := by omega
        have hw := bounds_u8 (hwz (zs[i]) (List.getElem_mem hiz))
        rw [List.getD_eq_getElem?_getD, List.getD_eq_getElem?_getD, List.getElem?_map, List.getElem?_take_of_lt hi, List.getElem?_eq_getElem hiz]
        simp only [Option.getD_some, Option.map_some]
        congr 2
        omega
    · intro v hv
      rw [List.mem_map] at hv
      obtain ⟨z, hz', rfl⟩ := hv
      have := bounds_u8 (hwz z (List.mem_of_mem_take hz'))
      omega
end Go.Proofs.YtfnhcjcahcacnaaDoor
