/- The document's Sums and Climb. -/
import Derived.Test.YtjhpdchcmfghpaaGreatDoorRgb
namespace Go.Proofs.YtjhpdchcmfghpaaGreatDoor
set_option linter.unusedVariables false
set_option linter.unusedSimpArgs false
open Go.RowKit
open Kit (Chg)
open Sha (v)
open Go.Proofs.YtjhpdchcmfghpaaGreatDoor.One

set_option maxRecDepth 100000 in
set_option maxHeartbeats 2000000 in
theorem refSums_any (a : Option Addr) (cap L : Nat) (ss : List ByteArray) (hLe : ss.length = L) (hl9 : L < 9223372036854775808) (w : World) (hS : StrsAt w a ss) :
    Calls Tryz.prog 33 #[.slice a L cap] w fun e w' => e = .returned (.bool (decide (∀ s ∈ ss, s.size = 32))) ∧ Below w.heap.size w w' := by
  obtain ⟨D, hD⟩ := ex_eq (decide (∀ s ∈ ss, s.size = 32))
  have HD := Lib.hid hD
  rw [hD]
  clear hD
  have HLE := Lib.hid hLe
  have HS := Lib.hid hS
  clear hLe hS
  go_enter Tryz.func33, Tryz.ntmps33
  go_wp2_with fail
  go_loopw [7] (fun y wr => ∃ k : Nat, k ≤ L ∧ y = .int .i64 (k : Int) ∧ Hid (∀ i, i < k → (ss.getD i ByteArray.empty).size = 32) ∧ Hid (Below w.heap.size w wr)) (fun y _ => L - (intOf y).toNat)
  case atStart => exact ⟨0, by omega, rfl, fun i h => by omega, Below.refl _ _⟩
  case round =>
    obtain ⟨k, hk, rfl, H32, HBE⟩ := hrel
    by_cases hlt : k < L
    · have hki : (k : Int) < (L : Int) := by omega
      obtain ⟨b1, o1, rfl, hcs⟩ : ∃ b o, a = some ⟨b, o, none⟩ ∧ ∀ i, i < ss.length → wr.cell? ⟨b, o + i, none⟩ = some (.string (ss.getD i ByteArray.empty)) := by
        rcases HS.out.later HBE.out with h | h
        · have := HLE.out; rw [h] at this; simp at this; omega
        · exact h
      have hc := hcs k (by rw [HLE.out]; exact hlt)
      have HSM : Hid (ss.getD k ByteArray.empty ∈ ss) := Lib.hid (getD_mem ss k _ (by rw [HLE.out]; exact hlt))
      obtain ⟨s, hse⟩ := ex_eq (ss.getD k ByteArray.empty)
      rw [hse] at hc HSM
      have HSE := Lib.hid hse
      clear hcs hse
      by_cases h32 : s.size = 32
      · have HH := Lib.hid h32
        have hne : (((s.size : Nat) : Int) != 32) = false := by rw [h32]; rfl
        go_wp2_with fail
        go_roundw
        case rel =>
          refine ⟨k + 1, hlt, by go_num, fun i hi => ?_, HBE.out⟩
          by_cases e : i = k
          · rw [e, HSE.out]; exact HH.out
          · exact H32.out i (by omega)
        case measure => simp [intOf]; omega
      · have hne : (((s.size : Nat) : Int) != 32) = true := by rw [bne_iff_ne]; omega
        have HF : Hid (decide (∀ s ∈ ss, s.size = 32) = false) := Lib.hid (decide_eq_false (fun h => h32 (h s HSM.out)))
        go_wp2_with fail
        go_ret
        exact ⟨by rw [← HD.out, HF.out]; rfl, HBE.out⟩
    · have hki : ¬ (k : Int) < (L : Int) := by omega
      have hke : k = L := by omega
      have HF : Hid (decide (∀ s ∈ ss, s.size = 32) = true) := Lib.hid (decide_eq_true (fun s hs => by
        obtain ⟨i, hi, rfl⟩ := List.mem_iff_getElem.1 hs
        have h1 := H32.out i (by rw [hke, ← HLE.out]; exact hi)
        rwa [List.getD_eq_getElem?_getD, List.getElem?_eq_getElem hi] at h1))
      clear hke
      go_wp2_with fail
      go_ret
      exact ⟨by rw [← HD.out, HF.out]; rfl, HBE.out⟩
theorem drop_cons_nb {ss : List ByteArray} {L k : Nat} (h : ss.length = L) (hk : k < L) : (ss.drop k).map nb = nb (ss.getD k ByteArray.empty) :: (ss.drop (k + 1)).map nb := by
  rw [List.drop_eq_getElem_cons (by omega : k < ss.length), List.map_cons, List.getD_eq_getElem?_getD, List.getElem?_eq_getElem (by omega : k < ss.length)]
  rfl
end Go.Proofs.YtjhpdchcmfghpaaGreatDoor
