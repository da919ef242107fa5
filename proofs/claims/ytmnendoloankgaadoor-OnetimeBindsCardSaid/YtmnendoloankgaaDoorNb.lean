/- The bytes of a string. -/
import Derived.Test.YtmnendoloankgaaDoorSums
import Derived.Lib.ConvBytes
namespace Go.Proofs.YtmnendoloankgaaDoor
set_option linter.unusedVariables false
set_option linter.unusedSimpArgs false
open Go.RowKit
open Kit (Chg)

def nb (s : ByteArray) : List Nat := s.data.toList.map UInt8.toNat
theorem nb_length (s : ByteArray) : (nb s).length = s.size := by unfold nb; rw [List.length_map, Array.length_toList]; rfl
theorem nb_lt (s : ByteArray) : ∀ x ∈ nb s, x < 256 := by
  intro x hx
  obtain ⟨u, _, rfl⟩ := List.mem_map.1 hx
  exact u.toNat_lt
theorem bytesWorld_bytes (w : World) (s : ByteArray) (h : s.size ≤ maxLen) : BytesAt (Go.Lib.bytesWorld w 5 s) (some ⟨w.heap.size, 0, none⟩) (nb s) := by
  refine ⟨.inr ⟨w.heap.size, 0, rfl, fun i hi => ?_⟩, nb_lt s, by rw [nb_length]; exact h⟩
  rw [nb_length] at hi
  rw [Nat.zero_add, Go.Lib.bytesWorld_cell w 5 s i hi]
  have h2 : i < s.data.toList.length := by rw [Array.length_toList]; exact hi
  have h3 : i < s.data.size := hi
  simp only [nb, List.getD_eq_getElem?_getD, List.getElem?_map, Array.getElem?_toList, Array.getElem?_eq_getElem h3]
  rfl
theorem bytesWorld_below (w : World) (s : ByteArray) : Below w.heap.size w (Go.Lib.bytesWorld w 5 s) := by
  refine ⟨?_, ?_, ?_, ?_, fun k hk => Go.Lib.bytesWorld_at_old w 5 s k hk⟩
  · unfold Go.Lib.bytesWorld World.freeze; split <;> rfl
  · unfold Go.Lib.bytesWorld World.freeze; split <;> rfl
  · unfold Go.Lib.bytesWorld World.freeze; split <;> rfl
  · rw [Go.Lib.bytesWorld_size]; exact Nat.le_succ _
end Go.Proofs.YtmnendoloankgaaDoor
