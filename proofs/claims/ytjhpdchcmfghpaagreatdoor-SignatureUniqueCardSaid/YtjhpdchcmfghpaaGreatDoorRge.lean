/- The document's Root of a signature. -/
import Derived.Test.YtjhpdchcmfghpaaGreatDoorRgd
namespace Go.Proofs.YtjhpdchcmfghpaaGreatDoor
set_option linter.unusedVariables false
set_option linter.unusedSimpArgs false
open Go.RowKit
open Kit (Chg)
open Sha (v)
open Go.Proofs.YtjhpdchcmfghpaaGreatDoor.One

theorem shape_nb2 {ps qs : List ByteArray} (h1 : ∀ q ∈ qs.map nb, q.length = 32) (h3 : ∀ p ∈ ps.map nb, p.length = 32) : (∀ q ∈ qs, q.size = 32) ∧ (∀ p ∈ ps, p.size = 32) :=
  ⟨fun q hq => by rw [← nb_length]; exact h1 _ (List.mem_map_of_mem hq), fun p hp => by rw [← nb_length]; exact h3 _ (List.mem_map_of_mem hp)⟩
end Go.Proofs.YtjhpdchcmfghpaaGreatDoor
