/- Plain: the list of the helper 'summed' as its loops build it; collisions by index. -/
import Derived.Test.YtmnendoloankgaaDoorApp
namespace Go.Proofs.YtmnendoloankgaaDoor
set_option linter.unusedVariables false
set_option linter.unusedSimpArgs false
open Go.RowKit
open Go.Proofs.YtmnendoloankgaaDoor.One

theorem coll_idx (ss : List ByteArray) (h : Coll (ss.map nb)) : ∃ i, i < ss.length ∧ ∃ k, k < i ∧ Sha.sum (nb (ss.getD k ByteArray.empty)) = Sha.sum (nb (ss.getD i ByteArray.empty)) ∧ ss.getD k ByteArray.empty ≠ ss.getD i ByteArray.empty := by
  obtain ⟨s, hs, t, ht, hne, he⟩ := h
  obtain ⟨a, ha, rfl⟩ := List.mem_map.1 hs
  obtain ⟨b, hb, rfl⟩ := List.mem_map.1 ht
  obtain ⟨i, hi, rfl⟩ := List.mem_iff_getElem.1 ha
  obtain ⟨j, hj, rfl⟩ := List.mem_iff_getElem.1 hb
  have gi : ss.getD i ByteArray.empty = ss[i] := by rw [List.getD_eq_getElem?_getD, List.getElem?_eq_getElem hi]; rfl
  have gj : ss.getD j ByteArray.empty = ss[j] := by rw [List.getD_eq_getElem?_getD, List.getElem?_eq_getElem hj]; rfl
  rcases Nat.lt_trichotomy i j with h | h | h
  · exact ⟨j, hj, i, h, by rw [gi, gj]; exact he, fun e => hne (by rw [gi, gj] at e; rw [e])⟩
  · subst h; exact absurd rfl hne
  · exact ⟨i, hi, j, h, by rw [gi, gj]; exact he.symm, fun e => hne (by rw [gi, gj] at e; rw [← e])⟩
/-- What the helper lays for one chain of the seed. -/
def laysS (B : Nat) (seed : List Nat) (i : Nat) : List (List Nat) := inner seed (secretIn i) :: outer seed (secretIn i) :: links i 0 (last B) (secret seed i)
/-- What the helper lays for one part. -/
def laysP (B : Nat) (ds : List Nat) (parts : List (List Nat)) (i : Nat) : List (List Nat) := links i (ds.getD i 0) (last B - ds.getD i 0) (parts.getD i [])
theorem links_length (i : Nat) : ∀ n j x, (links i j n x).length = n
  | 0, _, _ => rfl
  | n + 1, j, x => by rw [links, List.length_cons, links_length i n]
theorem range_flat {α : Type} (f : Nat → List α) (k : Nat) : (List.range (k + 1)).flatMap f = (List.range k).flatMap f ++ f k := by
  rw [List.range_succ, List.flatMap_append, List.flatMap_cons, List.flatMap_nil, List.append_nil]
theorem flat_len {α : Type} (f : Nat → List α) (m : Nat) (h : ∀ i, (f i).length ≤ m) : ∀ k, ((List.range k).flatMap f).length ≤ k * m
  | 0 => by simp
  | k + 1 => by
    rw [range_flat, List.length_append, Nat.succ_mul]
    exact Nat.add_le_add (flat_len f m h k) (h k)
theorem laysS_len (B : Nat) (seed : List Nat) (i : Nat) : (laysS B seed i).length = 2 + last B := by
  unfold laysS
  rw [List.length_cons, List.length_cons, links_length]; omega
theorem laysP_len (B : Nat) (ds : List Nat) (parts : List (List Nat)) (i : Nat) : (laysP B ds parts i).length ≤ last B := by
  unfold laysP
  rw [links_length]; omega
theorem summed_eq (B : Nat) (seed ds : List Nat) (parts : List (List Nat)) : (List.range ds.length).flatMap (laysS B seed) ++ (List.range parts.length).flatMap (laysP B ds parts) ++ [endsS B [] (starts seed ds.length) ds.length, endsS B ds parts parts.length] = One.summed B seed ds parts := by
  unfold One.summed
  rw [List.append_assoc]
  rfl
theorem ends_zero (B : Nat) (z : List Nat) (hz : ∀ i, z.getD i 0 = 0) (parts : List (List Nat)) (n : Nat) : endsS B z parts n = endsS B [] parts n := by
  unfold endsS ends
  congr 2
  refine List.map_congr_left fun i _ => ?_
  rw [hz i]; rfl
theorem num_two {i : Nat} (h1 : 128 ≤ i) (h2 : i < 16384) : num i = [i % 128 + 128, i / 128] := by
  rw [num_big h1, num_small (by omega)]
set_option maxRecDepth 100000 in
theorem or_128 : ∀ m, m < 256 → (m ||| 128) = m % 128 + 128 := by decide
theorem byte_or (i : Nat) : (i % 256) ||| 128 = i % 128 + 128 := by
  rw [or_128 _ (Nat.mod_lt _ (by decide))]; omega
end Go.Proofs.YtmnendoloankgaaDoor
