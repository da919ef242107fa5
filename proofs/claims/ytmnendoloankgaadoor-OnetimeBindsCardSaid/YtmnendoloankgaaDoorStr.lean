/- Strings and their bytes. -/
import Derived.Test.YtmnendoloankgaaDoorOne
namespace Go.Proofs.YtmnendoloankgaaDoor
set_option linter.unusedVariables false
set_option linter.unusedSimpArgs false
open Go.RowKit
open Kit (Chg)

theorem nb_strB {bs : List Nat} (h : ∀ x ∈ bs, x < 256) : nb (strB bs) = bs := by
  unfold nb strB
  rw [strOfNums_data, List.map_map, List.map_map]
  have e : ∀ x ∈ bs, (UInt8.toNat ∘ ((fun (n : Int) => UInt8.ofNat n.toNat) ∘ fun (x : Nat) => (x : Int))) x = x := fun x hx => by
    have := h x hx
    simp
    omega
  calc _ = bs.map id := List.map_congr_left e
    _ = bs := List.map_id _
theorem map_inj : ∀ l m : List UInt8, l.map UInt8.toNat = m.map UInt8.toNat → l = m
  | [], [], _ => rfl
  | [], _ :: _, h => by simp at h
  | _ :: _, [], h => by simp at h
  | a :: l, b :: m, h => by
    simp only [List.map_cons, List.cons.injEq] at h
    rw [UInt8.toNat_inj.1 h.1, map_inj l m h.2]
theorem nb_inj {s t : ByteArray} (h : nb s = nb t) : s = t := by
  refine ByteArray.ext (Array.toList_inj.1 ?_)
  unfold nb at h
  exact map_inj _ _ h
theorem strB_nb (s : ByteArray) : strB (nb s) = s := nb_inj (nb_strB (nb_lt s))
theorem strB_size (bs : List Nat) (h : ∀ x ∈ bs, x < 256) : (strB bs).size = bs.length := by
  rw [← nb_length, nb_strB h]
theorem nb_app (s t : ByteArray) : nb (s ++ t) = nb s ++ nb t := by
  unfold nb
  rw [← List.map_append]
  congr 1
theorem strB_app (xs ys : List Nat) (hx : ∀ x ∈ xs, x < 256) (hy : ∀ y ∈ ys, y < 256) : strB xs ++ strB ys = strB (xs ++ ys) := by
  have h : ∀ x ∈ xs ++ ys, x < 256 := fun x h => (List.mem_append.1 h).elim (hx x) (hy x)
  refine nb_inj ?_
  rw [nb_app, nb_strB hx, nb_strB hy, nb_strB h]
theorem eq_str (s t : ByteArray) : (s.toList == t.toList) = decide (nb s = nb t) := by
  rw [Bool.eq_iff_iff, beq_iff_eq, decide_eq_true_eq]
  refine ⟨fun h => ?_, fun h => by rw [nb_inj h]⟩
  rw [Lib.toList_data, Lib.toList_data] at h
  unfold nb
  rw [h]
theorem catB_strs (ss : List (List Nat)) (h : ∀ s ∈ ss, ∀ x ∈ s, x < 256) : catB (ss.map strB) = ss.flatten := by
  induction ss with
  | nil => rfl
  | cons s ss ih =>
    unfold catB at ih ⊢
    rw [List.map_cons, List.flatMap_cons, ih (fun t ht => h t (List.mem_cons_of_mem _ ht)), nb_strB (h s (List.mem_cons_self ..)), List.flatten_cons]
end Go.Proofs.YtmnendoloankgaaDoor
