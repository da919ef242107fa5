/- Slices of slices: bytes, numbers. -/
import Derived.Test.YtfnhcjcahcacnaaDoorLawsH
namespace Go.Proofs.YtfnhcjcahcacnaaDoor
set_option linter.unusedVariables false
set_option linter.unusedSimpArgs false
open Go.RowKit
open Roll (u)
open Chk

def subA (a : Option Addr) (l cap : Nat) : Option Addr := if cap = l then a else a.map (·.add (l * 1))
theorem subA_none {a : Option Addr} {l cap : Nat} (hnil : a = none → cap = 0) (h : subA a l cap = none) : cap - l = 0 := by
  unfold subA at h
  split at h
  · omega
  · rw [Option.map_eq_none_iff] at h
    rw [hnil h]; omega
theorem subA_some {b o l cap : Nat} (h : l < cap) : subA (some ⟨b, o, none⟩) l cap = some ⟨b, o + l, none⟩ := by
  unfold subA
  rw [if_neg (by omega), Option.map_some, Nat.mul_one, add_none]
theorem bytesAt_sub {w : World} {a : Option Addr} {bs : List Nat} {cap : Nat} (h : BytesAt w a bs) (hc : bs.length ≤ cap) (l k : Nat) : BytesAt w (subA a l cap) ((bs.take k).drop l) := by
  refine ⟨?_, fun x hx => h.2.1 x (List.mem_of_mem_take (List.mem_of_mem_drop hx)), by rw [List.length_drop, List.length_take]; have := h.2.2; omega⟩
  by_cases h0 : (bs.take k).drop l = []
  · exact .inl h0
  · have h1 := List.length_pos_iff.2 h0
    rw [List.length_drop, List.length_take] at h1
    obtain ⟨b, o, rfl, hcell⟩ := h.some (by omega)
    refine .inr ⟨b, o + l, subA_some (by omega), fun i hi => ?_⟩
    rw [List.length_drop, List.length_take] at hi
    rw [Nat.add_assoc, hcell (l + i) (by omega)]
    simp [List.getD, List.getElem?_take, show l + i < k by omega]
theorem intsAt_sub {w : World} {a : Option Addr} {zs : List Nat} {cap : Nat} (h : IntsAt w a zs) (hc : zs.length ≤ cap) (k : Nat) : IntsAt w (subA a 0 cap) (zs.take k) := by
  by_cases h0 : zs.take k = []
  · exact .inl h0
  · have h1 := List.length_pos_iff.2 h0
    rw [List.length_take] at h1
    obtain ⟨b, o, rfl, hcell⟩ := h.some (by omega)
    refine .inr ⟨b, o, subA_some (by omega), fun i hi => ?_⟩
    rw [List.length_take] at hi
    rw [hcell i (by omega)]
    simp [List.getD, List.getElem?_take, show i < k by omega]
theorem Tryd.sizeOf5 (W : World) : (Go.sizeOf 5).run Tryd.prog W = .ok 1 W := by kernel_rfl
theorem Tryd.sizeOf3 (W : World) : (Go.sizeOf 3).run Tryd.prog W = .ok 1 W := by kernel_rfl
theorem Tryd.elem28 : Tryd.prog.elem 28 = 5 := by kernel_rfl
theorem Tryd.elem57 : Tryd.prog.elem 57 = 3 := by kernel_rfl
theorem slice_lh (a : Option Addr) (n cap l h : Nat) (hl : l ≤ h) (hh : h ≤ cap) (W : World) : (Instr.slice 28 (.slice a n cap) (some (.int .i64 (l : Int))) (some (.int .i64 (h : Int))) none).run Tryd.prog W = .ok (.slice (subA a l cap) (h - l) (cap - l)) W := by
  rw [run_slice_lh W 28 _ _ _ (by rw [Tryd.elem28]; exact Tryd.underlying28) .i64 .i64 _ _ (by omega) (by omega) (by omega), Tryd.elem28, Tryd.sizeOf5]
  simp [Result.andThen, sliced, subA]
theorem slice_h (a : Option Addr) (n cap h : Nat) (hh : h ≤ cap) (W : World) : (Instr.slice 28 (.slice a n cap) none (some (.int .i64 (h : Int))) none).run Tryd.prog W = .ok (.slice (subA a 0 cap) h cap) W := by
  rw [run_slice_h W 28 _ _ _ (by rw [Tryd.elem28]; exact Tryd.underlying28) .i64 _ (by omega) (by omega), Tryd.elem28, Tryd.sizeOf5]
  simp [Result.andThen, sliced, subA]
theorem slice_h57 (a : Option Addr) (n cap h : Nat) (hh : h ≤ cap) (W : World) : (Instr.slice 57 (.slice a n cap) none (some (.int .i64 (h : Int))) none).run Tryd.prog W = .ok (.slice (subA a 0 cap) h cap) W := by
  rw [run_slice_h W 57 _ _ _ (by rw [Tryd.elem57]; exact Tryd.underlying57) .i64 _ (by omega) (by omega), Tryd.elem57, Tryd.sizeOf3]
  simp [Result.andThen, sliced, subA]
theorem slice_l (a : Option Addr) (n cap l : Nat) (hl : l ≤ n) (W : World) : (Instr.slice 28 (.slice a n cap) (some (.int .i64 (l : Int))) none none).run Tryd.prog W = .ok (.slice (subA a l cap) (n - l) (cap - l)) W := by
  rw [run_slice_l W 28 _ _ _ (by rw [Tryd.elem28]; exact Tryd.underlying28) .i64 _ (by omega) (by omega), Tryd.elem28, Tryd.sizeOf5]
  simp [Result.andThen, sliced, subA]
end Go.Proofs.YtfnhcjcahcacnaaDoor
