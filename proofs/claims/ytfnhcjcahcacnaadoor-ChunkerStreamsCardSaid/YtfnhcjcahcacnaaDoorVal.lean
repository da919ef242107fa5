/- Which cuttings are valid: Valid, check and the specification's and the laws' small tests. -/
import Derived.Test.YtfnhcjcahcacnaaDoorMark
namespace Go.Proofs.YtfnhcjcahcacnaaDoor
open Go.RowKit
open Roll (u)
open Kit (Chg)
open Chk

/-- A cutting as it comes in. -/
structure CutI where
  mn : Int
  mx : Int
  win : Int
  bits : Int
  seed : BitVec 64
def CutI.val (c : CutI) : Value := .agg #[.int .i64 c.mn, .int .i64 c.mx, .int .i64 c.win, .int .i64 c.bits, .int .u64 (u c.seed)]
def validB (mn mx win bits : Int) : Bool := decide (1 ≤ win ∧ win ≤ 64 ∧ win ≤ mn ∧ mn ≤ mx ∧ mx ≤ 32768 ∧ 0 ≤ bits ∧ bits ≤ 20)

set_option maxHeartbeats 400000 in
theorem valid_any (mn mx win bits : Int) (s : BitVec 64) (w : World) :
    Calls Tryd.prog 56 #[.agg #[.int .i64 mn, .int .i64 mx, .int .i64 win, .int .i64 bits, .int .u64 (u s)]] w fun e w' => e = .returned (.bool (validB mn mx win bits)) ∧ Below w.heap.size w w' := by
  go_enter Tryd.func56, Tryd.ntmps56
  go_wp2
  all_goals go_ret
  all_goals refine ⟨?_, (Below.refl _ _).alloc (Nat.le_refl _) _⟩
  all_goals first
    | exact congrArg (fun x => Ending.returned (.bool x)) (show false = validB mn mx win bits from (decide_eq_false (by omega)).symm)
    | exact congrArg (fun x => Ending.returned (.bool x)) (show decide (bits ≤ 20) = validB mn mx win bits from decide_eq_decide.2 (by omega))

set_option maxHeartbeats 400000 in
theorem refValid_any (mn mx win bits : Int) (s : BitVec 64) (w : World) :
    Calls Tryd.prog 47 #[.agg #[.int .i64 mn, .int .i64 mx, .int .i64 win, .int .i64 bits, .int .u64 (u s)]] w fun e w' => e = .returned (.bool (validB mn mx win bits)) ∧ Below w.heap.size w w' := by
  go_enter Tryd.func47, Tryd.ntmps47
  go_wp2
  all_goals go_ret
  all_goals refine ⟨?_, (Below.refl _ _).alloc (Nat.le_refl _) _⟩
  all_goals first
    | exact congrArg (fun x => Ending.returned (.bool x)) (show false = validB mn mx win bits from (decide_eq_false (by omega)).symm)
    | exact congrArg (fun x => Ending.returned (.bool x)) (show decide (bits ≤ 20) = validB mn mx win bits from decide_eq_decide.2 (by omega))

def smallB (mn mx win bits : Int) : Bool := validB mn mx win bits && decide (mn ≤ 40)

set_option maxHeartbeats 400000 in
theorem small_any (mn mx win bits : Int) (s : BitVec 64) (w : World) :
    Calls Tryd.prog 38 #[.agg #[.int .i64 mn, .int .i64 mx, .int .i64 win, .int .i64 bits, .int .u64 (u s)]] w fun e w' => e = .returned (.bool (smallB mn mx win bits)) ∧ Below w.heap.size w w' := by
  go_enter Tryd.func38, Tryd.ntmps38
  go_wp2_with fail
  refine (refValid_any mn mx win bits s _).mono ?_
  rintro e w1 ⟨rfl, hb⟩
  have c0 : w1.cell? ⟨w.heap.size, 0, none⟩ = some (.int .i64 mn) := (hb.cell (p := ⟨w.heap.size, 0, none⟩) (by simp)).trans (by rw [cell_of_row _ _ _ _ _ _ (heap_alloc_new _ _)]; rfl)
  have HB := Lib.hid (((Below.refl w.heap.size w).alloc (Nat.le_refl _) _).trans (hb.mono (by simp)))
  clear hb
  cases hv : validB mn mx win bits
  · have HV := Lib.hid hv
    clear hv
    go_wp2_with fail
    go_ret
    exact ⟨by unfold smallB; rw [HV.out]; rfl, HB.out⟩
  · have HV := Lib.hid hv
    clear hv
    go_wp2_with fail
    go_ret
    exact ⟨by unfold smallB; rw [HV.out]; rfl, HB.out⟩

/-- A slice as a value. -/
abbrev slV (x : Option Addr × Nat × Nat) : Value := .slice x.1 x.2.1 x.2.2
/-- The slices xs lie at the head of block B. -/
def SlicesAt (w : World) (B : Nat) (xs : List (Option Addr × Nat × Nat)) : Prop := ∀ i, i < xs.length → w.cell? ⟨B, i, none⟩ = some (slV (xs.getD i (none, 0, 0)))
def fewB (xs : List (Option Addr × Nat × Nat)) : Bool := xs.all fun x => decide (x.2.1 ≤ 300)
theorem fewB_take (xs : List (Option Addr × Nat × Nat)) (k : Nat) (h : k < xs.length) : fewB (xs.take (k + 1)) = (fewB (xs.take k) && decide ((xs.getD k (none, 0, 0)).2.1 ≤ 300)) := by
  unfold fewB
  rw [List.take_succ_eq_append_getElem h, List.all_append, List.getD_eq_getElem?_getD, List.getElem?_eq_getElem h]
  simp
theorem fewB_not (xs : List (Option Addr × Nat × Nat)) (k : Nat) (h : k < xs.length) (hn : ¬ (xs.getD k (none, 0, 0)).2.1 ≤ 300) : fewB xs = false := by
  unfold fewB
  rw [List.all_eq_false]
  refine ⟨xs.getD k (none, 0, 0), ?_, by simpa using hn⟩
  rw [List.getD_eq_getElem?_getD, List.getElem?_eq_getElem h]
  exact List.getElem_mem h

set_option maxHeartbeats 400000 in
theorem few_any (B c : Nat) (xs : List (Option Addr × Nat × Nat)) (hl : xs.length ≤ 100) (w : World) (h : SlicesAt w B xs) :
    Calls Tryd.prog 39 #[.slice (some ⟨B, 0, none⟩) xs.length c] w fun e w' => e = .returned (.bool (fewB xs)) ∧ w = w' := by
  have HH := Lib.hid h
  clear h
  go_enter Tryd.func39, Tryd.ntmps39
  go_wp2_with fail
  go_loop [3] (fun i => ∃ k : Nat, k ≤ xs.length ∧ i = .int .i64 k ∧ Hid (fewB (xs.take k) = true)) (fun i => xs.length - (intOf i).toNat)
  case atStart => exact ⟨0, Nat.zero_le _, rfl, rfl⟩
  case round =>
    obtain ⟨k, hk, rfl, HF⟩ := hrel
    by_cases hlt : k < xs.length
    · have hc := HH.out k hlt
      have HN := Lib.hid (fewB_not xs k hlt)
      have HY := Lib.hid (fewB_take xs k hlt)
      generalize xs.getD k (none, 0, 0) = x at hc HN HY
      obtain ⟨a, n, m⟩ := x
      dsimp only at hc HN HY
      by_cases hn : n ≤ 300
      · go_wp2
        go_round
        case rel => exact ⟨k + 1, by omega, by go_num, by show _ = _; rw [HY.out, HF.out, decide_eq_true hn]; rfl⟩
        case measure => simp [intOf]; omega
      · go_wp2
        go_ret
        exact ⟨by rw [HN.out hn]; rfl, rfl⟩
    · have e : k = xs.length := by omega
      go_wp2
      go_ret
      have := HF.out
      rw [e, List.take_length] at this
      exact ⟨by rw [this]; rfl, rfl⟩

set_option maxHeartbeats 400000 in
theorem check_bad (mn mx win bits : Int) (s : BitVec 64) (v : Value) (hv : validB mn mx win bits = false) (w : World) :
    Calls Tryd.prog 63 #[.agg #[.int .i64 mn, .int .i64 mx, .int .i64 win, .int .i64 bits, .int .u64 (u s)], v] w fun e w' => e = .returned (.int .i64 1) ∧ Below w.heap.size w w' := by
  go_enter Tryd.func63, Tryd.ntmps63
  go_wp2_with fail
  refine (valid_any mn mx win bits s _).mono ?_
  rintro e w1 ⟨rfl, hb⟩
  have HB := Lib.hid (((Below.refl w.heap.size w).alloc (Nat.le_refl _) _).trans (hb.mono (by simp)))
  clear hb
  rw [hv]
  clear hv
  go_wp2_with fail
  go_ret
  exact ⟨rfl, HB.out⟩

set_option maxHeartbeats 400000 in
theorem check_ok (mn mx win bits : Int) (s : BitVec 64) (B c : Nat) (xs : List (Option Addr × Nat × Nat)) (hl : xs.length ≤ 100) (hx : ∀ x ∈ xs, x.2.1 ≤ 1048576) (hv : validB mn mx win bits = true) (w : World) (h : SlicesAt w B xs) :
    Calls Tryd.prog 63 #[.agg #[.int .i64 mn, .int .i64 mx, .int .i64 win, .int .i64 bits, .int .u64 (u s)], .slice (some ⟨B, 0, none⟩) xs.length c] w fun e w' => e = .returned (.int .i64 0) ∧ Below w.heap.size w w' := by
  have HH := Lib.hid h
  have HX := Lib.hid hx
  clear h hx
  go_enter Tryd.func63, Tryd.ntmps63
  go_wp2_with fail
  refine (valid_any mn mx win bits s _).mono ?_
  rintro e w1 ⟨rfl, hb⟩
  have HB := Lib.hid (((Below.refl w.heap.size w).alloc (Nat.le_refl _) _).trans (hb.mono (by simp)))
  clear hb
  rw [hv]
  clear hv
  go_wp2_with fail
  go_loop [12] (fun i => ∃ k : Nat, k ≤ xs.length ∧ i = .int .i64 k) (fun i => xs.length - (intOf i).toNat)
  case atStart => exact ⟨0, Nat.zero_le _, rfl⟩
  case round =>
    obtain ⟨k, hk, rfl⟩ := hrel
    by_cases hlt : k < xs.length
    · have hc0 := HH.out k hlt
      have hc : w1.cell? ⟨B, k, none⟩ = some (slV (xs.getD k (none, 0, 0))) := (HB.out.cell (p := ⟨B, k, none⟩) (World.block_lt_of_cell? w _ hc0)).trans hc0
      have hn : (xs.getD k (none, 0, 0)).2.1 ≤ 1048576 := by
        rw [List.getD_eq_getElem?_getD, List.getElem?_eq_getElem hlt]; exact HX.out _ (List.getElem_mem hlt)
      clear hc0
      generalize xs.getD k (none, 0, 0) = x at hc hn
      obtain ⟨a, n, m⟩ := x
      dsimp only at hc hn
      go_wp2
      go_round
      case rel => exact ⟨k + 1, by omega, by go_num⟩
      case measure => simp [intOf]; omega
    · go_wp2
      go_ret
      exact ⟨rfl, HB.out⟩
end Go.Proofs.YtfnhcjcahcacnaaDoor
