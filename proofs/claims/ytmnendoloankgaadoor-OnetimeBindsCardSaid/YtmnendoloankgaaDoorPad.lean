/- hmac: the closure that makes a pad. -/
import Derived.Test.YtmnendoloankgaaDoorJoin
namespace Go.Proofs.YtmnendoloankgaaDoor
set_option linter.unusedVariables false
set_option linter.unusedSimpArgs false
open Go.RowKit
open Kit (Chg)
open Sha (v)

def xorL (ks : List Nat) (c : Nat) : List Nat := ks.map (· ^^^ c)
theorem xorL_length (ks : List Nat) (c : Nat) : (xorL ks c).length = ks.length := by simp [xorL]
theorem xor_lt {x c : Nat} (hx : x < 256) (hc : c < 256) : x ^^^ c < 256 := Nat.xor_lt_two_pow (n := 8) hx hc
theorem xorL_lt (ks : List Nat) (c : Nat) (hk : ∀ x ∈ ks, x < 256) (hc : c < 256) : ∀ x ∈ xorL ks c, x < 256 := by
  intro x hx
  obtain ⟨y, hy, rfl⟩ := List.mem_map.1 hx
  exact xor_lt (hk y hy) hc
theorem ofInt8 (x : Nat) (hx : x < 256) : (BitVec.ofInt 8 (x : Int)).toNat = x := by
  rw [BitVec.toNat_ofInt]; omega
theorem bits_xor8 (x c : Nat) (hx : x < 256) (hc : c < 256) : bits .xor .u8 (x : Int) (c : Int) = ((x ^^^ c : Nat) : Int) := by
  show IntKind.u8.wrap ((BitVec.ofInt 8 (x : Int) ^^^ BitVec.ofInt 8 (c : Int)).toNat : Int) = _
  rw [BitVec.toNat_xor, ofInt8 x hx, ofInt8 c hc]
  have := xor_lt hx hc
  rw [IntKind.wrap_u8]; omega
/-- The result's row, when k bytes of it are made. -/
def padRow (ks : List Nat) (c k : Nat) : List Nat := (xorL ks c).take k ++ List.replicate (64 - k) 0
theorem padRow_length (ks : List Nat) (c k : Nat) (h : ks.length = 64) (hk : k ≤ 64) : (padRow ks c k).length = 64 := by
  simp [padRow, xorL_length, h]; omega
theorem padRow_set (ks : List Nat) (c k : Nat) (h : ks.length = 64) (hk : k < 64) : (padRow ks c k).set k (ks.getD k 0 ^^^ c) = padRow ks c (k + 1) := by
  have hx : k < (xorL ks c).length := by rw [xorL_length, h]; exact hk
  have e : (xorL ks c)[k] = ks.getD k 0 ^^^ c := by
    have : k < ks.length := by omega
    simp [xorL, List.getD_eq_getElem?_getD, this]
  unfold padRow
  rw [List.set_append_right _ _ (by rw [List.length_take]; omega), List.length_take, Nat.min_eq_left (by omega), Nat.sub_self, show 64 - k = (64 - (k + 1)) + 1 by omega, List.replicate_succ, List.set_cons_zero,
    List.take_add_one, List.getElem?_eq_getElem hx, e]
  simp
theorem run_idxB (ks : List Nat) (k : Nat) (hk : k < ks.length) (hl : ks.length = 64) (W : World) : (Instr.index 140 (.agg (bvals ks).toArray) (.int .i64 (k : Int))).run Tryd.prog W = .ok (.int .u8 ((ks.getD k 0 : Nat) : Int)) W := by
  have hu : Tryd.prog.underlying 140 = some (.array 64 5) := Tryd.underlying140
  have hk2 : (0 : Int) ≤ (k : Int) ∧ (k : Int) < (64 : Nat) := by omega
  have hs : Tryd.prog.info? 5 = Tryd.prog.info? 5 := rfl
  simp [Instr.index, run_underlying hu, asIntOf, hk2, go_sem]
  rw [if_pos (by omega)]
  simp [bvals, hk, go_sem]
theorem bvals_arr_size (ks : List Nat) (h : ks.length = 64) : (bvals ks).toArray.size = 64 := by rw [List.size_toArray, bvals_length]; exact h
theorem Tryd.size140 : (Tryd.prog.info? 140).map (·.size) = some 64 := by kernel_rfl

set_option maxRecDepth 100000 in
set_option maxHeartbeats 1000000 in
theorem padc_any (kb : Nat) (ks : List Nat) (c : Nat) (hk : ks.length = 64) (hb : ∀ x ∈ ks, x < 256) (hc : c < 256) (w : World) (hK : w.heap[kb]? = some (.cells (bvals ks).toArray 140 (0, 0))) :
    Calls Tryd.prog 118 #[.int .u8 (c : Int), .pointer (some ⟨kb, 0, none⟩)] w fun e w' => e = .returned (.agg (bvals (xorL ks c)).toArray) ∧ Below w.heap.size w w' := by
  have HK := Lib.hid hK
  have HB := Lib.hid hb
  obtain ⟨R, hR⟩ := ex_eq (bvals ks).toArray
  have HIX : Hid (∀ k, k < 64 → ∀ W, (Instr.index 140 (.agg R) (.int .i64 ((k : Nat) : Int))).run Tryd.prog W = .ok (.int .u8 ((ks.getD k 0 : Nat) : Int)) W) := Lib.hid (fun k h W => by rw [← hR]; exact run_idxB ks k (by omega) hk W)
  have HRS : Hid (R.size = 64) := Lib.hid (by rw [← hR]; exact bvals_arr_size ks hk)
  rw [hR] at hK HK
  clear hK hb hR
  go_enter Tryd.func118, Tryd.ntmps118
  go_upto_region 2 with (first
    | (with_reducible refine wpList_load_row rfl 140 (.tmp 1) rfl kb rfl 140 R (0, 0) _ (by first | exact HK.out | exact (Below.heap_alloc w _ kb (by have := (Array.getElem?_eq_some_iff.1 HK.out).1; omega)).trans HK.out) Tryd.underlying140 rfl (by rw [HRS.out]; exact Tryd.size140) ?_))
  refine wp_over (fun W => Hid (W.heap[w.heap.size]? = some (.cells (bvals (padRow ks c 0)).toArray 140 (0, 0))) ∧ Hid (Below w.heap.size w W)) ⟨?_, ?_⟩ ?_
  · exact heap_alloc_new _ _
  · exact (Below.refl _ _).alloc (Nat.le_refl _) _
  rintro V ⟨HV, HBV⟩
  obtain ⟨N, hN⟩ := ex_eq w.heap.size
  rw [hN] at HV HBV ⊢
  go_loopw [7] (fun x wr => ∃ k : Nat, k ≤ 64 ∧ x = .int .i64 (k : Int) ∧ Hid (wr.heap[N]? = some (.cells (bvals (padRow ks c k)).toArray 140 (0, 0))) ∧ Hid (Below N w wr)) (fun x _ => 64 - (intOf x).toNat)
  case atStart => exact ⟨0, by omega, rfl, HV.out, HBV.out⟩
  case round =>
    obtain ⟨k, hk64, rfl, HROW, HBE⟩ := hrel
    by_cases hlt : k < 64
    · have hidx := HIX.out k hlt
      have hx := bits_xor8 (ks.getD k 0) c (by
        rw [List.getD_eq_getElem?_getD, List.getElem?_eq_getElem (by omega)]; exact HB.out _ (List.getElem_mem _)) hc
      obtain ⟨x, hxx⟩ := ex_eq (ks.getD k 0)
      rw [hxx] at hidx hx
      have hfz : wr.frozen? ⟨N, k, none⟩ = false := frozen_of_row _ _ _ _ _ HROW.out
      have hcl : wr.cell? ⟨N, k, none⟩ = some (.int .u8 (((padRow ks c k).getD k 0 : Nat) : Int)) := by
        rw [cell_of_row _ _ _ _ _ _ HROW.out]
        have := padRow_length ks c k hk hk64
        simp [bvals, this, hlt]
      have HXX := Lib.hid hxx
      clear hxx
      go_wp2_with fail
      go_roundw
      case rel =>
        refine ⟨k + 1, by omega, by go_num, ?_, HBE.out.setCell (p := ⟨N, k, none⟩) (Nat.le_refl _) _⟩
        show _ = _
        rw [heap_setCell_same _ _ _ _ _ _ HROW.out, ← padRow_set ks c k hk hlt, HXX.out]
        simp [bvals]
      case measure => simp [intOf]; omega
    · have e : k = 64 := by omega
      subst e
      have hps : (bvals (padRow ks c 64)).toArray.size = 64 := bvals_arr_size _ (padRow_length ks c 64 hk (by omega))
      have hpe : padRow ks c 64 = xorL ks c := by
        unfold padRow
        rw [List.take_of_length_le (by rw [xorL_length]; omega)]; simp
      have hone : (bvals (padRow ks c 64)).toArray.all (·.oneCell') = true := all_one (bvals_one _)
      rw [hpe] at hps hone HROW
      obtain ⟨R2, hR2⟩ := ex_eq (bvals (xorL ks c)).toArray
      rw [hR2] at hps hone HROW
      have HPS := Lib.hid hps
      have HONE := Lib.hid hone
      have HR2 := Lib.hid hR2
      clear hps hone hpe hR2
      go_wp2_with (first
        | (with_reducible refine wpList_load_row rfl 140 (.tmp 3) rfl N rfl 140 R2 (0, 0) _ HROW.out Tryd.underlying140 rfl (by rw [HPS.out]; exact Tryd.size140) ?_)
        | (with_reducible refine wpList_store_row rfl 140 (.tmp 3) (.tmp 17) rfl N R2 rfl rfl 140 R2 HROW.out (by rw [HPS.out]; exact Tryd.size140) rfl HONE.out ?_))
      simp only [Act.put]
      refine bodyPost_ret (results_cell_row (p := 3) rfl _ _ N 140 R2 (0, 0) _ (by rfl) (setRow_heap wr N _ R2 140 (0, 0) HROW.out) Tryd.underlying140 rfl (by rw [HPS.out]; exact Tryd.size140)) rfl ⟨by rw [HR2.out], ?_⟩
      rw [hN]
      exact below_setRow HBE.out (Nat.le_refl _) _
end Go.Proofs.YtmnendoloankgaaDoor
