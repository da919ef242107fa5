/- bits.RotateLeft32 by minus k: a rotation to the right. -/
import Derived.Test.YtmnendoloankgaaDoorMem
namespace Go.Proofs.YtmnendoloankgaaDoor
set_option linter.unusedVariables false
set_option linter.unusedSimpArgs false
open Go.RowKit
open Kit (Chg)
open Sha (v)

theorem and31 (k : Nat) (h0 : 0 < k) (h : k < 32) : bits .and .u64 (18446744073709551616 - (k : Int)) 31 = ((32 - k : Nat) : Int) := by
  have e : (18446744073709551616 : Int) - (k : Int) = ((18446744073709551616 - k : Nat) : Int) := by omega
  rw [e]
  have := u64_and_nat (18446744073709551616 - k) 31 (by omega) (by decide)
  rw [nat_mask5] at this
  have e2 : (18446744073709551616 - k) % 32 = 32 - k := by omega
  rw [e2] at this
  exact this
set_option maxHeartbeats 400000 in
theorem rotr_any (x : BitVec 32) (k : Nat) (h0 : 0 < k) (h : k < 32) (w : World) :
    Calls Tryd.prog 129 #[.int .u32 (v x), .int .i64 (-(k : Int))] w fun e w' => e = .returned (.int .u32 (v (Sha.rot x k))) ∧ w = w' := by
  have r1 := and31 k h0 h
  obtain ⟨m, hm⟩ : ∃ m, 32 - k = m := ⟨_, rfl⟩
  have hk : k = 32 - m := by omega
  have hrot : Sha.rot x k = x <<< m ||| x >>> (32 - m) := by
    unfold Sha.rot
    rw [hm, ← hk]
    exact BitVec.or_comm ..
  rw [hrot]
  rw [hm] at r1
  have hm32 : m < 32 := by omega
  have hm0 : 0 < m := by omega
  obtain ⟨Q0, hq0⟩ : ∃ Q : Prop, Hid Q := ⟨True, trivial⟩
  have r2 := Sha.f_shl Q0 m
  have r3 := Sha.f_shr Q0 (32 - m)
  have r4 := Sha.f_or Q0
  have r9 := Sha.f_nonneg Q0
  have e1 : IntKind.u64.wrap (-(k : Int)) = 18446744073709551616 - (k : Int) := by rw [IntKind.wrap_u64]; omega
  have e2 : IntKind.u64.wrap (32 - (m : Int)) = ((32 - m : Nat) : Int) := by rw [IntKind.wrap_u64]; omega
  clear hm hk hrot
  go_enter Tryd.func129, Tryd.ntmps129
  go_wp2
  go_ret
  exact ⟨rfl, rfl⟩
theorem rotr2 (x : BitVec 32) (w : World) : Calls Tryd.prog 129 #[.int .u32 (v x), .int .i64 (-2)] w fun e w' => e = .returned (.int .u32 (v (Sha.rot x 2))) ∧ w = w' := rotr_any x 2 (by decide) (by decide) w
theorem rotr6 (x : BitVec 32) (w : World) : Calls Tryd.prog 129 #[.int .u32 (v x), .int .i64 (-6)] w fun e w' => e = .returned (.int .u32 (v (Sha.rot x 6))) ∧ w = w' := rotr_any x 6 (by decide) (by decide) w
theorem rotr7 (x : BitVec 32) (w : World) : Calls Tryd.prog 129 #[.int .u32 (v x), .int .i64 (-7)] w fun e w' => e = .returned (.int .u32 (v (Sha.rot x 7))) ∧ w = w' := rotr_any x 7 (by decide) (by decide) w
theorem rotr11 (x : BitVec 32) (w : World) : Calls Tryd.prog 129 #[.int .u32 (v x), .int .i64 (-11)] w fun e w' => e = .returned (.int .u32 (v (Sha.rot x 11))) ∧ w = w' := rotr_any x 11 (by decide) (by decide) w
theorem rotr13 (x : BitVec 32) (w : World) : Calls Tryd.prog 129 #[.int .u32 (v x), .int .i64 (-13)] w fun e w' => e = .returned (.int .u32 (v (Sha.rot x 13))) ∧ w = w' := rotr_any x 13 (by decide) (by decide) w
theorem rotr17 (x : BitVec 32) (w : World) : Calls Tryd.prog 129 #[.int .u32 (v x), .int .i64 (-17)] w fun e w' => e = .returned (.int .u32 (v (Sha.rot x 17))) ∧ w = w' := rotr_any x 17 (by decide) (by decide) w
theorem rotr18 (x : BitVec 32) (w : World) : Calls Tryd.prog 129 #[.int .u32 (v x), .int .i64 (-18)] w fun e w' => e = .returned (.int .u32 (v (Sha.rot x 18))) ∧ w = w' := rotr_any x 18 (by decide) (by decide) w
theorem rotr19 (x : BitVec 32) (w : World) : Calls Tryd.prog 129 #[.int .u32 (v x), .int .i64 (-19)] w fun e w' => e = .returned (.int .u32 (v (Sha.rot x 19))) ∧ w = w' := rotr_any x 19 (by decide) (by decide) w
theorem rotr22 (x : BitVec 32) (w : World) : Calls Tryd.prog 129 #[.int .u32 (v x), .int .i64 (-22)] w fun e w' => e = .returned (.int .u32 (v (Sha.rot x 22))) ∧ w = w' := rotr_any x 22 (by decide) (by decide) w
theorem rotr25 (x : BitVec 32) (w : World) : Calls Tryd.prog 129 #[.int .u32 (v x), .int .i64 (-25)] w fun e w' => e = .returned (.int .u32 (v (Sha.rot x 25))) ∧ w = w' := rotr_any x 25 (by decide) (by decide) w
end Go.Proofs.YtmnendoloankgaaDoor
