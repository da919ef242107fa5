/- The contracts of Zeros and TrailingZeros64, and of the specification's Zeros. -/
import Derived.Test.YtfnhcjcahcacnaaDoorRef
import Derived.Shelf.Spec.TrailingZeros
namespace Go.Proofs.YtfnhcjcahcacnaaDoor
open Go.RowKit
open Roll (u)
open Kit (Chg)

/-- The number of zero bits below the lowest bit that is 1; 64 of 0. -/
def tz (x : BitVec 64) : Nat := Lib.ctz 64 x.toNat

theorem ctzFrom_at : ∀ (f x k : Nat), k < f → x % 2 ^ k = 0 → x / 2 ^ k % 2 = 1 → Lib.ctzFrom f x = k
  | 0, _, _, h, _, _ => by omega
  | f + 1, x, 0, _, _, h2 => by
    simp at h2
    unfold Lib.ctzFrom; rw [if_pos h2]
  | f + 1, x, k + 1, h, h1, h2 => by
    have e : 2 ^ (k + 1) = 2 * 2 ^ k := by rw [Nat.pow_succ, Nat.mul_comm]
    rw [e] at h1 h2
    have h0 : x % 2 = 0 := by
      have := Nat.mod_mul_right_mod x 2 (2 ^ k)
      rw [h1] at this; omega
    have hd : x / 2 % 2 ^ k = 0 := by
      rw [Nat.mod_mul] at h1
      have hp : 0 < 2 ^ k := Nat.two_pow_pos k
      rcases Nat.eq_zero_or_pos (x / 2 % 2 ^ k) with h | h
      · exact h
      · omega
    rw [← Nat.div_div_eq_div_mul] at h2
    unfold Lib.ctzFrom
    rw [if_neg (by omega), ctzFrom_at f (x / 2) k (by omega) hd h2]
    omega
theorem tz_at (x : BitVec 64) (k : Nat) (h : k < 64) (h1 : x.toNat % 2 ^ k = 0) (h2 : x.toNat / 2 ^ k % 2 = 1) : tz x = k := by
  unfold tz Lib.ctz
  have h0 : x.toNat ≠ 0 := by intro e; rw [e] at h2; simp at h2
  rw [if_neg h0, ctzFrom_at 64 _ k h h1 h2]
theorem tz_none (x : BitVec 64) (h1 : x.toNat % 2 ^ 64 = 0) : tz x = 64 := by
  unfold tz Lib.ctz
  rw [Nat.mod_eq_of_lt x.isLt] at h1
  rw [if_pos h1]
theorem next_bit (n k : Nat) (h1 : n % 2 ^ k = 0) (h2 : n / 2 ^ k % 2 = 0) : n % 2 ^ (k + 1) = 0 := by
  rw [Nat.pow_succ, Nat.mod_mul, h1, h2]; simp
theorem bit_walk (x : BitVec 64) (k : Nat) : bits .and .u64 (u x / 2 ^ k) 1 = ((x.toNat / 2 ^ k % 2 : Nat) : Int) := by
  have e : u x / 2 ^ k = ((x.toNat / 2 ^ k : Nat) : Int) := by
    unfold u; rw [Int.natCast_ediv, Int.natCast_pow]; rfl
  rw [e, show (1 : Int) = ((1 : Nat) : Int) from rfl, u64_and_nat _ _ (Nat.lt_of_le_of_lt (Nat.div_le_self _ _) x.isLt) (by decide), nat_mask1]

def ZeroRel (x : BitVec 64) (i : Value) : Prop := ∃ k : Nat, k ≤ 64 ∧ i = .int .i64 k ∧ x.toNat % 2 ^ k = 0

set_option maxHeartbeats 400000 in
theorem refZeros_any (x : BitVec 64) (w : World) :
    Calls Tryd.prog 33 #[.int .u64 (u x)] w fun e w' => e = .returned (.int .i64 (tz x)) ∧ w = w' := by
  go_enter Tryd.func33, Tryd.ntmps33
  go_wp2
  go_loop [3] (fun i => ZeroRel x i) (fun i => 64 - (intOf i).toNat)
  case atStart => exact ⟨0, by omega, rfl, by simp [Nat.mod_one]⟩
  case round =>
    obtain ⟨k, hk, rfl, hz⟩ := hrel
    have HZ := Lib.hid hz
    clear hz
    by_cases hlt : k < 64
    · have hd : decide ((k : Int) < 64) = true := decide_eq_true (by omega)
      have hb := bit_walk x k
      rcases Nat.mod_two_eq_zero_or_one (x.toNat / 2 ^ k) with e | e
      · rw [e] at hb
        have E := Lib.hid e
        clear e
        go_wp2
        go_round
        case rel => exact ⟨k + 1, by omega, by go_num, next_bit _ _ HZ.out E.out⟩
        case measure => simp [intOf]; omega
      · rw [e] at hb
        have E := Lib.hid e
        clear e
        go_wp2
        go_ret
        exact ⟨by rw [tz_at x k hlt HZ.out E.out]; rfl, rfl⟩
    · have hd : decide ((k : Int) < 64) = false := decide_eq_false (by omega)
      go_wp2
      go_ret
      have e : k = 64 := by omega
      subst e
      exact ⟨by rw [tz_none x HZ.out]; rfl, rfl⟩

theorem tz64_core (x k idx : Nat) (w : World) (hx0 : ((x : Int) == 0) = false)
    (key : IntKind.u64.wrap (bits BinOp.and IntKind.u64 (x : Int) (IntKind.u64.wrap (-(x : Int))) * 285870213051353865) / 288230376151711744 = (idx : Int))
    (hi : idx < 64) (hk : k < 64) (hcell : w.cell? ⟨0, idx, none⟩ = some (.int .u8 k)) :
    Calls Tryd.prog 58 #[.int .u64 x] w fun e w' => e = .returned (.int .i64 k) ∧ w = w' := by
  go_enter Tryd.func58, Tryd.ntmps58
  go_wp2_with (simp only [key])
  go_ret
  exact ⟨rfl, rfl⟩
theorem tz64_zero (w : World) : Calls Tryd.prog 58 #[.int .u64 0] w fun e w' => e = .returned (.int .i64 64) ∧ w = w' := by
  go_enter Tryd.func58, Tryd.ntmps58
  go_wp2
  go_ret
  exact ⟨rfl, rfl⟩
theorem tz64_any (x : BitVec 64) (w : World) (hT : TabAt 0 Lib.deBruijn64tab w) :
    Calls Tryd.prog 58 #[.int .u64 (u x)] w fun e w' => e = .returned (.int .i64 (tz x)) ∧ w = w' := by
  by_cases hx0 : x.toNat = 0
  · have e1 : tz x = 64 := by unfold tz Lib.ctz; rw [if_pos hx0]
    have e2 : u x = 0 := by unfold u; rw [hx0]; rfl
    rw [e1, e2]; exact tz64_zero w
  · obtain ⟨hlow, hk⟩ := Lib.lowest_bit 64 x.toNat hx0 x.isLt
    obtain ⟨hi, htab⟩ := Lib.deBruijn64_at _ hk
    have hcell := hT _ (show _ < Lib.deBruijn64tab.length from hi)
    rw [htab] at hcell
    exact tz64_core x.toNat (tz x) _ w (by rw [beq_eq_false_iff_ne]; omega) (tz64_key x.toNat _ x.isLt hx0 hlow) hi hk hcell
theorem zeros_any (x : BitVec 64) (w : World) (hT : TabAt 0 Lib.deBruijn64tab w) :
    Calls Tryd.prog 32 #[.int .u64 (u x)] w fun e w' => e = .returned (.int .i64 (tz x)) ∧ w = w' := by
  have H := Lib.hid hT
  clear hT
  go_enter Tryd.func32, Tryd.ntmps32
  go_wp2_with (go_at_call 58; refine (tz64_any x _ H.out).mono ?_; rintro e w' ⟨rfl, rfl⟩)
  go_ret
  exact ⟨rfl, rfl⟩
end Go.Proofs.YtfnhcjcahcacnaaDoor
