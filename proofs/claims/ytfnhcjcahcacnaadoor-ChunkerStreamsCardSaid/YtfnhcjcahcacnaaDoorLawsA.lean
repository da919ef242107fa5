/- The walks of the laws RollinghashTables, RollinghashZeros. -/
import Derived.Test.YtfnhcjcahcacnaaDoorAwake
namespace Go.Proofs.YtfnhcjcahcacnaaDoor
open Go.RowKit
open Roll (u)
open Kit (Chg)

theorem number_int (s : BitVec 64) (i : Int) (h0 : 0 ≤ i) (hi : i < 256) (w : World) :
    Calls Tryd.prog 23 #[.int .u64 (u s), .int .i64 i] w fun e w' => e = .returned (.int .u64 (u (Roll.num s i.toNat))) ∧ w = w' := by
  obtain ⟨m, rfl⟩ := Int.eq_ofNat_of_zero_le h0
  exact number_any s m (by omega) w

/-- The world w1 after some draws. -/
def Drawn (w1 wr : World) : Prop := ∃ n, wr = w1.drewN n
theorem Drawn.refl (w : World) : Drawn w w := ⟨0, rfl⟩
theorem Drawn.drewN {w1 wr : World} (h : Drawn w1 wr) (n : Nat) : Drawn w1 (wr.drewN n) := by
  obtain ⟨m, rfl⟩ := h
  exact ⟨m + n, World.drewN_drewN _ _ _⟩
theorem Drawn.drew {w1 wr : World} (h : Drawn w1 wr) : Drawn w1 wr.drew := h.drewN 1
theorem Drawn.heap {w1 wr : World} (h : Drawn w1 wr) : wr.heap = w1.heap := by obtain ⟨m, rfl⟩ := h; rfl
theorem Drawn.cell {w1 wr : World} (h : Drawn w1 wr) (a : Addr) : wr.cell? a = w1.cell? a := by obtain ⟨m, rfl⟩ := h; rfl
theorem Drawn.frozen {w1 wr : World} (h : Drawn w1 wr) (a : Addr) : wr.frozen? a = w1.frozen? a := by obtain ⟨m, rfl⟩ := h; rfl
theorem Drawn.chg {w1 wr : World} (h : Drawn w1 wr) (M : Nat → Nat → Prop) : Chg M w1 wr := by obtain ⟨m, rfl⟩ := h; exact (Chg.refl _ _).drewN m
theorem Drawn.below {w1 wr : World} (h : Drawn w1 wr) (B : Nat) : Below B w1 wr := by obtain ⟨m, rfl⟩ := h; exact below_drewN (Below.refl _ _) m
def TablesRel (w1 : World) (i : Value) (wr : World) : Prop := ∃ k : Nat, k ≤ 256 ∧ i = .int .i64 k ∧ Drawn w1 wr

set_option maxRecDepth 100000 in
set_option maxHeartbeats 400000 in
theorem walk_RollinghashTables (s : BitVec 64) (w : World) (hT : TabAt 0 Lib.deBruijn64tab w) :
    Calls Tryd.prog 3 #[.int .u64 (u s)] w fun e w' => e = .returned (.bool true) ∧ Below w.heap.size w w' := by
  have HT := Lib.hid hT
  clear hT
  go_enter Tryd.func3, Tryd.ntmps3
  go_wp2_with fail
  refine (table_any s w).mono ?_
  rintro e w1 ⟨rfl, hs1, hb1, ht1⟩
  have HS1 := Lib.hid hs1
  have HB1 := Lib.hid hb1
  have HT1 := Lib.hid ht1
  clear hs1 hb1 ht1
  go_wp2_with fail
  go_loopw [4] (fun i wr => TablesRel w1 i wr) (fun i _ => 256 - (intOf i).toNat)
  case atStart => exact ⟨0, by omega, rfl, Drawn.refl _⟩
  case round =>
    obtain ⟨k, hk, rfl, hd⟩ := hrel
    have HD := Lib.hid hd
    by_cases hlt : k < 256
    · have hc : wr.cell? ⟨w.heap.size, k, none⟩ = some (.int .u64 (u (Roll.num s k))) := (hd.cell _).trans (HT1.out.cell k hlt)
      clear hd
      go_wp2_with fail
      go_quiet ((go_at_call 23; exact quiet (number_any s k hlt _)))
      go_wp2
      go_roundw
      case rel => exact ⟨k + 1, by omega, by go_num, HD.out.drewN _⟩
      case measure => simp [intOf]; omega
    · have hB := HB1.out.trans (hd.below w.heap.size)
      have HB := Lib.hid hB
      have HT2 := Lib.hid (tabAt_below HT.out hB (tabAt_size HT.out))
      clear hd hB
      go_wp2_with fail
      refine (awake14 _ HT2.out).mono ?_
      rintro e w2 ⟨rfl, hb2⟩
      have HB2 := Lib.hid hb2
      clear hb2
      go_wp2
      go_ret
      exact ⟨rfl, HB.out.trans (HB2.out.mono HB.out.size)⟩

set_option maxHeartbeats 400000 in
theorem walk_RollinghashZeros (s : BitVec 64) (w : World) (hT : TabAt 0 Lib.deBruijn64tab w) :
    Calls Tryd.prog 5 #[.int .u64 (u s)] w fun e w' => e = .returned (.bool true) ∧ Below w.heap.size w w' := by
  have HT := Lib.hid hT
  clear hT
  go_enter Tryd.func5, Tryd.ntmps5
  go_wp2_with fail
  refine (awake14 _ HT.out).mono ?_
  rintro e w1 ⟨rfl, hb1⟩
  have HB1 := Lib.hid hb1
  clear hb1
  go_wp2_with fail
  refine (zeros_any s _ (tabAt_below HT.out HB1.out (tabAt_size HT.out))).mono ?_
  rintro e w2 ⟨rfl, rfl⟩
  go_wp2_with fail
  refine (refZeros_any s _).mono ?_
  rintro e w2 ⟨rfl, rfl⟩
  go_wp2_with fail
  go_ret
  exact ⟨rfl, HB1.out⟩
end Go.Proofs.YtfnhcjcahcacnaaDoor
