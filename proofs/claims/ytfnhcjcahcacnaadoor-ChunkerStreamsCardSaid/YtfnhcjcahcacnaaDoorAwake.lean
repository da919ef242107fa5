/- The contract of kinkeeplaw14.awake: the chapter's examples. -/
import Derived.Test.YtfnhcjcahcacnaaDoorZeros
namespace Go.Proofs.YtfnhcjcahcacnaaDoor
open Go.RowKit
open Roll (u)
open Kit (Chg)

theorem tabAt_chg {w w' : World} {tab : List Nat} {M : Nat → Nat → Prop} (h : TabAt 0 tab w) (hc : Chg M w w') (hM : ∀ i, ¬ M 0 i) : TabAt 0 tab w' := fun j hj => hc.cell (h j hj) (hM j)
theorem tabAt_below {w w' : World} {tab : List Nat} {B : Nat} (h : TabAt 0 tab w) (hc : Below B w w') (hB : 0 < B) : TabAt 0 tab w' := fun j hj => (hc.cell (p := ⟨0, j, none⟩) hB).trans (h j hj)
theorem tabAt_size {w : World} (h : TabAt 0 Lib.deBruijn64tab w) : 0 < w.heap.size := World.block_lt_of_cell? w _ (h 0 (by decide))

theorem quiet {P : Program} {f : FuncId} {args : Array Value} {w : World} {n : Nat} {v : Value}
    (h : Calls P f args (w.drewN n) fun e w' => e = .returned v ∧ w.drewN n = w') : Calls P f args (w.drewN n) fun e w'' => e = .returned v ∧ ∃ m, w'' = w.drewN m :=
  h.mono fun _ _ ⟨he, hm⟩ => ⟨he, n, hm.symm⟩

theorem table_zero (w : World) : Calls Tryd.prog 22 #[.int .u64 0] w fun e w' => e = .returned (.slice (some ⟨w.heap.size, 0, none⟩) 256 256) ∧ w.heap.size < w'.heap.size ∧ Below w.heap.size w w' ∧ TabUpTo 0 w.heap.size 256 w' := table_any 0 w
theorem new_zero (w : World) : Calls Tryd.prog 25 #[.int .u64 0, .int .i64 2] w fun e w' => e = .returned (.pointer (some ⟨w.heap.size, 0, none⟩)) ∧ RollAt w' w.heap.size 0 0 2 [] 0 ∧ Below w.heap.size w w' := new_any 0 2 (by decide) (by decide) w
theorem zeros_40 (w : World) (hT : TabAt 0 Lib.deBruijn64tab w) : Calls Tryd.prog 32 #[.int .u64 40] w fun e w' => e = .returned (.int .i64 3) ∧ w = w' := zeros_any 40 w hT

theorem num_zero : Roll.num 0 0 = BitVec.ofNat 64 16294208416658607535 := by decide
theorem awake_sum : (u (Roll.hash 0 [2, 3]) == u ((Roll.num 0 2 <<< 1 ||| Roll.num 0 2 >>> 63) ^^^ Roll.num 0 3)) = true := by
  rw [beq_iff_eq]
  have h := Roll.hash_append 0 [2] [3]
  rw [List.singleton_append, Roll.hash_one, Roll.hash_one] at h
  rw [h]; rfl

theorem TabUpTo.cell {s : BitVec 64} {N : Nat} {w : World} (h : TabUpTo s N 256 w) (i : Nat) (hi : i < 256) : w.cell? ⟨N, i, none⟩ = some (.int .u64 (u (Roll.num s i))) := by
  obtain ⟨cs, h1, _, h3⟩ := h
  rw [cell_of_row _ _ _ _ _ _ h1, h3 i hi]

set_option maxRecDepth 100000 in
set_option maxHeartbeats 400000 in
theorem awake14 (w : World) (hT : TabAt 0 Lib.deBruijn64tab w) :
    Calls Tryd.prog 24 #[] w fun e w' => e = .returned (.bool true) ∧ Below w.heap.size w w' := by
  have HT := Lib.hid hT
  clear hT
  obtain ⟨Q0, hq0⟩ : ∃ Q : Prop, Hid Q := ⟨True, trivial⟩
  have r1 := Roll.f_shl1 Q0
  have r2 := Roll.f_shr63 Q0
  have r3 := Roll.f_or Q0
  have r4 := Roll.f_xor Q0
  have r9 := Roll.f_nonneg Q0
  go_enter Tryd.func24, Tryd.ntmps24
  go_wp2_with fail
  refine (table_zero w).mono ?_
  rintro e w1 ⟨rfl, hs1, hb1, ht1⟩
  have HS1 := Lib.hid hs1
  have HB1 := Lib.hid hb1
  have HT1 := Lib.hid ht1
  clear hs1 hb1 ht1
  go_wp2_with fail
  refine (new_zero w1).mono ?_
  rintro e w2 ⟨rfl, hr2, hb2⟩
  have HR2 := Lib.hid hr2
  have HB2 := Lib.hid hb2
  have c0 : w2.cell? ⟨w.heap.size, 0, none⟩ = some (.int .u64 16294208416658607535) := by
    rw [hb2.cell (p := ⟨w.heap.size, 0, none⟩) HS1.out, HT1.out.cell 0 (by decide), num_zero]; rfl
  clear hr2 hb2
  go_wp2_with fail
  refine (push_any w1.heap.size 0 0 2 [] 0 1 (by decide) w2 HR2.out).mono ?_
  rintro e w3 ⟨rfl, ⟨st3, hr3⟩, hc3⟩
  have HR3 := Lib.hid hr3
  have HC3 := Lib.hid hc3
  clear hr3 hc3
  go_wp2_with fail
  refine (push_any w1.heap.size 0 0 2 [1] st3 2 (by decide) w3 HR3.out).mono ?_
  rintro e w4 ⟨rfl, ⟨st4, hr4⟩, hc4⟩
  have HR4 := Lib.hid hr4
  have HC4 := Lib.hid hc4
  clear hr4 hc4
  go_wp2_with fail
  refine (push_any w1.heap.size 0 0 2 [1, 2] st4 3 (by decide) w4 HR4.out).mono ?_
  rintro e w5 ⟨rfl, ⟨st5, hr5⟩, hc5⟩
  have HR5 : Hid (RollAt w5 w1.heap.size 0 0 2 [2, 3] st5) := hr5
  have hne : ∀ i, ¬ rollCells w1.heap.size 0 w.heap.size i := fun i hi => by have := HS1.out; have := hi.1; omega
  have c5 : ∀ i, i < 256 → w5.cell? ⟨w.heap.size, i, none⟩ = some (.int .u64 (u (Roll.num 0 i))) := fun i hi =>
    hc5.cell (HC4.out.cell (HC3.out.cell ((HB2.out.cell (p := ⟨w.heap.size, i, none⟩) HS1.out).trans (HT1.out.cell i hi)) (hne i)) (hne i)) (hne i)
  have c2 := c5 2 (by decide)
  have c3 := c5 3 (by decide)
  have hB : Below w.heap.size w w5 :=
    (HB1.out.trans (HB2.out.mono (by have := HS1.out; omega))).trans (((HC3.out.trans HC4.out).trans hc5).below (B := w.heap.size) (by have := HS1.out; have := HB2.out.size; omega) (fun k i hk hi => by have := hi.1; have := HS1.out; omega))
  have HT5 := Lib.hid (tabAt_below HT.out hB (tabAt_size HT.out))
  have HB := Lib.hid hB
  have aw := awake_sum
  clear hr5 hc5 c0 c5 hne hB HR2 HB2 HC3 HC4 HR3 HR4
  go_wp2_with fail
  go_quiet (first | (go_at_call 26; exact quiet (len_any _ _ 2 _ HR5.out.length)) | (go_at_call 27; exact quiet (sum_any _ _ _ _ HR5.out.sum)) | (go_at_call 32; exact quiet (zeros_40 _ HT5.out)))
  go_wp2
  go_ret
  exact ⟨rfl, below_drewN HB.out _⟩
end Go.Proofs.YtfnhcjcahcacnaaDoor
