/- The law ChunkerPrimary: the walk. -/
import Derived.Test.YtfnhcjcahcacnaaDoorLawsG
namespace Go.Proofs.YtfnhcjcahcacnaaDoor
set_option linter.unusedVariables false
set_option linter.unusedSimpArgs false
open Go.RowKit
open Roll (u)
open Kit (Chg)
open Chk

theorem slices1 (w : World) (a : Option Addr) (n m : Nat) : SlicesAt (w.alloc (.cells #[.slice a n m] 28)) w.heap.size [(a, n, m)] := by
  intro i hi
  have h0 : i = 0 := by simpa using hi
  subst h0
  rw [cell_of_row _ _ _ _ _ _ (heap_alloc_new _ _)]
  rfl
theorem few1 (a : Option Addr) (n m : Nat) : fewB [(a, n, m)] = decide (n ≤ 300) := by simp [fewB]
theorem few1_any (w : World) (a : Option Addr) (n m : Nat) : Calls Tryd.prog 39 #[.slice (some ⟨w.heap.size, 0, none⟩) 1 1] (w.alloc (.cells #[.slice a n m] 28)) fun e w' => e = .returned (.bool (decide (n ≤ 300))) ∧ w.alloc (.cells #[.slice a n m] 28) = w' := by
  have := few_any w.heap.size 1 [(a, n, m)] (by simp) _ (slices1 w a n m)
  rw [few1] at this
  exact this
theorem valid_of_small {mn mx win bits : Int} (h : smallB mn mx win bits = true) : validB mn mx win bits = true := by
  unfold smallB at h; rw [Bool.and_eq_true] at h; exact h.1
theorem primTo_len (c : Cut) (ds : List Nat) : (primTo c ds ds.length).length ≤ ds.length := primTo_length c ds _

/-- What holds all along in a law that has laid its cutting in a box. -/
structure Inv (w W : World) (mn mx win bits : Int) (s : BitVec 64) : Prop where
  b : Below w.heap.size w W
  x : CutBox W w.heap.size mn mx win bits s
  lt : w.heap.size < W.heap.size
theorem Inv.step {w W W' : World} {mn mx win bits : Int} {s : BitVec 64} (h : Inv w W mn mx win bits s) (hb : Below W.heap.size W W') : Inv w W' mn mx win bits s :=
  ⟨h.b.trans (hb.mono h.b.size), h.x.later hb h.lt, Nat.lt_of_lt_of_le h.lt hb.size⟩
theorem Inv.alloc {w W : World} {mn mx win bits : Int} {s : BitVec 64} (h : Inv w W mn mx win bits s) (o : Obj) : Inv w (W.alloc o) mn mx win bits s := h.step ((Below.refl _ _).alloc (Nat.le_refl _) _)
theorem Inv.drewN {w W : World} {mn mx win bits : Int} {s : BitVec 64} (h : Inv w W mn mx win bits s) (n : Nat) : Inv w (W.drewN n) mn mx win bits s := h.step (below_drewN (Below.refl _ _) n)
theorem Inv.new (w : World) (mn mx win bits : Int) (s : BitVec 64) : Inv w (w.alloc (.cells #[.int .i64 mn, .int .i64 mx, .int .i64 win, .int .i64 bits, .int .u64 (u s)] 48)) mn mx win bits s :=
  ⟨(Below.refl _ _).alloc (Nat.le_refl _) _, CutBox.new _ _ _ _ _ _, by simp⟩
theorem Inv.tab {w W : World} {mn mx win bits : Int} {s : BitVec 64} (h : Inv w W mn mx win bits s) (hT : TabAt 0 Lib.deBruijn64tab w) : TabAt 0 Lib.deBruijn64tab W := tabAt_below hT h.b (tabAt_size hT)

set_option maxRecDepth 100000 in
set_option maxHeartbeats 1000000 in
theorem walk_ChunkerPrimary (mn mx win bits : Int) (s : BitVec 64) (a : Option Addr) (cap : Nat) (bs : List Nat) (w : World) (hB : BytesAt w a bs) (hcap : bs.length ≤ cap) (hnil : a = none → cap = 0) (hl : bs.length ≤ 140737488351232) (hT : TabAt 0 Lib.deBruijn64tab w) :
    Calls Tryd.prog 13 #[.agg #[.int .i64 mn, .int .i64 mx, .int .i64 win, .int .i64 bits, .int .u64 (u s)], .slice a bs.length cap] w fun e w' => e = .returned (.bool true) ∧ Below w.heap.size w w' := by
  have HT := Lib.hid hT
  have HBY := Lib.hid hB
  have HCAP := Lib.hid hcap
  clear hT hB hcap
  go_enter Tryd.func13, Tryd.ntmps13
  go_wp2_with fail
  refine (small_any mn mx win bits s _).mono ?_
  rintro e w1 ⟨rfl, hb⟩
  have I1 := Lib.hid ((Inv.new w mn mx win bits s).step hb)
  clear hb
  cases hv : smallB mn mx win bits with
  | false =>
    clear hv
    go_wp2_with fail
    refine (awake16 w1 (I1.out.tab HT.out)).mono ?_
    rintro e w3 ⟨rfl, hb3⟩
    have I3 := Lib.hid (I1.out.step hb3)
    clear hb3
    go_wp2_with fail
    go_ret
    exact ⟨rfl, I3.out.b⟩
  | true =>
    have hv2 := valid_of_small hv
    clear hv
    go_wp2_with fail
    refine (few1_any w1 a bs.length cap).mono ?_
    rintro e w2 ⟨rfl, he2⟩
    have I2 : Hid (Inv w w2 mn mx win bits s) := by rw [← he2]; exact I1.out.alloc _
    clear he2 I1
    by_cases h3 : bs.length ≤ 300
    · rw [decide_eq_true h3]
      obtain ⟨c, hk, rfl, rfl, rfl, rfl, rfl⟩ := cut_of_valid s hv2
      have HK := Lib.hid hk
      clear hk hv2
      obtain ⟨c0, c1, c2, c3, c4⟩ := I2.out.x
      go_wp2_with fail
      refine (primary_any c HK.out a cap bs (by omega) w2 (HBY.out.later I2.out.b) (I2.out.tab HT.out)).mono ?_
      rintro e w3 ⟨v, rfl, ho, hb3⟩
      obtain ⟨_, a3, cap3, rfl, _, _, hi3, _⟩ := ints_of_own ho
      have I3 := Lib.hid (I2.out.step hb3)
      have HI3 := Lib.hid hi3
      clear ho hb3 hi3 c0 c1 c2 c3 c4
      go_wp2_with fail
      refine (awake16 w3 (I3.out.tab HT.out)).mono ?_
      rintro e w4 ⟨rfl, hb4⟩
      have I4 := Lib.hid (I3.out.step hb4)
      have HI4 := Lib.hid (HI3.out.later hb4)
      clear hb4
      obtain ⟨c0, c1, c2, c3, c4⟩ := I4.out.x
      go_wp2_with fail
      refine (refPrimary_any c HK.out a cap bs (by omega) HCAP.out w4 (HBY.out.later I4.out.b)).mono ?_
      rintro e w5 ⟨v, rfl, ho, hb5⟩
      obtain ⟨_, a5, cap5, rfl, _, _, hi5, _⟩ := ints_of_own ho
      have I5 := Lib.hid (I4.out.step hb5)
      have HI5 := Lib.hid hi5
      have HI45 := Lib.hid (HI4.out.later hb5)
      have hlp := primTo_len c bs
      clear ho hb5 hi5 c0 c1 c2 c3 c4
      go_wp2_with fail
      refine (ints_any a3 a5 cap3 cap5 (primTo c bs bs.length) (primTo c bs bs.length) (by omega) (by omega) w5 HI45.out HI5.out).mono ?_
      rintro e w6 ⟨rfl, hb6⟩
      have I6 := Lib.hid (I5.out.step hb6)
      rw [decide_eq_true rfl]
      clear hb6
      go_wp2_with fail
      go_ret
      exact ⟨rfl, I6.out.b⟩
    · rw [decide_eq_false h3]
      go_wp2_with fail
      refine (awake16 w2 (I2.out.tab HT.out)).mono ?_
      rintro e w3 ⟨rfl, hb3⟩
      have I3 := Lib.hid (I2.out.step hb3)
      clear hb3
      go_wp2_with fail
      go_ret
      exact ⟨rfl, I3.out.b⟩
end Go.Proofs.YtfnhcjcahcacnaaDoor
