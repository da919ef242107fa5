/- The law ChunkerValid: the walk. -/
import Derived.Test.YtfnhcjcahcacnaaDoorBad
namespace Go.Proofs.YtfnhcjcahcacnaaDoor
open Go.RowKit
open Roll (u)
open Kit (Chg)
open Chk

theorem reach_bad (mn mx win bits : Int) (s : BitVec 64) (hv : validB mn mx win bits = false) (w : World) : Calls Tryd.prog 46 #[.agg #[.int .i64 mn, .int .i64 mx, .int .i64 win, .int .i64 bits, .int .u64 (u s)], .int .i64 0, .int .i64 1] w fun e w' =>
    e = .returned (.tuple #[.int .i64 0, .int .i64 0, .int .i64 1]) ∧ Below w.heap.size w w' := by
  refine (reach_any mn mx win bits s 0 1 w).mono ?_
  rintro e w' ⟨rfl, hb⟩
  refine ⟨?_, hb⟩
  unfold reachV reachB
  rw [hv, Bool.false_and, if_neg (by simp)]
theorem reach_ok (mn mx win bits : Int) (s : BitVec 64) (hv : validB mn mx win bits = true) (w : World) : Calls Tryd.prog 46 #[.agg #[.int .i64 mn, .int .i64 mx, .int .i64 win, .int .i64 bits, .int .u64 (u s)], .int .i64 0, .int .i64 1] w fun e w' =>
    ∃ r1 r2 : Int, e = .returned (.tuple #[.int .i64 r1, .int .i64 r2, .int .i64 0]) ∧ Below w.heap.size w w' := by
  refine (reach_any mn mx win bits s 0 1 w).mono ?_
  rintro e w' ⟨rfl, hb⟩
  refine ⟨0 + 1, 1 + win + mn - 2, ?_, hb⟩
  unfold reachV reachB
  rw [hv, Bool.true_and, if_pos (by decide)]

theorem few1_two (w : World) (o : Obj) (a : Option Addr) (n m : Nat) : Calls Tryd.prog 39 #[.slice (some ⟨w.heap.size + 1, 0, none⟩) 1 1] ((w.alloc o).alloc (.cells #[.slice a n m] 28)) fun e w' => e = .returned (.bool (decide (n ≤ 300))) ∧ (w.alloc o).alloc (.cells #[.slice a n m] 28) = w' := by
  have := few1_any (w.alloc o) a n m
  rw [World.size_alloc] at this
  exact this

set_option maxRecDepth 100000 in
set_option maxHeartbeats 1000000 in
theorem walk_ChunkerValid (mn mx win bits : Int) (s : BitVec 64) (a : Option Addr) (cap : Nat) (bs : List Nat) (w : World) (hB : BytesAt w a bs) (hcap : bs.length ≤ cap) (hnil : a = none → cap = 0) (hl : bs.length ≤ 140737488351232) (hT : TabAt 0 Lib.deBruijn64tab w) :
    Calls Tryd.prog 21 #[.agg #[.int .i64 mn, .int .i64 mx, .int .i64 win, .int .i64 bits, .int .u64 (u s)], .slice a bs.length cap] w fun e w' => e = .returned (.bool true) ∧ Below w.heap.size w w' := by
  have HT := Lib.hid hT
  have HBY := Lib.hid hB
  have HCAP := Lib.hid hcap
  clear hT hB hcap
  go_enter Tryd.func21, Tryd.ntmps21
  go_wp2_with fail
  refine (few1_two w _ a bs.length cap).mono ?_
  rintro e w1 ⟨rfl, he1⟩
  have I1 : Hid (Inv w w1 mn mx win bits s) := by rw [← he1]; exact (Inv.new w mn mx win bits s).alloc _
  clear he1
  by_cases h3 : bs.length ≤ 300
  · rw [decide_eq_true h3]
    obtain ⟨c0, c1, c2, c3, c4⟩ := I1.out.x
    go_wp2_with fail
    refine (refValid_any mn mx win bits s _).mono ?_
    rintro e w2 ⟨rfl, hb2⟩
    have I2 := Lib.hid (I1.out.step hb2)
    clear hb2 c0 c1 c2 c3 c4
    cases hv : validB mn mx win bits with
    | false =>
      obtain ⟨c0, c1, c2, c3, c4⟩ := I2.out.x
      go_wp2_with fail
      refine (primary_bad mn mx win bits s a bs.length cap hv w2).mono ?_
      rintro e w3 ⟨rfl, hb⟩
      have I3 := Lib.hid (I2.out.step hb)
      clear hb c0 c1 c2 c3 c4
      obtain ⟨c0, c1, c2, c3, c4⟩ := I3.out.x
      go_wp2_with fail
      refine (cuts_bad mn mx win bits s a bs.length cap hv w3).mono ?_
      rintro e w4 ⟨rfl, hb⟩
      have I4 := Lib.hid (I3.out.step hb)
      clear hb c0 c1 c2 c3 c4
      obtain ⟨c0, c1, c2, c3, c4⟩ := I4.out.x
      go_wp2_with fail
      refine (split_bad mn mx win bits s a bs.length cap hv w4).mono ?_
      rintro e w5 ⟨rfl, hb⟩
      have I5 := Lib.hid (I4.out.step hb)
      clear hb c0 c1 c2 c3 c4
      obtain ⟨c0, c1, c2, c3, c4⟩ := I5.out.x
      go_wp2_with fail
      refine (new_bad mn mx win bits s hv w5).mono ?_
      rintro e w6 ⟨rfl, hb⟩
      have I6 := Lib.hid (I5.out.step hb)
      clear hb c0 c1 c2 c3 c4
      obtain ⟨c0, c1, c2, c3, c4⟩ := I6.out.x
      go_wp2_with fail
      refine (reach_bad mn mx win bits s hv w6).mono ?_
      rintro e w7 ⟨rfl, hb⟩
      have I7 := Lib.hid (I6.out.step hb)
      clear hb c0 c1 c2 c3 c4
      obtain ⟨c0, c1, c2, c3, c4⟩ := I7.out.x
      go_wp2_with fail
      refine (common_bad mn mx win bits s a a bs.length cap bs.length cap hv w7).mono ?_
      rintro e w8 ⟨rfl, hb⟩
      have I8 := Lib.hid (I7.out.step hb)
      clear hb c0 c1 c2 c3 c4
      obtain ⟨c0, c1, c2, c3, c4⟩ := I8.out.x
      go_wp2_with fail
      refine (awake16 w8 (I8.out.tab HT.out)).mono ?_
      rintro e w9 ⟨rfl, hb⟩
      have I9 := Lib.hid (I8.out.step hb)
      clear hb c0 c1 c2 c3 c4
      obtain ⟨c0, c1, c2, c3, c4⟩ := I9.out.x
      go_wp2_with fail
      refine (valid_any mn mx win bits s w9).mono ?_
      rintro e w10 ⟨rfl, hb⟩
      have I10 := Lib.hid (I9.out.step hb)
      rw [hv]
      clear hb c0 c1 c2 c3 c4
      go_wp2_with fail
      go_ret
      exact ⟨rfl, I10.out.b⟩
    | true =>
      obtain ⟨c, hk, rfl, rfl, rfl, rfl, rfl⟩ := cut_of_valid s hv
      have HK := Lib.hid hk
      clear hk
      obtain ⟨c0, c1, c2, c3, c4⟩ := I2.out.x
      go_wp2_with fail
      refine (primary_k c HK.out a cap bs (primTo c bs bs.length) bs.length rfl (by omega) rfl w2 (HBY.out.later I2.out.b) (I2.out.tab HT.out)).mono ?_
      rintro e w3 ⟨a3, cap3, rfl, _, hb, _, _⟩
      have I3 := Lib.hid (I2.out.step hb)
      generalize (primTo c bs bs.length).length = n3
      clear hb c0 c1 c2 c3 c4
      obtain ⟨c0, c1, c2, c3, c4⟩ := I3.out.x
      go_wp2_with fail
      refine (cuts_z c HK.out a cap bs (cuts c bs) rfl (by omega) w3 (HBY.out.later I3.out.b) (I3.out.tab HT.out)).mono ?_
      rintro e w4 ⟨a4, cap4, rfl, _, hb⟩
      have I4 := Lib.hid (I3.out.step hb)
      generalize (cuts c bs).length = n4
      clear hb c0 c1 c2 c3 c4
      obtain ⟨c0, c1, c2, c3, c4⟩ := I4.out.x
      go_wp2_with fail
      refine (split_z c HK.out a cap bs (chunks c bs) rfl (by omega) HCAP.out w4 (HBY.out.later I4.out.b) (I4.out.tab HT.out)).mono ?_
      rintro e w5 ⟨a5, cap5, rfl, _, _, hb, _⟩
      have I5 := Lib.hid (I4.out.step hb)
      generalize (chunks c bs).length = n5
      clear hb c0 c1 c2 c3 c4
      obtain ⟨c0, c1, c2, c3, c4⟩ := I5.out.x
      go_wp2_with fail
      refine (new_ok c HK.out w5 (by have := I5.out.lt; omega)).mono ?_
      rintro e w6 ⟨b, rfl, _, _, _, hb⟩
      have I6 := Lib.hid (I5.out.step hb)
      clear hb c0 c1 c2 c3 c4
      obtain ⟨c0, c1, c2, c3, c4⟩ := I6.out.x
      go_wp2_with fail
      refine (reach_ok c.mn c.mx c.win c.bits c.seed hv w6).mono ?_
      rintro e w7 ⟨r1, r2, rfl, hb⟩
      have I7 := Lib.hid (I6.out.step hb)
      clear hb c0 c1 c2 c3 c4
      obtain ⟨c0, c1, c2, c3, c4⟩ := I7.out.x
      go_wp2_with fail
      refine (common_same c HK.out a cap bs h3 HCAP.out w7 (HBY.out.later I7.out.b) (I7.out.tab HT.out)).mono ?_
      rintro e w8 ⟨⟨z1, z2, rfl⟩, hb⟩
      have I8 := Lib.hid (I7.out.step hb)
      clear hb c0 c1 c2 c3 c4
      obtain ⟨c0, c1, c2, c3, c4⟩ := I8.out.x
      go_wp2_with fail
      refine (awake16 w8 (I8.out.tab HT.out)).mono ?_
      rintro e w9 ⟨rfl, hb⟩
      have I9 := Lib.hid (I8.out.step hb)
      clear hb c0 c1 c2 c3 c4
      obtain ⟨c0, c1, c2, c3, c4⟩ := I9.out.x
      go_wp2_with fail
      refine (valid_any c.mn c.mx c.win c.bits c.seed w9).mono ?_
      rintro e w10 ⟨rfl, hb⟩
      have I10 := Lib.hid (I9.out.step hb)
      rw [hv]
      clear hb c0 c1 c2 c3 c4
      go_wp2_with fail
      go_ret
      exact ⟨rfl, I10.out.b⟩
  · rw [decide_eq_false h3]
    go_wp2_with fail
    refine (awake16 w1 (I1.out.tab HT.out)).mono ?_
    rintro e w3 ⟨rfl, hb3⟩
    have I3 := Lib.hid (I1.out.step hb3)
    clear hb3
    go_wp2_with fail
    go_ret
    exact ⟨rfl, I3.out.b⟩
end Go.Proofs.YtfnhcjcahcacnaaDoor
