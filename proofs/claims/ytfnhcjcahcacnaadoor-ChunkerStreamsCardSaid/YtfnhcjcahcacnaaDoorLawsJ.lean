/- The law ChunkerCuts: the walk. -/
import Derived.Test.YtfnhcjcahcacnaaDoorRefS
namespace Go.Proofs.YtfnhcjcahcacnaaDoor
open Go.RowKit
open Roll (u)
open Kit (Chg)
open Chk

theorem chunks_len (c : Cut) (ds : List Nat) : (chunks c ds).length ≤ ds.length := by
  rw [chunks_pieces, pieces_length]; exact cuts_length c ds

theorem cuts_z (c : Cut) (hk : c.Ok) (a : Option Addr) (cap : Nat) (ds zs : List Nat) (hz : cuts c ds = zs) (hl : ds.length ≤ 1000000) (w : World) (h : BytesAt w a ds) (hT : TabAt 0 Lib.deBruijn64tab w) :
    Calls Tryd.prog 50 #[.agg #[.int .i64 c.mn, .int .i64 c.mx, .int .i64 c.win, .int .i64 c.bits, .int .u64 (u c.seed)], .slice a ds.length cap] w fun e w' =>
      ∃ a' cap', e = .returned (.tuple #[.slice a' zs.length cap', .int .i64 0]) ∧ IntsAt w' a' zs ∧ Below w.heap.size w w' := by
  subst hz
  refine (cuts_any c hk a cap ds hl w h hT).mono ?_
  rintro e w' ⟨v, rfl, ho, hb⟩
  obtain ⟨_, a', cap', rfl, _, _, hi, _⟩ := ints_of_own ho
  exact ⟨a', cap', rfl, hi, hb⟩
theorem refCuts_z (c : Cut) (hk : c.Ok) (a : Option Addr) (cap : Nat) (ds zs : List Nat) (hz : cuts c ds = zs) (hl : ds.length ≤ 1000000) (hcap : ds.length ≤ cap) (w : World) (h : BytesAt w a ds) :
    Calls Tryd.prog 52 #[.agg #[.int .i64 c.mn, .int .i64 c.mx, .int .i64 c.win, .int .i64 c.bits, .int .u64 (u c.seed)], .slice a ds.length cap] w fun e w' =>
      ∃ a' cap', e = .returned (.slice a' zs.length cap') ∧ IntsAt w' a' zs ∧ Below w.heap.size w w' := by
  subst hz
  refine (refCuts_any c hk a cap ds hl hcap w h).mono ?_
  rintro e w' ⟨v, rfl, ho, hb⟩
  obtain ⟨_, a', cap', rfl, _, _, hi, _⟩ := ints_of_own ho
  exact ⟨a', cap', rfl, hi, hb⟩
theorem split_z (c : Cut) (hk : c.Ok) (a : Option Addr) (cap : Nat) (ds : List Nat) (zs : List (List Nat)) (hz : chunks c ds = zs) (hl : ds.length ≤ 100000) (hcap : ds.length ≤ cap) (w : World) (h : BytesAt w a ds) (hT : TabAt 0 Lib.deBruijn64tab w) :
    Calls Tryd.prog 51 #[.agg #[.int .i64 c.mn, .int .i64 c.mx, .int .i64 c.win, .int .i64 c.bits, .int .u64 (u c.seed)], .slice a ds.length cap] w fun e w' =>
      ∃ a' cap', e = .returned (.tuple #[.slice a' zs.length cap', .int .i64 0]) ∧ Lists w' a' zs ∧ zs.length ≤ cap' ∧ Below w.heap.size w w' ∧ (a' = none → cap' = 0) := by
  subst hz
  refine (split_any c hk a cap ds hl hcap w h hT).mono ?_
  rintro e w' ⟨v, rows, rfl, ho, hch, hb⟩
  obtain ⟨_, a', cap', rfl, h1, _, hi, h2⟩ := lists_of_own ho hch
  exact ⟨a', cap', rfl, hi, h1, hb, h2⟩
theorem refSplit_z (c : Cut) (hk : c.Ok) (a : Option Addr) (cap : Nat) (ds : List Nat) (zs : List (List Nat)) (hz : chunks c ds = zs) (hl : ds.length ≤ 100000) (hcap : ds.length ≤ cap) (hnil : a = none → cap = 0) (w : World) (h : BytesAt w a ds) :
    Calls Tryd.prog 43 #[.agg #[.int .i64 c.mn, .int .i64 c.mx, .int .i64 c.win, .int .i64 c.bits, .int .u64 (u c.seed)], .slice a ds.length cap] w fun e w' =>
      ∃ a' cap', e = .returned (.slice a' zs.length cap') ∧ Lists w' a' zs ∧ zs.length ≤ cap' ∧ Below w.heap.size w w' ∧ (a' = none → cap' = 0) := by
  subst hz
  refine (refSplit_any c hk a cap ds hl hcap hnil w h).mono ?_
  rintro e w' ⟨v, rows, rfl, ho, hch, hb⟩
  obtain ⟨_, a', cap', rfl, h1, _, hi, h2⟩ := lists_of_own ho hch
  exact ⟨a', cap', rfl, hi, h1, hb, h2⟩

set_option maxRecDepth 100000 in
set_option maxHeartbeats 1000000 in
theorem walk_ChunkerCuts (mn mx win bits : Int) (s : BitVec 64) (a : Option Addr) (cap : Nat) (bs : List Nat) (w : World) (hB : BytesAt w a bs) (hcap : bs.length ≤ cap) (hnil : a = none → cap = 0) (hl : bs.length ≤ 140737488351232) (hT : TabAt 0 Lib.deBruijn64tab w) :
    Calls Tryd.prog 17 #[.agg #[.int .i64 mn, .int .i64 mx, .int .i64 win, .int .i64 bits, .int .u64 (u s)], .slice a bs.length cap] w fun e w' => e = .returned (.bool true) ∧ Below w.heap.size w w' := by
  have HT := Lib.hid hT
  have HBY := Lib.hid hB
  have HCAP := Lib.hid hcap
  have HNIL := Lib.hid hnil
  clear hT hB hcap hnil
  go_enter Tryd.func17, Tryd.ntmps17
  go_wp2_with fail
  refine (small_any mn mx win bits s _).mono ?_
  rintro e w1 ⟨rfl, hb⟩
  have I1 := Lib.hid ((Inv.new w mn mx win bits s).step hb)
  clear hb
  cases hv : smallB mn mx win bits with
  | false =>
    clear hv
    go_wp2_with fail
    refine (awake16 w1 (I1.out.tab HT.out)).mono ?_
    rintro e w3 ⟨rfl, hb3⟩
    have I3 := Lib.hid (I1.out.step hb3)
    clear hb3
    go_wp2_with fail
    go_ret
    exact ⟨rfl, I3.out.b⟩
  | true =>
    have hv2 := valid_of_small hv
    clear hv
    go_wp2_with fail
    refine (few1_any w1 a bs.length cap).mono ?_
    rintro e w2 ⟨rfl, he2⟩
    have I2 : Hid (Inv w w2 mn mx win bits s) := by rw [← he2]; exact I1.out.alloc _
    clear he2 I1
    by_cases h3 : bs.length ≤ 300
    · rw [decide_eq_true h3]
      obtain ⟨c, hk, rfl, rfl, rfl, rfl, rfl⟩ := cut_of_valid s hv2
      have HK := Lib.hid hk
      clear hk hv2
      obtain ⟨c0, c1, c2, c3, c4⟩ := I2.out.x
      obtain ⟨C, hC, hcl⟩ : ∃ C, cuts c bs = C ∧ C.length ≤ 300 := ⟨_, rfl, by have := cuts_length c bs; omega⟩
      obtain ⟨L, hL, hkl⟩ : ∃ L, chunks c bs = L ∧ L.length ≤ 300 := ⟨_, rfl, by have := chunks_len c bs; omega⟩
      have HC := Lib.hid hC
      have HL := Lib.hid hL
      clear hC hL
      go_wp2_with fail
      refine (cuts_z c HK.out a cap bs C HC.out (by omega) w2 (HBY.out.later I2.out.b) (I2.out.tab HT.out)).mono ?_
      rintro e w3 ⟨a3, cap3, rfl, hi3, hb3⟩
      have I3 := Lib.hid (I2.out.step hb3)
      have HI3 := Lib.hid hi3
      clear hb3 hi3 c0 c1 c2 c3 c4
      obtain ⟨c0, c1, c2, c3, c4⟩ := I3.out.x
      go_wp2_with fail
      refine (split_z c HK.out a cap bs L HL.out (by omega) HCAP.out w3 (HBY.out.later I3.out.b) (I3.out.tab HT.out)).mono ?_
      rintro e w4 ⟨a4, cap4, rfl, hl4, _, hb4, _⟩
      have I4 := Lib.hid (I3.out.step hb4)
      have HL4 := Lib.hid hl4
      have HI4 := Lib.hid (HI3.out.later hb4)
      clear hb4 hl4 c0 c1 c2 c3 c4
      go_wp2_with fail
      refine (awake16 w4 (I4.out.tab HT.out)).mono ?_
      rintro e w5 ⟨rfl, hb5⟩
      have I5 := Lib.hid (I4.out.step hb5)
      have HI5 := Lib.hid (HI4.out.later hb5)
      have HL5 := Lib.hid (HL4.out.later hb5)
      clear hb5
      obtain ⟨c0, c1, c2, c3, c4⟩ := I5.out.x
      go_wp2_with fail
      refine (refCuts_z c HK.out a cap bs C HC.out (by omega) HCAP.out w5 (HBY.out.later I5.out.b)).mono ?_
      rintro e w6 ⟨a6, cap6, rfl, hi6, hb6⟩
      have I6 := Lib.hid (I5.out.step hb6)
      have HI6 := Lib.hid hi6
      have HI56 := Lib.hid (HI5.out.later hb6)
      have HL6 := Lib.hid (HL5.out.later hb6)
      clear hb6 hi6 c0 c1 c2 c3 c4
      go_wp2_with fail
      refine (ints_any a3 a6 cap3 cap6 C C (by omega) (by omega) w6 HI56.out HI6.out).mono ?_
      rintro e w7 ⟨rfl, hb7⟩
      have I7 := Lib.hid (I6.out.step hb7)
      have HL7 := Lib.hid (HL6.out.later hb7)
      rw [decide_eq_true rfl]
      clear hb7
      obtain ⟨c0, c1, c2, c3, c4⟩ := I7.out.x
      go_wp2_with fail
      refine (refSplit_z c HK.out a cap bs L HL.out (by omega) HCAP.out HNIL.out w7 (HBY.out.later I7.out.b)).mono ?_
      rintro e w8 ⟨a8, cap8, rfl, hl8, _, hb8, _⟩
      have I8 := Lib.hid (I7.out.step hb8)
      have HL8 := Lib.hid hl8
      have HL78 := Lib.hid (HL7.out.later hb8)
      clear hb8 hl8 c0 c1 c2 c3 c4
      go_wp2_with fail
      refine (same_any a4 a8 cap4 cap8 L L (by omega) (by omega) w8 HL78.out HL8.out).mono ?_
      rintro e w9 ⟨rfl, hb9⟩
      have I9 := Lib.hid (I8.out.step hb9)
      rw [decide_eq_true rfl]
      clear hb9
      go_wp2_with fail
      go_ret
      exact ⟨rfl, I9.out.b⟩
    · rw [decide_eq_false h3]
      go_wp2_with fail
      refine (awake16 w2 (I2.out.tab HT.out)).mono ?_
      rintro e w3 ⟨rfl, hb3⟩
      have I3 := Lib.hid (I2.out.step hb3)
      clear hb3
      go_wp2_with fail
      go_ret
      exact ⟨rfl, I3.out.b⟩
end Go.Proofs.YtfnhcjcahcacnaaDoor
