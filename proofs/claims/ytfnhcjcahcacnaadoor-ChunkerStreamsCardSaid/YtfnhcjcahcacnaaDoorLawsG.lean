/- The laws ChunkerReach and ChunkerPrimary: the walks. -/
import Derived.Test.YtfnhcjcahcacnaaDoorAwake2
import Derived.Test.YtfnhcjcahcacnaaDoorOpen
namespace Go.Proofs.YtfnhcjcahcacnaaDoor
open Go.RowKit
open Roll (u)
open Kit (Chg)
open Chk

theorem awake16_later (w w1 : World) (hT : TabAt 0 Lib.deBruijn64tab w) (hb : Below w.heap.size w w1) : Calls Tryd.prog 40 #[] w1 fun e w' => e = .returned (.bool true) ∧ Below w.heap.size w w' :=
  (awake16 w1 (tabAt_below hT hb (tabAt_size hT))).mono fun _ _ ⟨h1, h2⟩ => ⟨h1, hb.trans (h2.mono hb.size)⟩
/-- The cells of a cutting that lies in a box. -/
structure CutBox (w : World) (N : Nat) (mn mx win bits : Int) (s : BitVec 64) : Prop where
  c0 : w.cell? ⟨N, 0, none⟩ = some (.int .i64 mn)
  c1 : w.cell? ⟨N, 1, none⟩ = some (.int .i64 mx)
  c2 : w.cell? ⟨N, 2, none⟩ = some (.int .i64 win)
  c3 : w.cell? ⟨N, 3, none⟩ = some (.int .i64 bits)
  c4 : w.cell? ⟨N, 4, none⟩ = some (.int .u64 (u s))
theorem CutBox.new (w : World) (mn mx win bits : Int) (s : BitVec 64) : CutBox (w.alloc (.cells #[.int .i64 mn, .int .i64 mx, .int .i64 win, .int .i64 bits, .int .u64 (u s)] 48)) w.heap.size mn mx win bits s := by
  constructor <;> rw [cell_of_row _ _ _ _ _ _ (heap_alloc_new _ _)] <;> rfl
theorem CutBox.later {w w' : World} {N B : Nat} {mn mx win bits : Int} {s : BitVec 64} (h : CutBox w N mn mx win bits s) (hb : Below B w w') (hN : N < B) : CutBox w' N mn mx win bits s :=
  ⟨(hb.cell (p := ⟨N, 0, none⟩) hN).trans h.c0, (hb.cell (p := ⟨N, 1, none⟩) hN).trans h.c1, (hb.cell (p := ⟨N, 2, none⟩) hN).trans h.c2, (hb.cell (p := ⟨N, 3, none⟩) hN).trans h.c3, (hb.cell (p := ⟨N, 4, none⟩) hN).trans h.c4⟩

theorem below_box {w w1 w2 : World} {o : Obj} (hb : Below w.heap.size w w1) (h2 : Below (w1.alloc o).heap.size (w1.alloc o) w2) : Below w.heap.size w w2 := (hb.alloc hb.size o).trans (h2.mono (by have := hb.size; simp; omega))

set_option maxRecDepth 100000 in
set_option maxHeartbeats 1000000 in
theorem walk_ChunkerReach (mn mx win bits : Int) (s : BitVec 64) (f t : Int) (w : World) (hT : TabAt 0 Lib.deBruijn64tab w) :
    Calls Tryd.prog 12 #[.agg #[.int .i64 mn, .int .i64 mx, .int .i64 win, .int .i64 bits, .int .u64 (u s)], .int .i64 f, .int .i64 t] w fun e w' => e = .returned (.bool true) ∧ Below w.heap.size w w' := by
  have HT := Lib.hid hT
  clear hT
  go_enter Tryd.func12, Tryd.ntmps12
  go_wp2_with fail
  refine (reach_any mn mx win bits s f t _).mono ?_
  rintro e w1 ⟨rfl, hb⟩
  have HB1 := Lib.hid (((Below.refl w.heap.size w).alloc (Nat.le_refl _) (.cells #[.int .i64 mn, .int .i64 mx, .int .i64 win, .int .i64 bits, .int .u64 (u s)] 48)).trans (hb.mono (by simp)))
  have hs1 : w.heap.size < w1.heap.size := by have := hb.size; simp at this; omega
  have HX1 := Lib.hid ((CutBox.new w mn mx win bits s).later hb (by simp))
  obtain ⟨c0, c1, c2, c3, c4⟩ := HX1.out
  clear hb
  cases hr : reachB mn mx win bits f t with
  | true =>
    have hv := hr
    unfold reachB at hv
    rw [Bool.and_eq_true, decide_eq_true_eq] at hv
    obtain ⟨hv, h1, h2, h3⟩ := hv
    have hV := hv
    unfold validB at hV
    rw [decide_eq_true_eq] at hV
    obtain ⟨v1, v2, v3, v4, v5, v6, v7⟩ := hV
    unfold reachV
    rw [if_pos hr]
    have g1 : ¬ f < 0 := by omega
    have g2 : ¬ t ≤ f := by omega
    have g3 : ¬ (1048576 : Int) < t := by omega
    have HV := Lib.hid hv
    clear hr hv
    go_wp2_with fail
    refine (refValid_any mn mx win bits s _).mono ?_
    rintro e w2 ⟨rfl, hb2⟩
    have HB2 := Lib.hid (HB1.out.trans (hb2.mono HB1.out.size))
    have HX2 := Lib.hid (HX1.out.later hb2 hs1)
    have HS2 := Lib.hid hb2.size
    clear hb2 c0 c1 c2 c3 c4
    rw [HV.out]
    go_wp2_with fail
    have hs2 : w.heap.size < w2.heap.size := Nat.lt_of_lt_of_le hs1 HS2.out
    refine (awake16 w2 (tabAt_below HT.out HB2.out (tabAt_size HT.out))).mono ?_
    rintro e w3 ⟨rfl, hb3⟩
    have HB3 := Lib.hid (HB2.out.trans (hb3.mono HB2.out.size))
    obtain ⟨c0, c1, c2, c3, c4⟩ := HX2.out.later hb3 hs2
    clear hb3
    go_wp2_with fail
    go_ret
    exact ⟨rfl, HB3.out⟩
  | false =>
    unfold reachV
    rw [if_neg (by simp [hr])]
    go_wp2_with fail
    refine (refValid_any mn mx win bits s _).mono ?_
    rintro e w2 ⟨rfl, hb2⟩
    have HB2 := Lib.hid (HB1.out.trans (hb2.mono HB1.out.size))
    clear hb2 c0 c1 c2 c3 c4 HX1
    cases hv : validB mn mx win bits with
    | false =>
      clear hr hv
      go_wp2_with fail
      refine (awake16_later w w2 HT.out HB2.out).mono ?_
      rintro e w3 ⟨rfl, hb3⟩
      have HB3 := Lib.hid hb3
      clear hb3
      go_wp2_with fail
      go_ret
      exact ⟨rfl, HB3.out⟩
    | true =>
      have hn : ¬ (0 ≤ f ∧ f < t ∧ t ≤ 1048576) := by unfold reachB at hr; rw [hv, Bool.true_and, decide_eq_false_iff_not] at hr; exact hr
      clear hr hv
      by_cases g1 : f < 0
      · go_wp2_with fail
        refine (awake16_later w w2 HT.out HB2.out).mono ?_
        rintro e w3 ⟨rfl, hb3⟩
        have HB3 := Lib.hid hb3
        clear hb3
        go_wp2_with fail
        go_ret
        exact ⟨rfl, HB3.out⟩
      · by_cases g2 : t ≤ f
        · go_wp2_with fail
          refine (awake16_later w w2 HT.out HB2.out).mono ?_
          rintro e w3 ⟨rfl, hb3⟩
          have HB3 := Lib.hid hb3
          clear hb3
          go_wp2_with fail
          go_ret
          exact ⟨rfl, HB3.out⟩
        · have g3 : (1048576 : Int) < t := by omega
          clear hn
          go_wp2_with fail
          refine (awake16_later w w2 HT.out HB2.out).mono ?_
          rintro e w3 ⟨rfl, hb3⟩
          have HB3 := Lib.hid hb3
          clear hb3
          go_wp2_with fail
          go_ret
          exact ⟨rfl, HB3.out⟩
end Go.Proofs.YtfnhcjcahcacnaaDoor
