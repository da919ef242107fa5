/- The walk of the law RollinghashPushes. -/
import Derived.Test.YtfnhcjcahcacnaaDoorNewInt
namespace Go.Proofs.YtfnhcjcahcacnaaDoor
open Go.RowKit
open Roll (u)
open Kit (Chg)

theorem awake14_later (w w1 : World) (hT : TabAt 0 Lib.deBruijn64tab w) (hb : Below w.heap.size w w1) :
    Calls Tryd.prog 24 #[] w1 fun e w' => e = .returned (.bool true) ∧ Below w.heap.size w w' :=
  (awake14 w1 (tabAt_below hT hb (tabAt_size hT))).mono fun _ _ ⟨he, h⟩ => ⟨he, hb.trans (h.mono hb.size)⟩

def PushesRel (w : World) (s : BitVec 64) (win : Nat) (bs : List Nat) (i : Value) (wr : World) : Prop := ∃ k : Nat, k ≤ bs.length ∧ i = .int .i64 k ∧ PushRel w w.heap.size s win bs k wr

theorem PushRel.drewN {w wr : World} {N : Nat} {s : BitVec 64} {win : Nat} {bs : List Nat} {k : Nat} (h : PushRel w N s win bs k wr) (n : Nat) : PushRel w N s win bs k (wr.drewN n) := by
  obtain ⟨⟨st, h1⟩, h2⟩ := h
  exact ⟨⟨st, h1.keep ((Chg.refl (fun _ _ => False) wr).drewN n) (fun _ h => h)⟩, below_drewN h2 n⟩

set_option maxRecDepth 100000 in
set_option maxHeartbeats 400000 in
theorem walk_RollinghashPushes (s : BitVec 64) (win : Int) (a : Option Addr) (cap : Nat) (bs : List Nat) (w : World) (h : BytesAt w a bs) (hcap : bs.length ≤ cap) (hT : TabAt 0 Lib.deBruijn64tab w) :
    Calls Tryd.prog 4 #[.int .u64 (u s), .int .i64 win, .slice a bs.length cap] w fun e w' => e = .returned (.bool true) ∧ Below w.heap.size w w' := by
  have HT := Lib.hid hT
  have HH := Lib.hid h
  have hm := h.2.2
  unfold maxLen at hm
  clear hT h
  by_cases hl : bs.length ≤ 150
  · obtain ⟨hw1, hw2⟩ := winOf_one win
    have g1 : ¬ (150 : Int) < (bs.length : Int) := by omega
    go_enter Tryd.func4, Tryd.ntmps4
    go_wp2_with fail
    refine (new_int s win w).mono ?_
    rintro e w1 ⟨rfl, hr, hb⟩
    have HR := Lib.hid hr
    have HB := Lib.hid hb
    clear hr hb g1
    go_wp2_with fail
    refine (len_zero _ 0 _ HR.out.length).mono ?_
    rintro e w2 ⟨rfl, rfl⟩
    go_wp2_with fail
    refine (sum_zero _ 0 _ HR.out.sum).mono ?_
    rintro e w2 ⟨rfl, rfl⟩
    go_wp2_with fail
    go_loopw [8] (fun i wr => PushesRel w s (winOf win) bs i wr) (fun i _ => bs.length - (intOf i).toNat)
    case atStart =>
      exact ⟨0, by omega, rfl, ⟨0, by rw [List.take_zero, lastOf_nil]; exact HR.out⟩, HB.out⟩
    case round =>
      obtain ⟨k, hk, rfl, hp⟩ := hrel
      have HP := Lib.hid hp
      clear hp
      obtain ⟨st, hst⟩ := HP.out.1
      have HST := Lib.hid hst
      clear hst
      by_cases hlt : k < bs.length
      · have hbr := HH.out.later HP.out.2
        obtain ⟨b, o, rfl, hc⟩ := hbr.some (by omega)
        have hck := hc k hlt
        have hx := HH.out.getD_lt k hlt
        have HS : ∀ w1, Hid (((∃ st, RollAt w1 w.heap.size 0 s (winOf win) (Roll.pushed (winOf win) (lastOf (bs.take k) (winOf win)) (bs.getD k 0)) st) ∧ Chg (rollCells w.heap.size 0) wr w1) → PushRel w w.heap.size s (winOf win) bs (k + 1) w1) :=
          fun w1 => fun h => HP.out.step hw1 hlt (Nat.le_refl _) h.1 h.2
        clear hc hbr
        generalize bs.getD k 0 = x at hck hx HS
        go_wp2_with fail
        refine (push_any _ 0 s (winOf win) _ st x hx _ HST.out).mono ?_
        rintro e w2 ⟨rfl, hr2⟩
        have HR2 := Lib.hid ((HS w2).out hr2)
        clear hr2 HS
        obtain ⟨st2, hst2⟩ := HR2.out.1
        obtain ⟨d, hd⟩ : ∃ d, k + 1 - winOf win = d := ⟨_, rfl⟩
        obtain ⟨m, hdm⟩ : ∃ m, k + 1 - d = m := ⟨_, rfl⟩
        have hll : (lastOf (bs.take (k + 1)) (winOf win)).length = m := by rw [lastOf_length, List.length_take]; omega
        have hln := hst2.length
        rw [hll] at hln
        have HLN := Lib.hid hln
        have HSM := Lib.hid hst2.sum
        have HLL := Lib.hid hll
        have hbt : BytesAt w2 (some ⟨b, o + d, none⟩) (lastOf (bs.take (k + 1)) (winOf win)) := by
          have h3 := ((HH.out.later HR2.out.2).take (k + 1)).drop b o d rfl
          have e : lastOf (bs.take (k + 1)) (winOf win) = (bs.take (k + 1)).drop d := by unfold lastOf; rw [List.length_take]; congr 1; omega
          rw [e]; exact h3
        have HBT := Lib.hid hbt
        have HD := Lib.hid hd
        have HDM := Lib.hid hdm
        clear hll hln hst2 hbt hd hdm hck
        go_wp2_with fail
        go_quiet (first | (go_at_call 30; exact quiet (window_any win _)) | (go_at_call 29; exact quiet (last_some b o (k + 1) cap (winOf win) d m hw1 hw2 (by omega) (by omega) HD.out HDM.out _)))
        go_wp2_with fail
        refine (len_any w.heap.size 0 m (w2.drewN nq) HLN.out).mono ?_
        rintro e w3 ⟨rfl, rfl⟩
        go_wp2_with fail
        refine (sum_any w.heap.size 0 _ (w2.drewN nq) HSM.out).mono ?_
        rintro e w3 ⟨rfl, rfl⟩
        go_wp2_with fail
        refine (hash_len s _ _ _ m HLL.out _ (HBT.out.later (below_drewN (Below.refl _ _) nq))).mono ?_
        rintro e w3 ⟨rfl, rfl⟩
        go_wp2_with fail
        go_roundw
        case rel => exact ⟨k + 1, by omega, by go_num, HR2.out.drewN _⟩
        case measure => simp [intOf]; omega
      · go_wp2_with fail
        refine (awake14_later w _ HT.out HP.out.2).mono ?_
        rintro e w2 ⟨rfl, hb2⟩
        have HB2 := Lib.hid hb2
        clear hb2
        go_wp2
        go_ret
        exact ⟨rfl, HB2.out⟩
  · have g1 : (150 : Int) < (bs.length : Int) := by omega
    go_enter Tryd.func4, Tryd.ntmps4
    go_wp2_with fail
    refine (awake14 _ HT.out).mono ?_
    rintro e w2 ⟨rfl, hb2⟩
    have HB2 := Lib.hid hb2
    clear hb2
    go_wp2
    go_ret
    exact ⟨rfl, HB2.out⟩
end Go.Proofs.YtfnhcjcahcacnaaDoor
