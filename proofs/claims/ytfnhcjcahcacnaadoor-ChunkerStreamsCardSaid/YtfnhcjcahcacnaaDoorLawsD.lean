/- The walks of the laws RollinghashForgets, RollinghashHashes, RollinghashJoins and RollinghashAlls. -/
import Derived.Test.YtfnhcjcahcacnaaDoorLawsC
namespace Go.Proofs.YtfnhcjcahcacnaaDoor
open Go.RowKit
open Roll (u)
open Kit (Chg)

theorem of_len (s : BitVec 64) (a : Option Addr) (cap : Nat) (bs : List Nat) (n : Nat) (hn : bs.length = n) (w : World) (h : BytesAt w a bs) (hl : n ≤ 64) :
    Calls Tryd.prog 35 #[.int .u64 (u s), .slice a n cap] w fun e w' => e = .returned (.tuple #[.int .u64 (u (Roll.hash s bs)), .int .i64 0]) ∧ Below w.heap.size w w' := by
  subst hn; exact of_short s a cap bs w h hl

set_option maxRecDepth 100000 in
set_option maxHeartbeats 400000 in
theorem forgets_main (s : BitVec 64) (win : Int) (a a' : Option Addr) (cap cap' : Nat) (bs cs : List Nat) (w : World) (h : BytesAt w a bs) (h' : BytesAt w a' cs) (hl : bs.length ≤ 150) (hl' : cs.length ≤ 150) (hlw : winOf win ≤ cs.length) (hcap : cs.length ≤ cap') (hT : TabAt 0 Lib.deBruijn64tab w) :
    Calls Tryd.prog 8 #[.int .u64 (u s), .int .i64 win, .slice a bs.length cap, .slice a' cs.length cap'] w fun e w' => e = .returned (.bool true) ∧ Below w.heap.size w w' := by
  have HT := Lib.hid hT
  have HH := Lib.hid h
  have HH' := Lib.hid h'
  clear hT h h'
  obtain ⟨hw1, hw2⟩ := winOf_one win
  have g1 : decide ((150 : Int) < (bs.length : Int)) = false := decide_eq_false (by omega)
  have g2 : decide ((150 : Int) < (cs.length : Int)) = false := decide_eq_false (by omega)
  have g3 : decide ((cs.length : Int) < (winOf win : Int)) = false := decide_eq_false (by omega)
  go_enter Tryd.func8, Tryd.ntmps8
  go_wp2_with fail
  refine (window_any win _).mono ?_
  rintro e w1 ⟨rfl, rfl⟩
  go_wp2_with fail
  refine (new_int s win w).mono ?_
  rintro e w1 ⟨rfl, hr, hb⟩
  have HR := Lib.hid hr
  have HB := Lib.hid hb
  have HK : Hid (w.heap.size < w1.heap.size) := World.block_lt_of_cell? w1 _ hr.sum
  clear hr hb g1 g2 g3
  go_wp2_with fail
  refine (new_int s win w1).mono ?_
  rintro e w2 ⟨rfl, hr, hb⟩
  have HTW : Hid (Two w w.heap.size w1.heap.size s (winOf win) [] [] w2) :=
    ⟨⟨0, HR.out.keep (Chg.of_below hb : Chg (fun _ _ => False) w1 w2) (fun _ h => h)⟩, ⟨0, hr⟩, HB.out.trans (hb.mono HB.out.size)⟩
  clear hr hb
  generalize hL : w1.heap.size = L at *
  have HKL : Hid (w.heap.size ≠ L ∧ w.heap.size ≤ L) := ⟨by have := HK.out; omega, by have := HK.out; omega⟩
  clear hL
  go_wp2_with fail
  go_loopw [11] (fun i wr => FirstRel w w.heap.size L s (winOf win) bs i wr) (fun i _ => bs.length - (intOf i).toNat)
  case atStart => exact ⟨0, by omega, rfl, by rw [List.take_zero, lastOf_nil]; exact HTW.out⟩
  case round =>
    obtain ⟨k, hk, rfl, hp⟩ := hrel
    have HP := Lib.hid hp
    clear hp
    obtain ⟨st, hst⟩ := HP.out.k
    have HST := Lib.hid hst
    clear hst
    by_cases hlt : k < bs.length
    · have hbr := HH.out.later HP.out.b
      obtain ⟨b, o, rfl, hc⟩ := hbr.some (by omega)
      have hck := hc k hlt
      have hx := HH.out.getD_lt k hlt
      have HS : ∀ w1, Hid (((∃ st, RollAt w1 w.heap.size 0 s (winOf win) (Roll.pushed (winOf win) (lastOf (bs.take k) (winOf win)) (bs.getD k 0)) st) ∧ Chg (rollCells w.heap.size 0) wr w1) → Two w w.heap.size L s (winOf win) (lastOf (bs.take (k + 1)) (winOf win)) [] w1) :=
        fun w1 => fun h => by rw [lastOf_take_succ bs _ k hw1 hlt] at h; exact HP.out.stepK (Nat.le_refl _) HKL.out.1 h
      clear hc hbr
      generalize bs.getD k 0 = x at hck hx HS
      go_wp2_with fail
      refine (push_any _ 0 s (winOf win) _ st x hx _ HST.out).mono ?_
      rintro e w3 ⟨rfl, hr2⟩
      have HR2 := Lib.hid ((HS w3).out hr2)
      clear hr2 HS
      go_wp2_with fail
      go_roundw
      case rel => exact ⟨k + 1, by omega, by go_num, HR2.out⟩
      case measure => simp [intOf]; omega
    · have e : k = bs.length := by omega
      have HTW3 : Hid (Two w w.heap.size L s (winOf win) (lastOf bs (winOf win)) [] wr) := by
        have := HP.out
        rw [e, List.take_length] at this
        exact this
      clear HP HST HTW HR HB HK e
      go_wp2_with fail
      go_loopw [12] (fun i wr => BothRel w w.heap.size L s (winOf win) bs cs i wr) (fun i _ => cs.length - (intOf i).toNat)
      case atStart => exact ⟨0, by omega, rfl, by rw [List.take_zero, List.append_nil, lastOf_nil]; exact HTW3.out⟩
      case round =>
        obtain ⟨j, hj, rfl, hp⟩ := hrel
        have HP := Lib.hid hp
        clear hp
        obtain ⟨st, hst⟩ := HP.out.k
        have HST := Lib.hid hst
        clear hst
        by_cases hlt : j < cs.length
        · have hbr := HH'.out.later HP.out.b
          obtain ⟨b, o, rfl, hc⟩ := hbr.some (by omega)
          have hck := hc j hlt
          have hx := HH'.out.getD_lt j hlt
          have HLT : Hid (b < w.heap.size) := by
            obtain ⟨b', o', e, hc'⟩ := HH'.out.some (by omega)
            cases e
            exact World.block_lt_of_cell? w _ (hc' j hlt)
          have HS : ∀ w1, Hid (((∃ st, RollAt w1 w.heap.size 0 s (winOf win) (Roll.pushed (winOf win) (lastOf (bs ++ cs.take j) (winOf win)) (cs.getD j 0)) st) ∧ Chg (rollCells w.heap.size 0) wr w1) → Two w w.heap.size L s (winOf win) (lastOf (bs ++ cs.take (j + 1)) (winOf win)) (lastOf (cs.take j) (winOf win)) w1) :=
            fun w1 => fun h => by rw [pushed_pre bs cs _ j hw1 hlt] at h; exact HP.out.stepK (Nat.le_refl _) HKL.out.1 h
          have HS2 : ∀ w1 w2, Hid (Two w w.heap.size L s (winOf win) (lastOf (bs ++ cs.take (j + 1)) (winOf win)) (lastOf (cs.take j) (winOf win)) w1 → ((∃ st, RollAt w2 L 0 s (winOf win) (Roll.pushed (winOf win) (lastOf (cs.take j) (winOf win)) (cs.getD j 0)) st) ∧ Chg (rollCells L 0) w1 w2) → Two w w.heap.size L s (winOf win) (lastOf (bs ++ cs.take (j + 1)) (winOf win)) (lastOf (cs.take (j + 1)) (winOf win)) w2) :=
            fun w1 w2 => fun h1 h => by rw [lastOf_take_succ cs _ j hw1 hlt] at h; exact h1.stepL HKL.out.2 HKL.out.1 h
          clear hc hbr
          generalize cs.getD j 0 = x at hck hx HS HS2
          go_wp2_with fail
          refine (push_any _ 0 s (winOf win) _ st x hx _ HST.out).mono ?_
          rintro e w4 ⟨rfl, hr2⟩
          have HR2 := Lib.hid ((HS w4).out hr2)
          have hck4 : w4.cell? ⟨b, o + j, none⟩ = some (.int .u8 (x : Int)) := hr2.2.cell hck (fun hi => by have := hi.1; have := HLT.out; omega)
          clear hr2 HS hck
          obtain ⟨st4, hst4⟩ := HR2.out.l
          have HST4 := Lib.hid hst4
          clear hst4
          go_wp2_with fail
          refine (push_any _ 0 s (winOf win) _ st4 x hx _ HST4.out).mono ?_
          rintro e w5 ⟨rfl, hr5⟩
          have HR5 := Lib.hid ((HS2 w4 w5).out HR2.out hr5)
          clear hr5 HS2 hck4
          go_wp2_with fail
          go_roundw
          case rel => exact ⟨j + 1, by omega, by go_num, HR5.out⟩
          case measure => simp [intOf]; omega
        · obtain ⟨b, o, rfl, hc⟩ := HH'.out.some (by omega)
          clear hc
          obtain ⟨d, hd⟩ : ∃ d, cs.length - winOf win = d := ⟨_, rfl⟩
          obtain ⟨m, hdm⟩ : ∃ m, cs.length - d = m := ⟨_, rfl⟩
          have hTw := HP.out
          have e : j = cs.length := by omega
          have e1 : lastOf (bs ++ cs) (winOf win) = cs.drop d := by
            unfold lastOf
            rw [List.length_append, List.drop_append, List.drop_eq_nil_of_le (by omega), List.nil_append]
            congr 1; omega
          have e2 : lastOf cs (winOf win) = cs.drop d := by unfold lastOf; rw [hd]
          rw [e, List.take_length, e1, e2] at hTw
          clear e e1 e2
          have hlm : (cs.drop d).length = m := by rw [List.length_drop]; exact hdm
          have HW := Lib.hid hTw
          have HLM := Lib.hid hlm
          have HBD := Lib.hid ((HH'.out.later hTw.b).drop b o d rfl)
          have HD := Lib.hid hd
          have HDM := Lib.hid hdm
          have hm64 : m ≤ 64 := by omega
          clear hTw hlm hd hdm HP HST
          generalize cs.drop d = X at HW HLM HBD
          go_wp2_with fail
          refine (window_any win _).mono ?_
          rintro e w4 ⟨rfl, rfl⟩
          go_wp2_with fail
          refine (last_some b o cs.length cap' (winOf win) d m hw1 hw2 hcap (by omega) HD.out HDM.out _).mono ?_
          rintro e w4 ⟨rfl, rfl⟩
          go_wp2_with fail
          refine (of_len s _ _ X m HLM.out _ HBD.out hm64).mono ?_
          rintro e w4 ⟨rfl, hb4⟩
          have HW4 := Lib.hid (HW.out.later hb4)
          clear hb4
          go_wp2_with fail
          refine (awake14 _ (tabAt_below HT.out HW4.out.b (tabAt_size HT.out))).mono ?_
          rintro e w5 ⟨rfl, hb5⟩
          have h5 := HW4.out.later hb5
          have H5B := Lib.hid h5.b
          obtain ⟨k1, k2, _, _⟩ := h5.sums
          have K1 := Lib.hid k1
          have K2 := Lib.hid k2
          clear hb5 h5 k1 k2
          go_wp2_with fail
          refine (sum_any w.heap.size 0 _ _ K1.out).mono ?_
          rintro e w6 ⟨rfl, rfl⟩
          go_wp2_with fail
          refine (sum_any L 0 _ _ K2.out).mono ?_
          rintro e w6 ⟨rfl, rfl⟩
          go_wp2_with fail
          refine (sum_any w.heap.size 0 _ _ K1.out).mono ?_
          rintro e w6 ⟨rfl, rfl⟩
          go_wp2_with fail
          go_ret
          exact ⟨rfl, H5B.out⟩


set_option maxHeartbeats 400000 in
theorem forgets_longA (s : BitVec 64) (win : Int) (a a' : Option Addr) (cap cap' n n' : Nat) (w : World) (hn : n ≤ maxLen) (_hn' : n' ≤ maxLen) (hl : 150 < n) (hT : TabAt 0 Lib.deBruijn64tab w) :
    Calls Tryd.prog 8 #[.int .u64 (u s), .int .i64 win, .slice a n cap, .slice a' n' cap'] w fun e w' => e = .returned (.bool true) ∧ Below w.heap.size w w' := by
  unfold maxLen at hn
  have HT := Lib.hid hT
  clear hT
  have g1 : decide ((150 : Int) < (n : Int)) = true := decide_eq_true (by omega)
  go_enter Tryd.func8, Tryd.ntmps8
  go_wp2_with fail
  refine (awake14 _ HT.out).mono ?_
  rintro e w2 ⟨rfl, hb2⟩
  have HB2 := Lib.hid hb2
  clear hb2
  go_wp2
  go_ret
  exact ⟨rfl, HB2.out⟩

set_option maxHeartbeats 400000 in
theorem forgets_longB (s : BitVec 64) (win : Int) (a a' : Option Addr) (cap cap' n n' : Nat) (w : World) (hn : n ≤ maxLen) (hn' : n' ≤ maxLen) (hl0 : n ≤ 150) (hl : 150 < n') (hT : TabAt 0 Lib.deBruijn64tab w) :
    Calls Tryd.prog 8 #[.int .u64 (u s), .int .i64 win, .slice a n cap, .slice a' n' cap'] w fun e w' => e = .returned (.bool true) ∧ Below w.heap.size w w' := by
  unfold maxLen at hn hn'
  have HT := Lib.hid hT
  clear hT
  have g1 : decide ((150 : Int) < (n : Int)) = false := decide_eq_false (by omega)
  have g2 : decide ((150 : Int) < (n' : Int)) = true := decide_eq_true (by omega)
  go_enter Tryd.func8, Tryd.ntmps8
  go_wp2_with fail
  refine (awake14 _ HT.out).mono ?_
  rintro e w2 ⟨rfl, hb2⟩
  have HB2 := Lib.hid hb2
  clear hb2
  go_wp2
  go_ret
  exact ⟨rfl, HB2.out⟩

set_option maxHeartbeats 400000 in
theorem forgets_short (s : BitVec 64) (win : Int) (a a' : Option Addr) (cap cap' n n' : Nat) (w : World) (hn : n ≤ maxLen) (hn' : n' ≤ maxLen) (hl0 : n ≤ 150) (hl1 : n' ≤ 150) (hl : n' < winOf win) (hT : TabAt 0 Lib.deBruijn64tab w) :
    Calls Tryd.prog 8 #[.int .u64 (u s), .int .i64 win, .slice a n cap, .slice a' n' cap'] w fun e w' => e = .returned (.bool true) ∧ Below w.heap.size w w' := by
  unfold maxLen at hn hn'
  have HT := Lib.hid hT
  clear hT
  have g1 : decide ((150 : Int) < (n : Int)) = false := decide_eq_false (by omega)
  have g2 : decide ((150 : Int) < (n' : Int)) = false := decide_eq_false (by omega)
  have g3 : decide ((n' : Int) < (winOf win : Int)) = true := decide_eq_true (by omega)
  go_enter Tryd.func8, Tryd.ntmps8
  go_wp2_with fail
  refine (window_any win _).mono ?_
  rintro e w1 ⟨rfl, rfl⟩
  go_wp2_with fail
  refine (awake14 _ HT.out).mono ?_
  rintro e w2 ⟨rfl, hb2⟩
  have HB2 := Lib.hid hb2
  clear hb2
  go_wp2
  go_ret
  exact ⟨rfl, HB2.out⟩

theorem walk_RollinghashForgets (s : BitVec 64) (win : Int) (a a' : Option Addr) (cap cap' : Nat) (bs cs : List Nat) (w : World) (h : BytesAt w a bs) (h' : BytesAt w a' cs) (hcap : cs.length ≤ cap') (hT : TabAt 0 Lib.deBruijn64tab w) :
    Calls Tryd.prog 8 #[.int .u64 (u s), .int .i64 win, .slice a bs.length cap, .slice a' cs.length cap'] w fun e w' => e = .returned (.bool true) ∧ Below w.heap.size w w' := by
  by_cases hl : bs.length ≤ 150
  · by_cases hl' : cs.length ≤ 150
    · by_cases hw : winOf win ≤ cs.length
      · exact forgets_main s win a a' cap cap' bs cs w h h' hl hl' hw hcap hT
      · exact forgets_short s win a a' cap cap' _ _ w h.2.2 h'.2.2 hl hl' (by omega) hT
    · exact forgets_longB s win a a' cap cap' _ _ w h.2.2 h'.2.2 hl (by omega) hT
  · exact forgets_longA s win a a' cap cap' _ _ w h.2.2 h'.2.2 (by omega) hT
end Go.Proofs.YtfnhcjcahcacnaaDoor
