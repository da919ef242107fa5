/- The walk of the law RollinghashAlls. -/
import Derived.Test.YtfnhcjcahcacnaaDoorLawsE
namespace Go.Proofs.YtfnhcjcahcacnaaDoor
open Go.RowKit
open Roll (u)
open Kit (Chg)

set_option maxHeartbeats 400000 in
theorem all_low (s : BitVec 64) (win : Int) (h1 : win < 1) (a : Option Addr) (n cap : Nat) (w : World) :
    Calls Tryd.prog 37 #[.int .u64 (u s), .int .i64 win, .slice a n cap] w fun e w' => e = .returned (.tuple #[.slice none 0 0, .int .i64 1]) ∧ w = w' := by
  have g1 : decide (win < 1) = true := decide_eq_true (by omega)
  go_enter Tryd.func37, Tryd.ntmps37
  go_wp2_with fail
  go_ret2
  exact ⟨rfl, rfl⟩
set_option maxHeartbeats 400000 in
theorem all_high (s : BitVec 64) (win : Int) (h1 : 64 < win) (a : Option Addr) (n cap : Nat) (w : World) :
    Calls Tryd.prog 37 #[.int .u64 (u s), .int .i64 win, .slice a n cap] w fun e w' => e = .returned (.tuple #[.slice none 0 0, .int .i64 1]) ∧ w = w' := by
  have g1 : decide (win < 1) = false := decide_eq_false (by omega)
  go_enter Tryd.func37, Tryd.ntmps37
  go_wp2_with fail
  go_ret2
  exact ⟨rfl, rfl⟩

theorem own_slice {w : World} {base e n : Nat} {v : Value} {xs : List Value} (h : w.ownsRow base e 1 v n xs) :
    ∃ p cap, v = .slice p n cap ∧ (0 < n → ∃ g, p = some ⟨g, 0, none⟩ ∧ base ≤ g ∧ ∀ i, i < n → w.cell? ⟨g, i, none⟩ = xs[i]?) := by
  obtain ⟨hl, hv⟩ := h
  rw [Nat.mul_one] at hl
  rcases hv with ⟨rfl, rfl⟩ | ⟨g, cap, cur, rfl, hb, hg, hnc, _, _, htake⟩
  · exact ⟨none, 0, rfl, fun h => absurd h (by omega)⟩
  · refine ⟨_, cap, rfl, fun _ => ⟨g, rfl, hb, fun i hi => ?_⟩⟩
    rw [cell_of_row _ _ _ _ _ _ hg, ← htake, Nat.mul_one, List.getElem?_take_of_lt hi]
    simp

set_option maxHeartbeats 400000 in
theorem alls_huge (s : BitVec 64) (win : Int) (a : Option Addr) (cap n : Nat) (w : World) (hn : n ≤ maxLen) (hl : 200 < n) (hT : TabAt 0 Lib.deBruijn64tab w) :
    Calls Tryd.prog 10 #[.int .u64 (u s), .int .i64 win, .slice a n cap] w fun e w' => e = .returned (.bool true) ∧ Below w.heap.size w w' := by
  unfold maxLen at hn
  have HT := Lib.hid hT
  clear hT
  have g1 : (200 : Int) < (n : Int) := by omega
  go_enter Tryd.func10, Tryd.ntmps10
  go_wp2_with fail
  refine (awake14 _ HT.out).mono ?_
  rintro e w2 ⟨rfl, hb2⟩
  have HB2 := Lib.hid hb2
  clear hb2
  go_wp2
  go_ret
  exact ⟨rfl, HB2.out⟩
set_option maxHeartbeats 400000 in
theorem alls_low (s : BitVec 64) (win : Int) (h1 : win < 1) (a : Option Addr) (cap n : Nat) (w : World) (hl : n ≤ 200) (hT : TabAt 0 Lib.deBruijn64tab w) :
    Calls Tryd.prog 10 #[.int .u64 (u s), .int .i64 win, .slice a n cap] w fun e w' => e = .returned (.bool true) ∧ Below w.heap.size w w' := by
  have HT := Lib.hid hT
  clear hT
  have g1 : ¬ (200 : Int) < (n : Int) := by omega
  have g2 : decide (win < 1) = true := decide_eq_true (by omega)
  go_enter Tryd.func10, Tryd.ntmps10
  go_wp2_with fail
  refine (all_low s win h1 a n cap _).mono ?_
  rintro e w1 ⟨rfl, rfl⟩
  go_wp2_with fail
  refine (awake14 _ HT.out).mono ?_
  rintro e w2 ⟨rfl, hb2⟩
  have HB2 := Lib.hid hb2
  clear hb2
  go_wp2
  go_ret
  exact ⟨rfl, HB2.out⟩
set_option maxHeartbeats 400000 in
theorem alls_high (s : BitVec 64) (win : Int) (h1 : 64 < win) (a : Option Addr) (cap n : Nat) (w : World) (hl : n ≤ 200) (hT : TabAt 0 Lib.deBruijn64tab w) :
    Calls Tryd.prog 10 #[.int .u64 (u s), .int .i64 win, .slice a n cap] w fun e w' => e = .returned (.bool true) ∧ Below w.heap.size w w' := by
  have HT := Lib.hid hT
  clear hT
  have g1 : ¬ (200 : Int) < (n : Int) := by omega
  have g2 : decide (win < 1) = false := decide_eq_false (by omega)
  go_enter Tryd.func10, Tryd.ntmps10
  go_wp2_with fail
  refine (all_high s win h1 a n cap _).mono ?_
  rintro e w1 ⟨rfl, rfl⟩
  go_wp2_with fail
  refine (awake14 _ HT.out).mono ?_
  rintro e w2 ⟨rfl, hb2⟩
  have HB2 := Lib.hid hb2
  clear hb2
  go_wp2
  go_ret
  exact ⟨rfl, HB2.out⟩
set_option maxHeartbeats 400000 in
theorem alls_short (s : BitVec 64) (win : Nat) (h1 : 1 ≤ win) (h2 : win ≤ 64) (a : Option Addr) (cap : Nat) (bs : List Nat) (w : World) (h : BytesAt w a bs) (hl : bs.length ≤ 200) (hs : bs.length < win) (hT : TabAt 0 Lib.deBruijn64tab w) :
    Calls Tryd.prog 10 #[.int .u64 (u s), .int .i64 win, .slice a bs.length cap] w fun e w' => e = .returned (.bool true) ∧ Below w.heap.size w w' := by
  have HT := Lib.hid hT
  have HH := Lib.hid h
  clear hT h
  have g1 : ¬ (200 : Int) < (bs.length : Int) := by omega
  have g2 : decide ((win : Int) < 1) = false := decide_eq_false (by omega)
  have g3 : decide ((64 : Int) < (win : Int)) = false := decide_eq_false (by omega)
  have g4 : ((bs.length : Int) < (win : Int)) := by omega
  go_enter Tryd.func10, Tryd.ntmps10
  go_wp2_with fail
  refine (all_any s win h1 h2 a cap bs w HH.out hl).mono ?_
  rintro e w1 ⟨v, rfl, hown, hb1⟩
  rw [show bs.length + 1 - win = 0 by omega] at hown
  obtain ⟨p, c1, hv, _⟩ := own_slice hown
  have HB1 := Lib.hid hb1
  rw [hv]
  clear hown hv hb1
  go_wp2_with fail
  refine (awake14_later w w1 HT.out HB1.out).mono ?_
  rintro e w2 ⟨rfl, hb2⟩
  have HB2 := Lib.hid hb2
  clear hb2
  go_wp2
  go_ret
  exact ⟨rfl, HB2.out⟩

theorem sumsTo_get (s : BitVec 64) (win : Nat) (bs : List Nat) (k i : Nat) (h : i < k + 1 - win) : (sumsTo s win bs k)[i]? = some (.int .u64 (u (Roll.hash s ((bs.drop i).take win)))) := by
  unfold sumsTo
  rw [List.getElem?_map, List.getElem?_range h]
  rfl

def AllsRel (w1 : World) (n : Nat) (i : Value) (wr : World) : Prop := ∃ k : Nat, k ≤ n ∧ i = .int .i64 k ∧ Drawn w1 wr

set_option maxRecDepth 100000 in
set_option maxHeartbeats 400000 in
theorem alls_main (s : BitVec 64) (win : Nat) (h1 : 1 ≤ win) (h2 : win ≤ 64) (a : Option Addr) (cap : Nat) (bs : List Nat) (w : World) (h : BytesAt w a bs) (hcap : bs.length ≤ cap) (hl : bs.length ≤ 200) (hs : win ≤ bs.length) (hT : TabAt 0 Lib.deBruijn64tab w) :
    Calls Tryd.prog 10 #[.int .u64 (u s), .int .i64 win, .slice a bs.length cap] w fun e w' => e = .returned (.bool true) ∧ Below w.heap.size w w' := by
  have HT := Lib.hid hT
  have HH := Lib.hid h
  clear hT h
  have g1 : ¬ (200 : Int) < (bs.length : Int) := by omega
  have g2 : decide ((win : Int) < 1) = false := decide_eq_false (by omega)
  have g3 : decide ((64 : Int) < (win : Int)) = false := decide_eq_false (by omega)
  have g4 : ¬ ((bs.length : Int) < (win : Int)) := by omega
  obtain ⟨b, o, rfl, hc⟩ := HH.out.some (by omega)
  clear hc
  go_enter Tryd.func10, Tryd.ntmps10
  go_wp2_with fail
  refine (all_any s win h1 h2 _ cap bs w HH.out hl).mono ?_
  rintro e w1 ⟨v, rfl, hown, hb1⟩
  obtain ⟨p, c1, hv, hcells⟩ := own_slice hown
  obtain ⟨g, rfl, hg, hcells⟩ := hcells (by omega)
  have HB1 := Lib.hid hb1
  have HC1 := Lib.hid hcells
  rw [hv]
  clear hown hv hb1 hcells
  obtain ⟨n, hn⟩ : ∃ n, bs.length + 1 - win = n := ⟨_, rfl⟩
  rw [hn]
  have HN := Lib.hid hn
  have g5 : ((n : Int) != (bs.length : Int) - (win : Int) + 1) = false := by rw [bne_eq_false_iff_eq]; omega
  have hn2 : n ≤ 200 := by omega
  clear hn
  go_wp2_with fail
  go_loopw [9] (fun i wr => AllsRel w1 n i wr) (fun i _ => n - (intOf i).toNat)
  case atStart => exact ⟨0, by omega, rfl, Drawn.refl _⟩
  case round =>
    obtain ⟨k, hk, rfl, hd⟩ := hrel
    have HD := Lib.hid hd
    by_cases hlt : k < n
    · have hkb : k + win ≤ bs.length := by have := HN.out; omega
      have hck : wr.cell? ⟨g, k, none⟩ = some (.int .u64 (u (Roll.hash s ((bs.drop k).take win)))) := by
        have hkn : k < bs.length + 1 - win := by have := HN.out; omega
        rw [hd.cell, HC1.out k hkn]
        exact sumsTo_get s win bs bs.length k hkn
      have HBY : Hid (BytesAt wr (some ⟨b, o + k, none⟩) ((bs.drop k).take win)) := (((HH.out.later (HB1.out.trans (hd.below _))).drop b o k rfl).take win)
      have HLN : Hid (((bs.drop k).take win).length = win) := by show _ = _; rw [List.length_take, List.length_drop]; omega
      clear hd
      generalize (bs.drop k).take win = X at hck HBY HLN
      go_wp2_with fail
      go_quiet ((go_at_call 31; exact quiet (hash_len s (some ⟨b, o + k, none⟩) _ X win HLN.out _ (HBY.out.later (below_drewN (Below.refl _ _) _)))))
      go_wp2_with fail
      go_roundw
      case rel => exact ⟨k + 1, by omega, by go_num, HD.out.drewN _⟩
      case measure => simp [intOf]; omega
    · have HB2 := Lib.hid (HB1.out.trans (hd.below _))
      clear hd
      go_wp2_with fail
      refine (awake14_later w _ HT.out HB2.out).mono ?_
      rintro e w2 ⟨rfl, hb2⟩
      have HB3 := Lib.hid hb2
      clear hb2
      go_wp2
      go_ret
      exact ⟨rfl, HB3.out⟩

theorem walk_RollinghashAlls (s : BitVec 64) (win : Int) (a : Option Addr) (cap : Nat) (bs : List Nat) (w : World) (h : BytesAt w a bs) (hcap : bs.length ≤ cap) (hT : TabAt 0 Lib.deBruijn64tab w) :
    Calls Tryd.prog 10 #[.int .u64 (u s), .int .i64 win, .slice a bs.length cap] w fun e w' => e = .returned (.bool true) ∧ Below w.heap.size w w' := by
  by_cases hl : bs.length ≤ 200
  · by_cases h1 : win < 1
    · exact alls_low s win h1 a cap _ w hl hT
    · by_cases h2 : 64 < win
      · exact alls_high s win h2 a cap _ w hl hT
      · have e : win = (win.toNat : Int) := by omega
        rw [e]
        by_cases h3 : bs.length < win.toNat
        · exact alls_short s win.toNat (by omega) (by omega) a cap bs w h hl h3 hT
        · exact alls_main s win.toNat (by omega) (by omega) a cap bs w h hcap hl (by omega) hT
  · exact alls_huge s win a cap _ w h.2.2 (by omega) hT
end Go.Proofs.YtfnhcjcahcacnaaDoor
