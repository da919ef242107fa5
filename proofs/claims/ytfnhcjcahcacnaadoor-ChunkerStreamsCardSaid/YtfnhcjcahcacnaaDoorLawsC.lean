/- The walks of the laws RollinghashResets and RollinghashForgets. -/
import Derived.Test.YtfnhcjcahcacnaaDoorLawsB
namespace Go.Proofs.YtfnhcjcahcacnaaDoor
open Go.RowKit
open Roll (u)
open Kit (Chg)

/-- Two rolling hashes, in the blocks K and L. -/
structure Two (w : World) (K L : Nat) (s : BitVec 64) (win : Nat) (X Y : List Nat) (wr : World) : Prop where
  k : ∃ st, RollAt wr K 0 s win X st
  l : ∃ st, RollAt wr L 0 s win Y st
  b : Below w.heap.size w wr
theorem Two.stepK {w wr w1 : World} {K L : Nat} {s : BitVec 64} {win : Nat} {X X' Y : List Nat} (h : Two w K L s win X Y wr) (hK : w.heap.size ≤ K) (hKL : K ≠ L)
    (hr : (∃ st, RollAt w1 K 0 s win X' st) ∧ Chg (rollCells K 0) wr w1) : Two w K L s win X' Y w1 := by
  obtain ⟨_, ⟨st, h2⟩, h3⟩ := h
  exact ⟨hr.1, ⟨st, h2.keep hr.2 (fun i hi => hKL hi.1.symm)⟩, h3.trans (hr.2.below h3.size (fun b i hb hi => by have := hi.1; omega))⟩
theorem Two.stepL {w wr w1 : World} {K L : Nat} {s : BitVec 64} {win : Nat} {X Y Y' : List Nat} (h : Two w K L s win X Y wr) (hL : w.heap.size ≤ L) (hKL : K ≠ L)
    (hr : (∃ st, RollAt w1 L 0 s win Y' st) ∧ Chg (rollCells L 0) wr w1) : Two w K L s win X Y' w1 := by
  obtain ⟨⟨st, h1⟩, _, h3⟩ := h
  exact ⟨⟨st, h1.keep hr.2 (fun i hi => hKL hi.1)⟩, hr.1, h3.trans (hr.2.below h3.size (fun b i hb hi => by have := hi.1; omega))⟩
theorem Two.later {w wr w1 : World} {K L : Nat} {s : BitVec 64} {win : Nat} {X Y : List Nat} (h : Two w K L s win X Y wr) (hb : Below wr.heap.size wr w1) : Two w K L s win X Y w1 := by
  obtain ⟨⟨st, h1⟩, ⟨st2, h2⟩, h3⟩ := h
  have hc : Chg (fun _ _ => False) wr w1 := Chg.of_below hb
  exact ⟨⟨st, h1.keep hc (fun _ h => h)⟩, ⟨st2, h2.keep hc (fun _ h => h)⟩, h3.trans (hb.mono h3.size)⟩
theorem Two.sums {w wr : World} {K L : Nat} {s : BitVec 64} {win : Nat} {X : List Nat} (h : Two w K L s win X X wr) :
    wr.cell? ⟨K, 0 + 323, none⟩ = some (.int .u64 (u (Roll.hash s X))) ∧ wr.cell? ⟨L, 0 + 323, none⟩ = some (.int .u64 (u (Roll.hash s X))) ∧
    wr.cell? ⟨K, 0 + 322, none⟩ = some (.int .i64 (X.length : Int)) ∧ wr.cell? ⟨L, 0 + 322, none⟩ = some (.int .i64 (X.length : Int)) := by
  obtain ⟨⟨st, h1⟩, ⟨st2, h2⟩, _⟩ := h
  exact ⟨h1.sum, h2.sum, h1.length, h2.length⟩

theorem pushed_pre (pre bs : List Nat) (win k : Nat) (h : 1 ≤ win) (hk : k < bs.length) : Roll.pushed win (lastOf (pre ++ bs.take k) win) (bs.getD k 0) = lastOf (pre ++ bs.take (k + 1)) win := by
  rw [pushed_last _ _ _ h, List.take_succ_eq_append_getElem hk, List.getD_eq_getElem?_getD, List.getElem?_eq_getElem hk, Option.getD_some, List.append_assoc]

def FirstRel (w : World) (K L : Nat) (s : BitVec 64) (win : Nat) (bs : List Nat) (i : Value) (wr : World) : Prop := ∃ k : Nat, k ≤ bs.length ∧ i = .int .i64 k ∧ Two w K L s win (lastOf (bs.take k) win) [] wr
def BothRel (w : World) (K L : Nat) (s : BitVec 64) (win : Nat) (pre bs : List Nat) (i : Value) (wr : World) : Prop := ∃ k : Nat, k ≤ bs.length ∧ i = .int .i64 k ∧ Two w K L s win (lastOf (pre ++ bs.take k) win) (lastOf (bs.take k) win) wr

set_option maxRecDepth 100000 in
set_option maxHeartbeats 400000 in
theorem resets_main (s : BitVec 64) (win : Int) (a a' : Option Addr) (cap cap' : Nat) (bs cs : List Nat) (w : World) (h : BytesAt w a bs) (h' : BytesAt w a' cs) (hl : bs.length ≤ 150) (hl' : cs.length ≤ 150) (hT : TabAt 0 Lib.deBruijn64tab w) :
    Calls Tryd.prog 6 #[.int .u64 (u s), .int .i64 win, .slice a bs.length cap, .slice a' cs.length cap'] w fun e w' => e = .returned (.bool true) ∧ Below w.heap.size w w' := by
  have HT := Lib.hid hT
  have HH := Lib.hid h
  have HH' := Lib.hid h'
  clear hT h h'
  obtain ⟨hw1, hw2⟩ := winOf_one win
  have g1 : decide ((150 : Int) < (bs.length : Int)) = false := decide_eq_false (by omega)
  have g2 : decide ((150 : Int) < (cs.length : Int)) = false := decide_eq_false (by omega)
  go_enter Tryd.func6, Tryd.ntmps6
  go_wp2_with fail
  refine (new_int s win w).mono ?_
  rintro e w1 ⟨rfl, hr, hb⟩
  have HR := Lib.hid hr
  have HB := Lib.hid hb
  have HK : Hid (w.heap.size < w1.heap.size) := World.block_lt_of_cell? w1 _ hr.sum
  clear hr hb g1 g2
  go_wp2_with fail
  refine (new_int s win w1).mono ?_
  rintro e w2 ⟨rfl, hr, hb⟩
  have HTW : Hid (Two w w.heap.size w1.heap.size s (winOf win) [] [] w2) :=
    ⟨⟨0, HR.out.keep (Chg.of_below hb : Chg (fun _ _ => False) w1 w2) (fun _ h => h)⟩, ⟨0, hr⟩, HB.out.trans (hb.mono HB.out.size)⟩
  clear hr hb
  generalize hL : w1.heap.size = L at *
  have HKL : Hid (w.heap.size ≠ L ∧ w.heap.size ≤ L) := ⟨by have := HK.out; omega, by have := HK.out; omega⟩
  clear hL
  go_wp2_with fail
  go_loopw [11] (fun i wr => FirstRel w w.heap.size L s (winOf win) bs i wr) (fun i _ => bs.length - (intOf i).toNat)
  case atStart => exact ⟨0, by omega, rfl, by rw [List.take_zero, lastOf_nil]; exact HTW.out⟩
  case round =>
    obtain ⟨k, hk, rfl, hp⟩ := hrel
    have HP := Lib.hid hp
    clear hp
    obtain ⟨st, hst⟩ := HP.out.k
    have HST := Lib.hid hst
    clear hst
    by_cases hlt : k < bs.length
    · have hbr := HH.out.later HP.out.b
      obtain ⟨b, o, rfl, hc⟩ := hbr.some (by omega)
      have hck := hc k hlt
      have hx := HH.out.getD_lt k hlt
      have HS : ∀ w1, Hid (((∃ st, RollAt w1 w.heap.size 0 s (winOf win) (Roll.pushed (winOf win) (lastOf (bs.take k) (winOf win)) (bs.getD k 0)) st) ∧ Chg (rollCells w.heap.size 0) wr w1) → Two w w.heap.size L s (winOf win) (lastOf (bs.take (k + 1)) (winOf win)) [] w1) :=
        fun w1 => fun h => by rw [lastOf_take_succ bs _ k hw1 hlt] at h; exact HP.out.stepK (Nat.le_refl _) HKL.out.1 h
      clear hc hbr
      generalize bs.getD k 0 = x at hck hx HS
      go_wp2_with fail
      refine (push_any _ 0 s (winOf win) _ st x hx _ HST.out).mono ?_
      rintro e w3 ⟨rfl, hr2⟩
      have HR2 := Lib.hid ((HS w3).out hr2)
      clear hr2 HS
      go_wp2_with fail
      go_roundw
      case rel => exact ⟨k + 1, by omega, by go_num, HR2.out⟩
      case measure => simp [intOf]; omega
    · go_wp2_with fail
      refine (reset_any w.heap.size 0 s (winOf win) _ st _ HST.out).mono ?_
      rintro e w3 ⟨rfl, hr3, hc3⟩
      have HTW3 : Hid (Two w w.heap.size L s (winOf win) [] [] w3) := HP.out.stepK (Nat.le_refl _) HKL.out.1 ⟨⟨0, hr3⟩, hc3⟩
      clear hr3 hc3 HP HST HTW HR HB HK
      go_wp2_with fail
      go_loopw [12] (fun i wr => BothRel w w.heap.size L s (winOf win) [] cs i wr) (fun i _ => cs.length - (intOf i).toNat)
      case atStart => exact ⟨0, by omega, rfl, by rw [List.take_zero, List.nil_append, lastOf_nil]; exact HTW3.out⟩
      case round =>
        obtain ⟨j, hj, rfl, hp⟩ := hrel
        have HP := Lib.hid hp
        clear hp
        obtain ⟨st, hst⟩ := HP.out.k
        have HST := Lib.hid hst
        clear hst
        by_cases hlt : j < cs.length
        · have hbr := HH'.out.later HP.out.b
          obtain ⟨b, o, rfl, hc⟩ := hbr.some (by omega)
          have hck := hc j hlt
          have hx := HH'.out.getD_lt j hlt
          have HLT : Hid (b < w.heap.size) := by
            obtain ⟨b', o', e, hc'⟩ := HH'.out.some (by omega)
            cases e
            exact World.block_lt_of_cell? w _ (hc' j hlt)
          have HS : ∀ w1, Hid (((∃ st, RollAt w1 w.heap.size 0 s (winOf win) (Roll.pushed (winOf win) (lastOf ([] ++ cs.take j) (winOf win)) (cs.getD j 0)) st) ∧ Chg (rollCells w.heap.size 0) wr w1) → Two w w.heap.size L s (winOf win) (lastOf ([] ++ cs.take (j + 1)) (winOf win)) (lastOf (cs.take j) (winOf win)) w1) :=
            fun w1 => fun h => by rw [pushed_pre [] cs _ j hw1 hlt] at h; exact HP.out.stepK (Nat.le_refl _) HKL.out.1 h
          have HS2 : ∀ w1 w2, Hid (Two w w.heap.size L s (winOf win) (lastOf ([] ++ cs.take (j + 1)) (winOf win)) (lastOf (cs.take j) (winOf win)) w1 → ((∃ st, RollAt w2 L 0 s (winOf win) (Roll.pushed (winOf win) (lastOf (cs.take j) (winOf win)) (cs.getD j 0)) st) ∧ Chg (rollCells L 0) w1 w2) → Two w w.heap.size L s (winOf win) (lastOf ([] ++ cs.take (j + 1)) (winOf win)) (lastOf (cs.take (j + 1)) (winOf win)) w2) :=
            fun w1 w2 => fun h1 h => by rw [lastOf_take_succ cs _ j hw1 hlt] at h; exact h1.stepL HKL.out.2 HKL.out.1 h
          clear hc hbr
          generalize cs.getD j 0 = x at hck hx HS HS2
          go_wp2_with fail
          refine (push_any _ 0 s (winOf win) _ st x hx _ HST.out).mono ?_
          rintro e w4 ⟨rfl, hr2⟩
          have HR2 := Lib.hid ((HS w4).out hr2)
          have hck4 : w4.cell? ⟨b, o + j, none⟩ = some (.int .u8 (x : Int)) := hr2.2.cell hck (fun hi => by have := hi.1; have := HLT.out; omega)
          clear hr2 HS hck
          obtain ⟨st4, hst4⟩ := HR2.out.l
          have HST4 := Lib.hid hst4
          clear hst4
          go_wp2_with fail
          refine (push_any _ 0 s (winOf win) _ st4 x hx _ HST4.out).mono ?_
          rintro e w5 ⟨rfl, hr5⟩
          have HR5 := Lib.hid ((HS2 w4 w5).out HR2.out hr5)
          clear hr5 HS2 hck4
          go_wp2_with fail
          go_roundw
          case rel => exact ⟨j + 1, by omega, by go_num, HR5.out⟩
          case measure => simp [intOf]; omega
        · go_wp2_with fail
          refine (awake14 _ (tabAt_below HT.out HP.out.b (tabAt_size HT.out))).mono ?_
          rintro e w4 ⟨rfl, hb4⟩
          have h4 := HP.out.later hb4
          rw [List.nil_append] at h4
          have H4B := Lib.hid h4.b
          obtain ⟨k1, k2, k3, k4⟩ := h4.sums
          generalize lastOf (cs.take j) (winOf win) = X at k1 k2 k3 k4
          have K1 := Lib.hid k1
          have K2 := Lib.hid k2
          have K3 := Lib.hid k3
          have K4 := Lib.hid k4
          clear hb4 h4 k1 k2 k3 k4
          go_wp2_with fail
          refine (sum_any w.heap.size 0 _ _ K1.out).mono ?_
          rintro e w5 ⟨rfl, rfl⟩
          go_wp2_with fail
          refine (sum_any L 0 _ _ K2.out).mono ?_
          rintro e w5 ⟨rfl, rfl⟩
          go_wp2_with fail
          refine (len_any w.heap.size 0 _ _ K3.out).mono ?_
          rintro e w5 ⟨rfl, rfl⟩
          go_wp2_with fail
          refine (len_any L 0 _ _ K4.out).mono ?_
          rintro e w5 ⟨rfl, rfl⟩
          go_wp2_with fail
          go_ret
          exact ⟨rfl, H4B.out⟩

set_option maxHeartbeats 400000 in
theorem resets_longA (s : BitVec 64) (win : Int) (a a' : Option Addr) (cap cap' n n' : Nat) (w : World) (hn : n ≤ maxLen) (hl : 150 < n) (hT : TabAt 0 Lib.deBruijn64tab w) :
    Calls Tryd.prog 6 #[.int .u64 (u s), .int .i64 win, .slice a n cap, .slice a' n' cap'] w fun e w' => e = .returned (.bool true) ∧ Below w.heap.size w w' := by
  unfold maxLen at hn
  have HT := Lib.hid hT
  clear hT
  have g1 : decide ((150 : Int) < (n : Int)) = true := decide_eq_true (by omega)
  go_enter Tryd.func6, Tryd.ntmps6
  go_wp2_with fail
  refine (awake14 _ HT.out).mono ?_
  rintro e w2 ⟨rfl, hb2⟩
  have HB2 := Lib.hid hb2
  clear hb2
  go_wp2
  go_ret
  exact ⟨rfl, HB2.out⟩
set_option maxHeartbeats 400000 in
theorem resets_longB (s : BitVec 64) (win : Int) (a a' : Option Addr) (cap cap' n n' : Nat) (w : World) (hn : n ≤ maxLen) (hn' : n' ≤ maxLen) (hl0 : n ≤ 150) (hl : 150 < n') (hT : TabAt 0 Lib.deBruijn64tab w) :
    Calls Tryd.prog 6 #[.int .u64 (u s), .int .i64 win, .slice a n cap, .slice a' n' cap'] w fun e w' => e = .returned (.bool true) ∧ Below w.heap.size w w' := by
  unfold maxLen at hn hn'
  have HT := Lib.hid hT
  clear hT
  have g1 : decide ((150 : Int) < (n : Int)) = false := decide_eq_false (by omega)
  have g2 : decide ((150 : Int) < (n' : Int)) = true := decide_eq_true (by omega)
  go_enter Tryd.func6, Tryd.ntmps6
  go_wp2_with fail
  refine (awake14 _ HT.out).mono ?_
  rintro e w2 ⟨rfl, hb2⟩
  have HB2 := Lib.hid hb2
  clear hb2
  go_wp2
  go_ret
  exact ⟨rfl, HB2.out⟩

theorem walk_RollinghashResets (s : BitVec 64) (win : Int) (a a' : Option Addr) (cap cap' : Nat) (bs cs : List Nat) (w : World) (h : BytesAt w a bs) (h' : BytesAt w a' cs) (hT : TabAt 0 Lib.deBruijn64tab w) :
    Calls Tryd.prog 6 #[.int .u64 (u s), .int .i64 win, .slice a bs.length cap, .slice a' cs.length cap'] w fun e w' => e = .returned (.bool true) ∧ Below w.heap.size w w' := by
  by_cases hl : bs.length ≤ 150
  · by_cases hl' : cs.length ≤ 150
    · exact resets_main s win a a' cap cap' bs cs w h h' hl hl' hT
    · exact resets_longB s win a a' cap cap' _ _ w h.2.2 h'.2.2 hl (by omega) hT
  · exact resets_longA s win a a' cap cap' _ _ w h.2.2 (by omega) hT
end Go.Proofs.YtfnhcjcahcacnaaDoor
