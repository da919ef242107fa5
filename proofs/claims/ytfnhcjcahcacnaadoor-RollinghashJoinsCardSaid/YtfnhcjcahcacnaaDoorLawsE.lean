/- The walks of the laws RollinghashHashes, RollinghashJoins and RollinghashAlls. -/
import Derived.Test.YtfnhcjcahcacnaaDoorApp
namespace Go.Proofs.YtfnhcjcahcacnaaDoor
open Go.RowKit
open Roll (u)
open Kit (Chg)

set_option maxHeartbeats 400000 in
theorem hashes_huge (s : BitVec 64) (a : Option Addr) (cap n : Nat) (w : World) (hn : n ≤ maxLen) (hl : 70 < n) (hT : TabAt 0 Lib.deBruijn64tab w) :
    Calls Tryd.prog 7 #[.int .u64 (u s), .slice a n cap] w fun e w' => e = .returned (.bool true) ∧ Below w.heap.size w w' := by
  unfold maxLen at hn
  have HT := Lib.hid hT
  clear hT
  have g1 : (70 : Int) < (n : Int) := by omega
  go_enter Tryd.func7, Tryd.ntmps7
  go_wp2_with fail
  refine (awake14 _ HT.out).mono ?_
  rintro e w2 ⟨rfl, hb2⟩
  have HB2 := Lib.hid hb2
  clear hb2
  go_wp2
  go_ret
  exact ⟨rfl, HB2.out⟩
set_option maxHeartbeats 400000 in
theorem hashes_long (s : BitVec 64) (a : Option Addr) (cap n : Nat) (w : World) (hn : n ≤ maxLen) (hl0 : n ≤ 70) (hl : 64 < n) (hT : TabAt 0 Lib.deBruijn64tab w) :
    Calls Tryd.prog 7 #[.int .u64 (u s), .slice a n cap] w fun e w' => e = .returned (.bool true) ∧ Below w.heap.size w w' := by
  have HN := Lib.hid hn
  clear hn
  have HT := Lib.hid hT
  clear hT
  have g1 : ¬ (70 : Int) < (n : Int) := by omega
  have g2 : (64 : Int) < (n : Int) := by omega
  go_enter Tryd.func7, Tryd.ntmps7
  go_wp2_with fail
  refine (of_long s a cap n _ hl HN.out).mono ?_
  rintro e w2 ⟨rfl, rfl⟩
  go_wp2_with fail
  refine (awake14 _ HT.out).mono ?_
  rintro e w2 ⟨rfl, hb2⟩
  have HB2 := Lib.hid hb2
  clear hb2
  go_wp2
  go_ret
  exact ⟨rfl, HB2.out⟩
set_option maxHeartbeats 400000 in
theorem hashes_short (s : BitVec 64) (a : Option Addr) (cap : Nat) (bs : List Nat) (w : World) (h : BytesAt w a bs) (hl : bs.length ≤ 64) (hT : TabAt 0 Lib.deBruijn64tab w) :
    Calls Tryd.prog 7 #[.int .u64 (u s), .slice a bs.length cap] w fun e w' => e = .returned (.bool true) ∧ Below w.heap.size w w' := by
  have HH := Lib.hid h
  clear h
  have HT := Lib.hid hT
  clear hT
  have g1 : ¬ (70 : Int) < (bs.length : Int) := by omega
  have g2 : ¬ (64 : Int) < (bs.length : Int) := by omega
  go_enter Tryd.func7, Tryd.ntmps7
  go_wp2_with fail
  refine (of_short s a cap bs w HH.out hl).mono ?_
  rintro e w1 ⟨rfl, hb1⟩
  have HB1 := Lib.hid hb1
  clear hb1
  go_wp2_with fail
  refine (awake14_later w w1 HT.out HB1.out).mono ?_
  rintro e w2 ⟨rfl, hb2⟩
  have HB2 := Lib.hid hb2
  clear hb2
  go_wp2_with fail
  refine (hash_any s a cap bs w2 (HH.out.later HB2.out)).mono ?_
  rintro e w3 ⟨rfl, rfl⟩
  go_wp2_with fail
  go_ret
  exact ⟨rfl, HB2.out⟩
theorem walk_RollinghashHashes (s : BitVec 64) (a : Option Addr) (cap : Nat) (bs : List Nat) (w : World) (h : BytesAt w a bs) (hT : TabAt 0 Lib.deBruijn64tab w) :
    Calls Tryd.prog 7 #[.int .u64 (u s), .slice a bs.length cap] w fun e w' => e = .returned (.bool true) ∧ Below w.heap.size w w' := by
  by_cases h1 : bs.length ≤ 64
  · exact hashes_short s a cap bs w h h1 hT
  · by_cases h2 : bs.length ≤ 70
    · exact hashes_long s a cap _ w h.2.2 h2 (by omega) hT
    · exact hashes_huge s a cap _ w h.2.2 (by omega) hT

set_option maxRecDepth 100000 in
set_option maxHeartbeats 400000 in
theorem joins_main (s : BitVec 64) (a a' : Option Addr) (cap cap' : Nat) (bs cs : List Nat) (w : World) (h : BytesAt w a bs) (h' : BytesAt w a' cs) (hca : a = none → cap = 0) (hca' : a' = none → cap' = 0) (hl : bs.length + cs.length ≤ 64) (hne : cs.length ≠ 64) (hT : TabAt 0 Lib.deBruijn64tab w) :
    Calls Tryd.prog 9 #[.int .u64 (u s), .slice a bs.length cap, .slice a' cs.length cap'] w fun e w' => e = .returned (.bool true) ∧ Below w.heap.size w w' := by
  have HH := Lib.hid h
  have HH' := Lib.hid h'
  have HCA := Lib.hid hca
  have HCA' := Lib.hid hca'
  clear h h' hca hca'
  have HT := Lib.hid hT
  clear hT
  obtain ⟨i0, hi, hz0, hz1, hz2⟩ := info_parts Tryd.info5
  have HI := Lib.hid hi
  have HZ0 := Lib.hid hz0
  have HZ1 := Lib.hid hz1
  have HZ2 := Lib.hid hz2
  clear hi hz0 hz1 hz2
  have g1 : decide ((64 : Int) < (bs.length : Int) + (cs.length : Int)) = false := decide_eq_false (by omega)
  have g2 : ((cs.length : Int) == 64) = false := by rw [beq_eq_false_iff_ne]; omega
  go_enter Tryd.func9, Tryd.ntmps9
  go_wp2_with fail
  refine (of_short s a cap bs w HH.out (by omega)).mono ?_
  rintro e w1 ⟨rfl, hb1⟩
  have HB1 := Lib.hid hb1
  clear hb1
  go_wp2_with fail
  refine (of_short s a' cap' cs w1 (HH'.out.later HB1.out) (by omega)).mono ?_
  rintro e w2 ⟨rfl, hb2⟩
  have HB2 := Lib.hid (HB1.out.trans (hb2.mono HB1.out.size))
  clear hb2
  have OWN0 := Lib.hid (World.ownsRow_made (e := 5) (size := 1) w2 #[] 0 HB2.out.size (Nat.zero_le _) rfl)
  have SRC0 := Lib.hid ((HH.out.later (HB2.out.alloc HB2.out.size (.cells #[] 5))).src cap HCA.out)
  go_wp2_with (at_builtin; refine wpList_append_src rfl (.tmp 39) (.tmp 40) 28 rfl w.heap.size 5 i0 (.int .u8 0) 1 1 Tryd.underlying28 HI.out HZ0.out HZ1.out HZ2.out rfl (by decide) _ 0 [] rfl OWN0.out a bs.length cap (bvals bs) rfl SRC0.out (bvals_one bs) ?c3 ?c4 ?c5 ?_)
  case c3 => unfold maxLen; omega
  case c4 => omega
  case c5 => have := HB2.out.size; simp; omega
  intro v3 w3 hown3 hgr3
  have OWN3 := Lib.hid hown3
  have HB3 : Hid (Below w.heap.size w w3) := HB2.out.trans (((Chg.alloc1 w2 (.cells #[] 5)).trans (Chg.of_grown hgr3 (fun _ _ e => e))).below HB2.out.size (fun k i hk e => by simp [Value.ownBlock] at e; have := HB2.out.size; omega))
  have SRC3 := Lib.hid ((HH'.out.later HB3.out).src cap' HCA'.out)
  clear hown3 hgr3
  go_wp2_with (at_builtin; refine wpList_append_src rfl (.tmp 41) (.tmp 42) 28 rfl w.heap.size 5 i0 (.int .u8 0) 1 1 Tryd.underlying28 HI.out HZ0.out HZ1.out HZ2.out rfl (by decide) _ bs.length (bvals bs) rfl OWN3.out a' cs.length cap' (bvals cs) rfl SRC3.out (bvals_one cs) ?d3 ?d4 ?d5 ?_)
  case d3 => unfold maxLen; omega
  case d4 => omega
  case d5 => exact HB3.out.size
  intro v4 w4 hown4 hgr4
  have HB4 : Hid (Below w.heap.size w w4) := HB3.out.trans ((Chg.of_grown (M := fun k _ => v3.ownBlock = some k) hgr4 (fun _ _ e => e)).below HB3.out.size (fun k i hk e => by have := (OWN3.out.lt k e).1; omega))
  rw [← bvals_append] at hown4
  obtain ⟨hlen, a4, cap4, hv4, _, _, hb4, _⟩ := bytes_of_own hown4 (fun x hx => by rcases List.mem_append.1 hx with h | h; exact HH.out.2.1 x h; exact HH'.out.2.1 x h) (by rw [List.length_append]; unfold maxLen; omega)
  have HB44 := Lib.hid hb4
  rw [hv4]
  clear hown4 hgr4 hb4 hlen hv4
  go_wp2_with fail
  refine (of_len s a4 cap4 (bs ++ cs) (bs.length + cs.length) List.length_append w4 HB44.out hl).mono ?_
  rintro e w5 ⟨rfl, hb5⟩
  have HB5 := Lib.hid (HB4.out.trans (hb5.mono HB4.out.size))
  clear hb5
  go_wp2_with fail
  refine (awake14_later w w5 HT.out HB5.out).mono ?_
  rintro e w6 ⟨rfl, hb6⟩
  have HB6 := Lib.hid hb6
  clear hb6
  go_wp2_with fail
  refine (rotate_any _ cs.length (by omega) _).mono ?_
  rintro e w7 ⟨rfl, rfl⟩
  obtain ⟨Q0, hq0⟩ : ∃ Q : Prop, Hid Q := ⟨True, trivial⟩
  have r7 := Roll.f_xor Q0
  have e1 := Roll.hash_append s bs cs
  rw [e1]
  clear e1
  go_wp2_with fail
  go_ret
  exact ⟨rfl, HB6.out⟩

set_option maxHeartbeats 400000 in
theorem joins_long (s : BitVec 64) (a a' : Option Addr) (cap cap' n n' : Nat) (w : World) (hl : 64 < n + n') (hs : n + n' ≤ 9223372036854775807) (hT : TabAt 0 Lib.deBruijn64tab w) :
    Calls Tryd.prog 9 #[.int .u64 (u s), .slice a n cap, .slice a' n' cap'] w fun e w' => e = .returned (.bool true) ∧ Below w.heap.size w w' := by
  have HT := Lib.hid hT
  clear hT
  have g1 : decide ((64 : Int) < (n : Int) + (n' : Int)) = true := decide_eq_true (by omega)
  go_enter Tryd.func9, Tryd.ntmps9
  go_wp2_with fail
  refine (awake14 _ HT.out).mono ?_
  rintro e w2 ⟨rfl, hb2⟩
  have HB2 := Lib.hid hb2
  clear hb2
  go_wp2
  go_ret
  exact ⟨rfl, HB2.out⟩
set_option maxHeartbeats 400000 in
theorem joins_64 (s : BitVec 64) (a a' : Option Addr) (cap cap' n n' : Nat) (w : World) (hl : n + n' ≤ 64) (hn' : n' = 64) (hT : TabAt 0 Lib.deBruijn64tab w) :
    Calls Tryd.prog 9 #[.int .u64 (u s), .slice a n cap, .slice a' n' cap'] w fun e w' => e = .returned (.bool true) ∧ Below w.heap.size w w' := by
  have HT := Lib.hid hT
  clear hT
  have g1 : decide ((64 : Int) < (n : Int) + (n' : Int)) = false := decide_eq_false (by omega)
  have g2 : ((n' : Int) == 64) = true := by rw [beq_iff_eq]; omega
  have HN := Lib.hid hn'
  clear hn'
  go_enter Tryd.func9, Tryd.ntmps9
  go_wp2_with fail
  refine (awake14 _ HT.out).mono ?_
  rintro e w2 ⟨rfl, hb2⟩
  have HB2 := Lib.hid hb2
  clear hb2
  go_wp2
  go_ret
  exact ⟨rfl, HB2.out⟩

theorem walk_RollinghashJoins (s : BitVec 64) (a a' : Option Addr) (cap cap' : Nat) (bs cs : List Nat) (w : World) (h : BytesAt w a bs) (h' : BytesAt w a' cs) (hca : a = none → cap = 0) (hca' : a' = none → cap' = 0) (hs : bs.length + cs.length ≤ 9223372036854775807) (hT : TabAt 0 Lib.deBruijn64tab w) :
    Calls Tryd.prog 9 #[.int .u64 (u s), .slice a bs.length cap, .slice a' cs.length cap'] w fun e w' => e = .returned (.bool true) ∧ Below w.heap.size w w' := by
  by_cases h1 : bs.length + cs.length ≤ 64
  · by_cases h2 : cs.length = 64
    · exact joins_64 s a a' cap cap' _ _ w h1 h2 hT
    · exact joins_main s a a' cap cap' bs cs w h h' hca hca' h1 h2 hT
  · exact joins_long s a a' cap cap' _ _ w (by omega) hs hT
end Go.Proofs.YtfnhcjcahcacnaaDoor
