/- What the functions answer to a cutting that is not valid; Common of a content with itself. -/
import Derived.Test.YtfnhcjcahcacnaaDoorLawsJ
namespace Go.Proofs.YtfnhcjcahcacnaaDoor
open Go.RowKit
open Roll (u)
open Kit (Chg)
open Chk

set_option maxRecDepth 100000 in
set_option maxHeartbeats 400000 in
theorem primary_bad (mn mx win bits : Int) (s : BitVec 64) (a : Option Addr) (n m : Nat) (hv : validB mn mx win bits = false) (w : World) :
    Calls Tryd.prog 48 #[.agg #[.int .i64 mn, .int .i64 mx, .int .i64 win, .int .i64 bits, .int .u64 (u s)], .slice a n m] w fun e w' => e = .returned (.tuple #[.slice none 0 0, .int .i64 1]) ∧ Below w.heap.size w w' := by
  go_enter Tryd.func48, Tryd.ntmps48
  go_wp2_with fail
  refine (check_bad mn mx win bits s _ hv _).mono ?_
  rintro e w1 ⟨rfl, hb⟩
  have I1 := Lib.hid (((Inv.new w mn mx win bits s).alloc _).step hb)
  clear hb
  go_wp2_with fail
  go_ret2
  exact ⟨rfl, I1.out.b⟩
set_option maxRecDepth 100000 in
set_option maxHeartbeats 400000 in
theorem cuts_bad (mn mx win bits : Int) (s : BitVec 64) (a : Option Addr) (n m : Nat) (hv : validB mn mx win bits = false) (w : World) :
    Calls Tryd.prog 50 #[.agg #[.int .i64 mn, .int .i64 mx, .int .i64 win, .int .i64 bits, .int .u64 (u s)], .slice a n m] w fun e w' => e = .returned (.tuple #[.slice none 0 0, .int .i64 1]) ∧ Below w.heap.size w w' := by
  go_enter Tryd.func50, Tryd.ntmps50
  go_wp2_with fail
  refine (check_bad mn mx win bits s _ hv _).mono ?_
  rintro e w1 ⟨rfl, hb⟩
  have I1 := Lib.hid (((Inv.new w mn mx win bits s).alloc _).step hb)
  clear hb
  go_wp2_with fail
  go_ret2
  exact ⟨rfl, I1.out.b⟩
set_option maxRecDepth 100000 in
set_option maxHeartbeats 400000 in
theorem split_bad (mn mx win bits : Int) (s : BitVec 64) (a : Option Addr) (n m : Nat) (hv : validB mn mx win bits = false) (w : World) :
    Calls Tryd.prog 51 #[.agg #[.int .i64 mn, .int .i64 mx, .int .i64 win, .int .i64 bits, .int .u64 (u s)], .slice a n m] w fun e w' => e = .returned (.tuple #[.slice none 0 0, .int .i64 1]) ∧ Below w.heap.size w w' := by
  go_enter Tryd.func51, Tryd.ntmps51
  go_wp2_with fail
  refine (check_bad mn mx win bits s _ hv _).mono ?_
  rintro e w1 ⟨rfl, hb⟩
  have I1 := Lib.hid ((((Inv.new w mn mx win bits s).alloc _).alloc _).step hb)
  clear hb
  go_wp2_with fail
  go_ret2
  exact ⟨rfl, I1.out.b⟩
set_option maxRecDepth 100000 in
set_option maxHeartbeats 400000 in
theorem common_bad (mn mx win bits : Int) (s : BitVec 64) (a a' : Option Addr) (n m n' m' : Nat) (hv : validB mn mx win bits = false) (w : World) :
    Calls Tryd.prog 55 #[.agg #[.int .i64 mn, .int .i64 mx, .int .i64 win, .int .i64 bits, .int .u64 (u s)], .slice a n m, .slice a' n' m'] w fun e w' => e = .returned (.tuple #[.int .i64 0, .int .i64 0, .int .i64 1]) ∧ Below w.heap.size w w' := by
  go_enter Tryd.func55, Tryd.ntmps55
  go_wp2_with fail
  refine (check_bad mn mx win bits s _ hv _).mono ?_
  rintro e w1 ⟨rfl, hb⟩
  have I1 := Lib.hid (((Inv.new w mn mx win bits s).alloc _).step hb)
  clear hb
  go_wp2_with fail
  go_ret3
  exact ⟨rfl, I1.out.b⟩

theorem equal_same (a a' : Option Addr) (cap cap' : Nat) (bs : List Nat) (w : World) (h : BytesAt w a bs) (h' : BytesAt w a' bs) :
    Calls Tryd.prog 67 #[.slice a bs.length cap, .slice a' bs.length cap'] w fun e w' => e = .returned (.bool true) ∧ w = w' := by
  have := equal_any a a' cap cap' bs bs w h h'
  rwa [decide_eq_true rfl] at this
theorem slices2 (w : World) (a a' : Option Addr) (n m n' m' : Nat) : SlicesAt (w.alloc (.cells #[.slice a n m, .slice a' n' m'] 28)) w.heap.size [(a, n, m), (a', n', m')] := by
  intro i hi
  have h0 : i < 2 := by simpa using hi
  rw [cell_of_row _ _ _ _ _ _ (heap_alloc_new _ _)]
  match i, h0 with
  | 0, _ => rfl
  | 1, _ => rfl

theorem quiet2 {P : Program} {f : FuncId} {args : Array Value} {w : World} {q n : Nat} {v : Value}
    (h : Calls P f args (w.drewN (q + n)) fun e w' => e = .returned v ∧ w.drewN (q + n) = w') : Calls P f args (w.drewN (q + n)) fun e w'' => e = .returned v ∧ ∃ m, w'' = w.drewN (q + m) :=
  h.mono fun _ _ ⟨he, hm⟩ => ⟨he, n, hm.symm⟩
theorem check_two (c : Cut) (hk : c.Ok) (B : Nat) (a : Option Addr) (n m : Nat) (hn : n ≤ 1048576) (w : World) (h : SlicesAt w B [(a, n, m), (a, n, m)]) :
    Calls Tryd.prog 63 #[.agg #[.int .i64 c.mn, .int .i64 c.mx, .int .i64 c.win, .int .i64 c.bits, .int .u64 (u c.seed)], .slice (some ⟨B, 0, none⟩) 2 2] w fun e w' => e = .returned (.int .i64 0) ∧ Below w.heap.size w w' :=
  check_ok c.mn c.mx c.win c.bits c.seed B 2 [(a, n, m), (a, n, m)] (by simp) (by intro x hx; simp at hx; rw [hx]; exact hn) (valid_of hk) w h
set_option maxRecDepth 100000 in
set_option maxHeartbeats 1000000 in
theorem common_same (c : Cut) (hk : c.Ok) (a : Option Addr) (cap : Nat) (ds : List Nat) (hl : ds.length ≤ 300) (hcap : ds.length ≤ cap) (w : World) (h : BytesAt w a ds) (hT : TabAt 0 Lib.deBruijn64tab w) :
    Calls Tryd.prog 55 #[.agg #[.int .i64 c.mn, .int .i64 c.mx, .int .i64 c.win, .int .i64 c.bits, .int .u64 (u c.seed)], .slice a ds.length cap, .slice a ds.length cap] w fun e w' => (∃ i j : Int, e = .returned (.tuple #[.int .i64 i, .int .i64 j, .int .i64 0])) ∧ Below w.heap.size w w' := by
  have HH := Lib.hid h
  have HT := Lib.hid hT
  have HK := Lib.hid hk
  have HCAP := Lib.hid hcap
  clear h hT hk hcap
  go_enter Tryd.func55, Tryd.ntmps55
  go_wp2_with fail
  have hsl : Hid (SlicesAt ((w.alloc (.cells #[.int .i64 c.mn, .int .i64 c.mx, .int .i64 c.win, .int .i64 c.bits, .int .u64 (u c.seed)] 48)).alloc (.cells #[.slice a ds.length cap, .slice a ds.length cap] 28)) (w.heap.size + 1) [(a, ds.length, cap), (a, ds.length, cap)]) := by
    have h := slices2 (w.alloc (.cells #[.int .i64 c.mn, .int .i64 c.mx, .int .i64 c.win, .int .i64 c.bits, .int .u64 (u c.seed)] 48)) a a ds.length cap ds.length cap
    rw [World.size_alloc] at h
    exact h
  refine (check_two c HK.out (w.heap.size + 1) a ds.length cap (by omega) _ hsl.out).mono ?_
  rintro e w1 ⟨rfl, hb⟩
  have I1 := Lib.hid (((Inv.new w c.mn c.mx c.win c.bits c.seed).alloc _).step hb)
  obtain ⟨c0, c1, c2, c3, c4⟩ := I1.out.x
  obtain ⟨L, hL, hkl⟩ : ∃ L, chunks c ds = L ∧ L.length ≤ 300 := ⟨_, rfl, by have := chunks_len c ds; omega⟩
  have HL := Lib.hid hL
  clear hb hL
  go_wp2_with fail
  refine (split_z c HK.out a cap ds L HL.out (by omega) HCAP.out w1 (HH.out.later I1.out.b) (I1.out.tab HT.out)).mono ?_
  rintro e w2 ⟨a2, cap2, rfl, hl2, _, hb2, _⟩
  have I2 := Lib.hid (I1.out.step hb2)
  have HL2 := Lib.hid hl2
  clear hb2 hl2 c0 c1 c2 c3 c4
  obtain ⟨c0, c1, c2, c3, c4⟩ := I2.out.x
  go_wp2_with fail
  refine (split_z c HK.out a cap ds L HL.out (by omega) HCAP.out w2 (HH.out.later I2.out.b) (I2.out.tab HT.out)).mono ?_
  rintro e w3 ⟨a3, cap3, rfl, hl3, _, hb3, _⟩
  have I3 := Lib.hid (I2.out.step hb3)
  have HL3 := Lib.hid hl3
  have HL23 := Lib.hid (HL2.out.later hb3)
  clear hb3 hl3 c0 c1 c2 c3 c4
  go_wp2_with fail
  go_loopw [15] (fun i wr => ∃ k : Nat, k ≤ L.length ∧ i = .int .i64 k ∧ Drawn w3 wr) (fun i _ => L.length - (intOf i).toNat)
  case atStart => exact ⟨0, Nat.zero_le _, rfl, Drawn.refl _⟩
  case round =>
    obtain ⟨k, hk, rfl, hdr⟩ := hrel
    obtain ⟨q, rfl⟩ := hdr
    by_cases hlt : k < L.length
    · obtain ⟨b, o, rfl, hc⟩ := HL23.out.some (by omega)
      obtain ⟨b', o', rfl, hc'⟩ := HL3.out.some (by omega)
      obtain ⟨ai, ci, hck, hbi, _⟩ := hc k hlt
      obtain ⟨ai', ci', hck', hbi', _⟩ := hc' k hlt
      have HBI := Lib.hid hbi
      have HBI' := Lib.hid hbi'
      clear hc hc' hbi hbi'
      generalize L.getD k [] = x at hck hck' HBI HBI'
      go_wp2_with fail
      go_quiet ((go_at_call 67; exact quiet2 (equal_same ai ai' ci ci' x _ (HBI.out.later (below_drewN (Below.refl _ _) _)) (HBI'.out.later (below_drewN (Below.refl _ _) _)))))
      go_wp2
      go_roundw
      case rel => exact ⟨k + 1, by omega, by go_num, by first | exact ⟨_, rfl⟩ | exact Drawn.drewN ⟨_, rfl⟩ _⟩
      case measure => simp [intOf]; omega
    · have e : k = L.length := by omega
      subst e
      go_wp2_with (go_quiet (fail))
      go_loopw [16] (fun i wr => i = .int .i64 0 ∧ Drawn w3 wr) (fun _ _ => 0)
      case atStart => exact ⟨rfl, by first | exact ⟨_, rfl⟩ | exact Drawn.drewN ⟨_, rfl⟩ _⟩
      case round =>
        obtain ⟨rfl, hdr⟩ := hrel
        obtain ⟨q2, rfl⟩ := hdr
        go_wp2_with (go_quiet (fail))
        go_ret3
        exact ⟨⟨_, _, rfl⟩, by first | exact I3.out.b.trans (below_drewN (Below.refl _ _) _) | exact I3.out.b.trans (below_drewN (below_drewN (Below.refl _ _) _) _)⟩
end Go.Proofs.YtfnhcjcahcacnaaDoor
