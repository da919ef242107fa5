/- The contract of rollinghash.New at a window of whatever size. -/
import Derived.Test.YtfnhcjcahcacnaaDoorOf
namespace Go.Proofs.YtfnhcjcahcacnaaDoor
open Go.RowKit
open Roll (u)
open Kit (Chg)

set_option maxRecDepth 100000 in
set_option maxHeartbeats 400000 in
theorem new_cells_low (s : BitVec 64) (win : Int) (h1 : win < 1) (w : World) :
    Calls Tryd.prog 25 #[.int .u64 (u s), .int .i64 win] w fun e w' => e = .returned (.pointer (some ⟨w.heap.size, 0, none⟩)) ∧ NewPost s 1 w w' := by
  go_enter Tryd.func25, Tryd.ntmps25
  go_wp2_with fail
  refine wp_over (fun W => Hid (W.heap.size = w.heap.size + 1) ∧ Hid (W.heap[w.heap.size]? = some (.cells (blank 1).toArray 79 (0, 0))) ∧ Hid (Below w.heap.size w W)) ⟨by show _ = _; simp, by show _ = _; rw [blank, Array.toArray_toList]; exact heap_alloc_new _ _, (Below.refl _ _).alloc (Nat.le_refl _) _⟩ ?_
  rintro W ⟨HS, HC, HB⟩
  generalize hN : w.heap.size = N at *
  have hNN : Hid (w.heap.size = N) := hN
  clear hN
  go_region_law (first | (refine step_copy_splice rfl (.tmp 14) (.tmp 16) 23 23 rfl 22 Tryd.underlying23 (by kernel_rfl) _ _ _ _ _ _ rfl rfl N 0 (blank 1) 79 hg1.out (tabCells s) (tab_min s) (fun _ => ⟨rfl, _, rfl, hsrc.out⟩) (tab_fits s 1) (tabCells_one s) N w hb1.out (Nat.le_refl _) ?_; intro w2 hg2 hb2) | (go_simp; go_at_call 22; refine (table_any _ _).mono ?_; rintro e w1 ⟨rfl, hsz, hb, ht⟩; have hg1 := Lib.hid (new_tab HS.out HC.out HB.out hb).1; have hsrc := Lib.hid (tab_src ht); have hb1 := Lib.hid (new_tab HS.out HC.out HB.out hb).2; clear hb ht hsz))
  go_wp2
  go_ret
  refine ⟨by rw [hNN.out]; rfl, ?_⟩
  unfold NewPost
  rw [hNN.out]
  exact ⟨hg2.out, hb2⟩

set_option maxRecDepth 100000 in
set_option maxHeartbeats 400000 in
theorem new_cells_high (s : BitVec 64) (win : Int) (h1 : 64 < win) (w : World) :
    Calls Tryd.prog 25 #[.int .u64 (u s), .int .i64 win] w fun e w' => e = .returned (.pointer (some ⟨w.heap.size, 0, none⟩)) ∧ NewPost s 64 w w' := by
  go_enter Tryd.func25, Tryd.ntmps25
  go_wp2_with fail
  refine wp_over (fun W => Hid (W.heap.size = w.heap.size + 1) ∧ Hid (W.heap[w.heap.size]? = some (.cells (blank 64).toArray 79 (0, 0))) ∧ Hid (Below w.heap.size w W)) ⟨by show _ = _; simp, by show _ = _; rw [blank, Array.toArray_toList]; exact heap_alloc_new _ _, (Below.refl _ _).alloc (Nat.le_refl _) _⟩ ?_
  rintro W ⟨HS, HC, HB⟩
  generalize hN : w.heap.size = N at *
  have hNN : Hid (w.heap.size = N) := hN
  clear hN
  go_region_law (first | (refine step_copy_splice rfl (.tmp 14) (.tmp 16) 23 23 rfl 22 Tryd.underlying23 (by kernel_rfl) _ _ _ _ _ _ rfl rfl N 0 (blank 64) 79 hg1.out (tabCells s) (tab_min s) (fun _ => ⟨rfl, _, rfl, hsrc.out⟩) (tab_fits s 64) (tabCells_one s) N w hb1.out (Nat.le_refl _) ?_; intro w2 hg2 hb2) | (go_simp; go_at_call 22; refine (table_any _ _).mono ?_; rintro e w1 ⟨rfl, hsz, hb, ht⟩; have hg1 := Lib.hid (new_tab HS.out HC.out HB.out hb).1; have hsrc := Lib.hid (tab_src ht); have hb1 := Lib.hid (new_tab HS.out HC.out HB.out hb).2; clear hb ht hsz))
  go_wp2
  go_ret
  refine ⟨by rw [hNN.out]; rfl, ?_⟩
  unfold NewPost
  rw [hNN.out]
  exact ⟨hg2.out, hb2⟩

theorem new_of_cells (s : BitVec 64) (win : Nat) (h1 : 1 ≤ win) (h2 : win ≤ 64) (w w' : World) (h : NewPost s win w w') : RollAt w' w.heap.size 0 s win [] 0 ∧ Below w.heap.size w w' := by
  obtain ⟨hc, hb⟩ := h
  obtain ⟨k1, k2⟩ := new_cell s win w' _ hc
  have k4 : ∀ i, w'.frozen? ⟨w.heap.size, 0 + i, none⟩ = false := fun i => frozen_of_row _ _ _ _ _ hc
  obtain ⟨A, B, hA, hB, hz, e⟩ := blank_eq win
  rw [e] at k2
  clear e hc
  have k3 : ∀ i, 320 ≤ i → w'.cell? ⟨w.heap.size, i, none⟩ = ([Value.int .i64 win, Value.int .i64 0, Value.int .i64 0, Value.int .u64 0] : List Value)[i - 320]? := by
    intro i hi
    rw [k2 i (by omega), List.getElem?_append_right (by rw [List.length_append]; omega), List.length_append, hA, hB]
  refine ⟨⟨fun i hi => by rw [Nat.zero_add]; exact k1 i hi, fun i hi => ⟨0, by omega, ?_⟩, fun i hi => by simp at hi, ?_, ?_, ?_, ?_, fun i hi => ?_, by omega, h1, h2, by simp, by simp⟩, hb⟩
  · rw [Nat.zero_add, k2 _ (by omega), List.getElem?_append_left (by rw [List.length_append]; omega), List.getElem?_append_right (by omega), hA, Nat.add_sub_cancel_left]
    exact hz i hi
  · exact k3 320 (by omega)
  · exact k3 321 (by omega)
  · exact k3 322 (by omega)
  · rw [Roll.hash_nil]; exact k3 323 (by omega)
  · exact k4 i

/-- New, at whatever window. -/
theorem new_int (s : BitVec 64) (win : Int) (w : World) :
    Calls Tryd.prog 25 #[.int .u64 (u s), .int .i64 win] w fun e w' => e = .returned (.pointer (some ⟨w.heap.size, 0, none⟩)) ∧ RollAt w' w.heap.size 0 s (winOf win) [] 0 ∧ Below w.heap.size w w' := by
  by_cases h1 : win < 1
  · have e : winOf win = 1 := by unfold winOf; rw [if_pos h1]
    rw [e]
    exact (new_cells_low s win h1 w).mono fun e w' ⟨he, h⟩ => ⟨he, new_of_cells s 1 (by decide) (by decide) w w' h⟩
  · by_cases h2 : 64 < win
    · have e : winOf win = 64 := by unfold winOf; rw [if_neg h1, if_pos h2]
      rw [e]
      exact (new_cells_high s win h2 w).mono fun e w' ⟨he, h⟩ => ⟨he, new_of_cells s 64 (by decide) (by decide) w w' h⟩
    · have e : winOf win = win.toNat := by unfold winOf; rw [if_neg h1, if_neg h2]
      have h : win = (win.toNat : Int) := by omega
      rw [e]
      have := new_any s win.toNat (by omega) (by omega) w
      rw [← h] at this
      exact this

theorem sum_zero (b o : Nat) (w : World) (h : w.cell? ⟨b, o + 323, none⟩ = some (.int .u64 0)) :
    Calls Tryd.prog 27 #[.pointer (some ⟨b, o, none⟩)] w fun e w' => e = .returned (.int .u64 0) ∧ w = w' := by
  go_enter Tryd.func27, Tryd.ntmps27
  go_wp2
  go_ret
  exact ⟨rfl, rfl⟩
theorem len_zero (b o : Nat) (w : World) (h : w.cell? ⟨b, o + 322, none⟩ = some (.int .i64 0)) :
    Calls Tryd.prog 26 #[.pointer (some ⟨b, o, none⟩)] w fun e w' => e = .returned (.int .i64 0) ∧ w = w' := by
  go_enter Tryd.func26, Tryd.ntmps26
  go_wp2
  go_ret
  exact ⟨rfl, rfl⟩

theorem hash_len (s : BitVec 64) (a : Option Addr) (cap : Nat) (bs : List Nat) (n : Nat) (hn : bs.length = n) (w : World) (h : BytesAt w a bs) :
    Calls Tryd.prog 31 #[.int .u64 (u s), .slice a n cap] w fun e w' => e = .returned (.int .u64 (u (Roll.hash s bs))) ∧ w = w' := by
  subst hn; exact hash_any s a cap bs w h

set_option maxHeartbeats 400000 in
/-- Last, of a slice that is not nil: no cell is read. -/
theorem last_some (b o len cap n d m : Nat) (hn : 1 ≤ n) (hn2 : n ≤ 64) (hcap : len ≤ cap) (hm : len ≤ 9223372036854775807) (hd : len - n = d) (hdm : len - d = m) (w : World) :
    Calls Tryd.prog 29 #[.slice (some ⟨b, o, none⟩) len cap, .int .i64 n] w fun e w' => e = .returned (.slice (some ⟨b, o + d, none⟩) m (cap - d)) ∧ w = w' := by
  subst hd; subst hdm
  by_cases hlt : n < len
  · go_enter Tryd.func29, Tryd.ntmps29
    go_wp2
    go_ret
    exact ⟨rfl, rfl⟩
  · have e : len - n = 0 := by omega
    rw [e]
    go_enter Tryd.func29, Tryd.ntmps29
    go_wp2
    go_ret
    exact ⟨rfl, rfl⟩
end Go.Proofs.YtfnhcjcahcacnaaDoor
