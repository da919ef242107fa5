/- The contract of rollinghash.New. -/
import Derived.Test.YtfnhcjcahcacnaaDoorTable
import Derived.Deep.RegionLaw
import Derived.Laws.CopyOwn
namespace Go.Proofs.YtfnhcjcahcacnaaDoor
open Go.RowKit
open Roll (u)
open Kit (Chg)

/-- The cells of a table of numbers. -/
def tabCells (s : BitVec 64) : List Value := (List.range 256).map fun i => .int .u64 (u (Roll.num s i))

theorem tabCells_length (s : BitVec 64) : (tabCells s).length = 256 := by simp [tabCells]
theorem tabCells_one (s : BitVec 64) : ∀ v ∈ tabCells s, v.oneCell' = true := by
  intro v hv
  simp only [tabCells, List.mem_map] at hv
  obtain ⟨i, _, rfl⟩ := hv
  rfl
theorem tabCells_get (s : BitVec 64) (j : Nat) (h : j < 256) : (tabCells s)[j]? = some (.int .u64 (u (Roll.num s j))) := by
  simp [tabCells, h]
theorem tab_src {s : BitVec 64} {N : Nat} {w : World} (h : TabUpTo s N 256 w) : ∀ j v, (tabCells s)[j]? = some v → w.cell? ((⟨N, 0, none⟩ : Addr).add j) = some v := by
  intro j v hv
  have hj : j < 256 := by
    have := (List.getElem?_eq_some_iff.1 hv).1
    rwa [tabCells_length] at this
  obtain ⟨cs, h1, h2, h3⟩ := h
  rw [tabCells_get s j hj] at hv
  have e : (⟨N, 0, none⟩ : Addr).add j = ⟨N, j, none⟩ := by unfold Addr.add; split <;> simp_all
  rw [e, cell_of_row _ _ _ _ _ _ h1, h3 j hj, hv]

/-- The cells of a new Roll before the table is copied in. -/
noncomputable def blank (win : Int) : List Value := (Tryd.zeroCells79.setIfInBounds 320 (Value.int .i64 win)).toList

theorem blank_length (win : Int) : (blank win).length = 324 := by
  have h : Tryd.zeroCells79.size = 324 := by kernel_rfl
  unfold blank
  rw [Array.length_toList, Array.size_setIfInBounds, h]

theorem new_tab {N : Nat} {w W w1 : World} {C : Array Value} (HS : W.heap.size = N + 1) (HC : W.heap[N]? = some (.cells C 79 (0, 0))) (HB : Below N w W) (hb : Below W.heap.size W.drew w1) :
    w1.heap[N]? = some (.cells C 79 (0, 0)) ∧ Below N w w1 :=
  ⟨(hb.block N (by omega)).trans HC, HB.drew.trans (hb.mono (by omega))⟩

theorem tab_min (s : BitVec 64) : (tabCells s).length = Nat.min 256 256 := tabCells_length s
theorem tab_fits (s : BitVec 64) (win : Int) : 0 + (tabCells s).length ≤ (blank win).length := by rw [tabCells_length, blank_length]; omega

def NewPost (s : BitVec 64) (win : Int) (w w' : World) : Prop :=
  w'.heap[w.heap.size]? = some (.cells (splice (blank win) 0 (tabCells s)).toArray 79 (0, 0)) ∧ Below w.heap.size w w'

set_option maxRecDepth 100000 in
set_option maxHeartbeats 400000 in
theorem new_cells (s : BitVec 64) (win : Int) (h1 : 1 ≤ win) (h2 : win ≤ 64) (w : World) :
    Calls Tryd.prog 25 #[.int .u64 (u s), .int .i64 win] w fun e w' => e = .returned (.pointer (some ⟨w.heap.size, 0, none⟩)) ∧ NewPost s win w w' := by
  go_enter Tryd.func25, Tryd.ntmps25
  go_wp2_with fail
  refine wp_over (fun W => Hid (W.heap.size = w.heap.size + 1) ∧ Hid (W.heap[w.heap.size]? = some (.cells (blank win).toArray 79 (0, 0))) ∧ Hid (Below w.heap.size w W)) ⟨by show _ = _; simp, by show _ = _; rw [blank, Array.toArray_toList]; exact heap_alloc_new _ _, (Below.refl _ _).alloc (Nat.le_refl _) _⟩ ?_
  rintro W ⟨HS, HC, HB⟩
  generalize hN : w.heap.size = N at *
  have hNN : Hid (w.heap.size = N) := hN
  clear hN
  go_region_law (first | (refine step_copy_splice rfl (.tmp 14) (.tmp 16) 23 23 rfl 22 Tryd.underlying23 (by kernel_rfl) _ _ _ _ _ _ rfl rfl N 0 (blank win) 79 hg1.out (tabCells s) (tab_min s) (fun _ => ⟨rfl, _, rfl, hsrc.out⟩) (tab_fits s win) (tabCells_one s) N w hb1.out (Nat.le_refl _) ?_; intro w2 hg2 hb2) | (go_simp; go_at_call 22; refine (table_any _ _).mono ?_; rintro e w1 ⟨rfl, hsz, hb, ht⟩; have hg1 := Lib.hid (new_tab HS.out HC.out HB.out hb).1; have hsrc := Lib.hid (tab_src ht); have hb1 := Lib.hid (new_tab HS.out HC.out HB.out hb).2; clear hb ht hsz))
  go_wp2
  go_ret
  refine ⟨by rw [hNN.out]; rfl, ?_⟩
  unfold NewPost
  rw [hNN.out]
  exact ⟨hg2.out, hb2⟩

theorem zero_cells : Tryd.zeroCells79 = ((List.replicate 256 (Value.int .u64 0) ++ List.replicate 64 (Value.int .u8 0)) ++ [Value.int .i64 0, Value.int .i64 0, Value.int .i64 0, Value.int .u64 0]).toArray := by kernel_rfl

theorem blank_of (A B : List Value) (win x : Value) (r : List Value) (C : Array Value) (h : C = ((A ++ B) ++ x :: r).toArray) (hA : A.length + B.length = 320) : (C.setIfInBounds 320 win).toList = (A ++ B) ++ win :: r := by
  subst h
  rw [List.setIfInBounds_toArray, List.set_append_right _ _ (by rw [List.length_append]; omega), List.length_append, hA]
  rfl

theorem blank_eq (win : Int) : ∃ A B : List Value, A.length = 256 ∧ B.length = 64 ∧ (∀ i, i < 64 → B[i]? = some (.int .u8 0)) ∧ blank win = (A ++ B) ++ [Value.int .i64 win, Value.int .i64 0, Value.int .i64 0, Value.int .u64 0] :=
  ⟨List.replicate 256 (Value.int .u64 0), List.replicate 64 (Value.int .u8 0), List.length_replicate, List.length_replicate, fun i hi => by rw [List.getElem?_replicate, if_pos hi],
   blank_of _ _ _ _ _ _ zero_cells (by rw [List.length_replicate, List.length_replicate])⟩

theorem new_cell (s : BitVec 64) (win : Int) (w : World) (N : Nat) (h : w.heap[N]? = some (.cells (splice (blank win) 0 (tabCells s)).toArray 79 (0, 0))) :
    (∀ i, i < 256 → w.cell? ⟨N, i, none⟩ = some (.int .u64 (u (Roll.num s i)))) ∧ (∀ i, 256 ≤ i → w.cell? ⟨N, i, none⟩ = (blank win)[i]?) := by
  constructor
  · intro i hi
    rw [cell_of_row _ _ _ _ _ _ h]
    simp only [splice, List.take_zero, List.nil_append, List.getElem?_toArray]
    rw [List.getElem?_append_left (by rw [tabCells_length]; exact hi), tabCells_get s i hi]
  · intro i hi
    rw [cell_of_row _ _ _ _ _ _ h]
    simp only [splice, List.take_zero, List.nil_append, List.getElem?_toArray]
    rw [List.getElem?_append_right (by rw [tabCells_length]; exact hi), tabCells_length, List.getElem?_drop, Nat.zero_add, Nat.add_sub_cancel' hi]

/-- New: a Roll of the seed, with an empty window, in a new block. -/
theorem new_any (s : BitVec 64) (win : Nat) (h1 : 1 ≤ win) (h2 : win ≤ 64) (w : World) :
    Calls Tryd.prog 25 #[.int .u64 (u s), .int .i64 win] w fun e w' => e = .returned (.pointer (some ⟨w.heap.size, 0, none⟩)) ∧ RollAt w' w.heap.size 0 s win [] 0 ∧ Below w.heap.size w w' := by
  refine (new_cells s win (by omega) (by omega) w).mono ?_
  rintro e w' ⟨rfl, hc, hb⟩
  obtain ⟨k1, k2⟩ := new_cell s win w' _ hc
  have k4 : ∀ i, w'.frozen? ⟨w.heap.size, 0 + i, none⟩ = false := fun i => frozen_of_row _ _ _ _ _ hc
  obtain ⟨A, B, hA, hB, hz, e⟩ := blank_eq win
  rw [e] at k2
  clear e hc
  have k3 : ∀ i, 320 ≤ i → w'.cell? ⟨w.heap.size, i, none⟩ = ([Value.int .i64 win, Value.int .i64 0, Value.int .i64 0, Value.int .u64 0] : List Value)[i - 320]? := by
    intro i hi
    rw [k2 i (by omega), List.getElem?_append_right (by rw [List.length_append]; omega), List.length_append, hA, hB]
  refine ⟨rfl, ⟨fun i hi => by rw [Nat.zero_add]; exact k1 i hi, fun i hi => ⟨0, by omega, ?_⟩, fun i hi => by simp at hi, ?_, ?_, ?_, ?_, fun i hi => ?_, by omega, h1, h2, by simp, by simp⟩, hb⟩
  · rw [Nat.zero_add, k2 _ (by omega), List.getElem?_append_left (by rw [List.length_append]; omega), List.getElem?_append_right (by omega), hA, Nat.add_sub_cancel_left]
    exact hz i hi
  · exact k3 320 (by omega)
  · exact k3 321 (by omega)
  · exact k3 322 (by omega)
  · rw [Roll.hash_nil]; exact k3 323 (by omega)
  · exact k4 i
end Go.Proofs.YtfnhcjcahcacnaaDoor
