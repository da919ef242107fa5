/- The contract of rollinghash.Table. -/
import Derived.Test.YtfnhcjcahcacnaaDoorPush
import Derived.Deep.Cut
import Derived.Deep.CutBlock
namespace Go.Proofs.YtfnhcjcahcacnaaDoor
open Go.RowKit
open Roll (u)
open Kit (Chg)

def TabUpTo (s : BitVec 64) (N k : Nat) (w : World) : Prop :=
  ∃ cs : Array Value, w.heap[N]? = some (.cells cs 22 (0, 0)) ∧ cs.size = 256 ∧ ∀ i, i < k → cs[i]? = some (.int .u64 (u (Roll.num s i)))

def TabRel (s : BitVec 64) (w : World) (i : Value) (wr : World) : Prop := ∃ k : Nat, k ≤ 256 ∧ i = .int .i64 k ∧ Below w.heap.size w wr ∧ TabUpTo s w.heap.size k wr

set_option maxRecDepth 100000 in
set_option maxHeartbeats 400000 in
theorem table_any (s : BitVec 64) (w : World) :
    Calls Tryd.prog 22 #[.int .u64 (u s)] w fun e w' => e = .returned (.slice (some ⟨w.heap.size, 0, none⟩) 256 256) ∧ w.heap.size < w'.heap.size ∧ Below w.heap.size w w' ∧ TabUpTo s w.heap.size 256 w' := by
  have hmk : ∀ w, (Instr.makeSlice 23 (.int .i64 256) (.int .i64 256)).run Tryd.prog w = .ok (.slice (some ⟨w.heap.size, 0, none⟩) 256 256) (w.alloc (.cells (Array.replicate 256 (.int .u64 0)) 22)) := fun _ => by kernel_rfl
  obtain ⟨Q0, hq0⟩ : ∃ Q : Prop, Hid Q := ⟨True, trivial⟩
  have r1 := Roll.f_start Q0
  have r2 := Roll.f_mixA Q0
  have r3 := Roll.f_mixB Q0
  have r4 := Roll.f_shr30 Q0
  have r5 := Roll.f_shr27 Q0
  have r6 := Roll.f_shr31 Q0
  have r7 := Roll.f_xor Q0
  have r8 := Roll.f_add Q0
  have r9 := Roll.f_nonneg Q0
  go_enter Tryd.func22, Tryd.ntmps22
  go_wp2_with fail
  go_loopw [9] (fun i wr => TabRel s w i wr) (fun i _ => 256 - (intOf i).toNat)
  case atStart =>
    refine ⟨0, Nat.zero_le _, rfl, (Below.refl _ _).alloc (Nat.le_refl _) _, Array.replicate 256 (.int .u64 0), heap_alloc_new _ _, by simp, fun i hi => by omega⟩
  case round =>
    obtain ⟨k, hk, rfl, hb, cs, hcs, hsz, hall⟩ := hrel
    by_cases hlt : k < 256
    · have hc : wr.cell? ⟨w.heap.size, k, none⟩ = some (cs[k]'(by omega)) := by rw [cell_of_row _ _ _ _ _ _ hcs]; simp [hsz, hlt]
      have hf : wr.frozen? ⟨w.heap.size, k, none⟩ = false := frozen_of_row _ _ _ _ _ hcs
      have r0 : IntKind.u64.wrap ((k : Int) + 1) = u (BitVec.ofNat 64 (k + 1)) := Roll.u_ofNat (k + 1)
      have HB := Lib.hid hb
      have HC := Lib.hid hcs
      have HA := Lib.hid hall
      have HZ := Lib.hid hsz
      generalize cs[k]'(by omega) = old at hc
      clear hb hcs hall hsz hmk
      go_wp2
      go_roundw
      case rel =>
        refine ⟨k + 1, by omega, by go_num, HB.out.setCell (Nat.le_refl _) _, cs.setIfInBounds k (.int .u64 (u (Roll.num s k))), heap_setCell_same _ _ _ _ _ _ HC.out, by simp [HZ.out], fun i hi => ?_⟩
        by_cases e : i = k
        · subst e; simp [HZ.out, hlt]
        · rw [Array.getElem?_setIfInBounds_ne (by omega)]; exact HA.out i (by omega)
      case measure => simp [intOf]; omega
    · have HB := Lib.hid hb
      have HT := Lib.hid (show TabUpTo s w.heap.size k wr from ⟨cs, hcs, hsz, hall⟩)
      have HS := Lib.hid (Array.getElem?_eq_some_iff.1 hcs).1
      clear hb hcs hall hsz hmk r1 r2 r3 r4 r5 r6 r7 r8 r9 hq0
      go_wp2
      go_ret
      have e : k = 256 := by omega
      exact ⟨rfl, HS.out, HB.out, e ▸ HT.out⟩
end Go.Proofs.YtfnhcjcahcacnaaDoor
