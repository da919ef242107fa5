/- General lemmas for walks: no program is named here. -/
import Derived.WalkKit
import Derived.StillTailTactics
import Derived.Deep.QuietTactic
import Derived.BigQuiet
import Derived.BigRegion
namespace Go.Proofs.YtmnendoloankgaaDoor
namespace Kit
section
variable {P : Program} {ops : Array Oper}

/-- A walk in which every operation leaves the one world W alone is a still walk. -/
theorem still_of_quiet {W : World} {Q : Act → Prop} : ∀ (l : List Oper) (a : Act), wpQuiet P ops (fun w' => w' = W) Q l a → wpStill P ops W Q l a
  | [], _, h => h
  | o :: rest, a, h => by
    simp only [wpQuiet] at h
    simp only [wpStill]
    split
    · rename_i hw
      rw [if_pos hw] at h
      obtain ⟨v, hq, hn⟩ := h
      have hq := hq W rfl
      unfold Oper.quietAt at hq
      unfold Oper.still
      have hrest := still_of_quiet rest _ hn
      generalize (execOp a.eval o).run P W = r at hq
      match r, hq with
      | .ok (.value u) w', hq => obtain ⟨h1, rfl⟩ := hq; exact ⟨h1, hrest⟩
      | .ok .skip w', hq => obtain ⟨h1, rfl⟩ := hq; exact ⟨h1, hrest⟩
      | .ok (.enter f args) w', hq => obtain ⟨h1, h2⟩ := hq; exact ⟨h1, v, h2, hrest⟩
    · rename_i hw
      rw [if_neg hw] at h
      exact still_of_quiet rest _ h

/-- A region that draws its order: n operations that leave the world alone, then a tail in one forced order. -/
theorem wp_region_quiet_tail {id : Nat} {Q : Exit → Act → World → Prop} {a : Act} {w : World} {l : List Oper} (n : Nat) (hm : P.follows .mixedOrders = true) (hB : Region.lexTailB .any l.toArray n = true)
    (h : wpQuiet P l.toArray (fun w' => w' = w.drew) (fun a' => wpList P l.toArray Q (l.drop n) a' w.drew) (l.take n) a) : (Code.region id l.toArray true).wp P Q a w :=
  wp_region_still_tail n hm hB (still_of_quiet _ _ h)
end

/-! ### What a call may have changed -/

/-- From w to w' only cells in M have changed (M k i: cell i of block k), and new blocks have come. Where all cells of a block are in M, nothing is said of that block. -/
structure Chg (M : Nat → Nat → Prop) (w w' : World) : Prop where
  os : w'.os = w.os
  tape : w'.tape = w.tape
  output : w'.output = w.output
  size : w.heap.size ≤ w'.heap.size
  other : ∀ k, k < w.heap.size → (∀ i, ¬ M k i) → w'.heap[k]? = w.heap[k]?
  cells : ∀ k, (∃ i, ¬ M k i) → ∀ c e f, w.heap[k]? = some (.cells c e f) → ∃ c', w'.heap[k]? = some (.cells c' e f) ∧ c'.size = c.size ∧ ∀ i, ¬ M k i → c'[i]? = c[i]?

namespace Chg
variable {M : Nat → Nat → Prop} {w w' w'' : World}
theorem refl (M : Nat → Nat → Prop) (w : World) : Chg M w w := ⟨rfl, rfl, rfl, Nat.le_refl _, fun _ _ _ => rfl, fun _ _ c _ _ h => ⟨c, h, rfl, fun _ _ => rfl⟩⟩
theorem trans (h : Chg M w w') (k : Chg M w' w'') : Chg M w w'' :=
  ⟨k.os.trans h.os, k.tape.trans h.tape, k.output.trans h.output, Nat.le_trans h.size k.size, fun b hb hM => (k.other b (Nat.lt_of_lt_of_le hb h.size) hM).trans (h.other b hb hM),
   fun b hM c e f hc => by
    obtain ⟨c1, h1, h2, h3⟩ := h.cells b hM c e f hc
    obtain ⟨c2, k1, k2, k3⟩ := k.cells b hM c1 e f h1
    exact ⟨c2, k1, k2.trans h2, fun i hi => (k3 i hi).trans (h3 i hi)⟩⟩
theorem mono {M' : Nat → Nat → Prop} (h : Chg M w w') (hM : ∀ k i, k < w.heap.size → M k i → M' k i) : Chg M' w w' :=
  ⟨h.os, h.tape, h.output, h.size, fun b hb hn => h.other b hb (fun i hi => hn i (hM b i hb hi)), fun b hn c e f hc => by
    have hb : b < w.heap.size := (Array.getElem?_eq_some_iff.1 hc).1
    obtain ⟨i0, hi0⟩ := hn
    obtain ⟨c', h1, h2, h3⟩ := h.cells b ⟨i0, fun hm => hi0 (hM b i0 hb hm)⟩ c e f hc
    exact ⟨c', h1, h2, fun i hi => h3 i (fun hm => hi (hM b i hb hm))⟩⟩
theorem drewN (h : Chg M w w') (n : Nat) : Chg M w (w'.drewN n) := ⟨h.os, h.tape, h.output, h.size, h.other, h.cells⟩
theorem drew (h : Chg M w w') : Chg M w w'.drew := ⟨h.os, h.tape, h.output, h.size, h.other, h.cells⟩
theorem of_heap (h1 : w'.heap = w.heap) (h2 : w'.os = w.os) (h3 : w'.tape = w.tape) (h4 : w'.output = w.output) : Chg M w w' :=
  ⟨h2, h3, h4, by rw [h1]; exact Nat.le_refl _, fun b _ _ => by rw [h1], fun b _ c e f hc => ⟨c, by rw [h1]; exact hc, rfl, fun _ _ => rfl⟩⟩
theorem setCell1 (w : World) (b o : Nat) (v : Value) (hM : M b o) : Chg M w (w.setCell ⟨b, o, none⟩ v) := by
  refine ⟨rfl, rfl, rfl, by simp [World.setCell], fun k hk hn => ?_, fun k hn c e f hc => ?_⟩
  · exact Go.RowKit.Below.heap_setCell _ _ _ _ (fun e => hn o (by simpa [e] using hM))
  · by_cases hk : k = b
    · subst hk
      refine ⟨c.setIfInBounds o v, ?_, by simp, fun i hi => ?_⟩
      · simp [World.setCell, Array.getElem?_modify, hc]
      · rw [Array.getElem?_setIfInBounds_ne]
        rintro rfl
        exact hi hM
    · exact ⟨c, by rw [Go.RowKit.Below.heap_setCell _ _ _ _ hk]; exact hc, rfl, fun _ _ => rfl⟩
theorem setCell {b o : Nat} (h : Chg M w w') (v : Value) (hM : M b o) : Chg M w (w'.setCell ⟨b, o, none⟩ v) := h.trans (setCell1 _ _ _ _ hM)
theorem alloc1 (w : World) (o : Obj) : Chg M w (w.alloc o) :=
  ⟨rfl, rfl, rfl, by simp, fun k hk _ => Go.RowKit.Below.heap_alloc _ _ _ hk, fun k _ c e f hc =>
    ⟨c, by rw [Go.RowKit.Below.heap_alloc _ _ _ (Array.getElem?_eq_some_iff.1 hc).1]; exact hc, rfl, fun _ _ => rfl⟩⟩
theorem alloc (h : Chg M w w') (o : Obj) : Chg M w (w'.alloc o) := h.trans (alloc1 _ _)
theorem of_below (h : Go.RowKit.Below w.heap.size w w') : Chg M w w' :=
  ⟨h.os, h.tape, h.output, h.size, fun k hk _ => h.block k hk, fun k _ c e f hc =>
    ⟨c, by rw [h.block k (Array.getElem?_eq_some_iff.1 hc).1]; exact hc, rfl, fun _ _ => rfl⟩⟩
theorem of_below' {B : Nat} (h : Go.RowKit.Below B w w') (hM : ∀ k i, B ≤ k → k < w.heap.size → M k i) : Chg M w w' :=
  ⟨h.os, h.tape, h.output, h.size, fun k hk hn => h.block k (Nat.lt_of_not_le fun hB => hn 0 (hM k 0 hB hk)), fun k hn c e f hc => by
    have hk : k < w.heap.size := (Array.getElem?_eq_some_iff.1 hc).1
    obtain ⟨i, hi⟩ := hn
    exact ⟨c, by rw [h.block k (Nat.lt_of_not_le fun hB => hi (hM k i hB hk))]; exact hc, rfl, fun _ _ => rfl⟩⟩
theorem of_grown {row : Option Nat} (h : w.grownBy w' row) (hM : ∀ k i, row = some k → M k i) : Chg M w w' :=
  ⟨h.os, h.tape, h.output, h.size, fun k hk hn => h.block k hk (fun e => hn 0 (hM k 0 e.symm)), fun k hn c e f hc => by
    obtain ⟨i, hi⟩ := hn
    exact ⟨c, by rw [h.block k (Array.getElem?_eq_some_iff.1 hc).1 (fun e => hi (hM k i e.symm))]; exact hc, rfl, fun _ _ => rfl⟩⟩
theorem below (h : Chg M w w') {B : Nat} (hB : B ≤ w.heap.size) (hM : ∀ k i, k < B → ¬ M k i) : Go.RowKit.Below B w w' :=
  ⟨h.os, h.tape, h.output, h.size, fun k hk => h.other k (Nat.lt_of_lt_of_le hk hB) (fun i => hM k i hk)⟩
/-- A cell outside M holds what it held. -/
theorem cell (h : Chg M w w') {b o : Nat} {v : Value} (hc : w.cell? ⟨b, o, none⟩ = some v) (hM : ¬ M b o) : w'.cell? ⟨b, o, none⟩ = some v := by
  unfold World.cell? at hc ⊢
  split at hc
  · rename_i c e f hb
    obtain ⟨c', h1, _, h3⟩ := h.cells b ⟨o, hM⟩ c e f hb
    simp only [h1]
    simpa [h3 o hM] using hc
  · cases hc
theorem frozen (h : Chg M w w') {b o : Nat} {v : Value} (hc : w.cell? ⟨b, o, none⟩ = some v) (hM : ∃ i, ¬ M b i) (j : Nat) : w'.frozen? ⟨b, j, none⟩ = w.frozen? ⟨b, j, none⟩ := by
  unfold World.cell? at hc
  split at hc
  · rename_i c e f hb
    obtain ⟨c', h1, _, h3⟩ := h.cells b hM c e f hb
    have hb' : w.heap[b]? = some (.cells c e f) := hb
    simp only [World.frozen?, h1, hb']
  · cases hc
end Chg
end Kit
end Go.Proofs.YtmnendoloankgaaDoor
