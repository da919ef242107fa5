/- Texts Kit, Held, Sha, Mem, Rot of the proof, each as a section; no premises beyond those that each theorem states. -/
import Derived.WalkKit
import Derived.StillTailTactics
import Derived.Deep.QuietTactic
import Derived.BigQuiet
import Derived.BigRegion
import Derived.Deep.RegionHeld3
import Derived.Laws.BitsLemmas
import Derived.Lib.Hide
import Derived.Test.YtmcbnhkcjhlbaaaGreatDoorRows
import Derived.Great.FillDense
import Derived.Laws.CopyOwn
import Derived.Laws.AppendOwnNone
import Derived.Laws.BytesArg
import Derived.Maps.AppendAt
import Derived.RangeFuncBox
import Derived.OwnWalk
import Derived.WalkSpells
import Derived.WalkLawsBesides
import Derived.Lib.Bytes
import Derived.Lib.Strings
set_option linter.unusedVariables false
set_option linter.unusedSimpArgs false
section
namespace Go.Proofs.YtmcbnhkcjhlbaaaGreatDoor
namespace Kit
section
variable {P : Program} {ops : Array Oper}

theorem still_of_quiet {W : World} {Q : Act → Prop} : ∀ (l : List Oper) (a : Act), wpQuiet P ops (fun w' => w' = W) Q l a → wpStill P ops W Q l a
  | [], _, h => h
  | o :: rest, a, h => by
    simp only [wpQuiet] at h
    simp only [wpStill]
    split
    · rename_i hw
      rw [if_pos hw] at h
      obtain ⟨v, hq, hn⟩ := h
      have hq := hq W rfl
      unfold Oper.quietAt at hq
      unfold Oper.still
      have hrest := still_of_quiet rest _ hn
      generalize (execOp a.eval o).run P W = r at hq
      match r, hq with
      | .ok (.value u) w', hq => obtain ⟨h1, rfl⟩ := hq; exact ⟨h1, hrest⟩
      | .ok .skip w', hq => obtain ⟨h1, rfl⟩ := hq; exact ⟨h1, hrest⟩
      | .ok (.enter f args) w', hq => obtain ⟨h1, h2⟩ := hq; exact ⟨h1, v, h2, hrest⟩
    · rename_i hw
      rw [if_neg hw] at h
      exact still_of_quiet rest _ h

theorem wp_region_quiet_tail {id : Nat} {Q : Exit → Act → World → Prop} {a : Act} {w : World} {l : List Oper} (n : Nat) (hm : P.follows .mixedOrders = true) (hB : Region.lexTailB .any l.toArray n = true)
    (h : wpQuiet P l.toArray (fun w' => w' = w.drew) (fun a' => wpList P l.toArray Q (l.drop n) a' w.drew) (l.take n) a) : (Code.region id l.toArray true).wp P Q a w :=
  wp_region_still_tail n hm hB (still_of_quiet _ _ h)
end

/-! ### What a call may have changed -/

structure Chg (M : Nat → Nat → Prop) (w w' : World) : Prop where
  os : w'.os = w.os
  tape : w'.tape = w.tape
  output : w'.output = w.output
  size : w.heap.size ≤ w'.heap.size
  other : ∀ k, k < w.heap.size → (∀ i, ¬ M k i) → w'.heap[k]? = w.heap[k]?
  cells : ∀ k, (∃ i, ¬ M k i) → ∀ c e f, w.heap[k]? = some (.cells c e f) → ∃ c', w'.heap[k]? = some (.cells c' e f) ∧ c'.size = c.size ∧ ∀ i, ¬ M k i → c'[i]? = c[i]?

namespace Chg
variable {M : Nat → Nat → Prop} {w w' w'' : World}
theorem refl (M : Nat → Nat → Prop) (w : World) : Chg M w w := ⟨rfl, rfl, rfl, Nat.le_refl _, fun _ _ _ => rfl, fun _ _ c _ _ h => ⟨c, h, rfl, fun _ _ => rfl⟩⟩
theorem trans (h : Chg M w w') (k : Chg M w' w'') : Chg M w w'' :=
  ⟨k.os.trans h.os, k.tape.trans h.tape, k.output.trans h.output, Nat.le_trans h.size k.size, fun b hb hM => (k.other b (Nat.lt_of_lt_of_le hb h.size) hM).trans (h.other b hb hM),
   fun b hM c e f hc => by
    obtain ⟨c1, h1, h2, h3⟩ := h.cells b hM c e f hc
    obtain ⟨c2, k1, k2, k3⟩ := k.cells b hM c1 e f h1
    exact ⟨c2, k1, k2.trans h2, fun i hi => (k3 i hi).trans (h3 i hi)⟩⟩
theorem mono {M' : Nat → Nat → Prop} (h : Chg M w w') (hM : ∀ k i, k < w.heap.size → M k i → M' k i) : Chg M' w w' :=
  ⟨h.os, h.tape, h.output, h.size, fun b hb hn => h.other b hb (fun i hi => hn i (hM b i hb hi)), fun b hn c e f hc => by
    have hb : b < w.heap.size := (Array.getElem?_eq_some_iff.1 hc).1
    obtain ⟨i0, hi0⟩ := hn
    obtain ⟨c', h1, h2, h3⟩ := h.cells b ⟨i0, fun hm => hi0 (hM b i0 hb hm)⟩ c e f hc
    exact ⟨c', h1, h2, fun i hi => h3 i (fun hm => hi (hM b i hb hm))⟩⟩
theorem drewN (h : Chg M w w') (n : Nat) : Chg M w (w'.drewN n) := ⟨h.os, h.tape, h.output, h.size, h.other, h.cells⟩
theorem drew (h : Chg M w w') : Chg M w w'.drew := ⟨h.os, h.tape, h.output, h.size, h.other, h.cells⟩
theorem of_heap (h1 : w'.heap = w.heap) (h2 : w'.os = w.os) (h3 : w'.tape = w.tape) (h4 : w'.output = w.output) : Chg M w w' :=
  ⟨h2, h3, h4, by rw [h1]; exact Nat.le_refl _, fun b _ _ => by rw [h1], fun b _ c e f hc => ⟨c, by rw [h1]; exact hc, rfl, fun _ _ => rfl⟩⟩
theorem setCell1 (w : World) (b o : Nat) (v : Value) (hM : M b o) : Chg M w (w.setCell ⟨b, o, none⟩ v) := by
  refine ⟨rfl, rfl, rfl, by simp [World.setCell], fun k hk hn => ?_, fun k hn c e f hc => ?_⟩
  · exact Go.RowKit.Below.heap_setCell _ _ _ _ (fun e => hn o (by simpa [e] using hM))
  · by_cases hk : k = b
    · subst hk
      refine ⟨c.setIfInBounds o v, ?_, by simp, fun i hi => ?_⟩
      · simp [World.setCell, Array.getElem?_modify, hc]
      · rw [Array.getElem?_setIfInBounds_ne]
        rintro rfl
        exact hi hM
    · exact ⟨c, by rw [Go.RowKit.Below.heap_setCell _ _ _ _ hk]; exact hc, rfl, fun _ _ => rfl⟩
theorem setCell {b o : Nat} (h : Chg M w w') (v : Value) (hM : M b o) : Chg M w (w'.setCell ⟨b, o, none⟩ v) := h.trans (setCell1 _ _ _ _ hM)
theorem alloc1 (w : World) (o : Obj) : Chg M w (w.alloc o) :=
  ⟨rfl, rfl, rfl, by simp, fun k hk _ => Go.RowKit.Below.heap_alloc _ _ _ hk, fun k _ c e f hc =>
    ⟨c, by rw [Go.RowKit.Below.heap_alloc _ _ _ (Array.getElem?_eq_some_iff.1 hc).1]; exact hc, rfl, fun _ _ => rfl⟩⟩
theorem alloc (h : Chg M w w') (o : Obj) : Chg M w (w'.alloc o) := h.trans (alloc1 _ _)
theorem of_below (h : Go.RowKit.Below w.heap.size w w') : Chg M w w' :=
  ⟨h.os, h.tape, h.output, h.size, fun k hk _ => h.block k hk, fun k _ c e f hc =>
    ⟨c, by rw [h.block k (Array.getElem?_eq_some_iff.1 hc).1]; exact hc, rfl, fun _ _ => rfl⟩⟩
theorem of_below' {B : Nat} (h : Go.RowKit.Below B w w') (hM : ∀ k i, B ≤ k → k < w.heap.size → M k i) : Chg M w w' :=
  ⟨h.os, h.tape, h.output, h.size, fun k hk hn => h.block k (Nat.lt_of_not_le fun hB => hn 0 (hM k 0 hB hk)), fun k hn c e f hc => by
    have hk : k < w.heap.size := (Array.getElem?_eq_some_iff.1 hc).1
    obtain ⟨i, hi⟩ := hn
    exact ⟨c, by rw [h.block k (Nat.lt_of_not_le fun hB => hi (hM k i hB hk))]; exact hc, rfl, fun _ _ => rfl⟩⟩
theorem of_grown {row : Option Nat} (h : w.grownBy w' row) (hM : ∀ k i, row = some k → M k i) : Chg M w w' :=
  ⟨h.os, h.tape, h.output, h.size, fun k hk hn => h.block k hk (fun e => hn 0 (hM k 0 e.symm)), fun k hn c e f hc => by
    obtain ⟨i, hi⟩ := hn
    exact ⟨c, by rw [h.block k (Array.getElem?_eq_some_iff.1 hc).1 (fun e => hi (hM k i e.symm))]; exact hc, rfl, fun _ _ => rfl⟩⟩
theorem below (h : Chg M w w') {B : Nat} (hB : B ≤ w.heap.size) (hM : ∀ k i, k < B → ¬ M k i) : Go.RowKit.Below B w w' :=
  ⟨h.os, h.tape, h.output, h.size, fun k hk => h.other k (Nat.lt_of_lt_of_le hk hB) (fun i => hM k i hk)⟩
theorem cell (h : Chg M w w') {b o : Nat} {v : Value} (hc : w.cell? ⟨b, o, none⟩ = some v) (hM : ¬ M b o) : w'.cell? ⟨b, o, none⟩ = some v := by
  unfold World.cell? at hc ⊢
  split at hc
  · rename_i c e f hb
    obtain ⟨c', h1, _, h3⟩ := h.cells b ⟨o, hM⟩ c e f hb
    simp only [h1]
    simpa [h3 o hM] using hc
  · cases hc
theorem frozen (h : Chg M w w') {b o : Nat} {v : Value} (hc : w.cell? ⟨b, o, none⟩ = some v) (hM : ∃ i, ¬ M b i) (j : Nat) : w'.frozen? ⟨b, j, none⟩ = w.frozen? ⟨b, j, none⟩ := by
  unfold World.cell? at hc
  split at hc
  · rename_i c e f hb
    obtain ⟨c', h1, _, h3⟩ := h.cells b hM c e f hb
    have hb' : w.heap[b]? = some (.cells c e f) := hb
    simp only [World.frozen?, h1, hb']
  · cases hc
end Chg
end Kit
end Go.Proofs.YtmcbnhkcjhlbaaaGreatDoor
end
section
namespace Go.Proofs.YtmcbnhkcjhlbaaaGreatDoor
namespace Kit
section
variable {P : Program} {md : Region.Mode} {Q : Exit → Act → World → Prop} {S : World → Prop}

def heads (P : Program) (S : World → Prop) (R : Act → Prop) (l : List Oper) : List Nat → Act → Prop
  | [], a => R a
  | i :: rest, a => ∃ o, l[i]? = some o ∧ ∃ v, YieldsIf P l.toArray S o v a ∧ heads P S R l rest (a.put o.dst v)

def chain (P : Program) (Q : Exit → Act → World → Prop) (S : World → Prop) (l : List Oper) : List Nat → Act → World → Prop
  | [], a, w => Q .normal a w
  | i :: rest, a, w => ∃ o, l[i]? = some o ∧ o.guard = none ∧ ∀ K : Act → World → Prop, (∀ a w, S w → chain P Q S l rest a w → K a w) → o.wp P a w K Q

def chainOk (md : Region.Mode) (ops : Array Oper) : List Nat → Array Bool → Bool
  | [], listed => (Region.ready md ops listed).isEmpty
  | i :: rest, listed => decide (Region.ready md ops listed = [i]) && chainOk md ops rest (listed.setIfInBounds i true)
def headsOk (md : Region.Mode) (ops : Array Oper) (tail : List Nat) : List Nat → Array Bool → Bool
  | [], listed => chainOk md ops tail listed
  | i :: rest, listed => Region.free md ops listed i && (Region.ready md ops listed).contains i && headsOk md ops tail rest (listed.setIfInBounds i true)

theorem any_of_chain {l : List Oper} : ∀ (tail : List Nat) (listed : Array Bool) (a : Act) (w : World), chainOk md l.toArray tail listed = true → chain P Q S l tail a w → wpAnyH P md l.toArray Q S tail.length listed a w
  | [], listed, a, w, hB, h => by
    simp only [chainOk, List.isEmpty_iff] at hB
    exact wpAnyH_done hB h 0
  | i :: rest, listed, a, w, hB, h => by
    simp only [chainOk, Bool.and_eq_true, decide_eq_true_eq] at hB
    obtain ⟨o, ho, hg, hw⟩ := h
    refine wpAnyH_all hB.1 (by simp) ?_
    intro j hj
    have hji : j = i := by simpa using hj
    subst hji
    have ho' : l.toArray[j]? = some o := by simpa using ho
    unfold wpOp
    rw [ho']
    show if Region.wanted o (yielded l.toArray a.tmps) = true then _ else _
    rw [if_pos (by simp [Region.wanted, hg])]
    exact .inl (hw _ fun a w hS hc => ⟨hS, any_of_chain rest _ a w hB.2 hc⟩)

theorem any_of_heads {l : List Oper} {tail : List Nat} {w : World} (hsel : Region.noSelect l.toArray = true) (hQ : ∀ c a d v w, Q (.panic c) (a.put d v) w → Q (.panic c) a w) (hS : S w) :
    ∀ (idx : List Nat) (listed : Array Bool) (a : Act), headsOk md l.toArray tail idx listed = true → heads P S (fun a => chain P Q S l tail a w) l idx a → wpAnyH P md l.toArray Q S (idx.length + tail.length) listed a w
  | [], listed, a, hB, h => by
    rw [List.length_nil, Nat.zero_add]
    exact any_of_chain tail listed a w hB h
  | i :: rest, listed, a, hB, h => by
    simp only [headsOk, Bool.and_eq_true] at hB
    obtain ⟨o, ho, v, hy, hr⟩ := h
    rw [List.length_cons, show rest.length + 1 + tail.length = rest.length + tail.length + 1 by omega]
    exact wpAnyH_take (by simpa using ho) hsel hB.1.1 hB.1.2 (fun c a w => hQ c a _ v w) hy hS (any_of_heads hsel hQ hS rest _ _ hB.2 hr)

theorem wp_region_heads {id : Nat} {a : Act} {w : World} {l : List Oper} (S : World → Prop) (idx tail : List Nat) (hm : P.follows .mixedOrders = true) (hsel : Region.noSelect l.toArray = true) (hn : l.length = idx.length + tail.length)
    (hB : headsOk .any l.toArray tail idx (Array.replicate l.length false) = true) (hS : S w.drew)
    (h : heads P S (fun a => chain P (NoPanic Q) S l tail a w.drew) l idx a) : (Code.region id l.toArray true).wp P Q a w := by
  refine wp_region_noPanic (wp_region_held (S := S) hm ?_)
  have H := any_of_heads hsel (fun _ _ _ _ _ h => h) hS idx _ _ hB h
  rw [← hn] at H
  have e : l.toArray.size = l.length := List.size_toArray
  rw [e]
  exact H
theorem chain_done {l : List Oper} {a : Act} {w : World} (h : Q .normal a w) : chain P (NoPanic Q) S l [] a w := h
theorem heads_nil {R : Act → Prop} {l : List Oper} {a : Act} (h : R a) : heads P S R l [] a := h
theorem heads_cons {R : Act → Prop} {l : List Oper} {a : Act} {i : Nat} {rest : List Nat} {o : Oper} {v : Value} (ho : l[i]? = some o) (hy : YieldsIf P l.toArray S o v a) (h : heads P S R l rest (a.put o.dst v)) : heads P S R l (i :: rest) a := ⟨o, ho, v, hy, h⟩
theorem chain_cons {l : List Oper} {a : Act} {w : World} {i : Nat} {rest : List Nat} {o : Oper} (ho : l[i]? = some o) (hg : o.guard = none) (h : ∀ K : Act → World → Prop, (∀ a w, S w → chain P Q S l rest a w → K a w) → o.wp P a w K Q) : chain P Q S l (i :: rest) a w := ⟨o, ho, hg, h⟩
end
end Kit
namespace Kit
section
variable {P : Program} {md : Region.Mode} {Q : Exit → Act → World → Prop} {S : World → Prop}
end
end Kit
namespace Kit
section
variable {P : Program} {ops : Array Oper} {md : Region.Mode} {Q : Exit → Act → World → Prop} {S : World → Prop} {L : Nat}

def anyS (P : Program) (md : Region.Mode) (ops : Array Oper) (Q : Exit → Act → World → Prop) (S : World → Prop) (L : Nat) : Nat → Array Bool → Act → World → Prop
  | 0, listed, a, w => Region.ready md ops listed = [] ∧ Q .normal a w
  | fuel + 1, listed, a, w =>
    (Region.ready md ops listed = [] → Q .normal a w) ∧
    ∀ i ∈ Region.ready md ops listed, wpOp P ops Q i (fun a' w' => (i ≠ L → S w') ∧ anyS P md ops Q S L fuel (listed.setIfInBounds i true) a' w') a w

theorem any_of_anyS : ∀ (fuel : Nat) (listed : Array Bool) (a : Act) (w : World), anyS P md ops Q S L fuel listed a w → wpAny P md ops Q fuel listed a w
  | 0, _, _, _, h => h
  | fuel + 1, _, _, _, h => ⟨h.1, fun i hi => wpOp_mono (fun a' w' h' => any_of_anyS fuel _ a' w' h'.2) (h.2 i hi)⟩

theorem anyS_first {i : Nat} {oi : Oper} {v : Value} (hi : ops[i]? = some oi) (hsel : ∀ (j : Nat) (o : Oper) cs b, ops[j]? = some o → o.op ≠ .select cs b)
    (hQ : ∀ c a w, Q (.panic c) (a.put oi.dst v) w → Q (.panic c) a w) (hL : Region.waitsFor md ops L i = true) (hiL : i ≠ L) :
    ∀ (fuel : Nat) (listed : Array Bool) (a : Act) (w : World),
      (∀ (j : Nat) (oj : Oper), ops[j]? = some oj → j ≠ i → listed.getD j true = false → (∀ e ∈ oj.after, Region.binds md e = true → e.on ≠ i) → oi.apart ops oj = true) →
      i ∈ Region.ready md ops listed → YieldsIf P ops S oi v a → S w →
      anyS P md ops Q S L fuel (listed.setIfInBounds i true) (a.put oi.dst v) w → anyS P md ops Q S L (fuel + 1) listed a w := by
  intro fuel
  induction fuel with
  | zero =>
    intro listed a w _ hr hy hS H
    refine ⟨fun h => (by rw [h] at hr; cases hr), fun j hj => ?_⟩
    by_cases hji : j = i
    · subst hji; exact hy.wpOp hi hS ⟨fun _ => hS, H⟩
    · have := ready_mono hj hji
      rw [H.1] at this
      cases this
  | succ fuel ih =>
    intro listed a w hfree hr hy hS H
    refine ⟨fun h => (by rw [h] at hr; cases hr), fun j hj => ?_⟩
    by_cases hji : j = i
    · subst hji; exact hy.wpOp hi hS ⟨fun _ => hS, H⟩
    · have h1 := H.2 j (ready_mono hj hji)
      obtain ⟨hjun, oj, hoj, hall⟩ := mem_ready.1 hj
      have hnot : ∀ e ∈ oj.after, Region.binds md e = true → e.on ≠ i := fun e he hb heq => by
        have h1 := hall e he hb
        have h0 := (mem_ready.1 hr).1
        rw [heq] at h1
        rcases Nat.lt_or_ge i listed.size with h' | h'
        · simp [h'] at h0 h1; rw [h0] at h1; cases h1
        · simp [Array.getElem?_eq_none h'] at h1
      have hjL : j ≠ L := by
        rintro rfl
        obtain ⟨o', ho', e, he, hb, hon⟩ := Region.waitsFor_spec hL
        rw [hoj] at ho'
        cases ho'
        exact hnot e he hb hon
      have h2 := wpOp_putIf hoj (hfree j oj hoj hji hjun hnot) (fun cs b => hsel i oi cs b hi) (fun cs b => hsel j oj cs b hoj) hQ hy h1
      have hfree' : ∀ (k : Nat) (ok : Oper), ops[k]? = some ok → k ≠ i → (listed.setIfInBounds j true).getD k true = false →
          (∀ e ∈ ok.after, Region.binds md e = true → e.on ≠ i) → oi.apart ops ok = true := fun k ok hk hki hun hno => by
        refine hfree k ok hk hki ?_ hno
        by_cases hjk : j = k
        · subst hjk; exact hjun
        · rw [getD_set_ne true hjk] at hun; exact hun
      refine wpOp_mono (fun a' w' h3 => ⟨h3.2.1, ih (listed.setIfInBounds j true) a' w' hfree' (ready_mono hr (Ne.symm hji)) h3.1 (h3.2.1 hjL) ?_⟩) h2
      rw [Array.setIfInBounds_comm _ _ hji]
      exact h3.2.2

def chainL (P : Program) (Q : Exit → Act → World → Prop) (S : World → Prop) (L : Nat) (l : List Oper) : List Nat → Act → World → Prop
  | [], a, w => Q .normal a w
  | i :: rest, a, w => ∃ o, l[i]? = some o ∧ o.guard = none ∧ ∀ K : Act → World → Prop, (∀ a w, (i ≠ L → S w) → chainL P Q S L l rest a w → K a w) → o.wp P a w K Q
def headsLOk (md : Region.Mode) (ops : Array Oper) (L : Nat) (tail : List Nat) : List Nat → Array Bool → Bool
  | [], listed => chainOk md ops tail listed
  | i :: rest, listed => Region.free md ops listed i && (Region.ready md ops listed).contains i && Region.waitsFor md ops L i && decide (i ≠ L) && headsLOk md ops L tail rest (listed.setIfInBounds i true)

theorem anyS_of_chain {l : List Oper} : ∀ (tail : List Nat) (listed : Array Bool) (a : Act) (w : World), chainOk md l.toArray tail listed = true → chainL P Q S L l tail a w → anyS P md l.toArray Q S L tail.length listed a w
  | [], _, _, _, hB, h => by
    simp only [chainOk, List.isEmpty_iff] at hB
    exact ⟨hB, h⟩
  | i :: rest, listed, a, w, hB, h => by
    simp only [chainOk, Bool.and_eq_true, decide_eq_true_eq] at hB
    obtain ⟨o, ho, hg, hw⟩ := h
    refine ⟨fun h0 => (by rw [hB.1] at h0; cases h0), fun j hj => ?_⟩
    rw [hB.1] at hj
    have hji : j = i := by simpa using hj
    subst hji
    have ho' : l.toArray[j]? = some o := by simpa using ho
    unfold wpOp
    rw [ho']
    show if Region.wanted o (yielded l.toArray a.tmps) = true then _ else _
    rw [if_pos (by simp [Region.wanted, hg])]
    exact .inl (hw _ fun a w hS hc => ⟨hS, anyS_of_chain rest _ a w hB.2 hc⟩)

theorem anyS_of_heads {l : List Oper} {tail : List Nat} {w : World} (hsel : Region.noSelect l.toArray = true) (hQ : ∀ c a d v w, Q (.panic c) (a.put d v) w → Q (.panic c) a w) (hS : S w) :
    ∀ (idx : List Nat) (listed : Array Bool) (a : Act), headsLOk md l.toArray L tail idx listed = true → heads P S (fun a => chainL P Q S L l tail a w) l idx a → anyS P md l.toArray Q S L (idx.length + tail.length) listed a w
  | [], listed, a, hB, h => by
    rw [List.length_nil, Nat.zero_add]
    exact anyS_of_chain tail listed a w hB h
  | i :: rest, listed, a, hB, h => by
    simp only [headsLOk, Bool.and_eq_true, decide_eq_true_eq] at hB
    obtain ⟨o, ho, v, hy, hr⟩ := h
    rw [List.length_cons, show rest.length + 1 + tail.length = rest.length + tail.length + 1 by omega]
    have ho' : l.toArray[i]? = some o := by simpa using ho
    exact anyS_first ho' (Region.noSelect_spec hsel) (fun c a w => hQ c a _ v w) hB.1.1.2 hB.1.2 _ _ _ _ (Region.free_spec ho' hB.1.1.1.1) (by simpa using hB.1.1.1.2) hy hS (anyS_of_heads hsel hQ hS rest _ _ hB.2 hr)

theorem chainL_cons {l : List Oper} {a : Act} {w : World} {i : Nat} {rest : List Nat} {o : Oper} (ho : l[i]? = some o) (hg : o.guard = none) (h : ∀ K : Act → World → Prop, (∀ a w, (i ≠ L → S w) → chainL P Q S L l rest a w → K a w) → o.wp P a w K Q) : chainL P Q S L l (i :: rest) a w := ⟨o, ho, hg, h⟩
theorem chainL_done {l : List Oper} {a : Act} {w : World} (h : Q .normal a w) : chainL P (NoPanic Q) S L l [] a w := h

end
end Kit
end Go.Proofs.YtmcbnhkcjhlbaaaGreatDoor
end
section
namespace Go.Proofs.YtmcbnhkcjhlbaaaGreatDoor
namespace Sha
open Go.RowKit (Hid)

def v (x : BitVec 32) : Int := (x.toNat : Int)
theorem v_nonneg (x : BitVec 32) : 0 ≤ v x := Int.natCast_nonneg _
theorem wrap32 (n : Int) : IntKind.u32.wrap n = n % 4294967296 := IntKind.wrap_u32 n
theorem ofInt_v (x : BitVec 32) : BitVec.ofInt 32 (v x) = x := by
  apply BitVec.eq_of_toNat_eq
  unfold v
  rw [BitVec.toNat_ofInt]
  have := x.isLt
  omega
theorem add_v (x y : BitVec 32) : IntKind.u32.wrap (v x + v y) = v (x + y) := by
  rw [wrap32]; unfold v; rw [BitVec.toNat_add]; omega
theorem xor_v (x y : BitVec 32) : bits .xor .u32 (v x) (v y) = v (x ^^^ y) := by
  show IntKind.u32.wrap ((BitVec.ofInt 32 (v x) ^^^ BitVec.ofInt 32 (v y)).toNat : Int) = _
  rw [ofInt_v, ofInt_v, wrap32]; unfold v; have := (x ^^^ y).isLt; omega
theorem or_v (x y : BitVec 32) : bits .or .u32 (v x) (v y) = v (x ||| y) := by
  show IntKind.u32.wrap ((BitVec.ofInt 32 (v x) ||| BitVec.ofInt 32 (v y)).toNat : Int) = _
  rw [ofInt_v, ofInt_v, wrap32]; unfold v; have := (x ||| y).isLt; omega
theorem and_v (x y : BitVec 32) : bits .and .u32 (v x) (v y) = v (x &&& y) := by
  show IntKind.u32.wrap ((BitVec.ofInt 32 (v x) &&& BitVec.ofInt 32 (v y)).toNat : Int) = _
  rw [ofInt_v, ofInt_v, wrap32]; unfold v; have := (x &&& y).isLt; omega
theorem shr_v (x : BitVec 32) (k : Nat) : v x / ((2 ^ k : Nat) : Int) = v (x >>> k) := by
  unfold v; rw [BitVec.toNat_ushiftRight, Nat.shiftRight_eq_div_pow, Int.natCast_ediv]
theorem shl_v (x : BitVec 32) (k : Nat) : IntKind.u32.wrap (v x * ((2 ^ k : Nat) : Int)) = v (x <<< k) := by
  rw [wrap32]; unfold v; rw [BitVec.toNat_shiftLeft, Nat.shiftLeft_eq, Int.natCast_emod, Int.natCast_mul]; rfl
theorem ofNat_v (n : Nat) (h : n < 4294967296) : v (BitVec.ofNat 32 n) = (n : Int) := by
  unfold v; rw [BitVec.toNat_ofNat]; omega
theorem byte_shl (n k c : Nat) (h : n < 256) (hc : 2 ^ k = c) (hk : k ≤ 24) : (n : Int) * (c : Int) = v (BitVec.ofNat 32 n <<< k) := by
  unfold v
  rw [BitVec.toNat_shiftLeft, BitVec.toNat_ofNat, Nat.shiftLeft_eq, Nat.mod_eq_of_lt (a := n) (by omega), hc]
  have h1 : c ≤ 16777216 := by rw [← hc]; exact Nat.pow_le_pow_right (by omega) hk
  have h2 : n * c ≤ 255 * 16777216 := Nat.mul_le_mul (by omega) h1
  rw [Nat.mod_eq_of_lt (by omega)]
  exact (Int.natCast_mul n c).symm
/-! ### The functions of the standard -/
def rot (x : BitVec 32) (k : Nat) : BitVec 32 := x >>> k ||| x <<< (32 - k)
def kList : List Nat := [
  0x428a2f98, 0x71374491, 0xb5c0fbcf, 0xe9b5dba5, 0x3956c25b, 0x59f111f1, 0x923f82a4, 0xab1c5ed5,
  0xd807aa98, 0x12835b01, 0x243185be, 0x550c7dc3, 0x72be5d74, 0x80deb1fe, 0x9bdc06a7, 0xc19bf174,
  0xe49b69c1, 0xefbe4786, 0x0fc19dc6, 0x240ca1cc, 0x2de92c6f, 0x4a7484aa, 0x5cb0a9dc, 0x76f988da,
  0x983e5152, 0xa831c66d, 0xb00327c8, 0xbf597fc7, 0xc6e00bf3, 0xd5a79147, 0x06ca6351, 0x14292967,
  0x27b70a85, 0x2e1b2138, 0x4d2c6dfc, 0x53380d13, 0x650a7354, 0x766a0abb, 0x81c2c92e, 0x92722c85,
  0xa2bfe8a1, 0xa81a664b, 0xc24b8b70, 0xc76c51a3, 0xd192e819, 0xd6990624, 0xf40e3585, 0x106aa070,
  0x19a4c116, 0x1e376c08, 0x2748774c, 0x34b0bcb5, 0x391c0cb3, 0x4ed8aa4a, 0x5b9cca4f, 0x682e6ff3,
  0x748f82ee, 0x78a5636f, 0x84c87814, 0x8cc70208, 0x90befffa, 0xa4506ceb, 0xbef9a3f7, 0xc67178f2]
theorem kList_length : kList.length = 64 := by decide
theorem kList_lt : ∀ t, t < 64 → kList.getD t 0 < 4294967296 := by decide
def kon (t : Nat) : BitVec 32 := BitVec.ofNat 32 (kList.getD t 0)
def sig0 (y : BitVec 32) : BitVec 32 := rot y 7 ^^^ rot y 18 ^^^ y >>> 3
def sig1 (x : BitVec 32) : BitVec 32 := rot x 17 ^^^ rot x 19 ^^^ x >>> 10
def Sig1 (e : BitVec 32) : BitVec 32 := rot e 6 ^^^ rot e 11 ^^^ rot e 25
def Sig0 (a : BitVec 32) : BitVec 32 := rot a 2 ^^^ rot a 13 ^^^ rot a 22
def ch (e f g : BitVec 32) : BitVec 32 := (e &&& f) ^^^ (~~~ e &&& g)
def maj (a b c : BitVec 32) : BitVec 32 := (a &&& b) ^^^ (a &&& c) ^^^ (b &&& c)
def word (b0 b1 b2 b3 : Nat) : BitVec 32 := ((BitVec.ofNat 32 b0 <<< 24 ||| BitVec.ofNat 32 b1 <<< 16) ||| BitVec.ofNat 32 b2 <<< 8) ||| BitVec.ofNat 32 b3
theorem word_bits (z0 z1 z2 z3 : Nat) (h0 : z0 < 256) (h1 : z1 < 256) (h2 : z2 < 256) (h3 : z3 < 256) :
    bits .or .u32 (bits .or .u32 (bits .or .u32 ((z0 : Int) * (16777216 : Int)) ((z1 : Int) * (65536 : Int))) ((z2 : Int) * (256 : Int))) (z3 : Int) = v (word z0 z1 z2 z3) := by
  have s0 : (z0 : Int) * (16777216 : Int) = v (BitVec.ofNat 32 z0 <<< 24) := byte_shl z0 24 16777216 h0 rfl (by omega)
  have s1 : (z1 : Int) * (65536 : Int) = v (BitVec.ofNat 32 z1 <<< 16) := byte_shl z1 16 65536 h1 rfl (by omega)
  have s2 : (z2 : Int) * (256 : Int) = v (BitVec.ofNat 32 z2 <<< 8) := byte_shl z2 8 256 h2 rfl (by omega)
  rw [s0, s1, s2, or_v, or_v, ← ofNat_v z3 (by omega), or_v]
  rfl
def wordAt (b : List Nat) (t : Nat) : BitVec 32 := word (b.getD (4 * t) 0) (b.getD (4 * t + 1) 0) (b.getD (4 * t + 2) 0) (b.getD (4 * t + 3) 0)
def next (b : List Nat) (l : List (BitVec 32)) (t : Nat) : BitVec 32 :=
  if t < 16 then wordAt b t else sig1 (l.getD (t - 2) 0) + l.getD (t - 7) 0 + sig0 (l.getD (t - 15) 0) + l.getD (t - 16) 0
def sched (b : List Nat) : Nat → List (BitVec 32)
  | 0 => []
  | n + 1 => sched b n ++ [next b (sched b n) n]
theorem sched_length (b : List Nat) : ∀ n, (sched b n).length = n
  | 0 => rfl
  | n + 1 => by rw [sched, List.length_append, sched_length b n]; rfl
def wAt (b : List Nat) (t : Nat) : BitVec 32 := (sched b 64).getD t 0
theorem sched_getD (b : List Nat) (t n : Nat) (h : t < n) : (sched b n).getD t 0 = next b (sched b t) t := by
  induction n with
  | zero => omega
  | succ n ih =>
    rw [sched, List.getD_eq_getElem?_getD]
    by_cases e : t < n
    · rw [List.getElem?_append_left (by rw [sched_length]; exact e), ← List.getD_eq_getElem?_getD, ih e]
    · have : t = n := by omega
      subst this
      rw [List.getElem?_append_right (by rw [sched_length]; exact Nat.le_refl _), sched_length]; simp

structure St where
  a : BitVec 32
  b : BitVec 32
  c : BitVec 32
  d : BitVec 32
  e : BitVec 32
  f : BitVec 32
  g : BitVec 32
  h : BitVec 32
def St.list (s : St) : List (BitVec 32) := [s.a, s.b, s.c, s.d, s.e, s.f, s.g, s.h]
def t1 (s : St) (k w : BitVec 32) : BitVec 32 := s.h + Sig1 s.e + ch s.e s.f s.g + k + w
def t2 (s : St) : BitVec 32 := Sig0 s.a + maj s.a s.b s.c
def rnd (s : St) (k w : BitVec 32) : St := ⟨t1 s k w + t2 s, s.a, s.b, s.c, s.d + t1 s k w, s.e, s.f, s.g⟩
def rounds (b : List Nat) (s : St) : Nat → St
  | 0 => s
  | n + 1 => rnd (rounds b s n) (kon n) (wAt b n)
def addSt (s t : St) : St := ⟨s.a + t.a, s.b + t.b, s.c + t.c, s.d + t.d, s.e + t.e, s.f + t.f, s.g + t.g, s.h + t.h⟩
def comp (s : St) (b : List Nat) : St := addSt s (rounds b s 64)
def initL : List Nat := [0x6a09e667, 0xbb67ae85, 0x3c6ef372, 0xa54ff53a, 0x510e527f, 0x9b05688c, 0x1f83d9ab, 0x5be0cd19]
def init : St := ⟨BitVec.ofNat 32 0x6a09e667, BitVec.ofNat 32 0xbb67ae85, BitVec.ofNat 32 0x3c6ef372, BitVec.ofNat 32 0xa54ff53a, BitVec.ofNat 32 0x510e527f, BitVec.ofNat 32 0x9b05688c, BitVec.ofNat 32 0x1f83d9ab, BitVec.ofNat 32 0x5be0cd19⟩
def hs (ps : List Nat) : Nat → St
  | 0 => init
  | k + 1 => if (k + 1) % 64 = 0 then comp (hs ps k) ((ps.take (k + 1)).drop (k + 1 - 64)) else hs ps k
theorem hs_stay (ps : List Nat) (k : Nat) : ∀ j, k % 64 + j < 64 → hs ps (k + j) = hs ps k
  | 0, _ => rfl
  | j + 1, h => by
    have ih := hs_stay ps k j (by omega)
    rw [← Nat.add_assoc, hs, if_neg (by omega), ih]
theorem hs_block (ps : List Nat) (k : Nat) (h : k % 64 = 0) : hs ps (k + 64) = comp (hs ps k) ((ps.take (k + 64)).drop k) := by
  have e : hs ps (k + 63) = hs ps k := hs_stay ps k 63 (by omega)
  show hs ps (k + 63 + 1) = _
  rw [hs, if_pos (by omega), e]
  congr 2
theorem hs_take (ps : List Nat) (n : Nat) : ∀ k, k ≤ n → hs (ps.take n) k = hs ps k
  | 0, _ => rfl
  | k + 1, h => by rw [hs, hs, hs_take ps n k (by omega), List.take_take, Nat.min_eq_left h]
theorem hs_append (ps qs : List Nat) (k : Nat) (h : k ≤ ps.length) : hs (ps ++ qs) k = hs ps k := by
  have := hs_take (ps ++ qs) ps.length k h
  rw [List.take_left] at this
  exact this.symm
def bytes4 (x : BitVec 32) : List Nat := [x.toNat / 16777216 % 256, x.toNat / 65536 % 256, x.toNat / 256 % 256, x.toNat % 256]
def digest (s : St) : List Nat := s.list.flatMap bytes4
theorem bytes4_lt (x : BitVec 32) : ∀ y ∈ bytes4 x, y < 256 := by
  intro y hy
  simp only [bytes4, List.mem_cons, List.not_mem_nil, or_false] at hy
  omega
theorem digest_length (s : St) : (digest s).length = 32 := rfl
theorem digest_lt (s : St) : ∀ y ∈ digest s, y < 256 := by
  intro y hy
  unfold digest at hy
  rw [List.mem_flatMap] at hy
  obtain ⟨x, _, hx⟩ := hy
  exact bytes4_lt x y hx
def be8 (n : Nat) : List Nat := (List.range 8).map fun i => n / 256 ^ (7 - i) % 256
def zeros (n : Nat) : Nat := (119 - n % 64) % 64
def pad (ps : List Nat) : List Nat := ps ++ 128 :: (List.replicate (zeros ps.length) 0 ++ be8 (8 * ps.length))
theorem be8_length (n : Nat) : (be8 n).length = 8 := by simp [be8]
theorem be8_lt (n : Nat) : ∀ y ∈ be8 n, y < 256 := by
  intro y hy
  simp only [be8, List.mem_map] at hy
  obtain ⟨i, _, rfl⟩ := hy
  exact Nat.mod_lt _ (by decide)
def sum (ps : List Nat) : List Nat := digest (hs (pad ps) (pad ps).length)
theorem sum_length (ps : List Nat) : (sum ps).length = 32 := digest_length _
theorem sum_lt (ps : List Nat) : ∀ y ∈ sum ps, y < 256 := digest_lt _
/-! ### Rules for walks, under a hidden premise -/
section
variable (Q : Prop)
theorem f_add : ∀ x y : BitVec 32, Hid Q → IntKind.u32.wrap (v x + v y) = v (x + y) := fun x y _ => add_v x y
theorem f_xor : ∀ x y : BitVec 32, Hid Q → bits .xor .u32 (v x) (v y) = v (x ^^^ y) := fun x y _ => xor_v x y
theorem f_or : ∀ x y : BitVec 32, Hid Q → bits .or .u32 (v x) (v y) = v (x ||| y) := fun x y _ => or_v x y
theorem f_and : ∀ x y : BitVec 32, Hid Q → bits .and .u32 (v x) (v y) = v (x &&& y) := fun x y _ => and_v x y
theorem f_not : ∀ x : BitVec 32, Hid Q → bits .xor .u32 (if IntKind.u32.signed = true then -1 else IntKind.u32.max) (v x) = v (~~~ x) := fun x _ => by
  have e : (if IntKind.u32.signed = true then (-1 : Int) else IntKind.u32.max) = v (BitVec.allOnes 32) := by decide
  rw [e, xor_v]
  exact congrArg v (by rw [BitVec.xor_comm, BitVec.xor_allOnes])
theorem f_shr10 : ∀ x : BitVec 32, Hid Q → v x / (1024 : Int) = v (x >>> 10) := fun x _ => shr_v x 10
theorem f_shr3 : ∀ x : BitVec 32, Hid Q → v x / (8 : Int) = v (x >>> 3) := fun x _ => shr_v x 3
theorem f_nonneg : ∀ x : BitVec 32, Hid Q → 0 ≤ v x := fun x _ => v_nonneg x
theorem f_shr (k : Nat) : ∀ x : BitVec 32, Hid Q → v x / 2 ^ k = v (x >>> k) := fun x _ => by
  have := shr_v x k
  rw [Int.natCast_pow] at this
  exact this
theorem f_shl (k : Nat) : ∀ x : BitVec 32, Hid Q → IntKind.u32.wrap (v x * 2 ^ k) = v (x <<< k) := fun x _ => by
  have := shl_v x k
  rw [Int.natCast_pow] at this
  exact this
end
end Sha
end Go.Proofs.YtmcbnhkcjhlbaaaGreatDoor
end
section
namespace Go.Proofs.YtmcbnhkcjhlbaaaGreatDoor
open Go.RowKit
open Kit (Chg)
theorem ne_addr {b i j : Nat} (h : i ≠ j) : (⟨b, i, none⟩ : Addr) ≠ ⟨b, j, none⟩ := by
  intro e; cases e; exact h rfl
theorem set_same {w : World} {b i : Nat} {v x : Value} (h : w.cell? ⟨b, i, none⟩ = some x) : (w.setCell ⟨b, i, none⟩ v).cell? ⟨b, i, none⟩ = some v := World.cell?_setCell_same _ _ _ h
theorem set_other {w : World} {b i j : Nat} {v x : Value} (h : w.cell? ⟨b, j, none⟩ = some x) (hne : i ≠ j) : (w.setCell ⟨b, i, none⟩ v).cell? ⟨b, j, none⟩ = some x :=
  (World.cell?_setCell_other _ _ _ _ (ne_addr hne)).trans h
theorem wp_over {P : Program} {c : Code} {Q : Exit → Act → World → Prop} {a : Act} {w : World} (I : World → Prop) (h0 : I w) (h : ∀ w', I w' → c.wp P Q a w') : c.wp P Q a w := h w h0
def Drawn (w1 wr : World) : Prop := ∃ n, wr = w1.drewN n
theorem Drawn.refl (w : World) : Drawn w w := ⟨0, rfl⟩
theorem Drawn.drewN {w1 wr : World} (h : Drawn w1 wr) (n : Nat) : Drawn w1 (wr.drewN n) := by
  obtain ⟨m, rfl⟩ := h
  exact ⟨m + n, World.drewN_drewN _ _ _⟩
theorem ownsRow_keep {w w' : World} {base e size n : Nat} {v : Value} {xs : List Value} {M : Nat → Nat → Prop} (h : w.ownsRow base e size v n xs) (hc : Chg M w w') (hM : ∀ g, base ≤ g → ∀ i, ¬ M g i) : w'.ownsRow base e size v n xs := by
  refine ⟨h.1, ?_⟩
  rcases h.2 with hn | ⟨g, cap, cur, rfl, hb, hg, r⟩
  · exact .inl hn
  · exact .inr ⟨g, cap, cur, rfl, hb, (hc.other g (Array.getElem?_eq_some_iff.1 hg).1 (hM g hb)).trans hg, r⟩
def BytesAt (w : World) (a : Option Addr) (bs : List Nat) : Prop :=
  (bs = [] ∨ ∃ b o, a = some ⟨b, o, none⟩ ∧ ∀ i, i < bs.length → w.cell? ⟨b, o + i, none⟩ = some (.int .u8 ((bs.getD i 0 : Nat) : Int))) ∧ (∀ x ∈ bs, x < 256) ∧ bs.length ≤ maxLen
theorem BytesAt.some {w : World} {a : Option Addr} {bs : List Nat} (h : BytesAt w a bs) (hl : 0 < bs.length) : ∃ b o, a = Option.some ⟨b, o, none⟩ ∧ ∀ i, i < bs.length → w.cell? ⟨b, o + i, none⟩ = Option.some (.int .u8 ((bs.getD i 0 : Nat) : Int)) := by
  rcases h.1 with e | e
  · subst e; simp at hl
  · exact e
theorem BytesAt.getD_lt {w : World} {a : Option Addr} {bs : List Nat} (h : BytesAt w a bs) (k : Nat) (hk : k < bs.length) : bs.getD k 0 < 256 := by
  rw [List.getD_eq_getElem?_getD, List.getElem?_eq_getElem hk]; exact h.2.1 _ (List.getElem_mem hk)
theorem BytesAt.later {w w' : World} {a : Option Addr} {bs : List Nat} (h : BytesAt w a bs) (hb : Below w.heap.size w w') : BytesAt w' a bs := by
  refine ⟨?_, h.2.1, h.2.2⟩
  rcases h.1 with e | ⟨b, o, e, hc⟩
  · exact .inl e
  · exact .inr ⟨b, o, e, fun i hi => (hb.cell (p := ⟨b, o + i, none⟩) (World.block_lt_of_cell? w _ (hc i hi))).trans (hc i hi)⟩
theorem ownsRow_keepM {w w' : World} {base e size n : Nat} {v : Value} {xs : List Value} {M : Nat → Nat → Prop} (h : w.ownsRow base e size v n xs) (hc : Chg M w w') (hM : ∀ g, v.ownBlock = some g → ∀ i, ¬ M g i) : w'.ownsRow base e size v n xs := by
  refine ⟨h.1, ?_⟩
  rcases h.2 with hn | ⟨g, cap, cur, rfl, hb, hg, r⟩
  · exact .inl hn
  · exact .inr ⟨g, cap, cur, rfl, hb, (hc.other g (Array.getElem?_eq_some_iff.1 hg).1 (hM g rfl)).trans hg, r⟩
theorem bytesAt_chg {w w' : World} {a : Option Addr} {bs : List Nat} {M : Nat → Nat → Prop} (h : BytesAt w a bs) (hc : Chg M w w') (hM : ∀ ad, a = some ad → ∀ i, ¬ M ad.block i) : BytesAt w' a bs := by
  refine ⟨?_, h.2⟩
  rcases h.1 with e | ⟨b, o, e, hcell⟩
  · exact .inl e
  · exact .inr ⟨b, o, e, fun i hi => hc.cell (hcell i hi) (hM _ e _)⟩
theorem not_row_of {W : World} {base e size n k : Nat} {v : Value} {xs : List Value} {c : Array Value} {T : TypeId} {f : Nat × Nat} (hr : W.ownsRow base e size v n xs) (hk : W.heap[k]? = some (.cells c T f)) (hT : T ≠ e) : some k ≠ v.ownBlock := by
  rcases hr.2 with ⟨rfl, _⟩ | ⟨g, cap, cur, rfl, _, hgb, _⟩
  · simp [Value.ownBlock]
  · intro e'
    obtain rfl : k = g := by simpa [Value.ownBlock] using e'
    rw [hgb] at hk
    cases hk
    exact hT rfl
def natV (zs : List Nat) : List Value := zs.map fun (z : Nat) => Value.int .i64 (z : Int)
theorem ownsRow_base {w : World} {base base' e size n : Nat} {v : Value} {xs : List Value} (h : w.ownsRow base e size v n xs) (hb : base' ≤ base) : w.ownsRow base' e size v n xs := by
  refine ⟨h.1, ?_⟩
  rcases h.2 with hn | ⟨g, cap, cur, rfl, hg, r⟩
  · exact .inl hn
  · exact .inr ⟨g, cap, cur, rfl, Nat.le_trans hb hg, r⟩
def SrcAt (w : World) (a : Option Addr) (m c size : Nat) (news : List Value) : Prop :=
  (a = none ∧ m = 0 ∧ c = 0 ∧ news = []) ∨ (news.length = m * size ∧ ∃ ad, a = some ad ∧ ∀ j u, news[j]? = some u → w.cell? (ad.add j) = some u)
theorem wpList_append_src {P : Program} {w : World} {ops : Array Oper} {rest : List Oper} {o : Oper} {a : Act} {Q : Exit → Act → World → Prop} (hgd : o.guard = none) (s x : Operand) (t : TypeId)
    (ho : o.op = .call { callee := .builtin .append, args := #[s, x], argTypes := #[t, t] })
    (base : Nat) (e : TypeId) (i : TypeInfo) (z : Value) (size bytes : Nat) (ht : P.underlying t = some (.slice e)) (hi : P.info? e = some i) (hz : i.zero = some z)
    (hsize : i.size = size) (hby : i.bytes = bytes) (hzs : z.cells.size = size) (hsz : 0 < size)
    (v : Value) (n : Nat) (xs : List Value) (hs : a.eval s = v) (hown : w.ownsRow base e size v n xs)
    (ao : Option Addr) (m c : Nat) (news : List Value) (hx : a.eval x = .slice ao m c) (hsrc : SrcAt w ao m c size news) (h1 : ∀ u ∈ news, u.oneCell' = true)
    (h63 : n + m ≤ maxLen) (hbytes : (n + m) * bytes ≤ 140737488355328) (hbase : base ≤ w.heap.size)
    (h : ∀ v' w', w'.ownsRow base e size v' (n + m) (xs ++ news) → w.grownBy w' v.ownBlock → wpList P ops Q rest (a.put o.dst v') w') : wpList P ops Q (o :: rest) a w := by
  rcases hsrc with ⟨rfl, rfl, rfl, rfl⟩ | ⟨hl, ad, rfl, hnews⟩
  · refine wpList_append_own_none hgd s x t ho base e i size ht hi v n xs hs hown hx ?_
    refine h v w ?_ ⟨rfl, rfl, rfl, Nat.le_refl _, fun _ _ _ => rfl⟩
    rw [List.append_nil, Nat.add_zero]; exact hown
  · exact wpList_append_own w hgd s x t ho base e i z size bytes ht hi hz hsize hby hzs hsz v n xs hs hown ad m c news hx hl hnews h1 h63 hbytes hbase (fun v' w' a b _ => h v' w' a b)
def bvals (bs : List Nat) : List Value := bs.map fun (x : Nat) => Value.int .u8 (x : Int)
theorem bvals_length (bs : List Nat) : (bvals bs).length = bs.length := by simp [bvals]
theorem bvals_one (bs : List Nat) : ∀ v ∈ bvals bs, v.oneCell' = true := by
  intro v hv
  simp only [bvals, List.mem_map] at hv
  obtain ⟨x, _, rfl⟩ := hv
  rfl
theorem bvals_append (bs cs : List Nat) : bvals (bs ++ cs) = bvals bs ++ bvals cs := by simp [bvals]
theorem add_none (b o j : Nat) : (⟨b, o, none⟩ : Addr).add j = ⟨b, o + j, none⟩ := by unfold Addr.add; split <;> simp_all
theorem BytesAt.src {w : World} {a : Option Addr} {bs : List Nat} (h : BytesAt w a bs) (c : Nat) (hc : a = none → c = 0) : SrcAt w a bs.length c 1 (bvals bs) := by
  rcases h.1 with e | ⟨b, o, e, hcell⟩
  · subst e
    cases a with
    | none => exact .inl ⟨rfl, rfl, hc rfl, rfl⟩
    | some ad => exact .inr ⟨rfl, ad, rfl, fun j u hu => by simp [bvals] at hu⟩
  · subst e
    refine .inr ⟨by rw [bvals_length, Nat.mul_one], _, rfl, fun j u hu => ?_⟩
    have hj : j < bs.length := by
      have := (List.getElem?_eq_some_iff.1 hu).1
      rwa [bvals_length] at this
    rw [add_none, hcell j hj, ← hu]
    simp [bvals, hj]
theorem bytes_of_own {w : World} {base n : Nat} {v : Value} {bs : List Nat} (h : w.ownsRow base 5 1 v n (bvals bs)) (hb : ∀ x ∈ bs, x < 256) (hm : bs.length ≤ maxLen) :
    n = bs.length ∧ ∃ a cap, v = .slice a bs.length cap ∧ bs.length ≤ cap ∧ cap ≤ maxLen ∧ BytesAt w a bs ∧ (a = none → cap = 0) := by
  obtain ⟨hl, hv⟩ := h
  rw [bvals_length, Nat.mul_one] at hl
  subst hl
  refine ⟨rfl, ?_⟩
  rcases hv with ⟨rfl, h0⟩ | ⟨g, cap, cur, rfl, _, hg, hnc, hcm, hcs, htake⟩
  · have : bs = [] := List.eq_nil_of_length_eq_zero h0
    subst this
    exact ⟨none, 0, rfl, Nat.le_refl _, Nat.zero_le _, ⟨.inl rfl, hb, hm⟩, fun _ => rfl⟩
  · refine ⟨some ⟨g, 0, none⟩, cap, rfl, hnc, hcm, ⟨.inr ⟨g, 0, rfl, fun i hi => ?_⟩, hb, hm⟩, fun e => by cases e⟩
    rw [Nat.zero_add, cell_of_row _ _ _ _ _ _ hg]
    have h1 : (bvals bs)[i]? = some (.int .u8 ((bs.getD i 0 : Nat) : Int)) := by simp [bvals, hi]
    rw [← htake, Nat.mul_one, List.getElem?_take_of_lt hi] at h1
    simpa using h1
theorem wp_append_src {P : Program} {w : World} {o : Oper} {a : Act} {K : Act → World → Prop} {Q : Exit → Act → World → Prop} (s x : Operand) (t : TypeId)
    (ho : o.op = .call { callee := .builtin .append, args := #[s, x], argTypes := #[t, t] })
    (base : Nat) (e : TypeId) (i : TypeInfo) (z : Value) (size bytes : Nat) (ht : P.underlying t = some (.slice e)) (hi : P.info? e = some i) (hz : i.zero = some z)
    (hsize : i.size = size) (hby : i.bytes = bytes) (hzs : z.cells.size = size) (hsz : 0 < size)
    (v : Value) (n : Nat) (xs : List Value) (hs : a.eval s = v) (hown : w.ownsRow base e size v n xs)
    (ao : Option Addr) (m c : Nat) (news : List Value) (hx : a.eval x = .slice ao m c) (hsrc : SrcAt w ao m c size news) (h1 : ∀ u ∈ news, u.oneCell' = true)
    (h63 : n + m ≤ maxLen) (hbytes : (n + m) * bytes ≤ 140737488355328) (hbase : base ≤ w.heap.size)
    (h : ∀ v' w', w'.ownsRow base e size v' (n + m) (xs ++ news) → w.grownBy w' v.ownBlock → K (a.put o.dst v') w') : o.wp P a w K Q := by
  rcases hsrc with ⟨rfl, rfl, rfl, rfl⟩ | ⟨hl, ad, rfl, hnews⟩
  · have hrun := run_append_owned_none (P := P) (w := w) base t o.type e i size ht hi v n xs hown
    unfold Oper.wp
    simp [execOp, ho, resolve, invoke, builtin, hs, hx, hrun, Result.andThen]
    exact h v w (by rw [List.append_nil, Nat.add_zero]; exact hown) ⟨rfl, rfl, rfl, Nat.le_refl _, fun _ _ _ => rfl⟩
  · exact wp_append_own w s x t ho base e i z size bytes ht hi hz hsize hby hzs hsz v n xs hs hown ad m c news hx hl hnews h1 h63 hbytes hbase (fun v' w' a b _ => h v' w' a b)
theorem bvals_snoc (bs : List Nat) (x : Nat) : bvals (bs ++ [x]) = bvals bs ++ [.int .u8 (x : Int)] := by simp [bvals]
theorem bytesAt_same {w w' : World} {g o : Nat} {bs : List Nat} (h : BytesAt w (some ⟨g, o, none⟩) bs) (hg : w'.heap[g]? = w.heap[g]?) : BytesAt w' (some ⟨g, o, none⟩) bs := by
  refine ⟨?_, h.2⟩
  rcases h.1 with e | ⟨b, o', e, hc⟩
  · exact .inl e
  · cases e
    exact .inr ⟨_, _, rfl, fun i hi => (World.cell?_of_block (a := ⟨g, o + i, none⟩) hg).trans (hc i hi)⟩
def subA (a : Option Addr) (l cap : Nat) : Option Addr := if cap = l then a else a.map (·.add (l * 1))
theorem subA_none {a : Option Addr} {l cap : Nat} (hnil : a = none → cap = 0) (h : subA a l cap = none) : cap - l = 0 := by
  unfold subA at h
  split at h
  · omega
  · rw [Option.map_eq_none_iff] at h
    rw [hnil h]; omega
theorem subA_some {b o l cap : Nat} (h : l < cap) : subA (some ⟨b, o, none⟩) l cap = some ⟨b, o + l, none⟩ := by
  unfold subA
  rw [if_neg (by omega), Option.map_some, Nat.mul_one, add_none]
theorem bytesAt_sub {w : World} {a : Option Addr} {bs : List Nat} {cap : Nat} (h : BytesAt w a bs) (hc : bs.length ≤ cap) (l k : Nat) : BytesAt w (subA a l cap) ((bs.take k).drop l) := by
  refine ⟨?_, fun x hx => h.2.1 x (List.mem_of_mem_take (List.mem_of_mem_drop hx)), by rw [List.length_drop, List.length_take]; have := h.2.2; omega⟩
  by_cases h0 : (bs.take k).drop l = []
  · exact .inl h0
  · have h1 := List.length_pos_iff.2 h0
    rw [List.length_drop, List.length_take] at h1
    obtain ⟨b, o, rfl, hcell⟩ := h.some (by omega)
    refine .inr ⟨b, o + l, subA_some (by omega), fun i hi => ?_⟩
    rw [List.length_drop, List.length_take] at hi
    rw [Nat.add_assoc, hcell (l + i) (by omega)]
    simp [List.getD, List.getElem?_take, show l + i < k by omega]
def strB (bs : List Nat) : ByteArray := strOfNums (bs.map fun (x : Nat) => (x : Int))
theorem strB_inj {bs cs : List Nat} (hb : ∀ x ∈ bs, x < 256) (hc : ∀ x ∈ cs, x < 256) (h : strB bs = strB cs) : bs = cs := by
  have h1 := congrArg (fun s : ByteArray => s.data.toList) h
  simp only [strB, strOfNums_data, List.map_map] at h1
  have hl : bs.length = cs.length := by have := congrArg List.length h1; simpa using this
  refine List.ext_getElem hl fun i h2 h3 => ?_
  have h4 := congrArg (fun l => l[i]?) h1
  simp only [List.getElem?_map, List.getElem?_eq_getElem h2, List.getElem?_eq_getElem h3, Option.map_some, Option.some.injEq, Function.comp] at h4
  have h5 := congrArg UInt8.toNat h4
  have b1 := hb _ (List.getElem_mem h2)
  have b2 := hc _ (List.getElem_mem h3)
  simp at h5
  omega
theorem conv_bytes {w : World} {a : Option Addr} {bs : List Nat} (h : BytesAt w a bs) (cap : Nat) : (convert 52 9 (.slice a bs.length cap)).run Tryz.prog w = .ok (.string (strB bs)) w := by
  cases a with
  | none =>
    have hn : bs = [] := by
      by_cases h0 : bs = []
      · exact h0
      · obtain ⟨b, o, e, _⟩ := h.some (by have := List.length_pos_iff.2 h0; omega)
        cases e
    rw [hn]
    exact run_convert_bytes_nil w 52 5 (by exact Tryz.underlying52) (by exact Tryz.underlying5) _ _ 9 (by exact Tryz.underlying9)
  | some ad =>
    rcases h.1 with e | ⟨b, o, e, hc⟩
    · have hn : bs = [] := e
      subst hn
      rw [run_convert_bytes_string w 52 9 5 _ _ cap Tryz.underlying52 Tryz.underlying5 Tryz.underlying9]
      show (Conv.bytesToString (.slice (some ad) 0 cap)).run Tryz.prog w = _
      rw [run_bytesToString w ad 0 cap [] (by simpa using run_loadCells_list (P := Tryz.prog) w ad [] (fun j v hj => by simp at hj))]
      rfl
    · cases e
      refine run_convert_bytes_arg w 52 5 Tryz.underlying52 Tryz.underlying5 b o bs.length cap _ (by simp) (fun i hi => ?_) 9 Tryz.underlying9
      rw [hc i hi]
      simp [List.getElem?_eq_getElem hi, List.getD]
theorem Tryz.sizeOf5 (W : World) : (Go.sizeOf 5).run Tryz.prog W = .ok 1 W := by kernel_rfl
theorem Tryz.elemB : Tryz.prog.elem 52 = 5 := by kernel_rfl
theorem Tryz.info5 : (Tryz.prog.info? 5).map (fun i => (i.zero, i.size, i.bytes)) = some (some (.int .u8 0), 1, 1) := by kernel_rfl
theorem Tryz.info9 : (Tryz.prog.info? 9).map (fun i => (i.zero, i.size, i.bytes)) = some (some (.string ByteArray.empty), 1, 16) := by kernel_rfl
theorem slice_lh (a : Option Addr) (n cap l h : Nat) (hl : l ≤ h) (hh : h ≤ cap) (W : World) : (Instr.slice 52 (.slice a n cap) (some (.int .i64 (l : Int))) (some (.int .i64 (h : Int))) none).run Tryz.prog W = .ok (.slice (subA a l cap) (h - l) (cap - l)) W := by
  rw [run_slice_lh W 52 _ _ _ (by rw [Tryz.elemB]; exact Tryz.underlying52) .i64 .i64 _ _ (by omega) (by omega) (by omega), Tryz.elemB, Tryz.sizeOf5]
  simp [Result.andThen, sliced, subA]
theorem slice_h (a : Option Addr) (n cap h : Nat) (hh : h ≤ cap) (W : World) : (Instr.slice 52 (.slice a n cap) none (some (.int .i64 (h : Int))) none).run Tryz.prog W = .ok (.slice (subA a 0 cap) h cap) W := by
  rw [run_slice_h W 52 _ _ _ (by rw [Tryz.elemB]; exact Tryz.underlying52) .i64 _ (by omega) (by omega), Tryz.elemB, Tryz.sizeOf5]
  simp [Result.andThen, sliced, subA]
theorem slice_l (a : Option Addr) (n cap l : Nat) (hl : l ≤ n) (W : World) : (Instr.slice 52 (.slice a n cap) (some (.int .i64 (l : Int))) none none).run Tryz.prog W = .ok (.slice (subA a l cap) (n - l) (cap - l)) W := by
  rw [run_slice_l W 52 _ _ _ (by rw [Tryz.elemB]; exact Tryz.underlying52) .i64 _ (by omega) (by omega), Tryz.elemB, Tryz.sizeOf5]
  simp [Result.andThen, sliced, subA]
end Go.Proofs.YtmcbnhkcjhlbaaaGreatDoor
end
section
namespace Go.Proofs.YtmcbnhkcjhlbaaaGreatDoor
open Go.RowKit
open Kit (Chg)
open Sha (v)

theorem and31 (k : Nat) (h0 : 0 < k) (h : k < 32) : bits .and .u64 (18446744073709551616 - (k : Int)) 31 = ((32 - k : Nat) : Int) := by
  have e : (18446744073709551616 : Int) - (k : Int) = ((18446744073709551616 - k : Nat) : Int) := by omega
  rw [e]
  have := u64_and_nat (18446744073709551616 - k) 31 (by omega) (by decide)
  rw [nat_mask5] at this
  have e2 : (18446744073709551616 - k) % 32 = 32 - k := by omega
  rw [e2] at this
  exact this
set_option maxHeartbeats 400000 in
theorem rotr_any (x : BitVec 32) (k : Nat) (h0 : 0 < k) (h : k < 32) (w : World) :
    Calls Tryz.prog 132 #[.int .u32 (v x), .int .i64 (-(k : Int))] w fun e w' => e = .returned (.int .u32 (v (Sha.rot x k))) ∧ w = w' := by
  have r1 := and31 k h0 h
  obtain ⟨m, hm⟩ : ∃ m, 32 - k = m := ⟨_, rfl⟩
  have hk : k = 32 - m := by omega
  have hrot : Sha.rot x k = x <<< m ||| x >>> (32 - m) := by
    unfold Sha.rot
    rw [hm, ← hk]
    exact BitVec.or_comm ..
  rw [hrot]
  rw [hm] at r1
  have hm32 : m < 32 := by omega
  have hm0 : 0 < m := by omega
  obtain ⟨Q0, hq0⟩ : ∃ Q : Prop, Hid Q := ⟨True, trivial⟩
  have r2 := Sha.f_shl Q0 m
  have r3 := Sha.f_shr Q0 (32 - m)
  have r4 := Sha.f_or Q0
  have r9 := Sha.f_nonneg Q0
  have e1 : IntKind.u64.wrap (-(k : Int)) = 18446744073709551616 - (k : Int) := by rw [IntKind.wrap_u64]; omega
  have e2 : IntKind.u64.wrap (32 - (m : Int)) = ((32 - m : Nat) : Int) := by rw [IntKind.wrap_u64]; omega
  clear hm hk hrot
  go_enter Tryz.func132, Tryz.ntmps132
  go_wp2
  go_ret
  exact ⟨rfl, rfl⟩
theorem rotr2 (x : BitVec 32) (w : World) : Calls Tryz.prog 132 #[.int .u32 (v x), .int .i64 (-2)] w fun e w' => e = .returned (.int .u32 (v (Sha.rot x 2))) ∧ w = w' := rotr_any x 2 (by decide) (by decide) w
theorem rotr6 (x : BitVec 32) (w : World) : Calls Tryz.prog 132 #[.int .u32 (v x), .int .i64 (-6)] w fun e w' => e = .returned (.int .u32 (v (Sha.rot x 6))) ∧ w = w' := rotr_any x 6 (by decide) (by decide) w
theorem rotr7 (x : BitVec 32) (w : World) : Calls Tryz.prog 132 #[.int .u32 (v x), .int .i64 (-7)] w fun e w' => e = .returned (.int .u32 (v (Sha.rot x 7))) ∧ w = w' := rotr_any x 7 (by decide) (by decide) w
theorem rotr11 (x : BitVec 32) (w : World) : Calls Tryz.prog 132 #[.int .u32 (v x), .int .i64 (-11)] w fun e w' => e = .returned (.int .u32 (v (Sha.rot x 11))) ∧ w = w' := rotr_any x 11 (by decide) (by decide) w
theorem rotr13 (x : BitVec 32) (w : World) : Calls Tryz.prog 132 #[.int .u32 (v x), .int .i64 (-13)] w fun e w' => e = .returned (.int .u32 (v (Sha.rot x 13))) ∧ w = w' := rotr_any x 13 (by decide) (by decide) w
theorem rotr17 (x : BitVec 32) (w : World) : Calls Tryz.prog 132 #[.int .u32 (v x), .int .i64 (-17)] w fun e w' => e = .returned (.int .u32 (v (Sha.rot x 17))) ∧ w = w' := rotr_any x 17 (by decide) (by decide) w
theorem rotr18 (x : BitVec 32) (w : World) : Calls Tryz.prog 132 #[.int .u32 (v x), .int .i64 (-18)] w fun e w' => e = .returned (.int .u32 (v (Sha.rot x 18))) ∧ w = w' := rotr_any x 18 (by decide) (by decide) w
theorem rotr19 (x : BitVec 32) (w : World) : Calls Tryz.prog 132 #[.int .u32 (v x), .int .i64 (-19)] w fun e w' => e = .returned (.int .u32 (v (Sha.rot x 19))) ∧ w = w' := rotr_any x 19 (by decide) (by decide) w
theorem rotr22 (x : BitVec 32) (w : World) : Calls Tryz.prog 132 #[.int .u32 (v x), .int .i64 (-22)] w fun e w' => e = .returned (.int .u32 (v (Sha.rot x 22))) ∧ w = w' := rotr_any x 22 (by decide) (by decide) w
theorem rotr25 (x : BitVec 32) (w : World) : Calls Tryz.prog 132 #[.int .u32 (v x), .int .i64 (-25)] w fun e w' => e = .returned (.int .u32 (v (Sha.rot x 25))) ∧ w = w' := rotr_any x 25 (by decide) (by decide) w
end Go.Proofs.YtmcbnhkcjhlbaaaGreatDoor
end
