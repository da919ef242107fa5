/- Laws for regions that draw their order: reading heads, then a forced chain; reading heads, one call, reading heads: no program is named here. -/
import Derived.Test.YtmnendoloankgaaDoorKit
import Derived.Deep.RegionHeld3
namespace Go.Proofs.YtmnendoloankgaaDoor
set_option linter.unusedVariables false
namespace Kit
section
variable {P : Program} {md : Region.Mode} {Q : Exit → Act → World → Prop} {S : World → Prop}

/-- The operations of these numbers each yield a value in every world that meets S; then R. -/
def heads (P : Program) (S : World → Prop) (R : Act → Prop) (l : List Oper) : List Nat → Act → Prop
  | [], a => R a
  | i :: rest, a => ∃ o, l[i]? = some o ∧ ∃ v, YieldsIf P l.toArray S o v a ∧ heads P S R l rest (a.put o.dst v)

/-- The operations of these numbers are carried out one behind the other, and S holds behind each. -/
def chain (P : Program) (Q : Exit → Act → World → Prop) (S : World → Prop) (l : List Oper) : List Nat → Act → World → Prop
  | [], a, w => Q .normal a w
  | i :: rest, a, w => ∃ o, l[i]? = some o ∧ o.guard = none ∧ ∀ K : Act → World → Prop, (∀ a w, S w → chain P Q S l rest a w → K a w) → o.wp P a w K Q

/-- May these numbers come up so? -/
def chainOk (md : Region.Mode) (ops : Array Oper) : List Nat → Array Bool → Bool
  | [], listed => (Region.ready md ops listed).isEmpty
  | i :: rest, listed => decide (Region.ready md ops listed = [i]) && chainOk md ops rest (listed.setIfInBounds i true)
def headsOk (md : Region.Mode) (ops : Array Oper) (tail : List Nat) : List Nat → Array Bool → Bool
  | [], listed => chainOk md ops tail listed
  | i :: rest, listed => Region.free md ops listed i && (Region.ready md ops listed).contains i && headsOk md ops tail rest (listed.setIfInBounds i true)

theorem any_of_chain {l : List Oper} : ∀ (tail : List Nat) (listed : Array Bool) (a : Act) (w : World), chainOk md l.toArray tail listed = true → chain P Q S l tail a w → wpAnyH P md l.toArray Q S tail.length listed a w
  | [], listed, a, w, hB, h => by
    simp only [chainOk, List.isEmpty_iff] at hB
    exact wpAnyH_done hB h 0
  | i :: rest, listed, a, w, hB, h => by
    simp only [chainOk, Bool.and_eq_true, decide_eq_true_eq] at hB
    obtain ⟨o, ho, hg, hw⟩ := h
    refine wpAnyH_all hB.1 (by simp) ?_
    intro j hj
    have hji : j = i := by simpa using hj
    subst hji
    have ho' : l.toArray[j]? = some o := by simpa using ho
    unfold wpOp
    rw [ho']
    show if Region.wanted o (yielded l.toArray a.tmps) = true then _ else _
    rw [if_pos (by simp [Region.wanted, hg])]
    exact .inl (hw _ fun a w hS hc => ⟨hS, any_of_chain rest _ a w hB.2 hc⟩)

theorem any_of_heads {l : List Oper} {tail : List Nat} {w : World} (hsel : Region.noSelect l.toArray = true) (hQ : ∀ c a d v w, Q (.panic c) (a.put d v) w → Q (.panic c) a w) (hS : S w) :
    ∀ (idx : List Nat) (listed : Array Bool) (a : Act), headsOk md l.toArray tail idx listed = true → heads P S (fun a => chain P Q S l tail a w) l idx a → wpAnyH P md l.toArray Q S (idx.length + tail.length) listed a w
  | [], listed, a, hB, h => by
    rw [List.length_nil, Nat.zero_add]
    exact any_of_chain tail listed a w hB h
  | i :: rest, listed, a, hB, h => by
    simp only [headsOk, Bool.and_eq_true] at hB
    obtain ⟨o, ho, v, hy, hr⟩ := h
    rw [List.length_cons, show rest.length + 1 + tail.length = rest.length + tail.length + 1 by omega]
    exact wpAnyH_take (by simpa using ho) hsel hB.1.1 hB.1.2 (fun c a w => hQ c a _ v w) hy hS (any_of_heads hsel hQ hS rest _ _ hB.2 hr)

/-- The law: first the operations that only read (their numbers: idx), then those that are left, in one forced order (tail). -/
theorem wp_region_heads {id : Nat} {a : Act} {w : World} {l : List Oper} (S : World → Prop) (idx tail : List Nat) (hm : P.follows .mixedOrders = true) (hsel : Region.noSelect l.toArray = true) (hn : l.length = idx.length + tail.length)
    (hB : headsOk .any l.toArray tail idx (Array.replicate l.length false) = true) (hS : S w.drew)
    (h : heads P S (fun a => chain P (NoPanic Q) S l tail a w.drew) l idx a) : (Code.region id l.toArray true).wp P Q a w := by
  refine wp_region_noPanic (wp_region_held (S := S) hm ?_)
  have H := any_of_heads hsel (fun _ _ _ _ _ h => h) hS idx _ _ hB h
  rw [← hn] at H
  have e : l.toArray.size = l.length := List.size_toArray
  rw [e]
  exact H
theorem chain_done {l : List Oper} {a : Act} {w : World} (h : Q .normal a w) : chain P (NoPanic Q) S l [] a w := h
theorem heads_nil {R : Act → Prop} {l : List Oper} {a : Act} (h : R a) : heads P S R l [] a := h
theorem heads_cons {R : Act → Prop} {l : List Oper} {a : Act} {i : Nat} {rest : List Nat} {o : Oper} {v : Value} (ho : l[i]? = some o) (hy : YieldsIf P l.toArray S o v a) (h : heads P S R l rest (a.put o.dst v)) : heads P S R l (i :: rest) a := ⟨o, ho, v, hy, h⟩
theorem chain_nil {l : List Oper} {a : Act} {w : World} (h : Q .normal a w) : chain P Q S l [] a w := h
theorem chain_cons {l : List Oper} {a : Act} {w : World} {i : Nat} {rest : List Nat} {o : Oper} (ho : l[i]? = some o) (hg : o.guard = none) (h : ∀ K : Act → World → Prop, (∀ a w, S w → chain P Q S l rest a w → K a w) → o.wp P a w K Q) : chain P Q S l (i :: rest) a w := ⟨o, ho, hg, h⟩
end
end Kit
namespace Kit
section
variable {P : Program} {md : Region.Mode} {Q : Exit → Act → World → Prop} {S : World → Prop}

def midOk (md : Region.Mode) (ops : Array Oper) (m : Nat) (idx2 : List Nat) : List Nat → Array Bool → Bool
  | [], listed => decide (Region.ready md ops listed = [m]) && headsOk md ops [] idx2 (listed.setIfInBounds m true)
  | i :: rest, listed => Region.free md ops listed i && (Region.ready md ops listed).contains i && midOk md ops m idx2 rest (listed.setIfInBounds i true)

theorem any_of_mid {l : List Oper} {m : Nat} {idx2 : List Nat} {w : World} (hsel : Region.noSelect l.toArray = true) (hQ : ∀ c a d v w, Q (.panic c) (a.put d v) w → Q (.panic c) a w) (hS : S w) :
    ∀ (idx : List Nat) (listed : Array Bool) (a : Act), midOk md l.toArray m idx2 idx listed = true →
      heads P S (fun a => ∃ o, l[m]? = some o ∧ o.guard = none ∧ ∀ K : Act → World → Prop, (∀ a w', S w' → heads P S (fun a => Q .normal a w') l idx2 a → K a w') → o.wp P a w K Q) l idx a → wpAnyH P md l.toArray Q S (idx.length + (1 + idx2.length)) listed a w
  | [], listed, a, hB, h => by
    simp only [midOk, Bool.and_eq_true, decide_eq_true_eq] at hB
    obtain ⟨o, ho, hg, hw⟩ := h
    rw [List.length_nil, Nat.zero_add, Nat.add_comm]
    refine wpAnyH_all hB.1 (by simp) ?_
    intro j hj
    have hji : j = m := by simpa using hj
    subst hji
    have ho' : l.toArray[j]? = some o := by simpa using ho
    unfold wpOp
    rw [ho']
    show if Region.wanted o (yielded l.toArray a.tmps) = true then _ else _
    rw [if_pos (by simp [Region.wanted, hg])]
    refine .inl (hw _ fun a w' hS' hc => ⟨hS', ?_⟩)
    have := any_of_heads (tail := []) hsel hQ hS' idx2 _ a hB.2 hc
    rwa [List.length_nil, Nat.add_zero] at this
  | i :: rest, listed, a, hB, h => by
    simp only [midOk, Bool.and_eq_true] at hB
    obtain ⟨o, ho, v, hy, hr⟩ := h
    rw [List.length_cons, show rest.length + 1 + (1 + idx2.length) = rest.length + (1 + idx2.length) + 1 by omega]
    exact wpAnyH_take (by simpa using ho) hsel hB.1.1 hB.1.2 (fun c a w => hQ c a _ v w) hy hS (any_of_mid hsel hQ hS rest _ _ hB.2 hr)

/-- The law. -/
theorem wp_region_mid {id : Nat} {a : Act} {w : World} {l : List Oper} (S : World → Prop) (idx : List Nat) (m : Nat) (idx2 : List Nat) (hm : P.follows .mixedOrders = true) (hsel : Region.noSelect l.toArray = true) (hn : l.length = idx.length + (1 + idx2.length))
    (hB : midOk .any l.toArray m idx2 idx (Array.replicate l.length false) = true) (hS : S w.drew)
    (h : heads P S (fun a => ∃ o, l[m]? = some o ∧ o.guard = none ∧ ∀ K : Act → World → Prop, (∀ a w', S w' → heads P S (fun a => Q .normal a w') l idx2 a → K a w') → o.wp P a w.drew K (NoPanic Q)) l idx a) : (Code.region id l.toArray true).wp P Q a w := by
  refine wp_region_noPanic (wp_region_held (S := S) hm ?_)
  have H := any_of_mid (Q := NoPanic Q) hsel (fun _ _ _ _ _ h => h) hS idx _ _ hB h
  rw [← hn] at H
  have e : l.toArray.size = l.length := List.size_toArray
  rw [e]
  exact H
theorem mid_cons {l : List Oper} {a : Act} {w : World} {m : Nat} {idx2 : List Nat} {o : Oper} (ho : l[m]? = some o) (hg : o.guard = none)
    (h : ∀ K : Act → World → Prop, (∀ a w', S w' → heads P S (fun a => Q .normal a w') l idx2 a → K a w') → o.wp P a w K (NoPanic Q)) :
    ∃ o, l[m]? = some o ∧ o.guard = none ∧ ∀ K : Act → World → Prop, (∀ a w', S w' → heads P S (fun a => Q .normal a w') l idx2 a → K a w') → o.wp P a w K (NoPanic Q) := ⟨o, ho, hg, h⟩
end
end Kit
namespace Kit
section
variable {P : Program} {ops : Array Oper} {md : Region.Mode} {Q : Exit → Act → World → Prop} {S : World → Prop} {L : Nat}

/-- Whatever order is picked, and S holds behind every operation but the last one, L. -/
def anyS (P : Program) (md : Region.Mode) (ops : Array Oper) (Q : Exit → Act → World → Prop) (S : World → Prop) (L : Nat) : Nat → Array Bool → Act → World → Prop
  | 0, listed, a, w => Region.ready md ops listed = [] ∧ Q .normal a w
  | fuel + 1, listed, a, w =>
    (Region.ready md ops listed = [] → Q .normal a w) ∧
    ∀ i ∈ Region.ready md ops listed, wpOp P ops Q i (fun a' w' => (i ≠ L → S w') ∧ anyS P md ops Q S L fuel (listed.setIfInBounds i true) a' w') a w

theorem any_of_anyS : ∀ (fuel : Nat) (listed : Array Bool) (a : Act) (w : World), anyS P md ops Q S L fuel listed a w → wpAny P md ops Q fuel listed a w
  | 0, _, _, _, h => h
  | fuel + 1, _, _, _, h => ⟨h.1, fun i hi => wpOp_mono (fun a' w' h' => any_of_anyS fuel _ a' w' h'.2) (h.2 i hi)⟩

theorem anyS_first {i : Nat} {oi : Oper} {v : Value} (hi : ops[i]? = some oi) (hsel : ∀ (j : Nat) (o : Oper) cs b, ops[j]? = some o → o.op ≠ .select cs b)
    (hQ : ∀ c a w, Q (.panic c) (a.put oi.dst v) w → Q (.panic c) a w) (hL : Region.waitsFor md ops L i = true) (hiL : i ≠ L) :
    ∀ (fuel : Nat) (listed : Array Bool) (a : Act) (w : World),
      (∀ (j : Nat) (oj : Oper), ops[j]? = some oj → j ≠ i → listed.getD j true = false → (∀ e ∈ oj.after, Region.binds md e = true → e.on ≠ i) → oi.apart ops oj = true) →
      i ∈ Region.ready md ops listed → YieldsIf P ops S oi v a → S w →
      anyS P md ops Q S L fuel (listed.setIfInBounds i true) (a.put oi.dst v) w → anyS P md ops Q S L (fuel + 1) listed a w := by
  intro fuel
  induction fuel with
  | zero =>
    intro listed a w _ hr hy hS H
    refine ⟨fun h => (by rw [h] at hr; cases hr), fun j hj => ?_⟩
    by_cases hji : j = i
    · subst hji; exact hy.wpOp hi hS ⟨fun _ => hS, H⟩
    · have := ready_mono hj hji
      rw [H.1] at this
      cases this
  | succ fuel ih =>
    intro listed a w hfree hr hy hS H
    refine ⟨fun h => (by rw [h] at hr; cases hr), fun j hj => ?_⟩
    by_cases hji : j = i
    · subst hji; exact hy.wpOp hi hS ⟨fun _ => hS, H⟩
    · have h1 := H.2 j (ready_mono hj hji)
      obtain ⟨hjun, oj, hoj, hall⟩ := mem_ready.1 hj
      have hnot : ∀ e ∈ oj.after, Region.binds md e = true → e.on ≠ i := fun e he hb heq => by
        have h1 := hall e he hb
        have h0 := (mem_ready.1 hr).1
        rw [heq] at h1
        rcases Nat.lt_or_ge i listed.size with h' | h'
        · simp [h'] at h0 h1; rw [h0] at h1; cases h1
        · simp [Array.getElem?_eq_none h'] at h1
      have hjL : j ≠ L := by
        rintro rfl
        obtain ⟨o', ho', e, he, hb, hon⟩ := Region.waitsFor_spec hL
        rw [hoj] at ho'
        cases ho'
        exact hnot e he hb hon
      have h2 := wpOp_putIf hoj (hfree j oj hoj hji hjun hnot) (fun cs b => hsel i oi cs b hi) (fun cs b => hsel j oj cs b hoj) hQ hy h1
      have hfree' : ∀ (k : Nat) (ok : Oper), ops[k]? = some ok → k ≠ i → (listed.setIfInBounds j true).getD k true = false →
          (∀ e ∈ ok.after, Region.binds md e = true → e.on ≠ i) → oi.apart ops ok = true := fun k ok hk hki hun hno => by
        refine hfree k ok hk hki ?_ hno
        by_cases hjk : j = k
        · subst hjk; exact hjun
        · rw [getD_set_ne true hjk] at hun; exact hun
      refine wpOp_mono (fun a' w' h3 => ⟨h3.2.1, ih (listed.setIfInBounds j true) a' w' hfree' (ready_mono hr (Ne.symm hji)) h3.1 (h3.2.1 hjL) ?_⟩) h2
      rw [Array.setIfInBounds_comm _ _ hji]
      exact h3.2.2

/-- The operations of these numbers are carried out one behind the other; S holds behind each but L. -/
def chainL (P : Program) (Q : Exit → Act → World → Prop) (S : World → Prop) (L : Nat) (l : List Oper) : List Nat → Act → World → Prop
  | [], a, w => Q .normal a w
  | i :: rest, a, w => ∃ o, l[i]? = some o ∧ o.guard = none ∧ ∀ K : Act → World → Prop, (∀ a w, (i ≠ L → S w) → chainL P Q S L l rest a w → K a w) → o.wp P a w K Q
def headsLOk (md : Region.Mode) (ops : Array Oper) (L : Nat) (tail : List Nat) : List Nat → Array Bool → Bool
  | [], listed => chainOk md ops tail listed
  | i :: rest, listed => Region.free md ops listed i && (Region.ready md ops listed).contains i && Region.waitsFor md ops L i && decide (i ≠ L) && headsLOk md ops L tail rest (listed.setIfInBounds i true)

theorem anyS_of_chain {l : List Oper} : ∀ (tail : List Nat) (listed : Array Bool) (a : Act) (w : World), chainOk md l.toArray tail listed = true → chainL P Q S L l tail a w → anyS P md l.toArray Q S L tail.length listed a w
  | [], _, _, _, hB, h => by
    simp only [chainOk, List.isEmpty_iff] at hB
    exact ⟨hB, h⟩
  | i :: rest, listed, a, w, hB, h => by
    simp only [chainOk, Bool.and_eq_true, decide_eq_true_eq] at hB
    obtain ⟨o, ho, hg, hw⟩ := h
    refine ⟨fun h0 => (by rw [hB.1] at h0; cases h0), fun j hj => ?_⟩
    rw [hB.1] at hj
    have hji : j = i := by simpa using hj
    subst hji
    have ho' : l.toArray[j]? = some o := by simpa using ho
    unfold wpOp
    rw [ho']
    show if Region.wanted o (yielded l.toArray a.tmps) = true then _ else _
    rw [if_pos (by simp [Region.wanted, hg])]
    exact .inl (hw _ fun a w hS hc => ⟨hS, anyS_of_chain rest _ a w hB.2 hc⟩)

theorem anyS_of_heads {l : List Oper} {tail : List Nat} {w : World} (hsel : Region.noSelect l.toArray = true) (hQ : ∀ c a d v w, Q (.panic c) (a.put d v) w → Q (.panic c) a w) (hS : S w) :
    ∀ (idx : List Nat) (listed : Array Bool) (a : Act), headsLOk md l.toArray L tail idx listed = true → heads P S (fun a => chainL P Q S L l tail a w) l idx a → anyS P md l.toArray Q S L (idx.length + tail.length) listed a w
  | [], listed, a, hB, h => by
    rw [List.length_nil, Nat.zero_add]
    exact anyS_of_chain tail listed a w hB h
  | i :: rest, listed, a, hB, h => by
    simp only [headsLOk, Bool.and_eq_true, decide_eq_true_eq] at hB
    obtain ⟨o, ho, v, hy, hr⟩ := h
    rw [List.length_cons, show rest.length + 1 + tail.length = rest.length + tail.length + 1 by omega]
    have ho' : l.toArray[i]? = some o := by simpa using ho
    exact anyS_first ho' (Region.noSelect_spec hsel) (fun c a w => hQ c a _ v w) hB.1.1.2 hB.1.2 _ _ _ _ (Region.free_spec ho' hB.1.1.1.1) (by simpa using hB.1.1.1.2) hy hS (anyS_of_heads hsel hQ hS rest _ _ hB.2 hr)

theorem chainL_cons {l : List Oper} {a : Act} {w : World} {i : Nat} {rest : List Nat} {o : Oper} (ho : l[i]? = some o) (hg : o.guard = none) (h : ∀ K : Act → World → Prop, (∀ a w, (i ≠ L → S w) → chainL P Q S L l rest a w → K a w) → o.wp P a w K Q) : chainL P Q S L l (i :: rest) a w := ⟨o, ho, hg, h⟩
theorem chainL_done {l : List Oper} {a : Act} {w : World} (h : Q .normal a w) : chainL P (NoPanic Q) S L l [] a w := h

theorem wp_region_headsL {id : Nat} {a : Act} {w : World} {l : List Oper} (S : World → Prop) (L : Nat) (idx tail : List Nat) (hm : P.follows .mixedOrders = true) (hsel : Region.noSelect l.toArray = true) (hn : l.length = idx.length + tail.length)
    (hB : headsLOk .any l.toArray L tail idx (Array.replicate l.length false) = true) (hS : S w.drew)
    (h : heads P S (fun a => chainL P (NoPanic Q) S L l tail a w.drew) l idx a) : (Code.region id l.toArray true).wp P Q a w := by
  refine wp_region_noPanic (wp_region_any hm (any_of_anyS _ _ _ _ (S := S) (L := L) ?_))
  have H := anyS_of_heads hsel (fun _ _ _ _ _ h => h) hS idx _ _ hB h
  rw [← hn] at H
  have e : l.toArray.size = l.length := List.size_toArray
  rw [e]
  exact H

end
end Kit
end Go.Proofs.YtmnendoloankgaaDoor
