/- A region that draws its order: reading heads, one operation of another kind (a call), reading heads again; operations whose guard does not want them may be among them: no program is named here. -/
import Derived.Test.YtfnhcjcahcacnaaDoorChr
namespace Go.Proofs.YtfnhcjcahcacnaaDoor
namespace Kit
section
variable {P : Program} {md : Region.Mode} {Q : Exit → Act → World → Prop} {S : World → Prop}

def midOk (md : Region.Mode) (ops : Array Oper) (m : Nat) (idx2 : List Nat) : List Nat → Array Bool → Bool
  | [], listed => decide (Region.ready md ops listed = [m]) && headsOk md ops [] idx2 (listed.setIfInBounds m true)
  | i :: rest, listed => Region.free md ops listed i && (Region.ready md ops listed).contains i && midOk md ops m idx2 rest (listed.setIfInBounds i true)

theorem any_of_mid {l : List Oper} {m : Nat} {idx2 : List Nat} {w : World} (hsel : Region.noSelect l.toArray = true) (hQ : ∀ c a d v w, Q (.panic c) (a.put d v) w → Q (.panic c) a w) (hS : S w) :
    ∀ (idx : List Nat) (listed : Array Bool) (a : Act), midOk md l.toArray m idx2 idx listed = true →
      heads P S (fun a => ∃ o, l[m]? = some o ∧ o.guard = none ∧ ∀ K : Act → World → Prop, (∀ a w', S w' → heads P S (fun a => Q .normal a w') l idx2 a → K a w') → o.wp P a w K Q) l idx a → wpAnyH P md l.toArray Q S (idx.length + (1 + idx2.length)) listed a w
  | [], listed, a, hB, h => by
    simp only [midOk, Bool.and_eq_true, decide_eq_true_eq] at hB
    obtain ⟨o, ho, hg, hw⟩ := h
    rw [List.length_nil, Nat.zero_add, Nat.add_comm]
    refine wpAnyH_all hB.1 (by simp) ?_
    intro j hj
    have hji : j = m := by simpa using hj
    subst hji
    have ho' : l.toArray[j]? = some o := by simpa using ho
    unfold wpOp
    rw [ho']
    show if Region.wanted o (yielded l.toArray a.tmps) = true then _ else _
    rw [if_pos (by simp [Region.wanted, hg])]
    refine .inl (hw _ fun a w' hS' hc => ⟨hS', ?_⟩)
    have := any_of_heads (tail := []) hsel hQ hS' idx2 _ a hB.2 hc
    rwa [List.length_nil, Nat.add_zero] at this
  | i :: rest, listed, a, hB, h => by
    simp only [midOk, Bool.and_eq_true] at hB
    obtain ⟨o, ho, v, hy, hr⟩ := h
    rw [List.length_cons, show rest.length + 1 + (1 + idx2.length) = rest.length + (1 + idx2.length) + 1 by omega]
    exact wpAnyH_take (by simpa using ho) hsel hB.1.1 hB.1.2 (fun c a w => hQ c a _ v w) hy hS (any_of_mid hsel hQ hS rest _ _ hB.2 hr)

/-- The law. -/
theorem wp_region_mid {id : Nat} {a : Act} {w : World} {l : List Oper} (S : World → Prop) (idx : List Nat) (m : Nat) (idx2 : List Nat) (hm : P.follows .mixedOrders = true) (hsel : Region.noSelect l.toArray = true) (hn : l.length = idx.length + (1 + idx2.length))
    (hB : midOk .any l.toArray m idx2 idx (Array.replicate l.length false) = true) (hS : S w.drew)
    (h : heads P S (fun a => ∃ o, l[m]? = some o ∧ o.guard = none ∧ ∀ K : Act → World → Prop, (∀ a w', S w' → heads P S (fun a => Q .normal a w') l idx2 a → K a w') → o.wp P a w.drew K (NoPanic Q)) l idx a) : (Code.region id l.toArray true).wp P Q a w := by
  refine wp_region_noPanic (wp_region_held (S := S) hm ?_)
  have H := any_of_mid (Q := NoPanic Q) hsel (fun _ _ _ _ _ h => h) hS idx _ _ hB h
  rw [← hn] at H
  have e : l.toArray.size = l.length := List.size_toArray
  rw [e]
  exact H
theorem mid_cons {l : List Oper} {a : Act} {w : World} {m : Nat} {idx2 : List Nat} {o : Oper} (ho : l[m]? = some o) (hg : o.guard = none)
    (h : ∀ K : Act → World → Prop, (∀ a w', S w' → heads P S (fun a => Q .normal a w') l idx2 a → K a w') → o.wp P a w K (NoPanic Q)) :
    ∃ o, l[m]? = some o ∧ o.guard = none ∧ ∀ K : Act → World → Prop, (∀ a w', S w' → heads P S (fun a => Q .normal a w') l idx2 a → K a w') → o.wp P a w K (NoPanic Q) := ⟨o, ho, hg, h⟩
end
end Kit
end Go.Proofs.YtfnhcjcahcacnaaDoor
