/- A region that draws its order: operations that only read, in whatever order, then a chain in one forced order: no program is named here. -/
import Derived.Test.YtfnhcjcahcacnaaDoorKit
import Derived.Deep.RegionHeld3
namespace Go.Proofs.YtfnhcjcahcacnaaDoor
namespace Kit
section
variable {P : Program} {md : Region.Mode} {Q : Exit → Act → World → Prop} {S : World → Prop}

/-- The operations of these numbers each yield a value in every world that meets S; then R. -/
def heads (P : Program) (S : World → Prop) (R : Act → Prop) (l : List Oper) : List Nat → Act → Prop
  | [], a => R a
  | i :: rest, a => ∃ o, l[i]? = some o ∧ ∃ v, YieldsIf P l.toArray S o v a ∧ heads P S R l rest (a.put o.dst v)

/-- The operations of these numbers are carried out one behind the other, and S holds behind each. -/
def chain (P : Program) (Q : Exit → Act → World → Prop) (S : World → Prop) (l : List Oper) : List Nat → Act → World → Prop
  | [], a, w => Q .normal a w
  | i :: rest, a, w => ∃ o, l[i]? = some o ∧ o.guard = none ∧ ∀ K : Act → World → Prop, (∀ a w, S w → chain P Q S l rest a w → K a w) → o.wp P a w K Q

/-- May these numbers come up so? -/
def chainOk (md : Region.Mode) (ops : Array Oper) : List Nat → Array Bool → Bool
  | [], listed => (Region.ready md ops listed).isEmpty
  | i :: rest, listed => decide (Region.ready md ops listed = [i]) && chainOk md ops rest (listed.setIfInBounds i true)
def headsOk (md : Region.Mode) (ops : Array Oper) (tail : List Nat) : List Nat → Array Bool → Bool
  | [], listed => chainOk md ops tail listed
  | i :: rest, listed => Region.free md ops listed i && (Region.ready md ops listed).contains i && headsOk md ops tail rest (listed.setIfInBounds i true)

theorem any_of_chain {l : List Oper} : ∀ (tail : List Nat) (listed : Array Bool) (a : Act) (w : World), chainOk md l.toArray tail listed = true → chain P Q S l tail a w → wpAnyH P md l.toArray Q S tail.length listed a w
  | [], listed, a, w, hB, h => by
    simp only [chainOk, List.isEmpty_iff] at hB
    exact wpAnyH_done hB h 0
  | i :: rest, listed, a, w, hB, h => by
    simp only [chainOk, Bool.and_eq_true, decide_eq_true_eq] at hB
    obtain ⟨o, ho, hg, hw⟩ := h
    refine wpAnyH_all hB.1 (by simp) ?_
    intro j hj
    have hji : j = i := by simpa using hj
    subst hji
    have ho' : l.toArray[j]? = some o := by simpa using ho
    unfold wpOp
    rw [ho']
    show if Region.wanted o (yielded l.toArray a.tmps) = true then _ else _
    rw [if_pos (by simp [Region.wanted, hg])]
    exact .inl (hw _ fun a w hS hc => ⟨hS, any_of_chain rest _ a w hB.2 hc⟩)

theorem any_of_heads {l : List Oper} {tail : List Nat} {w : World} (hsel : Region.noSelect l.toArray = true) (hQ : ∀ c a d v w, Q (.panic c) (a.put d v) w → Q (.panic c) a w) (hS : S w) :
    ∀ (idx : List Nat) (listed : Array Bool) (a : Act), headsOk md l.toArray tail idx listed = true → heads P S (fun a => chain P Q S l tail a w) l idx a → wpAnyH P md l.toArray Q S (idx.length + tail.length) listed a w
  | [], listed, a, hB, h => by
    rw [List.length_nil, Nat.zero_add]
    exact any_of_chain tail listed a w hB h
  | i :: rest, listed, a, hB, h => by
    simp only [headsOk, Bool.and_eq_true] at hB
    obtain ⟨o, ho, v, hy, hr⟩ := h
    rw [List.length_cons, show rest.length + 1 + tail.length = rest.length + tail.length + 1 by omega]
    exact wpAnyH_take (by simpa using ho) hsel hB.1.1 hB.1.2 (fun c a w => hQ c a _ v w) hy hS (any_of_heads hsel hQ hS rest _ _ hB.2 hr)

/-- The law: first the operations that only read (their numbers: idx), then those that are left, in one forced order (tail). -/
theorem wp_region_heads {id : Nat} {a : Act} {w : World} {l : List Oper} (S : World → Prop) (idx tail : List Nat) (hm : P.follows .mixedOrders = true) (hsel : Region.noSelect l.toArray = true) (hn : l.length = idx.length + tail.length)
    (hB : headsOk .any l.toArray tail idx (Array.replicate l.length false) = true) (hS : S w.drew)
    (h : heads P S (fun a => chain P (NoPanic Q) S l tail a w.drew) l idx a) : (Code.region id l.toArray true).wp P Q a w := by
  refine wp_region_noPanic (wp_region_held (S := S) hm ?_)
  have H := any_of_heads hsel (fun _ _ _ _ _ h => h) hS idx _ _ hB h
  rw [← hn] at H
  have e : l.toArray.size = l.length := List.size_toArray
  rw [e]
  exact H
theorem chain_done {l : List Oper} {a : Act} {w : World} (h : Q .normal a w) : chain P (NoPanic Q) S l [] a w := h
theorem heads_nil {R : Act → Prop} {l : List Oper} {a : Act} (h : R a) : heads P S R l [] a := h
theorem heads_cons {R : Act → Prop} {l : List Oper} {a : Act} {i : Nat} {rest : List Nat} {o : Oper} {v : Value} (ho : l[i]? = some o) (hy : YieldsIf P l.toArray S o v a) (h : heads P S R l rest (a.put o.dst v)) : heads P S R l (i :: rest) a := ⟨o, ho, v, hy, h⟩
theorem chain_nil {l : List Oper} {a : Act} {w : World} (h : Q .normal a w) : chain P Q S l [] a w := h
theorem chain_cons {l : List Oper} {a : Act} {w : World} {i : Nat} {rest : List Nat} {o : Oper} (ho : l[i]? = some o) (hg : o.guard = none) (h : ∀ K : Act → World → Prop, (∀ a w, S w → chain P Q S l rest a w → K a w) → o.wp P a w K Q) : chain P Q S l (i :: rest) a w := ⟨o, ho, hg, h⟩
end
end Kit
end Go.Proofs.YtfnhcjcahcacnaaDoor
