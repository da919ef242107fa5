/- The law of text Plg as a tree: where two operations are ready at once, both orders are followed. -/
import Derived.Test.YtjhpdchcmfghpaaGreatDoorGc
namespace Go.Proofs.YtjhpdchcmfghpaaGreatDoor
set_option linter.unusedVariables false
set_option linter.unusedSimpArgs false
namespace Kit
inductive TP where
  | done : TP
  | head : Nat → TP → TP
  | op1 : Nat → TP → TP
  | op2 : Nat → TP → Nat → TP → TP
def TP.depth : TP → Nat
  | .done => 0
  | .head _ r => r.depth + 1
  | .op1 _ r => r.depth + 1
  | .op2 _ r _ _ => r.depth + 1
/-- Heads, one behind the other. -/
def TP.heads : List Nat → TP → TP
  | [], r => r
  | i :: l, r => .head i (heads l r)
section
variable {P : Program} {md : Region.Mode} {Q : Exit → Act → World → Prop} {S : World → Prop}
def tplan (P : Program) (Q : Exit → Act → World → Prop) (S : World → Prop) (l : List Oper) : TP → Act → World → Prop
  | .done, a, w => Q .normal a w
  | .head i r, a, w => ∃ o, l[i]? = some o ∧ ∃ v, YieldsIf P l.toArray S o v a ∧ tplan P Q S l r (a.put o.dst v) w
  | .op1 i r, a, w => ∃ o, l[i]? = some o ∧ Region.wanted o (yielded l.toArray a.tmps) = true ∧ ∀ K : Act → World → Prop, (∀ a w, S w → tplan P Q S l r a w → K a w) → o.wp P a w K Q
  | .op2 i r j s, a, w => (∃ o, l[i]? = some o ∧ Region.wanted o (yielded l.toArray a.tmps) = true ∧ ∀ K : Act → World → Prop, (∀ a w, S w → tplan P Q S l r a w → K a w) → o.wp P a w K Q) ∧
      ∃ o, l[j]? = some o ∧ Region.wanted o (yielded l.toArray a.tmps) = true ∧ ∀ K : Act → World → Prop, (∀ a w, S w → tplan P Q S l s a w → K a w) → o.wp P a w K Q
def tplanOk (md : Region.Mode) (ops : Array Oper) : TP → Array Bool → Bool
  | .done, listed => (Region.ready md ops listed).isEmpty
  | .head i r, listed => Region.free md ops listed i && (Region.ready md ops listed).contains i && tplanOk md ops r (listed.setIfInBounds i true)
  | .op1 i r, listed => decide (Region.ready md ops listed = [i]) && tplanOk md ops r (listed.setIfInBounds i true)
  | .op2 i r j s, listed => decide (Region.ready md ops listed = [i, j]) && decide (r.depth = s.depth) && tplanOk md ops r (listed.setIfInBounds i true) && tplanOk md ops s (listed.setIfInBounds j true)
theorem any_of_tplan {l : List Oper} (hsel : Region.noSelect l.toArray = true) (hQ : ∀ c a d v w, Q (.panic c) (a.put d v) w → Q (.panic c) a w) :
    ∀ (t : TP) (listed : Array Bool) (a : Act) (w : World), S w → tplanOk md l.toArray t listed = true → tplan P Q S l t a w → wpAnyH P md l.toArray Q S t.depth listed a w
  | .done, listed, a, w, _, hB, h => by
    simp only [tplanOk, List.isEmpty_iff] at hB
    exact wpAnyH_done hB h 0
  | .head i r, listed, a, w, hS, hB, h => by
    simp only [tplanOk, Bool.and_eq_true] at hB
    obtain ⟨o, ho, v, hy, hr⟩ := h
    exact wpAnyH_take (by simpa using ho) hsel hB.1.1 hB.1.2 (fun c a w => hQ c a _ v w) hy hS (any_of_tplan hsel hQ r _ _ _ hS hB.2 hr)
  | .op1 i r, listed, a, w, hS, hB, h => by
    simp only [tplanOk, Bool.and_eq_true, decide_eq_true_eq] at hB
    obtain ⟨o, ho, hg, hw⟩ := h
    refine wpAnyH_all hB.1 (by simp) ?_
    intro j hj
    have hji : j = i := by simpa using hj
    subst hji
    have ho' : l.toArray[j]? = some o := by simpa using ho
    unfold wpOp
    rw [ho']
    show if Region.wanted o (yielded l.toArray a.tmps) = true then _ else _
    rw [if_pos hg]
    exact .inl (hw _ fun a w hS hc => ⟨hS, any_of_tplan hsel hQ r _ a w hS hB.2 hc⟩)
  | .op2 i r j s, listed, a, w, hS, hB, h => by
    simp only [tplanOk, Bool.and_eq_true, decide_eq_true_eq] at hB
    obtain ⟨⟨⟨hr, hd⟩, hB1⟩, hB2⟩ := hB
    obtain ⟨⟨o, ho, hg, hw⟩, ⟨o2, ho2, hg2, hw2⟩⟩ := h
    refine wpAnyH_all hr (by simp) ?_
    intro k hk
    have hki : k = i ∨ k = j := by simpa using hk
    rcases hki with rfl | rfl
    · have ho' : l.toArray[k]? = some o := by simpa using ho
      unfold wpOp
      rw [ho']
      show if Region.wanted o (yielded l.toArray a.tmps) = true then _ else _
      rw [if_pos hg]
      exact .inl (hw _ fun a w hS hc => ⟨hS, any_of_tplan hsel hQ r _ a w hS hB1 hc⟩)
    · have ho' : l.toArray[k]? = some o2 := by simpa using ho2
      unfold wpOp
      rw [ho']
      show if Region.wanted o2 (yielded l.toArray a.tmps) = true then _ else _
      rw [if_pos hg2]
      refine .inl (hw2 _ fun a w hS hc => ⟨hS, ?_⟩)
      have h := any_of_tplan hsel hQ s _ a w hS hB2 hc
      rw [← hd] at h
      exact h
theorem wp_region_tplan {id : Nat} {a : Act} {w : World} {l : List Oper} (S : World → Prop) (t : TP) (hm : P.follows .mixedOrders = true) (hsel : Region.noSelect l.toArray = true) (hn : l.length = t.depth)
    (hB : tplanOk .any l.toArray t (Array.replicate l.length false) = true) (hS : S w.drew)
    (h : tplan P (NoPanic Q) S l t a w.drew) : (Code.region id l.toArray true).wp P Q a w := by
  refine wp_region_noPanic (wp_region_held (S := S) hm ?_)
  have H := any_of_tplan hsel (fun _ _ _ _ _ h => h) t _ _ _ hS hB h
  rw [← hn] at H
  have e : l.toArray.size = l.length := List.size_toArray
  rw [e]
  exact H
theorem tplan_done {l : List Oper} {a : Act} {w : World} (h : Q .normal a w) : tplan P (NoPanic Q) S l .done a w := h
theorem tplan_head {l : List Oper} {a : Act} {w : World} {i : Nat} {rest : TP} {o : Oper} {v : Value} (ho : l[i]? = some o) (hy : YieldsIf P l.toArray S o v a) (h : tplan P Q S l rest (a.put o.dst v) w) : tplan P Q S l (.head i rest) a w := ⟨o, ho, v, hy, h⟩
theorem tplan_op1 {l : List Oper} {a : Act} {w : World} {i : Nat} {rest : TP} {o : Oper} (ho : l[i]? = some o) (hg : Region.wanted o (yielded l.toArray a.tmps) = true) (h : ∀ K : Act → World → Prop, (∀ a w, S w → tplan P Q S l rest a w → K a w) → o.wp P a w K Q) : tplan P Q S l (.op1 i rest) a w := ⟨o, ho, hg, h⟩
theorem tplan_op2 {l : List Oper} {a : Act} {w : World} {i j : Nat} {r s : TP} (h1 : tplan P Q S l (.op1 i r) a w) (h2 : tplan P Q S l (.op1 j s) a w) : tplan P Q S l (.op2 i r j s) a w := ⟨h1, h2⟩
end
/-- The ways through a region meet again: what stands behind it is shown once, of a state that is left open until the first way ends ('apply', not 'refine'). -/
theorem join8 {P : Program} {id : Nat} {ops : Array Oper} {Q : Exit → Act → World → Prop} {a : Act} {w : World} (act : Nat → ByteArray → Option Addr → Nat → Nat → Option Addr → Nat → Nat → Act) (F : Nat → ByteArray → Option Addr → Nat → Nat → Option Addr → Nat → Nat → World → Prop)
    (main : (∀ n u b1 m1 d1 b2 m2 d2 V, F n u b1 m1 d1 b2 m2 d2 V → Q .normal (act n u b1 m1 d1 b2 m2 d2) V) → (Code.region id ops true).wp P Q a w)
    (rest : ∀ n u b1 m1 d1 b2 m2 d2 V, F n u b1 m1 d1 b2 m2 d2 V → Q .normal (act n u b1 m1 d1 b2 m2 d2) V) : (Code.region id ops true).wp P Q a w := main rest
theorem join5 {P : Program} {id : Nat} {ops : Array Oper} {Q : Exit → Act → World → Prop} {a : Act} {w : World} (act : Nat → Nat → ByteArray → ByteArray → Bool → Act) (F : Nat → Nat → ByteArray → ByteArray → Bool → World → Prop)
    (main : (∀ n m u v b V, F n m u v b V → Q .normal (act n m u v b) V) → (Code.region id ops true).wp P Q a w)
    (rest : ∀ n m u v b V, F n m u v b V → Q .normal (act n m u v b) V) : (Code.region id ops true).wp P Q a w := main rest
end Kit
end Go.Proofs.YtjhpdchcmfghpaaGreatDoor
