/- The law of text Plg, where calls may also be unwanted. -/
import Derived.Test.YtjhpdchcmfghpaaGreatDoorGc
namespace Go.Proofs.YtjhpdchcmfghpaaGreatDoor
set_option linter.unusedVariables false
set_option linter.unusedSimpArgs false
namespace Kit
section
variable {P : Program} {md : Region.Mode} {Q : Exit → Act → World → Prop} {S : World → Prop}
/-- true: the operation yields a value in every world that meets S; false: it is carried out, and S holds behind it. -/
def hplan (P : Program) (Q : Exit → Act → World → Prop) (S : World → Prop) (l : List Oper) : List (Bool × Nat) → Act → World → Prop
  | [], a, w => Q .normal a w
  | (true, i) :: rest, a, w => ∃ o, l[i]? = some o ∧ ∃ v, YieldsIf P l.toArray S o v a ∧ hplan P Q S l rest (a.put o.dst v) w
  | (false, i) :: rest, a, w => ∃ o, l[i]? = some o ∧ ((Region.wanted o (yielded l.toArray a.tmps) = true ∧ ∀ K : Act → World → Prop, (∀ a w, S w → hplan P Q S l rest a w → K a w) → o.wp P a w K Q) ∨ (Region.wanted o (yielded l.toArray a.tmps) = false ∧ hplan P Q S l rest (a.put o.dst undef) w))
def hplanOk (md : Region.Mode) (ops : Array Oper) : List (Bool × Nat) → Array Bool → Bool
  | [], listed => (Region.ready md ops listed).isEmpty
  | (true, i) :: rest, listed => Region.free md ops listed i && (Region.ready md ops listed).contains i && hplanOk md ops rest (listed.setIfInBounds i true)
  | (false, i) :: rest, listed => decide (Region.ready md ops listed = [i]) && hplanOk md ops rest (listed.setIfInBounds i true)
theorem any_of_hplan {l : List Oper} (hsel : Region.noSelect l.toArray = true) (hQ : ∀ c a d v w, Q (.panic c) (a.put d v) w → Q (.panic c) a w) :
    ∀ (ps : List (Bool × Nat)) (listed : Array Bool) (a : Act) (w : World), S w → hplanOk md l.toArray ps listed = true → hplan P Q S l ps a w → wpAnyH P md l.toArray Q S ps.length listed a w
  | [], listed, a, w, _, hB, h => by
    simp only [hplanOk, List.isEmpty_iff] at hB
    exact wpAnyH_done hB h 0
  | (true, i) :: rest, listed, a, w, hS, hB, h => by
    simp only [hplanOk, Bool.and_eq_true] at hB
    obtain ⟨o, ho, v, hy, hr⟩ := h
    exact wpAnyH_take (by simpa using ho) hsel hB.1.1 hB.1.2 (fun c a w => hQ c a _ v w) hy hS (any_of_hplan hsel hQ rest _ _ _ hS hB.2 hr)
  | (false, i) :: rest, listed, a, w, hS, hB, h => by
    simp only [hplanOk, Bool.and_eq_true, decide_eq_true_eq] at hB
    obtain ⟨o, ho, hgw⟩ := h
    refine wpAnyH_all hB.1 (by simp) ?_
    intro j hj
    have hji : j = i := by simpa using hj
    subst hji
    have ho' : l.toArray[j]? = some o := by simpa using ho
    unfold wpOp
    rw [ho']
    show if Region.wanted o (yielded l.toArray a.tmps) = true then _ else _
    rcases hgw with ⟨hg, hw⟩ | ⟨hg, hw⟩
    · rw [if_pos hg]
      exact .inl (hw _ fun a w hS hc => ⟨hS, any_of_hplan hsel hQ rest _ a w hS hB.2 hc⟩)
    · rw [if_neg (by rw [hg]; decide)]
      exact ⟨hS, any_of_hplan hsel hQ rest _ _ _ hS hB.2 hw⟩
theorem wp_region_hplan {id : Nat} {a : Act} {w : World} {l : List Oper} (S : World → Prop) (ps : List (Bool × Nat)) (hm : P.follows .mixedOrders = true) (hsel : Region.noSelect l.toArray = true) (hn : l.length = ps.length)
    (hB : hplanOk .any l.toArray ps (Array.replicate l.length false) = true) (hS : S w.drew)
    (h : hplan P (NoPanic Q) S l ps a w.drew) : (Code.region id l.toArray true).wp P Q a w := by
  refine wp_region_noPanic (wp_region_held (S := S) hm ?_)
  have H := any_of_hplan hsel (fun _ _ _ _ _ h => h) ps _ _ _ hS hB h
  rw [← hn] at H
  have e : l.toArray.size = l.length := List.size_toArray
  rw [e]
  exact H
theorem hplan_done {l : List Oper} {a : Act} {w : World} (h : Q .normal a w) : hplan P (NoPanic Q) S l [] a w := h
theorem hplan_head {l : List Oper} {a : Act} {w : World} {i : Nat} {rest : List (Bool × Nat)} {o : Oper} {v : Value} (ho : l[i]? = some o) (hy : YieldsIf P l.toArray S o v a) (h : hplan P Q S l rest (a.put o.dst v) w) : hplan P Q S l ((true, i) :: rest) a w := ⟨o, ho, v, hy, h⟩
theorem hplan_op {l : List Oper} {a : Act} {w : World} {i : Nat} {rest : List (Bool × Nat)} {o : Oper} (ho : l[i]? = some o) (hg : Region.wanted o (yielded l.toArray a.tmps) = true) (h : ∀ K : Act → World → Prop, (∀ a w, S w → hplan P Q S l rest a w → K a w) → o.wp P a w K Q) : hplan P Q S l ((false, i) :: rest) a w := ⟨o, ho, .inl ⟨hg, h⟩⟩
/-- A call that is not wanted. -/
theorem hplan_skip {l : List Oper} {a : Act} {w : World} {i : Nat} {rest : List (Bool × Nat)} {o : Oper} (ho : l[i]? = some o) (hg : Region.wanted o (yielded l.toArray a.tmps) = false) (h : hplan P Q S l rest (a.put o.dst undef) w) : hplan P Q S l ((false, i) :: rest) a w := ⟨o, ho, .inr ⟨hg, h⟩⟩
end
end Kit
end Go.Proofs.YtjhpdchcmfghpaaGreatDoor
