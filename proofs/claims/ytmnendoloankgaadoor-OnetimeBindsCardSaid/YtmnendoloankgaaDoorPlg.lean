/- The law of text Plan, where operations may be guarded: each one that is carried out is shown to be wanted. -/
import Derived.Test.YtmnendoloankgaaDoorRefD
namespace Go.Proofs.YtmnendoloankgaaDoor
set_option linter.unusedVariables false
set_option linter.unusedSimpArgs false
namespace Kit
section
variable {P : Program} {md : Region.Mode} {Q : Exit → Act → World → Prop} {S : World → Prop}
/-- true: the operation yields a value in every world that meets S; false: it is carried out, and S holds behind it. -/
def gplan (P : Program) (Q : Exit → Act → World → Prop) (S : World → Prop) (l : List Oper) : List (Bool × Nat) → Act → World → Prop
  | [], a, w => Q .normal a w
  | (true, i) :: rest, a, w => ∃ o, l[i]? = some o ∧ ∃ v, YieldsIf P l.toArray S o v a ∧ gplan P Q S l rest (a.put o.dst v) w
  | (false, i) :: rest, a, w => ∃ o, l[i]? = some o ∧ Region.wanted o (yielded l.toArray a.tmps) = true ∧ ∀ K : Act → World → Prop, (∀ a w, S w → gplan P Q S l rest a w → K a w) → o.wp P a w K Q
def gplanOk (md : Region.Mode) (ops : Array Oper) : List (Bool × Nat) → Array Bool → Bool
  | [], listed => (Region.ready md ops listed).isEmpty
  | (true, i) :: rest, listed => Region.free md ops listed i && (Region.ready md ops listed).contains i && gplanOk md ops rest (listed.setIfInBounds i true)
  | (false, i) :: rest, listed => decide (Region.ready md ops listed = [i]) && gplanOk md ops rest (listed.setIfInBounds i true)
theorem any_of_gplan {l : List Oper} (hsel : Region.noSelect l.toArray = true) (hQ : ∀ c a d v w, Q (.panic c) (a.put d v) w → Q (.panic c) a w) :
    ∀ (ps : List (Bool × Nat)) (listed : Array Bool) (a : Act) (w : World), S w → gplanOk md l.toArray ps listed = true → gplan P Q S l ps a w → wpAnyH P md l.toArray Q S ps.length listed a w
  | [], listed, a, w, _, hB, h => by
    simp only [gplanOk, List.isEmpty_iff] at hB
    exact wpAnyH_done hB h 0
  | (true, i) :: rest, listed, a, w, hS, hB, h => by
    simp only [gplanOk, Bool.and_eq_true] at hB
    obtain ⟨o, ho, v, hy, hr⟩ := h
    exact wpAnyH_take (by simpa using ho) hsel hB.1.1 hB.1.2 (fun c a w => hQ c a _ v w) hy hS (any_of_gplan hsel hQ rest _ _ _ hS hB.2 hr)
  | (false, i) :: rest, listed, a, w, hS, hB, h => by
    simp only [gplanOk, Bool.and_eq_true, decide_eq_true_eq] at hB
    obtain ⟨o, ho, hg, hw⟩ := h
    refine wpAnyH_all hB.1 (by simp) ?_
    intro j hj
    have hji : j = i := by simpa using hj
    subst hji
    have ho' : l.toArray[j]? = some o := by simpa using ho
    unfold wpOp
    rw [ho']
    show if Region.wanted o (yielded l.toArray a.tmps) = true then _ else _
    rw [if_pos hg]
    exact .inl (hw _ fun a w hS hc => ⟨hS, any_of_gplan hsel hQ rest _ a w hS hB.2 hc⟩)
theorem wp_region_gplan {id : Nat} {a : Act} {w : World} {l : List Oper} (S : World → Prop) (ps : List (Bool × Nat)) (hm : P.follows .mixedOrders = true) (hsel : Region.noSelect l.toArray = true) (hn : l.length = ps.length)
    (hB : gplanOk .any l.toArray ps (Array.replicate l.length false) = true) (hS : S w.drew)
    (h : gplan P (NoPanic Q) S l ps a w.drew) : (Code.region id l.toArray true).wp P Q a w := by
  refine wp_region_noPanic (wp_region_held (S := S) hm ?_)
  have H := any_of_gplan hsel (fun _ _ _ _ _ h => h) ps _ _ _ hS hB h
  rw [← hn] at H
  have e : l.toArray.size = l.length := List.size_toArray
  rw [e]
  exact H
theorem gplan_done {l : List Oper} {a : Act} {w : World} (h : Q .normal a w) : gplan P (NoPanic Q) S l [] a w := h
theorem gplan_head {l : List Oper} {a : Act} {w : World} {i : Nat} {rest : List (Bool × Nat)} {o : Oper} {v : Value} (ho : l[i]? = some o) (hy : YieldsIf P l.toArray S o v a) (h : gplan P Q S l rest (a.put o.dst v) w) : gplan P Q S l ((true, i) :: rest) a w := ⟨o, ho, v, hy, h⟩
theorem gplan_op {l : List Oper} {a : Act} {w : World} {i : Nat} {rest : List (Bool × Nat)} {o : Oper} (ho : l[i]? = some o) (hg : Region.wanted o (yielded l.toArray a.tmps) = true) (h : ∀ K : Act → World → Prop, (∀ a w, S w → gplan P Q S l rest a w → K a w) → o.wp P a w K Q) : gplan P Q S l ((false, i) :: rest) a w := ⟨o, ho, hg, h⟩
end
end Kit
end Go.Proofs.YtmnendoloankgaaDoor
