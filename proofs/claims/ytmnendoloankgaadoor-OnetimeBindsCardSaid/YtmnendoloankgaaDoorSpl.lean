/- The law of text Plg, where what holds all along may grow behind an operation: a later reading may lean on what a call has laid. -/
import Derived.Test.YtmnendoloankgaaDoorPlg
namespace Go.Proofs.YtmnendoloankgaaDoor
set_option linter.unusedVariables false
set_option linter.unusedSimpArgs false
namespace Kit
section
variable {P : Program} {md : Region.Mode} {Q : Exit → Act → World → Prop}
theorem anyH_mono {ops : Array Oper} {S S2 : World → Prop} (hS : ∀ V, S2 V → S V) : ∀ (fuel : Nat) (listed : Array Bool) (a : Act) (w : World), wpAnyH P md ops Q S2 fuel listed a w → wpAnyH P md ops Q S fuel listed a w
  | 0, _, _, _, h => h
  | fuel + 1, _, _, _, h => ⟨h.1, fun i hi => wpOp_mono (fun a' w' h' => ⟨hS _ h'.1, anyH_mono hS fuel _ a' w' h'.2⟩) (h.2 i hi)⟩
def splan (P : Program) (Q : Exit → Act → World → Prop) (l : List Oper) : List (Bool × Nat) → (World → Prop) → Act → World → Prop
  | [], _, a, w => Q .normal a w
  | (true, i) :: rest, S, a, w => ∃ o, l[i]? = some o ∧ ∃ v, YieldsIf P l.toArray S o v a ∧ splan P Q l rest S (a.put o.dst v) w
  | (false, i) :: rest, S, a, w => ∃ o, l[i]? = some o ∧ Region.wanted o (yielded l.toArray a.tmps) = true ∧ ∀ K : Act → World → Prop, (∀ S2 : World → Prop, (∀ V, S2 V → S V) → ∀ a w, S2 w → splan P Q l rest S2 a w → K a w) → o.wp P a w K Q
theorem any_of_splan {l : List Oper} (hsel : Region.noSelect l.toArray = true) (hQ : ∀ c a d v w, Q (.panic c) (a.put d v) w → Q (.panic c) a w) :
    ∀ (ps : List (Bool × Nat)) (S : World → Prop) (listed : Array Bool) (a : Act) (w : World), S w → gplanOk md l.toArray ps listed = true → splan P Q l ps S a w → wpAnyH P md l.toArray Q S ps.length listed a w
  | [], S, listed, a, w, _, hB, h => by
    simp only [gplanOk, List.isEmpty_iff] at hB
    exact wpAnyH_done hB h 0
  | (true, i) :: rest, S, listed, a, w, hS, hB, h => by
    simp only [gplanOk, Bool.and_eq_true] at hB
    obtain ⟨o, ho, v, hy, hr⟩ := h
    exact wpAnyH_take (by simpa using ho) hsel hB.1.1 hB.1.2 (fun c a w => hQ c a _ v w) hy hS (any_of_splan hsel hQ rest S _ _ _ hS hB.2 hr)
  | (false, i) :: rest, S, listed, a, w, hS, hB, h => by
    simp only [gplanOk, Bool.and_eq_true, decide_eq_true_eq] at hB
    obtain ⟨o, ho, hg, hw⟩ := h
    refine wpAnyH_all hB.1 (by simp) ?_
    intro j hj
    have hji : j = i := by simpa using hj
    subst hji
    have ho' : l.toArray[j]? = some o := by simpa using ho
    unfold wpOp
    rw [ho']
    show if Region.wanted o (yielded l.toArray a.tmps) = true then _ else _
    rw [if_pos hg]
    exact .inl (hw _ fun S2 hS2 a w hS hc => ⟨hS2 _ hS, anyH_mono hS2 _ _ _ _ (any_of_splan hsel hQ rest S2 _ a w hS hB.2 hc)⟩)
theorem wp_region_splan {id : Nat} {a : Act} {w : World} {l : List Oper} (S : World → Prop) (ps : List (Bool × Nat)) (hm : P.follows .mixedOrders = true) (hsel : Region.noSelect l.toArray = true) (hn : l.length = ps.length)
    (hB : gplanOk .any l.toArray ps (Array.replicate l.length false) = true) (hS : S w.drew)
    (h : splan P (NoPanic Q) l ps S a w.drew) : (Code.region id l.toArray true).wp P Q a w := by
  refine wp_region_noPanic (wp_region_held (S := S) hm ?_)
  have H := any_of_splan hsel (fun _ _ _ _ _ h => h) ps S _ _ _ hS hB h
  rw [← hn] at H
  have e : l.toArray.size = l.length := List.size_toArray
  rw [e]
  exact H
theorem splan_done {l : List Oper} {S : World → Prop} {a : Act} {w : World} (h : Q .normal a w) : splan P (NoPanic Q) l [] S a w := h
theorem splan_head {l : List Oper} {S : World → Prop} {a : Act} {w : World} {i : Nat} {rest : List (Bool × Nat)} {o : Oper} {v : Value} (ho : l[i]? = some o) (hy : YieldsIf P l.toArray S o v a) (h : splan P Q l rest S (a.put o.dst v) w) : splan P Q l ((true, i) :: rest) S a w := ⟨o, ho, v, hy, h⟩
theorem splan_op {l : List Oper} {S : World → Prop} {a : Act} {w : World} {i : Nat} {rest : List (Bool × Nat)} {o : Oper} (ho : l[i]? = some o) (hg : Region.wanted o (yielded l.toArray a.tmps) = true) (h : ∀ K : Act → World → Prop, (∀ S2 : World → Prop, (∀ V, S2 V → S V) → ∀ a w, S2 w → splan P Q l rest S2 a w → K a w) → o.wp P a w K Q) : splan P Q l ((false, i) :: rest) S a w := ⟨o, ho, hg, h⟩
end
end Kit
end Go.Proofs.YtmnendoloankgaaDoor
