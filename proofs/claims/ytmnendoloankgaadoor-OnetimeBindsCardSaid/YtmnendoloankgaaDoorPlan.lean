/- A law for regions that draw their order: reading heads and forced operations, as a plan says; strings in memory: no function of the program is walked here. -/
import Derived.Test.YtmnendoloankgaaDoorShelf
namespace Go.Proofs.YtmnendoloankgaaDoor
set_option linter.unusedVariables false
set_option linter.unusedSimpArgs false
namespace Kit
section
variable {P : Program} {md : Region.Mode} {Q : Exit → Act → World → Prop} {S : World → Prop}
/-- true: the operation yields a value in every world that meets S; false: it is carried out, and S holds behind it. -/
def plan (P : Program) (Q : Exit → Act → World → Prop) (S : World → Prop) (l : List Oper) : List (Bool × Nat) → Act → World → Prop
  | [], a, w => Q .normal a w
  | (true, i) :: rest, a, w => ∃ o, l[i]? = some o ∧ ∃ v, YieldsIf P l.toArray S o v a ∧ plan P Q S l rest (a.put o.dst v) w
  | (false, i) :: rest, a, w => ∃ o, l[i]? = some o ∧ o.guard = none ∧ ∀ K : Act → World → Prop, (∀ a w, S w → plan P Q S l rest a w → K a w) → o.wp P a w K Q
def planOk (md : Region.Mode) (ops : Array Oper) : List (Bool × Nat) → Array Bool → Bool
  | [], listed => (Region.ready md ops listed).isEmpty
  | (true, i) :: rest, listed => Region.free md ops listed i && (Region.ready md ops listed).contains i && planOk md ops rest (listed.setIfInBounds i true)
  | (false, i) :: rest, listed => decide (Region.ready md ops listed = [i]) && planOk md ops rest (listed.setIfInBounds i true)
theorem any_of_plan {l : List Oper} (hsel : Region.noSelect l.toArray = true) (hQ : ∀ c a d v w, Q (.panic c) (a.put d v) w → Q (.panic c) a w) :
    ∀ (ps : List (Bool × Nat)) (listed : Array Bool) (a : Act) (w : World), S w → planOk md l.toArray ps listed = true → plan P Q S l ps a w → wpAnyH P md l.toArray Q S ps.length listed a w
  | [], listed, a, w, _, hB, h => by
    simp only [planOk, List.isEmpty_iff] at hB
    exact wpAnyH_done hB h 0
  | (true, i) :: rest, listed, a, w, hS, hB, h => by
    simp only [planOk, Bool.and_eq_true] at hB
    obtain ⟨o, ho, v, hy, hr⟩ := h
    exact wpAnyH_take (by simpa using ho) hsel hB.1.1 hB.1.2 (fun c a w => hQ c a _ v w) hy hS (any_of_plan hsel hQ rest _ _ _ hS hB.2 hr)
  | (false, i) :: rest, listed, a, w, hS, hB, h => by
    simp only [planOk, Bool.and_eq_true, decide_eq_true_eq] at hB
    obtain ⟨o, ho, hg, hw⟩ := h
    refine wpAnyH_all hB.1 (by simp) ?_
    intro j hj
    have hji : j = i := by simpa using hj
    subst hji
    have ho' : l.toArray[j]? = some o := by simpa using ho
    unfold wpOp
    rw [ho']
    show if Region.wanted o (yielded l.toArray a.tmps) = true then _ else _
    rw [if_pos (by simp [Region.wanted, hg])]
    exact .inl (hw _ fun a w hS hc => ⟨hS, any_of_plan hsel hQ rest _ a w hS hB.2 hc⟩)
theorem wp_region_plan {id : Nat} {a : Act} {w : World} {l : List Oper} (S : World → Prop) (ps : List (Bool × Nat)) (hm : P.follows .mixedOrders = true) (hsel : Region.noSelect l.toArray = true) (hn : l.length = ps.length)
    (hB : planOk .any l.toArray ps (Array.replicate l.length false) = true) (hS : S w.drew)
    (h : plan P (NoPanic Q) S l ps a w.drew) : (Code.region id l.toArray true).wp P Q a w := by
  refine wp_region_noPanic (wp_region_held (S := S) hm ?_)
  have H := any_of_plan hsel (fun _ _ _ _ _ h => h) ps _ _ _ hS hB h
  rw [← hn] at H
  have e : l.toArray.size = l.length := List.size_toArray
  rw [e]
  exact H
theorem plan_done {l : List Oper} {a : Act} {w : World} (h : Q .normal a w) : plan P (NoPanic Q) S l [] a w := h
theorem plan_head {l : List Oper} {a : Act} {w : World} {i : Nat} {rest : List (Bool × Nat)} {o : Oper} {v : Value} (ho : l[i]? = some o) (hy : YieldsIf P l.toArray S o v a) (h : plan P Q S l rest (a.put o.dst v) w) : plan P Q S l ((true, i) :: rest) a w := ⟨o, ho, v, hy, h⟩
theorem plan_op {l : List Oper} {a : Act} {w : World} {i : Nat} {rest : List (Bool × Nat)} {o : Oper} (ho : l[i]? = some o) (hg : o.guard = none) (h : ∀ K : Act → World → Prop, (∀ a w, S w → plan P Q S l rest a w → K a w) → o.wp P a w K Q) : plan P Q S l ((false, i) :: rest) a w := ⟨o, ho, hg, h⟩
end
end Kit
open Go.RowKit
open Kit (Chg)
open Go.Proofs.YtmnendoloankgaaDoor.One

/-- Strings as the values of cells. -/
def strV (ss : List ByteArray) : List Value := ss.map Value.string
theorem strV_length (ss : List ByteArray) : (strV ss).length = ss.length := by simp [strV]
theorem strV_app (ss : List ByteArray) (s : ByteArray) : strV (ss ++ [s]) = strV ss ++ [.string s] := by simp [strV]
theorem strV_get (ss : List ByteArray) (i : Nat) (h : i < ss.length) : (strV ss)[i]? = some (.string (ss.getD i ByteArray.empty)) := by simp [strV, h]
theorem strV_one (ss : List ByteArray) : ∀ v ∈ strV ss, v.oneCell' = true := by
  intro v hv
  simp only [strV, List.mem_map] at hv
  obtain ⟨x, _, rfl⟩ := hv
  rfl
/-- A slice of the call's own that holds strings. -/
theorem strs_of_own {w : World} {base n : Nat} {v : Value} {ss : List ByteArray} (h : w.ownsRow base 9 1 v n (strV ss)) :
    ∃ a cap, v = .slice a n cap ∧ ss.length = n ∧ ss.length ≤ cap ∧ StrsAt w a ss ∧ (a = none → cap = 0) ∧ ∀ ad, a = some ad → base ≤ ad.block ∧ ad.block < w.heap.size := by
  obtain ⟨hl, hv⟩ := h
  rw [strV_length, Nat.mul_one] at hl
  subst hl
  rcases hv with ⟨rfl, h0⟩ | ⟨g, cap, cur, rfl, hbg, hg, hnc, hcm, hcs, htake⟩
  · exact ⟨none, 0, by rw [h0], rfl, by omega, .inl (List.eq_nil_of_length_eq_zero h0), fun _ => rfl, (fun ad e => by cases e)⟩
  · refine ⟨some ⟨g, 0, none⟩, cap, rfl, rfl, hnc, .inr ⟨g, 0, rfl, fun i hi => ?_⟩, (fun e => by cases e), (fun ad e => by cases e; exact ⟨hbg, (Array.getElem?_eq_some_iff.1 hg).1⟩)⟩
    rw [Nat.zero_add, cell_of_row _ _ _ _ _ _ hg]
    have h1 := strV_get ss i hi
    rw [← htake, Nat.mul_one, List.getElem?_take_of_lt hi] at h1
    simpa using h1
theorem strs_of_row {w : World} {g : Nat} {ss : List ByteArray} {t : TypeId} (h : w.heap[g]? = some (.cells (strV ss).toArray t (0, 0))) : StrsAt w (some ⟨g, 0, none⟩) ss := by
  refine .inr ⟨g, 0, rfl, fun i hi => ?_⟩
  rw [Nat.zero_add, cell_of_row _ _ _ _ _ _ h, List.getElem?_toArray]
  exact strV_get ss i hi
theorem join_nil_sep (xs : List (List UInt8)) : Go.Lib.join xs [] = xs.flatten := by
  unfold Go.Lib.join
  match xs with
  | [] => rfl
  | x :: r =>
    have h := Go.Lib.join_cons x r []
    unfold Go.Lib.join at h
    rw [h]
    unfold Go.Lib.joinTail
    simp
theorem nb_join (vs : List ByteArray) : nb ⟨((vs.map (·.data.toList)).flatten).toArray⟩ = catB vs := by
  unfold nb catB
  simp only [List.toList_toArray]
  induction vs with
  | nil => rfl
  | cons v vs ih => rw [List.map_cons, List.flatten_cons, List.map_append, ih, List.flatMap_cons]; rfl
/-- sha256.Join, with letters. -/
theorem join_l (a : Option Addr) (cap : Nat) (ss : List ByteArray) (L : Nat) (hLe : ss.length = L) (hl : (catB ss).length ≤ 100000000000) (hn : ss.length ≤ 1000000000) (w : World) (hS : StrsAt w a ss) (hL : Laid w) (T : List Nat) (hT : catB ss = T) :
    Calls Tryd.prog 109 #[.slice a L cap] w fun e w' => ∃ u : ByteArray, e = .returned (.string u) ∧ nb u = Sha.sum T ∧ Below w.heap.size w w' := by
  subst hLe hT
  refine (join_any a cap ss hl hn w hS hL.kon hL.init).mono ?_
  rintro e w' ⟨bs, rfl, h1, h2⟩
  exact ⟨strB bs, rfl, by rw [h1]; exact nb_strB (Sha.sum_lt _), h2⟩
/-- strings.Join with no separator. -/
theorem glue_l (bk o c : Nat) (vs : List ByteArray) (L : Nat) (hLe : vs.length = L) (h0 : 0 < vs.length) (hN : vs.length ≤ 1000000) (hcap : vs.length ≤ c) (hl : (catB vs).length ≤ 100000000000) (w : World) (hS : ∀ i, i < vs.length → w.cell? ⟨bk, o + i, none⟩ = some (.string (vs.getD i ByteArray.empty))) (T : List Nat) (hT : catB vs = T) :
    Calls Tryd.prog 110 #[.slice (some ⟨bk, o, none⟩) L c, .string { data := #[] }] w fun e w' => ∃ u : ByteArray, e = .returned (.string u) ∧ nb u = T ∧ Below w.heap.size w w' := by
  subst hLe hT
  have hj : Go.Lib.join (vs.map (·.data.toList)) (ByteArray.mk #[]).data.toList = (vs.map (·.data.toList)).flatten := join_nil_sep _
  refine (strings_Join bk o c vs { data := #[] } w (fun j x hx => ?_) (World.block_lt_of_cell? w _ (hS 0 h0)) (by omega) hcap ?_).mono ?_
  · have hjl := (List.getElem?_eq_some_iff.1 hx).1
    rw [hS j hjl, List.getD_eq_getElem?_getD, hx]; rfl
  · rw [hj]
    have h1 := congrArg List.length (nb_join vs)
    rw [nb_length] at h1
    have h2 : (ByteArray.mk ((vs.map (·.data.toList)).flatten).toArray).size = ((vs.map (·.data.toList)).flatten).length := by simp [ByteArray.size]
    omega
  · rintro e w' ⟨rfl, h2⟩
    exact ⟨_, rfl, by rw [hj]; exact nb_join vs, h2⟩
end Go.Proofs.YtmnendoloankgaaDoor
