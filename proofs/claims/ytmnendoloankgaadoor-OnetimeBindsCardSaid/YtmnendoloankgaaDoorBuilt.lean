/- What a struct literal of large parts yields: no program is named here. -/
import Derived.Test.YtmnendoloankgaaDoorStr
namespace Go.Proofs.YtmnendoloankgaaDoor
set_option linter.unusedVariables false
set_option linter.unusedSimpArgs false
namespace Kit
variable {P : Program}

theorem foldl_splice (off : Nat) (vs : List Value) (cells : Array Value) (h : off + vs.length ≤ cells.size) :
    (vs.zipIdx 0).foldl (fun cs (x : Value × Nat) => cs.setIfInBounds (off + x.2) x.1) cells = (splice cells.toList off vs).toArray := by
  obtain ⟨h1, h2⟩ := Great.foldl_set off vs 0 cells
  apply Array.ext_getElem?
  intro k
  rw [h2 k]
  simp only [splice, List.getElem?_toArray, Nat.add_zero]
  have hl : (cells.toList.take off).length = off := by rw [List.length_take, Array.length_toList]; omega
  by_cases hk : k < off
  · rw [if_neg (by omega), List.getElem?_append_left (by rw [hl]; exact hk), List.getElem?_take_of_lt hk]
    simp
  · by_cases hk2 : k < off + vs.length
    · rw [if_pos ⟨by omega, hk2, by omega⟩, List.getElem?_append_right (by rw [hl]; omega), hl, List.getElem?_append_left (by omega)]
    · rw [if_neg (by omega), List.getElem?_append_right (by rw [hl]; omega), hl, List.getElem?_append_right (by omega), List.getElem?_drop]
      rw [show off + vs.length + (k - off - vs.length) = k by omega]
      simp

theorem splice_at {α : Type} (A Z C : List α) (off : Nat) (h : A.length = off) : splice (A ++ Z) off C = A ++ (C ++ Z.drop C.length) := by
  unfold splice
  subst h
  rw [List.take_left, ← List.drop_drop, List.drop_left]
theorem splice_length {α : Type} (L C : List α) (off : Nat) (h : off + C.length ≤ L.length) : (splice L off C).length = L.length := by
  unfold splice
  simp only [List.length_append, List.length_take, List.length_drop]
  omega
theorem fill_put {place : Nat → Option (Nat × Nat)} {cells : Array Value} {i off size : Nat} {v : Value} {rest : List (Nat × Value)} (hp : place i = some (off, size)) (hs : v.cells.size = size) (hle : off + size ≤ cells.size) :
    Instr.fill place cells ((i, v) :: rest) = Instr.fill place (splice cells.toList off v.cells.toList).toArray rest := by
  conv => lhs; unfold Instr.fill
  simp only [hp]
  rw [if_neg (by simp; omega)]
  congr 1
  have := foldl_splice off v.cells.toList cells (by simp; omega)
  rw [← this, ← Array.foldl_toList]
  simp

theorem fill_nil {place : Nat → Option (Nat × Nat)} {cells : Array Value} : Instr.fill place cells [] = some cells := rfl
theorem wp_build_to {o : Oper} {a : Act} {w : World} {K : Act → World → Prop} {Q : Exit → Act → World → Prop} (t : TypeId) (parts : Array (Nat × Operand)) (ho : o.op = .build t parts) (cells : Array Value)
    (hf : P.built t (parts.map fun (i, x) => (i, a.eval x)).toList = some cells) (h : K (a.put o.dst (.agg cells)) w) : o.wp P a w K Q := by
  refine wp_build t parts ho (by rw [hf]; rfl) ?_
  rw [hf]
  exact h
theorem wp_build_list {o : Oper} {a : Act} {w : World} {K : Act → World → Prop} {Q : Exit → Act → World → Prop} (t : TypeId) (parts : List (Nat × Operand)) (ho : o.op = .build t parts.toArray) (cells : Array Value)
    (hf : P.built t (parts.map fun x => (x.1, a.eval x.2)) = some cells) (h : K (a.put o.dst (.agg cells)) w) : o.wp P a w K Q :=
  wp_build_to t parts.toArray ho cells (by rw [List.map_toArray]; exact hf) h
theorem built_struct {t : TypeId} {it : TypeInfo} {z : Value} {fields : Array Field} {places : List (Nat × Nat)} {parts : List (Nat × Value)} {R : Array Value} (hi : P.info? t = some it) (hu : P.underlying t = some (.struct fields)) (hz : it.zero = some z)
    (hp : fields.toList.mapM (fun f => (P.info? f.type).map fun i => (f.offset, i.size)) = some places) (hf : Instr.fill (places.toArray[·]?) z.cells parts = some R) : P.built t parts = some R := by
  unfold Program.built
  simp only [hi, hu, hz, hp]
  exact hf
/-- A struct of two large parts that fill it. -/
theorem built_two {t : TypeId} {n1 n2 : Nat} (hz : (P.info? t).map (fun i => i.zero.map (fun z => z.cells.size)) = some (some (n1 + n2)))
    (hf : (match P.underlying t with | some (.struct fields) => fields.toList.mapM (fun f => (P.info? f.type).map fun i => (f.offset, i.size)) | _ => none) = some [(0, n1), (n1, n2)])
    (A B : Array Value) (hA : A.size = n1) (hB : B.size = n2) : P.built t [(0, .agg A), (1, .agg B)] = some (A ++ B) := by
  cases hi : P.info? t with
  | none => rw [hi] at hz; cases hz
  | some it =>
    rw [hi] at hz
    cases hzz : it.zero with
    | none => rw [Option.map_some, hzz] at hz; cases hz
    | some z =>
      rw [Option.map_some, hzz, Option.map_some, Option.some.injEq, Option.some.injEq] at hz
      cases hu : P.underlying t with
      | none => rw [hu] at hf; cases hf
      | some d =>
        rw [hu] at hf
        cases d with
        | struct fields =>
          refine built_struct hi hu hzz hf ?_
          have hA0 : (Value.agg A).cells.toList.length = n1 := by rw [Array.length_toList]; exact hA
          have hB0 : (Value.agg B).cells.toList.length = n2 := by rw [Array.length_toList]; exact hB
          have hzl : z.cells.toList.length = n1 + n2 := by rw [Array.length_toList]; exact hz
          rw [fill_put (v := .agg A) (off := 0) (size := n1) rfl hA (by omega),
            fill_put (v := .agg B) (off := n1) (size := n2) rfl hB (by rw [List.size_toArray, splice_length _ _ _ (by omega), hzl]; omega)]
          rw [fill_nil]
          refine congrArg some ?_
          have e0 := splice_at [] z.cells.toList A.toList 0 rfl
          rw [List.nil_append, List.nil_append, show A.toList.length = n1 by rw [Array.length_toList]; exact hA] at e0
          show (splice (splice z.cells.toList 0 A.toList) n1 B.toList).toArray = A ++ B
          rw [e0, splice_at A.toList _ B.toList n1 (by rw [Array.length_toList]; exact hA), List.drop_drop, List.drop_of_length_le (by rw [hzl, Array.length_toList]; omega), List.append_nil]
          rw [← Array.toList_inj]
          simp
        | _ => cases hf
/-- A struct of one part that fills it. -/
theorem built_one {t : TypeId} {n : Nat} (hz : (P.info? t).map (fun i => i.zero.map (fun z => z.cells.size)) = some (some n))
    (hf : (match P.underlying t with | some (.struct fields) => fields.toList.mapM (fun f => (P.info? f.type).map fun i => (f.offset, i.size)) | _ => none) = some [(0, n)])
    (A : Array Value) (hA : A.size = n) : P.built t [(0, .agg A)] = some A := by
  cases hi : P.info? t with
  | none => rw [hi] at hz; cases hz
  | some it =>
    rw [hi] at hz
    cases hzz : it.zero with
    | none => rw [Option.map_some, hzz] at hz; cases hz
    | some z =>
      rw [Option.map_some, hzz, Option.map_some, Option.some.injEq, Option.some.injEq] at hz
      cases hu : P.underlying t with
      | none => rw [hu] at hf; cases hf
      | some d =>
        rw [hu] at hf
        cases d with
        | struct fields =>
          refine built_struct hi hu hzz hf ?_
          have hzl : z.cells.toList.length = n := by rw [Array.length_toList]; exact hz
          rw [fill_put (v := .agg A) (off := 0) (size := n) rfl hA (by omega)]
          rw [fill_nil]
          refine congrArg some ?_
          have e0 := splice_at [] z.cells.toList A.toList 0 rfl
          rw [List.nil_append, List.nil_append] at e0
          show (splice z.cells.toList 0 A.toList).toArray = A
          rw [e0, List.drop_of_length_le (by rw [hzl, Array.length_toList]; omega), List.append_nil]
        | _ => cases hf
section
variable {md : Region.Mode} {Q : Exit → Act → World → Prop} {S : World → Prop}
theorem wpAnyH_mono {ops : Array Oper} {S S' : World → Prop} (h : ∀ w, S' w → S w) : ∀ (fuel : Nat) (listed : Array Bool) (a : Act) (w : World), wpAnyH P md ops Q S' fuel listed a w → wpAnyH P md ops Q S fuel listed a w
  | 0, _, _, _, H => H
  | fuel + 1, _, _, _, H => ⟨H.1, fun i hi => wpOp_mono (fun a' w' h' => ⟨h _ h'.1, wpAnyH_mono h fuel _ a' w' h'.2⟩) (H.2 i hi)⟩
def mid2Ok (md : Region.Mode) (ops : Array Oper) (m : Nat) (idx2 tail : List Nat) : List Nat → Array Bool → Bool
  | [], listed => decide (Region.ready md ops listed = [m]) && headsOk md ops tail idx2 (listed.setIfInBounds m true)
  | i :: rest, listed => Region.free md ops listed i && (Region.ready md ops listed).contains i && mid2Ok md ops m idx2 tail rest (listed.setIfInBounds i true)
/-- The operation m is carried out, and R holds behind it. -/
def midNext (P : Program) (Q : Exit → Act → World → Prop) (l : List Oper) (m : Nat) (R : Act → World → Prop) (a : Act) (w : World) : Prop :=
  ∃ o, l[m]? = some o ∧ o.guard = none ∧ ∀ K : Act → World → Prop, (∀ a w', R a w' → K a w') → o.wp P a w K Q
theorem any_of_mid2 {l : List Oper} {m : Nat} {idx2 tail : List Nat} {w : World} {S2 : World → Prop} (hmono : ∀ w, S2 w → S w) (hsel : Region.noSelect l.toArray = true) (hQ : ∀ c a d v w, Q (.panic c) (a.put d v) w → Q (.panic c) a w) (hS : S w) :
    ∀ (idx : List Nat) (listed : Array Bool) (a : Act), mid2Ok md l.toArray m idx2 tail idx listed = true →
      heads P S (fun a => midNext P Q l m (fun a w' => S2 w' ∧ heads P S2 (fun a => chain P Q S2 l tail a w') l idx2 a) a w) l idx a → wpAnyH P md l.toArray Q S (idx.length + (1 + (idx2.length + tail.length))) listed a w
  | [], listed, a, hB, h => by
    simp only [mid2Ok, Bool.and_eq_true, decide_eq_true_eq] at hB
    obtain ⟨o, ho, hg, hw⟩ := h
    rw [List.length_nil, Nat.zero_add, Nat.add_comm]
    refine wpAnyH_all hB.1 (by simp) ?_
    intro j hj
    have hji : j = m := by simpa using hj
    subst hji
    have ho' : l.toArray[j]? = some o := by simpa using ho
    unfold wpOp
    rw [ho']
    show if Region.wanted o (yielded l.toArray a.tmps) = true then _ else _
    rw [if_pos (by simp [Region.wanted, hg])]
    refine .inl (hw _ fun a w' hc => ⟨hmono _ hc.1, ?_⟩)
    exact wpAnyH_mono hmono _ _ _ _ (any_of_heads hsel hQ hc.1 idx2 _ a hB.2 hc.2)
  | i :: rest, listed, a, hB, h => by
    simp only [mid2Ok, Bool.and_eq_true] at hB
    obtain ⟨o, ho, v, hy, hr⟩ := h
    rw [List.length_cons, show rest.length + 1 + (1 + (idx2.length + tail.length)) = rest.length + (1 + (idx2.length + tail.length)) + 1 by omega]
    exact wpAnyH_take (by simpa using ho) hsel hB.1.1 hB.1.2 (fun c a w => hQ c a _ v w) hy hS (any_of_mid2 hmono hsel hQ hS rest _ _ hB.2 hr)
/-- The law: heads, one operation, heads, a forced chain; from the middle on a stronger fact holds. -/
theorem wp_region_mid2 {id : Nat} {a : Act} {w : World} {l : List Oper} (S S2 : World → Prop) (idx : List Nat) (m : Nat) (idx2 tail : List Nat) (hm : P.follows .mixedOrders = true) (hsel : Region.noSelect l.toArray = true) (hn : l.length = idx.length + (1 + (idx2.length + tail.length)))
    (hB : mid2Ok .any l.toArray m idx2 tail idx (Array.replicate l.length false) = true) (hmono : ∀ w, S2 w → S w) (hS : S w.drew)
    (h : heads P S (fun a => midNext P (NoPanic Q) l m (fun a w' => S2 w' ∧ heads P S2 (fun a => chain P (NoPanic Q) S2 l tail a w') l idx2 a) a w.drew) l idx a) : (Code.region id l.toArray true).wp P Q a w := by
  refine wp_region_noPanic (wp_region_held (S := S) hm ?_)
  have H := any_of_mid2 (Q := NoPanic Q) hmono hsel (fun _ _ _ _ _ h => h) hS idx _ _ hB h
  rw [← hn] at H
  have e : l.toArray.size = l.length := List.size_toArray
  rw [e]
  exact H
theorem midNext_of {l : List Oper} {m : Nat} {R : Act → World → Prop} {a : Act} {w : World} {o : Oper} (ho : l[m]? = some o) (hg : o.guard = none) (h : ∀ K : Act → World → Prop, (∀ a w', R a w' → K a w') → o.wp P a w K Q) : midNext P Q l m R a w := ⟨o, ho, hg, h⟩
end
end Kit
end Go.Proofs.YtmnendoloankgaaDoor
