/- What a struct literal of large parts yields: no program is named here. -/
import Derived.Test.YtfnhcjcahcacnaaDoorHeld
import Derived.Great.FillDense
import Derived.Laws.CopyOwn
namespace Go.Proofs.YtfnhcjcahcacnaaDoor
namespace Kit
variable {P : Program}

theorem foldl_splice (off : Nat) (vs : List Value) (cells : Array Value) (h : off + vs.length ≤ cells.size) :
    (vs.zipIdx 0).foldl (fun cs (x : Value × Nat) => cs.setIfInBounds (off + x.2) x.1) cells = (splice cells.toList off vs).toArray := by
  obtain ⟨h1, h2⟩ := Great.foldl_set off vs 0 cells
  apply Array.ext_getElem?
  intro k
  rw [h2 k]
  simp only [splice, List.getElem?_toArray, Nat.add_zero]
  have hl : (cells.toList.take off).length = off := by rw [List.length_take, Array.length_toList]; omega
  by_cases hk : k < off
  · rw [if_neg (by omega), List.getElem?_append_left (by rw [hl]; exact hk), List.getElem?_take_of_lt hk]
    simp
  · by_cases hk2 : k < off + vs.length
    · rw [if_pos ⟨by omega, hk2, by omega⟩, List.getElem?_append_right (by rw [hl]; omega), hl, List.getElem?_append_left (by omega)]
    · rw [if_neg (by omega), List.getElem?_append_right (by rw [hl]; omega), hl, List.getElem?_append_right (by omega), List.getElem?_drop]
      rw [show off + vs.length + (k - off - vs.length) = k by omega]
      simp

theorem splice_at {α : Type} (A Z C : List α) (off : Nat) (h : A.length = off) : splice (A ++ Z) off C = A ++ (C ++ Z.drop C.length) := by
  unfold splice
  subst h
  rw [List.take_left, ← List.drop_drop, List.drop_left]
theorem splice_length {α : Type} (L C : List α) (off : Nat) (h : off + C.length ≤ L.length) : (splice L off C).length = L.length := by
  unfold splice
  simp only [List.length_append, List.length_take, List.length_drop]
  omega
theorem fill_put {place : Nat → Option (Nat × Nat)} {cells : Array Value} {i off size : Nat} {v : Value} {rest : List (Nat × Value)} (hp : place i = some (off, size)) (hs : v.cells.size = size) (hle : off + size ≤ cells.size) :
    Instr.fill place cells ((i, v) :: rest) = Instr.fill place (splice cells.toList off v.cells.toList).toArray rest := by
  conv => lhs; unfold Instr.fill
  simp only [hp]
  rw [if_neg (by simp; omega)]
  congr 1
  have := foldl_splice off v.cells.toList cells (by simp; omega)
  rw [← this, ← Array.foldl_toList]
  simp

theorem fill_nil {place : Nat → Option (Nat × Nat)} {cells : Array Value} : Instr.fill place cells [] = some cells := rfl
theorem wp_build_to {o : Oper} {a : Act} {w : World} {K : Act → World → Prop} {Q : Exit → Act → World → Prop} (t : TypeId) (parts : Array (Nat × Operand)) (ho : o.op = .build t parts) (cells : Array Value)
    (hf : P.built t (parts.map fun (i, x) => (i, a.eval x)).toList = some cells) (h : K (a.put o.dst (.agg cells)) w) : o.wp P a w K Q := by
  refine wp_build t parts ho (by rw [hf]; rfl) ?_
  rw [hf]
  exact h
theorem wp_build_list {o : Oper} {a : Act} {w : World} {K : Act → World → Prop} {Q : Exit → Act → World → Prop} (t : TypeId) (parts : List (Nat × Operand)) (ho : o.op = .build t parts.toArray) (cells : Array Value)
    (hf : P.built t (parts.map fun x => (x.1, a.eval x.2)) = some cells) (h : K (a.put o.dst (.agg cells)) w) : o.wp P a w K Q :=
  wp_build_to t parts.toArray ho cells (by rw [List.map_toArray]; exact hf) h
theorem built_struct {t : TypeId} {it : TypeInfo} {z : Value} {fields : Array Field} {places : List (Nat × Nat)} {parts : List (Nat × Value)} {R : Array Value} (hi : P.info? t = some it) (hu : P.underlying t = some (.struct fields)) (hz : it.zero = some z)
    (hp : fields.toList.mapM (fun f => (P.info? f.type).map fun i => (f.offset, i.size)) = some places) (hf : Instr.fill (places.toArray[·]?) z.cells parts = some R) : P.built t parts = some R := by
  unfold Program.built
  simp only [hi, hu, hz, hp]
  exact hf
end Kit
end Go.Proofs.YtfnhcjcahcacnaaDoor
