/- Texts Qmb of the proof, each as a section; no premises beyond those that each theorem states. -/
import Derived.Maps.RangeWalk
import Derived.DeepKeys5
import Derived.Test.YtmcbnhkcjhlbaaaGreatDoorP13
set_option linter.unusedVariables false
set_option linter.unusedSimpArgs false
namespace Go.Proofs.YtmcbnhkcjhlbaaaGreatDoor
open Go.RowKit
open Kit (Chg)
open Go.Maps
open Go.WideMaps
open Go.Proofs.YtmcbnhkcjhlbaaaGreatDoor.One

section
variable {P : Program} {k : TypeId}
def rvQ (v : Value) : Option (DataW Value × List MemPlace) := some (.held v, [])
def SpecV (P : Program) (k : TypeId) (D : DataW Value) (f : Value → Option Value) : Prop := ∀ key kl, keyOf P k key = some kl → Maps.has D kl = (f key).isSome ∧ ∀ v, f key = some v → ∀ z, D.atKey kl z = .held v
def MapV (P : Program) (k : TypeId) (w : World) (b n : Nat) (f : Value → Option Value) : Prop := ∃ D : DataW Value, w.ownsMap P k rvQ b n D ∧ SpecV P k D f
theorem MapV.start (w : World) : MapV P k (w.alloc (.map #[] 0)) w.heap.size 0 (fun _ => none) :=
  ⟨.map [], World.ownsMap_made w P k rvQ, fun _ _ _ => ⟨rfl, fun v h => by cases h⟩⟩
theorem MapV.lt {w : World} {b n : Nat} {f : Value → Option Value} (h : MapV P k w b n f) : b < w.heap.size := by
  obtain ⟨D, h, _⟩ := h
  exact h.lt
theorem MapV.keep {w w' : World} {b n : Nat} {f : Value → Option Value} (h : MapV P k w b n f) (he : w'.heap[b]? = w.heap[b]?) : MapV P k w' b n f := by
  obtain ⟨D, ⟨es, clock, hb, F, hs, hD⟩, h2⟩ := h
  exact ⟨D, ⟨es, clock, he.trans hb, F, hs, hD⟩, h2⟩
theorem MapV.later {w w' : World} {b n : Nat} {f : Value → Option Value} (h : MapV P k w b n f) (hb : Below w.heap.size w w') : MapV P k w' b n f := h.keep (hb.block b h.lt)
theorem MapV.isMap {w : World} {b n : Nat} {f : Value → Option Value} (h : MapV P k w b n f) : ∃ es c, w.heap[b]? = some (.map es c) := by
  obtain ⟨D, ⟨es, clock, hb, _⟩, _⟩ := h
  exact ⟨es, clock, hb⟩
theorem MapV.mono {w : World} {b n n' : Nat} {f : Value → Option Value} (h : MapV P k w b n f) (hn : n ≤ n') : MapV P k w b n' f := by
  obtain ⟨D, h, h2⟩ := h
  exact ⟨D, h.mono hn, h2⟩
theorem MapV.congr {w : World} {b n : Nat} {f g : Value → Option Value} (h : MapV P k w b n f) (he : ∀ key kl, keyOf P k key = some kl → g key = f key) : MapV P k w b n g := by
  obtain ⟨D, h, h2⟩ := h
  exact ⟨D, h, fun key kl hk => by rw [he key kl hk]; exact h2 key kl hk⟩
theorem specV_get {D : DataW Value} {f : Value → Option Value} (h2 : SpecV P k D f) {key : Value} {kl : Lit} (hk : keyOf P k key = some kl) {v z : Value} {ps : List MemPlace} (hv : rvQ v = some (D.atKey kl (.held z), ps)) : v = (f key).getD z := by
  obtain ⟨k1, k2⟩ := h2 key kl hk
  unfold rvQ at hv
  have e : DataW.held v = D.atKey kl (.held z) := congrArg Prod.fst (Option.some.inj hv)
  cases hf : f key with
  | none =>
    rw [hf] at k1
    rw [Maps.atKey_of_not_has k1] at e
    injection e
  | some u =>
    rw [k2 u hf] at e
    injection e
theorem MapV.look {t e : TypeId} {w : World} {b n : Nat} {f : Value → Option Value} (h : MapV P k w b n f) (K : Keyed P k) (ht : P.underlying t = some (.map k e)) {z : Value} (hz : (zeroValue e).run P w = .ok z w) {key : Value} {kl : Lit} (hk : keyOf P k key = some kl) :
    (Instr.lookup t (.map (some b)) key true).run P w = .ok (.tuple #[(f key).getD z, .bool (f key).isSome]) w := by
  obtain ⟨D, h1, h2⟩ := h
  obtain ⟨v, ps, hrun, hv⟩ := h1.look_ok K ht hz (zd := .held z) (zp := []) rfl hk
  rw [hrun, specV_get h2 hk hv, (h2 key kl hk).1]
theorem MapV.look1 {t e : TypeId} {w : World} {b n : Nat} {f : Value → Option Value} (h : MapV P k w b n f) (K : Keyed P k) (ht : P.underlying t = some (.map k e)) {z : Value} (hz : (zeroValue e).run P w = .ok z w) {key : Value} {kl : Lit} (hk : keyOf P k key = some kl) :
    (Instr.lookup t (.map (some b)) key false).run P w = .ok ((f key).getD z) w := by
  obtain ⟨D, h1, h2⟩ := h
  obtain ⟨v, ps, hrun, hv⟩ := h1.lookup K ht hz (zd := .held z) (zp := []) rfl hk
  rw [hrun, specV_get h2 hk hv]
theorem specV_put {D : DataW Value} {f : Value → Option Value} (hD : IsMap D) (K : Keyed P k) (h2 : SpecV P k D f) {key : Value} {kl : Lit} (hk : keyOf P k key = some kl) (v : Value) (g : Value → Option Value) (hg : g key = some v) (ho : ∀ x l, keyOf P k x = some l → x ≠ key → g x = f x) : SpecV P k (D.put kl (.held v)) g := fun x l hx => by
  by_cases e : x = key
  · subst e
    rw [hk] at hx
    cases hx
    rw [hg]
    refine ⟨by rw [Maps.has_put_same hD (K.key hk)]; rfl, fun u hu z => ?_⟩
    cases hu
    exact Maps.atKey_put_same hD (K.key hk) _ _
  · have hne : l ≠ kl := fun h => e (K.inj hx (h ▸ hk))
    rw [ho x l hx e]
    obtain ⟨k1, k2⟩ := h2 x l hx
    refine ⟨by rw [Maps.has_put_other hne]; exact k1, fun u hu z => ?_⟩
    rw [Maps.atKey_put_other hne]
    exact k2 u hu z
theorem MapV.put {t e : TypeId} {w : World} {b n : Nat} {f : Value → Option Value} (h : MapV P k w b n f) (K : Keyed P k) (ht : P.underlying t = some (.map k e)) (hn : n < maxLen) {key : Value} {kl : Lit} (hk : keyOf P k key = some kl) (v : Value) (g : Value → Option Value) (hg : g key = some v) (ho : ∀ x l, keyOf P k x = some l → x ≠ key → g x = f x) :
    ∃ w', (Instr.mapUpdate t (.map (some b)) key v).run P w = .ok () w' ∧ MapV P k w' b (n + 1) g ∧ w.grownBy w' (some b) ∧ w'.heap.size = w.heap.size := by
  obtain ⟨D, h1, h2⟩ := h
  obtain ⟨w', hrun, h3, h4⟩ := h1.store K ht hn hk (val := v) (d := .held v) (ps := []) rfl
  refine ⟨w', hrun, ⟨_, h3, specV_put h1.isMap K h2 hk v g hg ho⟩, h4.grown, ?_⟩
  obtain ⟨es, clock, es', clock', hb, rfl⟩ := h4
  simp [ChangeMaps.setBlock]
theorem MapV.del {t e : TypeId} {w : World} {b n : Nat} {f : Value → Option Value} (h : MapV P k w b n f) (K : Keyed P k) (ht : P.underlying t = some (.map k e)) {key : Value} {kl : Lit} (hk : keyOf P k key = some kl) (ty : TypeId) (g : Value → Option Value) (hg : g key = none) (ho : ∀ x l, keyOf P k x = some l → x ≠ key → g x = f x) :
    ∃ w', (Builtin.delete_ #[t, k] ty #[.map (some b), key]).run P w = .ok (.tuple #[]) w' ∧ MapV P k w' b n g ∧ w.grownBy w' (some b) ∧ w'.heap.size = w.heap.size := by
  obtain ⟨D, h1, h2⟩ := h
  obtain ⟨w', hrun, h3, h4⟩ := h1.drop K ht hk ty
  refine ⟨w', hrun, ⟨_, h3, fun x l hx => ?_⟩, h4.grown, ?_⟩
  · by_cases e : x = key
    · subst e
      rw [hk] at hx
      cases hx
      rw [hg]
      exact ⟨by rw [Maps.has_del_same]; rfl, fun u hu => by cases hu⟩
    · have hne : l ≠ kl := fun h => e (K.inj hx (h ▸ hk))
      rw [ho x l hx e]
      obtain ⟨k1, k2⟩ := h2 x l hx
      refine ⟨by rw [Maps.has_del_other hne]; exact k1, fun u hu z => ?_⟩
      rw [Maps.atKey_del_other hne]
      exact k2 u hu z
  · obtain ⟨es, clock, es', clock', hb, rfl⟩ := h4
    simp [ChangeMaps.setBlock]
def RangeV (P : Program) (k : TypeId) (w : World) (b r n : Nat) (f : Value → Option Value) (lf : Value → Prop) (cnt : Nat) : Prop := ∃ D left, w.ranges P k rvQ b r n D left cnt ∧ SpecV P k D f ∧ ∀ key kl, keyOf P k key = some kl → (left kl = true ↔ lf key)
theorem RangeV.keep {w w' : World} {b r n cnt : Nat} {f : Value → Option Value} {lf : Value → Prop} (h : RangeV P k w b r n f lf cnt) (hb : w'.heap[b]? = w.heap[b]?) (hr : w'.heap[r]? = w.heap[r]?) : RangeV P k w' b r n f lf cnt := by
  obtain ⟨D, left, ⟨es, clock, since, seen, c0, h1, h2, h3, h4, h5, h6⟩, hs, hl⟩ := h
  exact ⟨D, left, ⟨es, clock, since, seen, c0, hb.trans h1, h2, h3, h4, hr.trans h5, h6⟩, hs, hl⟩
theorem RangeV.lt {w : World} {b r n cnt : Nat} {f : Value → Option Value} {lf : Value → Prop} (h : RangeV P k w b r n f lf cnt) : b < w.heap.size ∧ r < w.heap.size := by
  obtain ⟨D, left, h, _⟩ := h
  exact ⟨h.owns.lt, h.lt⟩
theorem RangeV.later {w w' : World} {b r n cnt : Nat} {f : Value → Option Value} {lf : Value → Prop} (h : RangeV P k w b r n f lf cnt) (hb : Below w.heap.size w w') : RangeV P k w' b r n f lf cnt := h.keep (hb.block b h.lt.1) (hb.block r h.lt.2)
theorem RangeV.left_eq {w : World} {b r n cnt : Nat} {f : Value → Option Value} {lf : Value → Prop} (h : RangeV P k w b r n f lf cnt) : w.rangeLeft b r = cnt := by
  obtain ⟨D, left, h, _⟩ := h
  exact h.left_eq
theorem RangeV.isIter {w : World} {b r n cnt : Nat} {f : Value → Option Value} {lf : Value → Prop} (h : RangeV P k w b r n f lf cnt) : ∃ m s q c, w.heap[r]? = some (.mapIter m s q c) := by
  obtain ⟨D, left, ⟨es, clock, since, seen, c0, h1, h2, h3, h4, h5, h6⟩, hs, hl⟩ := h
  exact ⟨_, _, _, _, h5⟩
theorem MapV.range {t e : TypeId} {w : World} {b n : Nat} {f : Value → Option Value} (h : MapV P k w b n f) (K : Keyed P k) (ht : P.underlying t = some (.map k e)) :
    ∃ w', (Instr.range t (.map (some b))).run P w = .ok (.pointer (some ⟨w.heap.size, 0, none⟩)) w' ∧ (∃ cnt, RangeV P k w' b w.heap.size n f (fun x => (f x).isSome = true) cnt) ∧ Below w.heap.size w w' ∧ w'.heap.size = w.heap.size + 1 := by
  obtain ⟨D, h1, h2⟩ := h
  obtain ⟨w', r1, r2, r3, r4⟩ := h1.range K ht
  exact ⟨w', r1, ⟨_, D, _, r2, h2, fun key kl hk => by rw [(h2 key kl hk).1]⟩, ⟨r3.os, r3.tape, r3.output, r3.size, fun i hi => r3.block i hi (by simp)⟩, r4⟩
theorem RangeV.next {w : World} {b r n cnt : Nat} {f : Value → Option Value} {lf : Value → Prop} (h : RangeV P k w b r n f lf cnt) (K : Keyed P k) (ty : TypeId) :
    ((∀ key kl, keyOf P k key = some kl → ¬ lf key) ∧ (Instr.next (.pointer (some ⟨r, 0, none⟩)) false ty).run P w = .ok (.tuple #[.bool false]) w) ∨
    ∃ key kl v w' cnt', keyOf P k key = some kl ∧ lf key ∧ f key = some v ∧ (Instr.next (.pointer (some ⟨r, 0, none⟩)) false ty).run P w = .ok (.tuple #[.bool true, key, v]) w' ∧ RangeV P k w' b r n f (fun x => lf x ∧ x ≠ key) cnt' ∧ cnt' < cnt ∧ w.grownBy w' (some r) ∧ w'.heap.size = w.heap.size ∧ (Instr.entry (.pointer (some ⟨r, 0, none⟩))).run P w' = .ok (.tuple #[key, v]) w' := by
  obtain ⟨D, left, h1, h2, h3⟩ := h
  rcases h1.next K ty with ⟨_, h4, h5⟩ | ⟨key, v, kl, y, w', cnt', e1, e2, e3, e4, e5, e6, e7, e8, e9, e10⟩
  · exact .inl ⟨fun key kl hk hl => (by have := (h3 key kl hk).2 hl; rw [h4 kl] at this; cases this), h5⟩
  · have hv : y = (.held v, []) := by unfold rvQ at e3; exact (Option.some.inj e3).symm
    have hf : f key = some v := by
      obtain ⟨k1, k2⟩ := h2 key kl e1
      rw [Maps.has_true_of_atKey e4] at k1
      obtain ⟨u, hu⟩ := Option.isSome_iff_exists.1 k1.symm
      have h5 := k2 u hu (.held v)
      rw [e4, hv] at h5
      injection h5 with h5
      rw [hu, ← h5]
    refine .inr ⟨key, kl, v, w', cnt', e1, (h3 key kl e1).1 e2, hf, e5, ⟨D, _, e6, h2, fun x l hx => ?_⟩, e7, e8, e9, e10⟩
    simp only [Bool.and_eq_true, Bool.not_eq_true']
    constructor
    · rintro ⟨a1, a2⟩
      refine ⟨(h3 x l hx).1 a1, fun e => ?_⟩
      subst e
      rw [e1] at hx
      cases hx
      rw [WideAt.sameKey_self (K.key e1)] at a2
      cases a2
    · rintro ⟨a1, a2⟩
      refine ⟨(h3 x l hx).2 a1, ?_⟩
      cases hc : l.sameKey kl with
      | false => rfl
      | true => exact absurd (K.inj hx ((WideAt.sameKey_eq hc) ▸ e1)) a2
end

theorem Tryz.laidQ : laidOutB Tryz.prog = true := by kernel_rfl
theorem wf64 {i : Int} (h0 : -9223372036854775808 ≤ i) (h1 : i ≤ 9223372036854775807) : (Lit.int .i64 i).wf = true := WalkArith.wf_i64 ⟨h0, h1⟩
theorem keyLits_two {P : Program} {t : TypeId} {f1 f2 : Field} {m : Nat} (hu : P.underlying t = some (.struct #[f1, f2])) (hc : P.cellsOf t = 2) (n1 : (f1.name != "_") = true) (n2 : (f2.name != "_") = true) (o1 : f1.offset = 0) (o2 : f2.offset = 1) (c1 : P.cellsOf f1.type = 1) (c2 : P.cellsOf f2.type = 1) (a b : Value) :
    P.keyLits (m + 1 + 1) t [a, b] = (P.keyLits (m + 1) f1.type [a]).bind fun x => (P.keyLits (m + 1) f2.type [b]).bind fun y => some (x ++ y) := by
  conv => lhs; unfold Program.keyLits
  rw [hu]
  dsimp only
  rw [if_pos ⟨by rw [hc]; rfl, by simp [n1, n2]⟩]
  simp only [List.mapM_cons, List.mapM_nil, o1, o2, c1, c2, List.drop_zero, List.take_succ_cons, List.take_zero, List.drop_succ_cons]
  cases P.keyLits (m + 1) f1.type [a] with
  | none => rfl
  | some x =>
    cases P.keyLits (m + 1) f2.type [b] with
    | none => rfl
    | some y => simp
theorem keyLits_str {P : Program} {t : TypeId} {m : Nat} (hu : P.underlying t = some .string) (v : Value) : P.keyLits (m + 1) t [v] = match v with | .string s => if s.size ≤ maxLen then some [.string s.data.toList] else none | _ => none := by
  unfold Program.keyLits
  rw [hu]
  cases v <;> rfl
theorem keyLits_int {P : Program} {t : TypeId} {m : Nat} {q : IntKind} (hu : P.underlying t = some (.int q)) (v : Value) : P.keyLits (m + 1) t [v] = match v with | .int q' n => if q' = q ∧ (Lit.int q n).wf = true then some [.int q n] else none | _ => none := by
  unfold Program.keyLits
  rw [hu]
  cases v <;> rfl
theorem Tryz.sizeT : ∃ m, Tryz.prog.types.size + 1 = m + 1 + 1 := ⟨Tryz.prog.types.size - 1, by have : 2 ≤ Tryz.prog.types.size := of_decide_eq_true (by kernel_rfl); omega⟩
theorem keyOf_two {P : Program} {t : TypeId} {fs : Array Field} (hu : P.underlying t = some (.struct fs)) (hk : P.keyType t = true) (hc : P.cellsOf t = 2) (a b : Value) : keyOf P t (.agg #[a, b]) = ((P.keyLits (P.types.size + 1) t (Value.agg #[a, b]).cells.toList).map fun ls => .string (keyBytes ls)) := by
  unfold keyOf
  rw [hu]
  have : (Value.agg #[a, b]).formed P t = true := by unfold Value.formed; simp only [hu]; rw [hc]; rfl
  simp only [hk, this, Bool.and_self, if_true]
theorem keyOf_shape {P : Program} {t : TypeId} {fs : Array Field} (hu : P.underlying t = some (.struct fs)) (hc : P.cellsOf t = 2) {v : Value} {l : Lit} (h : keyOf P t v = some l) : ∃ a b, v = .agg #[a, b] := by
  unfold keyOf at h
  rw [hu] at h
  simp only at h
  split at h
  · rename_i hf
    have hf := (Bool.and_eq_true_iff.1 hf).2
    cases v with
    | agg cs =>
      unfold Value.formed at hf
      simp only [hu] at hf
      rw [hc] at hf
      obtain ⟨cs⟩ := cs
      match cs, hf with
      | [a, b], _ => exact ⟨a, b, rfl⟩
    | _ => unfold Value.formed at hf; simp [hu] at hf
  · cases h
theorem agg_cells2 (a b : Value) (ha : a.cells = #[a]) (hb : b.cells = #[b]) : (Value.agg #[a, b]).cells.toList = [a, b] := rfl
end Go.Proofs.YtmcbnhkcjhlbaaaGreatDoor
