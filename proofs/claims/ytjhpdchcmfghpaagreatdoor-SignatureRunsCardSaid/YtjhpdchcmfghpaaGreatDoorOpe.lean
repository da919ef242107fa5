/- The opening of a slice of structs that came in. -/
import Derived.Test.YtjhpdchcmfghpaaGreatDoorGc
import Derived.Test.YtjhpdchcmfghpaaGreatDoorOpu
namespace Go.Proofs.YtjhpdchcmfghpaaGreatDoor
open Go.ChangeShapes Go.WideShapes Go.ChangeAt Go.RowKit
set_option linter.unusedVariables false
set_option linter.unusedSimpArgs false

/-- Rows of k cells each, one behind the other. -/
def StructsAt (w : World) (a : Option Addr) (k : Nat) (rs : List (List Value)) : Prop := rs = [] ∨ ∃ b o, a = some ⟨b, o, none⟩ ∧ ∀ i j, i < rs.length → j < k → w.cell? ⟨b, o + i * k + j, none⟩ = (rs.getD i [])[j]?
theorem StructsAt.later {w w' : World} {a : Option Addr} {k : Nat} {rs : List (List Value)} (h : StructsAt w a k rs) (hr : ∀ r ∈ rs, r.length = k) (hb : Below w.heap.size w w') : StructsAt w' a k rs := by
  rcases h with h | ⟨b, o, e, hc⟩
  · exact .inl h
  · refine .inr ⟨b, o, e, fun i j hi hj => ?_⟩
    have h1 := hc i j hi hj
    have hl : (rs.getD i []).length = k := hr _ (getD_mem rs i [] hi)
    rw [← h1]
    rw [List.getElem?_eq_getElem (by omega)] at h1
    exact hb.cell (World.block_lt_of_cell? w _ h1)
theorem open_rows {H : Type} {enc : TypeId × Value → H} {P : Program} {W : World} {t e : TypeId} {k : Nat} (ht : P.underlying t = some (.slice e)) (hc : P.cellsOf e = k) (hk : 0 < k) {α : Type} (R : List Value → α → Prop)
    (hR : ∀ n cs x, DataW.trod enc P W 0 (fun _ => true) true n e cs = some x → ∃ y, R cs y) {a : Option Addr} {len cap fuel : Nat} {x : DataW H × List MemPlace}
    (hf : DataW.trod enc P W 0 (fun _ => true) true fuel t [.slice a len cap] = some x) :
    ∃ (ys : List α) (rs : List (List Value)), ys.length = len ∧ rs.length = len ∧ len ≤ 9223372036854775807 ∧ (∀ r ∈ rs, r.length = k) ∧ StructsAt W a k rs ∧ ∀ i (h : i < ys.length), R (rs.getD i []) ys[i] := by
  rcases DataW.trod_slice ht hf with ⟨hcs, _⟩ | ⟨ad, l, c, elems, rest, n, _, hcs, _, _, hl, hm, hlen, hel, _, _⟩
  · simp at hcs
    obtain ⟨rfl, rfl, rfl⟩ := hcs
    exact ⟨[], [], rfl, rfl, by omega, by simp, .inl rfl, fun i h => absurd h (by simp)⟩
  · simp at hcs
    obtain ⟨rfl, rfl, rfl⟩ := hcs
    have each : ∀ i : Fin len, ∃ p : List Value × α, W.cells? 0 (ad.add (i.1 * k)) k = some p.1 ∧ R p.1 p.2 := by
      intro i
      have h1 := hel i.1 i.2
      rw [List.getElem?_eq_getElem (by rw [hlen]; exact i.2), hc, Option.bind_eq_some_iff] at h1
      obtain ⟨cs, h2, h3⟩ := h1
      obtain ⟨y, h4⟩ := hR _ _ _ h3
      exact ⟨(cs, y), h2, h4⟩
    obtain ⟨f, hf2⟩ := Classical.axiomOfChoice each
    have hrs : ∀ i (h : i < len), (List.ofFn fun j => (f j).1).getD i [] = (f ⟨i, h⟩).1 := fun i h => by
      rw [List.getD_eq_getElem?_getD, List.getElem?_eq_getElem (by simpa using h), List.getElem_ofFn]
      rfl
    refine ⟨List.ofFn fun j => (f j).2, List.ofFn fun j => (f j).1, by simp, by simp, Nat.le_trans hl hm, ?_, ?_, ?_⟩
    · intro r hr
      rw [List.mem_ofFn] at hr
      obtain ⟨j, rfl⟩ := hr
      exact (World.cells?_some (hf2 j).1).2.1
    · by_cases h0 : len = 0
      · subst h0
        exact .inl (by simp)
      · right
        obtain ⟨b, off, spot⟩ := ad
        have hspot : spot = none := by
          have h1 := (World.cells?_some (hf2 ⟨0, by omega⟩).1)
          have h2 := h1.2.2 0 hk
          rw [List.getElem?_eq_getElem (by omega)] at h2
          simpa [Addr.add] using World.cell?_spot h2
        subst hspot
        refine ⟨b, off, rfl, fun i j hi hj => ?_⟩
        have hi' : i < len := by simpa using hi
        rw [hrs i hi']
        have h2 := (World.cells?_some (hf2 ⟨i, hi'⟩).1).2.2 j hj
        rw [← h2, add_none, add_none]
    · intro i h
      have hi : i < len := by simpa using h
      rw [hrs i hi, List.getElem_ofFn]
      exact (hf2 ⟨i, hi⟩).2
theorem array_of_len3 {cs : List Value} (h : cs.length = 3) : ∃ c0 c1 c2, cs = [c0, c1, c2] := by
  match cs, h with
  | [c0, c1, c2], _ => exact ⟨c0, c1, c2, rfl⟩
theorem cellsOp : Tryz.prog.cellsOf 53 = 3 := by kernel_rfl
theorem Tryz.fieldsOp : (match Tryz.prog.underlying 53 with | some (.struct fields) => fields.toList.map (fun f => (f.type, f.offset)) | _ => []) = [(3, 0), (9, 1), (3, 2)] := by kernel_rfl
/-- The cells of an operation on a signer. -/
def opRow (o : Int × ByteArray × Int) : List Value := [.int .i64 o.1, .string o.2.1, .int .i64 o.2.2]
set_option maxRecDepth 100000 in
theorem open_op {H : Type} {enc : TypeId × Value → H} {W : World} (n : Nat) (cs : List Value) (x : DataW H × List MemPlace) (hf : DataW.trod enc Tryz.prog W 0 (fun _ => true) true n 53 cs = some x) (hl : cs.length = 3) : ∃ y : Int × ByteArray × Int, cs = opRow y := by
  have hF := Tryz.fieldsOp
  obtain ⟨c0, c1, c2, rfl⟩ := array_of_len3 hl
  cases hu : Tryz.prog.underlying 53 with
  | none => rw [hu] at hF; simp at hF
  | some td =>
    rw [hu] at hF
    cases td with
    | struct fields =>
      obtain ⟨xs, n, _, _, hl, hlen, hf⟩ := DataW.trod_struct hu hf
      obtain ⟨fl⟩ := fields
      match fl, hF with
      | [f0, f1, f2], hF =>
        simp only [List.map_cons, List.map_nil, List.cons.injEq, Prod.mk.injEq, and_true] at hF
        obtain ⟨⟨t0, o0⟩, ⟨t1, o1⟩, ⟨t2, o2⟩⟩ := hF
        match xs, hlen with
        | [y0, y1, y2], _ =>
          have h0 := hf 0 f0 rfl
          have h1 := hf 1 f1 rfl
          have h2 := hf 2 f2 rfl
          rw [t0, o0, cellsInt] at h0
          rw [t1, o1, cellsStr] at h1
          rw [t2, o2, cellsInt] at h2
          obtain ⟨n0, e0, _, _⟩ := DataW.trod_int Tryz.underlying3 h0
          obtain ⟨s1, e1, _, _⟩ := DataW.trod_string Tryz.underlying9 h1
          obtain ⟨n2, e2, _, _⟩ := DataW.trod_int Tryz.underlying3 h2
          simp at e0 e1 e2
          exact ⟨(n0, s1, n2), by rw [opRow, e0, e1, e2]⟩
    | _ => simp at hF
/-- A list of operations that came in. -/
def OpsAt (w : World) (a : Option Addr) (os : List (Int × ByteArray × Int)) : Prop := os = [] ∨ ∃ b o, a = some ⟨b, o, none⟩ ∧ ∀ i, i < os.length → w.cell? ⟨b, o + i * 3 + 0, none⟩ = some (.int .i64 (os.getD i (0, ByteArray.empty, 0)).1) ∧ w.cell? ⟨b, o + i * 3 + 1, none⟩ = some (.string (os.getD i (0, ByteArray.empty, 0)).2.1) ∧ w.cell? ⟨b, o + i * 3 + 2, none⟩ = some (.int .i64 (os.getD i (0, ByteArray.empty, 0)).2.2)
theorem OpsAt.later {w w' : World} {a : Option Addr} {os : List (Int × ByteArray × Int)} (h : OpsAt w a os) (hb : Below w.heap.size w w') : OpsAt w' a os := by
  rcases h with h | ⟨b, o, e, hc⟩
  · exact .inl h
  · refine .inr ⟨b, o, e, fun i hi => ?_⟩
    obtain ⟨h0, h1, h2⟩ := hc i hi
    exact ⟨(hb.cell (World.block_lt_of_cell? w _ h0)).trans h0, (hb.cell (World.block_lt_of_cell? w _ h1)).trans h1, (hb.cell (World.block_lt_of_cell? w _ h2)).trans h2⟩
theorem open_ops {H : Type} {enc : TypeId × Value → H} {W : World} {a : Option Addr} {len cap fuel : Nat} {x : DataW H × List MemPlace}
    (hf : DataW.trod enc Tryz.prog W 0 (fun _ => true) true fuel 47 [.slice a len cap] = some x) :
    ∃ os : List (Int × ByteArray × Int), os.length = len ∧ len ≤ 9223372036854775807 ∧ OpsAt W a os := by
  obtain ⟨ys, rs, h1, h2, h3, h4, h5, h6⟩ := open_rows Tryz.underlying47 cellsOp (by decide) (fun cs y => cs.length = 3 → cs = opRow y) (fun n cs x h => by
    by_cases hl : cs.length = 3
    · obtain ⟨y, hy⟩ := open_op n cs x h hl
      exact ⟨y, fun _ => hy⟩
    · exact ⟨(0, ByteArray.empty, 0), fun h => absurd h hl⟩) hf
  refine ⟨ys, h1, h3, ?_⟩
  rcases h5 with h | ⟨b, o, e, hc⟩
  · left
    exact List.eq_nil_of_length_eq_zero (by rw [h1, ← h2, h]; rfl)
  · refine .inr ⟨b, o, e, fun i hi => ?_⟩
    have hr : rs.getD i [] = opRow (ys.getD i (0, ByteArray.empty, 0)) := by
      rw [h6 i hi (h4 _ (getD_mem rs i [] (by omega))), List.getD_eq_getElem?_getD, List.getElem?_eq_getElem hi]
      rfl
    have e0 := hc i 0 (by omega) (by decide)
    have e1 := hc i 1 (by omega) (by decide)
    have e2 := hc i 2 (by omega) (by decide)
    rw [hr] at e0 e1 e2
    exact ⟨e0, e1, e2⟩
end Go.Proofs.YtjhpdchcmfghpaaGreatDoor
