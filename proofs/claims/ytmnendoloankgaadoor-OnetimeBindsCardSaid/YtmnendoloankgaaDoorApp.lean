/- Appending to slices of the call's own: laws with the side conditions settled. -/
import Derived.Test.YtmnendoloankgaaDoorAwa
import Derived.Great.BuildSlice
namespace Go.Proofs.YtmnendoloankgaaDoor
set_option linter.unusedVariables false
set_option linter.unusedSimpArgs false
open Go.RowKit
open Kit (Chg)
open Go.Proofs.YtmnendoloankgaaDoor.One

theorem own_empty {w : World} {base : Nat} (h : base ≤ w.heap.size) : (w.alloc (.cells #[] 5)).ownsRow base 5 1 (.slice (some ⟨w.heap.size, 0, none⟩) 0 0) 0 (bvals []) :=
  ⟨rfl, .inr ⟨w.heap.size, 0, #[], rfl, h, heap_alloc_new _ _, Nat.le_refl _, by unfold maxLen; omega, rfl, rfl⟩⟩
theorem own_nil {w : World} {base e : Nat} : w.ownsRow base e 1 (.slice none 0 0) 0 [] := ⟨rfl, .inl ⟨rfl, rfl⟩⟩
section
variable {ops : Array Oper} {rest : List Oper} {o : Oper} {a : Act} {Q : Exit → Act → World → Prop}
/-- One byte behind bytes. -/
theorem app_byte {w0 : World} (hgd : o.guard = none) (s x : Operand) (ho : o.op = .call { callee := .builtin .append, args := #[s, x], argTypes := #[68, 68] })
    (base : Nat) (v : Value) (L : Nat) (cur : List Nat) (hs : a.eval s = v) (hown : w0.ownsRow base 5 1 v L (bvals cur)) (hb : base ≤ w0.heap.size) (hL : L ≤ 1000000000000)
    (E : Int) (b : Nat) (hE : E = (b : Int)) (c : Nat) (hx : a.eval x = .slice (some ⟨w0.heap.size, 0, none⟩) 1 c)
    (h : ∀ v' w', w'.ownsRow base 5 1 v' (L + 1) (bvals (cur ++ [b])) → Below base w0 w' → wpList Tryd.prog ops Q rest (a.put o.dst v') w') : wpList Tryd.prog ops Q (o :: rest) a (w0.alloc (.cells #[.int .u8 E] 5)) := by
  obtain ⟨i0, hi, hz0, hz1, hz2⟩ := info_parts Tryd.info5
  refine wpList_append_own _ hgd s x 68 ho base 5 i0 (.int .u8 0) 1 1 Tryd.underlying68 hi hz0 hz1 hz2 rfl (by decide) v L (bvals cur) hs (hown.alloc _) ⟨w0.heap.size, 0, none⟩ 1 c [.int .u8 E] hx rfl (cell_one_new _ _ _) (by simp [Value.oneCell']) (by unfold maxLen; omega) (by omega) (by simp; omega) ?_
  intro v' w4 hown4 hgr4 _
  refine h v' w4 (by rw [bvals_snoc, ← hE]; exact hown4) ?_
  exact ((Chg.alloc1 w0 _).trans (Chg.of_grown hgr4 (fun q _ e => (hown.lt q e).1)) : Chg (fun q _ => base ≤ q) w0 w4).below hb (fun q i hq h => by omega)
/-- Bytes behind bytes. -/
theorem app_bytes {w0 : World} (hgd : o.guard = none) (s x : Operand) (ho : o.op = .call { callee := .builtin .append, args := #[s, x], argTypes := #[68, 68] })
    (base : Nat) (v : Value) (L : Nat) (cur : List Nat) (hs : a.eval s = v) (hown : w0.ownsRow base 5 1 v L (bvals cur)) (hb : base ≤ w0.heap.size) (hL : L ≤ 1000000000000)
    (ao : Option Addr) (m c : Nat) (xs : List Nat) (hm : xs.length = m) (hm2 : m ≤ 1000000000000) (hx : a.eval x = .slice ao m c) (hB : BytesAt w0 ao xs) (hnil : ao = none → c = 0)
    (h : ∀ v' w', w'.ownsRow base 5 1 v' (L + m) (bvals (cur ++ xs)) → Below base w0 w' → wpList Tryd.prog ops Q rest (a.put o.dst v') w') : wpList Tryd.prog ops Q (o :: rest) a w0 := by
  obtain ⟨i0, hi, hz0, hz1, hz2⟩ := info_parts Tryd.info5
  subst hm
  refine wpList_append_src hgd s x 68 ho base 5 i0 (.int .u8 0) 1 1 Tryd.underlying68 hi hz0 hz1 hz2 rfl (by decide) v L (bvals cur) hs hown ao xs.length c (bvals xs) hx (hB.src c hnil) (bvals_one _) (by unfold maxLen; omega) (by omega) hb ?_
  intro v' w4 hown4 hgr4
  refine h v' w4 (by rw [bvals_append]; exact hown4) ?_
  exact (Chg.of_grown hgr4 (fun q _ e => (hown.lt q e).1) : Chg (fun q _ => base ≤ q) w0 w4).below hb (fun q i hq h => by omega)
/-- Four bytes behind bytes. -/
theorem app_four {w0 : World} (hgd : o.guard = none) (s x : Operand) (ho : o.op = .call { callee := .builtin .append, args := #[s, x], argTypes := #[68, 68] })
    (base : Nat) (v : Value) (L : Nat) (cur : List Nat) (hs : a.eval s = v) (hown : w0.ownsRow base 5 1 v L (bvals cur)) (hb : base ≤ w0.heap.size) (hL : L ≤ 1000000000000)
    (E0 E1 E2 E3 : Int) (bs : List Nat) (hE : bvals bs = [.int .u8 E0, .int .u8 E1, .int .u8 E2, .int .u8 E3]) (c : Nat) (hx : a.eval x = .slice (some ⟨w0.heap.size, 0, none⟩) 4 c)
    (h : ∀ v' w', w'.ownsRow base 5 1 v' (L + 4) (bvals (cur ++ bs)) → Below base w0 w' → wpList Tryd.prog ops Q rest (a.put o.dst v') w') : wpList Tryd.prog ops Q (o :: rest) a (w0.alloc (.cells #[.int .u8 E0, .int .u8 E1, .int .u8 E2, .int .u8 E3] 5)) := by
  obtain ⟨i0, hi, hz0, hz1, hz2⟩ := info_parts Tryd.info5
  refine wpList_append_own _ hgd s x 68 ho base 5 i0 (.int .u8 0) 1 1 Tryd.underlying68 hi hz0 hz1 hz2 rfl (by decide) v L (bvals cur) hs (hown.alloc _) ⟨w0.heap.size, 0, none⟩ 4 c [.int .u8 E0, .int .u8 E1, .int .u8 E2, .int .u8 E3] hx rfl (by intro j u hu; rw [add_none]; exact cells_new_at _ _ _ j u hu) (by simp [Value.oneCell']) (by unfold maxLen; omega) (by omega) (by simp; omega) ?_
  intro v' w4 hown4 hgr4 _
  refine h v' w4 (by rw [bvals_append, hE]; exact hown4) ?_
  exact ((Chg.alloc1 w0 _).trans (Chg.of_grown hgr4 (fun q _ e => (hown.lt q e).1)) : Chg (fun q _ => base ≤ q) w0 w4).below hb (fun q i hq h => by omega)
/-- One string behind strings. -/
theorem app_str {w0 : World} (hgd : o.guard = none) (s x : Operand) (ho : o.op = .call { callee := .builtin .append, args := #[s, x], argTypes := #[47, 47] })
    (base : Nat) (v : Value) (L : Nat) (cur : List ByteArray) (hs : a.eval s = v) (hown : w0.ownsRow base 9 1 v L (strV cur)) (hb : base ≤ w0.heap.size) (hL : L ≤ 1000000000000)
    (b : ByteArray) (c : Nat) (hx : a.eval x = .slice (some ⟨w0.heap.size, 0, none⟩) 1 c)
    (h : ∀ v' w', w'.ownsRow base 9 1 v' (L + 1) (strV (cur ++ [b])) → Below base w0 w' → wpList Tryd.prog ops Q rest (a.put o.dst v') w') : wpList Tryd.prog ops Q (o :: rest) a (w0.alloc (.cells #[.string b] 9)) := by
  obtain ⟨i0, hi, hz0, hz1, hz2⟩ := info_parts Tryd.info9
  refine wpList_append_own _ hgd s x 47 ho base 9 i0 (.string ByteArray.empty) 1 16 Tryd.underlying47 hi hz0 hz1 hz2 rfl (by decide) v L (strV cur) hs (hown.alloc _) ⟨w0.heap.size, 0, none⟩ 1 c [.string b] hx rfl (cell_one_new _ _ _) (by simp [Value.oneCell']) (by unfold maxLen; omega) (by omega) (by simp; omega) ?_
  intro v' w4 hown4 hgr4 _
  refine h v' w4 (by rw [strV_app]; exact hown4) ?_
  exact ((Chg.alloc1 w0 _).trans (Chg.of_grown hgr4 (fun q _ e => (hown.lt q e).1)) : Chg (fun q _ => base ≤ q) w0 w4).below hb (fun q i hq h => by omega)
/-- Two strings behind strings. -/
theorem app_str2 {w0 : World} (hgd : o.guard = none) (s x : Operand) (ho : o.op = .call { callee := .builtin .append, args := #[s, x], argTypes := #[47, 47] })
    (base : Nat) (v : Value) (L : Nat) (cur : List ByteArray) (hs : a.eval s = v) (hown : w0.ownsRow base 9 1 v L (strV cur)) (hb : base ≤ w0.heap.size) (hL : L ≤ 1000000000000)
    (b d : ByteArray) (c : Nat) (hx : a.eval x = .slice (some ⟨w0.heap.size, 0, none⟩) 2 c)
    (h : ∀ v' w', w'.ownsRow base 9 1 v' (L + 2) (strV (cur ++ [b, d])) → Below base w0 w' → wpList Tryd.prog ops Q rest (a.put o.dst v') w') : wpList Tryd.prog ops Q (o :: rest) a (w0.alloc (.cells #[.string b, .string d] 9)) := by
  obtain ⟨i0, hi, hz0, hz1, hz2⟩ := info_parts Tryd.info9
  refine wpList_append_own _ hgd s x 47 ho base 9 i0 (.string ByteArray.empty) 1 16 Tryd.underlying47 hi hz0 hz1 hz2 rfl (by decide) v L (strV cur) hs (hown.alloc _) ⟨w0.heap.size, 0, none⟩ 2 c [.string b, .string d] hx rfl (by intro j u hu; rw [add_none]; exact cells_new_at _ _ _ j u hu) (by simp [Value.oneCell']) (by unfold maxLen; omega) (by omega) (by simp; omega) ?_
  intro v' w4 hown4 hgr4 _
  refine h v' w4 (by rw [show cur ++ [b, d] = (cur ++ [b]) ++ [d] by simp, strV_app, strV_app, List.append_assoc]; exact hown4) ?_
  exact ((Chg.alloc1 w0 _).trans (Chg.of_grown hgr4 (fun q _ e => (hown.lt q e).1)) : Chg (fun q _ => base ≤ q) w0 w4).below hb (fun q i hq h => by omega)
end
/-- A slice of the call's own stays over calls. -/
theorem own_later {w w' : World} {base e size n : Nat} {v : Value} {xs : List Value} (h : w.ownsRow base e size v n xs) (hb : Below w.heap.size w w') : w'.ownsRow base e size v n xs := ownsRow_keep h (Chg.of_below (M := fun _ _ => False) hb) (fun _ _ _ h => h)
theorem below_trans' {B : Nat} {w w1 w2 : World} (h : Below B w w1) (hB : B ≤ w.heap.size) (h2 : Below w1.heap.size w1 w2) : Below B w w2 := h.trans (h2.mono (Nat.le_trans hB h.size))
end Go.Proofs.YtmnendoloankgaaDoor
