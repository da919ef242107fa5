/- The chunker of a stream: New, take, Held. -/
import Derived.Test.YtfnhcjcahcacnaaDoorSplit
namespace Go.Proofs.YtfnhcjcahcacnaaDoor
open Go.RowKit
open Roll (u)
open Kit (Chg)
open Chk

theorem Tryd.zero84 : (Tryd.prog.info? 84).map (fun i => i.zero.map (fun z => (z.cells.size, z.cells[331]?))) = some (some (332, some (.slice none 0 0))) := by kernel_rfl
theorem Tryd.fields84 : (match Tryd.prog.underlying 84 with | some (.struct fields) => fields.toList.mapM (fun f => (Tryd.prog.info? f.type).map fun i => (f.offset, i.size)) | _ => none) = some [(0, 331), (331, 1)] := by kernel_rfl
theorem chrRow_list (A Z : List Value) (z0 : Value) (hA : A.length = 331) (hZ : Z.length = 332) (hz : Z[331]? = some z0) : (splice Z 0 A).toArray = A.toArray ++ #[z0] := by
  have e0 := Kit.splice_at [] Z A 0 rfl
  rw [List.nil_append, List.nil_append, hA] at e0
  rw [e0]
  have h9 : 331 < Z.length := by omega
  rw [List.drop_eq_getElem_cons h9]
  rw [List.getElem?_eq_getElem h9] at hz
  have e1 : Z.drop (331 + 1) = [] := List.drop_of_length_le (by omega)
  rw [e1, Option.some.inj hz]
  rw [← Array.toList_inj]
  simp
theorem built84 (R : Array Value) (hs : R.size = 331) : Tryd.prog.built 84 [(0, .agg R)] = some (R ++ #[.slice none 0 0]) := by
  have hz := Tryd.zero84
  have hf := Tryd.fields84
  cases hi : Tryd.prog.info? 84 with
  | none => rw [hi] at hz; cases hz
  | some it =>
    rw [hi] at hz
    cases hzz : it.zero with
    | none => rw [Option.map_some, hzz] at hz; cases hz
    | some z =>
      rw [Option.map_some, hzz, Option.map_some, Option.some.injEq, Option.some.injEq, Prod.mk.injEq] at hz
      obtain ⟨hz1, hz2⟩ := hz
      cases hu : Tryd.prog.underlying 84 with
      | none => rw [hu] at hf; cases hf
      | some d =>
        rw [hu] at hf
        cases d with
        | struct fields =>
          refine Kit.built_struct hi hu hzz hf ?_
          have hzl : z.cells.toList.length = 332 := by rw [Array.length_toList]; exact hz1
          rw [Kit.fill_put (v := .agg R) (off := 0) (size := 331) rfl hs (by omega), Kit.fill_nil]
          refine congrArg some ?_
          have hs' : R.toList.length = 331 := by rw [Array.length_toList]; exact hs
          have hz3 : z.cells.toList[331]? = some (.slice none 0 0) := by simpa using hz2
          exact chrRow_list R.toList z.cells.toList _ hs' hzl hz3
        | _ => cases hf

theorem wpList_build84 {ops : Array Oper} {rest : List Oper} {o : Oper} {a : Act} {w : World} {Q : Exit → Act → World → Prop} (hgd : o.guard = none) (x : Operand) (ho : o.op = .build 84 [(0, x)].toArray) (R : Array Value) (hR : R.size = 331) (hx : a.eval x = .agg R)
    (h : wpList Tryd.prog ops Q rest (a.put o.dst (.agg (R ++ #[.slice none 0 0]))) w) : wpList Tryd.prog ops Q (o :: rest) a w :=
  wpList_plain hgd fun _ hK => Kit.wp_build_list 84 [(0, x)] ho _ (by show Tryd.prog.built 84 [(0, a.eval x)] = _; rw [hx]; exact built84 R hR) (hK _ _ h)

/-- A chunker lies at block b: it has got the bytes ps; its buffer bv holds what lies behind the last complete chunk. -/
structure ChrAt (w : World) (B0 b : Nat) (c : Cut) (ps : List Nat) (bv : Value) : Prop where
  mark : MarkAt w b c ps
  buf : w.cell? ⟨b, 331, none⟩ = some bv
  free : w.frozen? ⟨b, 331, none⟩ = false
  row : w.ownsRow B0 5 1 bv (ps.drop (startS c ps ps.length)).length (bvals (ps.drop (startS c ps ps.length)))
  bytes : ∀ x ∈ ps, x < 256
  type : ∃ cc f, w.heap[b]? = some (.cells cc 84 f)

set_option maxRecDepth 100000 in
set_option maxHeartbeats 400000 in
theorem new_bad (mn mx win bits : Int) (s : BitVec 64) (hv : validB mn mx win bits = false) (w : World) :
    Calls Tryd.prog 41 #[.agg #[.int .i64 mn, .int .i64 mx, .int .i64 win, .int .i64 bits, .int .u64 (u s)]] w fun e w' => e = .returned (.tuple #[.pointer none, .int .i64 1]) ∧ Below w.heap.size w w' := by
  go_enter Tryd.func41, Tryd.ntmps41
  go_wp2_with fail
  refine (valid_any mn mx win bits s _).mono ?_
  rintro e w1 ⟨rfl, hb⟩
  have HB := Lib.hid (((Below.refl w.heap.size w).alloc (Nat.le_refl _) _).trans (hb.mono (by simp)))
  clear hb
  rw [hv]
  clear hv
  go_wp2_with fail
  go_ret2
  exact ⟨rfl, HB.out⟩

set_option maxRecDepth 100000 in
set_option maxHeartbeats 400000 in
theorem new_ok (c : Cut) (hk : c.Ok) (w : World) (hw : 0 < w.heap.size) :
    Calls Tryd.prog 41 #[.agg #[.int .i64 c.mn, .int .i64 c.mx, .int .i64 c.win, .int .i64 c.bits, .int .u64 (u c.seed)]] w fun e w' =>
      ∃ b, e = .returned (.tuple #[.pointer (some ⟨b, 0, none⟩), .int .i64 0]) ∧ w.heap.size ≤ b ∧ b < w'.heap.size ∧ ChrAt w' w.heap.size b c [] (.slice none 0 0) ∧ Below w.heap.size w w' := by
  have HK := Lib.hid hk
  clear hk
  go_enter Tryd.func41, Tryd.ntmps41
  go_wp2_with fail
  refine (valid_any c.mn c.mx c.win c.bits c.seed _).mono ?_
  rintro e w1 ⟨rfl, hb⟩
  have hc : ∀ i, w1.cell? ⟨w.heap.size, i, none⟩ = (#[.int .i64 c.mn, .int .i64 c.mx, .int .i64 c.win, .int .i64 c.bits, .int .u64 (u c.seed)] : Array Value)[i]? := fun i =>
    (hb.cell (p := ⟨w.heap.size, i, none⟩) (by simp)).trans (by rw [cell_of_row _ _ _ _ _ _ (heap_alloc_new _ _)])
  have HB := Lib.hid (((Below.refl w.heap.size w).alloc (Nat.le_refl _) (.cells #[.int .i64 c.mn, .int .i64 c.mx, .int .i64 c.win, .int .i64 c.bits, .int .u64 (u c.seed)] 48)).trans (hb.mono (by simp)))
  have c0 := hc 0
  have c1 := hc 1
  have c2 := hc 2
  have c3 := hc 3
  have c4 := hc 4
  clear hb hc
  rw [valid_of HK.out]
  go_wp2_with fail
  refine (newMarker_ok c HK.out w1).mono ?_
  rintro e w2 ⟨rfl, hb2⟩
  have HB2 := Lib.hid (HB.out.trans (hb2.mono HB.out.size))
  clear hb2 c0 c1 c2 c3 c4
  go_wp2_with (refine wpList_build84 rfl (.tmp 8) (by rfl) (markRow c.mn c.mx c.win c.bits c.seed) (markRow_size _ _ _ _ _) (by rfl) ?_)
  go_ret2
  have hg : (w2.alloc (.cells ((markRow c.mn c.mx c.win c.bits c.seed).push (.slice none 0 0)) 84)).heap[w2.heap.size]? = some (.cells (markRow c.mn c.mx c.win c.bits c.seed ++ [Value.slice none 0 0].toArray) 84 (0, 0)) := by
    rw [heap_alloc_new]; simp
  have hsz := HB2.out.size
  have h331 : (markRow c.mn c.mx c.win c.bits c.seed ++ [Value.slice none 0 0].toArray)[331]? = some (.slice none 0 0) := by
    rw [Array.getElem?_append_right (by rw [markRow_size]; exact Nat.le_refl _), markRow_size]; rfl
  refine ⟨w2.heap.size, rfl, hsz, by simp, ⟨mark_new c HK.out _ _ 84 [.slice none 0 0] (by omega) hg, (cell_of_row _ _ _ _ _ _ hg).trans h331, frozen_of_row _ _ _ _ _ hg, ?_, by simp, ⟨_, _, hg⟩⟩, HB2.out.alloc hsz _⟩
  exact World.ownsRow_nil _ _ _ _

theorem held_any (w : World) (b : Nat) (a : Option Addr) (n m : Nat) (h : w.cell? ⟨b, 331, none⟩ = some (.slice a n m)) :
    Calls Tryd.prog 53 #[.pointer (some ⟨b, 0, none⟩)] w fun e w' => e = .returned (.int .i64 n) ∧ w = w' := by
  go_enter Tryd.func53, Tryd.ntmps53
  go_wp2
  go_ret
  exact ⟨rfl, rfl⟩
theorem take_any (w : World) (b : Nat) (a : Option Addr) (n m : Nat) (h : w.cell? ⟨b, 331, none⟩ = some (.slice a n m)) (hf : w.frozen? ⟨b, 331, none⟩ = false) :
    Calls Tryd.prog 61 #[.pointer (some ⟨b, 0, none⟩)] w fun e w' => e = .returned (.slice a n m) ∧ w' = w.setCell ⟨b, 331, none⟩ (.slice none 0 0) := by
  go_enter Tryd.func61, Tryd.ntmps61
  go_wp2
  go_ret
  exact ⟨rfl, rfl⟩
end Go.Proofs.YtfnhcjcahcacnaaDoor
