/- Texts KMark, KVal, KApp, KPrim, KRefP of the proof, each as a section; no premises beyond those that each theorem states. -/
import Derived.Laws.ResultCell
import Derived.Laws.AppendOwnNone
import Derived.Test.YtmcbnhkcjhlbaaaGreatDoorP04
import Derived.Test.YtmcbnhkcjhlbaaaGreatDoorP06
set_option linter.unusedVariables false
set_option linter.unusedSimpArgs false
section
namespace Go.Proofs.YtmcbnhkcjhlbaaaGreatDoor.Ck
open Go.RowKit
open Roll (u)
open Go.Proofs.YtmcbnhkcjhlbaaaGreatDoor.Kit (Chg)
open Chk

noncomputable def rollRow (s : BitVec 64) (win : Int) : Array Value := (splice (blank win) 0 (tabCells s)).toArray
noncomputable def markRow (mn mx win bits : Int) (s : BitVec 64) : Array Value := rollRow s win ++ #[.int .i64 mn, .int .i64 mx, .int .i64 win, .int .i64 bits, .int .u64 (u s), .int .i64 0, .int .i64 (-mn)]

theorem rollRow_size (s : BitVec 64) (win : Int) : (rollRow s win).size = 324 := by
  obtain ⟨A, B, hA, hB, _, e⟩ := blank_eq win
  unfold rollRow
  rw [e]
  simp [splice, tabCells_length, hA, hB]

theorem rollRow_one (s : BitVec 64) (win : Int) : ∀ v ∈ (rollRow s win).toList, v.oneCell' = true := by
  obtain ⟨A, B, hA, hB, hz, e⟩ := blank_eq win
  intro v hv
  unfold rollRow at hv
  rw [e] at hv
  simp only [splice, List.take_zero, List.nil_append, tabCells_length, Nat.zero_add] at hv
  rw [List.drop_append_of_le_length (by simp [hA]), List.drop_append_of_le_length (by omega), List.drop_of_length_le (by omega), List.nil_append] at hv
  rcases List.mem_append.1 hv with h | h
  · exact tabCells_one s v h
  · rcases List.mem_append.1 h with h | h
    · obtain ⟨i, hi⟩ := List.mem_iff_getElem?.1 h
      have hl : i < B.length := (List.getElem?_eq_some_iff.1 hi).1
      rw [hz i (by omega)] at hi
      cases hi; rfl
    · simp at h
      rcases h with rfl | rfl | rfl | rfl <;> rfl
theorem markRow_size (mn mx win bits : Int) (s : BitVec 64) : (markRow mn mx win bits s).size = 331 := by
  unfold markRow; rw [Array.size_append, rollRow_size]; rfl
theorem markRow_one (mn mx win bits : Int) (s : BitVec 64) : (markRow mn mx win bits s).all (·.oneCell') = true := by
  rw [Array.all_eq_true_iff_forall_mem]
  intro v hv
  unfold markRow at hv
  rcases Array.mem_append.1 hv with h | h
  · exact rollRow_one s win v (by simpa using h)
  · simp at h
    rcases h with rfl | rfl | rfl | rfl | rfl | rfl | rfl <;> rfl

theorem Tryz.zero166 : (Tryz.prog.info? 166).map (fun i => i.zero.map (fun z => (z.cells.size, z.cells[329]?))) = some (some (331, some (.int .i64 0))) := by kernel_rfl
theorem Tryz.size166 : (Tryz.prog.info? 166).map (·.size) = some 331 := by kernel_rfl
theorem Tryz.size164 : (Tryz.prog.info? 164).map (·.size) = some 324 := by kernel_rfl
theorem Tryz.zcells166 : Tryz.zeroCells166.size = 331 := by kernel_rfl
theorem Tryz.fields166 : (match Tryz.prog.underlying 166 with | some (.struct fields) => fields.toList.mapM (fun f => (Tryz.prog.info? f.type).map fun i => (f.offset, i.size)) | _ => none) = some [(0, 324), (324, 5), (329, 1), (330, 1)] := by kernel_rfl

theorem markRow_list (A Z : List Value) (z0 : Value) (hA : A.length = 324) (hZ : Z.length = 331) (e0 : splice Z 0 A = A ++ Z.drop 324) (e4 : (Z.drop 324).drop 5 = z0 :: Z.drop 330) (c0 c1 c2 c3 c4 m : Value) :
    (splice (splice (splice Z 0 A) 324 [c0, c1, c2, c3, c4]) 330 [m]).toArray = A.toArray ++ #[c0, c1, c2, c3, c4, z0, m] := by
  rw [e0, Kit.splice_at A _ _ 324 hA]
  show (splice (A ++ ([c0, c1, c2, c3, c4] ++ (Z.drop 324).drop 5)) 330 [m]).toArray = _
  rw [e4]
  have e2 := Kit.splice_at (A ++ [c0, c1, c2, c3, c4, z0]) (Z.drop 330) [m] 330 (by rw [List.length_append, hA]; rfl)
  rw [List.append_assoc] at e2
  have e3 : (Z.drop 330).drop [m].length = [] := by rw [List.drop_drop]; exact List.drop_of_length_le (by rw [hZ]; exact Nat.le_refl _)
  rw [e3] at e2
  refine (congrArg List.toArray e2).trans ?_
  rw [← Array.toList_inj]
  simp

set_option maxRecDepth 100000 in
theorem built81 (mn mx win bits m : Int) (s : BitVec 64) : Tryz.prog.built 166 [(0, .agg (rollRow s win)), (1, .agg #[.int .i64 mn, .int .i64 mx, .int .i64 win, .int .i64 bits, .int .u64 (u s)]), (3, .int .i64 m)] =
    some (rollRow s win ++ #[.int .i64 mn, .int .i64 mx, .int .i64 win, .int .i64 bits, .int .u64 (u s), .int .i64 0, .int .i64 m]) := by
  have hz := Tryz.zero166
  have hf := Tryz.fields166
  cases hi : Tryz.prog.info? 166 with
  | none => rw [hi] at hz; cases hz
  | some it =>
    rw [hi] at hz
    cases hzz : it.zero with
    | none => rw [Option.map_some, hzz] at hz; cases hz
    | some z =>
      rw [Option.map_some, hzz, Option.map_some, Option.some.injEq, Option.some.injEq, Prod.mk.injEq] at hz
      obtain ⟨hz1, hz2⟩ := hz
      cases hu : Tryz.prog.underlying 166 with
      | none => rw [hu] at hf; cases hf
      | some d =>
        rw [hu] at hf
        cases d with
        | struct fields =>
          refine Kit.built_struct hi hu hzz hf ?_
          have hs := rollRow_size s win
          have hs0 : (Value.agg (rollRow s win)).cells.toList.length = 324 := by rw [Array.length_toList]; exact hs
          have hzl : z.cells.toList.length = 331 := by rw [Array.length_toList]; exact hz1
          rw [Kit.fill_put (v := .agg (rollRow s win)) (off := 0) (size := 324) rfl hs (by omega),
            Kit.fill_put (v := .agg #[.int .i64 mn, .int .i64 mx, .int .i64 win, .int .i64 bits, .int .u64 (u s)]) (off := 324) (size := 5) rfl rfl (by rw [List.size_toArray, Kit.splice_length _ _ _ (by rw [hs0, hzl]; omega), hzl]; omega),
            Kit.fill_put (v := .int .i64 m) (off := 330) (size := 1) rfl rfl (by rw [List.size_toArray, Kit.splice_length _ _ _ (by rw [List.toList_toArray, Kit.splice_length _ _ _ (by rw [hs0, hzl]; omega), hzl]; show 324 + 5 ≤ 331; omega), List.toList_toArray, Kit.splice_length _ _ _ (by rw [hs0, hzl]; omega), hzl]; omega)]
          rw [Kit.fill_nil]
          refine congrArg some ?_
          have hs' : (rollRow s win).toList.length = 324 := by rw [Array.length_toList]; exact hs
          have hz3 : z.cells.toList[329]? = some (.int .i64 0) := by simpa using hz2
          have e0 := Kit.splice_at [] z.cells.toList (rollRow s win).toList 0 rfl
          rw [List.nil_append, List.nil_append, hs'] at e0
          have e1 : z.cells.toList.drop 329 = .int .i64 0 :: z.cells.toList.drop 330 := by
            have h9 : 329 < z.cells.toList.length := by omega
            rw [List.drop_eq_getElem_cons h9]
            rw [List.getElem?_eq_getElem h9] at hz3
            congr 1
            exact Option.some.inj hz3
          have e4 : (z.cells.toList.drop 324).drop 5 = .int .i64 0 :: z.cells.toList.drop 330 := by rw [List.drop_drop]; exact e1
          exact markRow_list _ _ _ hs' hzl e0 e4 _ _ _ _ _ _
        | _ => cases hf

theorem store81 {o : Oper} {a : Act} {w : World} {K : Act → World → Prop} {Q : Exit → Act → World → Prop} (x y : Operand) (ho : o.op = .store 166 x y) (g : Nat) (R old : Array Value) (hR : R.size = 331) (h1 : R.all (·.oneCell') = true)
    (hx : a.eval x = .pointer (some ⟨g, 0, none⟩)) (hy : a.eval y = .agg R) (hg : w.heap[g]? = some (.cells old 166 (0, 0))) (hold : old.size = 331) (h : K (a.put o.dst undef) (w.setRow g R)) : o.wp Tryz.prog a w K Q :=
  wp_store_row 166 x y ho g R hx hy 166 old hg (by rw [hR]; exact Tryz.size166) (by rw [hR]; exact hold) h1 h
set_option maxRecDepth 100000 in
set_option maxHeartbeats 400000 in
theorem newMarker_any (mn mx win bits : Int) (s : BitVec 64) (h1 : 1 ≤ win) (h2 : win ≤ 64) (h3 : 0 ≤ mn) (h4 : mn ≤ 32768) (w : World) :
    Calls Tryz.prog 77 #[.agg #[.int .i64 mn, .int .i64 mx, .int .i64 win, .int .i64 bits, .int .u64 (u s)]] w fun e w' => e = .returned (.agg (markRow mn mx win bits s)) ∧ Below w.heap.size w w' := by
  go_enter Tryz.func77, Tryz.ntmps77
  go_wp2_with fail
  refine wp_over (fun W => Hid (W.heap.size = w.heap.size + 2) ∧ (∀ i, W.cell? ⟨w.heap.size, i, none⟩ = (#[.int .i64 mn, .int .i64 mx, .int .i64 win, .int .i64 bits, .int .u64 (u s)] : Array Value)[i]?) ∧ Hid (W.heap[w.heap.size + 1]? = some (.cells Tryz.zeroCells166 166 (0, 0))) ∧ Hid (Below w.heap.size w W)) ⟨by show _ = _; simp, fun i => ?_, by show _ = _; exact heap_alloc2_new _ _ _, ((Below.refl _ _).alloc (Nat.le_refl _) _).alloc (by simp) _⟩ ?_
  · rw [cell_of_row _ _ _ _ _ _ (heap_alloc2_old _ _ _)]
  rintro W ⟨HS, HC, HZ, HB⟩
  generalize hN : w.heap.size = N at *
  have hNN : Hid (w.heap.size = N) := hN
  clear hN
  have c0 : W.cell? ⟨N, 0, none⟩ = some (.int .i64 mn) := HC 0
  have c1 : W.cell? ⟨N, 1, none⟩ = some (.int .i64 mx) := HC 1
  have c2 : W.cell? ⟨N, 2, none⟩ = some (.int .i64 win) := HC 2
  have c3 : W.cell? ⟨N, 3, none⟩ = some (.int .i64 bits) := HC 3
  have c4 : W.cell? ⟨N, 4, none⟩ = some (.int .u64 (u s)) := HC 4
  have hlt : Hid (N < W.drew.heap.size) := by have := HS.out; show N < W.heap.size; omega
  clear HC
  refine Kit.wp_region_heads (fun w' => w'.cell? ⟨N, 0, none⟩ = some (.int .i64 mn) ∧ w'.cell? ⟨N, 1, none⟩ = some (.int .i64 mx) ∧ w'.cell? ⟨N, 2, none⟩ = some (.int .i64 win) ∧ w'.cell? ⟨N, 3, none⟩ = some (.int .i64 bits) ∧ w'.cell? ⟨N, 4, none⟩ = some (.int .u64 (u s)))
    [0, 1, 2, 3, 7, 8, 9, 10] [4, 5, 6, 11, 12] (by kernel_rfl) (by kernel_rfl) (by kernel_rfl) (by kernel_rfl) ⟨c0, c1, c2, c3, c4⟩ ?_
  repeat (refine Kit.heads_cons (by rfl) (.inl ⟨by rfl, fun w' hS => by (dsimp only at hS); go_simp; (try with_reducible rfl)⟩) ?_; simp only [Act.put, List.setIfInBounds_toArray, List.set_cons_zero, List.set_cons_succ])
  refine Kit.heads_nil ?_
  refine Kit.chain_cons (by rfl) rfl fun K hK => ?_
  go_simp
  go_at_call 127
  refine (new_cells s win h1 h2 _).mono ?_
  rintro e w1 ⟨rfl, hc1, hb1⟩
  have hw1 : w1.heap[W.heap.size]? = some (.cells (rollRow s win) 164 (0, 0)) := hc1
  have hz1 : w1.heap[N + 1]? = some (.cells Tryz.zeroCells166 166 (0, 0)) := (hb1.block (N + 1) (by have := HS.out; show N + 1 < W.heap.size; omega)).trans HZ.out
  have hS1 : w1.cell? ⟨N, 0, none⟩ = some (.int .i64 mn) ∧ w1.cell? ⟨N, 1, none⟩ = some (.int .i64 mx) ∧ w1.cell? ⟨N, 2, none⟩ = some (.int .i64 win) ∧ w1.cell? ⟨N, 3, none⟩ = some (.int .i64 bits) ∧ w1.cell? ⟨N, 4, none⟩ = some (.int .u64 (u s)) :=
    ⟨(hb1.cell (p := ⟨N, 0, none⟩) hlt.out).trans c0, (hb1.cell (p := ⟨N, 1, none⟩) hlt.out).trans c1, (hb1.cell (p := ⟨N, 2, none⟩) hlt.out).trans c2, (hb1.cell (p := ⟨N, 3, none⟩) hlt.out).trans c3, (hb1.cell (p := ⟨N, 4, none⟩) hlt.out).trans c4⟩
  have hN0 : Hid (W.drew.heap.size = N + 2) := HS
  refine hK _ _ hS1 ?_
  clear hK K
  refine Kit.chain_cons (by rfl) rfl fun K hK => ?_
  go_simp
  refine hK _ _ hS1 ?_
  clear hK K
  refine Kit.chain_cons (by rfl) rfl fun K hK => ?_
  refine wp_load_row 164 (.tmp 8) rfl W.heap.size rfl 164 (rollRow s win) (0, 0) _ hw1 Tryz.underlying164 rfl (by rw [rollRow_size]; exact Tryz.size164) ?_
  refine hK _ _ hS1 ?_
  clear hK K
  simp only [Act.put, List.setIfInBounds_toArray, List.set_cons_zero, List.set_cons_succ]
  refine Kit.chain_cons (by rfl) rfl fun K hK => ?_
  have hwr : IntKind.i64.wrap (-mn) = -mn := by rw [IntKind.wrap_i64]; omega
  rw [hwr]
  have hbt : Tryz.prog.built 166 [(0, .agg (rollRow s win)), (1, .agg #[.int .i64 mn, .int .i64 mx, .int .i64 win, .int .i64 bits, .int .u64 (u s)]), (3, .int .i64 (-mn))] = some (markRow mn mx win bits s) := built81 mn mx win bits (-mn) s
  refine Kit.wp_build_list 166 [(0, Operand.tmp 9), (1, Operand.tmp 10), (3, Operand.tmp 13)] (by rfl) (markRow mn mx win bits s) (by exact hbt) ?_
  refine hK _ _ hS1 ?_
  clear hK K hbt
  simp only [Act.put, List.setIfInBounds_toArray, List.set_cons_zero, List.set_cons_succ]
  have hS2 : ∀ i, (w1.setRow (N + 1) (markRow mn mx win bits s)).cell? ⟨N, i, none⟩ = w1.cell? ⟨N, i, none⟩ := fun i => cell_setRow_other _ _ _ _ (by show N ≠ N + 1; omega)
  refine Kit.chain_cons (by rfl) rfl fun K hK => store81 (.tmp 2) (.tmp 14) (by rfl) (N + 1) (markRow mn mx win bits s) Tryz.zeroCells166 (markRow_size _ _ _ _ _) (markRow_one _ _ _ _ _) (by rfl) (by rfl) hz1 Tryz.zcells166
    (hK _ _ ⟨(hS2 0).trans hS1.1, (hS2 1).trans hS1.2.1, (hS2 2).trans hS1.2.2.1, (hS2 3).trans hS1.2.2.2.1, (hS2 4).trans hS1.2.2.2.2⟩ (Kit.chain_done ?_))
  simp only [Act.put]
  have hg2 := setRow_heap w1 (N + 1) _ (markRow mn mx win bits s) 166 (0, 0) hz1
  have hb2 : Below N w (w1.setRow (N + 1) (markRow mn mx win bits s)) := below_setRow ((HB.out.drew).trans (hb1.mono (show N ≤ W.drew.heap.size by rw [hN0.out]; omega))) (by omega) _
  go_wp2
  refine bodyPost_ret (results_cell_row (p := 2) rfl _ _ (N + 1) 166 _ (0, 0) _ (by rfl) hg2 Tryz.underlying166 rfl (by rw [markRow_size]; exact Tryz.size166)) rfl ⟨rfl, ?_⟩
  rw [hNN.out]
  exact hb2

structure MarkAt (w : World) (b : Nat) (c : Cut) (ps : List Nat) : Prop where
  roll : ∃ st, RollAt w b 0 c.seed c.win (lastOf ps c.win) st
  mn : w.cell? ⟨b, 324, none⟩ = some (.int .i64 c.mn)
  mx : w.cell? ⟨b, 325, none⟩ = some (.int .i64 c.mx)
  win : w.cell? ⟨b, 326, none⟩ = some (.int .i64 c.win)
  bits : w.cell? ⟨b, 327, none⟩ = some (.int .i64 c.bits)
  pos : w.cell? ⟨b, 329, none⟩ = some (.int .i64 ps.length)
  last : w.cell? ⟨b, 330, none⟩ = some (.int .i64 (lastM c ps ps.length))
  free1 : w.frozen? ⟨b, 329, none⟩ = false
  free2 : w.frozen? ⟨b, 330, none⟩ = false
  some : 4 < b

def markCells (b : Nat) : Nat → Nat → Prop := fun k i => k = b ∧ 256 ≤ i ∧ i < 331

theorem MarkAt.keep {w w' : World} {b : Nat} {c : Cut} {ps : List Nat} {M : Nat → Nat → Prop} (h : MarkAt w b c ps) (hc : Chg M w w') (hM : ∀ i, i < 331 → ¬ M b i) : MarkAt w' b c ps := by
  obtain ⟨st, hr⟩ := h.roll
  have hM0 : ∀ i, i < 331 → ¬ M b (0 + i) := fun i hi => by rw [Nat.zero_add]; exact hM i hi
  refine ⟨⟨st, ⟨fun i hi => hc.cell (hr.table i hi) (hM0 _ (by omega)), fun i hi => let ⟨v, hv, hcv⟩ := hr.ring i hi; ⟨v, hv, hc.cell hcv (by have := hM0 (256 + i) (by omega); rwa [← Nat.add_assoc] at this)⟩,
      fun i hi => hc.cell (hr.held i hi) (by have := hM0 (256 + (st + i) % 64) (by omega); rwa [← Nat.add_assoc] at this), hc.cell hr.window (hM0 _ (by omega)), hc.cell hr.start (hM0 _ (by omega)), hc.cell hr.length (hM0 _ (by omega)), hc.cell hr.sum (hM0 _ (by omega)),
      fun i hi => by rw [hc.frozen hr.window ⟨0, hM _ (by omega)⟩]; exact hr.free i hi, hr.st64, hr.win1, hr.win64, hr.full, hr.bytes⟩⟩,
    hc.cell h.mn (hM _ (by omega)), hc.cell h.mx (hM _ (by omega)), hc.cell h.win (hM _ (by omega)), hc.cell h.bits (hM _ (by omega)), hc.cell h.pos (hM _ (by omega)), hc.cell h.last (hM _ (by omega)), ?_, ?_, h.some⟩
  · rw [hc.frozen h.pos ⟨0, hM _ (by omega)⟩]; exact h.free1
  · rw [hc.frozen h.pos ⟨0, hM _ (by omega)⟩]; exact h.free2

theorem lastM_snoc (c : Cut) (ps : List Nat) (x k : Nat) (h : k ≤ ps.length) : lastM c (ps ++ [x]) k = lastM c ps k := by
  have := lastM_take c (ps ++ [x]) ps.length k h
  rw [List.take_left] at this
  exact this.symm
theorem lastM_snoc_yes (c : Cut) (ps : List Nat) (x : Nat) (h : mk c (ps ++ [x]) = true) : lastM c (ps ++ [x]) (ps ++ [x]).length = ((ps.length + 1 : Nat) : Int) := by
  rw [List.length_append, List.length_singleton, lastM, List.take_of_length_le (by simp), if_pos h]
theorem lastM_snoc_no (c : Cut) (ps : List Nat) (x : Nat) (h : mk c (ps ++ [x]) = false) : lastM c (ps ++ [x]) (ps ++ [x]).length = lastM c ps ps.length := by
  rw [List.length_append, List.length_singleton, lastM, List.take_of_length_le (by simp), if_neg (by simp [h]), lastM_snoc c ps x _ (Nat.le_refl _)]
theorem prim_snoc_no (c : Cut) (ps : List Nat) (x : Nat) (h : mk c (ps ++ [x]) = false) : prim c (ps ++ [x]) (ps.length + 1) = false := by
  unfold prim; rw [List.take_of_length_le (by simp), h]; rfl
theorem prim_snoc_yes (c : Cut) (ps : List Nat) (x : Nat) (h : mk c (ps ++ [x]) = true) : prim c (ps ++ [x]) (ps.length + 1) = decide ((c.mn : Int) ≤ ((ps.length + 1 : Nat) : Int) - lastM c ps ps.length) := by
  unfold prim; rw [List.take_of_length_le (by simp), h, Nat.add_sub_cancel, lastM_snoc c ps x _ (Nat.le_refl _)]; rfl

theorem mark_stepped {w w1 w2 : World} {b : Nat} {c : Cut} {ps : List Nat} {x : Nat} (h : MarkAt w b c ps) (hr : ∃ st, RollAt w1 b 0 c.seed c.win (lastOf (ps ++ [x]) c.win) st) (hc1 : Chg (rollCells b 0) w w1)
    (hc2 : Chg (fun k i => k = b ∧ (i = 329 ∨ i = 330)) w1 w2) (hp : w2.cell? ⟨b, 329, none⟩ = some (.int .i64 (ps ++ [x]).length)) (hl : w2.cell? ⟨b, 330, none⟩ = some (.int .i64 (lastM c (ps ++ [x]) (ps ++ [x]).length))) :
    MarkAt w2 b c (ps ++ [x]) ∧ Chg (markCells b) w w2 := by
  have k1 : ∀ i, 324 ≤ i → ¬ rollCells b 0 b i := fun i hi hm => by have := hm.2.2; omega
  have k2 : ∀ i, i < 329 → ¬ (b = b ∧ (i = 329 ∨ i = 330)) := fun i hi hm => by omega
  have f : ∀ i, w2.frozen? ⟨b, i, none⟩ = w.frozen? ⟨b, i, none⟩ := fun i => (hc2.frozen (hc1.cell h.mn (k1 _ (by omega))) ⟨0, k2 0 (by omega)⟩ i).trans (hc1.frozen h.mn ⟨324, k1 _ (by omega)⟩ i)
  obtain ⟨st, hr⟩ := hr
  refine ⟨⟨⟨st, ⟨fun i hi => hc2.cell (hr.table i hi) (k2 _ (by omega)), fun i hi => let ⟨v, hv, hcv⟩ := hr.ring i hi; ⟨v, hv, hc2.cell hcv (k2 _ (by omega))⟩,
      fun i hi => hc2.cell (hr.held i hi) (k2 _ (by omega)), hc2.cell hr.window (k2 _ (by omega)), hc2.cell hr.start (k2 _ (by omega)), hc2.cell hr.length (k2 _ (by omega)), hc2.cell hr.sum (k2 _ (by omega)),
      fun i hi => by rw [hc2.frozen hr.window ⟨0, k2 0 (by omega)⟩]; exact hr.free i hi, hr.st64, hr.win1, hr.win64, hr.full, hr.bytes⟩⟩,
    hc2.cell (hc1.cell h.mn (k1 _ (by omega))) (k2 _ (by omega)), hc2.cell (hc1.cell h.mx (k1 _ (by omega))) (k2 _ (by omega)), hc2.cell (hc1.cell h.win (k1 _ (by omega))) (k2 _ (by omega)), hc2.cell (hc1.cell h.bits (k1 _ (by omega))) (k2 _ (by omega)), hp, hl,
    (f _).trans h.free1, (f _).trans h.free2, h.some⟩, ?_⟩
  exact (hc1.mono fun k i _ hm => ⟨hm.1, by have := hm.2.1; omega, by have := hm.2.2; omega⟩).trans (hc2.mono fun k i _ hm => ⟨hm.1, by omega, by omega⟩)

set_option maxRecDepth 100000 in
set_option maxHeartbeats 400000 in
theorem step_any (b : Nat) (c : Cut) (hk : c.Ok) (ps : List Nat) (x : Nat) (hx : x < 256) (hl : ps.length ≤ 1000000000) (w : World) (h : MarkAt w b c ps) (hT : TabAt 4 Lib.deBruijn64tab w) :
    Calls Tryz.prog 78 #[.pointer (some ⟨b, 0, none⟩), .int .u8 x] w fun e w' => e = .returned (.bool (prim c (ps ++ [x]) (ps.length + 1))) ∧ MarkAt w' b c (ps ++ [x]) ∧ Chg (markCells b) w w' := by
  have HT := Lib.hid hT
  have HM := Lib.hid h
  have HK := Lib.hid hk
  obtain ⟨st, hr⟩ := h.roll
  have HR := Lib.hid hr
  clear h hT hr hk
  go_enter Tryz.func78, Tryz.ntmps78
  go_wp2_with fail
  refine (push_any b 0 c.seed c.win (lastOf ps c.win) st x hx w HR.out).mono ?_
  rintro e w1 ⟨rfl, hr1, hc1⟩
  rw [pushed_last _ _ _ HK.out.win1] at hr1
  obtain ⟨st1, hr1'⟩ := hr1
  have HR1 := Lib.hid hr1'
  have HC1 := Lib.hid hc1
  have p1 : w1.cell? ⟨b, 329, none⟩ = some (.int .i64 ps.length) := hc1.cell HM.out.pos (fun hm => by have := hm.2.2; omega)
  have f1 : w1.frozen? ⟨b, 329, none⟩ = false := (hc1.frozen HM.out.mn ⟨324, fun hm => by have := hm.2.2; omega⟩ _).trans HM.out.free1
  clear hr1' hc1
  go_wp2_with fail
  refine wp_over (fun W => Hid (Chg (fun k i => k = b ∧ i = 329) w1 W) ∧ W.cell? ⟨b, 329, none⟩ = some (.int .i64 ((ps.length : Int) + 1))) ⟨Chg.setCell1 _ _ _ _ ⟨rfl, rfl⟩, set_same p1⟩ ?_
  rintro W ⟨HCW, p2⟩
  clear p1 f1
  have hno : ∀ i, i ≠ 329 → ¬ (b = b ∧ i = 329) := fun i hi hm => by omega
  have hnr : ∀ i, 324 ≤ i → ¬ rollCells b 0 b i := fun i hi hm => by have := hm.2.2; omega
  have q1 : W.cell? ⟨b, 324, none⟩ = some (.int .i64 c.mn) := HCW.out.cell (HC1.out.cell HM.out.mn (hnr _ (by omega))) (hno _ (by omega))
  have q3 : W.cell? ⟨b, 326, none⟩ = some (.int .i64 c.win) := HCW.out.cell (HC1.out.cell HM.out.win (hnr _ (by omega))) (hno _ (by omega))
  have q4 : W.cell? ⟨b, 327, none⟩ = some (.int .i64 c.bits) := HCW.out.cell (HC1.out.cell HM.out.bits (hnr _ (by omega))) (hno _ (by omega))
  have hln : W.cell? ⟨b, 0 + 322, none⟩ = some (.int .i64 ((min c.win (ps.length + 1) : Nat) : Int)) := by
    have := HR1.out.length
    rw [lastOf_length, List.length_append, List.length_singleton] at this
    exact HCW.out.cell this (hno _ (by omega))
  have hsm : W.cell? ⟨b, 0 + 323, none⟩ = some (.int .u64 (u (Roll.hash c.seed (lastOf (ps ++ [x]) c.win)))) := HCW.out.cell HR1.out.sum (hno _ (by omega))
  have HT2 : Hid (TabAt 4 Lib.deBruijn64tab W) := tabAt_chg (tabAt_chg HT.out HC1.out (fun i hm => by have := hm.1; have := HM.out.some; omega)) HCW.out (fun i hm => by have := hm.1; have := HM.out.some; omega)
  have q5 : W.cell? ⟨b, 330, none⟩ = some (.int .i64 (lastM c ps ps.length)) := HCW.out.cell (HC1.out.cell HM.out.last (hnr _ (by omega))) (hno _ (by omega))
  have hf5 : W.frozen? ⟨b, 330, none⟩ = false := ((HCW.out.frozen (HC1.out.cell HM.out.mn (hnr _ (by omega))) ⟨0, hno 0 (by omega)⟩ _).trans (HC1.out.frozen HM.out.mn ⟨324, hnr _ (by omega)⟩ _)).trans HM.out.free2
  have hlb := lastM_bounds c ps ps.length
  have HLN := Lib.hid hln
  have HSM := Lib.hid hsm
  clear hno hnr hln hsm
  have hmn : (c.mn : Int) ≤ 32768 := by have := HK.out.mx; have := HK.out.most; omega
  have hend : ∀ (W2 : World), Hid (Chg (fun k i => k = b ∧ (i = 329 ∨ i = 330)) W W2 ∧ W2.cell? ⟨b, 329, none⟩ = some (.int .i64 ((ps.length : Int) + 1)) ∧ W2.cell? ⟨b, 330, none⟩ = some (.int .i64 (lastM c (ps ++ [x]) (ps ++ [x]).length)) → MarkAt W2 b c (ps ++ [x]) ∧ Chg (markCells b) w W2) := fun W2 h =>
    mark_stepped HM.out ⟨st1, HR1.out⟩ HC1.out ((HCW.out.mono fun k i _ hm => ⟨hm.1, .inl hm.2⟩).trans h.1) (by rw [h.2.1, List.length_append]; rfl) h.2.2
  by_cases hA : c.win ≤ ps.length + 1
  · have e1 : min c.win (ps.length + 1) = c.win := by omega
    rw [e1] at HLN
    clear e1
    have hmk : mk c (ps ++ [x]) = decide (c.bits ≤ tz (Roll.hash c.seed (lastOf (ps ++ [x]) c.win))) := by
      unfold mk
      rw [List.length_append, List.length_singleton, decide_eq_true hA, Bool.true_and]
    generalize Roll.hash c.seed (lastOf (ps ++ [x]) c.win) = H at HSM hmk
    by_cases hB : c.bits ≤ tz H
    · rw [decide_eq_true hB] at hmk
      have HP := Lib.hid (prim_snoc_yes c ps x hmk)
      have HL := Lib.hid (lastM_snoc_yes c ps x hmk)
      clear hmk
      have d2 : ¬ tz H < c.bits := by omega
      go_quiet (first | (go_at_call 129; exact quiet (len_any _ _ _ _ HLN.out)) | (go_at_call 131; exact quiet (sum_any _ _ _ _ HSM.out)) | (go_at_call 130; exact quiet (zeros_any _ _ HT2.out)))
      go_wp2_with fail
      go_quiet (fail)
      go_wp2_with fail
      go_ret
      exact ⟨by rw [HP.out]; rfl, (hend _).out ⟨((Chg.refl _ _).drewN _).setCell _ ⟨rfl, .inr rfl⟩, set_other p2 (by decide), by rw [HL.out]; exact set_same q5⟩⟩
    · rw [decide_eq_false hB] at hmk
      have HP := Lib.hid (prim_snoc_no c ps x hmk)
      have HL := Lib.hid (lastM_snoc_no c ps x hmk)
      clear hmk
      have d2 : tz H < c.bits := by omega
      go_quiet (first | (go_at_call 129; exact quiet (len_any _ _ _ _ HLN.out)) | (go_at_call 131; exact quiet (sum_any _ _ _ _ HSM.out)) | (go_at_call 130; exact quiet (zeros_any _ _ HT2.out)))
      go_wp2_with fail
      go_ret
      exact ⟨by rw [HP.out]; rfl, (hend _).out ⟨(Chg.refl _ _).drewN _, p2, by rw [HL.out]; exact q5⟩⟩
  · have hmk : mk c (ps ++ [x]) = false := by
      unfold mk
      rw [List.length_append, List.length_singleton, decide_eq_false hA, Bool.false_and]
    have HP := Lib.hid (prim_snoc_no c ps x hmk)
    have HL := Lib.hid (lastM_snoc_no c ps x hmk)
    clear hmk
    have d1 : min c.win (ps.length + 1) < c.win := by omega
    generalize min c.win (ps.length + 1) = m at HLN d1
    go_quiet (first | (go_at_call 129; exact quiet (len_any _ _ _ _ HLN.out)) | (go_at_call 131; exact quiet (sum_any _ _ _ _ HSM.out)) | (go_at_call 130; exact quiet (zeros_any _ _ HT2.out)))
    go_wp2_with fail
    go_ret
    exact ⟨by rw [HP.out]; rfl, (hend _).out ⟨(Chg.refl _ _).drewN _, p2, by rw [HL.out]; exact q5⟩⟩

theorem mark_new (c : Cut) (hk : c.Ok) (w : World) (b t : Nat) (tail : List Value) (hb : 4 < b) (h : w.heap[b]? = some (.cells (markRow c.mn c.mx c.win c.bits c.seed ++ tail.toArray) t (0, 0))) : MarkAt w b c [] := by
  have hw1 := hk.win1
  have hw2 := hk.win64
  have hrs := rollRow_size c.seed c.win
  have k4 : ∀ i, w.frozen? ⟨b, i, none⟩ = false := fun i => frozen_of_row _ _ _ _ _ h
  have hA : ∀ i, i < 324 → w.cell? ⟨b, i, none⟩ = (rollRow c.seed c.win)[i]? := fun i hi => by
    rw [cell_of_row _ _ _ _ _ _ h, Array.getElem?_append_left (by rw [markRow_size]; omega)]
    unfold markRow
    rw [Array.getElem?_append_left (by omega)]
  have hB : ∀ i, 324 ≤ i → i < 331 → w.cell? ⟨b, i, none⟩ = (#[.int .i64 c.mn, .int .i64 c.mx, .int .i64 c.win, .int .i64 c.bits, .int .u64 (u c.seed), .int .i64 0, .int .i64 (-c.mn)] : Array Value)[i - 324]? := fun i h1 h2 => by
    rw [cell_of_row _ _ _ _ _ _ h, Array.getElem?_append_left (by rw [markRow_size]; omega)]
    unfold markRow
    rw [Array.getElem?_append_right (by omega), hrs]
  obtain ⟨A, B, hlA, hlB, hz, e⟩ := blank_eq c.win
  have k1 : ∀ i, i < 256 → w.cell? ⟨b, 0 + i, none⟩ = some (.int .u64 (u (Roll.num c.seed i))) := fun i hi => by
    rw [Nat.zero_add, hA i (by omega)]
    unfold rollRow
    simp only [splice, List.take_zero, List.nil_append, List.getElem?_toArray]
    rw [List.getElem?_append_left (by rw [tabCells_length]; exact hi), tabCells_get c.seed i hi]
  have k2 : ∀ i, 256 ≤ i → i < 324 → w.cell? ⟨b, i, none⟩ = (blank c.win)[i]? := fun i h1 h2 => by
    rw [hA i h2]
    unfold rollRow
    simp only [splice, List.take_zero, List.nil_append, List.getElem?_toArray]
    rw [List.getElem?_append_right (by rw [tabCells_length]; exact h1), tabCells_length, List.getElem?_drop, Nat.zero_add, Nat.add_sub_cancel' h1]
  rw [e] at k2
  have k3 : ∀ i, 320 ≤ i → i < 324 → w.cell? ⟨b, i, none⟩ = ([Value.int .i64 c.win, Value.int .i64 0, Value.int .i64 0, Value.int .u64 0] : List Value)[i - 320]? := fun i h1 h2 => by
    rw [k2 i (by omega) h2, List.getElem?_append_right (by rw [List.length_append]; omega), List.length_append, hlA, hlB]
  refine ⟨⟨0, ⟨k1, fun i hi => ⟨0, by omega, ?_⟩, fun i hi => ?_, ?_, ?_, ?_, ?_, fun i hi => k4 _, by omega, hw1, hw2, ?_, ?_⟩⟩, hB 324 (by omega) (by omega), hB 325 (by omega) (by omega), hB 326 (by omega) (by omega), hB 327 (by omega) (by omega), hB 329 (by omega) (by omega), hB 330 (by omega) (by omega), k4 _, k4 _, hb⟩
  · rw [Nat.zero_add, k2 _ (by omega) (by omega), List.getElem?_append_left (by rw [List.length_append]; omega), List.getElem?_append_right (by omega), hlA, Nat.add_sub_cancel_left]
    exact hz i hi
  · rw [lastOf_nil] at hi; simp at hi
  · exact k3 320 (by omega) (by omega)
  · exact k3 321 (by omega) (by omega)
  · rw [lastOf_nil]; exact k3 322 (by omega) (by omega)
  · rw [lastOf_nil, Roll.hash_nil]; exact k3 323 (by omega) (by omega)
  · rw [lastOf_nil]; simp
  · rw [lastOf_nil]; simp
end Go.Proofs.YtmcbnhkcjhlbaaaGreatDoor.Ck
end
section
namespace Go.Proofs.YtmcbnhkcjhlbaaaGreatDoor.Ck
open Go.RowKit
open Roll (u)
open Go.Proofs.YtmcbnhkcjhlbaaaGreatDoor.Kit (Chg)
open Chk
def validB (mn mx win bits : Int) : Bool := decide (1 ≤ win ∧ win ≤ 64 ∧ win ≤ mn ∧ mn ≤ mx ∧ mx ≤ 32768 ∧ 0 ≤ bits ∧ bits ≤ 20)

set_option maxHeartbeats 400000 in
theorem valid_any (mn mx win bits : Int) (s : BitVec 64) (w : World) :
    Calls Tryz.prog 21 #[.agg #[.int .i64 mn, .int .i64 mx, .int .i64 win, .int .i64 bits, .int .u64 (u s)]] w fun e w' => e = .returned (.bool (validB mn mx win bits)) ∧ Below w.heap.size w w' := by
  go_enter Tryz.func21, Tryz.ntmps21
  go_wp2
  all_goals go_ret
  all_goals refine ⟨?_, (Below.refl _ _).alloc (Nat.le_refl _) _⟩
  all_goals first
    | exact congrArg (fun x => Ending.returned (.bool x)) (show false = validB mn mx win bits from (decide_eq_false (by omega)).symm)
    | exact congrArg (fun x => Ending.returned (.bool x)) (show decide (bits ≤ 20) = validB mn mx win bits from decide_eq_decide.2 (by omega))

abbrev slV (x : Option Addr × Nat × Nat) : Value := .slice x.1 x.2.1 x.2.2
def SlicesAt (w : World) (B : Nat) (xs : List (Option Addr × Nat × Nat)) : Prop := ∀ i, i < xs.length → w.cell? ⟨B, i, none⟩ = some (slV (xs.getD i (none, 0, 0)))
set_option maxHeartbeats 400000 in
theorem check_ok (mn mx win bits : Int) (s : BitVec 64) (B c : Nat) (xs : List (Option Addr × Nat × Nat)) (hl : xs.length ≤ 100) (hx : ∀ x ∈ xs, x.2.1 ≤ 1048576) (hv : validB mn mx win bits = true) (w : World) (h : SlicesAt w B xs) :
    Calls Tryz.prog 33 #[.agg #[.int .i64 mn, .int .i64 mx, .int .i64 win, .int .i64 bits, .int .u64 (u s)], .slice (some ⟨B, 0, none⟩) xs.length c] w fun e w' => e = .returned (.int .i64 0) ∧ Below w.heap.size w w' := by
  have HH := Lib.hid h
  have HX := Lib.hid hx
  clear h hx
  go_enter Tryz.func33, Tryz.ntmps33
  go_wp2_with fail
  refine (valid_any mn mx win bits s _).mono ?_
  rintro e w1 ⟨rfl, hb⟩
  have HB := Lib.hid (((Below.refl w.heap.size w).alloc (Nat.le_refl _) _).trans (hb.mono (by simp)))
  clear hb
  rw [hv]
  clear hv
  go_wp2_with fail
  go_loop [12] (fun i => ∃ k : Nat, k ≤ xs.length ∧ i = .int .i64 k) (fun i => xs.length - (intOf i).toNat)
  case atStart => exact ⟨0, Nat.zero_le _, rfl⟩
  case round =>
    obtain ⟨k, hk, rfl⟩ := hrel
    by_cases hlt : k < xs.length
    · have hc0 := HH.out k hlt
      have hc : w1.cell? ⟨B, k, none⟩ = some (slV (xs.getD k (none, 0, 0))) := (HB.out.cell (p := ⟨B, k, none⟩) (World.block_lt_of_cell? w _ hc0)).trans hc0
      have hn : (xs.getD k (none, 0, 0)).2.1 ≤ 1048576 := by
        rw [List.getD_eq_getElem?_getD, List.getElem?_eq_getElem hlt]; exact HX.out _ (List.getElem_mem hlt)
      clear hc0
      generalize xs.getD k (none, 0, 0) = x at hc hn
      obtain ⟨a, n, m⟩ := x
      dsimp only at hc hn
      go_wp2
      go_round
      case rel => exact ⟨k + 1, by omega, by go_num⟩
      case measure => simp [intOf]; omega
    · go_wp2
      go_ret
      exact ⟨rfl, HB.out⟩
end Go.Proofs.YtmcbnhkcjhlbaaaGreatDoor.Ck
end
section
namespace Go.Proofs.YtmcbnhkcjhlbaaaGreatDoor.Ck
open Go.RowKit
open Roll (u)
open Go.Proofs.YtmcbnhkcjhlbaaaGreatDoor.Kit (Chg)

def SrcAt (w : World) (a : Option Addr) (m c size : Nat) (news : List Value) : Prop :=
  (a = none ∧ m = 0 ∧ c = 0 ∧ news = []) ∨ (news.length = m * size ∧ ∃ ad, a = some ad ∧ ∀ j u, news[j]? = some u → w.cell? (ad.add j) = some u)

theorem wpList_append_src {P : Program} {w : World} {ops : Array Oper} {rest : List Oper} {o : Oper} {a : Act} {Q : Exit → Act → World → Prop} (hgd : o.guard = none) (s x : Operand) (t : TypeId)
    (ho : o.op = .call { callee := .builtin .append, args := #[s, x], argTypes := #[t, t] })
    (base : Nat) (e : TypeId) (i : TypeInfo) (z : Value) (size bytes : Nat) (ht : P.underlying t = some (.slice e)) (hi : P.info? e = some i) (hz : i.zero = some z)
    (hsize : i.size = size) (hby : i.bytes = bytes) (hzs : z.cells.size = size) (hsz : 0 < size)
    (v : Value) (n : Nat) (xs : List Value) (hs : a.eval s = v) (hown : w.ownsRow base e size v n xs)
    (ao : Option Addr) (m c : Nat) (news : List Value) (hx : a.eval x = .slice ao m c) (hsrc : SrcAt w ao m c size news) (h1 : ∀ u ∈ news, u.oneCell' = true)
    (h63 : n + m ≤ maxLen) (hbytes : (n + m) * bytes ≤ 140737488355328) (hbase : base ≤ w.heap.size)
    (h : ∀ v' w', w'.ownsRow base e size v' (n + m) (xs ++ news) → w.grownBy w' v.ownBlock → wpList P ops Q rest (a.put o.dst v') w') : wpList P ops Q (o :: rest) a w := by
  rcases hsrc with ⟨rfl, rfl, rfl, rfl⟩ | ⟨hl, ad, rfl, hnews⟩
  · refine wpList_append_own_none hgd s x t ho base e i size ht hi v n xs hs hown hx ?_
    refine h v w ?_ ⟨rfl, rfl, rfl, Nat.le_refl _, fun _ _ _ => rfl⟩
    rw [List.append_nil, Nat.add_zero]; exact hown
  · exact wpList_append_own w hgd s x t ho base e i z size bytes ht hi hz hsize hby hzs hsz v n xs hs hown ad m c news hx hl hnews h1 h63 hbytes hbase (fun v' w' a b _ => h v' w' a b)

def bvals (bs : List Nat) : List Value := bs.map fun (x : Nat) => Value.int .u8 (x : Int)
theorem bvals_length (bs : List Nat) : (bvals bs).length = bs.length := by simp [bvals]
theorem bvals_one (bs : List Nat) : ∀ v ∈ bvals bs, v.oneCell' = true := by
  intro v hv
  simp only [bvals, List.mem_map] at hv
  obtain ⟨x, _, rfl⟩ := hv
  rfl
theorem add_none (b o j : Nat) : (⟨b, o, none⟩ : Addr).add j = ⟨b, o + j, none⟩ := by unfold Addr.add; split <;> simp_all
theorem BytesAt.src {w : World} {a : Option Addr} {bs : List Nat} (h : BytesAt w a bs) (c : Nat) (hc : a = none → c = 0) : SrcAt w a bs.length c 1 (bvals bs) := by
  rcases h.1 with e | ⟨b, o, e, hcell⟩
  · subst e
    cases a with
    | none => exact .inl ⟨rfl, rfl, hc rfl, rfl⟩
    | some ad => exact .inr ⟨rfl, ad, rfl, fun j u hu => by simp [bvals] at hu⟩
  · subst e
    refine .inr ⟨by rw [bvals_length, Nat.mul_one], _, rfl, fun j u hu => ?_⟩
    have hj : j < bs.length := by
      have := (List.getElem?_eq_some_iff.1 hu).1
      rwa [bvals_length] at this
    rw [add_none, hcell j hj, ← hu]
    simp [bvals, hj]
theorem bytes_of_own {w : World} {base n : Nat} {v : Value} {bs : List Nat} (h : w.ownsRow base 5 1 v n (bvals bs)) (hb : ∀ x ∈ bs, x < 256) (hm : bs.length ≤ maxLen) :
    n = bs.length ∧ ∃ a cap, v = .slice a bs.length cap ∧ bs.length ≤ cap ∧ cap ≤ maxLen ∧ BytesAt w a bs ∧ (a = none → cap = 0) := by
  obtain ⟨hl, hv⟩ := h
  rw [bvals_length, Nat.mul_one] at hl
  subst hl
  refine ⟨rfl, ?_⟩
  rcases hv with ⟨rfl, h0⟩ | ⟨g, cap, cur, rfl, _, hg, hnc, hcm, hcs, htake⟩
  · have : bs = [] := List.eq_nil_of_length_eq_zero h0
    subst this
    exact ⟨none, 0, rfl, Nat.le_refl _, Nat.zero_le _, ⟨.inl rfl, hb, hm⟩, fun _ => rfl⟩
  · refine ⟨some ⟨g, 0, none⟩, cap, rfl, hnc, hcm, ⟨.inr ⟨g, 0, rfl, fun i hi => ?_⟩, hb, hm⟩, fun e => by cases e⟩
    rw [Nat.zero_add, cell_of_row _ _ _ _ _ _ hg]
    have h1 : (bvals bs)[i]? = some (.int .u8 ((bs.getD i 0 : Nat) : Int)) := by simp [bvals, hi]
    rw [← htake, Nat.mul_one, List.getElem?_take_of_lt hi] at h1
    simpa using h1
theorem Tryz.info5 : (Tryz.prog.info? 5).map (fun i => (i.zero, i.size, i.bytes)) = some (some (.int .u8 0), 1, 1) := by kernel_rfl
end Go.Proofs.YtmcbnhkcjhlbaaaGreatDoor.Ck
end
section
namespace Go.Proofs.YtmcbnhkcjhlbaaaGreatDoor.Ck
open Go.RowKit
open Roll (u)
open Go.Proofs.YtmcbnhkcjhlbaaaGreatDoor.Kit (Chg)
open Chk

def natV (zs : List Nat) : List Value := zs.map fun (z : Nat) => Value.int .i64 (z : Int)
theorem wpList_store81 {ops : Array Oper} {rest : List Oper} {o : Oper} {a : Act} {w : World} {Q : Exit → Act → World → Prop} (hgd : o.guard = none) (x y : Operand) (ho : o.op = .store 166 x y) (g : Nat) (R old : Array Value) (hR : R.size = 331) (h1 : R.all (·.oneCell') = true)
    (hx : a.eval x = .pointer (some ⟨g, 0, none⟩)) (hy : a.eval y = .agg R) (hg : w.heap[g]? = some (.cells old 166 (0, 0))) (hold : old.size = 331) (h : wpList Tryz.prog ops Q rest (a.put o.dst undef) (w.setRow g R)) : wpList Tryz.prog ops Q (o :: rest) a w :=
  wpList_plain hgd fun _ hK => store81 x y ho g R old hR h1 hx hy hg hold (hK _ _ h)

theorem check_ok1 (c : Cut) (hk : validB c.mn c.mx c.win c.bits = true) (B : Nat) (a : Option Addr) (n m : Nat) (hn : n ≤ 1048576) (w : World) (h : w.cell? ⟨B, 0, none⟩ = some (.slice a n m)) :
    Calls Tryz.prog 33 #[.agg #[.int .i64 c.mn, .int .i64 c.mx, .int .i64 c.win, .int .i64 c.bits, .int .u64 (u c.seed)], .slice (some ⟨B, 0, none⟩) 1 1] w fun e w' => e = .returned (.int .i64 0) ∧ Below w.heap.size w w' :=
  check_ok c.mn c.mx c.win c.bits c.seed B 1 [(a, n, m)] (by simp) (by simpa using hn) hk w (fun i hi => by
    have : i = 0 := by simpa using hi
    subst this; exact h)
theorem valid_of {c : Cut} (h : c.Ok) : validB c.mn c.mx c.win c.bits = true := by
  have := h.win1; have := h.win64; have := h.mn; have := h.mx; have := h.most; have := h.bits
  unfold validB; rw [decide_eq_true_eq]; omega
theorem newMarker_ok (c : Cut) (hk : c.Ok) (w : World) :
    Calls Tryz.prog 77 #[.agg #[.int .i64 c.mn, .int .i64 c.mx, .int .i64 c.win, .int .i64 c.bits, .int .u64 (u c.seed)]] w fun e w' => e = .returned (.agg (markRow c.mn c.mx c.win c.bits c.seed)) ∧ Below w.heap.size w w' :=
  newMarker_any c.mn c.mx c.win c.bits c.seed (by have := hk.win1; omega) (by have := hk.win64; omega) (by omega) (by have := hk.mx; have := hk.most; omega) w

theorem take_snoc (ds : List Nat) (k : Nat) (h : k < ds.length) : ds.take k ++ [ds.getD k 0] = ds.take (k + 1) := by
  rw [List.take_succ_eq_append_getElem h, List.getD_eq_getElem?_getD, List.getElem?_eq_getElem h, Option.getD_some]

theorem step_at (b : Nat) (c : Cut) (hk : c.Ok) (ds : List Nat) (k : Nat) (hlt : k < ds.length) (x : Nat) (hxe : x = ds.getD k 0) (hx : x < 256) (hl : ds.length ≤ 1000000000) (w : World) (h : MarkAt w b c (ds.take k)) (hT : TabAt 4 Lib.deBruijn64tab w) :
    Calls Tryz.prog 78 #[.pointer (some ⟨b, 0, none⟩), .int .u8 x] w fun e w' => e = .returned (.bool (prim c ds (k + 1))) ∧ MarkAt w' b c (ds.take (k + 1)) ∧ Chg (markCells b) w w' := by
  have e1 : (ds.take k).length = k := by rw [List.length_take]; omega
  have := step_any b c hk (ds.take k) x hx (by omega) w h hT
  rw [hxe, take_snoc ds k hlt, e1, prim_take c ds _ _ (Nat.le_refl _)] at this
  rw [hxe]
  exact this

theorem ownsRow_base {w : World} {base base' e size n : Nat} {v : Value} {xs : List Value} (h : w.ownsRow base e size v n xs) (hb : base' ≤ base) : w.ownsRow base' e size v n xs := by
  refine ⟨h.1, ?_⟩
  rcases h.2 with hn | ⟨g, cap, cur, rfl, hg, r⟩
  · exact .inl hn
  · exact .inr ⟨g, cap, cur, rfl, Nat.le_trans hb hg, r⟩

end Go.Proofs.YtmcbnhkcjhlbaaaGreatDoor.Ck
end
section
namespace Go.Proofs.YtmcbnhkcjhlbaaaGreatDoor.Ck
open Go.RowKit
open Roll (u)
open Go.Proofs.YtmcbnhkcjhlbaaaGreatDoor.Kit (Chg)
open Chk
theorem BytesAt.drew {w : World} {a : Option Addr} {bs : List Nat} (h : BytesAt w a bs) : BytesAt w.drew a bs := h
end Go.Proofs.YtmcbnhkcjhlbaaaGreatDoor.Ck
end
