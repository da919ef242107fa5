/- hmac: New, Write, Sum, Tag. -/
import Derived.Test.YtmnendoloankgaaDoorBuilt
import Derived.Lib.BufferWrite
namespace Go.Proofs.YtmnendoloankgaaDoor
set_option linter.unusedVariables false
set_option linter.unusedSimpArgs false
open Go.RowKit
open Kit (Chg)
open Sha (v)
open Go.Proofs.YtmnendoloankgaaDoor.One

/-- What the program lays lies where it lays it. -/
structure Laid (w : World) : Prop where
  kon : KonAt w
  init : InitAt w
  pad0 : w.cell? ⟨0, 0, none⟩ = some (.int .u8 54)
  pad1 : w.cell? ⟨0, 1, none⟩ = some (.int .u8 92)
theorem Laid.later {w w' : World} {B : Nat} (h : Laid w) (hb : Below B w w') (hB : w.heap.size ≤ B) : Laid w' :=
  have hb2 := hb.mono hB
  ⟨h.kon.later hb2, h.init.later hb2, (hb2.cell (World.block_lt_of_cell? w _ h.pad0)).trans h.pad0, (hb2.cell (World.block_lt_of_cell? w _ h.pad1)).trans h.pad1⟩
theorem Laid.drew {w : World} (h : Laid w) : Laid w.drew := ⟨h.kon, h.init, h.pad0, h.pad1⟩

theorem wpList_copy_string {P : Program} {w : World} {ops : Array Oper} {rest : List Oper} {o : Oper} {a : Act} {Q : Exit → Act → World → Prop} (hgd : o.guard = none) (d s : Operand) (dT sT : TypeId)
    (ho : o.op = .call { callee := .builtin .copy, args := #[d, s], argTypes := #[dT, sT] }) (elem : TypeId) (hu : P.underlying dT = some (.slice elem)) (hsz : (P.info? elem).map (·.size) = some 1)
    (g off dLen dCap : Nat) (str : ByteArray) (hd : a.eval d = .slice (some ⟨g, off, none⟩) dLen dCap) (hs : a.eval s = .string str)
    (cur : Array Value) (t : TypeId) (hg : w.heap[g]? = some (.cells cur t (0, 0))) (hle : str.size ≤ dLen) (hfit : off + str.size ≤ cur.size) (new : Array Value)
    (hnew : (cur.toList.take off ++ Go.Lib.byteCells str.data.toList ++ cur.toList.drop (off + str.size)).toArray = new)
    (h : wpList P ops Q rest (a.put o.dst (goInt str.size)) (w.setRow g new)) : wpList P ops Q (o :: rest) a w := by
  refine wpList_plain hgd fun K hK => ?_
  have hrun := Go.Lib.run_copy_row_string (P := P) w dT sT o.type elem g off dLen dCap str cur t hu hsz hg hle hfit
  rw [hnew] at hrun
  unfold Oper.wp
  simp [execOp, ho, resolve, invoke, builtin, hd, hs, hrun, Result.andThen]
  exact hK _ _ h
theorem byteCells_bvals (s : ByteArray) : Go.Lib.byteCells s.data.toList = bvals (nb s) := by
  unfold Go.Lib.byteCells bvals nb
  rw [List.map_map]
  rfl
def zero64 : Array Value := (bvals (List.replicate 64 0)).toArray
theorem zero64_new (w : World) : (w.alloc (.cells zero64 140)).heap[w.heap.size]? = some (.cells zero64 140 (0, 0)) := heap_alloc_new _ _
theorem key64_row (key : ByteArray) (h : key.size ≤ 64) : (zero64.toList.take 0 ++ Go.Lib.byteCells key.data.toList ++ zero64.toList.drop (0 + key.size)).toArray = (bvals (key64 (nb key))).toArray := by
  have hz : zero64.toList = List.replicate 64 (Value.int .u8 0) := by simp [zero64, bvals]
  rw [hz, byteCells_bvals, List.take_zero, List.nil_append, Nat.zero_add, List.drop_replicate]
  unfold key64
  rw [bvals_append, nb_length]
  congr 2
  simp [bvals]
/-- A struct is loaded from cells: as a reading head. -/
theorem load_cells_yield {P : Program} {o : Oper} {a : Act} {w : World} (ty : TypeId) (x : Operand) (ho : o.op = .load ty x)
    (g off : Nat) (hx : a.eval x = .pointer (some ⟨g, off, none⟩)) (cs : List Value) (hc : ∀ j u, cs[j]? = some u → w.cell? ⟨g, off + j, none⟩ = some u) (d : TypeDesc)
    (hu : P.underlying ty = some d) (hd : (match d with | .struct _ | .array _ _ => true | _ => false) = true) (hi : (P.info? ty).map (·.size) = some cs.length) (R : Array Value) (hR : cs.toArray = R) :
    (execOp a.eval o).run P w = .ok (.value (.agg R)) w := by
  subst hR
  have hl : (loadCells ⟨g, off, none⟩ cs.length).run P w = .ok cs.toArray w :=
    run_loadCells_list (P := P) w ⟨g, off, none⟩ cs (fun j v hv => by rw [add_none]; exact hc j v hv)
  have hrun : (loadVar ty ⟨g, off, none⟩).run P w = .ok (.agg cs.toArray) w := by
    cases hq : P.info? ty with
    | none => simp [hq] at hi
    | some i =>
      have hs : i.size = cs.length := by simpa [hq] using hi
      have hagg : (isAgg ty).run P w = .ok true w := by
        unfold isAgg
        rw [Sem.run_bind, run_underlying hu w]
        cases d <;> simp_all
      simp [loadVar, Sem.run_bind, hagg, sizeOf, typeInfo, hq, hs, hl]
  unfold execOp
  simp only [ho, hx, Instr.loadAt, Instr.sureAddr, Sem.run_bind, Sem.run_pure, Result.andThen_ok, hrun]

/-- A tag in progress lies at block g: under the filled key K, with the bytes ps. -/
structure MacAt (w : World) (g : Nat) (K ps : List Nat) : Prop where
  state : StateAt w g 0 (xorL K 54 ++ ps)
  outer : BytesAt w (some ⟨g, 73, none⟩) (xorL K 92)
theorem MacAt.later {w w' : World} {g : Nat} {K ps : List Nat} (h : MacAt w g K ps) (hb : Below w.heap.size w w') : MacAt w' g K ps := ⟨h.state.later hb, h.outer.later hb⟩
theorem state_pre {w : World} {N : Nat} {t : TypeId} {RO : Array Value} (hg : w.heap[N]? = some (.cells (stateRow ++ RO) t (0, 0))) : StateAt w N 0 [] := by
  have hc : ∀ i u, stateRow[i]? = some u → w.cell? ⟨N, i, none⟩ = some u := fun i u h => by
    rw [cell_of_row _ _ _ _ _ _ hg, Array.getElem?_append_left (Array.getElem?_eq_some_iff.1 h).1]; exact h
  refine ⟨⟨_, t, hg, by rw [Array.size_append, stateRow_size]; omega⟩, fun i hi => by rw [Nat.zero_add]; exact hc i _ (init_cells i hi), fun i hi => ⟨0, by omega, by rw [Nat.zero_add]; exact hc _ _ (stateRow_at i hi)⟩, fun i hi => by simp at hi, by rw [Nat.zero_add]; exact hc 72 _ rfl, by simp⟩
theorem row_bytes {w : World} {N o : Nat} {t : TypeId} {A RO : Array Value} {bs : List Nat} (hg : w.heap[N]? = some (.cells (A ++ RO) t (0, 0))) (hA : A.size = o) (hR : (bvals bs).toArray = RO) (hb : ∀ x ∈ bs, x < 256) (hl : bs.length ≤ maxLen) : BytesAt w (some ⟨N, o, none⟩) bs := by
  subst hR
  refine ⟨.inr ⟨N, o, rfl, fun i hi => ?_⟩, hb, hl⟩
  rw [cell_of_row _ _ _ _ _ _ hg, Array.getElem?_append_right (by omega), hA, Nat.add_sub_cancel_left, List.getElem?_toArray]
  simp [bvals, hi]
theorem row_bytes0 {w : World} {N : Nat} {t : TypeId} {RO : Array Value} {bs : List Nat} (hg : w.heap[N]? = some (.cells RO t (0, 0))) (hR : (bvals bs).toArray = RO) (hb : ∀ x ∈ bs, x < 256) (hl : bs.length ≤ maxLen) : BytesAt w (some ⟨N, 0, none⟩) bs :=
  row_bytes (A := #[]) (by rw [Array.empty_append]; exact hg) rfl hR hb hl
theorem bytesAt_keep {w w' : World} {b o : Nat} {bs : List Nat} {M : Nat → Nat → Prop} (h : BytesAt w (some ⟨b, o, none⟩) bs) (hc : Chg M w w') (hM : ∀ i, o ≤ i → ¬ M b i) : BytesAt w' (some ⟨b, o, none⟩) bs := by
  refine ⟨?_, h.2⟩
  rcases h.1 with e | ⟨b', o', e, hcell⟩
  · exact .inl e
  · cases e
    exact .inr ⟨_, _, rfl, fun i hi => hc.cell (hcell i hi) (hM _ (by omega))⟩
theorem MacAt.keep {w w' : World} {g : Nat} {K ps : List Nat} {M : Nat → Nat → Prop} (h : MacAt w g K ps) (hc : Chg M w w') (hM : ∀ i, ¬ M g i) : MacAt w' g K ps := ⟨h.state.keep hc (fun i _ _ => hM i), bytesAt_keep h.outer hc (fun i _ => hM i)⟩
theorem Tryd.b146z : (Tryd.prog.info? 146).map (fun i => i.zero.map (fun z => z.cells.size)) = some (some (73 + 64)) := by kernel_rfl
theorem Tryd.b146f : (match Tryd.prog.underlying 146 with | some (.struct fields) => fields.toList.mapM (fun f => (Tryd.prog.info? f.type).map fun i => (f.offset, i.size)) | _ => none) = some [(0, 73), (73, 64)] := by kernel_rfl
theorem Tryd.b148z : (Tryd.prog.info? 148).map (fun i => i.zero.map (fun z => z.cells.size)) = some (some 137) := by kernel_rfl
theorem Tryd.b148f : (match Tryd.prog.underlying 148 with | some (.struct fields) => fields.toList.mapM (fun f => (Tryd.prog.info? f.type).map fun i => (f.offset, i.size)) | _ => none) = some [(0, 137)] := by kernel_rfl

theorem padc_54 (kb : Nat) (ks : List Nat) (hk : ks.length = 64) (hb : ∀ x ∈ ks, x < 256) (w : World) (hK : w.heap[kb]? = some (.cells (bvals ks).toArray 140 (0, 0))) :
    Calls Tryd.prog 118 #[.int .u8 54, .pointer (some ⟨kb, 0, none⟩)] w fun e w' => e = .returned (.agg (bvals (xorL ks 54)).toArray) ∧ Below w.heap.size w w' := padc_any kb ks 54 hk hb (by decide) w hK
set_option maxRecDepth 100000 in
set_option maxHeartbeats 1000000 in
theorem macNew_any (key : ByteArray) (hk : key.size ≤ 64) (w : World) (hL : Laid w) :
    Calls Tryd.prog 98 #[.string key] w fun e w' => ∃ g, e = .returned (.pointer (some ⟨g, 0, none⟩)) ∧ w.heap.size ≤ g ∧ MacAt w' g (key64 (nb key)) [] ∧ Below w.heap.size w w' := by
  have HL := Lib.hid hL
  have HK := Lib.hid hk
  have h64 : ¬ (64 : Int) < (key.size : Int) := by omega
  have hsa := sliceB_all w.heap.size 0
  clear hL hk
  go_enter Tryd.func98, Tryd.ntmps98
  go_upto_region 4 with fail
  go_upto_region 5 with (first
    | (refine wpList_copy_string rfl (.tmp 13) (.tmp 14) 68 9 rfl 5 Tryd.underlying68 (by kernel_rfl) w.heap.size 0 64 64 key (by rfl) (by rfl) zero64 140 (by exact zero64_new w) HK.out (by have := HK.out; show 0 + key.size ≤ 64; omega) _ (key64_row key HK.out) ?_))
  refine wp_over (fun W => Hid (W.heap[w.heap.size]? = some (.cells (bvals (key64 (nb key))).toArray 140 (0, 0))) ∧ Hid (Below w.heap.size w W) ∧ Hid (w.heap.size < W.heap.size)) ⟨?_, ?_, ?_⟩ ?_
  · exact setRow_heap _ _ _ _ _ _ (zero64_new w)
  · exact below_setRow ((Below.refl _ _).alloc (Nat.le_refl _) _) (Nat.le_refl _) _
  · show _ < _; simp [World.setRow]
  rintro V ⟨HV, HBV, HSV⟩
  obtain ⟨N, hN⟩ := ex_eq w.heap.size
  rw [hN] at HV HBV HSV hsa ⊢
  have HN := Lib.hid hN
  clear hN hsa
  have HLV : Hid (Laid V) := Lib.hid (HL.out.later HBV.out (by rw [HN.out]; exact Nat.le_refl _))
  have hk64 := key64_length (ks := nb key) (by rw [nb_length]; exact HK.out)
  have hkb := key64_lt (nb_lt key)
  obtain ⟨KS, hKS⟩ := ex_eq (key64 (nb key))
  rw [hKS] at HV hk64 hkb
  have HK64 := Lib.hid hk64
  have HKB := Lib.hid hkb
  have HKS := Lib.hid hKS
  clear hk64 hkb hKS
  go_upto_region 6 with fail
  obtain ⟨M, hM⟩ := ex_eq V.heap.size
  have HM : Hid (V.drew.heap.size = M) := hM
  rw [hM] at HSV
  clear hM
  have c0 : V.drew.cell? ⟨0, 0, none⟩ = some (.int .u8 54) := HLV.out.pad0
  have c1 : V.drew.cell? ⟨0, 1, none⟩ = some (.int .u8 92) := HLV.out.pad1
  have HLD : Hid (Laid V.drew) := Lib.hid HLV.out.drew
  have HKD : Hid (V.drew.heap[N]? = some (.cells (bvals KS).toArray 140 (0, 0))) := HV
  refine Kit.wp_region_mid2 (fun W => W.cell? ⟨0, 0, none⟩ = some (.int .u8 54) ∧ W.cell? ⟨0, 1, none⟩ = some (.int .u8 92))
    (fun W => (W.cell? ⟨0, 0, none⟩ = some (.int .u8 54) ∧ W.cell? ⟨0, 1, none⟩ = some (.int .u8 92)) ∧ Hid (∀ j u, stateRow.toList[j]? = some u → W.cell? ⟨M, 0 + j, none⟩ = some u))
    [3, 4, 5] 0 [1, 2] [6, 7, 8, 9, 10] (by kernel_rfl) (by kernel_rfl) (by kernel_rfl) (by kernel_rfl) (fun _ h => h.1) ⟨c0, c1⟩ ?_
  repeat (refine Kit.heads_cons (by rfl) (.inl ⟨by rfl, fun w' hS => by (dsimp only at hS); go_simp; (try with_reducible rfl)⟩) ?_; simp only [Act.put, List.setIfInBounds_toArray, List.set_cons_zero, List.set_cons_succ])
  refine Kit.heads_nil ?_
  refine Kit.midNext_of (by rfl) rfl fun K hK => ?_
  go_simp
  go_at_call 102
  refine (newState_any _ HLD.out.init).mono ?_
  rintro e w1 ⟨rfl, h1⟩
  have H1 : Hid (w1 = V.drew.alloc (.cells stateRow 143)) := Lib.hid h1
  clear h1
  have hMM : V.drew.heap.size = M := HM.out
  rw [hMM]
  have HG1 : Hid (w1.heap[M]? = some (.cells stateRow 143 (0, 0))) := Lib.hid (by rw [H1.out, ← hMM]; exact heap_alloc_new _ _)
  have HB1 : Hid (Below M V.drew w1) := Lib.hid (by rw [H1.out, ← hMM]; exact (Below.refl _ _).alloc (Nat.le_refl _) _)
  clear hMM
  have HS1 : Hid (M < w1.heap.size) := Lib.hid (Array.getElem?_eq_some_iff.1 HG1.out).1
  have HL1 : Hid (Laid w1) := Lib.hid (HLD.out.later HB1.out (by rw [HM.out]; exact Nat.le_refl _))
  have HK1 : Hid (w1.heap[N]? = some (.cells (bvals KS).toArray 140 (0, 0))) := Lib.hid ((HB1.out.block N (by have := HSV.out; omega)).trans HKD.out)
  have hS1 : (w1.cell? ⟨0, 0, none⟩ = some (.int .u8 54) ∧ w1.cell? ⟨0, 1, none⟩ = some (.int .u8 92)) ∧ Hid (∀ j u, stateRow.toList[j]? = some u → w1.cell? ⟨M, 0 + j, none⟩ = some u) :=
    ⟨⟨HL1.out.pad0, HL1.out.pad1⟩, fun j u hj => by rw [Nat.zero_add, cell_of_row _ _ _ _ _ _ HG1.out, ← Array.getElem?_toList]; exact hj⟩
  refine hK _ _ ⟨hS1, ?_⟩
  clear hK K c0 c1
  refine Kit.heads_cons (by rfl) (.inl ⟨by rfl, fun w' hS => by (dsimp only at hS); go_simp; (try with_reducible rfl)⟩) ?_
  simp only [Act.put, List.setIfInBounds_toArray, List.set_cons_zero, List.set_cons_succ]
  refine Kit.heads_cons (by rfl) (.inl ⟨by rfl, fun w' hS => load_cells_yield 143 (.tmp 18) rfl M 0 (by rfl) stateRow.toList hS.2.out _ Tryd.underlying143 rfl (by rw [Array.length_toList, stateRow_size]; exact Tryd.size143) stateRow (by simp)⟩) ?_
  simp only [Act.put, List.setIfInBounds_toArray, List.set_cons_zero, List.set_cons_succ]
  refine Kit.heads_nil ?_
  refine Kit.chain_cons (by rfl) rfl fun K hK => ?_
  go_simp
  go_at_call 118
  refine (padc_any N KS 92 HK64.out HKB.out (by decide) w1 HK1.out).mono ?_
  rintro e w2 ⟨rfl, h2⟩
  have HB2 : Hid (Below (M + 1) w1 w2) := Lib.hid (h2.mono HS1.out)
  clear h2
  have HROs : Hid ((bvals (xorL KS 92)).toArray.size = 64) := Lib.hid (bvals_arr_size _ (by rw [xorL_length]; exact HK64.out))
  obtain ⟨RO, hRO⟩ := ex_eq (bvals (xorL KS 92)).toArray
  rw [hRO] at HROs ⊢
  have HRO := Lib.hid hRO
  clear hRO
  have HSA : Hid (∀ W, Below (M + 1) w1 W → (W.cell? ⟨0, 0, none⟩ = some (.int .u8 54) ∧ W.cell? ⟨0, 1, none⟩ = some (.int .u8 92)) ∧ Hid (∀ j u, stateRow.toList[j]? = some u → W.cell? ⟨M, 0 + j, none⟩ = some u)) := Lib.hid (fun W hW => by
    have hL : Laid W := HLD.out.later (HB1.out.trans (hW.mono (Nat.le_succ M))) (by rw [HM.out]; exact Nat.le_refl _)
    have hG : W.heap[M]? = some (.cells stateRow 143 (0, 0)) := (hW.block M (Nat.lt_succ_self M)).trans HG1.out
    exact ⟨⟨hL.pad0, hL.pad1⟩, fun j u hj => by rw [Nat.zero_add, cell_of_row _ _ _ _ _ _ hG, ← Array.getElem?_toList]; exact hj⟩)
  refine hK _ _ (HSA.out _ HB2.out) ?_
  clear hK K hS1
  refine Kit.chain_cons (by rfl) rfl fun K hK => ?_
  refine Kit.wp_build_list 146 [(0, Operand.tmp 19), (1, Operand.tmp 23)] (by rfl) (stateRow ++ RO) (by exact Kit.built_two Tryd.b146z Tryd.b146f stateRow RO stateRow_size HROs.out) ?_
  refine hK _ _ (HSA.out _ HB2.out) ?_
  clear hK K
  simp only [Act.put, List.setIfInBounds_toArray, List.set_cons_zero, List.set_cons_succ]
  have HRS : Hid ((stateRow ++ RO).size = 137) := Lib.hid (by rw [Array.size_append, stateRow_size, HROs.out])
  refine Kit.chain_cons (by rfl) rfl fun K hK => ?_
  refine Kit.wp_build_list 148 [(0, Operand.tmp 24)] (by rfl) (stateRow ++ RO) (by exact Kit.built_one Tryd.b148z Tryd.b148f _ HRS.out) ?_
  refine hK _ _ (HSA.out _ HB2.out) ?_
  clear hK K
  simp only [Act.put, List.setIfInBounds_toArray, List.set_cons_zero, List.set_cons_succ]
  refine Kit.chain_cons (by rfl) rfl fun K hK => ?_
  go_simp
  have HB3 : Hid (Below (M + 1) w1 (w2.alloc (.cells (stateRow ++ RO) 148))) := Lib.hid (HB2.out.alloc (by have := HS1.out; have := HB2.out.size; omega) _)
  refine hK _ _ (HSA.out _ HB3.out) ?_
  clear hK K
  refine Kit.chain_cons (by rfl) rfl fun K hK => ?_
  go_simp
  refine hK _ _ (HSA.out _ HB3.out) ?_
  clear hK K
  refine Kit.chain_done ?_
  have hG : (w2.alloc (.cells (stateRow ++ RO) 148)).heap[w2.heap.size]? = some (.cells (stateRow ++ RO) 148 (0, 0)) := heap_alloc_new _ _
  obtain ⟨G, hGe⟩ := ex_eq w2.heap.size
  obtain ⟨w3, hw3⟩ := ex_eq (w2.alloc (.cells (stateRow ++ RO) 148))
  rw [hw3, hGe] at hG
  rw [hw3] at HB3 ⊢
  rw [hGe]
  have HMG : Hid (M + 1 ≤ G) := Lib.hid (by have := HS1.out; have := HB2.out.size; omega)
  have HG3 : Hid (w3.heap[G]? = some (.cells (stateRow ++ RO) 148 (0, 0))) := hG
  have HGS : Hid (G + 1 ≤ w3.heap.size) := Lib.hid (Array.getElem?_eq_some_iff.1 hG).1
  clear hG hGe hw3
  have HN3 : Hid (w3.heap[N]? = some (.cells (bvals KS).toArray 140 (0, 0))) := Lib.hid ((HB3.out.block N (by have := HSV.out; omega)).trans HK1.out)
  have HL3 : Hid (Laid w3) := Lib.hid (HLD.out.later (HB1.out.trans (HB3.out.mono (Nat.le_succ M))) (by rw [HM.out]; exact Nat.le_refl _))
  have HBN3 : Hid (Below N w w3) := Lib.hid (HBV.out.trans ((Below.refl N V).drew.trans ((HB1.out.trans (HB3.out.mono (Nat.le_succ M))).mono (by have := HSV.out; omega))))
  clear HSA HB3 HB2 HB1 HG1 H1 HKD HLD HK1 HL1
  (try simp only [Act.put, List.setIfInBounds_toArray, List.set_cons_zero, List.set_cons_succ])
  have d0 : w3.cell? ⟨0, 0, none⟩ = some (.int .u8 54) := HL3.out.pad0
  have HRIs : Hid ((bvals (xorL KS 54)).toArray.size = 64) := Lib.hid (bvals_arr_size _ (by rw [xorL_length]; exact HK64.out))
  have HRI1 : Hid ((bvals (xorL KS 54)).toArray.all (·.oneCell') = true) := Lib.hid (all_one (bvals_one _))
  obtain ⟨RI, hRI⟩ := ex_eq (bvals (xorL KS 54)).toArray
  rw [hRI] at HRIs HRI1
  have HRI := Lib.hid hRI
  clear hRI
  go_upto_region 7 with fail
  go_upto_region 8 with (first
    | (go_at_call 118; (with_reducible refine (padc_54 N KS HK64.out HKB.out w3 HN3.out).mono ?_); rintro e w4 ⟨rfl, h4⟩; (rw [HRI.out]); (have HB4 := Lib.hid h4); clear h4)
    | (refine wpList_store_row rfl 140 (.tmp 6) (.tmp 30) rfl w4.heap.size RI (by rfl) (by rfl) 140 zero64 (by exact zero64_new w4) (by rw [HRIs.out]; exact Tryd.size140) (by rw [HRIs.out]; rfl) HRI1.out ?_))
  refine wp_over (fun W => Hid (W.heap[w4.heap.size]? = some (.cells RI 140 (0, 0))) ∧ Hid (Below w3.heap.size w3 W)) ⟨?_, ?_⟩ ?_
  · exact setRow_heap _ _ _ _ _ _ (zero64_new w4)
  · exact below_setRow (HB4.out.alloc HB4.out.size _) HB4.out.size _
  rintro w5 ⟨HI5, HB5⟩
  have HIG : Hid (G + 1 ≤ w4.heap.size) := Lib.hid (by have := HB4.out.size; have := HGS.out; omega)
  obtain ⟨I, hI⟩ := ex_eq w4.heap.size
  rw [hI] at HI5 HIG ⊢
  clear hI HB4 d0
  simp only [Act.put]
  have HS5 : Hid (StateAt w5 G 0 []) := Lib.hid (state_pre ((HB5.out.block G (by have := HGS.out; omega)).trans HG3.out))
  have HO5 : Hid (BytesAt w5 (some ⟨G, 73, none⟩) (xorL KS 92)) := Lib.hid (row_bytes ((HB5.out.block G (by have := HGS.out; omega)).trans HG3.out) stateRow_size HRO.out (xorL_lt _ _ HKB.out (by decide)) (by rw [xorL_length, HK64.out]; decide))
  have HI6 : Hid (BytesAt w5 (some ⟨I, 0, none⟩) (xorL KS 54)) := Lib.hid (row_bytes0 HI5.out HRI.out (xorL_lt _ _ HKB.out (by decide)) (by rw [xorL_length, HK64.out]; decide))
  have HL5 : Hid (Laid w5) := Lib.hid (HL3.out.later HB5.out (Nat.le_refl _))
  have HBN5 : Hid (Below N w w5) := Lib.hid (HBN3.out.trans (HB5.out.mono (by have := HGS.out; have := HMG.out; have := HSV.out; omega)))
  have HX54 : Hid ((xorL KS 54).length = 64) := Lib.hid (by rw [xorL_length]; exact HK64.out)
  obtain ⟨XI, hXI⟩ := ex_eq (xorL KS 54)
  rw [hXI] at HI6 HX54
  have HXI := Lib.hid hXI
  clear hXI HRI HRIs HRI1 HRO HROs HRS HI5 HG3 HN3 HL3 HBN3
  have hsi := sliceB_all I 0
  refine Kit.wp_region_heads (fun _ => True) [0, 1, 2, 3, 4] [5] (by kernel_rfl) (by kernel_rfl) (by kernel_rfl) (by kernel_rfl) trivial ?_
  repeat (refine Kit.heads_cons (by rfl) (.inl ⟨by rfl, fun w' hS => by (dsimp only at hS); go_simp; (try with_reducible rfl)⟩) ?_; simp only [Act.put, List.setIfInBounds_toArray, List.set_cons_zero, List.set_cons_succ])
  refine Kit.heads_nil ?_
  refine Kit.chain_cons (by rfl) rfl fun K hK => ?_
  go_simp
  go_at_call 103
  have hwr := write_any G 0 [] (some ⟨I, 0, none⟩) 64 XI (by rw [HX54.out]; exact Nat.le_refl _) (fun e => by cases e) (by rw [HX54.out]; decide) w5.drew (HS5.out.keep (Chg.drew (Chg.refl (fun _ _ => False) _)) (fun _ _ _ h => h)) HI6.out (fun ad e _ => by cases e; show I ≠ G; have := HIG.out; omega) HL5.out.drew.kon (by have := HMG.out; show G ≠ 2; have := HL5.out.kon.lt; have := HL.out.kon.lt; have := HN.out; have := HSV.out; omega)
  rw [HX54.out] at hwr
  refine hwr.mono ?_
  rintro e w6 ⟨rfl, h6, h7⟩
  have H6 := Lib.hid h6
  have H7 := Lib.hid h7
  clear h6 h7 hwr hsi
  refine hK _ _ trivial (Kit.chain_done ?_)
  clear hK K
  (try simp only [Act.put, List.setIfInBounds_toArray, List.set_cons_zero, List.set_cons_succ])
  go_wp2_with fail
  go_ret
  refine ⟨G, rfl, by have := HN.out; have := HMG.out; have := HSV.out; omega, ⟨by rw [HKS.out, HXI.out, List.append_nil]; exact H6.out, by rw [HKS.out]; exact bytesAt_keep (w := w5.drew) HO5.out H7.out (fun i hi hm => by have := hm.2.2; omega)⟩, ?_⟩
  rw [HN.out]
  exact HBN5.out.trans ((Below.refl N w5).drew.trans (H7.out.below (by have := HS5.out.lt; have := HMG.out; have := HSV.out; show N ≤ w5.heap.size; omega) (fun k i hk hm => by have := hm.1; have := HMG.out; have := HSV.out; omega)))

theorem macWrite_any (g : Nat) (K ps : List Nat) (a : Option Addr) (cap : Nat) (xs : List Nat) (hcap : xs.length ≤ cap) (hnil : a = none → cap = 0) (hl : ps.length + xs.length ≤ 1000000) (hK : K.length = 64) (w : World) (h : MacAt w g K ps) (hB : BytesAt w a xs) (hlt : ∀ ad, a = some ad → 0 < xs.length → ad.block ≠ g) (hL : Laid w) (hg : g ≠ 2) :
    Calls Tryd.prog 99 #[.pointer (some ⟨g, 0, none⟩), .slice a xs.length cap] w fun e w' => e = .returned (.tuple #[]) ∧ MacAt w' g K (ps ++ xs) ∧ Chg (stateCells g 0) w w' := by
  have HH := Lib.hid h
  have HB := Lib.hid hB
  have HL := Lib.hid hL
  have HLT := Lib.hid hlt
  have HXL : Hid ((xorL K 54).length = 64) := Lib.hid (by rw [xorL_length]; exact hK)
  clear h hB hL hlt hK
  go_enter Tryd.func99, Tryd.ntmps99
  go_wp2_with (first
    | (with_reducible refine (write_any g 0 (xorL K 54 ++ ps) a cap xs hcap hnil (by rw [List.length_append, HXL.out]; omega) _ HH.out.state HB.out HLT.out HL.out.kon hg).mono ?_
       rintro e w2 ⟨rfl, h2, h3⟩
       have H2 := Lib.hid h2
       have H3 := Lib.hid h3
       clear h2 h3))
  go_end0
  exact ⟨rfl, ⟨by rw [← List.append_assoc]; exact H2.out, bytesAt_keep HH.out.outer H3.out (fun i hi hm => by have := hm.2.2; omega)⟩, H3.out⟩
theorem conv64 {W : World} {a : Option Addr} {bs : List Nat} (h : BytesAt W a bs) (hl : bs.length = 64) : (convert 68 9 (.slice a 64 64)).run Tryd.prog W = .ok (.string (strB bs)) W := by
  have := conv_bytes h 64
  rwa [hl] at this
set_option maxHeartbeats 1000000 in
theorem macSum_any (g : Nat) (K ps : List Nat) (hl : ps.length ≤ 1000000) (hK : K.length = 64) (w : World) (h : MacAt w g K ps) (hL : Laid w) :
    Calls Tryd.prog 100 #[.pointer (some ⟨g, 0, none⟩)] w fun e w' => ∃ bs : List Nat, e = .returned (.string (strB bs)) ∧ bs = Sha.sum (xorL K 92 ++ Sha.sum (xorL K 54 ++ ps)) ∧ Below w.heap.size w w' := by
  have HXL : Hid ((xorL K 54 ++ ps).length ≤ 100000000000) := Lib.hid (by rw [List.length_append, xorL_length]; omega)
  have HOL : Hid ((xorL K 92).length = 64) := Lib.hid (by rw [xorL_length]; exact hK)
  have HS : Hid (StateAt w.drew g 0 (xorL K 54 ++ ps)) := Lib.hid (h.state.keep (Chg.drew (Chg.refl (fun _ _ => False) _)) (fun _ _ _ h => h))
  have HO : Hid (BytesAt w.drew (some ⟨g, 73, none⟩) (xorL K 92)) := Lib.hid h.outer
  have HL := Lib.hid hL.drew
  obtain ⟨XI, hXI⟩ := ex_eq (xorL K 54 ++ ps)
  obtain ⟨XO, hXO⟩ := ex_eq (xorL K 92)
  rw [hXI] at HXL HS
  rw [hXO] at HOL HO
  have HXI := Lib.hid hXI
  have HXO := Lib.hid hXO
  clear h hL hXI hXO hK
  have hsi := sliceB_all g 73
  have hsw : w.drew.heap.size = w.heap.size := rfl
  have HSW := Lib.hid hsw
  clear hsw
  go_enter Tryd.func100, Tryd.ntmps100
  go_upto_region 1 with fail
  refine Kit.wp_region_heads (fun W => Hid (BytesAt W (some ⟨g, 73, none⟩) XO)) [0, 1, 2, 3, 4, 5, 6, 7, 8, 9] [10, 11, 12, 13] (by kernel_rfl) (by kernel_rfl) (by kernel_rfl) (by kernel_rfl) HO.out ?_
  iterate 5 (refine Kit.heads_cons (by rfl) (.inl ⟨by rfl, fun w' hS => by (dsimp only at hS); go_simp; (try with_reducible rfl)⟩) ?_; simp only [Act.put, List.setIfInBounds_toArray, List.set_cons_zero, List.set_cons_succ])
  refine Kit.heads_cons (by rfl) (.inl ⟨by rfl, fun w' hS => by have hcv := conv64 hS.out HOL.out; clear hS; go_simp; (try with_reducible rfl)⟩) ?_
  simp only [Act.put, List.setIfInBounds_toArray, List.set_cons_zero, List.set_cons_succ]
  repeat (refine Kit.heads_cons (by rfl) (.inl ⟨by rfl, fun w' hS => by (dsimp only at hS); go_simp; (try with_reducible rfl)⟩) ?_; simp only [Act.put, List.setIfInBounds_toArray, List.set_cons_zero, List.set_cons_succ])
  refine Kit.heads_nil ?_
  refine Kit.chain_cons (by rfl) rfl fun K0 hK0 => ?_
  go_simp
  go_at_call 104
  refine (stateSum_any g 0 XI HXL.out w.drew HS.out HL.out.kon).mono ?_
  rintro e w1 ⟨is, rfl, h1, h2⟩
  have H1 := Lib.hid h1
  have H2 := Lib.hid h2
  clear h1 h2
  refine hK0 _ _ (HO.out.later H2.out) ?_
  clear hK0 K0
  refine Kit.chain_cons (by rfl) rfl fun K0 hK0 => ?_
  go_simp
  have H3 : Hid (Below w.drew.heap.size w.drew (w1.alloc (.cells #[.string (strB XO), .string (strB is)] 9))) := Lib.hid (H2.out.alloc H2.out.size _)
  refine hK0 _ _ (HO.out.later H3.out) ?_
  clear hK0 K0
  refine Kit.chain_cons (by rfl) rfl fun K0 hK0 => ?_
  go_simp
  go_at_call 109
  have HST : Hid (StrsAt (w1.alloc (.cells #[.string (strB XO), .string (strB is)] 9)) (some ⟨w1.heap.size, 0, none⟩) [strB XO, strB is]) := Lib.hid (by
    refine .inr ⟨_, _, rfl, fun i hi => ?_⟩
    rw [Nat.zero_add, cell_of_row _ _ _ _ _ _ (heap_alloc_new _ _)]
    match i, hi with
    | 0, _ => rfl
    | 1, _ => rfl)
  have HIL : Hid (is.length = 32 ∧ ∀ x ∈ is, x < 256) := Lib.hid (by rw [H1.out]; exact ⟨Sha.sum_length _, Sha.sum_lt _⟩)
  have HOB : Hid (∀ x ∈ XO, x < 256) := HO.out.2.1
  have HCAT : Hid (catB [strB XO, strB is] = XO ++ is) := Lib.hid (by
    have := catB_strs [XO, is] (fun s hs => by
      rcases List.mem_cons.1 hs with e | hs
      · rw [e]; exact HOB.out
      · rw [List.mem_singleton.1 hs]; exact HIL.out.2)
    simpa using this)
  have hj := join_any (some ⟨w1.heap.size, 0, none⟩) 2 [strB XO, strB is] (by rw [HCAT.out, List.length_append, HOL.out, HIL.out.1]; decide) (by simp) _ HST.out (HL.out.later H3.out (Nat.le_refl _)).kon (HL.out.later H3.out (Nat.le_refl _)).init
  refine hj.mono ?_
  rintro e w2 ⟨bs, rfl, h4, h5⟩
  have H4 := Lib.hid h4
  have H5 := Lib.hid (H3.out.trans (h5.mono H3.out.size))
  clear h4 h5 hj
  refine hK0 _ _ (HO.out.later H5.out) ?_
  clear hK0 K0
  refine Kit.chain_cons (by rfl) rfl fun K0 hK0 => ?_
  go_simp
  refine hK0 _ _ (HO.out.later H5.out) (Kit.chain_done ?_)
  clear hK0 K0
  (try simp only [Act.put, List.setIfInBounds_toArray, List.set_cons_zero, List.set_cons_succ])
  go_wp2_with fail
  go_ret
  refine ⟨bs, rfl, by rw [H4.out, HCAT.out, H1.out, HXO.out, HXI.out], ?_⟩
  rw [← HSW.out]
  exact (Below.refl _ w).drew.trans H5.out

/-- hmac.Tag under a key of at most 64 bytes. -/
theorem tag_any (key : ByteArray) (hk : key.size ≤ 64) (a : Option Addr) (cap : Nat) (xs : List Nat) (hcap : xs.length ≤ cap) (hnil : a = none → cap = 0) (hl : xs.length ≤ 1000) (w : World) (hB : BytesAt w a xs) (hlt : ∀ ad, a = some ad → 0 < xs.length → ad.block < w.heap.size) (hL : Laid w) :
    Calls Tryd.prog 73 #[.string key, .slice a xs.length cap] w fun e w' => ∃ bs : List Nat, e = .returned (.string (strB bs)) ∧ bs = tag (nb key) xs ∧ Below w.heap.size w w' := by
  have HB := Lib.hid hB
  have HL := Lib.hid hL
  have HLT := Lib.hid hlt
  have HNIL := Lib.hid hnil
  have HCAP := Lib.hid hcap
  have HLL := Lib.hid hl
  have HKL : Hid ((key64 (nb key)).length = 64) := Lib.hid (key64_length (by rw [nb_length]; exact hk))
  clear hB hL hlt hnil hcap hl
  go_enter Tryd.func73, Tryd.ntmps73
  go_upto_region 2 with (first
    | (with_reducible refine (macNew_any key hk _ HL.out).mono ?_
       rintro e w1 ⟨g, rfl, h1, h2, h3⟩
       have H1 := Lib.hid h1
       have H2 := Lib.hid h2
       have H3 := Lib.hid h3
       clear h1 h2 h3))
  have HL1 : Hid (Laid w1) := Lib.hid (HL.out.later H3.out (Nat.le_refl _))
  have HGK : Hid (g ≠ 2) := Lib.hid (by have := HL.out.kon.lt; have := H1.out; omega)
  have HB1 : Hid (BytesAt w1 a xs) := Lib.hid (HB.out.later H3.out)
  have HLT1 : Hid (∀ ad, a = some ad → 0 < xs.length → ad.block ≠ g) := Lib.hid (fun ad e h => by have := HLT.out ad e h; have := H1.out; omega)
  go_upto_region 3 with (first
    | (with_reducible refine (macWrite_any g (key64 (nb key)) [] a cap xs HCAP.out HNIL.out (by have := HLL.out; simp; omega) HKL.out _ H2.out HB1.out HLT1.out HL1.out HGK.out).mono ?_
       rintro e w2 ⟨rfl, h4, h5⟩
       have H4 := Lib.hid h4
       have H5 := Lib.hid h5
       clear h4 h5))
  have HB2 : Hid (Below w.heap.size w w2) := Lib.hid (H3.out.trans (H5.out.below (H3.out.size) (fun k i hk hm => by have := hm.1; have := H1.out; omega)))
  have HL2 : Hid (Laid w2) := Lib.hid (HL.out.later HB2.out (Nat.le_refl _))
  go_wp2_with (first
    | (with_reducible refine (macSum_any g (key64 (nb key)) ([] ++ xs) (by have := HLL.out; simp; omega) HKL.out _ H4.out HL2.out).mono ?_
       rintro e w3 ⟨bs, rfl, h6, h7⟩
       have H6 := Lib.hid h6
       have H7 := Lib.hid h7
       clear h6 h7))
  go_ret
  exact ⟨bs, rfl, H6.out, HB2.out.trans (H7.out.mono HB2.out.size)⟩
end Go.Proofs.YtmnendoloankgaaDoor
