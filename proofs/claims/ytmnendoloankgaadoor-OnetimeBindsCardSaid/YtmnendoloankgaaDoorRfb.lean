/- The document's SHA-256: one block. -/
import Derived.Test.YtmnendoloankgaaDoorRfr
namespace Go.Proofs.YtmnendoloankgaaDoor
set_option linter.unusedVariables false
set_option linter.unusedSimpArgs false
open Go.RowKit
open Kit (Chg)
open Sha (v)
open Go.Proofs.YtmnendoloankgaaDoor.One

theorem quiet3 {P : Program} {f : FuncId} {args : Array Value} {w : World} {q n : Nat} {v : Value}
    (h : Calls P f args (w.drewN (q + n)) fun e w' => e = .returned v ∧ ∃ m, w' = (w.drewN (q + n)).drewN m) : Calls P f args (w.drewN (q + n)) fun e w'' => e = .returned v ∧ ∃ m, w'' = w.drewN (q + m) :=
  h.mono fun _ _ ⟨he, m, hm⟩ => ⟨he, n + m, by rw [hm, World.drewN_drewN, Nat.add_assoc]⟩
theorem Tryd.built149 : Tryd.prog.built 149 [] = some Tryd.zeroW := by kernel_rfl
theorem wpList_buildL {P : Program} {ops : Array Oper} {rest : List Oper} {o : Oper} {a : Act} {w : World} {Q : Exit → Act → World → Prop} (hg : o.guard = none) (t : TypeId) (parts : Array (Nat × Operand)) (ho : o.op = .build t parts) (cells : Array Value)
    (hf : P.built t (parts.map fun (i, x) => (i, a.eval x)).toList = some cells)
    (h : wpList P ops Q rest (a.put o.dst (.agg cells)) w) : wpList P ops Q (o :: rest) a w :=
  wpList_plain hg fun _ hK => Kit.wp_build_to t parts ho cells hf (hK _ _ h)
theorem wordsL_size (S : Sha.St) : (wordsL S).toArray.size = 8 := rfl
theorem wordsL_one (S : Sha.St) : (wordsL S).toArray.all (·.oneCell') = true := by simp [wordsL, Value.oneCell']
theorem Tryd.zeroW_one : Tryd.zeroW.all (·.oneCell') = true := by
  unfold Tryd.zeroW
  rw [List.all_toArray, List.all_eq_true]
  intro v hv
  rw [List.eq_of_mem_replicate hv]; rfl
theorem Tryd.size128 : (Tryd.prog.info? 128).map (·.size) = some 8 := by kernel_rfl
/-- The words of v while those of h are added. -/
structure MixAt (w : World) (b : Nat) (R T : Sha.St) (k : Nat) : Prop where
  cell : ∀ i, i < 8 → w.cell? ⟨b, i, none⟩ = some (.int .u32 (v (if i < k then T.list.getD i 0 else R.list.getD i 0)))
  free : ∀ i, i < 8 → w.frozen? ⟨b, i, none⟩ = false
theorem MixAt.step {w : World} {b : Nat} {R T : Sha.St} {k : Nat} {y : BitVec 32} (h : MixAt w b R T k) (hk : k < 8) (hy : y = T.list.getD k 0) : MixAt (w.setCell ⟨b, k, none⟩ (.int .u32 (v y))) b R T (k + 1) := by
  refine ⟨fun i hi => ?_, fun i hi => by rw [World.frozen?_setCell]; exact h.free i hi⟩
  by_cases e : i = k
  · subst e
    rw [if_pos (by omega), ← hy]
    exact World.cell?_setCell_same _ _ _ (h.cell i hi)
  · have h1 := h.cell i hi
    have e2 : (i < k + 1) = (i < k) := propext ⟨fun _ => by omega, fun _ => by omega⟩
    simp only [e2]
    exact set_other h1 (fun e' => e e'.symm)
theorem MixAt.drew {w : World} {b : Nat} {R T : Sha.St} {k : Nat} (h : MixAt w b R T k) : MixAt w.drew b R T k := ⟨h.cell, h.free⟩
theorem mix_row {w : World} {b : Nat} {R T : Sha.St} {t : TypeId} (h : w.heap[b]? = some (.cells (wordsL R).toArray t (0, 0))) : MixAt w b R T 0 := by
  refine ⟨fun i hi => ?_, fun i hi => frozen_of_row _ _ _ _ _ h⟩
  rw [cell_of_row _ _ _ _ _ _ h, if_neg (by omega), List.getElem?_toArray]
  exact wordsL_get R i hi
theorem words_row {w : World} {b : Nat} {R : Sha.St} {t : TypeId} (h : w.heap[b]? = some (.cells (wordsL R).toArray t (0, 0))) (i : Nat) (hi : i < 8) : w.cell? ⟨b, i, none⟩ = some (.int .u32 (v (R.list.getD i 0))) := by
  rw [cell_of_row _ _ _ _ _ _ h, List.getElem?_toArray]
  exact wordsL_get R i hi
theorem addSt_getD' (S R : Sha.St) (k : Nat) (h : k < 8) : R.list.getD k 0 + S.list.getD k 0 = (Sha.addSt S R).list.getD k 0 := by
  rw [← addSt_getD S R k h, BitVec.add_comm]

set_option maxRecDepth 100000 in
set_option maxHeartbeats 4000000 in
theorem refBlock_any (S : Sha.St) (a : Option Addr) (cap : Nat) (xs : List Nat) (hx : xs.length = 64) (hcap : 64 ≤ cap) (w : World) (hB : BytesAt w a xs) (RS : Array Value) (hRS : (wordsL S).toArray = RS) :
    Calls Tryd.prog 107 #[.agg RS, .slice a 64 cap] w fun e w' => e = .returned (.agg (wordsL (Sha.comp S xs)).toArray) ∧ Below w.heap.size w w' := by
  have HX := Lib.hid hx
  have HB := Lib.hid hB
  have HRS := Lib.hid hRS
  have hss := wordsL_size S
  have hs1 := wordsL_one S
  rw [hRS] at hss hs1
  have HSS := Lib.hid hss
  have HS1 := Lib.hid hs1
  obtain ⟨KA, hKA⟩ : ∃ K, konA = K := ⟨_, rfl⟩
  have hks := konA_size
  have hk1 := konA_one
  have hkg := konA_get
  rw [hKA] at hks hk1 hkg
  have HKA := Lib.hid hKA
  have HKS := Lib.hid hks
  have HK1 := Lib.hid hk1
  have HKG := Lib.hid hkg
  clear hx hB hRS hss hs1 hKA hks hk1 hkg
  go_enter Tryd.func107, Tryd.ntmps107
  go_upto_region 1 with fail
  obtain ⟨N, hN⟩ := ex_eq w.heap.size
  have HN := Lib.hid hN
  refine wp_over (fun W => Hid (W.heap[w.heap.size]? = some (.cells RS 128 (0, 0))) ∧ Hid (∃ z, z.size = 8 ∧ W.heap[w.heap.size + 1]? = some (.cells z 128 (0, 0))) ∧ Hid (Below w.heap.size w W) ∧ Hid (W.heap.size = w.heap.size + 2)) ⟨?_, ?_, ?_, ?_⟩ ?_
  · exact (((Below.refl (w.heap.size + 1) (w.alloc (.cells RS 128))).alloc (by simp) _).block w.heap.size (Nat.lt_succ_self _)).trans (heap_alloc_new _ _)
  · refine ⟨#[.int .u32 0, .int .u32 0, .int .u32 0, .int .u32 0, .int .u32 0, .int .u32 0, .int .u32 0, .int .u32 0], rfl, ?_⟩
    have h := heap_alloc_new (w.alloc (.cells RS 128)) (.cells #[.int .u32 0, .int .u32 0, .int .u32 0, .int .u32 0, .int .u32 0, .int .u32 0, .int .u32 0, .int .u32 0] 128)
    simpa using h
  · exact ((Below.refl _ _).alloc (Nat.le_refl _) _).alloc (by simp) _
  · show _ = _; simp
  rintro W ⟨HR0, HZ0, HB0, HW0⟩
  rw [hN] at HR0 HZ0 HB0 HW0 ⊢
  clear hN
  go_upto_region 2 with (first
    | (go_at_call 120; (with_reducible refine (refKon_any _).mono ?_); rintro e w1 ⟨rfl, h1⟩; (rw [HKA.out]); (have HB1 := Lib.hid h1); clear h1)
    | (refine wpList_store_row rfl 149 (.tmp 5) (.tmp 22) rfl w1.heap.size KA (by rfl) (by rfl) 149 Tryd.zeroW (by exact zero149_new w1) (by rw [HKS.out]; exact Tryd.size149) (by rw [HKS.out]; exact Tryd.zeroW_size) HK1.out ?_))
  obtain ⟨K, hK⟩ := ex_eq w1.heap.size
  have hKN : N + 2 ≤ K := by rw [← hK, ← HW0.out]; exact HB1.out.size
  refine wp_over (fun V => Hid (V.heap[w1.heap.size]? = some (.cells KA 149 (0, 0))) ∧ Hid (Below (N + 2) W V) ∧ Hid (V.heap.size = w1.heap.size + 1)) ⟨?_, ?_, ?_⟩ ?_
  · exact setRow_heap _ _ _ _ _ _ (zero149_new w1)
  · exact below_setRow ((HB1.out.mono (by rw [HW0.out]; exact Nat.le_refl _)).alloc (by rw [hK]; exact hKN) _) (by rw [hK]; exact hKN) _
  · show _ = _; simp [World.setRow]
  rintro V ⟨HVK, HVB, HVS⟩
  rw [hK] at HVK HVS ⊢
  clear hK HB1
  have HKN := Lib.hid hKN
  clear hKN
  have HBZ : Hid (Tryd.prog.built 149 [] = some Tryd.zeroW) := Lib.hid Tryd.built149
  obtain ⟨ZW, hZW⟩ : ∃ Z, Tryd.zeroW = Z := ⟨_, rfl⟩
  rw [hZW] at HBZ
  have HZS : Hid (ZW.size = 64) := Lib.hid (by rw [← hZW]; exact Tryd.zeroW_size)
  have HZ1 : Hid (ZW.all (·.oneCell') = true) := Lib.hid (by rw [← hZW]; exact Tryd.zeroW_one)
  clear hZW
  go_upto_region 3 with (first
    | (refine wpList_buildL rfl 149 #[] rfl ZW (by simp only [Array.map_empty]; exact HBZ.out) ?_)
    | (refine wpList_store_row rfl 149 (.tmp 6) (.tmp 23) rfl V.heap.size ZW (by rfl) (by rfl) 149 Tryd.zeroW (by exact zero149_new V) (by rw [HZS.out]; exact Tryd.size149) (by rw [HZS.out]; exact Tryd.zeroW_size) HZ1.out ?_))
  obtain ⟨M, hM⟩ := ex_eq V.heap.size
  have hMK : M = K + 1 := by rw [← hM]; exact HVS.out
  refine wp_over (fun X => Hid (WAt X V.heap.size xs 0) ∧ Hid (Below V.heap.size V X) ∧ Hid (X.heap.size = V.heap.size + 1)) ⟨?_, ?_, ?_⟩ ?_
  · have hg : ((V.alloc (.cells Tryd.zeroW 149)).setRow V.heap.size ZW).heap[V.heap.size]? = some (.cells ZW 149 (0, 0)) := setRow_heap _ _ _ _ _ _ (zero149_new V)
    exact ⟨fun i hi => by omega, fun i hi => ⟨_, (cell_of_row _ _ _ _ _ _ hg).trans (Array.getElem?_eq_getElem (by rw [HZS.out]; exact hi))⟩, fun i hi => frozen_of_row _ _ _ _ _ hg⟩
  · exact below_setRow ((Below.refl _ _).alloc (Nat.le_refl _) _) (Nat.le_refl _) _
  · show _ = _; simp [World.setRow]
  rintro X ⟨HX0, HXB, HXS⟩
  rw [hM] at HX0 HXB HXS ⊢
  clear hM
  have HMK := Lib.hid hMK
  clear hMK
  have HKON : Hid (∀ Y, Below M X Y → ∀ t, t < 64 → Y.cell? ⟨K, t, none⟩ = some (.int .u32 (v (Sha.kon t)))) := Lib.hid (fun Y hY t ht => by
    have h1 := (hY.block K (by have := HMK.out; omega)).trans ((HXB.out.block K (by have := HVS.out; have := HMK.out; omega)).trans HVK.out)
    rw [cell_of_row _ _ _ _ _ _ h1]
    exact HKG.out t ht)
  have HSN : Hid (∀ Y, Below M X Y → Y.heap[N]? = some (.cells RS 128 (0, 0))) := Lib.hid (fun Y hY => by
    have a1 := HKN.out; have a2 := HMK.out; have a3 := HVS.out
    exact (hY.block N (by omega)).trans ((HXB.out.block N (by omega)).trans ((HVB.out.block N (by omega)).trans HR0.out)))
  have HZN : Hid (∀ Y, Below M X Y → ∃ z, z.size = 8 ∧ Y.heap[N + 1]? = some (.cells z 128 (0, 0))) := Lib.hid (fun Y hY => by
    have a1 := HKN.out; have a2 := HMK.out; have a3 := HVS.out
    obtain ⟨z, hz, h⟩ := HZ0.out
    exact ⟨z, hz, (hY.block (N + 1) (by omega)).trans ((HXB.out.block (N + 1) (by omega)).trans ((HVB.out.block (N + 1) (by omega)).trans h))⟩)
  have HXW : Hid (Below N w X) := Lib.hid (by
    have a1 := HKN.out; have a2 := HMK.out; have a3 := HVS.out
    exact (HB0.out.trans (HVB.out.mono (by omega))).trans (HXB.out.mono (by omega)))
  have HBY : Hid (∀ Y, Below M X Y → BytesAt Y a xs) := Lib.hid (fun Y hY => HB.out.later (by
    have a1 := HKN.out; have a2 := HMK.out; have a3 := HVS.out
    rw [HN.out]; exact HXW.out.trans (hY.mono (by omega))))
  clear HR0 HZ0 HB0 HW0 HVK HVB HXB HVS HB HKG HKS HK1 HKA
  go_wp2_with fail
  go_loopw [7] (fun i wr => ∃ k : Nat, k ≤ 16 ∧ i = .int .i64 k ∧ Hid (WAt wr M xs k) ∧ Hid (Below M X wr)) (fun i _ => 16 - (intOf i).toNat)
  case atStart => exact ⟨0, by omega, rfl, HX0, Below.refl _ _⟩
  case round =>
    obtain ⟨k, hk, rfl, HWA, HBE⟩ := hrel
    by_cases hlt : k < 16
    · have hki : (k : Int) < 16 := by omega
      obtain ⟨old, hold⟩ := HWA.out.cell k (by omega)
      have hfree := HWA.out.free k (by omega)
      obtain ⟨b', o', e', hc⟩ := (HBY.out _ HBE.out).some (by rw [HX.out]; omega)
      subst e'
      have c0 := hc (4 * k) (by rw [HX.out]; omega)
      have c1 := hc (4 * k + 1) (by rw [HX.out]; omega)
      have c2 := hc (4 * k + 2) (by rw [HX.out]; omega)
      have c3 := hc (4 * k + 3) (by rw [HX.out]; omega)
      have x0 := (HBY.out _ HBE.out).getD_lt (4 * k) (by rw [HX.out]; omega)
      have x1 := (HBY.out _ HBE.out).getD_lt (4 * k + 1) (by rw [HX.out]; omega)
      have x2 := (HBY.out _ HBE.out).getD_lt (4 * k + 2) (by rw [HX.out]; omega)
      have x3 := (HBY.out _ HBE.out).getD_lt (4 * k + 3) (by rw [HX.out]; omega)
      have HNX : Hid (Sha.word (xs.getD (4 * k) 0) (xs.getD (4 * k + 1) 0) (xs.getD (4 * k + 2) 0) (xs.getD (4 * k + 3) 0) = Sha.next xs (Sha.sched xs k) k) := (next_low hlt).symm
      clear hc
      generalize xs.getD (4 * k) 0 = z0 at c0 x0 HNX
      generalize xs.getD (4 * k + 1) 0 = z1 at c1 x1 HNX
      generalize xs.getD (4 * k + 2) 0 = z2 at c2 x2 HNX
      generalize xs.getD (4 * k + 3) 0 = z3 at c3 x3 HNX
      go_wp2_with fail
      refine Kit.wp_region_quiet_tail 34 (by kernel_rfl) (by kernel_rfl) ?_
      simp only [List.take_succ_cons, List.take_zero, List.drop_succ_cons, List.drop_zero]
      repeat (go_big_quiet_step (fail))
      refine wpQuiet_nil ?_
      go_wp2_with fail
      go_roundw
      case rel => exact ⟨k + 1, by omega, by go_num, by show WAt _ _ _ _; rw [Sha.word_bits _ _ _ _ x0 x1 x2 x3]; exact (HWA.out.step (by omega) HNX.out).drew, (HBE.out.setCell (p := ⟨M, k, none⟩) (Nat.le_refl _) _).drew⟩
      case measure => simp [intOf]; omega
    · have e : k = 16 := by omega
      subst e
      rw [show (((16 : Nat)) : Int) = 16 from rfl]
      rename World => w2
      obtain ⟨Q0, hq0⟩ : ∃ Q : Prop, Hid Q := ⟨True, trivial⟩
      have HWA2 := HWA
      have HBE2 := HBE
      clear HWA HBE
      go_wp2_with fail
      go_loopw [8, 9, 10] (fun i y9 y10 wr => ∃ k : Nat, 16 ≤ k ∧ k ≤ 64 ∧ i = .int .i64 k ∧ Hid (WAt wr M xs k) ∧ Hid (Below M X wr)) (fun i _ _ _ => 64 - (intOf i).toNat)
      case atStart => exact ⟨16, by omega, by omega, rfl, HWA2.out, HBE2.out⟩
      case round =>
        obtain ⟨k, h16, hk, rfl, HWA, HBE⟩ := hrel
        by_cases hlt : k < 64
        · have hki : (k : Int) < 64 := by omega
          obtain ⟨old, hold⟩ := HWA.out.cell k hlt
          have hfree := HWA.out.free k hlt
          have HNX := Lib.hid (next_high (xs := xs) (show ¬ k < 16 by omega) hlt)
          have c2 := HWA.out.done (k - 2) (by omega)
          have c7 := HWA.out.done (k - 7) (by omega)
          have c15 := HWA.out.done (k - 15) (by omega)
          have c16 := HWA.out.done (k - 16) (by omega)
          generalize (Sha.sched xs 64).getD (k - 2) 0 = y2 at c2 HNX
          generalize (Sha.sched xs 64).getD (k - 7) 0 = y7 at c7 HNX
          generalize (Sha.sched xs 64).getD (k - 15) 0 = y15 at c15 HNX
          generalize (Sha.sched xs 64).getD (k - 16) 0 = y16 at c16 HNX
          obtain ⟨p2, hp2⟩ : ∃ p, k - 2 = p := ⟨_, rfl⟩
          obtain ⟨p7, hp7⟩ : ∃ p, k - 7 = p := ⟨_, rfl⟩
          obtain ⟨p15, hp15⟩ : ∃ p, k - 15 = p := ⟨_, rfl⟩
          obtain ⟨p16, hp16⟩ : ∃ p, k - 16 = p := ⟨_, rfl⟩
          have i2 : (k : Int) - 2 = (p2 : Int) := by omega
          have i7 : (k : Int) - 7 = (p7 : Int) := by omega
          have i15 : (k : Int) - 15 = (p15 : Int) := by omega
          have i16 : (k : Int) - 16 = (p16 : Int) := by omega
          have l2 : p2 < 64 := by omega
          have l7 : p7 < 64 := by omega
          have l15 : p15 < 64 := by omega
          have l16 : p16 < 64 := by omega
          rw [hp2] at c2
          rw [hp7] at c7
          rw [hp15] at c15
          rw [hp16] at c16
          clear hp2 hp7 hp15 hp16
          have l2' : (p2 : Int) < 64 := by omega
          have l7' : (p7 : Int) < 64 := by omega
          have l15' : (p15 : Int) < 64 := by omega
          have l16' : (p16 : Int) < 64 := by omega
          have w2' : IntKind.i64.wrap (p2 : Int) = (p2 : Int) := by rw [IntKind.wrap_i64]; omega
          have w7' : IntKind.i64.wrap (p7 : Int) = (p7 : Int) := by rw [IntKind.wrap_i64]; omega
          have w15' : IntKind.i64.wrap (p15 : Int) = (p15 : Int) := by rw [IntKind.wrap_i64]; omega
          have w16' : IntKind.i64.wrap (p16 : Int) = (p16 : Int) := by rw [IntKind.wrap_i64]; omega
          have r1 := Sha.f_xor Q0
          have r2 := Sha.f_add Q0
          have r3 := Sha.f_shr10 Q0
          have r4 := Sha.f_shr3 Q0
          have r9 := Sha.f_nonneg Q0
          go_upto_region 10 with fail
          refine wp_region_quiet_lit (by kernel_rfl) (by kernel_rfl) ?_
          iterate 4 (quiet_step (fail))
          quiet_step (with_reducible exact Calls.quiet_of (refRot7 _ _))
          iterate 4 (quiet_step (fail))
          quiet_step (with_reducible exact Calls.quiet_of (refRot18 _ _))
          repeat (quiet_step (fail))
          refine wpQuiet_nil ?_
          intro _ hw'
          obtain ⟨nq, hw''⟩ := hw'
          subst hw''
          go_upto_region 11 with fail
          refine wp_region_quiet_lit (by kernel_rfl) (by kernel_rfl) ?_
          iterate 4 (quiet_step (fail))
          quiet_step (with_reducible exact quiet3 (refRot17 _ _))
          iterate 4 (quiet_step (fail))
          quiet_step (with_reducible exact quiet3 (refRot19 _ _))
          repeat (quiet_step (fail))
          refine wpQuiet_nil ?_
          intro _ hw'
          obtain ⟨nq, hw''⟩ := hw'
          subst hw''
          go_upto_region 12 with fail
          refine Kit.wp_region_quiet_tail 15 (by kernel_rfl) (by kernel_rfl) ?_
          simp only [List.take_succ_cons, List.take_zero, List.drop_succ_cons, List.drop_zero]
          repeat (go_big_quiet_step (fail))
          refine wpQuiet_nil ?_
          go_wp2_with fail
          go_roundw
          case rel => exact ⟨k + 1, by omega, by omega, by go_num, (HWA.out.drawn _).step hlt (by rw [HNX.out]; rfl), (below_drewN HBE.out _).setCell (p := ⟨M, k, none⟩) (Nat.le_refl _) _⟩
          case measure => simp [intOf]; omega
        · have e : k = 64 := by omega
          subst e
          rw [show (((64 : Nat)) : Int) = 64 from rfl]
          rename World => w3
          have HW3 := HWA
          have HB3 := HBE
          clear HWA HBE HWA2 HBE2
          have HR3 := Lib.hid (HSN.out _ HB3.out)
          have HM3 : Hid (M + 1 ≤ w3.heap.size) := Lib.hid (by
            obtain ⟨y, hy⟩ := HW3.out.cell 0 (by omega)
            exact World.block_lt_of_cell? w3 _ hy)
          go_upto_region 14 with (first
            | (with_reducible refine wpList_load_row rfl 128 (.tmp 2) rfl N rfl 128 RS (0, 0) _ HR3.out Tryd.underlying128 rfl (by rw [HSS.out]; exact Tryd.size128) ?_)
            | (refine wpList_store_row rfl 128 (.tmp 11) (.tmp 116) rfl w3.heap.size RS (by rfl) (by rfl) 128 #[.int .u32 0, .int .u32 0, .int .u32 0, .int .u32 0, .int .u32 0, .int .u32 0, .int .u32 0, .int .u32 0] (by exact heap_alloc_new w3 _) (by rw [HSS.out]; exact Tryd.size128) (by rw [HSS.out]; rfl) HS1.out ?_))
          obtain ⟨VB, hVB⟩ := ex_eq w3.heap.size
          refine wp_over (fun Y => Hid (Y.heap[w3.heap.size]? = some (.cells RS 128 (0, 0))) ∧ Hid (Below w3.heap.size w3 Y)) ⟨?_, ?_⟩ ?_
          · exact setRow_heap _ _ _ _ _ _ (heap_alloc_new w3 _)
          · exact below_setRow ((Below.refl _ _).alloc (Nat.le_refl _) _) (Nat.le_refl _) _
          rintro Y ⟨HYV, HYB⟩
          rw [hVB] at HYV HYB ⊢
          have hVM : M < VB := by have := HM3.out; omega
          have HVB := Lib.hid hVB
          clear hVB
          clear HR3 HM3 hVM
          have HVM : Hid (M < VB) := Lib.hid (by
            obtain ⟨y, hy⟩ := HW3.out.cell 0 (by omega)
            have h := World.block_lt_of_cell? w3 _ hy
            rw [HVB.out] at h
            exact h)
          go_wp2_with fail
          go_loopw [12, 13, 14, 15, 16, 17, 18, 19, 20] (fun t y13 y14 y15 y16 y17 y18 y19 y20 wr => ∃ k : Nat, k ≤ 64 ∧ t = .int .i64 k ∧ Hid (wr.heap[VB]? = some (.cells (wordsL (Sha.rounds xs S k)).toArray 128 (0, 0))) ∧ Hid (Below VB Y wr)) (fun t _ _ _ _ _ _ _ _ _ => 64 - (intOf t).toNat)
          case atStart => exact ⟨0, by omega, rfl, by show _ = _; rw [show Sha.rounds xs S 0 = S from rfl, HRS.out]; exact HYV.out, Below.refl _ _⟩
          case round =>
            obtain ⟨k, hk, rfl, HROW, HBE⟩ := hrel
            have HBX : Hid (Below M X wr) := Lib.hid (HB3.out.trans ((HYB.out.trans HBE.out).mono (Nat.le_of_lt HVM.out)))
            by_cases hlt : k < 64
            · have hki : (k : Int) < 64 := by omega
              have hkon := HKON.out wr HBX.out k hlt
              have hwk := (HW3.out.later (by rw [HVB.out]; exact HYB.out.trans HBE.out)).done k hlt
              have HRN : Hid (Sha.rounds xs S (k + 1) = Sha.rnd (Sha.rounds xs S k) (Sha.kon k) ((Sha.sched xs 64).getD k 0)) := rfl
              generalize (Sha.sched xs 64).getD k 0 = wk at hwk HRN
              generalize Sha.kon k = kk at hkon HRN
              have c0 := words_row HROW.out 0 (by omega)
              have c1 := words_row HROW.out 1 (by omega)
              have c2 := words_row HROW.out 2 (by omega)
              have c3 := words_row HROW.out 3 (by omega)
              have c4 := words_row HROW.out 4 (by omega)
              have c5 := words_row HROW.out 5 (by omega)
              have c6 := words_row HROW.out 6 (by omega)
              have c7 := words_row HROW.out 7 (by omega)
              obtain ⟨R, hR⟩ := ex_eq (Sha.rounds xs S k)
              rw [hR] at HROW HRN c0 c1 c2 c3 c4 c5 c6 c7
              have HR := Lib.hid hR
              clear hR
              obtain ⟨ra, rb, rc, rd, re, rf, rg, rh⟩ := R
              simp only [Sha.St.list, List.getD_cons_zero, List.getD_cons_succ] at c0 c1 c2 c3 c4 c5 c6 c7
              have r1 := Sha.f_xor Q0
              have r2 := Sha.f_add Q0
              have r3 := Sha.f_and Q0
              have r4 := Sha.f_not Q0
              have r9 := Sha.f_nonneg Q0
              go_upto_region 17 with fail
              go_quiet (fail)
              go_upto_region 18 with fail
              refine wp_region_quiet_lit (by kernel_rfl) (by kernel_rfl) ?_
              iterate 3 (quiet_step (fail))
              quiet_step (with_reducible exact quiet3 (refRot6 _ _))
              iterate 1 (quiet_step (fail))
              quiet_step (with_reducible exact quiet3 (refRot11 _ _))
              iterate 2 (quiet_step (fail))
              quiet_step (with_reducible exact quiet3 (refRot25 _ _))
              repeat (quiet_step (fail))
              refine wpQuiet_nil ?_
              intro _ hw'
              obtain ⟨nq2, hw''⟩ := hw'
              subst hw''
              go_upto_region 20 with (first
                | (go_at_call 121; (with_reducible refine (refRot2 _ _).mono ?_); rintro e w' ⟨rfl, n2, rfl⟩)
                | (go_at_call 121; (with_reducible refine (refRot13 _ _).mono ?_); rintro e w' ⟨rfl, n13, rfl⟩)
                | (go_at_call 121; (with_reducible refine (refRot22 _ _).mono ?_); rintro e w' ⟨rfl, n22, rfl⟩))
              go_wp2_with (first
                | (refine wpList_store_row rfl 128 (.tmp 11) (.tmp 194) rfl VB (wordsL (Sha.rnd ⟨ra, rb, rc, rd, re, rf, rg, rh⟩ kk wk)).toArray (by rfl) (by rfl) 128 (wordsL ⟨ra, rb, rc, rd, re, rf, rg, rh⟩).toArray (by exact HROW.out) (by rw [wordsL_size]; exact Tryd.size128) rfl (wordsL_one _) ?_))
              go_roundw
              case rel => exact ⟨k + 1, by omega, by go_num, by show _ = _; rw [HRN.out]; exact setRow_heap _ _ _ _ _ _ HROW.out, below_setRow (below_drewN HBE.out _) (Nat.le_refl _) _⟩
              case measure => simp [intOf]; omega
            · have e : k = 64 := by omega
              subst e
              rw [show (((64 : Nat)) : Int) = 64 from rfl]
              rename World => w4
              have HRC : Hid (Sha.comp S xs = Sha.addSt S (Sha.rounds xs S 64)) := rfl
              obtain ⟨R, hR⟩ := ex_eq (Sha.rounds xs S 64)
              rw [hR] at HROW HRC
              obtain ⟨T, hT⟩ := ex_eq (Sha.comp S xs)
              rw [hT] at HRC
              have HT := Lib.hid hT
              clear hT hR
              have HB4 := HBE
              have HMX : Hid (∀ Z, Below VB Y Z → Below M X Z) := Lib.hid (fun Z hZ => HB3.out.trans ((HYB.out.trans hZ).mono (Nat.le_of_lt HVM.out)))
              clear HBE HBX hk hlt
              go_wp2_with fail
              go_loopw [21] (fun i wr => ∃ k : Nat, k ≤ 8 ∧ i = .int .i64 k ∧ Hid (MixAt wr VB R T k) ∧ Hid (Below VB Y wr)) (fun i _ => 8 - (intOf i).toNat)
              case atStart => exact ⟨0, by omega, rfl, mix_row HROW.out, HB4.out⟩
              case round =>
                obtain ⟨k, hk, rfl, HMA, HBE⟩ := hrel
                by_cases hlt : k < 8
                · have hki : (k : Int) < 8 := by omega
                  have cv := HMA.out.cell k hlt
                  rw [if_neg (Nat.lt_irrefl k)] at cv
                  have hfree := HMA.out.free k hlt
                  have hrow := HSN.out _ (HMX.out _ HBE.out)
                  rw [← HRS.out] at hrow
                  have cs := words_row hrow k hlt
                  clear hrow
                  have HAD := Lib.hid (addSt_getD' S R k hlt)
                  rw [← HRC.out] at HAD
                  generalize R.list.getD k 0 = yR at cv HAD
                  generalize S.list.getD k 0 = yS at cs HAD
                  have r2 := Sha.f_add Q0
                  have r9 := Sha.f_nonneg Q0
                  go_upto_region 24 with fail
                  refine Kit.wp_region_quiet_tail 8 (by kernel_rfl) (by kernel_rfl) ?_
                  simp only [List.take_succ_cons, List.take_zero, List.drop_succ_cons, List.drop_zero]
                  repeat (go_big_quiet_step (fail))
                  refine wpQuiet_nil ?_
                  go_wp2_with fail
                  go_roundw
                  case rel => exact ⟨k + 1, by omega, by go_num, HMA.out.drew.step hlt HAD.out, HBE.out.drew.setCell (p := ⟨VB, k, none⟩) (Nat.le_refl _) _⟩
                  case measure => simp [intOf]; omega
                · have e : k = 8 := by omega
                  subst e
                  have hsT := wordsL_size T
                  have hs1 := wordsL_one T
                  have hcs : ∀ j u, (wordsL T)[j]? = some u → wr.cell? ⟨VB, 0 + j, none⟩ = some u := fun j u hj => by
                    have hj8 : j < 8 := (List.getElem?_eq_some_iff.1 hj).1
                    rw [wordsL_get T j hj8] at hj
                    have h := HMA.out.cell j hj8
                    rw [if_pos hj8] at h
                    rw [Nat.zero_add, h, hj]
                  obtain ⟨z, hz, hzr⟩ := HZN.out _ (HMX.out _ HBE.out)
                  obtain ⟨RT, hRT⟩ := ex_eq (wordsL T).toArray
                  rw [hRT] at hsT hs1
                  have HRT := Lib.hid hRT
                  have HCS := Lib.hid hcs
                  have HZR := Lib.hid hzr
                  have HZS := Lib.hid hz
                  have HST := Lib.hid hsT
                  have HS1T := Lib.hid hs1
                  clear hcs hzr hz hRT hsT hs1
                  go_wp2_with (first
                    | (with_reducible refine wpList_load_cells rfl 128 (.tmp 11) rfl VB 0 rfl (wordsL T) HCS.out _ Tryd.underlying128 rfl rfl RT HRT.out ?_)
                    | (refine wpList_store_row rfl 128 (.tmp 4) (.tmp 207) rfl (N + 1) RT (by rfl) (by rfl) 128 z (by exact HZR.out) (by rw [HST.out]; exact Tryd.size128) (by rw [HST.out, HZS.out]) HS1T.out ?_))
                  refine bodyPost_ret (results_cell_row (p := 4) rfl _ _ (N + 1) 128 RT (0, 0) _ (by rfl) (setRow_heap _ _ _ _ _ _ HZR.out) Tryd.underlying128 rfl (by rw [HST.out]; exact Tryd.size128)) rfl ⟨by rw [HT.out, HRT.out], ?_⟩
                  have a1 := HKN.out; have a2 := HMK.out; have a3 := HVM.out
                  rw [HN.out]
                  exact below_setRow (HXW.out.trans ((HMX.out _ HBE.out).mono (by omega))) (by omega) _
end Go.Proofs.YtmnendoloankgaaDoor
