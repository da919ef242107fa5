/- The law SignatureScheme, walked. -/
import Derived.Test.YtmnendoloankgaaDoorGf
import Derived.Test.YtmnendoloankgaaDoorOpn
namespace Go.Proofs.YtmnendoloankgaaDoor
set_option linter.unusedVariables false
set_option linter.unusedSimpArgs false
open Go.RowKit
open Kit (Chg)
open Sha (v)
open Go.Proofs.YtmnendoloankgaaDoor.One

set_option maxRecDepth 100000 in
set_option maxHeartbeats 2000000 in
theorem scheme_bad (B S : Int) (hv : ¬ SV B S) (w : World) (hL : Laid w) :
    Calls Tryd.prog 12 #[.agg #[.int .i64 (B), .int .i64 (S)]] w fun e w' => e = .returned (.bool true) ∧ Below w.heap.size w w' := by
  have HL := Lib.hid hL
  have HV := Lib.hid (fun w => schemeValid_any B S w)
  have HRV := Lib.hid (fun w => refSchemeValid_any B S w)
  rw [decide_eq_false hv] at HV HRV
  have HSZ := Lib.hid (fun w => size_bad B S hv w)
  clear hv hL
  go_enter Tryd.func12, Tryd.ntmps12
  go_upto_region 1 with fail
  refine wp_over (fun W => Hid (W.heap[w.heap.size]? = some (.cells #[.int .i64 (B), .int .i64 (S)] 63 (0, 0))) ∧ Hid (Below w.heap.size w W) ∧ Hid (W.heap.size = w.heap.size + 1)) ⟨heap_alloc_new _ _, (Below.refl _ _).alloc (Nat.le_refl _) _, by show _ = _; simp⟩ ?_
  rintro W ⟨HG, HB, HWN⟩
  obtain ⟨N, hN⟩ := ex_eq w.heap.size
  rw [hN] at HG HB HWN ⊢
  have HN := Lib.hid hN
  clear hN
  have HCE : Hid (∀ V, Below (N + 1) W V → V.cell? ⟨N, 0, none⟩ = some (.int .i64 (B)) ∧ V.cell? ⟨N, 1, none⟩ = some (.int .i64 (S))) := Lib.hid (fun V h => by
    have hg := (h.block N (Nat.lt_succ_self _)).trans HG.out
    exact ⟨(cell_of_row _ _ _ _ _ _ hg).trans rfl, (cell_of_row _ _ _ _ _ _ hg).trans rfl⟩)
  have HST : Hid (∀ V V', Below (N + 1) W V → Below V.heap.size V V' → Below (N + 1) W V') := Lib.hid (fun V V' h h' => h.trans (h'.mono (by have := h.size; have := HWN.out; omega)))
  have HEND : Hid (∀ V, Below (N + 1) W V → Below w.heap.size w V) := Lib.hid (fun V h => by rw [HN.out]; exact HB.out.trans (h.mono (Nat.le_succ N)))
  have HLD : Hid (∀ V, Below (N + 1) W V → Laid V) := Lib.hid (fun V h => HL.out.later (HEND.out V h) (Nat.le_refl _))
  obtain ⟨c0, c1⟩ := HCE.out W (Below.refl _ _)
  go_upto_region 5 with (first
    | (go_at_call 46
       (refine (HRV.out _).mono ?_)
       rintro e w2 ⟨rfl, h2⟩
       have HX := Lib.hid (HST.out _ _ (Below.refl _ _) h2)
       clear h2))
  clear c0 c1
  refine Kit.wp_region_gplan (fun V => V.cell? ⟨N, 0, none⟩ = some (.int .i64 (B)) ∧ V.cell? ⟨N, 1, none⟩ = some (.int .i64 (S))) [(false, 0), (true, 1), (true, 2), (true, 4), (false, 3), (false, 5), (true, 6), (true, 7), (true, 8), (true, 9), (true, 11), (false, 10), (true, 12), (true, 13), (true, 14)] (by kernel_rfl) (by kernel_rfl) (by kernel_rfl) (by kernel_rfl) (HCE.out _ HX.out.drew) ?_
  refine Kit.gplan_op (by rfl) (by rfl) fun K hK => ?_
  go_simp
  go_at_call 48
  refine (awake13 _ (HLD.out _ HX.out).drew).mono ?_
  rintro e w21 ⟨rfl, h21⟩
  have H21 := Lib.hid (HST.out _ _ HX.out.drew h21)
  clear h21
  refine hK _ _ (HCE.out _ H21.out) ?_
  clear hK K
  iterate 3 (refine Kit.gplan_head (by rfl) (by first | exact .inr ⟨by rfl, rfl⟩ | exact .inl ⟨by rfl, fun w' hS => by (dsimp only at hS); go_simp; (try with_reducible rfl)⟩) ?_; (try simp only [Act.put, List.setIfInBounds_toArray, List.set_cons_zero, List.set_cons_succ]))
  refine Kit.gplan_op (by rfl) (by rfl) fun K hK => ?_
  go_simp
  go_at_call 49
  refine (HV.out _).mono ?_
  rintro e w22 ⟨rfl, h22⟩
  have H22 := Lib.hid (HST.out _ _ H21.out h22)
  clear h22
  refine hK _ _ (HCE.out _ H22.out) ?_
  clear hK K
  refine Kit.gplan_op (by rfl) (by rfl) fun K hK => ?_
  go_simp
  go_at_call 46
  refine (HRV.out _).mono ?_
  rintro e w23 ⟨rfl, h23⟩
  have H23 := Lib.hid (HST.out _ _ H22.out h23)
  clear h23
  refine hK _ _ (HCE.out _ H23.out) ?_
  clear hK K
  iterate 5 (refine Kit.gplan_head (by rfl) (by first | exact .inr ⟨by rfl, rfl⟩ | exact .inl ⟨by rfl, fun w' hS => by (dsimp only at hS); go_simp; (try with_reducible rfl)⟩) ?_; (try simp only [Act.put, List.setIfInBounds_toArray, List.set_cons_zero, List.set_cons_succ]))
  refine Kit.gplan_op (by rfl) (by rfl) fun K hK => ?_
  go_simp
  go_at_call 50
  refine (HSZ.out _).mono ?_
  rintro e w24 ⟨rfl, h24⟩
  have H24 := Lib.hid (HST.out _ _ H23.out h24)
  clear h24
  refine hK _ _ (HCE.out _ H24.out) ?_
  clear hK K
  iterate 3 (refine Kit.gplan_head (by rfl) (by first | exact .inr ⟨by rfl, rfl⟩ | exact .inl ⟨by rfl, fun w' hS => by (dsimp only at hS); go_simp; (try with_reducible rfl)⟩) ?_; (try simp only [Act.put, List.setIfInBounds_toArray, List.set_cons_zero, List.set_cons_succ]))
  refine Kit.gplan_done ?_
  (try simp only [Act.put, List.setIfInBounds_toArray, List.set_cons_zero, List.set_cons_succ])
  go_wp2_with fail
  go_ret
  exact ⟨by first | rfl | simp, HEND.out _ H24.out⟩
set_option maxRecDepth 100000 in
set_option maxHeartbeats 2000000 in
theorem scheme_ok (b t : Nat) (hB : Bits b) (hb4 : b ≤ 4) (ht : t ≤ 8) (w : World) (hL : Laid w) :
    Calls Tryd.prog 12 #[.agg #[.int .i64 (b : Int), .int .i64 (t : Int)]] w fun e w' => e = .returned (.bool true) ∧ Below w.heap.size w w' := by
  have hsv : SV (b : Int) (t : Int) := ⟨by rcases hB with rfl | rfl | rfl | rfl <;> first | omega | simp, by omega, by omega⟩
  have HL := Lib.hid hL
  have HV := Lib.hid (fun w => schemeValid_any (b : Int) (t : Int) w)
  have HRV := Lib.hid (fun w => refSchemeValid_any (b : Int) (t : Int) w)
  rw [decide_eq_true hsv] at HV HRV
  have HSZ := Lib.hid (fun w => size_ok b t hB hb4 ht w)
  have HMA := Lib.hid (fun w => main_any b 32 hB (by decide) w)
  have HCK := Lib.hid (fun w => check_any b 32 hB (by decide) (by decide) w)
  have hC := count_le hB (n := 32) (by decide)
  have HKM : count b 32 = 8 * 32 / b + cnt b (great b 32) := rfl
  obtain ⟨m0, hm0⟩ := ex_eq (8 * 32 / b)
  obtain ⟨k0, hk0⟩ := ex_eq (cnt b (great b 32))
  rw [hm0, hk0] at HKM
  rw [hm0] at HMA
  rw [hk0] at HCK
  rw [HKM] at HSZ hC
  obtain ⟨D, hD⟩ := ex_eq (32 * (m0 + k0 + t))
  rw [hD] at HSZ
  have hDi : (32 : Int) * ((m0 : Int) + (k0 : Int) + (t : Int)) = (D : Int) := by omega
  have hD9 : D ≤ 1000000 := by omega
  have hm9 : m0 ≤ 269 := by omega
  have hk9 : k0 ≤ 269 := by omega
  have hwD : IntKind.i64.wrap (D : Int) = (D : Int) := by rw [IntKind.wrap_i64]; omega
  have hwC : IntKind.i64.wrap ((m0 : Int) + (k0 : Int)) = (m0 : Int) + (k0 : Int) := by rw [IntKind.wrap_i64]; omega
  have hwE : IntKind.i64.wrap ((m0 : Int) + (k0 : Int) + (t : Int)) = (m0 : Int) + (k0 : Int) + (t : Int) := by rw [IntKind.wrap_i64]; omega
  clear hsv hB hL hm0 hk0 HKM hD
  go_enter Tryd.func12, Tryd.ntmps12
  go_upto_region 1 with fail
  refine wp_over (fun W => Hid (W.heap[w.heap.size]? = some (.cells #[.int .i64 (b : Int), .int .i64 (t : Int)] 63 (0, 0))) ∧ Hid (Below w.heap.size w W) ∧ Hid (W.heap.size = w.heap.size + 1)) ⟨heap_alloc_new _ _, (Below.refl _ _).alloc (Nat.le_refl _) _, by show _ = _; simp⟩ ?_
  rintro W ⟨HG, HB, HWN⟩
  obtain ⟨N, hN⟩ := ex_eq w.heap.size
  rw [hN] at HG HB HWN ⊢
  have HN := Lib.hid hN
  clear hN
  have HCE : Hid (∀ V, Below (N + 1) W V → V.cell? ⟨N, 0, none⟩ = some (.int .i64 (b : Int)) ∧ V.cell? ⟨N, 1, none⟩ = some (.int .i64 (t : Int))) := Lib.hid (fun V h => by
    have hg := (h.block N (Nat.lt_succ_self _)).trans HG.out
    exact ⟨(cell_of_row _ _ _ _ _ _ hg).trans rfl, (cell_of_row _ _ _ _ _ _ hg).trans rfl⟩)
  have HST : Hid (∀ V V', Below (N + 1) W V → Below V.heap.size V V' → Below (N + 1) W V') := Lib.hid (fun V V' h h' => h.trans (h'.mono (by have := h.size; have := HWN.out; omega)))
  have HEND : Hid (∀ V, Below (N + 1) W V → Below w.heap.size w V) := Lib.hid (fun V h => by rw [HN.out]; exact HB.out.trans (h.mono (Nat.le_succ N)))
  have HLD : Hid (∀ V, Below (N + 1) W V → Laid V) := Lib.hid (fun V h => HL.out.later (HEND.out V h) (Nat.le_refl _))
  obtain ⟨c0, c1⟩ := HCE.out W (Below.refl _ _)
  go_upto_region 3 with (first
    | (go_at_call 46
       (refine (HRV.out _).mono ?_)
       rintro e w2 ⟨rfl, h2⟩
       have H2 := Lib.hid (HST.out _ _ (Below.refl _ _) h2)
       clear h2))
  clear c0 c1
  obtain ⟨c0, c1⟩ := HCE.out _ H2.out
  go_upto_region 4 with (first
    | (go_at_call 47
       (refine (refParams_any (b : Int) (t : Int) _).mono ?_)
       rintro e w3 ⟨rfl, h3⟩
       have H3 := Lib.hid (HST.out _ _ H2.out h3)
       clear h3))
  clear c0 c1
  refine wp_over (fun V => Hid (V.heap[w3.heap.size]? = some (.cells #[.int .i64 (b : Int), .int .i64 32] 23 (0, 0))) ∧ Hid (Below w3.heap.size w3 V)) ⟨heap_alloc_new _ _, (Below.refl _ _).alloc (Nat.le_refl _) _⟩ ?_
  rintro w4 ⟨HG4, HB4⟩
  have H4 := Lib.hid (HST.out _ _ H3.out HB4.out)
  obtain ⟨K4, hK4⟩ := ex_eq w3.heap.size
  rw [hK4] at HG4 ⊢
  clear hK4 HB4
  have HC4 : Hid (∀ V, Below w4.heap.size w4 V → V.cell? ⟨N, 0, none⟩ = some (.int .i64 (b : Int)) ∧ V.cell? ⟨N, 1, none⟩ = some (.int .i64 (t : Int)) ∧ V.cell? ⟨K4, 0, none⟩ = some (.int .i64 (b : Int)) ∧ V.cell? ⟨K4, 1, none⟩ = some (.int .i64 32)) := Lib.hid (fun V h => by
    have h1 := HCE.out V (HST.out _ _ H4.out h)
    have hg := (h.block K4 (Array.getElem?_eq_some_iff.1 HG4.out).1).trans HG4.out
    exact ⟨h1.1, h1.2, (cell_of_row _ _ _ _ _ _ hg).trans rfl, (cell_of_row _ _ _ _ _ _ hg).trans rfl⟩)
  refine Kit.wp_region_gplan (fun V => V.cell? ⟨N, 0, none⟩ = some (.int .i64 (b : Int)) ∧ V.cell? ⟨N, 1, none⟩ = some (.int .i64 (t : Int)) ∧ V.cell? ⟨K4, 0, none⟩ = some (.int .i64 (b : Int)) ∧ V.cell? ⟨K4, 1, none⟩ = some (.int .i64 32)) [(true, 0), (true, 2), (true, 5), (true, 6), (false, 1), (false, 3), (true, 4), (true, 7), (true, 8), (true, 9)] (by kernel_rfl) (by kernel_rfl) (by kernel_rfl) (by kernel_rfl) (HC4.out _ (Below.refl _ w4).drew) ?_
  iterate 4 (refine Kit.gplan_head (by rfl) (by first | exact .inr ⟨by rfl, rfl⟩ | exact .inl ⟨by rfl, fun w' hS => by (dsimp only at hS); go_simp; (try with_reducible rfl)⟩) ?_; (try simp only [Act.put, List.setIfInBounds_toArray, List.set_cons_zero, List.set_cons_succ]))
  refine Kit.gplan_op (by rfl) (by rfl) fun K hK => ?_
  go_simp
  go_at_call 25
  refine (HMA.out _).mono ?_
  rintro e w5 ⟨m5, rfl, hm5, h5⟩
  have hm6 := hm5.symm
  subst hm6
  have H5 : Hid (Below w4.heap.size w4 w5) := Lib.hid ((Below.refl _ w4).drew.trans h5)
  clear h5 hm5
  refine hK _ _ (HC4.out _ H5.out) ?_
  clear hK K
  refine Kit.gplan_op (by rfl) (by rfl) fun K hK => ?_
  go_simp
  go_at_call 26
  refine (HCK.out _).mono ?_
  rintro e w6 ⟨k6, rfl, hk6, h6⟩
  have hk7 := hk6.symm
  subst hk7
  have H6 : Hid (Below w4.heap.size w4 w6) := Lib.hid (H5.out.trans (h6.mono H5.out.size))
  clear h6 hk6
  refine hK _ _ (HC4.out _ H6.out) ?_
  clear hK K
  iterate 4 (refine Kit.gplan_head (by rfl) (by first | exact .inr ⟨by rfl, rfl⟩ | exact .inl ⟨by rfl, fun w' hS => by (dsimp only at hS); go_simp; (try with_reducible rfl)⟩) ?_; (try simp only [Act.put, List.setIfInBounds_toArray, List.set_cons_zero, List.set_cons_succ]))
  refine Kit.gplan_done ?_
  (try simp only [Act.put, List.setIfInBounds_toArray, List.set_cons_zero, List.set_cons_succ])
  have HX := Lib.hid (HST.out _ _ H4.out H6.out)
  go_upto_region 5 with fail
  refine Kit.wp_region_gplan (fun V => V.cell? ⟨N, 0, none⟩ = some (.int .i64 (b : Int)) ∧ V.cell? ⟨N, 1, none⟩ = some (.int .i64 (t : Int))) [(false, 0), (true, 1), (true, 2), (true, 4), (false, 3), (false, 5), (true, 6), (true, 7), (true, 8), (true, 9), (true, 11), (false, 10), (true, 12), (true, 13), (true, 14)] (by kernel_rfl) (by kernel_rfl) (by kernel_rfl) (by kernel_rfl) (HCE.out _ HX.out.drew) ?_
  refine Kit.gplan_op (by rfl) (by rfl) fun K hK => ?_
  go_simp
  go_at_call 48
  refine (awake13 _ (HLD.out _ HX.out).drew).mono ?_
  rintro e w21 ⟨rfl, h21⟩
  have H21 := Lib.hid (HST.out _ _ HX.out.drew h21)
  clear h21
  refine hK _ _ (HCE.out _ H21.out) ?_
  clear hK K
  iterate 3 (refine Kit.gplan_head (by rfl) (by first | exact .inr ⟨by rfl, rfl⟩ | exact .inl ⟨by rfl, fun w' hS => by (dsimp only at hS); go_simp; (try with_reducible rfl)⟩) ?_; (try simp only [Act.put, List.setIfInBounds_toArray, List.set_cons_zero, List.set_cons_succ]))
  refine Kit.gplan_op (by rfl) (by rfl) fun K hK => ?_
  go_simp
  go_at_call 49
  refine (HV.out _).mono ?_
  rintro e w22 ⟨rfl, h22⟩
  have H22 := Lib.hid (HST.out _ _ H21.out h22)
  clear h22
  refine hK _ _ (HCE.out _ H22.out) ?_
  clear hK K
  refine Kit.gplan_op (by rfl) (by rfl) fun K hK => ?_
  go_simp
  go_at_call 46
  refine (HRV.out _).mono ?_
  rintro e w23 ⟨rfl, h23⟩
  have H23 := Lib.hid (HST.out _ _ H22.out h23)
  clear h23
  refine hK _ _ (HCE.out _ H23.out) ?_
  clear hK K
  iterate 5 (refine Kit.gplan_head (by rfl) (by first | exact .inr ⟨by rfl, rfl⟩ | exact .inl ⟨by rfl, fun w' hS => by (dsimp only at hS); go_simp; (try with_reducible rfl)⟩) ?_; (try simp only [Act.put, List.setIfInBounds_toArray, List.set_cons_zero, List.set_cons_succ]))
  refine Kit.gplan_op (by rfl) (by rfl) fun K hK => ?_
  go_simp
  go_at_call 50
  refine (HSZ.out _).mono ?_
  rintro e w24 ⟨rfl, h24⟩
  have H24 := Lib.hid (HST.out _ _ H23.out h24)
  clear h24
  refine hK _ _ (HCE.out _ H24.out) ?_
  clear hK K
  iterate 3 (refine Kit.gplan_head (by rfl) (by first | exact .inr ⟨by rfl, rfl⟩ | exact .inl ⟨by rfl, fun w' hS => by (dsimp only at hS); go_simp; (try with_reducible rfl)⟩) ?_; (try simp only [Act.put, List.setIfInBounds_toArray, List.set_cons_zero, List.set_cons_succ]))
  refine Kit.gplan_done ?_
  (try simp only [Act.put, List.setIfInBounds_toArray, List.set_cons_zero, List.set_cons_succ])
  go_wp2_with fail
  go_ret
  exact ⟨by first | rfl | simp, HEND.out _ H24.out⟩
theorem walk_SignatureScheme (B S : Int) (w : World) (hL : Laid w) :
    Calls Tryd.prog 12 #[.agg #[.int .i64 B, .int .i64 S]] w fun e w' => e = .returned (.bool true) ∧ Below w.heap.size w w' := by
  by_cases hv : SV B S
  · obtain ⟨b, t, rfl, rfl, hB, hb4, ht⟩ := sv_of hv
    exact scheme_ok b t hB hb4 ht w hL
  · exact scheme_bad B S hv w hL
end Go.Proofs.YtmnendoloankgaaDoor
