/- The document's Start: the beginnings of all chains. -/
import Derived.Test.YtmnendoloankgaaDoorRfc
namespace Go.Proofs.YtmnendoloankgaaDoor
set_option linter.unusedVariables false
set_option linter.unusedSimpArgs false
open Go.RowKit
open Kit (Chg)
open Sha (v)
open Go.Proofs.YtmnendoloankgaaDoor.One

set_option maxRecDepth 100000 in
set_option maxHeartbeats 2000000 in
theorem refStart_ok (b n : Nat) (hB : Bits b) (hn : 0 < n) (hn2 : n ≤ 32) (seed : ByteArray) (hs : seed.size = 32) (w : World) :
    Calls Tryd.prog 82 #[.agg #[.int .i64 (b : Int), .int .i64 (n : Int)], .string seed] w fun e w' => ∃ (x : Value) (L : Nat) (vs : List ByteArray), e = .returned x ∧ L = count b n ∧ vs.map nb = starts (nb seed) L ∧ w'.ownsRow w.heap.size 9 1 x L (strV vs) ∧ Below w.heap.size w w' := by
  have HMA := Lib.hid (fun w => main_any b n hB hn2 w)
  have HCK := Lib.hid (fun w => check_any b n hB hn hn2 w)
  have HKM : Hid (count b n = 8 * n / b + cnt b (great b n)) := rfl
  have HSE := Lib.hid (fun c hc w => refSecret_ok seed hs c hc w)
  have hC := count_le hB hn2
  obtain ⟨C, hCe⟩ := ex_eq (count b n)
  obtain ⟨m0, hme⟩ := ex_eq (8 * n / b)
  obtain ⟨k0, hke⟩ := ex_eq (cnt b (great b n))
  rw [hCe, hme, hke] at HKM
  rw [hCe] at hC ⊢
  have HME := Lib.hid hme
  have HKE := Lib.hid hke
  have hm9 : m0 ≤ 269 := by have := HKM.out; omega
  have hk9 : k0 ≤ 269 := by have := HKM.out; omega
  clear hB hn hn2 hs hCe hme hke
  go_enter Tryd.func82, Tryd.ntmps82
  go_upto_region 1 with fail
  refine wp_over (fun W => Hid (W.heap[w.heap.size]? = some (.cells #[.int .i64 (b : Int), .int .i64 (n : Int)] 23 (0, 0))) ∧ Hid (Below w.heap.size w W)) ⟨heap_alloc_new _ _, (Below.refl _ _).alloc (Nat.le_refl _) _⟩ ?_
  rintro W ⟨HG, HB⟩
  obtain ⟨N, hN⟩ := ex_eq w.heap.size
  rw [hN] at HG HB ⊢
  have HN := Lib.hid hN
  clear hN
  have HWN : Hid (N + 1 ≤ W.heap.size) := Lib.hid (Array.getElem?_eq_some_iff.1 HG.out).1
  have HCE : Hid (∀ V, Below (N + 1) W V → V.cell? ⟨N, 0, none⟩ = some (.int .i64 (b : Int)) ∧ V.cell? ⟨N, 1, none⟩ = some (.int .i64 (n : Int))) := Lib.hid (fun V h => by
    have hg := (h.block N (Nat.lt_succ_self _)).trans HG.out
    exact ⟨(cell_of_row _ _ _ _ _ _ hg).trans rfl, (cell_of_row _ _ _ _ _ _ hg).trans rfl⟩)
  have HST : Hid (∀ V V', Below (N + 1) W V → Below V.heap.size V V' → Below (N + 1) W V') := Lib.hid (fun V V' h h' => h.trans (h'.mono (by have := h.size; have := HWN.out; omega)))
  go_upto_region 3 with fail
  go_loopw [5, 6] (fun x y wr => ∃ (k : Nat) (vs : List ByteArray), k ≤ C ∧ y = .int .i64 (k : Int) ∧ vs.length = k ∧ Hid (vs.map nb = (List.range k).map (secret (nb seed))) ∧ Hid (wr.ownsRow (N + 1) 9 1 x k (strV vs)) ∧ Hid (Below (N + 1) W wr)) (fun _ y _ => C - (intOf y).toNat)
  case atStart => exact ⟨0, [], by omega, rfl, rfl, rfl, own_nil, Below.refl _ _⟩
  case round =>
    obtain ⟨k, vs, hk, rfl, hvl, HVS, HOW, HBE⟩ := hrel
    have HVL := Lib.hid hvl
    clear hvl
    have hwS : IntKind.i64.wrap ((m0 : Int) + (k0 : Int)) = (m0 : Int) + (k0 : Int) := by rw [IntKind.wrap_i64]; omega
    obtain ⟨c0, c1⟩ := HCE.out wr HBE.out
    go_upto_region 3 with fail
    refine Kit.wp_region_gplan (fun V => V.cell? ⟨N, 0, none⟩ = some (.int .i64 (b : Int)) ∧ V.cell? ⟨N, 1, none⟩ = some (.int .i64 (n : Int))) [(true, 0), (true, 1), (true, 3), (false, 2), (false, 4), (true, 5), (true, 6)] (by kernel_rfl) (by kernel_rfl) (by kernel_rfl) (by kernel_rfl) ⟨c0, c1⟩ ?_
    iterate 3 (refine Kit.gplan_head (by rfl) (.inl ⟨by rfl, fun w' hS => by (dsimp only at hS); go_simp; (try with_reducible rfl)⟩) ?_; simp only [Act.put, List.setIfInBounds_toArray, List.set_cons_zero, List.set_cons_succ])
    clear c0 c1
    refine Kit.gplan_op (by rfl) (by rfl) fun K hK => ?_
    go_simp
    go_at_call 25
    refine (HMA.out _).mono ?_
    rintro e w2 ⟨m1, rfl, hm1, h2⟩
    rw [HME.out] at hm1
    have hm2 := hm1.symm
    subst hm2
    have H2 : Hid (Below (N + 1) W w2) := Lib.hid (HST.out _ _ HBE.out ((Below.refl _ wr).drew.trans h2))
    have HO2 : Hid (w2.ownsRow (N + 1) 9 1 u5 k (strV vs)) := Lib.hid (own_later HOW.out ((Below.refl _ wr).drew.trans h2))
    clear h2 hm1
    refine hK _ _ (HCE.out _ H2.out) ?_
    clear hK K
    refine Kit.gplan_op (by rfl) (by rfl) fun K hK => ?_
    go_simp
    go_at_call 26
    refine (HCK.out _).mono ?_
    rintro e w3 ⟨k1, rfl, hk1, h3⟩
    rw [HKE.out] at hk1
    have hk2 := hk1.symm
    subst hk2
    have H3 : Hid (Below (N + 1) W w3) := Lib.hid (HST.out _ _ H2.out h3)
    have HO3 : Hid (w3.ownsRow (N + 1) 9 1 u5 k (strV vs)) := Lib.hid (own_later HO2.out h3)
    clear h3 hk1
    refine hK _ _ (HCE.out _ H3.out) ?_
    clear hK K
    iterate 2 (refine Kit.gplan_head (by rfl) (.inl ⟨by rfl, fun w' hS => by (dsimp only at hS); go_simp; (try with_reducible rfl)⟩) ?_; simp only [Act.put, List.setIfInBounds_toArray, List.set_cons_zero, List.set_cons_succ])
    refine Kit.gplan_done ?_
    (try simp only [Act.put, List.setIfInBounds_toArray, List.set_cons_zero, List.set_cons_succ])
    by_cases hlt : k < C
    · have hki : (k : Int) < (m0 : Int) + (k0 : Int) := by have := HKM.out; omega
      go_upto_region 4 with (first
        | (go_at_call 31
           (refine (HSE.out k (by omega) _).mono ?_)
           rintro e w4 ⟨y, rfl, hy, h4⟩
           have HY := Lib.hid hy
           have H4 : Hid (Below (N + 1) W w4) := Lib.hid (HST.out _ _ H3.out h4)
           have HO4 : Hid (w4.ownsRow (N + 1) 9 1 u5 k (strV vs)) := Lib.hid (own_later HO3.out h4)
           clear h4 hy)
        | (at_builtin
           refine app_str rfl _ _ rfl (N + 1) _ k vs (by rfl) HO4.out (by have := H4.out.size; have := HWN.out; omega) (by omega) y 1 (by rfl) ?_
           intro v5 w5 ho5 hb5
           have HO5 := Lib.hid ho5
           have H5 : Hid (Below (N + 1) W w5) := Lib.hid (H4.out.trans hb5)
           clear ho5 hb5))
      go_wp2_with fail
      go_roundw
      case rel =>
        refine ⟨k + 1, vs ++ [y], hlt, by go_num, by rw [List.length_append, HVL.out]; rfl, ?_, HO5.out, H5.out⟩
        show _ = _
        rw [List.map_append, HVS.out, range_snoc]
        simp [HY.out]
      case measure => simp [intOf]; omega
    · have hki : ¬ (k : Int) < (m0 : Int) + (k0 : Int) := by have := HKM.out; omega
      have hke : k = C := by omega
      have HKC := Lib.hid hke
      clear hke
      go_wp2_with fail
      go_ret
      rw [← HKC.out]
      exact ⟨_, rfl, vs, HVS.out, by rw [HN.out]; exact ownsRow_base HO3.out (Nat.le_succ N), by rw [HN.out]; exact HB.out.trans (H3.out.mono (Nat.le_succ N))⟩
end Go.Proofs.YtmnendoloankgaaDoor
