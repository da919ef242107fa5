/- The law Digits, walked. -/
import Derived.Test.YtmnendoloankgaaDoorPlg
namespace Go.Proofs.YtmnendoloankgaaDoor
set_option linter.unusedVariables false
set_option linter.unusedSimpArgs false
open Go.RowKit
open Kit (Chg)
open Sha (v)
open Go.Proofs.YtmnendoloankgaaDoor.One

set_option maxRecDepth 100000 in
set_option maxHeartbeats 4000000 in
/-- Invalid parameters. -/
theorem digits_wayA (B S : Int) (p q : ByteArray) (hV : ¬ VP B S) (w : World) (hL : Laid w) :
    Calls Tryd.prog 3 #[.agg #[.int .i64 B, .int .i64 S], .string p, .string q] w fun e w' => e = .returned (.bool true) ∧ Below w.heap.size w w' := by
  have HL := Lib.hid hL
  have HDG := Lib.hid (fun w => digits_bad B S p (fun h => hV h.1) w)
  have HCV := Lib.hid (fun w => covers_bad B S p q (fun h => hV h.1) w)
  have HRV := Lib.hid (fun w => refValid_any B S w)
  have HVA := Lib.hid (fun w => valid_any B S w)
  have HCH := Lib.hid (fun w => chains_bad B S hV w)
  rw [decide_eq_false hV] at HRV HVA
  clear hL hV
  go_enter Tryd.func3, Tryd.ntmps3
  go_upto_region 1 with fail
  refine wp_over (fun W => Hid (W.heap[w.heap.size]? = some (.cells #[.int .i64 (B), .int .i64 (S)] 23 (0, 0))) ∧ Hid (Below w.heap.size w W)) ⟨heap_alloc_new _ _, (Below.refl _ _).alloc (Nat.le_refl _) _⟩ ?_
  rintro W ⟨HG, HB⟩
  obtain ⟨N, hN⟩ := ex_eq w.heap.size
  rw [hN] at HG HB ⊢
  have HN := Lib.hid hN
  clear hN
  have HWN : Hid (N + 1 ≤ W.heap.size) := Lib.hid (Array.getElem?_eq_some_iff.1 HG.out).1
  go_upto_region 3 with (first
    | (with_reducible refine (awake12 _ (HL.out.later HB.out (by rw [HN.out]; exact Nat.le_refl _))).mono ?_
       rintro e w1 ⟨rfl, h1⟩
       have H1 := Lib.hid (h1.mono HWN.out)
       clear h1))
  have hg1 := (H1.out.block N (Nat.lt_succ_self _)).trans HG.out
  have c0 : w1.cell? ⟨N, 0, none⟩ = some (.int .i64 (B)) := (cell_of_row _ _ _ _ _ _ hg1).trans rfl
  have c1 : w1.cell? ⟨N, 1, none⟩ = some (.int .i64 (S)) := (cell_of_row _ _ _ _ _ _ hg1).trans rfl
  have HG1 := Lib.hid hg1
  clear hg1
  go_upto_region 4 with (first
    | (with_reducible refine (params_any (B) (S) _).mono ?_
       rintro e w2 ⟨rfl, h2⟩
       have H2 := Lib.hid h2
       clear h2))
  clear c0 c1
  refine wp_over (fun X => Hid (X.heap[w2.heap.size]? = some (.cells #[.int .i64 (B), .int .i64 (S)] 25 (0, 0))) ∧ Hid (Below w2.heap.size w2 X)) ⟨heap_alloc_new _ _, (Below.refl _ _).alloc (Nat.le_refl _) _⟩ ?_
  rintro X ⟨HGX, HBX⟩
  have HN2 : Hid (N + 1 ≤ w2.heap.size) := Lib.hid (by have := HWN.out; have := H1.out.size; have := H2.out.size; omega)
  have HG2 : Hid (X.heap[N]? = some (.cells #[.int .i64 (B), .int .i64 (S)] 23 (0, 0))) := Lib.hid ((HBX.out.block N (by have := HN2.out; omega)).trans ((H2.out.block N (by have := HWN.out; have := H1.out.size; omega)).trans HG1.out))
  have HBN : Hid (Below N w X) := Lib.hid (HB.out.trans ((H1.out.mono (Nat.le_succ N)).trans ((H2.out.mono (by have := HWN.out; have := H1.out.size; omega)).trans (HBX.out.mono (by have := HN2.out; omega)))))
  obtain ⟨M, hM⟩ := ex_eq w2.heap.size
  rw [hM] at HGX HBX HN2 ⊢
  have HXM : Hid (M + 1 ≤ X.heap.size) := Lib.hid (Array.getElem?_eq_some_iff.1 HGX.out).1
  clear hM HG HB HWN H1 HG1 H2 HBX
  have HCE : Hid (∀ V, Below (M + 1) X V → V.cell? ⟨N, 0, none⟩ = some (.int .i64 (B)) ∧ V.cell? ⟨N, 1, none⟩ = some (.int .i64 (S)) ∧ V.cell? ⟨M, 0, none⟩ = some (.int .i64 (B)) ∧ V.cell? ⟨M, 1, none⟩ = some (.int .i64 (S))) := Lib.hid (fun V h => by
    have hg := (h.block N (by have := HN2.out; omega)).trans HG2.out
    have hg2 := (h.block M (Nat.lt_succ_self _)).trans HGX.out
    exact ⟨(cell_of_row _ _ _ _ _ _ hg).trans rfl, (cell_of_row _ _ _ _ _ _ hg).trans rfl, (cell_of_row _ _ _ _ _ _ hg2).trans rfl, (cell_of_row _ _ _ _ _ _ hg2).trans rfl⟩)
  have HST : Hid (∀ V V', Below (M + 1) X V → Below V.heap.size V V' → Below (M + 1) X V') := Lib.hid (fun V V' h h' => h.trans (h'.mono (by have := h.size; have := HXM.out; omega)))
  have HEND : Hid (∀ V, Below (M + 1) X V → Below w.heap.size w V) := Lib.hid (fun V h => by rw [HN.out]; exact HBN.out.trans (h.mono (by have := HN2.out; omega)))
  obtain ⟨c0, c1, c2, c3⟩ := HCE.out X (Below.refl _ _)
  go_upto_region 5 with (first
    | (with_reducible refine (HDG.out _).mono ?_
       rintro e w4 ⟨rfl, h4⟩
       have H4 := Lib.hid (HST.out _ _ (Below.refl _ _) h4)
       clear h4 c0 c1 c2 c3
       obtain ⟨c0, c1, c2, c3⟩ := HCE.out w4 H4.out))
  go_upto_region 6 with (first
    | (with_reducible refine (HCV.out _).mono ?_
       rintro e w5 ⟨rfl, h5⟩
       have H5 := Lib.hid (HST.out _ _ H4.out h5)
       clear h5 c0 c1 c2 c3
       obtain ⟨c0, c1, c2, c3⟩ := HCE.out w5 H5.out))
  go_wp2_with (first
    | (go_at_call 22
       (with_reducible refine (HRV.out _).mono ?_)
       rintro e w6 ⟨rfl, h6⟩
       have H6 := Lib.hid (HST.out _ _ H5.out h6)
       clear h6 c0 c1 c2 c3
       obtain ⟨c0, c1, c2, c3⟩ := HCE.out w6 H6.out)
    | (go_at_call 23
       (with_reducible refine (HVA.out _).mono ?_)
       rintro e w7 ⟨rfl, h7⟩
       have H7 := Lib.hid (HST.out _ _ H6.out h7)
       clear h7 c0 c1 c2 c3
       obtain ⟨c0, c1, c2, c3⟩ := HCE.out w7 H7.out)
    | (go_at_call 24
       (with_reducible refine (HCH.out _).mono ?_)
       rintro e w8 ⟨rfl, h8⟩
       have H8 := Lib.hid (HST.out _ _ H7.out h8)
       clear h8 c0 c1 c2 c3))
  go_ret
  exact ⟨rfl, HEND.out _ H8.out⟩
set_option maxRecDepth 100000 in
set_option maxHeartbeats 4000000 in
/-- Valid parameters, a digest of another length. -/
theorem digits_wayB (b n : Nat) (hB : Bits b) (hn : 0 < n) (hn2 : n ≤ 32) (p q : ByteArray) (hp : p.size ≠ n) (w : World) (hL : Laid w) :
    Calls Tryd.prog 3 #[.agg #[.int .i64 (b : Int), .int .i64 (n : Int)], .string p, .string q] w fun e w' => e = .returned (.bool true) ∧ Below w.heap.size w w' := by
  have HDG := Lib.hid (fun w => digits_bad (b : Int) (n : Int) p (fun h => hp (by have := h.2; omega)) w)
  have HCV := Lib.hid (fun w => covers_bad (b : Int) (n : Int) p q (fun h => hp (by have := h.2.1; omega)) w)
  have hpn : ((p.size : Int) != (n : Int)) = true := by rw [bne_iff_ne]; omega
  have HL := Lib.hid hL
  have HRV := Lib.hid (fun w => refValid_any (b : Int) (n : Int) w)
  have HVA := Lib.hid (fun w => valid_any (b : Int) (n : Int) w)
  rw [decide_eq_true (vp_of hB hn hn2)] at HRV HVA
  have HCH := Lib.hid (fun w => chains_ok b n hB hn hn2 w)
  have HMA := Lib.hid (fun w => main_any b n hB hn2 w)
  have HCK := Lib.hid (fun w => check_any b n hB hn hn2 w)
  have HKM : Hid (count b n = 8 * n / b + cnt b (great b n)) := rfl
  have hK := count_le hB hn2
  have hKp := count_pos (n := n) hB
  obtain ⟨K0, hKe⟩ := ex_eq (count b n)
  obtain ⟨m0, hme⟩ := ex_eq (8 * n / b)
  obtain ⟨k0, hke⟩ := ex_eq (cnt b (great b n))
  rw [hKe, hme, hke] at HKM
  rw [hKe] at hK hKp
  have HKE := Lib.hid hKe
  have HME := Lib.hid hme
  have HKE2 := Lib.hid hke
  have hm256 : m0 ≤ 269 := by have := HKM.out; omega
  have hk256 : k0 ≤ 269 := by have := HKM.out; omega
  clear hKe hme hke
  clear hL hB hn hn2 hp
  go_enter Tryd.func3, Tryd.ntmps3
  go_upto_region 1 with fail
  refine wp_over (fun W => Hid (W.heap[w.heap.size]? = some (.cells #[.int .i64 (b : Int), .int .i64 (n : Int)] 23 (0, 0))) ∧ Hid (Below w.heap.size w W)) ⟨heap_alloc_new _ _, (Below.refl _ _).alloc (Nat.le_refl _) _⟩ ?_
  rintro W ⟨HG, HB⟩
  obtain ⟨N, hN⟩ := ex_eq w.heap.size
  rw [hN] at HG HB ⊢
  have HN := Lib.hid hN
  clear hN
  have HWN : Hid (N + 1 ≤ W.heap.size) := Lib.hid (Array.getElem?_eq_some_iff.1 HG.out).1
  go_upto_region 3 with (first
    | (with_reducible refine (awake12 _ (HL.out.later HB.out (by rw [HN.out]; exact Nat.le_refl _))).mono ?_
       rintro e w1 ⟨rfl, h1⟩
       have H1 := Lib.hid (h1.mono HWN.out)
       clear h1))
  have hg1 := (H1.out.block N (Nat.lt_succ_self _)).trans HG.out
  have c0 : w1.cell? ⟨N, 0, none⟩ = some (.int .i64 (b : Int)) := (cell_of_row _ _ _ _ _ _ hg1).trans rfl
  have c1 : w1.cell? ⟨N, 1, none⟩ = some (.int .i64 (n : Int)) := (cell_of_row _ _ _ _ _ _ hg1).trans rfl
  have HG1 := Lib.hid hg1
  clear hg1
  go_upto_region 4 with (first
    | (with_reducible refine (params_any (b : Int) (n : Int) _).mono ?_
       rintro e w2 ⟨rfl, h2⟩
       have H2 := Lib.hid h2
       clear h2))
  clear c0 c1
  refine wp_over (fun X => Hid (X.heap[w2.heap.size]? = some (.cells #[.int .i64 (b : Int), .int .i64 (n : Int)] 25 (0, 0))) ∧ Hid (Below w2.heap.size w2 X)) ⟨heap_alloc_new _ _, (Below.refl _ _).alloc (Nat.le_refl _) _⟩ ?_
  rintro X ⟨HGX, HBX⟩
  have HN2 : Hid (N + 1 ≤ w2.heap.size) := Lib.hid (by have := HWN.out; have := H1.out.size; have := H2.out.size; omega)
  have HG2 : Hid (X.heap[N]? = some (.cells #[.int .i64 (b : Int), .int .i64 (n : Int)] 23 (0, 0))) := Lib.hid ((HBX.out.block N (by have := HN2.out; omega)).trans ((H2.out.block N (by have := HWN.out; have := H1.out.size; omega)).trans HG1.out))
  have HBN : Hid (Below N w X) := Lib.hid (HB.out.trans ((H1.out.mono (Nat.le_succ N)).trans ((H2.out.mono (by have := HWN.out; have := H1.out.size; omega)).trans (HBX.out.mono (by have := HN2.out; omega)))))
  obtain ⟨M, hM⟩ := ex_eq w2.heap.size
  rw [hM] at HGX HBX HN2 ⊢
  have HXM : Hid (M + 1 ≤ X.heap.size) := Lib.hid (Array.getElem?_eq_some_iff.1 HGX.out).1
  clear hM HG HB HWN H1 HG1 H2 HBX
  have HCE : Hid (∀ V, Below (M + 1) X V → V.cell? ⟨N, 0, none⟩ = some (.int .i64 (b : Int)) ∧ V.cell? ⟨N, 1, none⟩ = some (.int .i64 (n : Int)) ∧ V.cell? ⟨M, 0, none⟩ = some (.int .i64 (b : Int)) ∧ V.cell? ⟨M, 1, none⟩ = some (.int .i64 (n : Int))) := Lib.hid (fun V h => by
    have hg := (h.block N (by have := HN2.out; omega)).trans HG2.out
    have hg2 := (h.block M (Nat.lt_succ_self _)).trans HGX.out
    exact ⟨(cell_of_row _ _ _ _ _ _ hg).trans rfl, (cell_of_row _ _ _ _ _ _ hg).trans rfl, (cell_of_row _ _ _ _ _ _ hg2).trans rfl, (cell_of_row _ _ _ _ _ _ hg2).trans rfl⟩)
  have HST : Hid (∀ V V', Below (M + 1) X V → Below V.heap.size V V' → Below (M + 1) X V') := Lib.hid (fun V V' h h' => h.trans (h'.mono (by have := h.size; have := HXM.out; omega)))
  have HEND : Hid (∀ V, Below (M + 1) X V → Below w.heap.size w V) := Lib.hid (fun V h => by rw [HN.out]; exact HBN.out.trans (h.mono (by have := HN2.out; omega)))
  obtain ⟨c0, c1, c2, c3⟩ := HCE.out X (Below.refl _ _)
  go_upto_region 5 with (first
    | (with_reducible refine (HDG.out _).mono ?_
       rintro e w4 ⟨rfl, h4⟩
       have H4 := Lib.hid (HST.out _ _ (Below.refl _ _) h4)
       clear h4 c0 c1 c2 c3
       obtain ⟨c0, c1, c2, c3⟩ := HCE.out w4 H4.out))
  go_upto_region 6 with (first
    | (with_reducible refine (HCV.out _).mono ?_
       rintro e w5 ⟨rfl, h5⟩
       have H5 := Lib.hid (HST.out _ _ H4.out h5)
       skip
       clear h5 c0 c1 c2 c3
       obtain ⟨c0, c1, c2, c3⟩ := HCE.out w5 H5.out))
  go_upto_region 8 with (first
    | (go_at_call 22
       (with_reducible refine (HRV.out _).mono ?_)
       rintro e w6 ⟨rfl, h6⟩
       have H6 := Lib.hid (HST.out _ _ H5.out h6)
       skip
       clear h6 c0 c1 c2 c3))
  obtain ⟨c0, c1, c2, c3⟩ := HCE.out w6 H6.out
  refine Kit.wp_region_gplan (fun V => V.cell? ⟨N, 0, none⟩ = some (.int .i64 (b : Int)) ∧ V.cell? ⟨N, 1, none⟩ = some (.int .i64 (n : Int)) ∧ V.cell? ⟨M, 0, none⟩ = some (.int .i64 (b : Int)) ∧ V.cell? ⟨M, 1, none⟩ = some (.int .i64 (n : Int)))
    [(true, 0), (false, 1), (true, 2), (true, 3), (true, 4), (true, 6), (true, 8), (false, 5), (false, 7), (false, 9), (true, 10), (true, 11), (true, 12)] (by kernel_rfl) (by kernel_rfl) (by kernel_rfl) (by kernel_rfl) ⟨c0, c1, c2, c3⟩ ?_
  repeat (refine Kit.gplan_head (by rfl) (.inl ⟨by rfl, fun w' hS => by (dsimp only at hS); go_simp; (try with_reducible rfl)⟩) ?_; simp only [Act.put, List.setIfInBounds_toArray, List.set_cons_zero, List.set_cons_succ])
  clear c0 c1 c2 c3
  refine Kit.gplan_op (by rfl) (by rfl) fun K hK1 => ?_
  go_simp
  go_at_call 23
  refine (HVA.out _).mono ?_
  rintro e w7 ⟨rfl, h7⟩
  have H7 := Lib.hid (HST.out _ _ H6.out (show Below w6.heap.size w6 w7 from (Below.refl _ w6).drew.trans h7))
  skip
  clear h7
  refine hK1 _ _ (HCE.out _ H7.out) ?_
  clear hK1 K
  repeat (refine Kit.gplan_head (by rfl) (.inl ⟨by rfl, fun w' hS => by (dsimp only at hS); go_simp; (try with_reducible rfl)⟩) ?_; simp only [Act.put, List.setIfInBounds_toArray, List.set_cons_zero, List.set_cons_succ])
  refine Kit.gplan_op (by rfl) (by rfl) fun K hK1 => ?_
  go_simp
  go_at_call 24
  refine (HCH.out _).mono ?_
  rintro e w8 ⟨K1, rfl, hK1e, h8⟩
  rw [HKE.out] at hK1e
  have hK2e := hK1e.symm
  subst hK2e
  have H8 := Lib.hid (HST.out _ _ H7.out h8)
  skip
  clear h8
  refine hK1 _ _ (HCE.out _ H8.out) ?_
  clear hK1 K
  refine Kit.gplan_op (by rfl) (by rfl) fun K hK1 => ?_
  go_simp
  go_at_call 25
  refine (HMA.out _).mono ?_
  rintro e w9 ⟨m1, rfl, hm1e, h9⟩
  rw [HME.out] at hm1e
  have hm2e := hm1e.symm
  subst hm2e
  have H9 := Lib.hid (HST.out _ _ H8.out h9)
  skip
  clear h9
  refine hK1 _ _ (HCE.out _ H9.out) ?_
  clear hK1 K
  refine Kit.gplan_op (by rfl) (by rfl) fun K hK1 => ?_
  go_simp
  go_at_call 26
  refine (HCK.out _).mono ?_
  rintro e w10 ⟨k1, rfl, hk1e, h10⟩
  rw [HKE2.out] at hk1e
  have hk2e := hk1e.symm
  subst hk2e
  have H10 := Lib.hid (HST.out _ _ H9.out h10)
  skip
  clear h10
  refine hK1 _ _ (HCE.out _ H10.out) ?_
  clear hK1 K
  have hw1 : IntKind.i64.wrap ((m0 : Int) + (k0 : Int)) = (m0 : Int) + (k0 : Int) := by rw [IntKind.wrap_i64]; omega
  have hne1 : ((K0 : Int) != (m0 : Int) + (k0 : Int)) = false := by have := HKM.out; rw [bne_eq_false_iff_eq]; omega
  repeat (refine Kit.gplan_head (by rfl) (.inl ⟨by rfl, fun w' hS => by (dsimp only at hS); go_simp; (try with_reducible rfl)⟩) ?_; simp only [Act.put, List.setIfInBounds_toArray, List.set_cons_zero, List.set_cons_succ])
  refine Kit.gplan_done ?_
  (try simp only [Act.put, List.setIfInBounds_toArray, List.set_cons_zero, List.set_cons_succ])
  clear hw1 hne1
  obtain ⟨c0, c1, c2, c3⟩ := HCE.out w10 H10.out
  go_wp2_with fail
  go_ret
  exact ⟨rfl, HEND.out _ H10.out⟩
set_option maxRecDepth 100000 in
set_option maxHeartbeats 4000000 in
/-- Another digest of another length. -/
theorem digits_wayC (b : Nat) (p q : ByteArray) (hB : Bits b) (hn : 0 < p.size) (hn2 : p.size ≤ 32) (hq : q.size ≠ p.size) (w : World) (hL : Laid w) :
    Calls Tryd.prog 3 #[.agg #[.int .i64 (b : Int), .int .i64 (p.size : Int)], .string p, .string q] w fun e w' => e = .returned (.bool true) ∧ Below w.heap.size w w' := by
  have HDG := Lib.hid (fun w => digits_ok b p hB hn hn2 w)
  have HRD := Lib.hid (fun w => refDigits_any b p hB hn hn2 w)
  have HCV := Lib.hid (fun w => covers_bad (b : Int) (p.size : Int) p q (fun h => hq (by have := h.2.2; omega)) w)
  have hqn : ((q.size : Int) != (p.size : Int)) = true := by rw [bne_iff_ne]; omega
  have HDL : Hid ((One.digits b (nb p)).length ≤ 269) := Lib.hid (by rw [digits_length hB, nb_length]; exact count_le hB hn2)
  have HDB : Hid (∀ i, (One.digits b (nb p)).getD i 0 ≤ 4611686018427387904) := Lib.hid (fun i => by
    by_cases hi : i < (One.digits b (nb p)).length
    · have h1 := digits_lt b (nb p) _ (getD_mem _ i 0 hi)
      have h2 : 2 ^ b ≤ 256 := by rcases hB with rfl | rfl | rfl | rfl <;> decide
      omega
    · rw [List.getD_eq_getElem?_getD, List.getElem?_eq_none (by omega)]; exact Nat.zero_le _)
  obtain ⟨DG, hDG⟩ := ex_eq (One.digits b (nb p))
  rw [hDG] at HDG HRD HDL HDB
  clear hDG
  have HL := Lib.hid hL
  have HRV := Lib.hid (fun w => refValid_any (b : Int) (p.size : Int) w)
  have HVA := Lib.hid (fun w => valid_any (b : Int) (p.size : Int) w)
  rw [decide_eq_true (vp_of hB hn hn2)] at HRV HVA
  have HCH := Lib.hid (fun w => chains_ok b p.size hB hn hn2 w)
  have HMA := Lib.hid (fun w => main_any b p.size hB hn2 w)
  have HCK := Lib.hid (fun w => check_any b p.size hB hn hn2 w)
  have HKM : Hid (count b p.size = 8 * p.size / b + cnt b (great b p.size)) := rfl
  have hK := count_le hB hn2
  have hKp := count_pos (n := p.size) hB
  obtain ⟨K0, hKe⟩ := ex_eq (count b p.size)
  obtain ⟨m0, hme⟩ := ex_eq (8 * p.size / b)
  obtain ⟨k0, hke⟩ := ex_eq (cnt b (great b p.size))
  rw [hKe, hme, hke] at HKM
  rw [hKe] at hK hKp
  have HKE := Lib.hid hKe
  have HME := Lib.hid hme
  have HKE2 := Lib.hid hke
  have hm256 : m0 ≤ 269 := by have := HKM.out; omega
  have hk256 : k0 ≤ 269 := by have := HKM.out; omega
  clear hKe hme hke
  clear hL hB hn hn2 hq
  go_enter Tryd.func3, Tryd.ntmps3
  go_upto_region 1 with fail
  refine wp_over (fun W => Hid (W.heap[w.heap.size]? = some (.cells #[.int .i64 (b : Int), .int .i64 (p.size : Int)] 23 (0, 0))) ∧ Hid (Below w.heap.size w W)) ⟨heap_alloc_new _ _, (Below.refl _ _).alloc (Nat.le_refl _) _⟩ ?_
  rintro W ⟨HG, HB⟩
  obtain ⟨N, hN⟩ := ex_eq w.heap.size
  rw [hN] at HG HB ⊢
  have HN := Lib.hid hN
  clear hN
  have HWN : Hid (N + 1 ≤ W.heap.size) := Lib.hid (Array.getElem?_eq_some_iff.1 HG.out).1
  go_upto_region 3 with (first
    | (with_reducible refine (awake12 _ (HL.out.later HB.out (by rw [HN.out]; exact Nat.le_refl _))).mono ?_
       rintro e w1 ⟨rfl, h1⟩
       have H1 := Lib.hid (h1.mono HWN.out)
       clear h1))
  have hg1 := (H1.out.block N (Nat.lt_succ_self _)).trans HG.out
  have c0 : w1.cell? ⟨N, 0, none⟩ = some (.int .i64 (b : Int)) := (cell_of_row _ _ _ _ _ _ hg1).trans rfl
  have c1 : w1.cell? ⟨N, 1, none⟩ = some (.int .i64 (p.size : Int)) := (cell_of_row _ _ _ _ _ _ hg1).trans rfl
  have HG1 := Lib.hid hg1
  clear hg1
  go_upto_region 4 with (first
    | (with_reducible refine (params_any (b : Int) (p.size : Int) _).mono ?_
       rintro e w2 ⟨rfl, h2⟩
       have H2 := Lib.hid h2
       clear h2))
  clear c0 c1
  refine wp_over (fun X => Hid (X.heap[w2.heap.size]? = some (.cells #[.int .i64 (b : Int), .int .i64 (p.size : Int)] 25 (0, 0))) ∧ Hid (Below w2.heap.size w2 X)) ⟨heap_alloc_new _ _, (Below.refl _ _).alloc (Nat.le_refl _) _⟩ ?_
  rintro X ⟨HGX, HBX⟩
  have HN2 : Hid (N + 1 ≤ w2.heap.size) := Lib.hid (by have := HWN.out; have := H1.out.size; have := H2.out.size; omega)
  have HG2 : Hid (X.heap[N]? = some (.cells #[.int .i64 (b : Int), .int .i64 (p.size : Int)] 23 (0, 0))) := Lib.hid ((HBX.out.block N (by have := HN2.out; omega)).trans ((H2.out.block N (by have := HWN.out; have := H1.out.size; omega)).trans HG1.out))
  have HBN : Hid (Below N w X) := Lib.hid (HB.out.trans ((H1.out.mono (Nat.le_succ N)).trans ((H2.out.mono (by have := HWN.out; have := H1.out.size; omega)).trans (HBX.out.mono (by have := HN2.out; omega)))))
  obtain ⟨M, hM⟩ := ex_eq w2.heap.size
  rw [hM] at HGX HBX HN2 ⊢
  have HXM : Hid (M + 1 ≤ X.heap.size) := Lib.hid (Array.getElem?_eq_some_iff.1 HGX.out).1
  clear hM HG HB HWN H1 HG1 H2 HBX
  have HCE : Hid (∀ V, Below (M + 1) X V → V.cell? ⟨N, 0, none⟩ = some (.int .i64 (b : Int)) ∧ V.cell? ⟨N, 1, none⟩ = some (.int .i64 (p.size : Int)) ∧ V.cell? ⟨M, 0, none⟩ = some (.int .i64 (b : Int)) ∧ V.cell? ⟨M, 1, none⟩ = some (.int .i64 (p.size : Int))) := Lib.hid (fun V h => by
    have hg := (h.block N (by have := HN2.out; omega)).trans HG2.out
    have hg2 := (h.block M (Nat.lt_succ_self _)).trans HGX.out
    exact ⟨(cell_of_row _ _ _ _ _ _ hg).trans rfl, (cell_of_row _ _ _ _ _ _ hg).trans rfl, (cell_of_row _ _ _ _ _ _ hg2).trans rfl, (cell_of_row _ _ _ _ _ _ hg2).trans rfl⟩)
  have HST : Hid (∀ V V', Below (M + 1) X V → Below V.heap.size V V' → Below (M + 1) X V') := Lib.hid (fun V V' h h' => h.trans (h'.mono (by have := h.size; have := HXM.out; omega)))
  have HEND : Hid (∀ V, Below (M + 1) X V → Below w.heap.size w V) := Lib.hid (fun V h => by rw [HN.out]; exact HBN.out.trans (h.mono (by have := HN2.out; omega)))
  obtain ⟨c0, c1, c2, c3⟩ := HCE.out X (Below.refl _ _)
  go_upto_region 5 with (first
    | (with_reducible refine (HDG.out _).mono ?_
       rintro e w4 ⟨x, L, rfl, hLe, hown, h4⟩
       obtain ⟨a4, cp4, rfl, hl4, hc4, hI4, hnil4⟩ := own_ints hown
       have HI4 := Lib.hid hI4
       have HL4 := Lib.hid hl4
       clear hLe hown hl4 hc4 hI4 hnil4
       have H4 := Lib.hid (HST.out _ _ (Below.refl _ _) h4)
       clear h4 c0 c1 c2 c3
       obtain ⟨c0, c1, c2, c3⟩ := HCE.out w4 H4.out))
  go_upto_region 6 with (first
    | (with_reducible refine (HCV.out _).mono ?_
       rintro e w5 ⟨rfl, h5⟩
       have H5 := Lib.hid (HST.out _ _ H4.out h5)
       have HI5 := Lib.hid (HI4.out.later h5)
       clear h5 c0 c1 c2 c3
       obtain ⟨c0, c1, c2, c3⟩ := HCE.out w5 H5.out))
  go_upto_region 8 with (first
    | (go_at_call 22
       (with_reducible refine (HRV.out _).mono ?_)
       rintro e w6 ⟨rfl, h6⟩
       have H6 := Lib.hid (HST.out _ _ H5.out h6)
       have HI6 := Lib.hid (HI5.out.later h6)
       clear h6 c0 c1 c2 c3))
  obtain ⟨c0, c1, c2, c3⟩ := HCE.out w6 H6.out
  refine Kit.wp_region_gplan (fun V => V.cell? ⟨N, 0, none⟩ = some (.int .i64 (b : Int)) ∧ V.cell? ⟨N, 1, none⟩ = some (.int .i64 (p.size : Int)) ∧ V.cell? ⟨M, 0, none⟩ = some (.int .i64 (b : Int)) ∧ V.cell? ⟨M, 1, none⟩ = some (.int .i64 (p.size : Int)))
    [(true, 0), (false, 1), (true, 2), (true, 3), (true, 4), (true, 6), (true, 8), (false, 5), (false, 7), (false, 9), (true, 10), (true, 11), (true, 12)] (by kernel_rfl) (by kernel_rfl) (by kernel_rfl) (by kernel_rfl) ⟨c0, c1, c2, c3⟩ ?_
  repeat (refine Kit.gplan_head (by rfl) (.inl ⟨by rfl, fun w' hS => by (dsimp only at hS); go_simp; (try with_reducible rfl)⟩) ?_; simp only [Act.put, List.setIfInBounds_toArray, List.set_cons_zero, List.set_cons_succ])
  clear c0 c1 c2 c3
  refine Kit.gplan_op (by rfl) (by rfl) fun K hK1 => ?_
  go_simp
  go_at_call 23
  refine (HVA.out _).mono ?_
  rintro e w7 ⟨rfl, h7⟩
  have H7 := Lib.hid (HST.out _ _ H6.out (show Below w6.heap.size w6 w7 from (Below.refl _ w6).drew.trans h7))
  have HI7 := Lib.hid (HI6.out.later (show Below w6.heap.size w6 w7 from (Below.refl _ w6).drew.trans h7))
  clear h7
  refine hK1 _ _ (HCE.out _ H7.out) ?_
  clear hK1 K
  repeat (refine Kit.gplan_head (by rfl) (.inl ⟨by rfl, fun w' hS => by (dsimp only at hS); go_simp; (try with_reducible rfl)⟩) ?_; simp only [Act.put, List.setIfInBounds_toArray, List.set_cons_zero, List.set_cons_succ])
  refine Kit.gplan_op (by rfl) (by rfl) fun K hK1 => ?_
  go_simp
  go_at_call 24
  refine (HCH.out _).mono ?_
  rintro e w8 ⟨K1, rfl, hK1e, h8⟩
  rw [HKE.out] at hK1e
  have hK2e := hK1e.symm
  subst hK2e
  have H8 := Lib.hid (HST.out _ _ H7.out h8)
  have HI8 := Lib.hid (HI7.out.later h8)
  clear h8
  refine hK1 _ _ (HCE.out _ H8.out) ?_
  clear hK1 K
  refine Kit.gplan_op (by rfl) (by rfl) fun K hK1 => ?_
  go_simp
  go_at_call 25
  refine (HMA.out _).mono ?_
  rintro e w9 ⟨m1, rfl, hm1e, h9⟩
  rw [HME.out] at hm1e
  have hm2e := hm1e.symm
  subst hm2e
  have H9 := Lib.hid (HST.out _ _ H8.out h9)
  have HI9 := Lib.hid (HI8.out.later h9)
  clear h9
  refine hK1 _ _ (HCE.out _ H9.out) ?_
  clear hK1 K
  refine Kit.gplan_op (by rfl) (by rfl) fun K hK1 => ?_
  go_simp
  go_at_call 26
  refine (HCK.out _).mono ?_
  rintro e w10 ⟨k1, rfl, hk1e, h10⟩
  rw [HKE2.out] at hk1e
  have hk2e := hk1e.symm
  subst hk2e
  have H10 := Lib.hid (HST.out _ _ H9.out h10)
  have HI10 := Lib.hid (HI9.out.later h10)
  clear h10
  refine hK1 _ _ (HCE.out _ H10.out) ?_
  clear hK1 K
  have hw1 : IntKind.i64.wrap ((m0 : Int) + (k0 : Int)) = (m0 : Int) + (k0 : Int) := by rw [IntKind.wrap_i64]; omega
  have hne1 : ((K0 : Int) != (m0 : Int) + (k0 : Int)) = false := by have := HKM.out; rw [bne_eq_false_iff_eq]; omega
  repeat (refine Kit.gplan_head (by rfl) (.inl ⟨by rfl, fun w' hS => by (dsimp only at hS); go_simp; (try with_reducible rfl)⟩) ?_; simp only [Act.put, List.setIfInBounds_toArray, List.set_cons_zero, List.set_cons_succ])
  refine Kit.gplan_done ?_
  (try simp only [Act.put, List.setIfInBounds_toArray, List.set_cons_zero, List.set_cons_succ])
  clear hw1 hne1
  obtain ⟨c0, c1, c2, c3⟩ := HCE.out w10 H10.out
  go_upto_region 13 with (first
    | (with_reducible refine (HRD.out _).mono ?_
       rintro e w11 ⟨y, L2, rfl, hLe2, hown, h11⟩
       obtain ⟨a11, cp11, rfl, hl11, hc11, hI11, hnil11⟩ := own_ints hown
       have HJ11 := Lib.hid hI11
       have HL11 := Lib.hid hl11
       have H11 := Lib.hid (HST.out _ _ H10.out h11)
       have HI11 := Lib.hid (HI10.out.later h11)
       clear hLe2 hown hl11 hc11 hI11 hnil11 h11 c0 c1 c2 c3))
  obtain ⟨c0, c1, c2, c3⟩ := HCE.out w11 H11.out
  go_wp2_with (first
    | (with_reducible refine (same_any a4 a11 cp4 cp11 L L2 DG DG HL4.out HL11.out (by have := HL4.out; have := HDL.out; omega) (by have := HL11.out; have := HDL.out; omega) w11 HI11.out HJ11.out (fun i => ⟨HDB.out i, HDB.out i⟩)).mono ?_
       rintro e w12 ⟨rfl, h12⟩
       rw [decide_eq_true (rfl : DG = DG)]
       have H12 := Lib.hid (HST.out _ _ H11.out h12)
       clear h12 c0 c1 c2 c3
       obtain ⟨c0, c1, c2, c3⟩ := HCE.out w12 H12.out))
  go_ret
  exact ⟨rfl, HEND.out _ H12.out⟩
theorem dig_small {b : Nat} (hB : Bits b) (l : List Nat) : ∀ i, (One.digits b l).getD i 0 ≤ 4611686018427387904 := fun i => by
  by_cases hi : i < (One.digits b l).length
  · have h1 := digits_lt b l _ (getD_mem _ i 0 hi)
    have h2 : 2 ^ b ≤ 256 := by rcases hB with rfl | rfl | rfl | rfl <;> decide
    omega
  · rw [List.getD_eq_getElem?_getD, List.getElem?_eq_none (by omega)]; exact Nat.zero_le _
set_option maxRecDepth 100000 in
set_option maxHeartbeats 4000000 in
/-- Two digests of the right length. -/
theorem digits_wayD (b : Nat) (p q : ByteArray) (hB : Bits b) (hn : 0 < p.size) (hn2 : p.size ≤ 32) (hq : q.size = p.size) (w : World) (hL : Laid w) :
    Calls Tryd.prog 3 #[.agg #[.int .i64 (b : Int), .int .i64 (p.size : Int)], .string p, .string q] w fun e w' => e = .returned (.bool true) ∧ Below w.heap.size w w' := by
  have HDG := Lib.hid (fun w => digits_ok b p hB hn hn2 w)
  have HRD := Lib.hid (fun w => refDigits_any b p hB hn hn2 w)
  have hrq := fun w => refDigits_any b q hB (by omega) (by omega) w
  rw [hq] at hrq
  have HRQ := Lib.hid hrq
  have HCV := Lib.hid (fun w => covers_ok b p q hB hn hn2 hq w)
  have hqn : ((q.size : Int) != (p.size : Int)) = false := by rw [bne_eq_false_iff_eq]; omega
  have HDL : Hid ((One.digits b (nb p)).length = count b p.size) := Lib.hid (by rw [digits_length hB, nb_length])
  have HQL : Hid ((One.digits b (nb q)).length = count b p.size) := Lib.hid (by rw [digits_length hB, nb_length, hq])
  have HDB := Lib.hid (dig_small hB (nb p))
  obtain ⟨DG, hDG⟩ := ex_eq (One.digits b (nb p))
  obtain ⟨DQ, hDQ⟩ := ex_eq (One.digits b (nb q))
  rw [hDG] at HDG HRD HDL HDB HCV
  rw [hDQ] at HRQ HQL HCV
  obtain ⟨cv, hcv⟩ := ex_eq (decide (Cov DG DQ))
  rw [hcv] at HCV
  have HCVE := Lib.hid hcv
  clear hDG hDQ hrq hcv
  have HL := Lib.hid hL
  have HRV := Lib.hid (fun w => refValid_any (b : Int) (p.size : Int) w)
  have HVA := Lib.hid (fun w => valid_any (b : Int) (p.size : Int) w)
  rw [decide_eq_true (vp_of hB hn hn2)] at HRV HVA
  have HCH := Lib.hid (fun w => chains_ok b p.size hB hn hn2 w)
  have HMA := Lib.hid (fun w => main_any b p.size hB hn2 w)
  have HCK := Lib.hid (fun w => check_any b p.size hB hn hn2 w)
  have HKM : Hid (count b p.size = 8 * p.size / b + cnt b (great b p.size)) := rfl
  have hK := count_le hB hn2
  have hKp := count_pos (n := p.size) hB
  obtain ⟨K0, hKe⟩ := ex_eq (count b p.size)
  obtain ⟨m0, hme⟩ := ex_eq (8 * p.size / b)
  obtain ⟨k0, hke⟩ := ex_eq (cnt b (great b p.size))
  rw [hKe, hme, hke] at HKM
  rw [hKe] at hK hKp
  have HKE := Lib.hid hKe
  have HME := Lib.hid hme
  have HKE2 := Lib.hid hke
  have hm256 : m0 ≤ 269 := by have := HKM.out; omega
  have hk256 : k0 ≤ 269 := by have := HKM.out; omega
  clear hKe hme hke
  rw [HKE.out] at HDL HQL
  clear hL hB hn hn2 hq
  go_enter Tryd.func3, Tryd.ntmps3
  go_upto_region 1 with fail
  refine wp_over (fun W => Hid (W.heap[w.heap.size]? = some (.cells #[.int .i64 (b : Int), .int .i64 (p.size : Int)] 23 (0, 0))) ∧ Hid (Below w.heap.size w W)) ⟨heap_alloc_new _ _, (Below.refl _ _).alloc (Nat.le_refl _) _⟩ ?_
  rintro W ⟨HG, HB⟩
  obtain ⟨N, hN⟩ := ex_eq w.heap.size
  rw [hN] at HG HB ⊢
  have HN := Lib.hid hN
  clear hN
  have HWN : Hid (N + 1 ≤ W.heap.size) := Lib.hid (Array.getElem?_eq_some_iff.1 HG.out).1
  go_upto_region 3 with (first
    | (with_reducible refine (awake12 _ (HL.out.later HB.out (by rw [HN.out]; exact Nat.le_refl _))).mono ?_
       rintro e w1 ⟨rfl, h1⟩
       have H1 := Lib.hid (h1.mono HWN.out)
       clear h1))
  have hg1 := (H1.out.block N (Nat.lt_succ_self _)).trans HG.out
  have c0 : w1.cell? ⟨N, 0, none⟩ = some (.int .i64 (b : Int)) := (cell_of_row _ _ _ _ _ _ hg1).trans rfl
  have c1 : w1.cell? ⟨N, 1, none⟩ = some (.int .i64 (p.size : Int)) := (cell_of_row _ _ _ _ _ _ hg1).trans rfl
  have HG1 := Lib.hid hg1
  clear hg1
  go_upto_region 4 with (first
    | (with_reducible refine (params_any (b : Int) (p.size : Int) _).mono ?_
       rintro e w2 ⟨rfl, h2⟩
       have H2 := Lib.hid h2
       clear h2))
  clear c0 c1
  refine wp_over (fun X => Hid (X.heap[w2.heap.size]? = some (.cells #[.int .i64 (b : Int), .int .i64 (p.size : Int)] 25 (0, 0))) ∧ Hid (Below w2.heap.size w2 X)) ⟨heap_alloc_new _ _, (Below.refl _ _).alloc (Nat.le_refl _) _⟩ ?_
  rintro X ⟨HGX, HBX⟩
  have HN2 : Hid (N + 1 ≤ w2.heap.size) := Lib.hid (by have := HWN.out; have := H1.out.size; have := H2.out.size; omega)
  have HG2 : Hid (X.heap[N]? = some (.cells #[.int .i64 (b : Int), .int .i64 (p.size : Int)] 23 (0, 0))) := Lib.hid ((HBX.out.block N (by have := HN2.out; omega)).trans ((H2.out.block N (by have := HWN.out; have := H1.out.size; omega)).trans HG1.out))
  have HBN : Hid (Below N w X) := Lib.hid (HB.out.trans ((H1.out.mono (Nat.le_succ N)).trans ((H2.out.mono (by have := HWN.out; have := H1.out.size; omega)).trans (HBX.out.mono (by have := HN2.out; omega)))))
  obtain ⟨M, hM⟩ := ex_eq w2.heap.size
  rw [hM] at HGX HBX HN2 ⊢
  have HXM : Hid (M + 1 ≤ X.heap.size) := Lib.hid (Array.getElem?_eq_some_iff.1 HGX.out).1
  clear hM HG HB HWN H1 HG1 H2 HBX
  have HCE : Hid (∀ V, Below (M + 1) X V → V.cell? ⟨N, 0, none⟩ = some (.int .i64 (b : Int)) ∧ V.cell? ⟨N, 1, none⟩ = some (.int .i64 (p.size : Int)) ∧ V.cell? ⟨M, 0, none⟩ = some (.int .i64 (b : Int)) ∧ V.cell? ⟨M, 1, none⟩ = some (.int .i64 (p.size : Int))) := Lib.hid (fun V h => by
    have hg := (h.block N (by have := HN2.out; omega)).trans HG2.out
    have hg2 := (h.block M (Nat.lt_succ_self _)).trans HGX.out
    exact ⟨(cell_of_row _ _ _ _ _ _ hg).trans rfl, (cell_of_row _ _ _ _ _ _ hg).trans rfl, (cell_of_row _ _ _ _ _ _ hg2).trans rfl, (cell_of_row _ _ _ _ _ _ hg2).trans rfl⟩)
  have HST : Hid (∀ V V', Below (M + 1) X V → Below V.heap.size V V' → Below (M + 1) X V') := Lib.hid (fun V V' h h' => h.trans (h'.mono (by have := h.size; have := HXM.out; omega)))
  have HEND : Hid (∀ V, Below (M + 1) X V → Below w.heap.size w V) := Lib.hid (fun V h => by rw [HN.out]; exact HBN.out.trans (h.mono (by have := HN2.out; omega)))
  obtain ⟨c0, c1, c2, c3⟩ := HCE.out X (Below.refl _ _)
  go_upto_region 5 with (first
    | (with_reducible refine (HDG.out _).mono ?_
       rintro e w4 ⟨x, L, rfl, hLe, hown, h4⟩
       obtain ⟨a4, cp4, rfl, hl4, hc4, hI4, hnil4⟩ := own_ints hown
       have HI4 := Lib.hid hI4
       have HL4 := Lib.hid hl4
       clear hLe hown hl4 hc4 hI4 hnil4
       have H4 := Lib.hid (HST.out _ _ (Below.refl _ _) h4)
       clear h4 c0 c1 c2 c3
       obtain ⟨c0, c1, c2, c3⟩ := HCE.out w4 H4.out))
  go_upto_region 6 with (first
    | (with_reducible refine (HCV.out _).mono ?_
       rintro e w5 ⟨rfl, h5⟩
       have H5 := Lib.hid (HST.out _ _ H4.out h5)
       have HI5 := Lib.hid (HI4.out.later h5)
       clear h5 c0 c1 c2 c3
       obtain ⟨c0, c1, c2, c3⟩ := HCE.out w5 H5.out))
  go_upto_region 8 with (first
    | (go_at_call 22
       (with_reducible refine (HRV.out _).mono ?_)
       rintro e w6 ⟨rfl, h6⟩
       have H6 := Lib.hid (HST.out _ _ H5.out h6)
       have HI6 := Lib.hid (HI5.out.later h6)
       clear h6 c0 c1 c2 c3))
  obtain ⟨c0, c1, c2, c3⟩ := HCE.out w6 H6.out
  refine Kit.wp_region_gplan (fun V => V.cell? ⟨N, 0, none⟩ = some (.int .i64 (b : Int)) ∧ V.cell? ⟨N, 1, none⟩ = some (.int .i64 (p.size : Int)) ∧ V.cell? ⟨M, 0, none⟩ = some (.int .i64 (b : Int)) ∧ V.cell? ⟨M, 1, none⟩ = some (.int .i64 (p.size : Int)))
    [(true, 0), (false, 1), (true, 2), (true, 3), (true, 4), (true, 6), (true, 8), (false, 5), (false, 7), (false, 9), (true, 10), (true, 11), (true, 12)] (by kernel_rfl) (by kernel_rfl) (by kernel_rfl) (by kernel_rfl) ⟨c0, c1, c2, c3⟩ ?_
  repeat (refine Kit.gplan_head (by rfl) (.inl ⟨by rfl, fun w' hS => by (dsimp only at hS); go_simp; (try with_reducible rfl)⟩) ?_; simp only [Act.put, List.setIfInBounds_toArray, List.set_cons_zero, List.set_cons_succ])
  clear c0 c1 c2 c3
  refine Kit.gplan_op (by rfl) (by rfl) fun K hK1 => ?_
  go_simp
  go_at_call 23
  refine (HVA.out _).mono ?_
  rintro e w7 ⟨rfl, h7⟩
  have H7 := Lib.hid (HST.out _ _ H6.out (show Below w6.heap.size w6 w7 from (Below.refl _ w6).drew.trans h7))
  have HI7 := Lib.hid (HI6.out.later (show Below w6.heap.size w6 w7 from (Below.refl _ w6).drew.trans h7))
  clear h7
  refine hK1 _ _ (HCE.out _ H7.out) ?_
  clear hK1 K
  repeat (refine Kit.gplan_head (by rfl) (.inl ⟨by rfl, fun w' hS => by (dsimp only at hS); go_simp; (try with_reducible rfl)⟩) ?_; simp only [Act.put, List.setIfInBounds_toArray, List.set_cons_zero, List.set_cons_succ])
  refine Kit.gplan_op (by rfl) (by rfl) fun K hK1 => ?_
  go_simp
  go_at_call 24
  refine (HCH.out _).mono ?_
  rintro e w8 ⟨K1, rfl, hK1e, h8⟩
  rw [HKE.out] at hK1e
  have hK2e := hK1e.symm
  subst hK2e
  have H8 := Lib.hid (HST.out _ _ H7.out h8)
  have HI8 := Lib.hid (HI7.out.later h8)
  clear h8
  refine hK1 _ _ (HCE.out _ H8.out) ?_
  clear hK1 K
  refine Kit.gplan_op (by rfl) (by rfl) fun K hK1 => ?_
  go_simp
  go_at_call 25
  refine (HMA.out _).mono ?_
  rintro e w9 ⟨m1, rfl, hm1e, h9⟩
  rw [HME.out] at hm1e
  have hm2e := hm1e.symm
  subst hm2e
  have H9 := Lib.hid (HST.out _ _ H8.out h9)
  have HI9 := Lib.hid (HI8.out.later h9)
  clear h9
  refine hK1 _ _ (HCE.out _ H9.out) ?_
  clear hK1 K
  refine Kit.gplan_op (by rfl) (by rfl) fun K hK1 => ?_
  go_simp
  go_at_call 26
  refine (HCK.out _).mono ?_
  rintro e w10 ⟨k1, rfl, hk1e, h10⟩
  rw [HKE2.out] at hk1e
  have hk2e := hk1e.symm
  subst hk2e
  have H10 := Lib.hid (HST.out _ _ H9.out h10)
  have HI10 := Lib.hid (HI9.out.later h10)
  clear h10
  refine hK1 _ _ (HCE.out _ H10.out) ?_
  clear hK1 K
  have hw1 : IntKind.i64.wrap ((m0 : Int) + (k0 : Int)) = (m0 : Int) + (k0 : Int) := by rw [IntKind.wrap_i64]; omega
  have hne1 : ((K0 : Int) != (m0 : Int) + (k0 : Int)) = false := by have := HKM.out; rw [bne_eq_false_iff_eq]; omega
  repeat (refine Kit.gplan_head (by rfl) (.inl ⟨by rfl, fun w' hS => by (dsimp only at hS); go_simp; (try with_reducible rfl)⟩) ?_; simp only [Act.put, List.setIfInBounds_toArray, List.set_cons_zero, List.set_cons_succ])
  refine Kit.gplan_done ?_
  (try simp only [Act.put, List.setIfInBounds_toArray, List.set_cons_zero, List.set_cons_succ])
  clear hw1 hne1
  obtain ⟨c0, c1, c2, c3⟩ := HCE.out w10 H10.out
  go_upto_region 13 with (first
    | (with_reducible refine (HRD.out _).mono ?_
       rintro e w11 ⟨y, L2, rfl, hLe2, hown, h11⟩
       obtain ⟨a11, cp11, rfl, hl11, hc11, hI11, hnil11⟩ := own_ints hown
       have HJ11 := Lib.hid hI11
       have HL11 := Lib.hid hl11
       have H11 := Lib.hid (HST.out _ _ H10.out h11)
       have HI11 := Lib.hid (HI10.out.later h11)
       clear hLe2 hown hl11 hc11 hI11 hnil11 h11 c0 c1 c2 c3))
  obtain ⟨c0, c1, c2, c3⟩ := HCE.out w11 H11.out
  go_upto_region 17 with (first
    | (with_reducible refine (same_any a4 a11 cp4 cp11 L L2 DG DG HL4.out HL11.out (by have := HL4.out; have := HDL.out; omega) (by have := HL11.out; have := HDL.out; omega) w11 HI11.out HJ11.out (fun i => ⟨HDB.out i, HDB.out i⟩)).mono ?_
       rintro e w12 ⟨rfl, h12⟩
       rw [decide_eq_true (rfl : DG = DG)]
       have H12 := Lib.hid (HST.out _ _ H11.out h12)
       have HJ12 := Lib.hid (HJ11.out.later h12)
       clear h12 c0 c1 c2 c3
       obtain ⟨c0, c1, c2, c3⟩ := HCE.out w12 H12.out))
  go_upto_region 20 with (first
    | (with_reducible refine (HRQ.out _).mono ?_
       rintro e w13 ⟨z, L3, rfl, hLe3, hown, h13⟩
       obtain ⟨a13, cp13, rfl, hl13, hc13, hI13, hnil13⟩ := own_ints hown
       have HI13 := Lib.hid hI13
       have HL13 := Lib.hid hl13
       have H13 := Lib.hid (HST.out _ _ H12.out h13)
       have HJ13 := Lib.hid (HJ12.out.later h13)
       clear hLe3 hown hl13 hc13 hI13 hnil13 h13 c0 c1 c2 c3))
  have hL2K : L2 = K0 := by have := HL11.out; have := HDL.out; omega
  have hL3K : L3 = K0 := by have := HL13.out; have := HQL.out; omega
  have hL2S := hL2K.symm
  subst hL2S
  have hL3S := hL3K.symm
  subst hL3S
  obtain ⟨b2, o2, rfl, hc2⟩ : ∃ b o, a11 = some ⟨b, o, none⟩ ∧ ∀ i, i < DG.length → w13.cell? ⟨b, o + i, none⟩ = some (.int .i64 ((DG.getD i 0 : Nat) : Int)) := by
    rcases HJ13.out with h | h
    · have := HDL.out; rw [h] at this; simp at this; omega
    · exact h
  obtain ⟨b3, o3, rfl, hc3⟩ : ∃ b o, a13 = some ⟨b, o, none⟩ ∧ ∀ i, i < DQ.length → w13.cell? ⟨b, o + i, none⟩ = some (.int .i64 ((DQ.getD i 0 : Nat) : Int)) := by
    rcases HI13.out with h | h
    · have := HQL.out; rw [h] at this; simp at this; omega
    · exact h
  have HC2 := Lib.hid hc2
  have HC3 := Lib.hid hc3
  clear hc2 hc3
  go_loopw [13, 121] (fun x z wr => ∃ (k : Nat) (t : Bool), k ≤ K0 ∧ z = .int .i64 (k : Int) ∧ x = .bool t ∧ Hid (t = true ↔ ∀ i, i < k → DG.getD i 0 ≤ DQ.getD i 0) ∧ Drawn w13 wr) (fun _ z _ => K0 - (intOf z).toNat)
  case atStart => exact ⟨0, true, by omega, rfl, rfl, Lib.hid ⟨fun _ i h => by omega, fun _ => rfl⟩, Drawn.refl _⟩
  case round =>
    obtain ⟨k, t, hk, rfl, rfl, HT, hdr⟩ := hrel
    obtain ⟨qq, rfl⟩ := hdr
    by_cases hlt : k < K0
    · have hki : (k : Int) < (K0 : Int) := by omega
      have hx : (w13.drewN qq).cell? ⟨b2, o2 + k, none⟩ = some (.int .i64 ((DG.getD k 0 : Nat) : Int)) := HC2.out k (by rw [HDL.out]; exact hlt)
      have hy : (w13.drewN qq).cell? ⟨b3, o3 + k, none⟩ = some (.int .i64 ((DQ.getD k 0 : Nat) : Int)) := HC3.out k (by rw [HQL.out]; exact hlt)
      obtain ⟨d, hd⟩ := ex_eq (DG.getD k 0)
      obtain ⟨f, hf⟩ := ex_eq (DQ.getD k 0)
      rw [hd] at hx
      rw [hf] at hy
      have HDF := Lib.hid (And.intro hd hf)
      clear hd hf
      go_upto_region 22 with fail
      refine Kit.wp_region_gplan (fun V => V.cell? ⟨b2, o2 + k, none⟩ = some (.int .i64 (d : Int)) ∧ V.cell? ⟨b3, o3 + k, none⟩ = some (.int .i64 (f : Int))) [(true, 0), (true, 1), (true, 2), (true, 3), (true, 4), (true, 5), (true, 6), (true, 7), (true, 8), (true, 9), (true, 10), (true, 11), (false, 12)] (by kernel_rfl) (by kernel_rfl) (by kernel_rfl) (by kernel_rfl) ⟨hx, hy⟩ ?_
      cases t with
      | true =>
        repeat (refine Kit.gplan_head (by rfl) (.inl ⟨by rfl, fun w' hS => by (dsimp only at hS); go_simp; (try with_reducible rfl)⟩) ?_; simp only [Act.put, List.setIfInBounds_toArray, List.set_cons_zero, List.set_cons_succ])
        refine Kit.gplan_op (by rfl) (by rfl) fun K hK1 => ?_
        go_simp
        refine hK1 _ _ ⟨hx, hy⟩ (Kit.gplan_done ?_)
        clear hK1 K
        (try simp only [Act.put, List.setIfInBounds_toArray, List.set_cons_zero, List.set_cons_succ])
        go_wp2_with fail
        go_roundw
        case rel =>
          refine ⟨k + 1, decide ((d : Int) ≤ (f : Int)), hlt, by go_num, by first | rfl | simp, Lib.hid ?_, ⟨qq + 1, rfl⟩⟩
          rw [decide_eq_true_eq]
          constructor
          · intro h i hi
            by_cases e : i = k
            · rw [e, HDF.out.1, HDF.out.2]; omega
            · exact HT.out.1 rfl i (by omega)
          · intro h
            have := h k (Nat.lt_succ_self k)
            rw [HDF.out.1, HDF.out.2] at this
            omega
        case measure => simp [intOf]; omega
      | false =>
        repeat (refine Kit.gplan_head (by rfl) (by first | exact .inr ⟨by rfl, rfl⟩ | exact .inl ⟨by rfl, fun w' hS => by (dsimp only at hS); go_simp; (try with_reducible rfl)⟩) ?_; simp only [Act.put, List.setIfInBounds_toArray, List.set_cons_zero, List.set_cons_succ])
        refine Kit.gplan_op (by rfl) (by rfl) fun K hK1 => ?_
        go_simp
        refine hK1 _ _ ⟨hx, hy⟩ (Kit.gplan_done ?_)
        clear hK1 K
        (try simp only [Act.put, List.setIfInBounds_toArray, List.set_cons_zero, List.set_cons_succ])
        go_wp2_with fail
        go_roundw
        case rel =>
          refine ⟨k + 1, false, hlt, by go_num, rfl, Lib.hid ⟨(fun h => by cases h), fun h => ?_⟩, ⟨qq + 1, rfl⟩⟩
          exact HT.out.2 (fun i hi => h i (by omega))
        case measure => simp [intOf]; omega
    · have hki : ¬ (k : Int) < (K0 : Int) := by omega
      have HCT : Hid (cv = t) := Lib.hid (by
        have h1 : cv = true ↔ t = true := by
          rw [← HCVE.out, decide_eq_true_eq, HT.out]
          exact ⟨fun h i hi => h i (by rw [HDL.out]; omega), fun h i hi => h i (by rw [HDL.out] at hi; omega)⟩
        cases cv <;> cases t <;> simp_all)
      go_wp2_with fail
      go_ret
      exact ⟨by rw [HCT.out]; simp, HEND.out _ (below_drewN H13.out qq)⟩
theorem walk_OnetimeDigits (B S : Int) (p q : ByteArray) (w : World) (hL : Laid w) :
    Calls Tryd.prog 3 #[.agg #[.int .i64 (B), .int .i64 (S)], .string p, .string q] w fun e w' => e = .returned (.bool true) ∧ Below w.heap.size w w' := by
  by_cases hV : VP B S
  · obtain ⟨b, rfl, hB⟩ := bits_of hV
    obtain ⟨n, rfl⟩ : ∃ n : Nat, S = (n : Int) := ⟨S.toNat, by have := hV.2.1; omega⟩
    have hn : 0 < n := by have := hV.2.1; omega
    have hn2 : n ≤ 32 := by have := hV.2.2; omega
    by_cases hp : p.size = n
    · subst hp
      by_cases hq : q.size = p.size
      · exact digits_wayD b p q hB hn hn2 hq w hL
      · exact digits_wayC b p q hB hn hn2 hq w hL
    · exact digits_wayB b n hB hn hn2 p q hp w hL
  · exact digits_wayA B S p q hV w hL
end Go.Proofs.YtmnendoloankgaaDoor
