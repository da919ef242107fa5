/- The document's Sign, Parts, Recover. -/
import Derived.Test.YtmnendoloankgaaDoorRfg
namespace Go.Proofs.YtmnendoloankgaaDoor
set_option linter.unusedVariables false
set_option linter.unusedSimpArgs false
open Go.RowKit
open Kit (Chg)
open Sha (v)
open Go.Proofs.YtmnendoloankgaaDoor.One

set_option maxRecDepth 100000 in
set_option maxHeartbeats 2000000 in
theorem refSign_ok (b : Nat) (digest : ByteArray) (hB : Bits b) (hn : 0 < digest.size) (hn2 : digest.size ≤ 32) (seed : ByteArray) (hs : seed.size = 32) (w : World) :
    Calls Tryd.prog 38 #[.agg #[.int .i64 (b : Int), .int .i64 (digest.size : Int)], .string seed, .string digest] w fun e w' => ∃ (x : Value) (L : Nat) (vs : List ByteArray), e = .returned x ∧ L = count b digest.size ∧ vs.map nb = sign (nb seed) (One.digits b (nb digest)) ∧ w'.ownsRow w.heap.size 9 1 x L (strV vs) ∧ Below w.heap.size w w' := by
  have HDG := Lib.hid (fun w => refDigits_any b digest hB hn hn2 w)
  have HSR := Lib.hid (fun w => refStart_ok b digest.size hB hn hn2 seed hs w)
  have HDL : Hid ((One.digits b (nb digest)).length = count b digest.size) := Lib.hid (by rw [digits_length hB, nb_length])
  have HD255 : Hid (∀ x ∈ One.digits b (nb digest), x ≤ 255) := Lib.hid (fun x hx => by
    have h1 := digits_lt b _ x hx
    have h2 := last_le hB
    unfold last at h2
    omega)
  have hC := count_le hB hn2
  obtain ⟨DG, hDG⟩ := ex_eq (One.digits b (nb digest))
  rw [hDG] at HDG HDL HD255 ⊢
  have HSG : Hid (sign (nb seed) DG = (List.range DG.length).map fun i => chain i 0 (DG.getD i 0) (secret (nb seed) i)) := rfl
  obtain ⟨C, hCe⟩ := ex_eq (count b digest.size)
  rw [hCe] at hC HDL ⊢
  have HCEQ := Lib.hid hCe
  clear hB hn hn2 hs hDG hCe
  go_enter Tryd.func38, Tryd.ntmps38
  go_upto_region 1 with fail
  refine wp_over (fun W => Hid (W.heap[w.heap.size]? = some (.cells #[.int .i64 (b : Int), .int .i64 (digest.size : Int)] 23 (0, 0))) ∧ Hid (Below w.heap.size w W) ∧ Hid (W.heap.size = w.heap.size + 1)) ⟨heap_alloc_new _ _, (Below.refl _ _).alloc (Nat.le_refl _) _, by show _ = _; simp⟩ ?_
  rintro W ⟨HG, HB, HWN⟩
  obtain ⟨N, hN⟩ := ex_eq w.heap.size
  rw [hN] at HG HB HWN ⊢
  have HN := Lib.hid hN
  clear hN
  have HCE : Hid (∀ V, Below (N + 1) W V → V.cell? ⟨N, 0, none⟩ = some (.int .i64 (b : Int)) ∧ V.cell? ⟨N, 1, none⟩ = some (.int .i64 (digest.size : Int))) := Lib.hid (fun V h => by
    have hg := (h.block N (Nat.lt_succ_self _)).trans HG.out
    exact ⟨(cell_of_row _ _ _ _ _ _ hg).trans rfl, (cell_of_row _ _ _ _ _ _ hg).trans rfl⟩)
  have HST : Hid (∀ V V', Below (N + 1) W V → Below V.heap.size V V' → Below (N + 1) W V') := Lib.hid (fun V V' h h' => h.trans (h'.mono (by have := h.size; have := HWN.out; omega)))
  have HEND : Hid (∀ V, Below (N + 1) W V → Below w.heap.size w V) := Lib.hid (fun V h => by rw [HN.out]; exact HB.out.trans (h.mono (Nat.le_succ N)))
  obtain ⟨c0, c1⟩ := HCE.out W (Below.refl _ _)
  go_upto_region 3 with (first
    | (go_at_call 27
       (refine (HDG.out _).mono ?_)
       rintro e w2 ⟨x, L, rfl, hL, hown, h2⟩
       rw [HDL.out] at hL
       have hL3 := hL.symm
       subst hL3
       obtain ⟨a2, cp2, rfl, hl2, hc2, hI2, hnil2⟩ := own_ints hown
       have HI2 := Lib.hid hI2
       have H2 : Hid (Below (N + 1) W w2) := Lib.hid (HST.out _ _ (Below.refl _ _) h2)
       clear h2 hown hl2 hc2 hI2 hnil2 hL))
  clear c0 c1
  obtain ⟨c0, c1⟩ := HCE.out w2 H2.out
  go_upto_region 4 with (first
    | (go_at_call 82
       (refine (HSR.out _).mono ?_)
       rintro e w3 ⟨x, L3, vs3, rfl, hL, hvs, ho3, h3⟩
       rw [HCEQ.out] at hL
       have hL7 := hL.symm
       subst hL7
       have H3 : Hid (Below (N + 1) W w3) := Lib.hid (HST.out _ _ H2.out h3)
       obtain ⟨a3, cp3, rfl, hl3, hc3, hS3, hnil3, hlt3⟩ := strs_of_own ho3
       have HI3 := Lib.hid (HI2.out.later h3)
       have HVS3 := Lib.hid hvs
       have HL3 := Lib.hid hl3
       have HS3 := Lib.hid hS3
       clear h3 ho3 hvs hl3 hc3 hS3 hnil3 hlt3))
  clear c0 c1
  obtain ⟨M3, hM3⟩ := ex_eq w3.heap.size
  have HM3 := Lib.hid hM3
  have HNM : Hid (N + 1 ≤ M3) := Lib.hid (by have := H3.out.size; have := HWN.out; omega)
  clear hM3
  go_loopw [8, 18] (fun x y wr => ∃ (k : Nat) (vs : List ByteArray), k ≤ C ∧ y = .int .i64 (k : Int) ∧ vs.length = k ∧ Hid (vs.map nb = (List.range k).map fun i => chain i 0 (DG.getD i 0) (secret (nb seed) i)) ∧ Hid (wr.ownsRow M3 9 1 x k (strV vs)) ∧ Hid (Below M3 w3 wr)) (fun _ y _ => C - (intOf y).toNat)
  case atStart => exact ⟨0, [], by omega, rfl, rfl, rfl, own_nil, Below.refl _ _⟩
  case round =>
    obtain ⟨k, vs, hk, rfl, hvl, HVS, HOW, HBE⟩ := hrel
    have HVL := Lib.hid hvl
    clear hvl
    by_cases hlt : k < C
    · have hki : (k : Int) < (C : Int) := by omega
      have hd255 : DG.getD k 0 ≤ 255 := HD255.out _ (getD_mem _ _ _ (by rw [HDL.out]; exact hlt))
      obtain ⟨b1, o1, rfl, hcs⟩ : ∃ b o, a2 = some ⟨b, o, none⟩ ∧ ∀ i, i < DG.length → wr.cell? ⟨b, o + i, none⟩ = some (.int .i64 ((DG.getD i 0 : Nat) : Int)) := by
        rcases HI3.out.later (by rw [HM3.out]; exact HBE.out) with h | h
        · have := HDL.out; rw [h] at this; simp at this; omega
        · exact h
      obtain ⟨b3, o3, rfl, hps⟩ : ∃ b o, a3 = some ⟨b, o, none⟩ ∧ ∀ i, i < vs3.length → wr.cell? ⟨b, o + i, none⟩ = some (.string (vs3.getD i ByteArray.empty)) := by
        rcases HS3.out.later (by rw [HM3.out]; exact HBE.out) with h | h
        · have := HL3.out; rw [h] at this; simp at this; omega
        · exact h
      have hc := hcs k (by rw [HDL.out]; exact hlt)
      have hp := hps k (by rw [HL3.out]; exact hlt)
      have HSK : Hid (nb (vs3.getD k ByteArray.empty) = secret (nb seed) k) := Lib.hid (by
        rw [← getD_map vs3 k (by rw [HL3.out]; exact hlt), HVS3.out, starts_getD _ _ _ hlt])
      obtain ⟨d, hd⟩ := ex_eq (DG.getD k 0)
      obtain ⟨s, hse⟩ := ex_eq (vs3.getD k ByteArray.empty)
      rw [hd] at hc hd255
      rw [hse] at hp HSK
      have HD := Lib.hid hd
      have HCH : Hid (∀ w, Calls Tryd.prog 32 #[.int .i64 (k : Int), .int .i64 0, .int .i64 (d : Int), .string s] w fun e w' => ∃ u : ByteArray, e = .returned (.string u) ∧ nb u = chain k 0 d (nb s) ∧ Below w.heap.size w w') := Lib.hid (fun w => refChain_ok k 0 d (by omega) (Nat.zero_le _) (by omega) s (by rw [← nb_length, HSK.out, secret_length]; omega) w (chain k 0 d (nb s)) rfl)
      have HWR : Hid (M3 ≤ wr.heap.size) := Lib.hid (by have := HBE.out.size; have := HM3.out; omega)
      have HX : Hid (∃ x, wr.ownsRow M3 9 1 x k (strV vs)) := Lib.hid ⟨_, HOW.out⟩
      clear hcs hps hd hse
      have h30 : o3 + 0 + k = o3 + k := by omega
      go_upto_region 6 with fail
      go_wp2_with (first
        | (go_at_call 32
           (with_reducible refine (HCH.out _).mono ?_)
           rintro e w4 ⟨y, rfl, hy, h4⟩
           have HY := Lib.hid hy
           have HO4 := Lib.hid (own_later HOW.out h4)
           have H4 : Hid (Below M3 w3 w4) := Lib.hid (HBE.out.trans (h4.mono HWR.out))
           clear h4 hy)
        | (at_builtin
           refine app_str rfl _ _ rfl M3 _ k vs (by rfl) HO4.out (by have := H4.out.size; have := HM3.out; omega) (by omega) y 1 (by rfl) ?_
           intro v5 w5 ho5 hb5
           have HO5 := Lib.hid ho5
           have H5 : Hid (Below M3 w3 w5) := Lib.hid (H4.out.trans hb5)
           clear ho5 hb5))
      go_roundw
      case rel =>
        refine ⟨k + 1, vs ++ [y], hlt, by go_num, by rw [List.length_append, HVL.out]; rfl, ?_, HO5.out, H5.out⟩
        show _ = _
        rw [List.map_append, HVS.out, range_snoc]
        congr 1
        show [nb y] = [chain k 0 (DG.getD k 0) (secret (nb seed) k)]
        rw [HY.out, HSK.out, HD.out]
      case measure => simp [intOf]; omega
    · have hki : ¬ (k : Int) < (C : Int) := by omega
      have hke : k = C := by omega
      have HKC := Lib.hid hke
      clear hke
      go_wp2_with fail
      go_ret
      rw [← HKC.out]
      exact ⟨_, rfl, vs, by rw [HVS.out, HSG.out, HDL.out, HKC.out], by rw [HN.out]; exact ownsRow_base HOW.out (by have := HNM.out; omega), HEND.out _ (H3.out.trans (HBE.out.mono HNM.out))⟩
set_option maxRecDepth 100000 in
set_option maxHeartbeats 2000000 in
theorem refParts_any (b n : Nat) (hB : Bits b) (hn : 0 < n) (hn2 : n ≤ 32) (a : Option Addr) (cap L : Nat) (ss : List ByteArray) (hLe : ss.length = L) (hl9 : L < 9223372036854775808) (w : World) (hS : StrsAt w a ss) :
    Calls Tryd.prog 41 #[.agg #[.int .i64 (b : Int), .int .i64 (n : Int)], .slice a L cap] w fun e w' => e = .returned (.bool (decide (L = count b n ∧ ∀ s ∈ ss, s.size = 32))) ∧ Below w.heap.size w w' := by
  obtain ⟨D, hD⟩ := ex_eq (decide (L = count b n ∧ ∀ s ∈ ss, s.size = 32))
  have HD := Lib.hid hD
  rw [hD]
  clear hD
  have HMA := Lib.hid (fun w => main_any b n hB hn2 w)
  have HCK := Lib.hid (fun w => check_any b n hB hn hn2 w)
  have HKM : Hid (count b n = 8 * n / b + cnt b (great b n)) := rfl
  have hC := count_le hB hn2
  have HLE := Lib.hid hLe
  have HS := Lib.hid hS
  obtain ⟨C, hCe⟩ := ex_eq (count b n)
  obtain ⟨m0, hme⟩ := ex_eq (8 * n / b)
  obtain ⟨k0, hke⟩ := ex_eq (cnt b (great b n))
  rw [hCe, hme, hke] at HKM
  rw [hCe] at hC HD
  have HME := Lib.hid hme
  have HKE := Lib.hid hke
  have hm9 : m0 ≤ 269 := by have := HKM.out; omega
  have hk9 : k0 ≤ 269 := by have := HKM.out; omega
  have hwS : IntKind.i64.wrap ((m0 : Int) + (k0 : Int)) = (m0 : Int) + (k0 : Int) := by rw [IntKind.wrap_i64]; omega
  clear hB hn hn2 hCe hme hke hLe hS
  go_enter Tryd.func41, Tryd.ntmps41
  go_upto_region 1 with fail
  refine wp_over (fun W => Hid (W.heap[w.heap.size]? = some (.cells #[.int .i64 (b : Int), .int .i64 (n : Int)] 23 (0, 0))) ∧ Hid (Below w.heap.size w W) ∧ Hid (W.heap.size = w.heap.size + 1)) ⟨heap_alloc_new _ _, (Below.refl _ _).alloc (Nat.le_refl _) _, by show _ = _; simp⟩ ?_
  rintro W ⟨HG, HB, HWN⟩
  obtain ⟨N, hN⟩ := ex_eq w.heap.size
  rw [hN] at HG HB HWN ⊢
  have HN := Lib.hid hN
  clear hN
  have HCE : Hid (∀ V, Below (N + 1) W V → V.cell? ⟨N, 0, none⟩ = some (.int .i64 (b : Int)) ∧ V.cell? ⟨N, 1, none⟩ = some (.int .i64 (n : Int))) := Lib.hid (fun V h => by
    have hg := (h.block N (Nat.lt_succ_self _)).trans HG.out
    exact ⟨(cell_of_row _ _ _ _ _ _ hg).trans rfl, (cell_of_row _ _ _ _ _ _ hg).trans rfl⟩)
  have HST : Hid (∀ V V', Below (N + 1) W V → Below V.heap.size V V' → Below (N + 1) W V') := Lib.hid (fun V V' h h' => h.trans (h'.mono (by have := h.size; have := HWN.out; omega)))
  have HEND : Hid (∀ V, Below (N + 1) W V → Below w.heap.size w V) := Lib.hid (fun V h => by rw [HN.out]; exact HB.out.trans (h.mono (Nat.le_succ N)))
  have HSW := Lib.hid (HS.out.later (by rw [HN.out]; exact HB.out))
  go_upto_region 2 with fail
  go_loopw [9] (fun y wr => ∃ k : Nat, k ≤ L ∧ y = .int .i64 (k : Int) ∧ Hid (∀ i, i < k → (ss.getD i ByteArray.empty).size = 32) ∧ Hid (Below (N + 1) W wr)) (fun y _ => L - (intOf y).toNat)
  case atStart => exact ⟨0, by omega, rfl, fun i h => by omega, Below.refl _ _⟩
  case round =>
    obtain ⟨k, hk, rfl, H32, HBE⟩ := hrel
    by_cases hlt : k < L
    · have hki : (k : Int) < (L : Int) := by omega
      obtain ⟨b1, o1, rfl, hcs⟩ : ∃ b o, a = some ⟨b, o, none⟩ ∧ ∀ i, i < ss.length → wr.cell? ⟨b, o + i, none⟩ = some (.string (ss.getD i ByteArray.empty)) := by
        rcases HSW.out.later (by rw [HWN.out]; exact HBE.out) with h | h
        · have := HLE.out; rw [h] at this; simp at this; omega
        · exact h
      have hc := hcs k (by rw [HLE.out]; exact hlt)
      have HSM : Hid (ss.getD k ByteArray.empty ∈ ss) := Lib.hid (getD_mem ss k _ (by rw [HLE.out]; exact hlt))
      obtain ⟨s, hse⟩ := ex_eq (ss.getD k ByteArray.empty)
      rw [hse] at hc HSM
      have HSE := Lib.hid hse
      clear hcs hse
      by_cases h32 : s.size = 32
      · have HH := Lib.hid h32
        have hne : (((s.size : Nat) : Int) != 32) = false := by rw [h32]; rfl
        go_wp2_with fail
        go_roundw
        case rel =>
          refine ⟨k + 1, hlt, by go_num, fun i hi => ?_, HBE.out⟩
          by_cases e : i = k
          · rw [e, HSE.out]; exact HH.out
          · exact H32.out i (by omega)
        case measure => simp [intOf]; omega
      · have hne : (((s.size : Nat) : Int) != 32) = true := by rw [bne_iff_ne]; omega
        have HF : Hid (decide (L = C ∧ ∀ s ∈ ss, s.size = 32) = false) := Lib.hid (decide_eq_false (fun h => h32 (h.2 s HSM.out)))
        go_wp2_with fail
        go_ret
        exact ⟨by rw [← HD.out, HF.out]; rfl, HEND.out _ HBE.out⟩
    · have hki : ¬ (k : Int) < (L : Int) := by omega
      have hke : k = L := by omega
      have HF : Hid (decide (L = C ∧ ∀ s ∈ ss, s.size = 32) = decide (L = C)) := Lib.hid (by
        rw [decide_eq_decide]
        refine ⟨fun h => h.1, fun h => ⟨h, fun s hs => ?_⟩⟩
        obtain ⟨i, hi, rfl⟩ := List.mem_iff_getElem.1 hs
        have h1 := H32.out i (by rw [hke, ← HLE.out]; exact hi)
        rwa [List.getD_eq_getElem?_getD, List.getElem?_eq_getElem hi] at h1)
      clear hke
      have HBEQ : Hid (((L : Int) == (m0 : Int) + (k0 : Int)) = decide (L = C)) := Lib.hid (by
        rw [Bool.eq_iff_iff, beq_iff_eq, decide_eq_true_eq]
        have := HKM.out
        omega)
      obtain ⟨t, ht⟩ := ex_eq ((L : Int) == (m0 : Int) + (k0 : Int))
      rw [ht] at HBEQ
      obtain ⟨c0, c1⟩ := HCE.out wr HBE.out
      go_upto_region 7 with fail
      refine Kit.wp_region_gplan (fun V => V.cell? ⟨N, 0, none⟩ = some (.int .i64 (b : Int)) ∧ V.cell? ⟨N, 1, none⟩ = some (.int .i64 (n : Int))) [(true, 0), (true, 1), (true, 2), (true, 4), (false, 3), (false, 5), (true, 6), (true, 7), (true, 8)] (by kernel_rfl) (by kernel_rfl) (by kernel_rfl) (by kernel_rfl) ⟨c0, c1⟩ ?_
      iterate 4 (refine Kit.gplan_head (by rfl) (.inl ⟨by rfl, fun w' hS => by (dsimp only at hS); go_simp; (try with_reducible rfl)⟩) ?_; simp only [Act.put, List.setIfInBounds_toArray, List.set_cons_zero, List.set_cons_succ])
      clear c0 c1
      refine Kit.gplan_op (by rfl) (by rfl) fun K hK => ?_
      go_simp
      go_at_call 25
      refine (HMA.out _).mono ?_
      rintro e w2 ⟨m1, rfl, hm1, h2⟩
      rw [HME.out] at hm1
      have hm2 := hm1.symm
      subst hm2
      have H2 : Hid (Below (N + 1) W w2) := Lib.hid (HST.out _ _ HBE.out ((Below.refl _ wr).drew.trans h2))
      clear h2 hm1
      refine hK _ _ (HCE.out _ H2.out) ?_
      clear hK K
      refine Kit.gplan_op (by rfl) (by rfl) fun K hK => ?_
      go_simp
      go_at_call 26
      refine (HCK.out _).mono ?_
      rintro e w3 ⟨k1, rfl, hk1, h3⟩
      rw [HKE.out] at hk1
      have hk2 := hk1.symm
      subst hk2
      have H3 : Hid (Below (N + 1) W w3) := Lib.hid (HST.out _ _ H2.out h3)
      clear h3 hk1
      refine hK _ _ (HCE.out _ H3.out) ?_
      clear hK K
      iterate 3 (refine Kit.gplan_head (by rfl) (.inl ⟨by rfl, fun w' hS => by (dsimp only at hS); go_simp; (try with_reducible rfl)⟩) ?_; simp only [Act.put, List.setIfInBounds_toArray, List.set_cons_zero, List.set_cons_succ])
      refine Kit.gplan_done ?_
      (try simp only [Act.put, List.setIfInBounds_toArray, List.set_cons_zero, List.set_cons_succ])
      go_wp2_with fail
      go_ret
      exact ⟨by rw [← HD.out, HF.out, ← HBEQ.out]; rfl, HEND.out _ H3.out⟩
end Go.Proofs.YtmnendoloankgaaDoor
