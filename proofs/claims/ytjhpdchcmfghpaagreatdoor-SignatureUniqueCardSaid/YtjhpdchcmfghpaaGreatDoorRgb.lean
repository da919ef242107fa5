/- The document's Merkle root, leaves and public key of a signer. -/
import Derived.Test.YtjhpdchcmfghpaaGreatDoorRga
namespace Go.Proofs.YtjhpdchcmfghpaaGreatDoor
set_option linter.unusedVariables false
set_option linter.unusedSimpArgs false
open Go.RowKit
open Kit (Chg)
open Sha (v)
open Go.Proofs.YtjhpdchcmfghpaaGreatDoor.One

set_option maxRecDepth 100000 in
set_option maxHeartbeats 2000000 in
theorem refRoot_ok : ∀ (h : Nat) (hh : h ≤ 8) (a : Option Addr) (cap L : Nat) (ss : List ByteArray) (hLe : ss.length = L) (hP : 2 ^ h = L) (hcap : L ≤ cap) (h32 : ∀ s ∈ ss, s.size = 32) (w : World) (hS : StrsAt w a ss),
    Calls Tryz.prog 29 #[.slice a L cap] w fun e w' => ∃ u : ByteArray, e = .returned (.string u) ∧ nb u = Mrk.root h (ss.map nb) ∧ u.size = 32 ∧ Below w.heap.size w w'
  | 0, hh, a, cap, L, ss, hLe, hP, hcap, h32, w, hS => by
    obtain rfl : L = 1 := hP.symm
    obtain ⟨b, o, rfl, hcs⟩ : ∃ b o, a = some ⟨b, o, none⟩ ∧ ∀ i, i < ss.length → w.cell? ⟨b, o + i, none⟩ = some (.string (ss.getD i ByteArray.empty)) := by
      rcases hS with h | h
      · rw [h] at hLe; simp at hLe
      · exact h
    have hc := hcs 0 (by omega)
    rw [Nat.add_zero] at hc
    have HZ := Lib.hid (h32 _ (getD_mem ss 0 ByteArray.empty (by omega)))
    have HM := Lib.hid (getD_map ss 0 (by omega))
    obtain ⟨s, hs⟩ := ex_eq (ss.getD 0 ByteArray.empty)
    rw [hs] at hc HZ HM
    clear hP hS h32 hcs hs hLe
    go_enter Tryz.func29, Tryz.ntmps29
    go_wp2_with fail
    go_ret
    exact ⟨s, rfl, HM.out.symm, HZ.out, Below.refl _ _⟩
  | h + 1, hh, a, cap, L, ss, hLe, hP, hcap, h32, w, hS => by
    have hL9 : L ≤ 256 := by rw [← hP]; exact Nat.pow_le_pow_right (n := 2) (by decide) hh
    obtain ⟨K, hK⟩ := ex_eq (2 ^ h)
    have hLK : L = K + K := by rw [← hP, Nat.pow_succ, hK]; omega
    have hK0 : 0 < K := by rw [← hK]; exact Nat.two_pow_pos h
    have HSPL : Hid (∀ w, Calls Tryz.prog 60 #[.int .i64 (L : Int)] w fun e w' => e = .returned (.int .i64 (K : Int)) ∧ w = w') := Lib.hid (fun w => by
      have h1 := refSplit_ok h (by omega) w
      rw [hP, hK] at h1
      exact h1)
    have hl1 : (ss.take K).length = K := by rw [List.length_take]; omega
    have hl2 : (ss.drop K).length = K := by rw [List.length_drop]; omega
    have HA1 : Hid (∀ V, Below w.heap.size w V → StrsAt V (subA a 0 cap) (ss.take K)) := Lib.hid (fun V hV => by
      have h1 := strsAt_sub (hS.later hV) (cap := cap) (by omega) 0 K
      rwa [List.drop_zero] at h1)
    have HA2 : Hid (∀ V, Below w.heap.size w V → StrsAt V (subA a K cap) (ss.drop K)) := Lib.hid (fun V hV => by
      have h1 := strsAt_sub (hS.later hV) (cap := cap) (by omega) K L
      rwa [List.take_of_length_le (by omega)] at h1)
    have HR1 := Lib.hid (fun w hS => refRoot_ok h (by omega) (subA a 0 cap) cap K (ss.take K) hl1 hK (by omega) (fun s hs => h32 s (List.mem_of_mem_take hs)) w hS)
    have HR2 := Lib.hid (fun w hS => refRoot_ok h (by omega) (subA a K cap) (cap - K) K (ss.drop K) hl2 hK (by omega) (fun s hs => h32 s (List.mem_of_mem_drop hs)) w hS)
    have HRT : Hid (Mrk.root (h + 1) (ss.map nb) = Mrk.node (Mrk.root h ((ss.take K).map nb)) (Mrk.root h ((ss.drop K).map nb))) := Lib.hid (by
      rw [Mrk.root, hK, List.map_take, List.map_drop])
    have hsh := fun W => sliceS_h a L cap K (by omega) W
    have hsl0 := fun W => sliceS_l a L cap K (by omega) W
    have e : L - K = K := by omega
    rw [e] at hsl0
    have hn0 : ((L : Int) == 0) = false := by rw [beq_eq_false_iff_ne]; omega
    have hn1 : ((L : Int) == 1) = false := by rw [beq_eq_false_iff_ne]; omega
    clear hP hK hLK hl1 hl2 h32 hS e hLe
    go_enter Tryz.func29, Tryz.ntmps29
    go_upto_region 7 with (first
      | (go_at_call 60
         (refine (HSPL.out _).mono ?_)
         rintro e w2 ⟨rfl, rfl⟩))
    refine Kit.wp_region_gplan (fun V => True) [(true, 0), (true, 1), (true, 2), (true, 4), (true, 5), (true, 6), (false, 3), (false, 7), (false, 8), (true, 9)] (by kernel_rfl) (by kernel_rfl) (by kernel_rfl) (by kernel_rfl) trivial ?_
    iterate 6 (refine Kit.gplan_head (by rfl) (.inl ⟨by rfl, fun w' hS => by (dsimp only at hS); go_simp; (try with_reducible rfl)⟩) ?_; (try simp only [Act.put, List.setIfInBounds_toArray, List.set_cons_zero, List.set_cons_succ]))
    refine Kit.gplan_op (by rfl) (by rfl) fun K' hK => ?_
    go_simp
    go_at_call 29
    refine (HR1.out _ (HA1.out _ (Below.refl _ _).drew)).mono ?_
    rintro e w3 ⟨u3, rfl, hu3, hz3, h3⟩
    have HU3 := Lib.hid hu3
    have HZ3 := Lib.hid hz3
    have H3 : Hid (Below w.heap.size w w3) := Lib.hid ((Below.refl _ w).drew.trans h3)
    clear hu3 hz3 h3
    refine hK _ _ trivial ?_
    clear hK K'
    refine Kit.gplan_op (by rfl) (by rfl) fun K' hK => ?_
    go_simp
    go_at_call 29
    refine (HR2.out _ (HA2.out _ H3.out)).mono ?_
    rintro e w4 ⟨u4, rfl, hu4, hz4, h4⟩
    have HU4 := Lib.hid hu4
    have HZ4 := Lib.hid hz4
    have H4 := Lib.hid (H3.out.trans (h4.mono H3.out.size))
    clear hu4 hz4 h4
    refine hK _ _ trivial ?_
    clear hK K'
    refine Kit.gplan_op (by rfl) (by rfl) fun K' hK => ?_
    go_simp
    go_at_call 61
    refine (refNode_l u3 u4 HZ3.out HZ4.out (Mrk.root (h + 1) (ss.map nb)) (by rw [HU3.out, HU4.out, HRT.out]) _).mono ?_
    rintro e w5 ⟨u5, rfl, hu5, hz5, h5⟩
    have HU5 := Lib.hid hu5
    have HZ5 := Lib.hid hz5
    have H5 := Lib.hid (H4.out.trans (h5.mono H4.out.size))
    clear hu5 hz5 h5
    refine hK _ _ trivial ?_
    clear hK K'
    refine Kit.gplan_head (by rfl) (.inl ⟨by rfl, fun w' hS => by (dsimp only at hS); go_simp; (try with_reducible rfl)⟩) ?_
    refine Kit.gplan_done ?_
    (try simp only [Act.put, List.setIfInBounds_toArray, List.set_cons_zero, List.set_cons_succ])
    go_wp2_with fail
    go_ret
    exact ⟨u5, rfl, HU5.out, HZ5.out, H5.out⟩
theorem own_empty_strs {w : World} {base : Nat} (h : base ≤ w.heap.size) : (w.alloc (.cells #[] 9)).ownsRow base 9 1 (.slice (some ⟨w.heap.size, 0, none⟩) 0 0) 0 (strV []) := ⟨rfl, .inr ⟨w.heap.size, 0, #[], rfl, h, heap_alloc_new w _, Nat.le_refl _, by decide, rfl, rfl⟩⟩
set_option maxRecDepth 100000 in
set_option maxHeartbeats 2000000 in
theorem refLeaves_ok (b t : Nat) (hB : Bits b) (ht : t ≤ 8) (seed : ByteArray) (hs : seed.size = 32) (w : World) :
    Calls Tryz.prog 30 #[.agg #[.int .i64 (b : Int), .int .i64 (t : Int)], .string seed] w fun e w' => ∃ (x : Value) (n : Nat) (vs : List ByteArray), e = .returned x ∧ n = 2 ^ t ∧ vs.map nb = sigLeaves b (nb seed) (2 ^ t) ∧ w'.ownsRow w.heap.size 9 1 x n (strV vs) ∧ (∀ s ∈ vs, s.size = 32) ∧ Below w.heap.size w w' := by
  obtain ⟨hshl, hP8⟩ := fit_pow ht
  have hshl0 : wrap64 ((2 : Int) ^ t) = ((2 ^ t : Nat) : Int) := by
    rw [show (2 : Int) ^ t = ((2 ^ t : Nat) : Int) from (Int.natCast_pow 2 t).symm]
    obtain ⟨q, hq⟩ := ex_eq (2 ^ t)
    rw [hq] at hP8 ⊢
    exact IntWalk.wrap64_in _ ⟨by omega, by omega⟩
  have HKS := Lib.hid (fun i hi w => refKeySeed_ok seed hs i hi w)
  have HPB := Lib.hid (fun u hu w => refPublic_ok b 32 hB (by decide) (by decide) u hu w)
  have hpl := fun (u : List Nat) => (Sha.sum_length u)
  have HPL := Lib.hid hpl
  obtain ⟨P, hP⟩ := ex_eq (2 ^ t)
  rw [hP] at hshl hshl0 hP8 ⊢
  clear hP hs hB hpl
  go_enter Tryz.func30, Tryz.ntmps30
  go_upto_region 1 with fail
  refine wp_over (fun W => Hid (W.heap[w.heap.size]? = some (.cells #[.int .i64 (b : Int), .int .i64 (t : Int)] 28 (0, 0))) ∧ Hid (Below w.heap.size w W) ∧ Hid (W.heap.size = w.heap.size + 1)) ⟨heap_alloc_new _ _, (Below.refl _ _).alloc (Nat.le_refl _) _, by show _ = _; simp⟩ ?_
  rintro W ⟨HG, HB0, HWN⟩
  obtain ⟨N, hN⟩ := ex_eq w.heap.size
  rw [hN] at HG HB0 HWN ⊢
  have HN := Lib.hid hN
  clear hN
  have HCE : Hid (∀ V, Below (N + 1) W V → V.cell? ⟨N, 0, none⟩ = some (.int .i64 (b : Int)) ∧ V.cell? ⟨N, 1, none⟩ = some (.int .i64 (t : Int))) := Lib.hid (fun V h => by
    have hg := (h.block N (Nat.lt_succ_self _)).trans HG.out
    exact ⟨(cell_of_row _ _ _ _ _ _ hg).trans rfl, (cell_of_row _ _ _ _ _ _ hg).trans rfl⟩)
  have HST : Hid (∀ V V', Below (N + 1) W V → Below V.heap.size V V' → Below (N + 1) W V') := Lib.hid (fun V V' h h' => h.trans (h'.mono (by have := h.size; have := HWN.out; omega)))
  have HEND : Hid (∀ V, Below (N + 1) W V → Below N w V) := Lib.hid (fun V h => HB0.out.trans (h.mono (Nat.le_succ N)))
  have HE := Lib.hid (own_empty_strs (w := W) (base := N + 1) (by have := HWN.out; omega))
  have HB1 : Hid (Below (N + 1) W (W.alloc (.cells #[] 9))) := Lib.hid ((Below.refl _ _).alloc (by have := HWN.out; omega) _)
  go_upto_region 2 with fail
  go_upto_region 3 with fail
  go_loopw [5, 6] (fun x y wr => ∃ (i : Nat) (vs : List ByteArray), i ≤ P ∧ y = .int .i64 (i : Int) ∧ vs.length = i ∧ Hid (vs.map nb = sigLeaves b (nb seed) i) ∧ Hid (∀ s ∈ vs, s.size = 32) ∧ Hid (wr.ownsRow (N + 1) 9 1 x i (strV vs)) ∧ Hid (Below (N + 1) W wr)) (fun _ y _ => P - (intOf y).toNat)
  case atStart => exact ⟨0, [], by omega, rfl, rfl, rfl, (fun s hs => by cases hs), HE.out, HB1.out⟩
  case round =>
    obtain ⟨i, vs, hi, rfl, hvl, HVS, H32, HOW, HBE⟩ := hrel
    have HVL := Lib.hid hvl
    clear hvl
    obtain ⟨c0, c1⟩ := HCE.out wr HBE.out
    by_cases hlt : i < P
    · have hii : (i : Int) < (P : Int) := by omega
      have HKI := Lib.hid (fun w => HKS.out i (by omega) w)
      go_upto_region 4 with (first
        | (go_at_call 14
           (refine (refParams_any (b : Int) (t : Int) _).mono ?_)
           rintro e w2 ⟨rfl, h2⟩
           have H2 := Lib.hid (HST.out _ _ HBE.out h2)
           have HO2 := Lib.hid (own_later HOW.out h2)
           clear h2 c0 c1)
        | (go_at_call 36
           (refine (HKI.out _).mono ?_)
           rintro e w3 ⟨u3, rfl, hu3, hz3, h3⟩
           have HU3 := Lib.hid hu3
           have HZ3 := Lib.hid hz3
           have H3 := Lib.hid (HST.out _ _ H2.out h3)
           have HO3 := Lib.hid (own_later HO2.out h3)
           clear hu3 hz3 h3)
        | (go_at_call 62
           (refine (HPB.out u3 HZ3.out _).mono ?_)
           rintro e w4 ⟨u4, rfl, hu4, h4⟩
           have hz4 : u4.size = 32 := by rw [← nb_length, hu4]; exact Sha.sum_length _
           obtain ⟨cp5, w5, hcv5, hle5, hB5, h5⟩ := str_at w4 u4 (by rw [hz4]; decide) hz4
           have HB5 := Lib.hid hB5
           have HU4 := Lib.hid hu4
           have HZ4 := Lib.hid hz4
           have H4 := Lib.hid (HST.out _ _ H3.out h4)
           have H5 := Lib.hid (HST.out _ _ H4.out h5)
           have HO5 := Lib.hid (own_later (own_later HO3.out h4) h5)
           clear hu4 h4 hB5 h5 hle5)
        | (go_at_call 43
           (refine (refLeaf_l (some ⟨w4.heap.size, 0, none⟩) cp5 (nb u4) 32 (by rw [nb_length]; exact HZ4.out) (fun e => by cases e) (by omega) w5 HB5.out (sigLeaf b (nb seed) i) (by rw [HU4.out, HU3.out]; rfl)).mono ?_)
           rintro e w6 ⟨u6, rfl, hu6, hz6, h6⟩
           have HU6 := Lib.hid hu6
           have HZ6 := Lib.hid hz6
           have H6 := Lib.hid (HST.out _ _ H5.out h6)
           have HO6 := Lib.hid (own_later HO5.out h6)
           clear hu6 hz6 h6 hcv5 hz4)
        | (at_builtin
           refine app_str rfl _ _ rfl (N + 1) _ i vs (by rfl) HO6.out (by have := H6.out.size; have := HWN.out; omega) (by omega) u6 1 (by rfl) ?_
           intro v7 w7 ho7 hb7
           have HO7 := Lib.hid ho7
           have H7 : Hid (Below (N + 1) W w7) := Lib.hid (H6.out.trans hb7)
           clear ho7 hb7))
      go_wp2_with fail
      go_roundw
      case rel =>
        refine ⟨i + 1, vs ++ [u6], hlt, by go_num, by rw [List.length_append, HVL.out]; rfl, ?_, fun s hs => ?_, HO7.out, H7.out⟩
        · show _ = _
          rw [List.map_append, HVS.out, sigLeaves_succ]
          show _ ++ [nb u6] = _
          rw [HU6.out]
        · rcases List.mem_append.1 hs with h1 | h1
          · exact H32.out s h1
          · rw [List.mem_singleton.1 h1]; exact HZ6.out
      case measure => simp [intOf]; omega
    · have hii : ¬ (i : Int) < (P : Int) := by omega
      have hie : i = P := by omega
      have HIE := Lib.hid hie
      clear hie
      go_wp2_with fail
      go_ret
      exact ⟨_, rfl, vs, by rw [HVS.out, HIE.out], ownsRow_base (by rw [← HIE.out]; exact HOW.out) (by have := HN.out; omega), H32.out, by rw [HN.out]; exact HEND.out _ HBE.out⟩
set_option maxHeartbeats 1000000 in
theorem refSigPub_ok (b t : Nat) (hB : Bits b) (ht : t ≤ 8) (seed : ByteArray) (hs : seed.size = 32) (w : World) :
    Calls Tryz.prog 9 #[.agg #[.int .i64 (b : Int), .int .i64 (t : Int)], .string seed] w fun e w' => ∃ u : ByteArray, e = .returned (.string u) ∧ nb u = sigPub b (nb seed) t ∧ u.size = 32 ∧ Below w.heap.size w w' := by
  have HLV := Lib.hid (fun w => refLeaves_ok b t hB ht seed hs w)
  have HRT := Lib.hid (fun a cap L ss h1 h2 h3 h4 w hS => refRoot_ok t ht a cap L ss h1 h2 h3 h4 w hS)
  clear hB hs
  go_enter Tryz.func9, Tryz.ntmps9
  have HB1 : Hid (Below w.heap.size w (w.alloc (.cells #[.int .i64 (b : Int), .int .i64 (t : Int)] 28))) := Lib.hid ((Below.refl _ _).alloc (Nat.le_refl _) _)
  go_wp2_with (first
    | (go_at_call 30
       (refine (HLV.out _).mono ?_)
       rintro e w2 ⟨x2, n2, vs, rfl, hn2, hv2, ho2, hz2, h2⟩
       obtain ⟨a2, cp2, rfl, hl2, hc2, hS2, _, _⟩ := strs_of_own ho2
       have HN2 := Lib.hid hn2
       have HV2 := Lib.hid hv2
       have HZ2 := Lib.hid hz2
       have HL2 := Lib.hid hl2
       have HC2 : Hid (n2 ≤ cp2) := Lib.hid (by rw [← hl2]; exact hc2)
       have HS2 := Lib.hid hS2
       have H2 := Lib.hid (HB1.out.trans (h2.mono HB1.out.size))
       clear hn2 hv2 hz2 hl2 hc2 hS2 h2 ho2)
    | (go_at_call 29
       (refine (HRT.out a2 cp2 n2 vs HL2.out HN2.out.symm HC2.out HZ2.out _ HS2.out).mono ?_)
       rintro e w3 ⟨u3, rfl, hu3, hz3, h3⟩
       have HU3 := Lib.hid hu3
       have HZ3 := Lib.hid hz3
       have H3 := Lib.hid (H2.out.trans (h3.mono H2.out.size))
       clear hu3 hz3 h3))
  go_ret
  exact ⟨u3, rfl, by rw [HU3.out, HV2.out]; rfl, HZ3.out, H3.out⟩
end Go.Proofs.YtjhpdchcmfghpaaGreatDoor
