/- The laws' own examples hold. -/
import Derived.Test.YtmnendoloankgaaDoorAwk
namespace Go.Proofs.YtmnendoloankgaaDoor
set_option linter.unusedVariables false
set_option linter.unusedSimpArgs false
open Go.RowKit
open Kit (Chg)
open Sha (v)
open Go.Proofs.YtmnendoloankgaaDoor.One

set_option maxHeartbeats 1000000 in
theorem same_any (a b : Option Addr) (c1 c2 L1 L2 : Nat) (X Y : List Nat) (h1 : X.length = L1) (h2 : Y.length = L2) (hl1 : L1 ≤ 1000000) (hl2 : L2 ≤ 9000000000000000000) (w : World) (hX : IntsAt w a X) (hY : IntsAt w b Y) (hz : ∀ i, X.getD i 0 ≤ 4611686018427387904 ∧ Y.getD i 0 ≤ 4611686018427387904) :
    Calls Tryd.prog 28 #[.slice a L1 c1, .slice b L2 c2] w fun e w' => e = .returned (.bool (decide (X = Y))) ∧ Below w.heap.size w w' := by
  by_cases hl : L1 = L2
  · subst hl
    have HX := Lib.hid hX
    have HY := Lib.hid hY
    have H1 := Lib.hid h1
    have H2 := Lib.hid h2
    clear hX hY h1 h2 hz
    go_enter Tryd.func28, Tryd.ntmps28
    go_wp2_with fail
    go_loopw [13] (fun z wr => ∃ k : Nat, k ≤ L1 ∧ z = .int .i64 (k : Int) ∧ Drawn w wr ∧ Hid (∀ i, i < k → X.getD i 0 = Y.getD i 0)) (fun z _ => L1 - (intOf z).toNat)
    case atStart => exact ⟨0, by omega, rfl, Drawn.refl _, fun i h => by omega⟩
    case round =>
      obtain ⟨k, hk, rfl, hdr, HLE⟩ := hrel
      obtain ⟨q, rfl⟩ := hdr
      by_cases hlt : k < L1
      · have hki : (k : Int) < (L1 : Int) := by omega
        obtain ⟨b2, o2, rfl, hc2⟩ : ∃ b o, a = some ⟨b, o, none⟩ ∧ ∀ i, i < X.length → w.cell? ⟨b, o + i, none⟩ = some (.int .i64 ((X.getD i 0 : Nat) : Int)) := by
          rcases HX.out with h | h
          · have := H1.out; rw [h] at this; simp at this; omega
          · exact h
        obtain ⟨b3, o3, rfl, hc3⟩ : ∃ b' o, b = some ⟨b', o, none⟩ ∧ ∀ i, i < Y.length → w.cell? ⟨b', o + i, none⟩ = some (.int .i64 ((Y.getD i 0 : Nat) : Int)) := by
          rcases HY.out with h | h
          · have := H2.out; rw [h] at this; simp at this; omega
          · exact h
        have hx : (w.drewN q).cell? ⟨b2, o2 + k, none⟩ = some (.int .i64 ((X.getD k 0 : Nat) : Int)) := hc2 k (by rw [H1.out]; exact hlt)
        have hy : (w.drewN q).cell? ⟨b3, o3 + k, none⟩ = some (.int .i64 ((Y.getD k 0 : Nat) : Int)) := hc3 k (by rw [H2.out]; exact hlt)
        obtain ⟨d, hd⟩ := ex_eq (X.getD k 0)
        obtain ⟨f, hf⟩ := ex_eq (Y.getD k 0)
        rw [hd] at hx
        rw [hf] at hy
        have HDF := Lib.hid (And.intro hd hf)
        clear hc2 hc3 hd hf
        go_upto_region 6 with fail
        refine Kit.wp_region_plan (fun V => V.cell? ⟨b2, o2 + k, none⟩ = some (.int .i64 (d : Int)) ∧ V.cell? ⟨b3, o3 + k, none⟩ = some (.int .i64 (f : Int))) [(true, 0), (true, 1), (true, 2), (true, 3), (true, 4), (true, 5), (true, 6), (true, 7), (true, 8)] (by kernel_rfl) (by kernel_rfl) (by kernel_rfl) (by kernel_rfl) ⟨hx, hy⟩ ?_
        repeat (refine Kit.plan_head (by rfl) (.inl ⟨by rfl, fun w' hS => by (dsimp only at hS); go_simp; (try with_reducible rfl)⟩) ?_; simp only [Act.put, List.setIfInBounds_toArray, List.set_cons_zero, List.set_cons_succ])
        refine Kit.plan_done ?_
        (try simp only [Act.put, List.setIfInBounds_toArray, List.set_cons_zero, List.set_cons_succ])
        by_cases hle : d = f
        · have hne : ((d : Int) != (f : Int)) = false := by rw [hle]; simp
          go_wp2_with fail
          go_roundw
          case rel =>
            refine ⟨k + 1, hlt, by go_num, ⟨q + 1, rfl⟩, fun i hi => ?_⟩
            by_cases e : i = k
            · rw [e, HDF.out.1, HDF.out.2]; exact hle
            · exact HLE.out i (by omega)
          case measure => simp [intOf]; omega
        · have hne : ((d : Int) != (f : Int)) = true := by rw [bne_iff_ne]; omega
          have HF : Hid (decide (X = Y) = false) := Lib.hid (decide_eq_false (fun h => hle (by rw [← HDF.out.1, ← HDF.out.2, h])))
          go_wp2_with fail
          go_ret
          exact ⟨by rw [HF.out]; rfl, by exact (below_drewN (Below.refl _ w) q).drew⟩
      · have hki : ¬ (k : Int) < (L1 : Int) := by omega
        have HF : Hid (decide (X = Y) = true) := Lib.hid (decide_eq_true (by
          refine List.ext_getElem (by rw [H1.out, H2.out]) fun i h1 h2 => ?_
          have h3 := HLE.out i (by rw [H1.out] at h1; omega)
          rwa [List.getD_eq_getElem?_getD, List.getElem?_eq_getElem h1, List.getD_eq_getElem?_getD, List.getElem?_eq_getElem h2] at h3))
        go_wp2_with fail
        go_ret
        exact ⟨by rw [HF.out]; rfl, below_drewN (Below.refl _ w) q⟩
  · have hne : ((L1 : Int) != (L2 : Int)) = true := by rw [bne_iff_ne]; omega
    have HF : Hid (decide (X = Y) = false) := Lib.hid (decide_eq_false (fun h => hl (by rw [← h1, ← h2, h])))
    clear hX hY h1 h2 hz hl
    go_enter Tryd.func28, Tryd.ntmps28
    go_wp2_with fail
    go_ret
    exact ⟨by rw [HF.out]; rfl, Below.refl _ _⟩
theorem aw_bits : Bits 4 := .inr (.inr (.inl rfl))
theorem aw_bits8 : Bits 8 := .inr (.inr (.inr rfl))
theorem aw_dig : One.digits 4 (nb { data := #[60] }) = [3, 12, 0, 15] := by kernel_rfl
theorem aw_dig2 : One.digits 4 (nb { data := #[61] }) = [3, 13, 0, 14] := by kernel_rfl
theorem aw_count : count 4 1 = 4 := by kernel_rfl
theorem aw_count8 : count 8 32 = 34 := by kernel_rfl
theorem digits_aw (w : World) : Calls Tryd.prog 20 #[.agg #[.int .i64 4, .int .i64 1], .string { data := #[60] }] w fun e w' => ∃ x, e = .returned (.tuple #[x, .int .i64 0]) ∧ w'.ownsRow w.heap.size 3 1 x 4 (natV [3, 12, 0, 15]) ∧ Below w.heap.size w w' := by
  have h := digits_ok 4 { data := #[60] } aw_bits (by decide) (by decide) w
  refine h.mono ?_
  rintro e w' ⟨x, L, rfl, hL, h1, h2⟩
  rw [aw_dig] at hL h1
  subst hL
  exact ⟨x, rfl, h1, h2⟩
theorem covers_aw (w : World) : Calls Tryd.prog 21 #[.agg #[.int .i64 4, .int .i64 1], .string { data := #[60] }, .string { data := #[61] }] w fun e w' => e = .returned (.tuple #[.bool false, .int .i64 0]) ∧ Below w.heap.size w w' := by
  have h := covers_ok 4 { data := #[60] } { data := #[61] } aw_bits (by decide) (by decide) rfl w
  refine h.mono ?_
  rintro e w' ⟨rfl, h2⟩
  refine ⟨?_, h2⟩
  rw [aw_dig, aw_dig2]
  rfl
theorem chain_aw (x : ByteArray) (hx : x.size = 32) (w : World) (hL : Laid w) : Calls Tryd.prog 30 #[.int .i64 0, .int .i64 5, .int .i64 5, .string x] w fun e w' => e = .returned (.tuple #[.string x, .int .i64 0]) ∧ Below w.heap.size w w' := by
  have h := chain_ok 0 5 5 (by decide) (by decide) (by decide) x hx w hL
  refine h.mono ?_
  rintro e w' ⟨u, rfl, hu, h2⟩
  have e1 : u = x := nb_inj hu
  rw [e1]
  exact ⟨rfl, h2⟩
theorem public_aw (x : ByteArray) (hx : x.size = 32) (w : World) (hL : Laid w) : Calls Tryd.prog 34 #[.agg #[.int .i64 4, .int .i64 1], .string x] w fun e w' => ∃ u : ByteArray, e = .returned (.tuple #[.string u, .int .i64 0]) ∧ nb u = pub 4 (nb x) 4 ∧ Below w.heap.size w w' := by
  have h := public_ok 4 1 aw_bits (by decide) (by decide) x hx w hL
  rw [aw_count] at h
  exact h
theorem sign_aw (x : ByteArray) (hx : x.size = 32) (w : World) (hL : Laid w) : Calls Tryd.prog 35 #[.agg #[.int .i64 4, .int .i64 1], .string x, .string { data := #[60] }] w fun e w' => ∃ (g : Nat) (vs : List ByteArray), e = .returned (.tuple #[.slice (some ⟨g, 0, none⟩) 4 4, .int .i64 0]) ∧ vs.length = 4 ∧ vs.map nb = sign (nb x) [3, 12, 0, 15] ∧ StrsAt w' (some ⟨g, 0, none⟩) vs ∧ Below w.heap.size w w' := by
  have h := sign_ok 4 { data := #[60] } aw_bits (by decide) (by decide) x hx w hL
  refine h.mono ?_
  rintro e w' ⟨g, L, vs, rfl, h1, h2, h3, h4, _, h5⟩
  have e1 : count 4 (ByteArray.mk #[60]).size = 4 := aw_count
  rw [e1] at h2
  subst h2
  rw [aw_dig] at h3
  exact ⟨g, vs, rfl, h1, h3, h4, h5⟩
theorem verify_aw (k : ByteArray) (x : List Nat) (hk : nb k = pub 4 x 4) (g : Nat) (vs : List ByteArray) (hl : vs.length = 4) (hv : vs.map nb = sign x [3, 12, 0, 15]) (w : World) (hS : StrsAt w (some ⟨g, 0, none⟩) vs) (hL : Laid w) : Calls Tryd.prog 40 #[.agg #[.int .i64 4, .int .i64 1], .string k, .string { data := #[60] }, .slice (some ⟨g, 0, none⟩) 4 4] w fun e w' => e = .returned (.bool true) ∧ Below w.heap.size w w' := by
  have h := verify_any 4 1 k { data := #[60] } (some ⟨g, 0, none⟩) 4 4 vs hl (by decide) w hS hL
  refine h.mono ?_
  rintro e w' ⟨rfl, h2⟩
  refine ⟨?_, h2⟩
  have hA : Acc 4 1 (nb k) (nb { data := #[60] }) (vs.map nb) := by
    refine ⟨⟨by decide, by decide, by decide⟩, rfl, ?_, ?_, ?_⟩
    · rw [List.length_map, hl]; exact aw_count.symm
    · rw [hv]
      intro s hs
      obtain ⟨i, _, rfl⟩ := List.mem_map.1 hs
      exact chain_length _ _ _ _ (secret_length _ _)
    · show recover 4 (One.digits 4 (nb { data := #[60] })) (vs.map nb) = nb k
      rw [aw_dig, hv, hk]
      exact verifies 4 x [3, 12, 0, 15] (by decide)
  rw [decide_eq_true hA]
theorem chains_aw (w : World) : Calls Tryd.prog 24 #[.agg #[.int .i64 8, .int .i64 32]] w fun e w' => e = .returned (.int .i64 34) ∧ Below w.heap.size w w' := by
  have h := chains_ok 8 32 aw_bits8 (by decide) (by decide) w
  refine h.mono ?_
  rintro e w' ⟨m, rfl, hm, h2⟩
  rw [aw_count8] at hm
  subst hm
  exact ⟨rfl, h2⟩
theorem same_aw (a : Option Addr) (c g : Nat) (w : World) (hX : IntsAt w a [3, 12, 0, 15]) (hY : IntsAt w (some ⟨g, 0, none⟩) [3, 12, 0, 15]) : Calls Tryd.prog 28 #[.slice a 4 c, .slice (some ⟨g, 0, none⟩) 4 4] w fun e w' => e = .returned (.bool true) ∧ Below w.heap.size w w' := by
  refine (same_any a (some ⟨g, 0, none⟩) c 4 4 4 [3, 12, 0, 15] [3, 12, 0, 15] rfl rfl (by decide) (by decide) w hX hY (fun i => ?_)).mono ?_
  · have h : [3, 12, 0, 15].getD i 0 ≤ 15 := by
      match i with
      | 0 => decide
      | 1 => decide
      | 2 => decide
      | 3 => decide
      | n + 4 => simp
    omega
  · rintro e w' ⟨rfl, h2⟩
    exact ⟨rfl, h2⟩
set_option maxRecDepth 100000 in
set_option maxHeartbeats 2000000 in
theorem awake12 (w : World) (hL : Laid w) : Calls Tryd.prog 18 #[] w fun e w' => e = .returned (.bool true) ∧ Below w.heap.size w w' := by
  have HL := Lib.hid hL
  clear hL
  go_enter Tryd.func18, Tryd.ntmps18
  go_upto_region 2 with fail
  refine wp_over (fun W => Hid (W.heap[w.heap.size]? = some (.cells #[.int .i64 4, .int .i64 1] 25 (0, 0))) ∧ Hid (Below w.heap.size w W)) ⟨?_, ?_⟩ ?_
  · exact heap_alloc_new _ _
  · exact (Below.refl _ _).alloc (Nat.le_refl _) _
  rintro W ⟨HG, HB⟩
  obtain ⟨N, hN⟩ := ex_eq w.heap.size
  rw [hN] at HG HB ⊢
  have HN := Lib.hid hN
  clear hN
  have HWN : Hid (N + 1 ≤ W.heap.size) := Lib.hid (Array.getElem?_eq_some_iff.1 HG.out).1
  have HCE : Hid (∀ V, Below (N + 1) W V → V.cell? ⟨N, 0, none⟩ = some (.int .i64 4) ∧ V.cell? ⟨N, 1, none⟩ = some (.int .i64 1)) := Lib.hid (fun V h => by
    have hg := (h.block N (Nat.lt_succ_self _)).trans HG.out
    exact ⟨(cell_of_row _ _ _ _ _ _ hg).trans rfl, (cell_of_row _ _ _ _ _ _ hg).trans rfl⟩)
  have HLD : Hid (∀ V, Below (N + 1) W V → Laid V) := Lib.hid (fun V h => HL.out.later (HB.out.trans (h.mono (Nat.le_succ N))) (by rw [HN.out]; exact Nat.le_refl _))
  obtain ⟨c0, c1⟩ := HCE.out W (Below.refl _ _)
  go_upto_region 3 with (first
    | (with_reducible refine (digits_aw _).mono ?_
       rintro e w2 ⟨x, rfl, hown, h2⟩
       obtain ⟨a2, cp2, rfl, hl2, hc2, hI2, hnil2⟩ := own_ints hown
       have HI2 := Lib.hid hI2
       have H2 := Lib.hid (h2.mono HWN.out)
       clear h2 c0 c1 hown hl2 hc2 hI2 hnil2
       obtain ⟨c0, c1⟩ := HCE.out w2 H2.out))
  go_upto_region 5 with (first
    | (with_reducible refine (covers_aw _).mono ?_
       rintro e w3 ⟨rfl, h3⟩
       have HI3 := Lib.hid (HI2.out.later h3)
       have H3 := Lib.hid (H2.out.trans (h3.mono (by have := H2.out.size; have := HWN.out; omega)))
       clear h3 c0 c1
       obtain ⟨c0, c1⟩ := HCE.out w3 H3.out))
  obtain ⟨X, hX⟩ := ex_eq (ByteArray.mk #[48, 49, 50, 51, 52, 53, 54, 55, 56, 57, 97, 98, 99, 100, 101, 102, 48, 49, 50, 51, 52, 53, 54, 55, 56, 57, 97, 98, 99, 100, 101, 102])
  have HX : Hid (X.size = 32) := Lib.hid (by rw [← hX]; rfl)
  rw [hX]
  clear hX
  go_upto_region 6 with (first
    | (with_reducible refine (chain_aw X HX.out _ (HLD.out _ H3.out)).mono ?_
       rintro e w4 ⟨rfl, h4⟩
       have HI4 := Lib.hid (HI3.out.later h4)
       have H4 := Lib.hid (H3.out.trans (h4.mono (by have := H3.out.size; have := HWN.out; omega)))
       clear h4 c0 c1
       obtain ⟨c0, c1⟩ := HCE.out w4 H4.out))
  go_upto_region 7 with (first
    | (with_reducible refine (public_aw X HX.out _ (HLD.out _ H4.out)).mono ?_
       rintro e w5 ⟨k, rfl, hk, h5⟩
       have HKK := Lib.hid hk
       have HI5 := Lib.hid (HI4.out.later h5)
       have H5 := Lib.hid (H4.out.trans (h5.mono (by have := H4.out.size; have := HWN.out; omega)))
       clear h5 c0 c1 hk
       obtain ⟨c0, c1⟩ := HCE.out w5 H5.out))
  go_upto_region 8 with (first
    | (with_reducible refine (sign_aw X HX.out _ (HLD.out _ H5.out)).mono ?_
       rintro e w6 ⟨g, vs, rfl, hvl, hvs, hst, h6⟩
       have HVL := Lib.hid hvl
       have HVS := Lib.hid hvs
       have HST := Lib.hid hst
       have HI6 := Lib.hid (HI5.out.later h6)
       have H6 := Lib.hid (H5.out.trans (h6.mono (by have := H5.out.size; have := HWN.out; omega)))
       clear h6 c0 c1 hvl hvs hst
       obtain ⟨c0, c1⟩ := HCE.out w6 H6.out))
  have HGA : Hid (Below w6.heap.size w6 (w6.alloc (.cells #[.int .i64 3, .int .i64 12, .int .i64 0, .int .i64 15] 3)) ∧ IntsAt (w6.alloc (.cells #[.int .i64 3, .int .i64 12, .int .i64 0, .int .i64 15] 3)) (some ⟨w6.heap.size, 0, none⟩) [3, 12, 0, 15]) := Lib.hid ⟨(Below.refl _ _).alloc (Nat.le_refl _) _, .inr ⟨_, _, rfl, fun i hi => by
    rw [Nat.zero_add, cell_of_row _ _ _ _ _ _ (heap_alloc_new _ _)]
    match i, hi with
    | 0, _ => rfl
    | 1, _ => rfl
    | 2, _ => rfl
    | 3, _ => rfl⟩⟩
  have HB7 : Hid (Below (N + 1) W (w6.alloc (.cells #[.int .i64 3, .int .i64 12, .int .i64 0, .int .i64 15] 3))) := Lib.hid (H6.out.alloc (by have := H6.out.size; have := HWN.out; omega) _)
  clear c0 c1
  obtain ⟨c0, c1⟩ := HCE.out _ HB7.out
  go_wp2_with (first
    | (with_reducible refine (same_aw a2 cp2 w6.heap.size _ (HI6.out.later HGA.out.1) HGA.out.2).mono ?_
       rintro e w7 ⟨rfl, h7⟩
       have H7 := Lib.hid (HB7.out.trans (h7.mono (by have := HB7.out.size; have := HWN.out; omega)))
       have HST7 := Lib.hid ((HST.out.later HGA.out.1).later h7)
       clear h7 c0 c1
       obtain ⟨c0, c1⟩ := HCE.out w7 H7.out)
    | (with_reducible refine (verify_aw k (nb X) HKK.out g vs HVL.out HVS.out _ HST7.out (HLD.out _ H7.out)).mono ?_
       rintro e w8 ⟨rfl, h8⟩
       have H8 := Lib.hid (H7.out.trans (h8.mono (by have := H7.out.size; have := HWN.out; omega)))
       clear h8 c0 c1)
    | (with_reducible refine (chains_aw _).mono ?_
       rintro e w9 ⟨rfl, h9⟩
       have H9 := Lib.hid (H8.out.trans (h9.mono (by have := H8.out.size; have := HWN.out; omega)))
       clear h9))
  go_ret
  exact ⟨rfl, by rw [HN.out]; exact HB.out.trans (H9.out.mono (Nat.le_succ N))⟩
end Go.Proofs.YtmnendoloankgaaDoor
