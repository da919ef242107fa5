/- The helper scheme; the document's Texts and Same. -/
import Derived.Test.YtjhpdchcmfghpaaGreatDoorGf
namespace Go.Proofs.YtjhpdchcmfghpaaGreatDoor
set_option linter.unusedVariables false
set_option linter.unusedSimpArgs false
open Go.RowKit
open Kit (Chg)
open Sha (v)
open Go.Proofs.YtjhpdchcmfghpaaGreatDoor.One

set_option maxHeartbeats 1000000 in
theorem schemeH_one (x y : Nat) (b t : Nat) (hb : ∃ k : Nat, k ≤ 2 ∧ x % 3 = k ∧ 2 ^ k = b) (ht : y % 3 = t) (ht2 : t ≤ 2) (w : World) : Calls Tryz.prog 7 #[.int .u8 (x : Int), .int .u8 (y : Int)] w fun e w' => e = .returned (.agg #[.int .i64 (b : Int), .int .i64 (t : Int)]) ∧ Below w.heap.size w w' := by
  obtain ⟨k, hk, hx, hb⟩ := hb
  have h1 : (x : Int) % 3 = (k : Int) := by omega
  have h2 : (y : Int) % 3 = (t : Int) := by omega
  have hwt : IntKind.i64.wrap (t : Int) = (t : Int) := by rw [IntKind.wrap_i64]; omega
  have hk8 : k ≤ 8 := by omega
  clear hx ht
  have HB : Hid (Below w.heap.size w (w.alloc (.cells #[.int .i64 0, .int .i64 0] 28))) := Lib.hid ((Below.refl _ _).alloc (Nat.le_refl _) _)
  go_enter Tryz.func7, Tryz.ntmps7
  go_upto_region 1 with fail
  go_wp2_with fail
  have hwb : wrap64 ((2 : Int) ^ k) = (b : Int) := by
    rw [show (2 : Int) ^ k = ((2 ^ k : Nat) : Int) from (Int.natCast_pow 2 k).symm, hb]
    have h8 : 2 ^ k ≤ 2 ^ 2 := Nat.pow_le_pow_right (n := 2) (by decide) hk
    rw [hb] at h8
    exact IntWalk.wrap64_in _ ⟨by omega, by omega⟩
  rw [hwb]
  refine bodyPost_ret (results_cell_row (p := 4) rfl _ _ w.heap.size 28 #[.int .i64 (b : Int), .int .i64 (t : Int)] (0, 0) _ (by rfl) ?_ Tryz.underlying28 rfl (by kernel_rfl)) rfl ⟨rfl, ?_⟩
  · exact heap_alloc_new w (.cells #[.int .i64 (b : Int), .int .i64 (t : Int)] 28)
  · exact (Below.refl _ _).alloc (Nat.le_refl _) _
/-- The helper scheme: a valid scheme of at most four keys. -/
theorem schemeH_any (x y : Nat) : ∃ b t : Nat, Bits b ∧ b ≤ 4 ∧ t ≤ 2 ∧ ∀ w : World, Calls Tryz.prog 7 #[.int .u8 (x : Int), .int .u8 (y : Int)] w fun e w' => e = .returned (.agg #[.int .i64 (b : Int), .int .i64 (t : Int)]) ∧ Below w.heap.size w w' := by
  have h3 : x % 3 ≤ 2 := by omega
  refine ⟨2 ^ (x % 3), y % 3, ?_, ?_, by omega, fun w => schemeH_one x y _ _ ⟨x % 3, h3, rfl, rfl⟩ rfl (by omega) w⟩ <;>
  · obtain ⟨k, hk⟩ := ex_eq (x % 3)
    rw [hk] at h3 ⊢
    match k, h3 with
    | 0, _ => simp [Bits]
    | 1, _ => simp [Bits]
    | 2, _ => simp [Bits]

set_option maxRecDepth 100000 in
set_option maxHeartbeats 2000000 in
theorem texts_any (a b : Option Addr) (c1 c2 L1 L2 : Nat) (X Y : List ByteArray) (h1 : X.length = L1) (h2 : Y.length = L2) (hl1 : L1 ≤ 1000000) (hl2 : L2 ≤ 9223372036854775807) (w : World) (hX : StrsAt w a X) (hY : StrsAt w b Y) :
    Calls Tryz.prog 37 #[.slice a L1 c1, .slice b L2 c2] w fun e w' => e = .returned (.bool (decide (X = Y))) ∧ Below w.heap.size w w' := by
  by_cases hl : L1 = L2
  · subst hl
    have HX := Lib.hid hX
    have HY := Lib.hid hY
    have H1 := Lib.hid h1
    have H2 := Lib.hid h2
    clear hX hY h1 h2
    go_enter Tryz.func37, Tryz.ntmps37
    go_wp2_with fail
    go_loopw [13] (fun z wr => ∃ k : Nat, k ≤ L1 ∧ z = .int .i64 (k : Int) ∧ Drawn w wr ∧ Hid (∀ i, i < k → X.getD i ByteArray.empty = Y.getD i ByteArray.empty)) (fun z _ => L1 - (intOf z).toNat)
    case atStart => exact ⟨0, by omega, rfl, Drawn.refl _, fun i h => by omega⟩
    case round =>
      obtain ⟨k, hk, rfl, hdr, HLE⟩ := hrel
      obtain ⟨q, rfl⟩ := hdr
      by_cases hlt : k < L1
      · have hki : (k : Int) < (L1 : Int) := by omega
        obtain ⟨b2, o2, rfl, hc2⟩ : ∃ b o, a = some ⟨b, o, none⟩ ∧ ∀ i, i < X.length → w.cell? ⟨b, o + i, none⟩ = some (.string (X.getD i ByteArray.empty)) := by
          rcases HX.out with h | h
          · have := H1.out; rw [h] at this; simp at this; omega
          · exact h
        obtain ⟨b3, o3, rfl, hc3⟩ : ∃ b' o, b = some ⟨b', o, none⟩ ∧ ∀ i, i < Y.length → w.cell? ⟨b', o + i, none⟩ = some (.string (Y.getD i ByteArray.empty)) := by
          rcases HY.out with h | h
          · have := H2.out; rw [h] at this; simp at this; omega
          · exact h
        have hx : (w.drewN q).cell? ⟨b2, o2 + k, none⟩ = some (.string (X.getD k ByteArray.empty)) := hc2 k (by rw [H1.out]; exact hlt)
        have hy : (w.drewN q).cell? ⟨b3, o3 + k, none⟩ = some (.string (Y.getD k ByteArray.empty)) := hc3 k (by rw [H2.out]; exact hlt)
        obtain ⟨d, hd⟩ := ex_eq (X.getD k ByteArray.empty)
        obtain ⟨f, hf⟩ := ex_eq (Y.getD k ByteArray.empty)
        rw [hd] at hx
        rw [hf] at hy
        have HDF := Lib.hid (And.intro hd hf)
        have HTF : Hid ((d.toList == f.toList) = decide (d = f)) := Lib.hid (by
          rw [eq_str, decide_eq_decide]
          exact ⟨nb_inj, fun h => by rw [h]⟩)
        clear hc2 hc3 hd hf
        go_upto_region 6 with fail
        refine Kit.wp_region_plan (fun V => V.cell? ⟨b2, o2 + k, none⟩ = some (.string d) ∧ V.cell? ⟨b3, o3 + k, none⟩ = some (.string f)) [(true, 0), (true, 1), (true, 2), (true, 3), (true, 4), (true, 5), (true, 6), (true, 7), (true, 8)] (by kernel_rfl) (by kernel_rfl) (by kernel_rfl) (by kernel_rfl) ⟨hx, hy⟩ ?_
        repeat (refine Kit.plan_head (by rfl) (.inl ⟨by rfl, fun w' hS => by (dsimp only at hS); go_simp; (try with_reducible rfl)⟩) ?_; simp only [Act.put, List.setIfInBounds_toArray, List.set_cons_zero, List.set_cons_succ])
        refine Kit.plan_done ?_
        (try simp only [Act.put, List.setIfInBounds_toArray, List.set_cons_zero, List.set_cons_succ])
        obtain ⟨t, ht⟩ := ex_eq (!(d.toList == f.toList))
        rw [ht]
        rw [HTF.out] at ht
        by_cases hle : d = f
        · have hne : t = false := by rw [← ht, decide_eq_true hle]; rfl
          subst hne
          clear ht
          have HLF := Lib.hid hle
          clear hle
          go_wp2_with fail
          go_roundw
          case rel =>
            refine ⟨k + 1, hlt, by go_num, ⟨q + 1, rfl⟩, fun i hi => ?_⟩
            by_cases e : i = k
            · rw [e, HDF.out.1, HDF.out.2]; exact HLF.out
            · exact HLE.out i (by omega)
          case measure => simp [intOf]; omega
        · have hne : t = true := by rw [← ht, decide_eq_false hle]; rfl
          subst hne
          clear ht
          have HF : Hid (decide (X = Y) = false) := Lib.hid (decide_eq_false (fun h => hle (by rw [← HDF.out.1, ← HDF.out.2, h])))
          go_wp2_with fail
          go_ret
          exact ⟨by rw [HF.out]; rfl, by exact (below_drewN (Below.refl _ w) q).drew⟩
      · have hki : ¬ (k : Int) < (L1 : Int) := by omega
        have HF : Hid (decide (X = Y) = true) := Lib.hid (decide_eq_true (by
          refine List.ext_getElem (by rw [H1.out, H2.out]) fun i h1 h2 => ?_
          have h3 := HLE.out i (by rw [H1.out] at h1; omega)
          rwa [List.getD_eq_getElem?_getD, List.getElem?_eq_getElem h1, List.getD_eq_getElem?_getD, List.getElem?_eq_getElem h2] at h3))
        go_wp2_with fail
        go_ret
        exact ⟨by rw [HF.out]; rfl, below_drewN (Below.refl _ w) q⟩
  · have hne : ((L1 : Int) != (L2 : Int)) = true := by rw [bne_iff_ne]; omega
    have HF : Hid (decide (X = Y) = false) := Lib.hid (decide_eq_false (fun h => hl (by rw [← h1, ← h2, h])))
    clear hX hY h1 h2 hl
    go_enter Tryz.func37, Tryz.ntmps37
    go_wp2_with fail
    go_ret
    exact ⟨by rw [HF.out]; rfl, Below.refl _ _⟩
set_option maxRecDepth 100000 in
set_option maxHeartbeats 2000000 in
theorem sigSame_any (i j : Int) (a1 a2 b1 b2 : Option Addr) (n1 n2 m1 m2 c1 c2 d1 d2 : Nat) (ps qs ps' qs' : List ByteArray) (h1 : ps.length = n1) (h2 : qs.length = n2) (h3 : ps'.length = m1) (h4 : qs'.length = m2) (hn1 : n1 ≤ 1000000) (hn2 : n2 ≤ 1000000) (hm1 : m1 ≤ 1000000) (hm2 : m2 ≤ 1000000) (w : World) (hA1 : StrsAt w a1 ps) (hA2 : StrsAt w a2 qs) (hB1 : StrsAt w b1 ps') (hB2 : StrsAt w b2 qs') :
    Calls Tryz.prog 13 #[.agg #[.int .i64 i, .slice a1 n1 c1, .slice a2 n2 c2], .agg #[.int .i64 j, .slice b1 m1 d1, .slice b2 m2 d2]] w fun e w' => e = .returned (.bool (decide (i = j) && decide (ps = ps') && decide (qs = qs'))) ∧ Below w.heap.size w w' := by
  have HT1 := Lib.hid (fun w ha hb => texts_any a1 b1 c1 d1 n1 m1 ps ps' h1 h3 hn1 (by omega) w ha hb)
  have HT2 := Lib.hid (fun w ha hb => texts_any a2 b2 c2 d2 n2 m2 qs qs' h2 h4 hn2 (by omega) w ha hb)
  have HS : Hid (∀ V, Below w.heap.size w V → StrsAt V a1 ps ∧ StrsAt V b1 ps' ∧ StrsAt V a2 qs ∧ StrsAt V b2 qs') := Lib.hid (fun V h => ⟨hA1.later h, hB1.later h, hA2.later h, hB2.later h⟩)
  obtain ⟨D1, hD1⟩ := ex_eq (decide (i = j))
  obtain ⟨D2, hD2⟩ := ex_eq (decide (ps = ps'))
  obtain ⟨D3, hD3⟩ := ex_eq (decide (qs = qs'))
  have hij : (i == j) = D1 := by rw [← hD1]; by_cases h : i = j <;> simp [h]
  rw [hD1, hD2, hD3]
  rw [hD2] at HT1
  rw [hD3] at HT2
  clear hD1 hD2 hD3 hA1 hA2 hB1 hB2 h1 h2 h3 h4 hn1 hn2 hm1 hm2
  go_enter Tryz.func13, Tryz.ntmps13
  go_upto_region 1 with fail
  refine wp_over (fun W => Hid (W.heap[w.heap.size]? = some (.cells #[.int .i64 i, .slice a1 n1 c1, .slice a2 n2 c2] 24 (0, 0))) ∧ Hid (W.heap[w.heap.size + 1]? = some (.cells #[.int .i64 j, .slice b1 m1 d1, .slice b2 m2 d2] 24 (0, 0))) ∧ Hid (Below w.heap.size w W) ∧ Hid (W.heap.size = w.heap.size + 2)) ⟨?_, ?_, ?_, ?_⟩ ?_
  · exact (Below.heap_alloc _ _ _ (by simp)).trans (heap_alloc_new _ _)
  · have h := heap_alloc_new (w.alloc (.cells #[.int .i64 i, .slice a1 n1 c1, .slice a2 n2 c2] 24)) (.cells #[.int .i64 j, .slice b1 m1 d1, .slice b2 m2 d2] 24)
    rwa [World.size_alloc] at h
  · exact ((Below.refl _ _).alloc (Nat.le_refl _) _).alloc (by simp) _
  · show _ = _
    simp
  rintro W ⟨HG1, HG2, HB, HWN⟩
  obtain ⟨N, hN⟩ := ex_eq w.heap.size
  rw [hN] at HG1 HG2 HB HWN ⊢
  have HN := Lib.hid hN
  clear hN
  have HCE : Hid (∀ V, Below (N + 2) W V → V.cell? ⟨N, 0, none⟩ = some (.int .i64 i) ∧ V.cell? ⟨N, 1, none⟩ = some (.slice a1 n1 c1) ∧ V.cell? ⟨N, 2, none⟩ = some (.slice a2 n2 c2) ∧ V.cell? ⟨N + 1, 0, none⟩ = some (.int .i64 j) ∧ V.cell? ⟨N + 1, 1, none⟩ = some (.slice b1 m1 d1) ∧ V.cell? ⟨N + 1, 2, none⟩ = some (.slice b2 m2 d2)) := Lib.hid (fun V h => by
    have e1 := (h.block N (by omega)).trans HG1.out
    have e2 := (h.block (N + 1) (by omega)).trans HG2.out
    exact ⟨(cell_of_row _ _ _ _ _ _ e1).trans rfl, (cell_of_row _ _ _ _ _ _ e1).trans rfl, (cell_of_row _ _ _ _ _ _ e1).trans rfl, (cell_of_row _ _ _ _ _ _ e2).trans rfl, (cell_of_row _ _ _ _ _ _ e2).trans rfl, (cell_of_row _ _ _ _ _ _ e2).trans rfl⟩)
  have HST : Hid (∀ V V', Below (N + 2) W V → Below V.heap.size V V' → Below (N + 2) W V') := Lib.hid (fun V V' h h' => h.trans (h'.mono (by have := h.size; have := HWN.out; omega)))
  have HEND : Hid (∀ V, Below (N + 2) W V → Below w.heap.size w V) := Lib.hid (fun V h => by rw [HN.out]; exact HB.out.trans (h.mono (by omega)))
  obtain ⟨c0, c1, c2, c3, c4, c5⟩ := HCE.out W (Below.refl _ _)
  have HR0 : Hid (Below (N + 2) W W) := Lib.hid (Below.refl _ _)
  have HS0 := Lib.hid (HS.out _ (HEND.out _ HR0.out))
  cases D1
  · go_wp2_with fail
    go_ret
    exact ⟨by first | rfl | simp, HEND.out _ (Below.refl _ _)⟩
  cases D2
  · go_wp2_with (first
     | (go_at_call 37
        (refine (HT1.out W HS0.out.1 HS0.out.2.1).mono ?_)
        rintro e w2 ⟨rfl, h2⟩
        have H2 := Lib.hid (HST.out W w2 HR0.out h2)
        clear c0 c1 c2 c3 c4 c5
        obtain ⟨c0, c1, c2, c3, c4, c5⟩ := HCE.out w2 H2.out
        have HS2 := Lib.hid (HS.out w2 (HEND.out w2 H2.out))
        clear h2))
    go_ret
    exact ⟨by first | rfl | simp, HEND.out _ H2.out⟩
  · go_wp2_with (first
     | (go_at_call 37
        (refine (HT2.out w2 HS2.out.2.2.1 HS2.out.2.2.2).mono ?_)
        rintro e w3 ⟨rfl, h3⟩
        have H3 := Lib.hid (HST.out w2 w3 H2.out h3)
        clear h3)
     | (go_at_call 37
        (refine (HT1.out W HS0.out.1 HS0.out.2.1).mono ?_)
        rintro e w2 ⟨rfl, h2⟩
        have H2 := Lib.hid (HST.out W w2 HR0.out h2)
        clear c0 c1 c2 c3 c4 c5
        obtain ⟨c0, c1, c2, c3, c4, c5⟩ := HCE.out w2 H2.out
        have HS2 := Lib.hid (HS.out w2 (HEND.out w2 H2.out))
        clear h2))
    go_ret
    exact ⟨by first | rfl | simp, HEND.out _ H3.out⟩
end Go.Proofs.YtjhpdchcmfghpaaGreatDoor
