/- The document's Ends: the ends of all chains in a row. -/
import Derived.Test.YtmnendoloankgaaDoorRfc
namespace Go.Proofs.YtmnendoloankgaaDoor
set_option linter.unusedVariables false
set_option linter.unusedSimpArgs false
open Go.RowKit
open Kit (Chg)
open Sha (v)
open Go.Proofs.YtmnendoloankgaaDoor.One

theorem pow_last (b : Nat) : 2 ^ b = last b + 1 := by
  unfold last
  have := Nat.two_pow_pos b
  omega
theorem flat_snoc (l : List (List Nat)) (x : List Nat) : (l ++ [x]).flatten = l.flatten ++ x := by
  rw [List.flatten_append]; simp
set_option maxRecDepth 100000 in
set_option maxHeartbeats 2000000 in
theorem refEnds_ok (b n : Nat) (hB : Bits b) (ds : List Nat) (hds : ∀ x ∈ ds, x ≤ last b) (a1 : Option Addr) (c1 L1 : Nat) (hL1 : ds.length = L1) (a2 : Option Addr) (c2 L2 : Nat) (ss : List ByteArray) (hL2 : ss.length = L2) (hle : L2 ≤ L1) (hC : L2 ≤ 999) (hsz : ∀ s ∈ ss, s.size = 32) (w : World) (hI : IntsAt w a1 ds) (hS : StrsAt w a2 ss) (T : List Nat) (hT : endsS b ds (ss.map nb) L2 = T) :
    Calls Tryd.prog 83 #[.agg #[.int .i64 (b : Int), .int .i64 (n : Int)], .slice a1 L1 c1, .slice a2 L2 c2] w fun e w' => ∃ u : ByteArray, e = .returned (.string u) ∧ nb u = T ∧ Below w.heap.size w w' := by
  have HBA : Hid (∀ w, Calls Tryd.prog 69 #[.agg #[.int .i64 (b : Int), .int .i64 (n : Int)]] w fun e w' => e = .returned (.int .i64 ((last b : Int) + 1)) ∧ Below w.heap.size w w') := Lib.hid (fun w => by
    have h := base_any b n hB w
    rw [pow_last b, Int.natCast_add] at h
    exact h)
  have hM := last_le hB
  have HT : Hid (publicB ++ ((List.range L2).map fun i => chain i (ds.getD i 0) (last b - ds.getD i 0) ((ss.map nb).getD i [])).flatten = T) := hT
  have HL1 := Lib.hid hL1
  have HL2 := Lib.hid hL2
  have HDS := Lib.hid hds
  have HSZ := Lib.hid hsz
  have HI := Lib.hid hI
  have HS := Lib.hid hS
  obtain ⟨M, hMe⟩ := ex_eq (last b)
  rw [hMe] at HBA hM HT HDS
  clear hB hds hL1 hL2 hsz hI hS hT hMe
  go_enter Tryd.func83, Tryd.ntmps83
  go_upto_region 1 with fail
  refine wp_over (fun W => Hid (W.heap[w.heap.size]? = some (.cells #[.int .i64 (b : Int), .int .i64 (n : Int)] 23 (0, 0))) ∧ Hid (Below w.heap.size w W) ∧ Hid (W.heap.size = w.heap.size + 1)) ⟨heap_alloc_new _ _, (Below.refl _ _).alloc (Nat.le_refl _) _, by show _ = _; simp⟩ ?_
  rintro W ⟨HG, HB, HWN⟩
  have HIW := Lib.hid (HI.out.later HB.out)
  have HSW := Lib.hid (HS.out.later HB.out)
  obtain ⟨N, hN⟩ := ex_eq w.heap.size
  rw [hN] at HG HB HWN ⊢
  have HN := Lib.hid hN
  clear hN HI HS
  have HCE : Hid (∀ V, Below (N + 1) W V → V.cell? ⟨N, 0, none⟩ = some (.int .i64 (b : Int)) ∧ V.cell? ⟨N, 1, none⟩ = some (.int .i64 (n : Int))) := Lib.hid (fun V h => by
    have hg := (h.block N (Nat.lt_succ_self _)).trans HG.out
    exact ⟨(cell_of_row _ _ _ _ _ _ hg).trans rfl, (cell_of_row _ _ _ _ _ _ hg).trans rfl⟩)
  have HST : Hid (∀ V V', Below (N + 1) W V → Below V.heap.size V V' → Below (N + 1) W V') := Lib.hid (fun V V' h h' => h.trans (h'.mono (by have := h.size; have := HWN.out; omega)))
  go_upto_region 3 with fail
  go_loopw [7, 11] (fun x y wr => ∃ (k : Nat) (u : ByteArray), k ≤ L2 ∧ y = .int .i64 (k : Int) ∧ x = .string u ∧ u.size ≤ 6 + 32 * k ∧ Hid (nb u = publicB ++ ((List.range k).map fun i => chain i (ds.getD i 0) (M - ds.getD i 0) ((ss.map nb).getD i [])).flatten) ∧ Hid (Below (N + 1) W wr)) (fun _ y _ => L2 - (intOf y).toNat)
  case atStart => exact ⟨0, _, by omega, rfl, rfl, by decide, rfl, Below.refl _ _⟩
  case round =>
    obtain ⟨k, u, hk, rfl, rfl, huz, HU, HBE⟩ := hrel
    by_cases hlt : k < L2
    · have hki : (k : Int) < (L2 : Int) := by omega
      have hk9 : k ≤ 999 := by omega
      have hkL1 : k < L1 := by omega
      have hwM2 : IntKind.i64.wrap (M : Int) = (M : Int) := by rw [IntKind.wrap_i64]; omega
      have hwM : IntKind.i64.wrap ((M : Int) + 1 - 1) = (M : Int) := by rw [IntKind.wrap_i64]; omega
      have hdM : ds.getD k 0 ≤ M := HDS.out _ (getD_mem _ _ _ (by rw [HL1.out]; omega))
      have hs9 : (ss.getD k ByteArray.empty).size = 32 := HSZ.out _ (getD_mem _ _ _ (by rw [HL2.out]; omega))
      have HGM := Lib.hid (getD_map ss k (by rw [HL2.out]; exact hlt))
      obtain ⟨b1, o1, rfl, hcs⟩ : ∃ b o, a1 = some ⟨b, o, none⟩ ∧ ∀ i, i < ds.length → W.cell? ⟨b, o + i, none⟩ = some (.int .i64 ((ds.getD i 0 : Nat) : Int)) := by
        rcases HIW.out with h | h
        · have := HL1.out; rw [h] at this; simp at this; omega
        · exact h
      obtain ⟨b2, o2, rfl, hps⟩ : ∃ b o, a2 = some ⟨b, o, none⟩ ∧ ∀ i, i < ss.length → W.cell? ⟨b, o + i, none⟩ = some (.string (ss.getD i ByteArray.empty)) := by
        rcases HSW.out with h | h
        · have := HL2.out; rw [h] at this; simp at this; omega
        · exact h
      have hc := hcs k (by rw [HL1.out]; omega)
      have hp := hps k (by rw [HL2.out]; omega)
      obtain ⟨d, hd⟩ := ex_eq (ds.getD k 0)
      obtain ⟨s, hse⟩ := ex_eq (ss.getD k ByteArray.empty)
      rw [hd] at hc hdM
      rw [hse] at hp HGM hs9
      have HS32 := Lib.hid hs9
      have HSA : Hid (∀ V, Below (N + 1) W V → V.cell? ⟨N, 0, none⟩ = some (.int .i64 (b : Int)) ∧ V.cell? ⟨N, 1, none⟩ = some (.int .i64 (n : Int)) ∧ V.cell? ⟨b1, o1 + k, none⟩ = some (.int .i64 (d : Int)) ∧ V.cell? ⟨b2, o2 + k, none⟩ = some (.string s)) := Lib.hid (fun V h => by
        have h' := HCE.out V h
        exact ⟨h'.1, h'.2, (h.cell (p := ⟨b1, o1 + k, none⟩) (by have := World.block_lt_of_cell? W _ hc; rw [HWN.out] at this; exact this)).trans hc, (h.cell (p := ⟨b2, o2 + k, none⟩) (by have := World.block_lt_of_cell? W _ hp; rw [HWN.out] at this; exact this)).trans hp⟩)
      have HD := Lib.hid hd
      have HCH := Lib.hid (fun w => refChain_ok k d M hk9 hdM (by omega) s (by rw [HS32.out]; omega) w (chain k d (M - d) (nb s)) rfl)
      clear hcs hps hc hp hd hse hs9
      obtain ⟨c0, c1, c2', c3⟩ := HSA.out wr HBE.out
      go_upto_region 5 with fail
      refine Kit.wp_region_gplan (fun V => V.cell? ⟨N, 0, none⟩ = some (.int .i64 (b : Int)) ∧ V.cell? ⟨N, 1, none⟩ = some (.int .i64 (n : Int)) ∧ V.cell? ⟨b1, o1 + k, none⟩ = some (.int .i64 (d : Int)) ∧ V.cell? ⟨b2, o2 + k, none⟩ = some (.string s)) [(true, 0), (true, 1), (true, 2), (true, 3), (true, 4), (true, 5), (true, 6), (true, 9), (true, 10), (true, 11), (true, 12), (false, 7), (true, 8), (false, 13), (true, 14), (true, 15)] (by kernel_rfl) (by kernel_rfl) (by kernel_rfl) (by kernel_rfl) ⟨c0, c1, c2', c3⟩ ?_
      iterate 11 (refine Kit.gplan_head (by rfl) (.inl ⟨by rfl, fun w' hS => by (dsimp only at hS); go_simp; (try with_reducible rfl)⟩) ?_; simp only [Act.put, List.setIfInBounds_toArray, List.set_cons_zero, List.set_cons_succ])
      clear c0 c1 c2' c3
      refine Kit.gplan_op (by rfl) (by rfl) fun K hK => ?_
      go_simp
      go_at_call 69
      refine (HBA.out _).mono ?_
      rintro e w2 ⟨rfl, h2⟩
      have H2 : Hid (Below (N + 1) W w2) := Lib.hid (HST.out _ _ HBE.out ((Below.refl _ wr).drew.trans h2))
      clear h2
      refine hK _ _ (HSA.out _ H2.out) ?_
      clear hK K
      refine Kit.gplan_head (by rfl) (.inl ⟨by rfl, fun w' hS => by (dsimp only at hS); go_simp; (try with_reducible rfl)⟩) ?_
      simp only [Act.put, List.setIfInBounds_toArray, List.set_cons_zero, List.set_cons_succ]
      refine Kit.gplan_op (by rfl) (by rfl) fun K hK => ?_
      go_simp
      go_at_call 32
      with_reducible refine (HCH.out _).mono ?_
      rintro e w3 ⟨y, rfl, hy, h3⟩
      have HY := Lib.hid hy
      have hy32 : y.size ≤ 32 := by rw [← nb_length, hy, chain_length _ _ _ _ (by rw [nb_length]; exact HS32.out)]; exact Nat.le_refl _
      have hcat : ¬ 9223372036854775807 < u.size + y.size := by omega
      have H3 : Hid (Below (N + 1) W w3) := Lib.hid (HST.out _ _ H2.out h3)
      clear h3 hy
      refine hK _ _ (HSA.out _ H3.out) ?_
      clear hK K
      iterate 2 (refine Kit.gplan_head (by rfl) (.inl ⟨by rfl, fun w' hS => by (dsimp only at hS); go_simp; (try with_reducible rfl)⟩) ?_; simp only [Act.put, List.setIfInBounds_toArray, List.set_cons_zero, List.set_cons_succ])
      refine Kit.gplan_done ?_
      (try simp only [Act.put, List.setIfInBounds_toArray, List.set_cons_zero, List.set_cons_succ])
      go_wp2_with fail
      go_roundw
      case rel =>
        refine ⟨k + 1, _, hlt, by go_num, rfl, ?_, ?_, H3.out⟩
        · rw [ByteArray.size_append]; omega
        show _ = _
        rw [nb_app, HU.out, HY.out, range_snoc, flat_snoc, HD.out, HGM.out, List.append_assoc]
      case measure => simp [intOf]; omega
    · have hki : ¬ (k : Int) < (L2 : Int) := by omega
      have hke : k = L2 := by omega
      have HKE := Lib.hid hke
      clear hke
      go_wp2_with fail
      go_ret
      exact ⟨_, rfl, by rw [HU.out, HKE.out, HT.out], by rw [HN.out]; exact HB.out.trans (HBE.out.mono (Nat.le_succ N))⟩
end Go.Proofs.YtmnendoloankgaaDoor
