/- The document's Recover. -/
import Derived.Test.YtmnendoloankgaaDoorRfh
namespace Go.Proofs.YtmnendoloankgaaDoor
set_option linter.unusedVariables false
set_option linter.unusedSimpArgs false
open Go.RowKit
open Kit (Chg)
open Sha (v)
open Go.Proofs.YtmnendoloankgaaDoor.One

set_option maxRecDepth 100000 in
set_option maxHeartbeats 2000000 in
theorem refRecover_ok (b : Nat) (digest : ByteArray) (hB : Bits b) (hn : 0 < digest.size) (hn2 : digest.size ≤ 32) (a : Option Addr) (cap L : Nat) (ss : List ByteArray) (hLe : ss.length = L) (hLC : L = count b digest.size) (h32 : ∀ s ∈ ss, s.size = 32) (w : World) (hS : StrsAt w a ss) :
    Calls Tryd.prog 42 #[.agg #[.int .i64 (b : Int), .int .i64 (digest.size : Int)], .string digest, .slice a L cap] w fun e w' => ∃ u : ByteArray, e = .returned (.string u) ∧ nb u = recover b (One.digits b (nb digest)) (ss.map nb) ∧ Below w.heap.size w w' := by
  have HDG := Lib.hid (fun w => refDigits_any b digest hB hn hn2 w)
  have HDL : Hid ((One.digits b (nb digest)).length = count b digest.size) := Lib.hid (by rw [digits_length hB, nb_length])
  have HDA : ∀ x ∈ One.digits b (nb digest), x ≤ last b := fun x hx => by
    have h1 := digits_lt b _ x hx
    unfold last
    omega
  have hC := count_le hB hn2
  have HEN := Lib.hid (fun a1 c1 w hI hS => refEnds_ok b digest.size hB (One.digits b (nb digest)) HDA a1 c1 L (by rw [HDL.out]; exact hLC.symm) a cap L ss hLe (Nat.le_refl _) (by omega) h32 w hI hS (endsS b (One.digits b (nb digest)) (ss.map nb) L) rfl)
  have HSZ : Hid ((endsS b (One.digits b (nb digest)) (ss.map nb) L).length ≤ 100000) := Lib.hid (by
    rw [endsS_length _ _ _ _ (fun i hi => parts32 h32 i (by rw [hLe]; exact hi))]
    omega)
  have HRE : Hid (recover b (One.digits b (nb digest)) (ss.map nb) = Sha.sum (endsS b (One.digits b (nb digest)) (ss.map nb) L)) := Lib.hid (by
    rw [show L = (One.digits b (nb digest)).length by rw [HDL.out]; exact hLC]; rfl)
  have HS := Lib.hid hS
  rw [← hLC] at HDL
  obtain ⟨DG, hDG⟩ := ex_eq (One.digits b (nb digest))
  rw [hDG] at HDG HDL HEN HSZ HRE ⊢
  obtain ⟨E, hE⟩ := ex_eq (endsS b DG (ss.map nb) L)
  rw [hE] at HEN HSZ HRE
  obtain ⟨R, hR⟩ := ex_eq (recover b DG (ss.map nb))
  rw [hR] at HRE ⊢
  clear hB hn hn2 HDA hC hLe hLC h32 hS hDG hE hR
  go_enter Tryd.func42, Tryd.ntmps42
  go_upto_region 1 with fail
  refine wp_over (fun W => Hid (W.heap[w.heap.size]? = some (.cells #[.int .i64 (b : Int), .int .i64 (digest.size : Int)] 23 (0, 0))) ∧ Hid (Below w.heap.size w W) ∧ Hid (W.heap.size = w.heap.size + 1)) ⟨heap_alloc_new _ _, (Below.refl _ _).alloc (Nat.le_refl _) _, by show _ = _; simp⟩ ?_
  rintro W ⟨HG, HB, HWN⟩
  obtain ⟨N, hN⟩ := ex_eq w.heap.size
  rw [hN] at HG HB HWN ⊢
  have HN := Lib.hid hN
  clear hN
  have HCE : Hid (∀ V, Below (N + 1) W V → V.cell? ⟨N, 0, none⟩ = some (.int .i64 (b : Int)) ∧ V.cell? ⟨N, 1, none⟩ = some (.int .i64 (digest.size : Int))) := Lib.hid (fun V h => by
    have hg := (h.block N (Nat.lt_succ_self _)).trans HG.out
    exact ⟨(cell_of_row _ _ _ _ _ _ hg).trans rfl, (cell_of_row _ _ _ _ _ _ hg).trans rfl⟩)
  have HST : Hid (∀ V V', Below (N + 1) W V → Below V.heap.size V V' → Below (N + 1) W V') := Lib.hid (fun V V' h h' => h.trans (h'.mono (by have := h.size; have := HWN.out; omega)))
  have HEND : Hid (∀ V, Below (N + 1) W V → Below w.heap.size w V) := Lib.hid (fun V h => by rw [HN.out]; exact HB.out.trans (h.mono (Nat.le_succ N)))
  have HSW := Lib.hid (HS.out.later (by rw [HN.out]; exact HB.out))
  obtain ⟨c0, c1⟩ := HCE.out W (Below.refl _ _)
  refine Kit.wp_region_gplan (fun V => V.cell? ⟨N, 0, none⟩ = some (.int .i64 (b : Int)) ∧ V.cell? ⟨N, 1, none⟩ = some (.int .i64 (digest.size : Int))) [(true, 0), (true, 1), (true, 2), (true, 4), (false, 3), (false, 5), (false, 6), (false, 7), (true, 8)] (by kernel_rfl) (by kernel_rfl) (by kernel_rfl) (by kernel_rfl) ⟨c0, c1⟩ ?_
  iterate 4 (refine Kit.gplan_head (by rfl) (.inl ⟨by rfl, fun w' hS => by (dsimp only at hS); go_simp; (try with_reducible rfl)⟩) ?_; simp only [Act.put, List.setIfInBounds_toArray, List.set_cons_zero, List.set_cons_succ])
  clear c0 c1
  refine Kit.gplan_op (by rfl) (by rfl) fun K hK => ?_
  go_simp
  go_at_call 27
  refine (HDG.out _).mono ?_
  rintro e w2 ⟨x, L2, rfl, hL, hown, h2⟩
  rw [HDL.out] at hL
  have hL3 := hL.symm
  subst hL3
  obtain ⟨a2, cp2, rfl, hl2, hc2, hI2, hnil2⟩ := own_ints hown
  have HI2 := Lib.hid hI2
  have HS2 := Lib.hid (HSW.out.later ((Below.refl _ W).drew.trans h2))
  have H2 : Hid (Below (N + 1) W w2) := Lib.hid (HST.out _ _ (Below.refl _ _) ((Below.refl _ W).drew.trans h2))
  clear h2 hown hl2 hc2 hI2 hnil2 hL
  refine hK _ _ (HCE.out _ H2.out) ?_
  clear hK K
  refine Kit.gplan_op (by rfl) (by rfl) fun K hK => ?_
  go_simp
  go_at_call 83
  refine (HEN.out a2 cp2 w2 HI2.out HS2.out).mono ?_
  rintro e w4 ⟨u4, rfl, hu4, h4⟩
  have HU4 := Lib.hid hu4
  have H4 : Hid (Below (N + 1) W w4) := Lib.hid (HST.out _ _ H2.out h4)
  have hsz : u4.size ≤ 100000 := by
    rw [← nb_length, hu4]
    exact HSZ.out
  clear h4 hu4
  refine hK _ _ (HCE.out _ H4.out) ?_
  clear hK K
  obtain ⟨L4, hL4⟩ := ex_eq u4.size
  rw [hL4] at hsz
  obtain ⟨cp5, w5, hcv5, hle5, hB5, h5⟩ := str_at w4 u4 (by rw [hL4]; unfold maxLen; omega) hL4
  have HB5 := Lib.hid hB5
  have HL4 := Lib.hid hL4
  have H5 : Hid (Below (N + 1) W w5) := Lib.hid (HST.out _ _ H4.out h5)
  clear hB5 hL4 h5 hle5
  refine Kit.gplan_op (by rfl) (by rfl) fun K hK => ?_
  go_simp
  refine hK _ _ (HCE.out _ H5.out) ?_
  clear hK K hcv5
  refine Kit.gplan_op (by rfl) (by rfl) fun K hK => ?_
  go_simp
  go_at_call 78
  refine (refSum_l (some ⟨w4.heap.size, 0, none⟩) cp5 (nb u4) L4 (by rw [nb_length]; exact HL4.out) (fun e => by cases e) (by omega) w5 HB5.out).mono ?_
  rintro e w6 ⟨u6, rfl, hu6, h6⟩
  have HU6 : Hid (nb u6 = R) := Lib.hid (by rw [hu6, HU4.out, HRE.out])
  have H6 : Hid (Below (N + 1) W w6) := Lib.hid (HST.out _ _ H5.out h6)
  clear h6 hu6
  refine hK _ _ (HCE.out _ H6.out) ?_
  clear hK K
  refine Kit.gplan_head (by rfl) (.inl ⟨by rfl, fun w' hS => by (dsimp only at hS); go_simp; (try with_reducible rfl)⟩) ?_
  refine Kit.gplan_done ?_
  (try simp only [Act.put, List.setIfInBounds_toArray, List.set_cons_zero, List.set_cons_succ])
  go_wp2_with fail
  go_ret
  exact ⟨u6, rfl, HU6.out, HEND.out _ H6.out⟩
end Go.Proofs.YtmnendoloankgaaDoor
