/- The law Binds, walked. -/
import Derived.Test.YtmnendoloankgaaDoorLwG
namespace Go.Proofs.YtmnendoloankgaaDoor
set_option linter.unusedVariables false
set_option linter.unusedSimpArgs false
open Go.RowKit
open Kit (Chg)
open Sha (v)
open Go.Proofs.YtmnendoloankgaaDoor.One

set_option maxRecDepth 100000 in
set_option maxHeartbeats 2000000 in
theorem nofit_OnetimeBinds (B S : Int) (seed dg : ByteArray) (ot : ByteArray) (hf : ¬ Fits B S (nb seed) (nb dg)) (w : World) (hL : Laid w) :
    Calls Tryd.prog 11 #[.agg #[.int .i64 (B), .int .i64 (S)], .string seed, .string dg, .string ot] w fun e w' => e = .returned (.bool true) ∧ Below w.heap.size w w' := by
  have HL := Lib.hid hL
  have HF := Lib.hid (fun w => fits_any B S seed dg w)
  rw [decide_eq_false hf] at HF
  clear hL hf
  go_enter Tryd.func11, Tryd.ntmps11
  go_upto_region 1 with fail
  refine wp_over (fun W => Hid (W.heap[w.heap.size]? = some (.cells #[.int .i64 (B), .int .i64 (S)] 23 (0, 0))) ∧ Hid (Below w.heap.size w W) ∧ Hid (W.heap.size = w.heap.size + 1)) ⟨heap_alloc_new _ _, (Below.refl _ _).alloc (Nat.le_refl _) _, by show _ = _; simp⟩ ?_
  rintro W ⟨HG, HB, HWN⟩
  obtain ⟨N, hN⟩ := ex_eq w.heap.size
  rw [hN] at HG HB HWN ⊢
  have HN := Lib.hid hN
  clear hN
  have HCE : Hid (∀ V, Below (N + 1) W V → V.cell? ⟨N, 0, none⟩ = some (.int .i64 (B)) ∧ V.cell? ⟨N, 1, none⟩ = some (.int .i64 (S))) := Lib.hid (fun V h => by
    have hg := (h.block N (Nat.lt_succ_self _)).trans HG.out
    exact ⟨(cell_of_row _ _ _ _ _ _ hg).trans rfl, (cell_of_row _ _ _ _ _ _ hg).trans rfl⟩)
  have HST : Hid (∀ V V', Below (N + 1) W V → Below V.heap.size V V' → Below (N + 1) W V') := Lib.hid (fun V V' h h' => h.trans (h'.mono (by have := h.size; have := HWN.out; omega)))
  have HEND : Hid (∀ V, Below (N + 1) W V → Below w.heap.size w V) := Lib.hid (fun V h => by rw [HN.out]; exact HB.out.trans (h.mono (Nat.le_succ N)))
  have HLD : Hid (∀ V, Below (N + 1) W V → Laid V) := Lib.hid (fun V h => HL.out.later (HEND.out V h) (Nat.le_refl _))
  have HCUR : Hid (Below (N + 1) W W) := Lib.hid (Below.refl _ _)
  obtain ⟨c0, c1⟩ := HCE.out _ HCUR.out
  go_wp2_with (first
    | (go_at_call 18
       (with_reducible refine (awake12 _ (HLD.out _ HCUR.out)).mono ?_)
       rintro e w2 ⟨rfl, h2⟩
       replace HCUR := Lib.hid (HST.out _ _ HCUR.out h2)
       (try replace HPV := Lib.hid (HPV.out.later h2))
       (try replace HSV := Lib.hid (HSV.out.later h2))
       clear h2
       (try clear c0 c1)
       obtain ⟨c0, c1⟩ := HCE.out _ HCUR.out)
    | (go_at_call 43
       (with_reducible refine (HF.out _).mono ?_)
       rintro e w3 ⟨rfl, h3⟩
       replace HCUR := Lib.hid (HST.out _ _ HCUR.out h3)
       (try replace HPV := Lib.hid (HPV.out.later h3))
       (try replace HSV := Lib.hid (HSV.out.later h3))
       clear h3
       (try clear c0 c1)
       obtain ⟨c0, c1⟩ := HCE.out _ HCUR.out))
  go_ret
  exact ⟨by first | rfl | simp, HEND.out _ HCUR.out⟩
set_option maxRecDepth 100000 in
set_option maxHeartbeats 2000000 in
theorem binds_size (b : Nat) (hB : Bits b) (seed dg : ByteArray) (hn : 0 < dg.size) (hn2 : dg.size ≤ 32) (hs : seed.size = 32) (hSm : SP (b : Int) (dg.size : Int)) (ot : ByteArray) (ho : ¬ ot.size = dg.size) (w : World) (hL : Laid w) :
    Calls Tryd.prog 11 #[.agg #[.int .i64 (b : Int), .int .i64 (dg.size : Int)], .string seed, .string dg, .string ot] w fun e w' => e = .returned (.bool true) ∧ Below w.heap.size w w' := by
  have HL := Lib.hid hL
  have HF := Lib.hid (fun w => fits_any (b : Int) (dg.size : Int) seed dg w)
  rw [show decide (Fits (b : Int) (dg.size : Int) (nb seed) (nb dg)) = true from decide_eq_true ⟨vp_of hB hn hn2, hSm, by rw [nb_length]; exact hs, by rw [nb_length]⟩] at HF
  have hol : (((ot.size : Nat) : Int) != (dg.size : Int)) = true := by rw [bne_iff_ne]; omega
  clear hL hs hB hn hn2 hSm ho
  go_enter Tryd.func11, Tryd.ntmps11
  go_upto_region 1 with fail
  refine wp_over (fun W => Hid (W.heap[w.heap.size]? = some (.cells #[.int .i64 (b : Int), .int .i64 (dg.size : Int)] 23 (0, 0))) ∧ Hid (Below w.heap.size w W) ∧ Hid (W.heap.size = w.heap.size + 1)) ⟨heap_alloc_new _ _, (Below.refl _ _).alloc (Nat.le_refl _) _, by show _ = _; simp⟩ ?_
  rintro W ⟨HG, HB, HWN⟩
  obtain ⟨N, hN⟩ := ex_eq w.heap.size
  rw [hN] at HG HB HWN ⊢
  have HN := Lib.hid hN
  clear hN
  have HCE : Hid (∀ V, Below (N + 1) W V → V.cell? ⟨N, 0, none⟩ = some (.int .i64 (b : Int)) ∧ V.cell? ⟨N, 1, none⟩ = some (.int .i64 (dg.size : Int))) := Lib.hid (fun V h => by
    have hg := (h.block N (Nat.lt_succ_self _)).trans HG.out
    exact ⟨(cell_of_row _ _ _ _ _ _ hg).trans rfl, (cell_of_row _ _ _ _ _ _ hg).trans rfl⟩)
  have HST : Hid (∀ V V', Below (N + 1) W V → Below V.heap.size V V' → Below (N + 1) W V') := Lib.hid (fun V V' h h' => h.trans (h'.mono (by have := h.size; have := HWN.out; omega)))
  have HEND : Hid (∀ V, Below (N + 1) W V → Below w.heap.size w V) := Lib.hid (fun V h => by rw [HN.out]; exact HB.out.trans (h.mono (Nat.le_succ N)))
  have HLD : Hid (∀ V, Below (N + 1) W V → Laid V) := Lib.hid (fun V h => HL.out.later (HEND.out V h) (Nat.le_refl _))
  have HCUR : Hid (Below (N + 1) W W) := Lib.hid (Below.refl _ _)
  obtain ⟨c0, c1⟩ := HCE.out _ HCUR.out
  go_wp2_with (first
    | (go_at_call 18
       (with_reducible refine (awake12 _ (HLD.out _ HCUR.out)).mono ?_)
       rintro e w2 ⟨rfl, h2⟩
       replace HCUR := Lib.hid (HST.out _ _ HCUR.out h2)
       (try replace HSV := Lib.hid (HSV.out.later h2))
       clear h2
       (try clear c0 c1)
       obtain ⟨c0, c1⟩ := HCE.out _ HCUR.out)
    | (go_at_call 43
       (with_reducible refine (HF.out _).mono ?_)
       rintro e w3 ⟨rfl, h3⟩
       replace HCUR := Lib.hid (HST.out _ _ HCUR.out h3)
       (try replace HSV := Lib.hid (HSV.out.later h3))
       clear h3
       (try clear c0 c1)
       obtain ⟨c0, c1⟩ := HCE.out _ HCUR.out))
  go_ret
  exact ⟨by first | rfl | simp, HEND.out _ HCUR.out⟩
set_option maxRecDepth 100000 in
set_option maxHeartbeats 2000000 in
theorem binds_same (b : Nat) (hB : Bits b) (seed dg : ByteArray) (hn : 0 < dg.size) (hn2 : dg.size ≤ 32) (hs : seed.size = 32) (hSm : SP (b : Int) (dg.size : Int)) (ot : ByteArray) (ho : ot = dg) (w : World) (hL : Laid w) :
    Calls Tryd.prog 11 #[.agg #[.int .i64 (b : Int), .int .i64 (dg.size : Int)], .string seed, .string dg, .string ot] w fun e w' => e = .returned (.bool true) ∧ Below w.heap.size w w' := by
  have HL := Lib.hid hL
  subst ho
  have HF := Lib.hid (fun w => fits_any (b : Int) (ot.size : Int) seed ot w)
  rw [show decide (Fits (b : Int) (ot.size : Int) (nb seed) (nb ot)) = true from decide_eq_true ⟨vp_of hB hn hn2, hSm, by rw [nb_length]; exact hs, by rw [nb_length]⟩] at HF
  have hol : (((ot.size : Nat) : Int) != (ot.size : Int)) = false := by simp
  have hoe : (ot.toList == ot.toList) = true := by simp
  clear hL hs hB hn hn2 hSm
  go_enter Tryd.func11, Tryd.ntmps11
  go_upto_region 1 with fail
  refine wp_over (fun W => Hid (W.heap[w.heap.size]? = some (.cells #[.int .i64 (b : Int), .int .i64 (ot.size : Int)] 23 (0, 0))) ∧ Hid (Below w.heap.size w W) ∧ Hid (W.heap.size = w.heap.size + 1)) ⟨heap_alloc_new _ _, (Below.refl _ _).alloc (Nat.le_refl _) _, by show _ = _; simp⟩ ?_
  rintro W ⟨HG, HB, HWN⟩
  obtain ⟨N, hN⟩ := ex_eq w.heap.size
  rw [hN] at HG HB HWN ⊢
  have HN := Lib.hid hN
  clear hN
  have HCE : Hid (∀ V, Below (N + 1) W V → V.cell? ⟨N, 0, none⟩ = some (.int .i64 (b : Int)) ∧ V.cell? ⟨N, 1, none⟩ = some (.int .i64 (ot.size : Int))) := Lib.hid (fun V h => by
    have hg := (h.block N (Nat.lt_succ_self _)).trans HG.out
    exact ⟨(cell_of_row _ _ _ _ _ _ hg).trans rfl, (cell_of_row _ _ _ _ _ _ hg).trans rfl⟩)
  have HST : Hid (∀ V V', Below (N + 1) W V → Below V.heap.size V V' → Below (N + 1) W V') := Lib.hid (fun V V' h h' => h.trans (h'.mono (by have := h.size; have := HWN.out; omega)))
  have HEND : Hid (∀ V, Below (N + 1) W V → Below w.heap.size w V) := Lib.hid (fun V h => by rw [HN.out]; exact HB.out.trans (h.mono (Nat.le_succ N)))
  have HLD : Hid (∀ V, Below (N + 1) W V → Laid V) := Lib.hid (fun V h => HL.out.later (HEND.out V h) (Nat.le_refl _))
  have HCUR : Hid (Below (N + 1) W W) := Lib.hid (Below.refl _ _)
  obtain ⟨c0, c1⟩ := HCE.out _ HCUR.out
  go_wp2_with (first
    | (go_at_call 18
       (with_reducible refine (awake12 _ (HLD.out _ HCUR.out)).mono ?_)
       rintro e w2 ⟨rfl, h2⟩
       replace HCUR := Lib.hid (HST.out _ _ HCUR.out h2)
       (try replace HSV := Lib.hid (HSV.out.later h2))
       clear h2
       (try clear c0 c1)
       obtain ⟨c0, c1⟩ := HCE.out _ HCUR.out)
    | (go_at_call 43
       (with_reducible refine (HF.out _).mono ?_)
       rintro e w3 ⟨rfl, h3⟩
       replace HCUR := Lib.hid (HST.out _ _ HCUR.out h3)
       (try replace HSV := Lib.hid (HSV.out.later h3))
       clear h3
       (try clear c0 c1)
       obtain ⟨c0, c1⟩ := HCE.out _ HCUR.out))
  go_ret
  exact ⟨by first | rfl | simp, HEND.out _ HCUR.out⟩
theorem vf_sign (b n : Nat) (k ot : ByteArray) (g C : Nat) (vs : List ByteArray) (hl : vs.length = C) (hC : C ≤ 269) (T : List Nat) (hk : nb k = T) (SGN : List (List Nat)) (hv : vs.map nb = SGN) (w : World) (hS : StrsAt w (some ⟨g, 0, none⟩) vs) (hL : Laid w) :
    Calls Tryd.prog 40 #[.agg #[.int .i64 (b : Int), .int .i64 (n : Int)], .string k, .string ot, .slice (some ⟨g, 0, none⟩) C C] w fun e w' => e = .returned (.bool (decide (Acc (b : Int) (n : Int) T (nb ot) SGN))) ∧ Below w.heap.size w w' := by
  have h := verify_any (b : Int) (n : Int) k ot (some ⟨g, 0, none⟩) C C vs hl (by omega) w hS hL
  rw [hk, hv] at h
  exact h
set_option maxRecDepth 100000 in
set_option maxHeartbeats 2000000 in
theorem binds_refused (b : Nat) (hB : Bits b) (seed dg : ByteArray) (hn : 0 < dg.size) (hn2 : dg.size ≤ 32) (hs : seed.size = 32) (hSm : SP (b : Int) (dg.size : Int)) (ot : ByteArray) (ho : ot.size = dg.size) (hne : ot ≠ dg) (hA : ¬ Acc (b : Int) (dg.size : Int) (pub b (nb seed) (count b dg.size)) (nb ot) (sign (nb seed) (One.digits b (nb dg)))) (w : World) (hL : Laid w) :
    Calls Tryd.prog 11 #[.agg #[.int .i64 (b : Int), .int .i64 (dg.size : Int)], .string seed, .string dg, .string ot] w fun e w' => e = .returned (.bool true) ∧ Below w.heap.size w w' := by
  have HL := Lib.hid hL
  have HF := Lib.hid (fun w => fits_any (b : Int) (dg.size : Int) seed dg w)
  rw [show decide (Fits (b : Int) (dg.size : Int) (nb seed) (nb dg)) = true from decide_eq_true ⟨vp_of hB hn hn2, hSm, by rw [nb_length]; exact hs, by rw [nb_length]⟩] at HF
  have HPK := Lib.hid (fun w hL => public_ok b dg.size hB hn hn2 seed hs w hL)
  have HSG := Lib.hid (fun w hL => sign_ok b dg hB hn hn2 seed hs w hL)
  have hC := count_le hB hn2
  have hM := last_le hB
  have HCD : Hid ((One.digits b (nb dg)).length = count b dg.size) := Lib.hid (by rw [digits_length hB, nb_length])
  have hol : (((ot.size : Nat) : Int) != (dg.size : Int)) = false := by rw [ho]; simp
  have hoe : (ot.toList == dg.toList) = false := by
    rw [eq_str]
    exact decide_eq_false (fun e => hne (nb_inj e))
  obtain ⟨T, hT⟩ := ex_eq (pub b (nb seed) (count b dg.size))
  rw [hT] at HPK hA
  obtain ⟨SGN, hSGN⟩ := ex_eq (sign (nb seed) (One.digits b (nb dg)))
  rw [hSGN] at HSG hA
  have HVF0 := Lib.hid (fun k hk g vs hl hv w hS hL => vf_sign b dg.size k ot g (count b dg.size) vs hl (by omega) T hk SGN hv w hS hL)
  obtain ⟨C, hCe⟩ := ex_eq (count b dg.size)
  have HCQ := Lib.hid hCe
  rw [hCe] at hC HVF0
  rw [decide_eq_false hA] at HVF0
  have HVF := HVF0
  clear HVF0
  clear hL hs hT hB hn hn2 hCe hSGN hA hne hSm ho
  go_enter Tryd.func11, Tryd.ntmps11
  go_upto_region 1 with fail
  refine wp_over (fun W => Hid (W.heap[w.heap.size]? = some (.cells #[.int .i64 (b : Int), .int .i64 (dg.size : Int)] 23 (0, 0))) ∧ Hid (Below w.heap.size w W) ∧ Hid (W.heap.size = w.heap.size + 1)) ⟨heap_alloc_new _ _, (Below.refl _ _).alloc (Nat.le_refl _) _, by show _ = _; simp⟩ ?_
  rintro W ⟨HG, HB, HWN⟩
  obtain ⟨N, hN⟩ := ex_eq w.heap.size
  rw [hN] at HG HB HWN ⊢
  have HN := Lib.hid hN
  clear hN
  have HCE : Hid (∀ V, Below (N + 1) W V → V.cell? ⟨N, 0, none⟩ = some (.int .i64 (b : Int)) ∧ V.cell? ⟨N, 1, none⟩ = some (.int .i64 (dg.size : Int))) := Lib.hid (fun V h => by
    have hg := (h.block N (Nat.lt_succ_self _)).trans HG.out
    exact ⟨(cell_of_row _ _ _ _ _ _ hg).trans rfl, (cell_of_row _ _ _ _ _ _ hg).trans rfl⟩)
  have HST : Hid (∀ V V', Below (N + 1) W V → Below V.heap.size V V' → Below (N + 1) W V') := Lib.hid (fun V V' h h' => h.trans (h'.mono (by have := h.size; have := HWN.out; omega)))
  have HEND : Hid (∀ V, Below (N + 1) W V → Below w.heap.size w V) := Lib.hid (fun V h => by rw [HN.out]; exact HB.out.trans (h.mono (Nat.le_succ N)))
  have HLD : Hid (∀ V, Below (N + 1) W V → Laid V) := Lib.hid (fun V h => HL.out.later (HEND.out V h) (Nat.le_refl _))
  have HCUR : Hid (Below (N + 1) W W) := Lib.hid (Below.refl _ _)
  obtain ⟨c0, c1⟩ := HCE.out _ HCUR.out
  go_wp2_with (first
    | (go_at_call 18
       (with_reducible refine (awake12 _ (HLD.out _ HCUR.out)).mono ?_)
       rintro e w2 ⟨rfl, h2⟩
       replace HCUR := Lib.hid (HST.out _ _ HCUR.out h2)
       (try replace HSV := Lib.hid (HSV.out.later h2))
       clear h2
       (try clear c0 c1)
       obtain ⟨c0, c1⟩ := HCE.out _ HCUR.out)
    | (go_at_call 43
       (with_reducible refine (HF.out _).mono ?_)
       rintro e w3 ⟨rfl, h3⟩
       replace HCUR := Lib.hid (HST.out _ _ HCUR.out h3)
       (try replace HSV := Lib.hid (HSV.out.later h3))
       clear h3
       (try clear c0 c1)
       obtain ⟨c0, c1⟩ := HCE.out _ HCUR.out)
    | (go_at_call 19
       (with_reducible refine (params_any (b : Int) (dg.size : Int) _).mono ?_)
       rintro e w5 ⟨rfl, h5⟩
       replace HCUR := Lib.hid (HST.out _ _ HCUR.out h5)
       (try replace HSV := Lib.hid (HSV.out.later h5))
       clear h5
       (try clear c0 c1)
       obtain ⟨c0, c1⟩ := HCE.out _ HCUR.out)
    | (go_at_call 34
       (with_reducible refine (HPK.out _ (HLD.out _ HCUR.out)).mono ?_)
       rintro e w6 ⟨k6, rfl, hk6, h6⟩
       have HK6 := Lib.hid hk6
       have hkk6 : (k6.toList == k6.toList) = true := by simp
       clear hk6
       (try replace HPV := Lib.hid (HPV.out.later h6))
       replace HCUR := Lib.hid (HST.out _ _ HCUR.out h6)
       (try replace HSV := Lib.hid (HSV.out.later h6))
       clear h6
       (try clear c0 c1)
       obtain ⟨c0, c1⟩ := HCE.out _ HCUR.out)
    | (go_at_call 35
       (with_reducible refine (HSG.out _ (HLD.out _ HCUR.out)).mono ?_)
       rintro e w7 ⟨g7, L7, vs7, rfl, hvl7, hLC7, hvs7, hst7, _, h7⟩
       rw [HCQ.out] at hLC7
       have hLC8 := hLC7.symm
       subst hLC8
       have HVL := Lib.hid hvl7
       have HVS := Lib.hid hvs7
       have HSV := Lib.hid hst7
       clear hvl7 hvs7 hst7 hLC7
       (try replace HPV := Lib.hid (HPV.out.later h7))
       replace HCUR := Lib.hid (HST.out _ _ HCUR.out h7)
       clear h7
       (try clear c0 c1)
       obtain ⟨c0, c1⟩ := HCE.out _ HCUR.out)
    | (go_at_call 40
       (with_reducible refine (HVF.out _ HK6.out g7 vs7 HVL.out HVS.out _ HSV.out (HLD.out _ HCUR.out)).mono ?_)
       rintro e w9 ⟨rfl, h9⟩
       replace HCUR := Lib.hid (HST.out _ _ HCUR.out h9)
       (try replace HSV := Lib.hid (HSV.out.later h9))
       clear h9
       (try clear c0 c1)
       obtain ⟨c0, c1⟩ := HCE.out _ HCUR.out))
  go_ret
  exact ⟨by first | rfl | simp, HEND.out _ HCUR.out⟩
set_option maxRecDepth 100000 in
set_option maxHeartbeats 2000000 in
theorem binds_other (b : Nat) (hB : Bits b) (seed dg : ByteArray) (hn : 0 < dg.size) (hn2 : dg.size ≤ 32) (hs : seed.size = 32) (hSm : SP (b : Int) (dg.size : Int)) (ot : ByteArray) (ho : ot.size = dg.size) (hne : ot ≠ dg) (hA : Acc (b : Int) (dg.size : Int) (pub b (nb seed) (count b dg.size)) (nb ot) (sign (nb seed) (One.digits b (nb dg)))) (w : World) (hL : Laid w) :
    Calls Tryd.prog 11 #[.agg #[.int .i64 (b : Int), .int .i64 (dg.size : Int)], .string seed, .string dg, .string ot] w fun e w' => e = .returned (.bool true) ∧ Below w.heap.size w w' := by
  have HL := Lib.hid hL
  have HF := Lib.hid (fun w => fits_any (b : Int) (dg.size : Int) seed dg w)
  rw [show decide (Fits (b : Int) (dg.size : Int) (nb seed) (nb dg)) = true from decide_eq_true ⟨vp_of hB hn hn2, hSm, by rw [nb_length]; exact hs, by rw [nb_length]⟩] at HF
  have HPK := Lib.hid (fun w hL => public_ok b dg.size hB hn hn2 seed hs w hL)
  have HSG := Lib.hid (fun w hL => sign_ok b dg hB hn hn2 seed hs w hL)
  have hC := count_le hB hn2
  have hM := last_le hB
  have HCD : Hid ((One.digits b (nb dg)).length = count b dg.size) := Lib.hid (by rw [digits_length hB, nb_length])
  have hOD : (One.digits b (nb ot)).length = (One.digits b (nb dg)).length := by rw [digits_length hB, digits_length hB, nb_length, nb_length, ho]
  have hrec : recover b (One.digits b (nb ot)) (sign (nb seed) (One.digits b (nb dg))) = pub b (nb seed) (One.digits b (nb ot)).length := by
    have h := hA.2.2.2.2
    rw [Int.toNat_natCast] at h
    rw [h, hOD, HCD.out]
  obtain ⟨i, hi⟩ : ∃ i, ¬ (One.digits b (nb dg)).getD i 0 ≤ (One.digits b (nb ot)).getD i 0 := Classical.byContradiction fun h => hne (nb_inj (covered hB (nb dg) (nb ot) (by rw [nb_length, nb_length, ho]) (by rw [nb_length]; exact hn) (nb_lt dg) (nb_lt ot) (fun i => Classical.byContradiction fun h2 => h ⟨i, h2⟩))).symm
  have hil : i < (One.digits b (nb dg)).length := Classical.byContradiction fun h => hi (by rw [List.getD_eq_getElem?_getD, List.getElem?_eq_none (by omega)]; exact Nat.zero_le _)
  have hcol : Coll (One.summed b (nb seed) (One.digits b (nb ot)) (sign (nb seed) (One.digits b (nb dg)))) := One.binds hOD (digits_le _) (digits_le _) (by rw [nb_length]; omega) (by rw [HCD.out]; omega) (by omega) hrec i hil (by omega)
  have HPT : Hid (∀ g (vs : List ByteArray), vs.length = count b dg.size → vs.map nb = sign (nb seed) (One.digits b (nb dg)) → ∀ w, StrsAt w (some ⟨g, 0, none⟩) vs → Calls Tryd.prog 41 #[.agg #[.int .i64 (b : Int), .int .i64 (dg.size : Int)], .slice (some ⟨g, 0, none⟩) (count b dg.size) (count b dg.size)] w fun e w' => e = .returned (.bool true) ∧ Below w.heap.size w w') := Lib.hid (fun g vs hl hv w hS => by
    have h := refParts_any b dg.size hB hn hn2 (some ⟨g, 0, none⟩) (count b dg.size) (count b dg.size) vs hl (by omega) w hS
    rw [decide_eq_true ⟨rfl, sign_parts hv⟩] at h
    exact h)
  have HSU : Hid (∀ g (vs : List ByteArray), vs.length = count b dg.size → vs.map nb = sign (nb seed) (One.digits b (nb dg)) → ∀ w, StrsAt w (some ⟨g, 0, none⟩) vs → Calls Tryd.prog 45 #[.agg #[.int .i64 (b : Int), .int .i64 (dg.size : Int)], .string seed, .string ot, .slice (some ⟨g, 0, none⟩) (count b dg.size) (count b dg.size)] w fun e w' => ∃ (x : Value) (L2 : Nat) (vs2 : List ByteArray), e = .returned x ∧ vs2.map nb = One.summed b (nb seed) (One.digits b (nb ot)) (sign (nb seed) (One.digits b (nb dg))) ∧ vs2.length = L2 ∧ w'.ownsRow w.heap.size 9 1 x L2 (strV vs2) ∧ Below w.heap.size w w') := Lib.hid (fun g vs hl hv w hS => by
    have h := summed_ok b hB seed ot hs (by omega) (by omega) (some ⟨g, 0, none⟩) (count b dg.size) (count b dg.size) vs hl (by rw [ho]) (sign_parts hv) w hS
    rw [ho, hv] at h
    exact h)
  have HCO := Lib.hid (collides_of b (nb seed) (One.digits b (nb ot)) (sign (nb seed) (One.digits b (nb dg))) (by rw [nb_length]; omega) (by rw [hOD, HCD.out]; exact hC) (by rw [sign_length, HCD.out]; exact hC) hM (fun p hp => by
    obtain ⟨i, _, rfl⟩ := List.mem_map.1 hp
    exact chain_length _ _ _ _ (secret_length _ _)) (digits_le _) hcol)
  obtain ⟨SU, hSU⟩ := ex_eq (One.summed b (nb seed) (One.digits b (nb ot)) (sign (nb seed) (One.digits b (nb dg))))
  rw [hSU] at HSU HCO
  clear hrec hcol hSU hi hil hOD
  have hol : (((ot.size : Nat) : Int) != (dg.size : Int)) = false := by rw [ho]; simp
  have hoe : (ot.toList == dg.toList) = false := by
    rw [eq_str]
    exact decide_eq_false (fun e => hne (nb_inj e))
  obtain ⟨T, hT⟩ := ex_eq (pub b (nb seed) (count b dg.size))
  rw [hT] at HPK hA
  obtain ⟨SGN, hSGN⟩ := ex_eq (sign (nb seed) (One.digits b (nb dg)))
  rw [hSGN] at HSG hA HPT HSU
  have HVF0 := Lib.hid (fun k hk g vs hl hv w hS hL => vf_sign b dg.size k ot g (count b dg.size) vs hl (by omega) T hk SGN hv w hS hL)
  obtain ⟨C, hCe⟩ := ex_eq (count b dg.size)
  have HCQ := Lib.hid hCe
  rw [hCe] at hC HVF0 HPT HSU
  rw [decide_eq_true hA] at HVF0
  have HVF := HVF0
  clear HVF0
  clear hL hs hT hB hn hn2 hCe hSGN hA hne hSm ho
  go_enter Tryd.func11, Tryd.ntmps11
  go_upto_region 1 with fail
  refine wp_over (fun W => Hid (W.heap[w.heap.size]? = some (.cells #[.int .i64 (b : Int), .int .i64 (dg.size : Int)] 23 (0, 0))) ∧ Hid (Below w.heap.size w W) ∧ Hid (W.heap.size = w.heap.size + 1)) ⟨heap_alloc_new _ _, (Below.refl _ _).alloc (Nat.le_refl _) _, by show _ = _; simp⟩ ?_
  rintro W ⟨HG, HB, HWN⟩
  obtain ⟨N, hN⟩ := ex_eq w.heap.size
  rw [hN] at HG HB HWN ⊢
  have HN := Lib.hid hN
  clear hN
  have HCE : Hid (∀ V, Below (N + 1) W V → V.cell? ⟨N, 0, none⟩ = some (.int .i64 (b : Int)) ∧ V.cell? ⟨N, 1, none⟩ = some (.int .i64 (dg.size : Int))) := Lib.hid (fun V h => by
    have hg := (h.block N (Nat.lt_succ_self _)).trans HG.out
    exact ⟨(cell_of_row _ _ _ _ _ _ hg).trans rfl, (cell_of_row _ _ _ _ _ _ hg).trans rfl⟩)
  have HST : Hid (∀ V V', Below (N + 1) W V → Below V.heap.size V V' → Below (N + 1) W V') := Lib.hid (fun V V' h h' => h.trans (h'.mono (by have := h.size; have := HWN.out; omega)))
  have HEND : Hid (∀ V, Below (N + 1) W V → Below w.heap.size w V) := Lib.hid (fun V h => by rw [HN.out]; exact HB.out.trans (h.mono (Nat.le_succ N)))
  have HLD : Hid (∀ V, Below (N + 1) W V → Laid V) := Lib.hid (fun V h => HL.out.later (HEND.out V h) (Nat.le_refl _))
  have HCUR : Hid (Below (N + 1) W W) := Lib.hid (Below.refl _ _)
  obtain ⟨c0, c1⟩ := HCE.out _ HCUR.out
  go_wp2_with (first
    | (go_at_call 18
       (with_reducible refine (awake12 _ (HLD.out _ HCUR.out)).mono ?_)
       rintro e w2 ⟨rfl, h2⟩
       replace HCUR := Lib.hid (HST.out _ _ HCUR.out h2)
       (try replace HSV := Lib.hid (HSV.out.later h2))
       clear h2
       (try clear c0 c1)
       obtain ⟨c0, c1⟩ := HCE.out _ HCUR.out)
    | (go_at_call 43
       (with_reducible refine (HF.out _).mono ?_)
       rintro e w3 ⟨rfl, h3⟩
       replace HCUR := Lib.hid (HST.out _ _ HCUR.out h3)
       (try replace HSV := Lib.hid (HSV.out.later h3))
       clear h3
       (try clear c0 c1)
       obtain ⟨c0, c1⟩ := HCE.out _ HCUR.out)
    | (go_at_call 19
       (with_reducible refine (params_any (b : Int) (dg.size : Int) _).mono ?_)
       rintro e w5 ⟨rfl, h5⟩
       replace HCUR := Lib.hid (HST.out _ _ HCUR.out h5)
       (try replace HSV := Lib.hid (HSV.out.later h5))
       clear h5
       (try clear c0 c1)
       obtain ⟨c0, c1⟩ := HCE.out _ HCUR.out)
    | (go_at_call 34
       (with_reducible refine (HPK.out _ (HLD.out _ HCUR.out)).mono ?_)
       rintro e w6 ⟨k6, rfl, hk6, h6⟩
       have HK6 := Lib.hid hk6
       have hkk6 : (k6.toList == k6.toList) = true := by simp
       clear hk6
       (try replace HPV := Lib.hid (HPV.out.later h6))
       replace HCUR := Lib.hid (HST.out _ _ HCUR.out h6)
       (try replace HSV := Lib.hid (HSV.out.later h6))
       clear h6
       (try clear c0 c1)
       obtain ⟨c0, c1⟩ := HCE.out _ HCUR.out)
    | (go_at_call 35
       (with_reducible refine (HSG.out _ (HLD.out _ HCUR.out)).mono ?_)
       rintro e w7 ⟨g7, L7, vs7, rfl, hvl7, hLC7, hvs7, hst7, _, h7⟩
       rw [HCQ.out] at hLC7
       have hLC8 := hLC7.symm
       subst hLC8
       have HVL := Lib.hid hvl7
       have HVS := Lib.hid hvs7
       have HSV := Lib.hid hst7
       clear hvl7 hvs7 hst7 hLC7
       (try replace HPV := Lib.hid (HPV.out.later h7))
       replace HCUR := Lib.hid (HST.out _ _ HCUR.out h7)
       clear h7
       (try clear c0 c1)
       obtain ⟨c0, c1⟩ := HCE.out _ HCUR.out)
    | (go_at_call 40
       (with_reducible refine (HVF.out _ HK6.out g7 vs7 HVL.out HVS.out _ HSV.out (HLD.out _ HCUR.out)).mono ?_)
       rintro e w9 ⟨rfl, h9⟩
       replace HCUR := Lib.hid (HST.out _ _ HCUR.out h9)
       (try replace HSV := Lib.hid (HSV.out.later h9))
       clear h9
       (try clear c0 c1)
       obtain ⟨c0, c1⟩ := HCE.out _ HCUR.out)
    | (go_at_call 41
       (with_reducible refine (HPT.out g7 vs7 HVL.out HVS.out _ HSV.out).mono ?_)
       rintro e w11 ⟨rfl, h11⟩
       replace HCUR := Lib.hid (HST.out _ _ HCUR.out h11)
       (try replace HSV := Lib.hid (HSV.out.later h11))
       clear h11
       (try clear c0 c1)
       obtain ⟨c0, c1⟩ := HCE.out _ HCUR.out)
    | (go_at_call 45
       (with_reducible refine (HSU.out g7 vs7 HVL.out HVS.out _ HSV.out).mono ?_)
       rintro e w12 ⟨x12, L12, vs12, rfl, hv12, hl12, ho12, h12⟩
       obtain ⟨a12, cp12, rfl, hl13, hc12, hS12, hnil12, hlt12⟩ := strs_of_own ho12
       have HV12 := Lib.hid hv12
       have HL12 := Lib.hid hl12
       have HS12 := Lib.hid hS12
       clear hv12 hl12 ho12 hl13 hc12 hS12 hnil12 hlt12
       replace HCUR := Lib.hid (HST.out _ _ HCUR.out h12)
       (try replace HSV := Lib.hid (HSV.out.later h12))
       clear h12
       (try clear c0 c1)
       obtain ⟨c0, c1⟩ := HCE.out _ HCUR.out)
    | (go_at_call 44
       (with_reducible refine (HCO.out a12 cp12 L12 vs12 HL12.out HV12.out _ HS12.out).mono ?_)
       rintro e w13 ⟨rfl, h13⟩
       replace HCUR := Lib.hid (HST.out _ _ HCUR.out h13)
       (try replace HSV := Lib.hid (HSV.out.later h13))
       clear h13
       (try clear c0 c1)
       obtain ⟨c0, c1⟩ := HCE.out _ HCUR.out))
  go_ret
  exact ⟨by first | rfl | simp, HEND.out _ HCUR.out⟩
theorem walk_OnetimeBinds (B S : Int) (seed dg ot : ByteArray) (w : World) (hL : Laid w) :
    Calls Tryd.prog 11 #[.agg #[.int .i64 B, .int .i64 S], .string seed, .string dg, .string ot] w fun e w' => e = .returned (.bool true) ∧ Below w.heap.size w w' := by
  by_cases hf : Fits B S (nb seed) (nb dg)
  · obtain ⟨hV, hSm, hs, rfl⟩ := hf
    rw [nb_length] at hs
    obtain ⟨b, rfl, hB⟩ := bits_of hV
    have e : ((nb dg).length : Int) = (dg.size : Int) := by rw [nb_length]
    rw [e] at hV hSm ⊢
    have h0 : 0 < dg.size := by have := hV.2.1; omega
    have h2 : dg.size ≤ 32 := by have := hV.2.2; omega
    by_cases ho : ot.size = dg.size
    · by_cases hne : ot = dg
      · exact binds_same b hB seed dg h0 h2 hs hSm ot hne w hL
      · by_cases hA : Acc (b : Int) (dg.size : Int) (pub b (nb seed) (count b dg.size)) (nb ot) (sign (nb seed) (One.digits b (nb dg)))
        · exact binds_other b hB seed dg h0 h2 hs hSm ot ho hne hA w hL
        · exact binds_refused b hB seed dg h0 h2 hs hSm ot ho hne hA w hL
    · exact binds_size b hB seed dg h0 h2 hs hSm ot ho w hL
  · exact nofit_OnetimeBinds B S seed dg ot hf w hL
end Go.Proofs.YtmnendoloankgaaDoor
