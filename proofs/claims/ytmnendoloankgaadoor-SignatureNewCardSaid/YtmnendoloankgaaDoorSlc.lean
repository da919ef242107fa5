/- The law SignatureNew, walked. -/
import Derived.Test.YtmnendoloankgaaDoorRgb
import Derived.Test.YtmnendoloankgaaDoorOpn
namespace Go.Proofs.YtmnendoloankgaaDoor
set_option linter.unusedVariables false
set_option linter.unusedSimpArgs false
open Go.RowKit
open Kit (Chg)
open Sha (v)
open Go.Proofs.YtmnendoloankgaaDoor.One

set_option maxRecDepth 100000 in
set_option maxHeartbeats 2000000 in
theorem new_long (B S : Int) (seed : ByteArray) (h : 100 < seed.size) (w : World) (hL : Laid w) :
    Calls Tryd.prog 16 #[.agg #[.int .i64 (B), .int .i64 (S)], .string seed] w fun e w' => e = .returned (.bool true) ∧ Below w.heap.size w w' := by
  have HL := Lib.hid hL
  have hi : (100 : Int) < ((seed.size : Nat) : Int) := by omega
  clear hL h
  go_enter Tryd.func16, Tryd.ntmps16
  go_upto_region 1 with fail
  refine wp_over (fun W => Hid (W.heap[w.heap.size]? = some (.cells #[.int .i64 (B), .int .i64 (S)] 63 (0, 0))) ∧ Hid (Below w.heap.size w W) ∧ Hid (W.heap.size = w.heap.size + 1)) ⟨heap_alloc_new _ _, (Below.refl _ _).alloc (Nat.le_refl _) _, by show _ = _; simp⟩ ?_
  rintro W ⟨HG, HB, HWN⟩
  obtain ⟨N, hN⟩ := ex_eq w.heap.size
  rw [hN] at HG HB HWN ⊢
  have HN := Lib.hid hN
  clear hN
  have HCE : Hid (∀ V, Below (N + 1) W V → V.cell? ⟨N, 0, none⟩ = some (.int .i64 (B)) ∧ V.cell? ⟨N, 1, none⟩ = some (.int .i64 (S))) := Lib.hid (fun V h => by
    have hg := (h.block N (Nat.lt_succ_self _)).trans HG.out
    exact ⟨(cell_of_row _ _ _ _ _ _ hg).trans rfl, (cell_of_row _ _ _ _ _ _ hg).trans rfl⟩)
  have HST : Hid (∀ V V', Below (N + 1) W V → Below V.heap.size V V' → Below (N + 1) W V') := Lib.hid (fun V V' h h' => h.trans (h'.mono (by have := h.size; have := HWN.out; omega)))
  have HEND : Hid (∀ V, Below (N + 1) W V → Below w.heap.size w V) := Lib.hid (fun V h => by rw [HN.out]; exact HB.out.trans (h.mono (Nat.le_succ N)))
  have HLD : Hid (∀ V, Below (N + 1) W V → Laid V) := Lib.hid (fun V h => HL.out.later (HEND.out V h) (Nat.le_refl _))
  have HCUR : Hid (Below (N + 1) W W) := Lib.hid (Below.refl _ _)
  obtain ⟨c0, c1⟩ := HCE.out _ HCUR.out
  go_wp2_with (first
    | (go_at_call 48
       (refine (awake13 _ (HLD.out _ HCUR.out)).mono ?_)
       rintro e w2 ⟨rfl, h2⟩
       replace HCUR := Lib.hid (HST.out _ _ HCUR.out h2)
       clear h2 c0 c1
       obtain ⟨c0, c1⟩ := HCE.out _ HCUR.out))
  go_ret
  exact ⟨by first | rfl | simp, HEND.out _ HCUR.out⟩
set_option maxRecDepth 100000 in
set_option maxHeartbeats 2000000 in
theorem new_high (b t : Nat) (seed : ByteArray) (h : ¬ 100 < seed.size) (hv : SV (b : Int) (t : Int)) (ht : 2 < t) (w : World) (hL : Laid w) :
    Calls Tryd.prog 16 #[.agg #[.int .i64 (b : Int), .int .i64 (t : Int)], .string seed] w fun e w' => e = .returned (.bool true) ∧ Below w.heap.size w w' := by
  have HL := Lib.hid hL
  have hi : ¬ (100 : Int) < ((seed.size : Nat) : Int) := by omega
  have hti : (2 : Int) < (t : Int) := by omega
  have HRV := Lib.hid (fun w => refSchemeValid_any (b : Int) (t : Int) w)
  rw [decide_eq_true hv] at HRV
  clear hL h hv
  go_enter Tryd.func16, Tryd.ntmps16
  go_upto_region 1 with fail
  refine wp_over (fun W => Hid (W.heap[w.heap.size]? = some (.cells #[.int .i64 (b : Int), .int .i64 (t : Int)] 63 (0, 0))) ∧ Hid (Below w.heap.size w W) ∧ Hid (W.heap.size = w.heap.size + 1)) ⟨heap_alloc_new _ _, (Below.refl _ _).alloc (Nat.le_refl _) _, by show _ = _; simp⟩ ?_
  rintro W ⟨HG, HB, HWN⟩
  obtain ⟨N, hN⟩ := ex_eq w.heap.size
  rw [hN] at HG HB HWN ⊢
  have HN := Lib.hid hN
  clear hN
  have HCE : Hid (∀ V, Below (N + 1) W V → V.cell? ⟨N, 0, none⟩ = some (.int .i64 (b : Int)) ∧ V.cell? ⟨N, 1, none⟩ = some (.int .i64 (t : Int))) := Lib.hid (fun V h => by
    have hg := (h.block N (Nat.lt_succ_self _)).trans HG.out
    exact ⟨(cell_of_row _ _ _ _ _ _ hg).trans rfl, (cell_of_row _ _ _ _ _ _ hg).trans rfl⟩)
  have HST : Hid (∀ V V', Below (N + 1) W V → Below V.heap.size V V' → Below (N + 1) W V') := Lib.hid (fun V V' h h' => h.trans (h'.mono (by have := h.size; have := HWN.out; omega)))
  have HEND : Hid (∀ V, Below (N + 1) W V → Below w.heap.size w V) := Lib.hid (fun V h => by rw [HN.out]; exact HB.out.trans (h.mono (Nat.le_succ N)))
  have HLD : Hid (∀ V, Below (N + 1) W V → Laid V) := Lib.hid (fun V h => HL.out.later (HEND.out V h) (Nat.le_refl _))
  have HCUR : Hid (Below (N + 1) W W) := Lib.hid (Below.refl _ _)
  obtain ⟨c0, c1⟩ := HCE.out _ HCUR.out
  go_wp2_with (first
    | (go_at_call 48
       (refine (awake13 _ (HLD.out _ HCUR.out)).mono ?_)
       rintro e w2 ⟨rfl, h2⟩
       replace HCUR := Lib.hid (HST.out _ _ HCUR.out h2)
       clear h2 c0 c1
       obtain ⟨c0, c1⟩ := HCE.out _ HCUR.out)
    | (go_at_call 46
       (refine (HRV.out _).mono ?_)
       rintro e w3 ⟨rfl, h3⟩
       replace HCUR := Lib.hid (HST.out _ _ HCUR.out h3)
       clear h3 c0 c1
       obtain ⟨c0, c1⟩ := HCE.out _ HCUR.out))
  go_ret
  exact ⟨by first | rfl | simp, HEND.out _ HCUR.out⟩
set_option maxRecDepth 100000 in
set_option maxHeartbeats 2000000 in
theorem new_bad_scheme (B S : Int) (seed : ByteArray) (h : ¬ 100 < seed.size) (hv : ¬ SV B S) (w : World) (hL : Laid w) :
    Calls Tryd.prog 16 #[.agg #[.int .i64 (B), .int .i64 (S)], .string seed] w fun e w' => e = .returned (.bool true) ∧ Below w.heap.size w w' := by
  have HL := Lib.hid hL
  have hi : ¬ (100 : Int) < ((seed.size : Nat) : Int) := by omega
  have HRV := Lib.hid (fun w => refSchemeValid_any (B) (S) w)
  rw [decide_eq_false hv] at HRV
  have HNW := Lib.hid (fun w => signerNew_bad B S seed (fun h => hv h.1) w)
  clear hL h hv
  go_enter Tryd.func16, Tryd.ntmps16
  go_upto_region 1 with fail
  refine wp_over (fun W => Hid (W.heap[w.heap.size]? = some (.cells #[.int .i64 (B), .int .i64 (S)] 63 (0, 0))) ∧ Hid (Below w.heap.size w W) ∧ Hid (W.heap.size = w.heap.size + 1)) ⟨heap_alloc_new _ _, (Below.refl _ _).alloc (Nat.le_refl _) _, by show _ = _; simp⟩ ?_
  rintro W ⟨HG, HB, HWN⟩
  obtain ⟨N, hN⟩ := ex_eq w.heap.size
  rw [hN] at HG HB HWN ⊢
  have HN := Lib.hid hN
  clear hN
  have HCE : Hid (∀ V, Below (N + 1) W V → V.cell? ⟨N, 0, none⟩ = some (.int .i64 (B)) ∧ V.cell? ⟨N, 1, none⟩ = some (.int .i64 (S))) := Lib.hid (fun V h => by
    have hg := (h.block N (Nat.lt_succ_self _)).trans HG.out
    exact ⟨(cell_of_row _ _ _ _ _ _ hg).trans rfl, (cell_of_row _ _ _ _ _ _ hg).trans rfl⟩)
  have HST : Hid (∀ V V', Below (N + 1) W V → Below V.heap.size V V' → Below (N + 1) W V') := Lib.hid (fun V V' h h' => h.trans (h'.mono (by have := h.size; have := HWN.out; omega)))
  have HEND : Hid (∀ V, Below (N + 1) W V → Below w.heap.size w V) := Lib.hid (fun V h => by rw [HN.out]; exact HB.out.trans (h.mono (Nat.le_succ N)))
  have HLD : Hid (∀ V, Below (N + 1) W V → Laid V) := Lib.hid (fun V h => HL.out.later (HEND.out V h) (Nat.le_refl _))
  have HCUR : Hid (Below (N + 1) W W) := Lib.hid (Below.refl _ _)
  obtain ⟨c0, c1⟩ := HCE.out _ HCUR.out
  go_wp2_with (first
    | (go_at_call 48
       (refine (awake13 _ (HLD.out _ HCUR.out)).mono ?_)
       rintro e w2 ⟨rfl, h2⟩
       replace HCUR := Lib.hid (HST.out _ _ HCUR.out h2)
       clear h2 c0 c1
       obtain ⟨c0, c1⟩ := HCE.out _ HCUR.out)
    | (go_at_call 46
       (refine (HRV.out _).mono ?_)
       rintro e w3 ⟨rfl, h3⟩
       replace HCUR := Lib.hid (HST.out _ _ HCUR.out h3)
       clear h3 c0 c1
       obtain ⟨c0, c1⟩ := HCE.out _ HCUR.out)
    | (go_at_call 54
       (refine (HNW.out _).mono ?_)
       rintro e w4 ⟨rfl, h4⟩
       replace HCUR := Lib.hid (HST.out _ _ HCUR.out h4)
       clear h4 c0 c1
       obtain ⟨c0, c1⟩ := HCE.out _ HCUR.out))
  go_ret
  exact ⟨by first | rfl | simp, HEND.out _ HCUR.out⟩
set_option maxRecDepth 100000 in
set_option maxHeartbeats 2000000 in
theorem new_bad_seed (b t : Nat) (seed : ByteArray) (h : ¬ 100 < seed.size) (hv : SV (b : Int) (t : Int)) (ht : t ≤ 2) (hs : ¬ seed.size = 32) (w : World) (hL : Laid w) :
    Calls Tryd.prog 16 #[.agg #[.int .i64 (b : Int), .int .i64 (t : Int)], .string seed] w fun e w' => e = .returned (.bool true) ∧ Below w.heap.size w w' := by
  have HL := Lib.hid hL
  have hi : ¬ (100 : Int) < ((seed.size : Nat) : Int) := by omega
  have hti : ¬ (2 : Int) < (t : Int) := by omega
  have hne : (((seed.size : Nat) : Int) != 32) = true := by rw [bne_iff_ne]; omega
  have HRV := Lib.hid (fun w => refSchemeValid_any (b : Int) (t : Int) w)
  rw [decide_eq_true hv] at HRV
  have HNW := Lib.hid (fun w => signerNew_bad (b : Int) (t : Int) seed (fun h => hs h.2) w)
  clear hL h hv hs
  go_enter Tryd.func16, Tryd.ntmps16
  go_upto_region 1 with fail
  refine wp_over (fun W => Hid (W.heap[w.heap.size]? = some (.cells #[.int .i64 (b : Int), .int .i64 (t : Int)] 63 (0, 0))) ∧ Hid (Below w.heap.size w W) ∧ Hid (W.heap.size = w.heap.size + 1)) ⟨heap_alloc_new _ _, (Below.refl _ _).alloc (Nat.le_refl _) _, by show _ = _; simp⟩ ?_
  rintro W ⟨HG, HB, HWN⟩
  obtain ⟨N, hN⟩ := ex_eq w.heap.size
  rw [hN] at HG HB HWN ⊢
  have HN := Lib.hid hN
  clear hN
  have HCE : Hid (∀ V, Below (N + 1) W V → V.cell? ⟨N, 0, none⟩ = some (.int .i64 (b : Int)) ∧ V.cell? ⟨N, 1, none⟩ = some (.int .i64 (t : Int))) := Lib.hid (fun V h => by
    have hg := (h.block N (Nat.lt_succ_self _)).trans HG.out
    exact ⟨(cell_of_row _ _ _ _ _ _ hg).trans rfl, (cell_of_row _ _ _ _ _ _ hg).trans rfl⟩)
  have HST : Hid (∀ V V', Below (N + 1) W V → Below V.heap.size V V' → Below (N + 1) W V') := Lib.hid (fun V V' h h' => h.trans (h'.mono (by have := h.size; have := HWN.out; omega)))
  have HEND : Hid (∀ V, Below (N + 1) W V → Below w.heap.size w V) := Lib.hid (fun V h => by rw [HN.out]; exact HB.out.trans (h.mono (Nat.le_succ N)))
  have HLD : Hid (∀ V, Below (N + 1) W V → Laid V) := Lib.hid (fun V h => HL.out.later (HEND.out V h) (Nat.le_refl _))
  have HCUR : Hid (Below (N + 1) W W) := Lib.hid (Below.refl _ _)
  obtain ⟨c0, c1⟩ := HCE.out _ HCUR.out
  go_wp2_with (first
    | (go_at_call 48
       (refine (awake13 _ (HLD.out _ HCUR.out)).mono ?_)
       rintro e w2 ⟨rfl, h2⟩
       replace HCUR := Lib.hid (HST.out _ _ HCUR.out h2)
       clear h2 c0 c1
       obtain ⟨c0, c1⟩ := HCE.out _ HCUR.out)
    | (go_at_call 46
       (refine (HRV.out _).mono ?_)
       rintro e w3 ⟨rfl, h3⟩
       replace HCUR := Lib.hid (HST.out _ _ HCUR.out h3)
       clear h3 c0 c1
       obtain ⟨c0, c1⟩ := HCE.out _ HCUR.out)
    | (go_at_call 54
       (refine (HNW.out _).mono ?_)
       rintro e w4 ⟨rfl, h4⟩
       replace HCUR := Lib.hid (HST.out _ _ HCUR.out h4)
       clear h4 c0 c1
       obtain ⟨c0, c1⟩ := HCE.out _ HCUR.out))
  go_ret
  exact ⟨by first | rfl | simp, HEND.out _ HCUR.out⟩
set_option maxRecDepth 100000 in
set_option maxHeartbeats 2000000 in
theorem new_good (b t : Nat) (hB : Bits b) (hb4 : b ≤ 4) (seed : ByteArray) (ht : t ≤ 2) (hs : seed.size = 32) (w : World) (hL : Laid w) :
    Calls Tryd.prog 16 #[.agg #[.int .i64 (b : Int), .int .i64 (t : Int)], .string seed] w fun e w' => e = .returned (.bool true) ∧ Below w.heap.size w w' := by
  have HL := Lib.hid hL
  have hi : ¬ (100 : Int) < ((seed.size : Nat) : Int) := by omega
  have hti : ¬ (2 : Int) < (t : Int) := by omega
  have hne : (((seed.size : Nat) : Int) != 32) = false := by rw [hs]; rfl
  have hv : SV (b : Int) (t : Int) := ⟨by rcases hB with rfl | rfl | rfl | rfl <;> first | omega | simp, by omega, by omega⟩
  have HRV := Lib.hid (fun w => refSchemeValid_any (b : Int) (t : Int) w)
  rw [decide_eq_true hv] at HRV
  have HNW := Lib.hid (fun w hL => signerNew_ok b t hB hb4 (by omega) seed hs w hL)
  have HRP := Lib.hid (fun w => refSigPub_ok b t hB (by omega) seed hs w)
  obtain ⟨hshl, hP8⟩ := fit_pow (t := t) (by omega)
  clear hL hv hs hB
  go_enter Tryd.func16, Tryd.ntmps16
  go_upto_region 1 with fail
  refine wp_over (fun W => Hid (W.heap[w.heap.size]? = some (.cells #[.int .i64 (b : Int), .int .i64 (t : Int)] 63 (0, 0))) ∧ Hid (Below w.heap.size w W) ∧ Hid (W.heap.size = w.heap.size + 1)) ⟨heap_alloc_new _ _, (Below.refl _ _).alloc (Nat.le_refl _) _, by show _ = _; simp⟩ ?_
  rintro W ⟨HG, HB, HWN⟩
  obtain ⟨N, hN⟩ := ex_eq w.heap.size
  rw [hN] at HG HB HWN ⊢
  have HN := Lib.hid hN
  clear hN
  have HCE : Hid (∀ V, Below (N + 1) W V → V.cell? ⟨N, 0, none⟩ = some (.int .i64 (b : Int)) ∧ V.cell? ⟨N, 1, none⟩ = some (.int .i64 (t : Int))) := Lib.hid (fun V h => by
    have hg := (h.block N (Nat.lt_succ_self _)).trans HG.out
    exact ⟨(cell_of_row _ _ _ _ _ _ hg).trans rfl, (cell_of_row _ _ _ _ _ _ hg).trans rfl⟩)
  have HST : Hid (∀ V V', Below (N + 1) W V → Below V.heap.size V V' → Below (N + 1) W V') := Lib.hid (fun V V' h h' => h.trans (h'.mono (by have := h.size; have := HWN.out; omega)))
  have HEND : Hid (∀ V, Below (N + 1) W V → Below w.heap.size w V) := Lib.hid (fun V h => by rw [HN.out]; exact HB.out.trans (h.mono (Nat.le_succ N)))
  have HLD : Hid (∀ V, Below (N + 1) W V → Laid V) := Lib.hid (fun V h => HL.out.later (HEND.out V h) (Nat.le_refl _))
  have HCUR : Hid (Below (N + 1) W W) := Lib.hid (Below.refl _ _)
  obtain ⟨c0, c1⟩ := HCE.out _ HCUR.out
  go_upto_region 4 with (first
    | (go_at_call 48
       (refine (awake13 _ (HLD.out _ HCUR.out)).mono ?_)
       rintro e w2 ⟨rfl, h2⟩
       replace HCUR := Lib.hid (HST.out _ _ HCUR.out h2)
       clear h2 c0 c1
       obtain ⟨c0, c1⟩ := HCE.out _ HCUR.out)
    | (go_at_call 46
       (refine (HRV.out _).mono ?_)
       rintro e w3 ⟨rfl, h3⟩
       replace HCUR := Lib.hid (HST.out _ _ HCUR.out h3)
       clear h3 c0 c1
       obtain ⟨c0, c1⟩ := HCE.out _ HCUR.out)
    | (go_at_call 54
       (refine (HNW.out _ (HLD.out _ HCUR.out)).mono ?_)
       rintro e w4 ⟨g, pk, rfl, hs4, h4⟩
       have HS4 := Lib.hid hs4
       clear hs4
       replace HCUR := Lib.hid (HST.out _ _ HCUR.out h4)
       clear h4 c0 c1
       obtain ⟨c0, c1⟩ := HCE.out _ HCUR.out))
  go_upto_region 6 with (first
    | (go_at_call 46
       (refine (HRV.out _).mono ?_)
       rintro e w5 ⟨rfl, h5⟩
       have HS5 := Lib.hid (HS4.out.later h5)
       replace HCUR := Lib.hid (HST.out _ _ HCUR.out h5)
       clear h5 c0 c1
       obtain ⟨c0, c1⟩ := HCE.out _ HCUR.out))
  have hlf := fun V h => signerLeft_any (B := w3.heap.size) (g := g) (b := b) (t := t) (seed := seed) (pk := pk) (next := 0) V h
  rw [Nat.sub_zero] at hlf
  obtain ⟨P, hP⟩ := ex_eq (2 ^ t)
  rw [hP] at hshl hP8 hlf
  have HLF := Lib.hid hlf
  clear hlf hP c0 c1
  have HS6 := HS5
  have HX := HCUR
  refine Kit.wp_region_gplan (fun V => V.cell? ⟨N, 0, none⟩ = some (.int .i64 (b : Int)) ∧ V.cell? ⟨N, 1, none⟩ = some (.int .i64 (t : Int))) [(true, 0), (true, 1), (true, 2), (true, 3), (true, 4), (true, 5), (true, 6), (true, 7), (true, 9), (true, 10), (false, 8), (false, 11), (true, 12), (true, 13), (true, 14), (true, 15), (false, 16), (true, 17), (true, 18), (true, 19), (true, 20), (true, 22), (true, 23), (true, 24), (false, 21), (true, 25), (true, 26), (true, 27)] (by kernel_rfl) (by kernel_rfl) (by kernel_rfl) (by kernel_rfl) (HCE.out _ HX.out.drew) ?_
  iterate 10 (refine Kit.gplan_head (by rfl) (by first | exact .inr ⟨by rfl, rfl⟩ | exact .inl ⟨by rfl, fun w' hS => by (dsimp only at hS); go_simp; (try with_reducible rfl)⟩) ?_; (try simp only [Act.put, List.setIfInBounds_toArray, List.set_cons_zero, List.set_cons_succ]))
  refine Kit.gplan_op (by rfl) (by rfl) fun K hK => ?_
  go_simp
  go_at_call 58
  refine (signerPublic_any _ (HS6.out.later (Below.refl _ _).drew)).mono ?_
  rintro e w21 ⟨rfl, h21⟩
  subst h21
  refine hK _ _ (HCE.out _ HX.out.drew) ?_
  clear hK K
  refine Kit.gplan_op (by rfl) (by rfl) fun K hK => ?_
  go_simp
  go_at_call 62
  refine (HRP.out _).mono ?_
  rintro e w22 ⟨u22, rfl, hu22, _, h22⟩
  have hue : u22 = pk := nb_inj (by rw [hu22, HS6.out.pk])
  subst hue
  have huu : (u22.toList == u22.toList) = true := by simp
  have h22' : Below w5.heap.size w5 w22 := (Below.refl _ w5).drew.trans h22
  have H22 := Lib.hid (HST.out _ _ HX.out h22')
  have HS22 := Lib.hid (HS6.out.later h22')
  clear h22 h22' hu22
  refine hK _ _ (HCE.out _ H22.out) ?_
  clear hK K
  iterate 4 (refine Kit.gplan_head (by rfl) (by first | exact .inr ⟨by rfl, rfl⟩ | exact .inl ⟨by rfl, fun w' hS => by (dsimp only at hS); go_simp; (try with_reducible rfl)⟩) ?_; (try simp only [Act.put, List.setIfInBounds_toArray, List.set_cons_zero, List.set_cons_succ]))
  refine Kit.gplan_op (by rfl) (by rfl) fun K hK => ?_
  go_simp
  go_at_call 63
  refine (signerNext_any _ HS22.out).mono ?_
  rintro e w23 ⟨rfl, rfl⟩
  refine hK _ _ (HCE.out _ H22.out) ?_
  clear hK K
  iterate 7 (refine Kit.gplan_head (by rfl) (by first | exact .inr ⟨by rfl, rfl⟩ | exact .inl ⟨by rfl, fun w' hS => by (dsimp only at hS); go_simp; (try with_reducible rfl)⟩) ?_; (try simp only [Act.put, List.setIfInBounds_toArray, List.set_cons_zero, List.set_cons_succ]))
  refine Kit.gplan_op (by rfl) (by rfl) fun K hK => ?_
  go_simp
  go_at_call 64
  refine (HLF.out _ HS22.out).mono ?_
  rintro e w24 ⟨rfl, h24⟩
  have H24 := Lib.hid (HST.out _ _ H22.out h24)
  clear h24
  refine hK _ _ (HCE.out _ H24.out) ?_
  clear hK K
  iterate 3 (refine Kit.gplan_head (by rfl) (by first | exact .inr ⟨by rfl, rfl⟩ | exact .inl ⟨by rfl, fun w' hS => by (dsimp only at hS); go_simp; (try with_reducible rfl)⟩) ?_; (try simp only [Act.put, List.setIfInBounds_toArray, List.set_cons_zero, List.set_cons_succ]))
  refine Kit.gplan_done ?_
  (try simp only [Act.put, List.setIfInBounds_toArray, List.set_cons_zero, List.set_cons_succ])
  go_wp2_with fail
  go_ret
  exact ⟨by first | rfl | simp, HEND.out _ H24.out⟩
theorem walk_SignatureNew (B S : Int) (seed : ByteArray) (w : World) (hL : Laid w) :
    Calls Tryd.prog 16 #[.agg #[.int .i64 B, .int .i64 S], .string seed] w fun e w' => e = .returned (.bool true) ∧ Below w.heap.size w w' := by
  by_cases h : 100 < seed.size
  · exact new_long B S seed h w hL
  · by_cases hv : SV B S
    · obtain ⟨b, t, rfl, rfl, hB, hb4, ht⟩ := sv_of hv
      by_cases h2 : 2 < t
      · exact new_high b t seed h hv h2 w hL
      · by_cases hs : seed.size = 32
        · exact new_good b t hB hb4 seed (by omega) hs w hL
        · exact new_bad_seed b t seed h hv (by omega) hs w hL
    · exact new_bad_scheme B S seed h hv w hL
end Go.Proofs.YtmnendoloankgaaDoor
