/- The law Signatures, walked. -/
import Derived.Test.YtmnendoloankgaaDoorLwD
import Derived.Test.YtmnendoloankgaaDoorEqu
namespace Go.Proofs.YtmnendoloankgaaDoor
set_option linter.unusedVariables false
set_option linter.unusedSimpArgs false
open Go.RowKit
open Kit (Chg)
open Sha (v)
open Go.Proofs.YtmnendoloankgaaDoor.One

set_option maxRecDepth 100000 in
set_option maxHeartbeats 2000000 in
theorem sigs_big (B S : Int) (seed dg : ByteArray) (hV : VP B S) (hS : ¬ SP B S) (w : World) (hL : Laid w) :
    Calls Tryd.prog 5 #[.agg #[.int .i64 (B), .int .i64 (S)], .string seed, .string dg] w fun e w' => e = .returned (.bool true) ∧ Below w.heap.size w w' := by
  have HL := Lib.hid hL
  have HRV := Lib.hid (fun w => refValid_any (B) (S) w)
  rw [decide_eq_true hV] at HRV
  have HSM := Lib.hid (fun w => refSmall_any (B) (S) w)
  rw [decide_eq_false hS] at HSM
  clear hL hV hS
  go_enter Tryd.func5, Tryd.ntmps5
  go_upto_region 1 with fail
  refine wp_over (fun W => Hid (W.heap[w.heap.size]? = some (.cells #[.int .i64 (B), .int .i64 (S)] 23 (0, 0))) ∧ Hid (Below w.heap.size w W) ∧ Hid (W.heap.size = w.heap.size + 1)) ⟨heap_alloc_new _ _, (Below.refl _ _).alloc (Nat.le_refl _) _, by show _ = _; simp⟩ ?_
  rintro W ⟨HG, HB, HWN⟩
  obtain ⟨N, hN⟩ := ex_eq w.heap.size
  rw [hN] at HG HB HWN ⊢
  have HN := Lib.hid hN
  clear hN
  have HCE : Hid (∀ V, Below (N + 1) W V → V.cell? ⟨N, 0, none⟩ = some (.int .i64 (B)) ∧ V.cell? ⟨N, 1, none⟩ = some (.int .i64 (S))) := Lib.hid (fun V h => by
    have hg := (h.block N (Nat.lt_succ_self _)).trans HG.out
    exact ⟨(cell_of_row _ _ _ _ _ _ hg).trans rfl, (cell_of_row _ _ _ _ _ _ hg).trans rfl⟩)
  have HST : Hid (∀ V V', Below (N + 1) W V → Below V.heap.size V V' → Below (N + 1) W V') := Lib.hid (fun V V' h h' => h.trans (h'.mono (by have := h.size; have := HWN.out; omega)))
  have HEND : Hid (∀ V, Below (N + 1) W V → Below w.heap.size w V) := Lib.hid (fun V h => by rw [HN.out]; exact HB.out.trans (h.mono (Nat.le_succ N)))
  have HLD : Hid (∀ V, Below (N + 1) W V → Laid V) := Lib.hid (fun V h => HL.out.later (HEND.out V h) (Nat.le_refl _))
  have HCUR : Hid (Below (N + 1) W W) := Lib.hid (Below.refl _ _)
  obtain ⟨c0, c1⟩ := HCE.out _ HCUR.out
  go_wp2_with (first
    | (go_at_call 18
       (with_reducible refine (awake12 _ (HLD.out _ HCUR.out)).mono ?_)
       rintro e w2 ⟨rfl, h2⟩
       replace HCUR := Lib.hid (HST.out _ _ HCUR.out h2)
       (try replace HSV := Lib.hid (HSV.out.later h2))
       clear h2
       (try clear c0 c1)
       obtain ⟨c0, c1⟩ := HCE.out _ HCUR.out)
    | (go_at_call 22
       (with_reducible refine (HRV.out _).mono ?_)
       rintro e w3 ⟨rfl, h3⟩
       replace HCUR := Lib.hid (HST.out _ _ HCUR.out h3)
       (try replace HSV := Lib.hid (HSV.out.later h3))
       clear h3
       (try clear c0 c1)
       obtain ⟨c0, c1⟩ := HCE.out _ HCUR.out)
    | (go_at_call 33
       (with_reducible refine (HSM.out _).mono ?_)
       rintro e w4 ⟨rfl, h4⟩
       replace HCUR := Lib.hid (HST.out _ _ HCUR.out h4)
       (try replace HSV := Lib.hid (HSV.out.later h4))
       clear h4
       (try clear c0 c1)
       obtain ⟨c0, c1⟩ := HCE.out _ HCUR.out))
  go_ret
  exact ⟨by first | rfl | simp, HEND.out _ HCUR.out⟩
set_option maxRecDepth 100000 in
set_option maxHeartbeats 2000000 in
theorem sigs_invalid (B S : Int) (seed dg : ByteArray) (hV : ¬ VP B S) (w : World) (hL : Laid w) :
    Calls Tryd.prog 5 #[.agg #[.int .i64 (B), .int .i64 (S)], .string seed, .string dg] w fun e w' => e = .returned (.bool true) ∧ Below w.heap.size w w' := by
  have HL := Lib.hid hL
  have HRV := Lib.hid (fun w => refValid_any (B) (S) w)
  rw [decide_eq_false hV] at HRV
  have HPK := Lib.hid (fun w => public_bad B S seed (fun h => hV h.1) w)
  have HSG := Lib.hid (fun w => sign_bad B S seed dg (fun h => hV h.1) w)
  clear hL hV
  go_enter Tryd.func5, Tryd.ntmps5
  go_upto_region 1 with fail
  refine wp_over (fun W => Hid (W.heap[w.heap.size]? = some (.cells #[.int .i64 (B), .int .i64 (S)] 23 (0, 0))) ∧ Hid (Below w.heap.size w W) ∧ Hid (W.heap.size = w.heap.size + 1)) ⟨heap_alloc_new _ _, (Below.refl _ _).alloc (Nat.le_refl _) _, by show _ = _; simp⟩ ?_
  rintro W ⟨HG, HB, HWN⟩
  obtain ⟨N, hN⟩ := ex_eq w.heap.size
  rw [hN] at HG HB HWN ⊢
  have HN := Lib.hid hN
  clear hN
  have HCE : Hid (∀ V, Below (N + 1) W V → V.cell? ⟨N, 0, none⟩ = some (.int .i64 (B)) ∧ V.cell? ⟨N, 1, none⟩ = some (.int .i64 (S))) := Lib.hid (fun V h => by
    have hg := (h.block N (Nat.lt_succ_self _)).trans HG.out
    exact ⟨(cell_of_row _ _ _ _ _ _ hg).trans rfl, (cell_of_row _ _ _ _ _ _ hg).trans rfl⟩)
  have HST : Hid (∀ V V', Below (N + 1) W V → Below V.heap.size V V' → Below (N + 1) W V') := Lib.hid (fun V V' h h' => h.trans (h'.mono (by have := h.size; have := HWN.out; omega)))
  have HEND : Hid (∀ V, Below (N + 1) W V → Below w.heap.size w V) := Lib.hid (fun V h => by rw [HN.out]; exact HB.out.trans (h.mono (Nat.le_succ N)))
  have HLD : Hid (∀ V, Below (N + 1) W V → Laid V) := Lib.hid (fun V h => HL.out.later (HEND.out V h) (Nat.le_refl _))
  have HCUR : Hid (Below (N + 1) W W) := Lib.hid (Below.refl _ _)
  obtain ⟨c0, c1⟩ := HCE.out _ HCUR.out
  go_wp2_with (first
    | (go_at_call 18
       (with_reducible refine (awake12 _ (HLD.out _ HCUR.out)).mono ?_)
       rintro e w2 ⟨rfl, h2⟩
       replace HCUR := Lib.hid (HST.out _ _ HCUR.out h2)
       (try replace HSV := Lib.hid (HSV.out.later h2))
       clear h2
       (try clear c0 c1)
       obtain ⟨c0, c1⟩ := HCE.out _ HCUR.out)
    | (go_at_call 22
       (with_reducible refine (HRV.out _).mono ?_)
       rintro e w3 ⟨rfl, h3⟩
       replace HCUR := Lib.hid (HST.out _ _ HCUR.out h3)
       (try replace HSV := Lib.hid (HSV.out.later h3))
       clear h3
       (try clear c0 c1)
       obtain ⟨c0, c1⟩ := HCE.out _ HCUR.out)
    | (go_at_call 19
       (with_reducible refine (params_any (B) (S) _).mono ?_)
       rintro e w5 ⟨rfl, h5⟩
       replace HCUR := Lib.hid (HST.out _ _ HCUR.out h5)
       (try replace HSV := Lib.hid (HSV.out.later h5))
       clear h5
       (try clear c0 c1)
       obtain ⟨c0, c1⟩ := HCE.out _ HCUR.out)
    | (go_at_call 34
       (with_reducible refine (HPK.out _).mono ?_)
       rintro e w6 ⟨rfl, h6⟩
       replace HCUR := Lib.hid (HST.out _ _ HCUR.out h6)
       (try replace HSV := Lib.hid (HSV.out.later h6))
       clear h6
       (try clear c0 c1)
       obtain ⟨c0, c1⟩ := HCE.out _ HCUR.out)
    | (go_at_call 35
       (with_reducible refine (HSG.out _).mono ?_)
       rintro e w7 ⟨rfl, h7⟩
       replace HCUR := Lib.hid (HST.out _ _ HCUR.out h7)
       (try replace HSV := Lib.hid (HSV.out.later h7))
       clear h7
       (try clear c0 c1)
       obtain ⟨c0, c1⟩ := HCE.out _ HCUR.out))
  go_ret
  exact ⟨by first | rfl | simp, HEND.out _ HCUR.out⟩
set_option maxRecDepth 100000 in
set_option maxHeartbeats 2000000 in
theorem sigs_seed (B S : Int) (seed dg : ByteArray) (hV : VP B S) (hS : SP B S) (hs : ¬ seed.size = 32) (w : World) (hL : Laid w) :
    Calls Tryd.prog 5 #[.agg #[.int .i64 (B), .int .i64 (S)], .string seed, .string dg] w fun e w' => e = .returned (.bool true) ∧ Below w.heap.size w w' := by
  have HL := Lib.hid hL
  have HRV := Lib.hid (fun w => refValid_any (B) (S) w)
  rw [decide_eq_true hV] at HRV
  have HSM := Lib.hid (fun w => refSmall_any (B) (S) w)
  rw [decide_eq_true hS] at HSM
  have HPK := Lib.hid (fun w => public_bad B S seed (fun h => hs h.2) w)
  have HSG := Lib.hid (fun w => sign_bad B S seed dg (fun h => hs h.2.2) w)
  have hsn : (((seed.size : Nat) : Int) != 32) = true := by rw [bne_iff_ne]; omega
  clear hL hV hS hs
  go_enter Tryd.func5, Tryd.ntmps5
  go_upto_region 1 with fail
  refine wp_over (fun W => Hid (W.heap[w.heap.size]? = some (.cells #[.int .i64 (B), .int .i64 (S)] 23 (0, 0))) ∧ Hid (Below w.heap.size w W) ∧ Hid (W.heap.size = w.heap.size + 1)) ⟨heap_alloc_new _ _, (Below.refl _ _).alloc (Nat.le_refl _) _, by show _ = _; simp⟩ ?_
  rintro W ⟨HG, HB, HWN⟩
  obtain ⟨N, hN⟩ := ex_eq w.heap.size
  rw [hN] at HG HB HWN ⊢
  have HN := Lib.hid hN
  clear hN
  have HCE : Hid (∀ V, Below (N + 1) W V → V.cell? ⟨N, 0, none⟩ = some (.int .i64 (B)) ∧ V.cell? ⟨N, 1, none⟩ = some (.int .i64 (S))) := Lib.hid (fun V h => by
    have hg := (h.block N (Nat.lt_succ_self _)).trans HG.out
    exact ⟨(cell_of_row _ _ _ _ _ _ hg).trans rfl, (cell_of_row _ _ _ _ _ _ hg).trans rfl⟩)
  have HST : Hid (∀ V V', Below (N + 1) W V → Below V.heap.size V V' → Below (N + 1) W V') := Lib.hid (fun V V' h h' => h.trans (h'.mono (by have := h.size; have := HWN.out; omega)))
  have HEND : Hid (∀ V, Below (N + 1) W V → Below w.heap.size w V) := Lib.hid (fun V h => by rw [HN.out]; exact HB.out.trans (h.mono (Nat.le_succ N)))
  have HLD : Hid (∀ V, Below (N + 1) W V → Laid V) := Lib.hid (fun V h => HL.out.later (HEND.out V h) (Nat.le_refl _))
  have HCUR : Hid (Below (N + 1) W W) := Lib.hid (Below.refl _ _)
  obtain ⟨c0, c1⟩ := HCE.out _ HCUR.out
  go_wp2_with (first
    | (go_at_call 18
       (with_reducible refine (awake12 _ (HLD.out _ HCUR.out)).mono ?_)
       rintro e w2 ⟨rfl, h2⟩
       replace HCUR := Lib.hid (HST.out _ _ HCUR.out h2)
       (try replace HSV := Lib.hid (HSV.out.later h2))
       clear h2
       (try clear c0 c1)
       obtain ⟨c0, c1⟩ := HCE.out _ HCUR.out)
    | (go_at_call 22
       (with_reducible refine (HRV.out _).mono ?_)
       rintro e w3 ⟨rfl, h3⟩
       replace HCUR := Lib.hid (HST.out _ _ HCUR.out h3)
       (try replace HSV := Lib.hid (HSV.out.later h3))
       clear h3
       (try clear c0 c1)
       obtain ⟨c0, c1⟩ := HCE.out _ HCUR.out)
    | (go_at_call 33
       (with_reducible refine (HSM.out _).mono ?_)
       rintro e w4 ⟨rfl, h4⟩
       replace HCUR := Lib.hid (HST.out _ _ HCUR.out h4)
       (try replace HSV := Lib.hid (HSV.out.later h4))
       clear h4
       (try clear c0 c1)
       obtain ⟨c0, c1⟩ := HCE.out _ HCUR.out)
    | (go_at_call 19
       (with_reducible refine (params_any (B) (S) _).mono ?_)
       rintro e w5 ⟨rfl, h5⟩
       replace HCUR := Lib.hid (HST.out _ _ HCUR.out h5)
       (try replace HSV := Lib.hid (HSV.out.later h5))
       clear h5
       (try clear c0 c1)
       obtain ⟨c0, c1⟩ := HCE.out _ HCUR.out)
    | (go_at_call 34
       (with_reducible refine (HPK.out _).mono ?_)
       rintro e w6 ⟨rfl, h6⟩
       replace HCUR := Lib.hid (HST.out _ _ HCUR.out h6)
       (try replace HSV := Lib.hid (HSV.out.later h6))
       clear h6
       (try clear c0 c1)
       obtain ⟨c0, c1⟩ := HCE.out _ HCUR.out)
    | (go_at_call 35
       (with_reducible refine (HSG.out _).mono ?_)
       rintro e w7 ⟨rfl, h7⟩
       replace HCUR := Lib.hid (HST.out _ _ HCUR.out h7)
       (try replace HSV := Lib.hid (HSV.out.later h7))
       clear h7
       (try clear c0 c1)
       obtain ⟨c0, c1⟩ := HCE.out _ HCUR.out))
  go_ret
  exact ⟨by first | rfl | simp, HEND.out _ HCUR.out⟩
set_option maxRecDepth 100000 in
set_option maxHeartbeats 2000000 in
theorem sigs_digest (b n : Nat) (hB : Bits b) (hn : 0 < n) (hn2 : n ≤ 32) (seed dg : ByteArray) (hS : SP (b : Int) (n : Int)) (hs : seed.size = 32) (hd : ¬ dg.size = n) (w : World) (hL : Laid w) :
    Calls Tryd.prog 5 #[.agg #[.int .i64 (b : Int), .int .i64 (n : Int)], .string seed, .string dg] w fun e w' => e = .returned (.bool true) ∧ Below w.heap.size w w' := by
  have HL := Lib.hid hL
  have HRV := Lib.hid (fun w => refValid_any (b : Int) (n : Int) w)
  rw [decide_eq_true (vp_of hB hn hn2)] at HRV
  have HSM := Lib.hid (fun w => refSmall_any (b : Int) (n : Int) w)
  rw [decide_eq_true hS] at HSM
  have HPK := Lib.hid (fun w hL => public_ok b n hB hn hn2 seed hs w hL)
  have HRP := Lib.hid (fun w => refPublic_ok b n hB hn hn2 seed hs w)
  have HSG := Lib.hid (fun w => sign_bad (b : Int) (n : Int) seed dg (fun h => hd (by omega)) w)
  obtain ⟨T, hT⟩ := ex_eq (pub b (nb seed) (count b n))
  rw [hT] at HPK HRP
  have hsn : (((seed.size : Nat) : Int) != 32) = false := by rw [hs]; rfl
  have hdn : (((dg.size : Nat) : Int) != (n : Int)) = true := by rw [bne_iff_ne]; omega
  clear hL hS hs hd hT hB hn hn2
  go_enter Tryd.func5, Tryd.ntmps5
  go_upto_region 1 with fail
  refine wp_over (fun W => Hid (W.heap[w.heap.size]? = some (.cells #[.int .i64 (b : Int), .int .i64 (n : Int)] 23 (0, 0))) ∧ Hid (Below w.heap.size w W) ∧ Hid (W.heap.size = w.heap.size + 1)) ⟨heap_alloc_new _ _, (Below.refl _ _).alloc (Nat.le_refl _) _, by show _ = _; simp⟩ ?_
  rintro W ⟨HG, HB, HWN⟩
  obtain ⟨N, hN⟩ := ex_eq w.heap.size
  rw [hN] at HG HB HWN ⊢
  have HN := Lib.hid hN
  clear hN
  have HCE : Hid (∀ V, Below (N + 1) W V → V.cell? ⟨N, 0, none⟩ = some (.int .i64 (b : Int)) ∧ V.cell? ⟨N, 1, none⟩ = some (.int .i64 (n : Int))) := Lib.hid (fun V h => by
    have hg := (h.block N (Nat.lt_succ_self _)).trans HG.out
    exact ⟨(cell_of_row _ _ _ _ _ _ hg).trans rfl, (cell_of_row _ _ _ _ _ _ hg).trans rfl⟩)
  have HST : Hid (∀ V V', Below (N + 1) W V → Below V.heap.size V V' → Below (N + 1) W V') := Lib.hid (fun V V' h h' => h.trans (h'.mono (by have := h.size; have := HWN.out; omega)))
  have HEND : Hid (∀ V, Below (N + 1) W V → Below w.heap.size w V) := Lib.hid (fun V h => by rw [HN.out]; exact HB.out.trans (h.mono (Nat.le_succ N)))
  have HLD : Hid (∀ V, Below (N + 1) W V → Laid V) := Lib.hid (fun V h => HL.out.later (HEND.out V h) (Nat.le_refl _))
  have HCUR : Hid (Below (N + 1) W W) := Lib.hid (Below.refl _ _)
  obtain ⟨c0, c1⟩ := HCE.out _ HCUR.out
  go_wp2_with (first
    | (go_at_call 18
       (with_reducible refine (awake12 _ (HLD.out _ HCUR.out)).mono ?_)
       rintro e w2 ⟨rfl, h2⟩
       replace HCUR := Lib.hid (HST.out _ _ HCUR.out h2)
       (try replace HSV := Lib.hid (HSV.out.later h2))
       clear h2
       (try clear c0 c1)
       obtain ⟨c0, c1⟩ := HCE.out _ HCUR.out)
    | (go_at_call 22
       (with_reducible refine (HRV.out _).mono ?_)
       rintro e w3 ⟨rfl, h3⟩
       replace HCUR := Lib.hid (HST.out _ _ HCUR.out h3)
       (try replace HSV := Lib.hid (HSV.out.later h3))
       clear h3
       (try clear c0 c1)
       obtain ⟨c0, c1⟩ := HCE.out _ HCUR.out)
    | (go_at_call 33
       (with_reducible refine (HSM.out _).mono ?_)
       rintro e w4 ⟨rfl, h4⟩
       replace HCUR := Lib.hid (HST.out _ _ HCUR.out h4)
       (try replace HSV := Lib.hid (HSV.out.later h4))
       clear h4
       (try clear c0 c1)
       obtain ⟨c0, c1⟩ := HCE.out _ HCUR.out)
    | (go_at_call 19
       (with_reducible refine (params_any (b : Int) (n : Int) _).mono ?_)
       rintro e w5 ⟨rfl, h5⟩
       replace HCUR := Lib.hid (HST.out _ _ HCUR.out h5)
       (try replace HSV := Lib.hid (HSV.out.later h5))
       clear h5
       (try clear c0 c1)
       obtain ⟨c0, c1⟩ := HCE.out _ HCUR.out)
    | (go_at_call 34
       (with_reducible refine (HPK.out _ (HLD.out _ HCUR.out)).mono ?_)
       rintro e w6 ⟨k6, rfl, hk6, h6⟩
       have HK6 := Lib.hid hk6
       have hkk6 : (k6.toList == k6.toList) = true := by simp
       clear hk6
       replace HCUR := Lib.hid (HST.out _ _ HCUR.out h6)
       (try replace HSV := Lib.hid (HSV.out.later h6))
       clear h6
       (try clear c0 c1)
       obtain ⟨c0, c1⟩ := HCE.out _ HCUR.out)
    | (go_at_call 35
       (with_reducible refine (HSG.out _).mono ?_)
       rintro e w7 ⟨rfl, h7⟩
       replace HCUR := Lib.hid (HST.out _ _ HCUR.out h7)
       (try replace HSV := Lib.hid (HSV.out.later h7))
       clear h7
       (try clear c0 c1)
       obtain ⟨c0, c1⟩ := HCE.out _ HCUR.out)
    | (go_at_call 36
       (with_reducible refine (HRP.out _).mono ?_)
       rintro e w8 ⟨k8, rfl, hk8, h8⟩
       have hke8 : k8 = k6 := nb_inj (by rw [hk8, HK6.out])
       subst hke8
       clear hk8
       replace HCUR := Lib.hid (HST.out _ _ HCUR.out h8)
       (try replace HSV := Lib.hid (HSV.out.later h8))
       clear h8
       (try clear c0 c1)
       obtain ⟨c0, c1⟩ := HCE.out _ HCUR.out))
  go_ret
  exact ⟨by first | rfl | simp, HEND.out _ HCUR.out⟩
set_option maxRecDepth 100000 in
set_option maxHeartbeats 2000000 in
theorem sigs_ok (b : Nat) (hB : Bits b) (seed dg : ByteArray) (hn : 0 < dg.size) (hn2 : dg.size ≤ 32) (hS : SP (b : Int) (dg.size : Int)) (hs : seed.size = 32) (w : World) (hL : Laid w) :
    Calls Tryd.prog 5 #[.agg #[.int .i64 (b : Int), .int .i64 (dg.size : Int)], .string seed, .string dg] w fun e w' => e = .returned (.bool true) ∧ Below w.heap.size w w' := by
  have HL := Lib.hid hL
  have HRV := Lib.hid (fun w => refValid_any (b : Int) (dg.size : Int) w)
  rw [decide_eq_true (vp_of hB hn hn2)] at HRV
  have HSM := Lib.hid (fun w => refSmall_any (b : Int) (dg.size : Int) w)
  rw [decide_eq_true hS] at HSM
  have HPK := Lib.hid (fun w hL => public_ok b dg.size hB hn hn2 seed hs w hL)
  have HRP := Lib.hid (fun w => refPublic_ok b dg.size hB hn hn2 seed hs w)
  have HSG := Lib.hid (fun w hL => sign_ok b dg hB hn hn2 seed hs w hL)
  have HRS := Lib.hid (fun w => refSign_ok b dg hB hn hn2 seed hs w)
  have hC := count_le hB hn2
  obtain ⟨T, hT⟩ := ex_eq (pub b (nb seed) (count b dg.size))
  rw [hT] at HPK HRP
  obtain ⟨C, hCe⟩ := ex_eq (count b dg.size)
  have HCQ := Lib.hid hCe
  rw [hCe] at hC
  obtain ⟨SG, hSG⟩ := ex_eq (sign (nb seed) (One.digits b (nb dg)))
  rw [hSG] at HSG HRS
  have hsn : (((seed.size : Nat) : Int) != 32) = false := by rw [hs]; rfl
  have hdn : (((dg.size : Nat) : Int) != (dg.size : Int)) = false := by simp
  clear hL hS hs hT hB hn hn2 hCe hSG
  go_enter Tryd.func5, Tryd.ntmps5
  go_upto_region 1 with fail
  refine wp_over (fun W => Hid (W.heap[w.heap.size]? = some (.cells #[.int .i64 (b : Int), .int .i64 (dg.size : Int)] 23 (0, 0))) ∧ Hid (Below w.heap.size w W) ∧ Hid (W.heap.size = w.heap.size + 1)) ⟨heap_alloc_new _ _, (Below.refl _ _).alloc (Nat.le_refl _) _, by show _ = _; simp⟩ ?_
  rintro W ⟨HG, HB, HWN⟩
  obtain ⟨N, hN⟩ := ex_eq w.heap.size
  rw [hN] at HG HB HWN ⊢
  have HN := Lib.hid hN
  clear hN
  have HCE : Hid (∀ V, Below (N + 1) W V → V.cell? ⟨N, 0, none⟩ = some (.int .i64 (b : Int)) ∧ V.cell? ⟨N, 1, none⟩ = some (.int .i64 (dg.size : Int))) := Lib.hid (fun V h => by
    have hg := (h.block N (Nat.lt_succ_self _)).trans HG.out
    exact ⟨(cell_of_row _ _ _ _ _ _ hg).trans rfl, (cell_of_row _ _ _ _ _ _ hg).trans rfl⟩)
  have HST : Hid (∀ V V', Below (N + 1) W V → Below V.heap.size V V' → Below (N + 1) W V') := Lib.hid (fun V V' h h' => h.trans (h'.mono (by have := h.size; have := HWN.out; omega)))
  have HEND : Hid (∀ V, Below (N + 1) W V → Below w.heap.size w V) := Lib.hid (fun V h => by rw [HN.out]; exact HB.out.trans (h.mono (Nat.le_succ N)))
  have HLD : Hid (∀ V, Below (N + 1) W V → Laid V) := Lib.hid (fun V h => HL.out.later (HEND.out V h) (Nat.le_refl _))
  have HCUR : Hid (Below (N + 1) W W) := Lib.hid (Below.refl _ _)
  obtain ⟨c0, c1⟩ := HCE.out _ HCUR.out
  go_wp2_with (first
    | (go_at_call 18
       (with_reducible refine (awake12 _ (HLD.out _ HCUR.out)).mono ?_)
       rintro e w2 ⟨rfl, h2⟩
       replace HCUR := Lib.hid (HST.out _ _ HCUR.out h2)
       (try replace HSV := Lib.hid (HSV.out.later h2))
       clear h2
       (try clear c0 c1)
       obtain ⟨c0, c1⟩ := HCE.out _ HCUR.out)
    | (go_at_call 22
       (with_reducible refine (HRV.out _).mono ?_)
       rintro e w3 ⟨rfl, h3⟩
       replace HCUR := Lib.hid (HST.out _ _ HCUR.out h3)
       (try replace HSV := Lib.hid (HSV.out.later h3))
       clear h3
       (try clear c0 c1)
       obtain ⟨c0, c1⟩ := HCE.out _ HCUR.out)
    | (go_at_call 33
       (with_reducible refine (HSM.out _).mono ?_)
       rintro e w4 ⟨rfl, h4⟩
       replace HCUR := Lib.hid (HST.out _ _ HCUR.out h4)
       (try replace HSV := Lib.hid (HSV.out.later h4))
       clear h4
       (try clear c0 c1)
       obtain ⟨c0, c1⟩ := HCE.out _ HCUR.out)
    | (go_at_call 19
       (with_reducible refine (params_any (b : Int) (dg.size : Int) _).mono ?_)
       rintro e w5 ⟨rfl, h5⟩
       replace HCUR := Lib.hid (HST.out _ _ HCUR.out h5)
       (try replace HSV := Lib.hid (HSV.out.later h5))
       clear h5
       (try clear c0 c1)
       obtain ⟨c0, c1⟩ := HCE.out _ HCUR.out)
    | (go_at_call 34
       (with_reducible refine (HPK.out _ (HLD.out _ HCUR.out)).mono ?_)
       rintro e w6 ⟨k6, rfl, hk6, h6⟩
       have HK6 := Lib.hid hk6
       have hkk6 : (k6.toList == k6.toList) = true := by simp
       clear hk6
       replace HCUR := Lib.hid (HST.out _ _ HCUR.out h6)
       (try replace HSV := Lib.hid (HSV.out.later h6))
       clear h6
       (try clear c0 c1)
       obtain ⟨c0, c1⟩ := HCE.out _ HCUR.out)
    | (go_at_call 35
       (with_reducible refine (HSG.out _ (HLD.out _ HCUR.out)).mono ?_)
       rintro e w7 ⟨g7, L7, vs7, rfl, hvl7, hLC7, hvs7, hst7, _, h7⟩
       rw [HCQ.out] at hLC7
       have hLC8 := hLC7.symm
       subst hLC8
       have HVL := Lib.hid hvl7
       have HVS := Lib.hid hvs7
       have HSV := Lib.hid hst7
       clear hvl7 hvs7 hst7 hLC7
       replace HCUR := Lib.hid (HST.out _ _ HCUR.out h7)
       clear h7
       (try clear c0 c1)
       obtain ⟨c0, c1⟩ := HCE.out _ HCUR.out)
    | (go_at_call 36
       (with_reducible refine (HRP.out _).mono ?_)
       rintro e w8 ⟨k8, rfl, hk8, h8⟩
       have hke8 : k8 = k6 := nb_inj (by rw [hk8, HK6.out])
       subst hke8
       clear hk8
       replace HCUR := Lib.hid (HST.out _ _ HCUR.out h8)
       (try replace HSV := Lib.hid (HSV.out.later h8))
       clear h8
       (try clear c0 c1)
       obtain ⟨c0, c1⟩ := HCE.out _ HCUR.out)
    | (go_at_call 38
       (with_reducible refine (HRS.out _).mono ?_)
       rintro e w9 ⟨x9, L9, vs9, rfl, hL9, hvs9, ho9, h9⟩
       rw [HCQ.out] at hL9
       have hL10 := hL9.symm
       subst hL10
       obtain ⟨a9, cp9, rfl, hl9, hc9, hS9, hnil9, hlt9⟩ := strs_of_own ho9
       have HL9 := Lib.hid hl9
       have HS9 := Lib.hid hS9
       have HVS9 := Lib.hid hvs9
       clear hL9 hvs9 ho9 hl9 hc9 hS9 hnil9 hlt9
       replace HCUR := Lib.hid (HST.out _ _ HCUR.out h9)
       (try replace HSV := Lib.hid (HSV.out.later h9))
       clear h9
       (try clear c0 c1)
       obtain ⟨c0, c1⟩ := HCE.out _ HCUR.out)
    | (go_at_call 37
       (with_reducible refine (equal_any (some ⟨g7, 0, none⟩) a9 C cp9 C C vs7 vs9 HVL.out HL9.out (by omega) (by omega) _ HSV.out HS9.out).mono ?_)
       rintro e w10 ⟨rfl, h10⟩
       have hvv : decide (vs7 = vs9) = true := decide_eq_true (List.map_inj_right (fun _ _ h => nb_inj h) |>.1 (by rw [HVS.out, HVS9.out]))
       rw [hvv]
       clear hvv
       replace HCUR := Lib.hid (HST.out _ _ HCUR.out h10)
       (try replace HSV := Lib.hid (HSV.out.later h10))
       clear h10
       (try clear c0 c1)
       obtain ⟨c0, c1⟩ := HCE.out _ HCUR.out))
  go_ret
  exact ⟨by first | rfl | simp, HEND.out _ HCUR.out⟩
theorem walk_OnetimeSignatures (B S : Int) (seed dg : ByteArray) (w : World) (hL : Laid w) :
    Calls Tryd.prog 5 #[.agg #[.int .i64 B, .int .i64 S], .string seed, .string dg] w fun e w' => e = .returned (.bool true) ∧ Below w.heap.size w w' := by
  by_cases hV : VP B S
  · by_cases hS : SP B S
    · by_cases hs : seed.size = 32
      · obtain ⟨b, rfl, hB⟩ := bits_of hV
        obtain ⟨n, rfl⟩ : ∃ n : Nat, S = (n : Int) := ⟨S.toNat, by have := hV.2.1; omega⟩
        have h0 : 0 < n := by have := hV.2.1; omega
        have h2 : n ≤ 32 := by have := hV.2.2; omega
        by_cases hd : dg.size = n
        · subst hd
          exact sigs_ok b hB seed dg h0 h2 hS hs w hL
        · exact sigs_digest b n hB h0 h2 seed dg hS hs hd w hL
      · exact sigs_seed B S seed dg hV hS hs w hL
    · exact sigs_big B S seed dg hV hS w hL
  · exact sigs_invalid B S seed dg hV w hL
end Go.Proofs.YtmnendoloankgaaDoor
