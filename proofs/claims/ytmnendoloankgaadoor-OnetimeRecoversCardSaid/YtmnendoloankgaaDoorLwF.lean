/- The law Recovers, walked. -/
import Derived.Test.YtmnendoloankgaaDoorLwB
import Derived.Test.YtmnendoloankgaaDoorRfi
import Derived.Test.YtmnendoloankgaaDoorEqu
namespace Go.Proofs.YtmnendoloankgaaDoor
set_option linter.unusedVariables false
set_option linter.unusedSimpArgs false
open Go.RowKit
open Kit (Chg)
open Sha (v)
open Go.Proofs.YtmnendoloankgaaDoor.One

set_option maxRecDepth 100000 in
set_option maxHeartbeats 2000000 in
theorem recs_big (B S : Int) (pk dg : ByteArray) (a : Option Addr) (cap L : Nat) (ss : List ByteArray) (hLe : ss.length = L) (hL9 : L ≤ 9223372036854775807) (hV : VP B S) (hM : ¬ SP B S) (w : World) (hS : StrsAt w a ss) (hL : Laid w) :
    Calls Tryd.prog 6 #[.agg #[.int .i64 (B), .int .i64 (S)], .string pk, .string dg, .slice a L cap] w fun e w' => e = .returned (.bool true) ∧ Below w.heap.size w w' := by
  have HL := Lib.hid hL
  have HS := Lib.hid hS
  have HRV := Lib.hid (fun w => refValid_any (B) (S) w)
  rw [decide_eq_true hV] at HRV
  have HSM := Lib.hid (fun w => refSmall_any (B) (S) w)
  rw [decide_eq_false hM] at HSM
  clear hL hV hM hS
  go_enter Tryd.func6, Tryd.ntmps6
  go_upto_region 1 with fail
  refine wp_over (fun W => Hid (W.heap[w.heap.size]? = some (.cells #[.int .i64 (B), .int .i64 (S)] 23 (0, 0))) ∧ Hid (Below w.heap.size w W) ∧ Hid (W.heap.size = w.heap.size + 1)) ⟨heap_alloc_new _ _, (Below.refl _ _).alloc (Nat.le_refl _) _, by show _ = _; simp⟩ ?_
  rintro W ⟨HG, HB, HWN⟩
  obtain ⟨N, hN⟩ := ex_eq w.heap.size
  rw [hN] at HG HB HWN ⊢
  have HN := Lib.hid hN
  clear hN
  have HCE : Hid (∀ V, Below (N + 1) W V → V.cell? ⟨N, 0, none⟩ = some (.int .i64 (B)) ∧ V.cell? ⟨N, 1, none⟩ = some (.int .i64 (S))) := Lib.hid (fun V h => by
    have hg := (h.block N (Nat.lt_succ_self _)).trans HG.out
    exact ⟨(cell_of_row _ _ _ _ _ _ hg).trans rfl, (cell_of_row _ _ _ _ _ _ hg).trans rfl⟩)
  have HST : Hid (∀ V V', Below (N + 1) W V → Below V.heap.size V V' → Below (N + 1) W V') := Lib.hid (fun V V' h h' => h.trans (h'.mono (by have := h.size; have := HWN.out; omega)))
  have HEND : Hid (∀ V, Below (N + 1) W V → Below w.heap.size w V) := Lib.hid (fun V h => by rw [HN.out]; exact HB.out.trans (h.mono (Nat.le_succ N)))
  have HLD : Hid (∀ V, Below (N + 1) W V → Laid V) := Lib.hid (fun V h => HL.out.later (HEND.out V h) (Nat.le_refl _))
  have HCUR : Hid (Below (N + 1) W W) := Lib.hid (Below.refl _ _)
  obtain ⟨c0, c1⟩ := HCE.out _ HCUR.out
  have HSV := Lib.hid (HS.out.later (by rw [HN.out]; exact HB.out))
  go_wp2_with (first
    | (go_at_call 18
       (with_reducible refine (awake12 _ (HLD.out _ HCUR.out)).mono ?_)
       rintro e w2 ⟨rfl, h2⟩
       replace HCUR := Lib.hid (HST.out _ _ HCUR.out h2)
       (try replace HSV := Lib.hid (HSV.out.later h2))
       clear h2
       (try clear c0 c1)
       obtain ⟨c0, c1⟩ := HCE.out _ HCUR.out)
    | (go_at_call 22
       (with_reducible refine (HRV.out _).mono ?_)
       rintro e w3 ⟨rfl, h3⟩
       replace HCUR := Lib.hid (HST.out _ _ HCUR.out h3)
       (try replace HSV := Lib.hid (HSV.out.later h3))
       clear h3
       (try clear c0 c1)
       obtain ⟨c0, c1⟩ := HCE.out _ HCUR.out)
    | (go_at_call 33
       (with_reducible refine (HSM.out _).mono ?_)
       rintro e w4 ⟨rfl, h4⟩
       replace HCUR := Lib.hid (HST.out _ _ HCUR.out h4)
       (try replace HSV := Lib.hid (HSV.out.later h4))
       clear h4
       (try clear c0 c1)
       obtain ⟨c0, c1⟩ := HCE.out _ HCUR.out))
  go_ret
  exact ⟨by first | rfl | simp, HEND.out _ HCUR.out⟩
set_option maxRecDepth 100000 in
set_option maxHeartbeats 2000000 in
theorem recs_many (B S : Int) (pk dg : ByteArray) (a : Option Addr) (cap L : Nat) (ss : List ByteArray) (hLe : ss.length = L) (hL9 : L ≤ 9223372036854775807) (hM : VP B S → SP B S) (h3 : 300 < L) (w : World) (hS : StrsAt w a ss) (hL : Laid w) :
    Calls Tryd.prog 6 #[.agg #[.int .i64 (B), .int .i64 (S)], .string pk, .string dg, .slice a L cap] w fun e w' => e = .returned (.bool true) ∧ Below w.heap.size w w' := by
  have HL := Lib.hid hL
  have HS := Lib.hid hS
  have h3i : (300 : Int) < (L : Int) := by omega
  by_cases hV : VP B S
  · have HRV := Lib.hid (fun w => refValid_any (B) (S) w)
    rw [decide_eq_true hV] at HRV
    have HSM := Lib.hid (fun w => refSmall_any (B) (S) w)
    rw [decide_eq_true (hM hV)] at HSM
    clear hL hM hS hV
    go_enter Tryd.func6, Tryd.ntmps6
    go_upto_region 1 with fail
    refine wp_over (fun W => Hid (W.heap[w.heap.size]? = some (.cells #[.int .i64 (B), .int .i64 (S)] 23 (0, 0))) ∧ Hid (Below w.heap.size w W) ∧ Hid (W.heap.size = w.heap.size + 1)) ⟨heap_alloc_new _ _, (Below.refl _ _).alloc (Nat.le_refl _) _, by show _ = _; simp⟩ ?_
    rintro W ⟨HG, HB, HWN⟩
    obtain ⟨N, hN⟩ := ex_eq w.heap.size
    rw [hN] at HG HB HWN ⊢
    have HN := Lib.hid hN
    clear hN
    have HCE : Hid (∀ V, Below (N + 1) W V → V.cell? ⟨N, 0, none⟩ = some (.int .i64 (B)) ∧ V.cell? ⟨N, 1, none⟩ = some (.int .i64 (S))) := Lib.hid (fun V h => by
      have hg := (h.block N (Nat.lt_succ_self _)).trans HG.out
      exact ⟨(cell_of_row _ _ _ _ _ _ hg).trans rfl, (cell_of_row _ _ _ _ _ _ hg).trans rfl⟩)
    have HST : Hid (∀ V V', Below (N + 1) W V → Below V.heap.size V V' → Below (N + 1) W V') := Lib.hid (fun V V' h h' => h.trans (h'.mono (by have := h.size; have := HWN.out; omega)))
    have HEND : Hid (∀ V, Below (N + 1) W V → Below w.heap.size w V) := Lib.hid (fun V h => by rw [HN.out]; exact HB.out.trans (h.mono (Nat.le_succ N)))
    have HLD : Hid (∀ V, Below (N + 1) W V → Laid V) := Lib.hid (fun V h => HL.out.later (HEND.out V h) (Nat.le_refl _))
    have HCUR : Hid (Below (N + 1) W W) := Lib.hid (Below.refl _ _)
    obtain ⟨c0, c1⟩ := HCE.out _ HCUR.out
    have HSV := Lib.hid (HS.out.later (by rw [HN.out]; exact HB.out))
    go_wp2_with (first
      | (go_at_call 18
         (with_reducible refine (awake12 _ (HLD.out _ HCUR.out)).mono ?_)
         rintro e w2 ⟨rfl, h2⟩
         replace HCUR := Lib.hid (HST.out _ _ HCUR.out h2)
         (try replace HSV := Lib.hid (HSV.out.later h2))
         clear h2
         (try clear c0 c1)
         obtain ⟨c0, c1⟩ := HCE.out _ HCUR.out)
      | (go_at_call 22
         (with_reducible refine (HRV.out _).mono ?_)
         rintro e w3 ⟨rfl, h3⟩
         replace HCUR := Lib.hid (HST.out _ _ HCUR.out h3)
         (try replace HSV := Lib.hid (HSV.out.later h3))
         clear h3
         (try clear c0 c1)
         obtain ⟨c0, c1⟩ := HCE.out _ HCUR.out)
      | (go_at_call 33
         (with_reducible refine (HSM.out _).mono ?_)
         rintro e w4 ⟨rfl, h4⟩
         replace HCUR := Lib.hid (HST.out _ _ HCUR.out h4)
         (try replace HSV := Lib.hid (HSV.out.later h4))
         clear h4
         (try clear c0 c1)
         obtain ⟨c0, c1⟩ := HCE.out _ HCUR.out))
    go_ret
    exact ⟨by first | rfl | simp, HEND.out _ HCUR.out⟩
  · have HRV := Lib.hid (fun w => refValid_any (B) (S) w)
    rw [decide_eq_false hV] at HRV
    clear hL hM hS hV
    go_enter Tryd.func6, Tryd.ntmps6
    go_upto_region 1 with fail
    refine wp_over (fun W => Hid (W.heap[w.heap.size]? = some (.cells #[.int .i64 (B), .int .i64 (S)] 23 (0, 0))) ∧ Hid (Below w.heap.size w W) ∧ Hid (W.heap.size = w.heap.size + 1)) ⟨heap_alloc_new _ _, (Below.refl _ _).alloc (Nat.le_refl _) _, by show _ = _; simp⟩ ?_
    rintro W ⟨HG, HB, HWN⟩
    obtain ⟨N, hN⟩ := ex_eq w.heap.size
    rw [hN] at HG HB HWN ⊢
    have HN := Lib.hid hN
    clear hN
    have HCE : Hid (∀ V, Below (N + 1) W V → V.cell? ⟨N, 0, none⟩ = some (.int .i64 (B)) ∧ V.cell? ⟨N, 1, none⟩ = some (.int .i64 (S))) := Lib.hid (fun V h => by
      have hg := (h.block N (Nat.lt_succ_self _)).trans HG.out
      exact ⟨(cell_of_row _ _ _ _ _ _ hg).trans rfl, (cell_of_row _ _ _ _ _ _ hg).trans rfl⟩)
    have HST : Hid (∀ V V', Below (N + 1) W V → Below V.heap.size V V' → Below (N + 1) W V') := Lib.hid (fun V V' h h' => h.trans (h'.mono (by have := h.size; have := HWN.out; omega)))
    have HEND : Hid (∀ V, Below (N + 1) W V → Below w.heap.size w V) := Lib.hid (fun V h => by rw [HN.out]; exact HB.out.trans (h.mono (Nat.le_succ N)))
    have HLD : Hid (∀ V, Below (N + 1) W V → Laid V) := Lib.hid (fun V h => HL.out.later (HEND.out V h) (Nat.le_refl _))
    have HCUR : Hid (Below (N + 1) W W) := Lib.hid (Below.refl _ _)
    obtain ⟨c0, c1⟩ := HCE.out _ HCUR.out
    have HSV := Lib.hid (HS.out.later (by rw [HN.out]; exact HB.out))
    go_wp2_with (first
      | (go_at_call 18
         (with_reducible refine (awake12 _ (HLD.out _ HCUR.out)).mono ?_)
         rintro e w2 ⟨rfl, h2⟩
         replace HCUR := Lib.hid (HST.out _ _ HCUR.out h2)
         (try replace HSV := Lib.hid (HSV.out.later h2))
         clear h2
         (try clear c0 c1)
         obtain ⟨c0, c1⟩ := HCE.out _ HCUR.out)
      | (go_at_call 22
         (with_reducible refine (HRV.out _).mono ?_)
         rintro e w3 ⟨rfl, h3⟩
         replace HCUR := Lib.hid (HST.out _ _ HCUR.out h3)
         (try replace HSV := Lib.hid (HSV.out.later h3))
         clear h3
         (try clear c0 c1)
         obtain ⟨c0, c1⟩ := HCE.out _ HCUR.out))
    go_ret
    exact ⟨by first | rfl | simp, HEND.out _ HCUR.out⟩
set_option maxRecDepth 100000 in
set_option maxHeartbeats 2000000 in
theorem recs_invalid (B S : Int) (pk dg : ByteArray) (a : Option Addr) (cap L : Nat) (ss : List ByteArray) (hLe : ss.length = L) (hL9 : L ≤ 9223372036854775807) (hV : ¬ VP B S) (h3 : L ≤ 300) (w : World) (hS : StrsAt w a ss) (hL : Laid w) :
    Calls Tryd.prog 6 #[.agg #[.int .i64 (B), .int .i64 (S)], .string pk, .string dg, .slice a L cap] w fun e w' => e = .returned (.bool true) ∧ Below w.heap.size w w' := by
  have HL := Lib.hid hL
  have HS := Lib.hid hS
  have h3i : ¬ (300 : Int) < (L : Int) := by omega
  have HRV := Lib.hid (fun w => refValid_any (B) (S) w)
  rw [decide_eq_false hV] at HRV
  have HRC := Lib.hid (fun w (_ : StrsAt w a ss) (_ : Laid w) => recover_bad B S dg a cap L (by omega) (fun h => hV h.1) w)
  have hvf := fun w hS hL => verify_any (B) (S) pk dg a cap L ss hLe (by omega) w hS hL
  rw [show decide (Acc (B) (S) (nb pk) (nb dg) (ss.map nb)) = false from decide_eq_false (fun h => hV h.1)] at hvf
  have HVF := Lib.hid hvf
  clear hvf
  clear hL hV hS
  go_enter Tryd.func6, Tryd.ntmps6
  go_upto_region 1 with fail
  refine wp_over (fun W => Hid (W.heap[w.heap.size]? = some (.cells #[.int .i64 (B), .int .i64 (S)] 23 (0, 0))) ∧ Hid (Below w.heap.size w W) ∧ Hid (W.heap.size = w.heap.size + 1)) ⟨heap_alloc_new _ _, (Below.refl _ _).alloc (Nat.le_refl _) _, by show _ = _; simp⟩ ?_
  rintro W ⟨HG, HB, HWN⟩
  obtain ⟨N, hN⟩ := ex_eq w.heap.size
  rw [hN] at HG HB HWN ⊢
  have HN := Lib.hid hN
  clear hN
  have HCE : Hid (∀ V, Below (N + 1) W V → V.cell? ⟨N, 0, none⟩ = some (.int .i64 (B)) ∧ V.cell? ⟨N, 1, none⟩ = some (.int .i64 (S))) := Lib.hid (fun V h => by
    have hg := (h.block N (Nat.lt_succ_self _)).trans HG.out
    exact ⟨(cell_of_row _ _ _ _ _ _ hg).trans rfl, (cell_of_row _ _ _ _ _ _ hg).trans rfl⟩)
  have HST : Hid (∀ V V', Below (N + 1) W V → Below V.heap.size V V' → Below (N + 1) W V') := Lib.hid (fun V V' h h' => h.trans (h'.mono (by have := h.size; have := HWN.out; omega)))
  have HEND : Hid (∀ V, Below (N + 1) W V → Below w.heap.size w V) := Lib.hid (fun V h => by rw [HN.out]; exact HB.out.trans (h.mono (Nat.le_succ N)))
  have HLD : Hid (∀ V, Below (N + 1) W V → Laid V) := Lib.hid (fun V h => HL.out.later (HEND.out V h) (Nat.le_refl _))
  have HCUR : Hid (Below (N + 1) W W) := Lib.hid (Below.refl _ _)
  obtain ⟨c0, c1⟩ := HCE.out _ HCUR.out
  have HSV := Lib.hid (HS.out.later (by rw [HN.out]; exact HB.out))
  go_wp2_with (first
    | (go_at_call 18
       (with_reducible refine (awake12 _ (HLD.out _ HCUR.out)).mono ?_)
       rintro e w2 ⟨rfl, h2⟩
       replace HCUR := Lib.hid (HST.out _ _ HCUR.out h2)
       (try replace HSV := Lib.hid (HSV.out.later h2))
       clear h2
       (try clear c0 c1)
       obtain ⟨c0, c1⟩ := HCE.out _ HCUR.out)
    | (go_at_call 22
       (with_reducible refine (HRV.out _).mono ?_)
       rintro e w3 ⟨rfl, h3⟩
       replace HCUR := Lib.hid (HST.out _ _ HCUR.out h3)
       (try replace HSV := Lib.hid (HSV.out.later h3))
       clear h3
       (try clear c0 c1)
       obtain ⟨c0, c1⟩ := HCE.out _ HCUR.out)
    | (go_at_call 19
       (with_reducible refine (params_any (B) (S) _).mono ?_)
       rintro e w5 ⟨rfl, h5⟩
       replace HCUR := Lib.hid (HST.out _ _ HCUR.out h5)
       (try replace HSV := Lib.hid (HSV.out.later h5))
       clear h5
       (try clear c0 c1)
       obtain ⟨c0, c1⟩ := HCE.out _ HCUR.out)
    | (go_at_call 39
       (with_reducible refine (HRC.out _ HSV.out (HLD.out _ HCUR.out)).mono ?_)
       rintro e w6 ⟨rfl, h6⟩
       replace HCUR := Lib.hid (HST.out _ _ HCUR.out h6)
       (try replace HSV := Lib.hid (HSV.out.later h6))
       clear h6
       (try clear c0 c1)
       obtain ⟨c0, c1⟩ := HCE.out _ HCUR.out)
    | (go_at_call 40
       (with_reducible refine (HVF.out _ HSV.out (HLD.out _ HCUR.out)).mono ?_)
       rintro e w7 ⟨rfl, h7⟩
       replace HCUR := Lib.hid (HST.out _ _ HCUR.out h7)
       (try replace HSV := Lib.hid (HSV.out.later h7))
       clear h7
       (try clear c0 c1)
       obtain ⟨c0, c1⟩ := HCE.out _ HCUR.out))
  go_ret
  exact ⟨by first | rfl | simp, HEND.out _ HCUR.out⟩
set_option maxRecDepth 100000 in
set_option maxHeartbeats 2000000 in
theorem recs_digest (B S : Int) (pk dg : ByteArray) (a : Option Addr) (cap L : Nat) (ss : List ByteArray) (hLe : ss.length = L) (hL9 : L ≤ 9223372036854775807) (hV : VP B S) (hM : SP B S) (h3 : L ≤ 300) (hd : ¬ (dg.size : Int) = S) (w : World) (hS : StrsAt w a ss) (hL : Laid w) :
    Calls Tryd.prog 6 #[.agg #[.int .i64 (B), .int .i64 (S)], .string pk, .string dg, .slice a L cap] w fun e w' => e = .returned (.bool true) ∧ Below w.heap.size w w' := by
  have HL := Lib.hid hL
  have HS := Lib.hid hS
  have h3i : ¬ (300 : Int) < (L : Int) := by omega
  have hdn : (((dg.size : Nat) : Int) != S) = true := by rw [bne_iff_ne]; exact hd
  have HRV := Lib.hid (fun w => refValid_any (B) (S) w)
  rw [decide_eq_true hV] at HRV
  have HSM := Lib.hid (fun w => refSmall_any (B) (S) w)
  rw [decide_eq_true hM] at HSM
  have HRC := Lib.hid (fun w (_ : StrsAt w a ss) (_ : Laid w) => recover_bad B S dg a cap L (by omega) (fun h => hd h.2.1) w)
  have hvf := fun w hS hL => verify_any (B) (S) pk dg a cap L ss hLe (by omega) w hS hL
  rw [show decide (Acc (B) (S) (nb pk) (nb dg) (ss.map nb)) = false from decide_eq_false (fun h => hd (by have := h.2.1; rwa [nb_length] at this))] at hvf
  have HVF := Lib.hid hvf
  clear hvf
  clear hL hV hS hd hM
  go_enter Tryd.func6, Tryd.ntmps6
  go_upto_region 1 with fail
  refine wp_over (fun W => Hid (W.heap[w.heap.size]? = some (.cells #[.int .i64 (B), .int .i64 (S)] 23 (0, 0))) ∧ Hid (Below w.heap.size w W) ∧ Hid (W.heap.size = w.heap.size + 1)) ⟨heap_alloc_new _ _, (Below.refl _ _).alloc (Nat.le_refl _) _, by show _ = _; simp⟩ ?_
  rintro W ⟨HG, HB, HWN⟩
  obtain ⟨N, hN⟩ := ex_eq w.heap.size
  rw [hN] at HG HB HWN ⊢
  have HN := Lib.hid hN
  clear hN
  have HCE : Hid (∀ V, Below (N + 1) W V → V.cell? ⟨N, 0, none⟩ = some (.int .i64 (B)) ∧ V.cell? ⟨N, 1, none⟩ = some (.int .i64 (S))) := Lib.hid (fun V h => by
    have hg := (h.block N (Nat.lt_succ_self _)).trans HG.out
    exact ⟨(cell_of_row _ _ _ _ _ _ hg).trans rfl, (cell_of_row _ _ _ _ _ _ hg).trans rfl⟩)
  have HST : Hid (∀ V V', Below (N + 1) W V → Below V.heap.size V V' → Below (N + 1) W V') := Lib.hid (fun V V' h h' => h.trans (h'.mono (by have := h.size; have := HWN.out; omega)))
  have HEND : Hid (∀ V, Below (N + 1) W V → Below w.heap.size w V) := Lib.hid (fun V h => by rw [HN.out]; exact HB.out.trans (h.mono (Nat.le_succ N)))
  have HLD : Hid (∀ V, Below (N + 1) W V → Laid V) := Lib.hid (fun V h => HL.out.later (HEND.out V h) (Nat.le_refl _))
  have HCUR : Hid (Below (N + 1) W W) := Lib.hid (Below.refl _ _)
  obtain ⟨c0, c1⟩ := HCE.out _ HCUR.out
  have HSV := Lib.hid (HS.out.later (by rw [HN.out]; exact HB.out))
  go_wp2_with (first
    | (go_at_call 18
       (with_reducible refine (awake12 _ (HLD.out _ HCUR.out)).mono ?_)
       rintro e w2 ⟨rfl, h2⟩
       replace HCUR := Lib.hid (HST.out _ _ HCUR.out h2)
       (try replace HSV := Lib.hid (HSV.out.later h2))
       clear h2
       (try clear c0 c1)
       obtain ⟨c0, c1⟩ := HCE.out _ HCUR.out)
    | (go_at_call 22
       (with_reducible refine (HRV.out _).mono ?_)
       rintro e w3 ⟨rfl, h3⟩
       replace HCUR := Lib.hid (HST.out _ _ HCUR.out h3)
       (try replace HSV := Lib.hid (HSV.out.later h3))
       clear h3
       (try clear c0 c1)
       obtain ⟨c0, c1⟩ := HCE.out _ HCUR.out)
    | (go_at_call 33
       (with_reducible refine (HSM.out _).mono ?_)
       rintro e w4 ⟨rfl, h4⟩
       replace HCUR := Lib.hid (HST.out _ _ HCUR.out h4)
       (try replace HSV := Lib.hid (HSV.out.later h4))
       clear h4
       (try clear c0 c1)
       obtain ⟨c0, c1⟩ := HCE.out _ HCUR.out)
    | (go_at_call 19
       (with_reducible refine (params_any (B) (S) _).mono ?_)
       rintro e w5 ⟨rfl, h5⟩
       replace HCUR := Lib.hid (HST.out _ _ HCUR.out h5)
       (try replace HSV := Lib.hid (HSV.out.later h5))
       clear h5
       (try clear c0 c1)
       obtain ⟨c0, c1⟩ := HCE.out _ HCUR.out)
    | (go_at_call 39
       (with_reducible refine (HRC.out _ HSV.out (HLD.out _ HCUR.out)).mono ?_)
       rintro e w6 ⟨rfl, h6⟩
       replace HCUR := Lib.hid (HST.out _ _ HCUR.out h6)
       (try replace HSV := Lib.hid (HSV.out.later h6))
       clear h6
       (try clear c0 c1)
       obtain ⟨c0, c1⟩ := HCE.out _ HCUR.out)
    | (go_at_call 40
       (with_reducible refine (HVF.out _ HSV.out (HLD.out _ HCUR.out)).mono ?_)
       rintro e w7 ⟨rfl, h7⟩
       replace HCUR := Lib.hid (HST.out _ _ HCUR.out h7)
       (try replace HSV := Lib.hid (HSV.out.later h7))
       clear h7
       (try clear c0 c1)
       obtain ⟨c0, c1⟩ := HCE.out _ HCUR.out))
  go_ret
  exact ⟨by first | rfl | simp, HEND.out _ HCUR.out⟩
set_option maxRecDepth 100000 in
set_option maxHeartbeats 2000000 in
theorem recs_parts (b : Nat) (hB : Bits b) (pk dg : ByteArray) (hn : 0 < dg.size) (hn2 : dg.size ≤ 32) (a : Option Addr) (cap L : Nat) (ss : List ByteArray) (hLe : ss.length = L) (hL9 : L ≤ 9223372036854775807) (hM : SP (b : Int) (dg.size : Int)) (h3 : L ≤ 300) (hp : ¬ (L = count b dg.size ∧ ∀ s ∈ ss, s.size = 32)) (w : World) (hS : StrsAt w a ss) (hL : Laid w) :
    Calls Tryd.prog 6 #[.agg #[.int .i64 (b : Int), .int .i64 (dg.size : Int)], .string pk, .string dg, .slice a L cap] w fun e w' => e = .returned (.bool true) ∧ Below w.heap.size w w' := by
  have HL := Lib.hid hL
  have HS := Lib.hid hS
  have h3i : ¬ (300 : Int) < (L : Int) := by omega
  have hdn : (((dg.size : Nat) : Int) != (dg.size : Int)) = false := by simp
  have HRV := Lib.hid (fun w => refValid_any (b : Int) (dg.size : Int) w)
  rw [decide_eq_true (vp_of hB hn hn2)] at HRV
  have HSM := Lib.hid (fun w => refSmall_any (b : Int) (dg.size : Int) w)
  rw [decide_eq_true hM] at HSM
  have HRC : Hid (∀ w, StrsAt w a ss → Laid w → Calls Tryd.prog 39 #[.agg #[.int .i64 (b : Int), .int .i64 (dg.size : Int)], .string dg, .slice a L cap] w fun e w' => e = .returned (.tuple #[.string ByteArray.empty, .int .i64 1]) ∧ Below w.heap.size w w') := Lib.hid (fun w hS hL => by
    by_cases hc : L = count b dg.size
    · exact recover_part b dg hB hn hn2 a cap L ss hLe hc (fun h => hp ⟨hc, h⟩) w hS hL
    · exact recover_bad (b : Int) (dg.size : Int) dg a cap L (by omega) (fun h => hc (by have := h.2.2; rwa [Int.toNat_natCast] at this)) w)
  have hvf := fun w hS hL => verify_any (b : Int) (dg.size : Int) pk dg a cap L ss hLe (by omega) w hS hL
  rw [show decide (Acc (b : Int) (dg.size : Int) (nb pk) (nb dg) (ss.map nb)) = false from decide_eq_false (fun h => hp ⟨by have := h.2.2.1; rwa [List.length_map, hLe, Int.toNat_natCast, nb_length] at this, fun s hs => by rw [← nb_length]; exact h.2.2.2.1 _ (List.mem_map.2 ⟨s, hs, rfl⟩)⟩)] at hvf
  have HVF := Lib.hid hvf
  clear hvf
  have hpt := fun w hS => refParts_any b dg.size hB hn hn2 a cap L ss hLe (by omega) w hS
  rw [decide_eq_false hp] at hpt
  have HPT := Lib.hid hpt
  clear hpt hL hS hM hp hB hn hn2 hLe
  go_enter Tryd.func6, Tryd.ntmps6
  go_upto_region 1 with fail
  refine wp_over (fun W => Hid (W.heap[w.heap.size]? = some (.cells #[.int .i64 (b : Int), .int .i64 (dg.size : Int)] 23 (0, 0))) ∧ Hid (Below w.heap.size w W) ∧ Hid (W.heap.size = w.heap.size + 1)) ⟨heap_alloc_new _ _, (Below.refl _ _).alloc (Nat.le_refl _) _, by show _ = _; simp⟩ ?_
  rintro W ⟨HG, HB, HWN⟩
  obtain ⟨N, hN⟩ := ex_eq w.heap.size
  rw [hN] at HG HB HWN ⊢
  have HN := Lib.hid hN
  clear hN
  have HCE : Hid (∀ V, Below (N + 1) W V → V.cell? ⟨N, 0, none⟩ = some (.int .i64 (b : Int)) ∧ V.cell? ⟨N, 1, none⟩ = some (.int .i64 (dg.size : Int))) := Lib.hid (fun V h => by
    have hg := (h.block N (Nat.lt_succ_self _)).trans HG.out
    exact ⟨(cell_of_row _ _ _ _ _ _ hg).trans rfl, (cell_of_row _ _ _ _ _ _ hg).trans rfl⟩)
  have HST : Hid (∀ V V', Below (N + 1) W V → Below V.heap.size V V' → Below (N + 1) W V') := Lib.hid (fun V V' h h' => h.trans (h'.mono (by have := h.size; have := HWN.out; omega)))
  have HEND : Hid (∀ V, Below (N + 1) W V → Below w.heap.size w V) := Lib.hid (fun V h => by rw [HN.out]; exact HB.out.trans (h.mono (Nat.le_succ N)))
  have HLD : Hid (∀ V, Below (N + 1) W V → Laid V) := Lib.hid (fun V h => HL.out.later (HEND.out V h) (Nat.le_refl _))
  have HCUR : Hid (Below (N + 1) W W) := Lib.hid (Below.refl _ _)
  obtain ⟨c0, c1⟩ := HCE.out _ HCUR.out
  have HSV := Lib.hid (HS.out.later (by rw [HN.out]; exact HB.out))
  go_wp2_with (first
    | (go_at_call 18
       (with_reducible refine (awake12 _ (HLD.out _ HCUR.out)).mono ?_)
       rintro e w2 ⟨rfl, h2⟩
       replace HCUR := Lib.hid (HST.out _ _ HCUR.out h2)
       (try replace HSV := Lib.hid (HSV.out.later h2))
       clear h2
       (try clear c0 c1)
       obtain ⟨c0, c1⟩ := HCE.out _ HCUR.out)
    | (go_at_call 22
       (with_reducible refine (HRV.out _).mono ?_)
       rintro e w3 ⟨rfl, h3⟩
       replace HCUR := Lib.hid (HST.out _ _ HCUR.out h3)
       (try replace HSV := Lib.hid (HSV.out.later h3))
       clear h3
       (try clear c0 c1)
       obtain ⟨c0, c1⟩ := HCE.out _ HCUR.out)
    | (go_at_call 33
       (with_reducible refine (HSM.out _).mono ?_)
       rintro e w4 ⟨rfl, h4⟩
       replace HCUR := Lib.hid (HST.out _ _ HCUR.out h4)
       (try replace HSV := Lib.hid (HSV.out.later h4))
       clear h4
       (try clear c0 c1)
       obtain ⟨c0, c1⟩ := HCE.out _ HCUR.out)
    | (go_at_call 19
       (with_reducible refine (params_any (b : Int) (dg.size : Int) _).mono ?_)
       rintro e w5 ⟨rfl, h5⟩
       replace HCUR := Lib.hid (HST.out _ _ HCUR.out h5)
       (try replace HSV := Lib.hid (HSV.out.later h5))
       clear h5
       (try clear c0 c1)
       obtain ⟨c0, c1⟩ := HCE.out _ HCUR.out)
    | (go_at_call 39
       (with_reducible refine (HRC.out _ HSV.out (HLD.out _ HCUR.out)).mono ?_)
       rintro e w6 ⟨rfl, h6⟩
       replace HCUR := Lib.hid (HST.out _ _ HCUR.out h6)
       (try replace HSV := Lib.hid (HSV.out.later h6))
       clear h6
       (try clear c0 c1)
       obtain ⟨c0, c1⟩ := HCE.out _ HCUR.out)
    | (go_at_call 40
       (with_reducible refine (HVF.out _ HSV.out (HLD.out _ HCUR.out)).mono ?_)
       rintro e w7 ⟨rfl, h7⟩
       replace HCUR := Lib.hid (HST.out _ _ HCUR.out h7)
       (try replace HSV := Lib.hid (HSV.out.later h7))
       clear h7
       (try clear c0 c1)
       obtain ⟨c0, c1⟩ := HCE.out _ HCUR.out)
    | (go_at_call 41
       (with_reducible refine (HPT.out _ HSV.out).mono ?_)
       rintro e w8 ⟨rfl, h8⟩
       replace HCUR := Lib.hid (HST.out _ _ HCUR.out h8)
       (try replace HSV := Lib.hid (HSV.out.later h8))
       clear h8
       (try clear c0 c1)
       obtain ⟨c0, c1⟩ := HCE.out _ HCUR.out))
  go_ret
  exact ⟨by first | rfl | simp, HEND.out _ HCUR.out⟩
set_option maxRecDepth 100000 in
set_option maxHeartbeats 2000000 in
theorem recs_ok (b : Nat) (hB : Bits b) (pk dg : ByteArray) (hn : 0 < dg.size) (hn2 : dg.size ≤ 32) (a : Option Addr) (cap L : Nat) (ss : List ByteArray) (hLe : ss.length = L) (hL9 : L ≤ 9223372036854775807) (hM : SP (b : Int) (dg.size : Int)) (h3 : L ≤ 300) (hC : L = count b dg.size) (h32 : ∀ s ∈ ss, s.size = 32) (w : World) (hS : StrsAt w a ss) (hL : Laid w) :
    Calls Tryd.prog 6 #[.agg #[.int .i64 (b : Int), .int .i64 (dg.size : Int)], .string pk, .string dg, .slice a L cap] w fun e w' => e = .returned (.bool true) ∧ Below w.heap.size w w' := by
  have HL := Lib.hid hL
  have HS := Lib.hid hS
  have h3i : ¬ (300 : Int) < (L : Int) := by omega
  have hdn : (((dg.size : Nat) : Int) != (dg.size : Int)) = false := by simp
  have HRV := Lib.hid (fun w => refValid_any (b : Int) (dg.size : Int) w)
  rw [decide_eq_true (vp_of hB hn hn2)] at HRV
  have HSM := Lib.hid (fun w => refSmall_any (b : Int) (dg.size : Int) w)
  rw [decide_eq_true hM] at HSM
  have HRC := Lib.hid (fun w hS hL => recover_ok b dg hB hn hn2 a cap L ss hLe hC h32 w hS hL)
  have HRR := Lib.hid (fun w hS => refRecover_ok b dg hB hn hn2 a cap L ss hLe hC h32 w hS)
  have hvf := fun w hS hL => verify_any (b : Int) (dg.size : Int) pk dg a cap L ss hLe (by omega) w hS hL
  have hpt := fun w hS => refParts_any b dg.size hB hn hn2 a cap L ss hLe (by omega) w hS
  rw [decide_eq_true ⟨hC, h32⟩] at hpt
  have HPT := Lib.hid hpt
  have HDK : Hid (∀ k : ByteArray, nb k = recover b (One.digits b (nb dg)) (ss.map nb) → decide (Acc (b : Int) (dg.size : Int) (nb pk) (nb dg) (ss.map nb)) = (pk.toList == k.toList)) := Lib.hid (fun k hk => acc_eq hB dg hn hn2 pk k ss (by rw [hLe]; exact hC) h32 hk.symm)
  obtain ⟨D, hD⟩ := ex_eq (decide (Acc (b : Int) (dg.size : Int) (nb pk) (nb dg) (ss.map nb)))
  rw [hD] at hvf HDK
  obtain ⟨R, hR⟩ := ex_eq (recover b (One.digits b (nb dg)) (ss.map nb))
  rw [hR] at HRC HRR HDK
  have HVF := Lib.hid hvf
  clear hvf hpt hL hS hM hC h32 hB hn hn2 hLe hD hR
  go_enter Tryd.func6, Tryd.ntmps6
  go_upto_region 1 with fail
  refine wp_over (fun W => Hid (W.heap[w.heap.size]? = some (.cells #[.int .i64 (b : Int), .int .i64 (dg.size : Int)] 23 (0, 0))) ∧ Hid (Below w.heap.size w W) ∧ Hid (W.heap.size = w.heap.size + 1)) ⟨heap_alloc_new _ _, (Below.refl _ _).alloc (Nat.le_refl _) _, by show _ = _; simp⟩ ?_
  rintro W ⟨HG, HB, HWN⟩
  obtain ⟨N, hN⟩ := ex_eq w.heap.size
  rw [hN] at HG HB HWN ⊢
  have HN := Lib.hid hN
  clear hN
  have HCE : Hid (∀ V, Below (N + 1) W V → V.cell? ⟨N, 0, none⟩ = some (.int .i64 (b : Int)) ∧ V.cell? ⟨N, 1, none⟩ = some (.int .i64 (dg.size : Int))) := Lib.hid (fun V h => by
    have hg := (h.block N (Nat.lt_succ_self _)).trans HG.out
    exact ⟨(cell_of_row _ _ _ _ _ _ hg).trans rfl, (cell_of_row _ _ _ _ _ _ hg).trans rfl⟩)
  have HST : Hid (∀ V V', Below (N + 1) W V → Below V.heap.size V V' → Below (N + 1) W V') := Lib.hid (fun V V' h h' => h.trans (h'.mono (by have := h.size; have := HWN.out; omega)))
  have HEND : Hid (∀ V, Below (N + 1) W V → Below w.heap.size w V) := Lib.hid (fun V h => by rw [HN.out]; exact HB.out.trans (h.mono (Nat.le_succ N)))
  have HLD : Hid (∀ V, Below (N + 1) W V → Laid V) := Lib.hid (fun V h => HL.out.later (HEND.out V h) (Nat.le_refl _))
  have HCUR : Hid (Below (N + 1) W W) := Lib.hid (Below.refl _ _)
  obtain ⟨c0, c1⟩ := HCE.out _ HCUR.out
  have HSV := Lib.hid (HS.out.later (by rw [HN.out]; exact HB.out))
  go_wp2_with (first
    | (go_at_call 18
       (with_reducible refine (awake12 _ (HLD.out _ HCUR.out)).mono ?_)
       rintro e w2 ⟨rfl, h2⟩
       replace HCUR := Lib.hid (HST.out _ _ HCUR.out h2)
       (try replace HSV := Lib.hid (HSV.out.later h2))
       clear h2
       (try clear c0 c1)
       obtain ⟨c0, c1⟩ := HCE.out _ HCUR.out)
    | (go_at_call 22
       (with_reducible refine (HRV.out _).mono ?_)
       rintro e w3 ⟨rfl, h3⟩
       replace HCUR := Lib.hid (HST.out _ _ HCUR.out h3)
       (try replace HSV := Lib.hid (HSV.out.later h3))
       clear h3
       (try clear c0 c1)
       obtain ⟨c0, c1⟩ := HCE.out _ HCUR.out)
    | (go_at_call 33
       (with_reducible refine (HSM.out _).mono ?_)
       rintro e w4 ⟨rfl, h4⟩
       replace HCUR := Lib.hid (HST.out _ _ HCUR.out h4)
       (try replace HSV := Lib.hid (HSV.out.later h4))
       clear h4
       (try clear c0 c1)
       obtain ⟨c0, c1⟩ := HCE.out _ HCUR.out)
    | (go_at_call 19
       (with_reducible refine (params_any (b : Int) (dg.size : Int) _).mono ?_)
       rintro e w5 ⟨rfl, h5⟩
       replace HCUR := Lib.hid (HST.out _ _ HCUR.out h5)
       (try replace HSV := Lib.hid (HSV.out.later h5))
       clear h5
       (try clear c0 c1)
       obtain ⟨c0, c1⟩ := HCE.out _ HCUR.out)
    | (go_at_call 39
       (with_reducible refine (HRC.out _ HSV.out (HLD.out _ HCUR.out)).mono ?_)
       rintro e w6 ⟨k6, rfl, hk6, h6⟩
       have HK6 := Lib.hid hk6
       have hkk6 : (k6.toList == k6.toList) = true := by simp
       have hdk : (pk.toList == k6.toList) = D := (HDK.out k6 hk6).symm
       clear hk6
       replace HCUR := Lib.hid (HST.out _ _ HCUR.out h6)
       (try replace HSV := Lib.hid (HSV.out.later h6))
       clear h6
       (try clear c0 c1)
       obtain ⟨c0, c1⟩ := HCE.out _ HCUR.out)
    | (go_at_call 40
       (with_reducible refine (HVF.out _ HSV.out (HLD.out _ HCUR.out)).mono ?_)
       rintro e w7 ⟨rfl, h7⟩
       replace HCUR := Lib.hid (HST.out _ _ HCUR.out h7)
       (try replace HSV := Lib.hid (HSV.out.later h7))
       clear h7
       (try clear c0 c1)
       obtain ⟨c0, c1⟩ := HCE.out _ HCUR.out)
    | (go_at_call 41
       (with_reducible refine (HPT.out _ HSV.out).mono ?_)
       rintro e w8 ⟨rfl, h8⟩
       replace HCUR := Lib.hid (HST.out _ _ HCUR.out h8)
       (try replace HSV := Lib.hid (HSV.out.later h8))
       clear h8
       (try clear c0 c1)
       obtain ⟨c0, c1⟩ := HCE.out _ HCUR.out)
    | (go_at_call 42
       (with_reducible refine (HRR.out _ HSV.out).mono ?_)
       rintro e w9 ⟨k9, rfl, hk9, h9⟩
       have hke9 : k9 = k6 := nb_inj (by rw [hk9, HK6.out])
       subst hke9
       clear hk9
       replace HCUR := Lib.hid (HST.out _ _ HCUR.out h9)
       (try replace HSV := Lib.hid (HSV.out.later h9))
       clear h9
       (try clear c0 c1)
       obtain ⟨c0, c1⟩ := HCE.out _ HCUR.out))
  go_ret
  exact ⟨by first | rfl | simp, HEND.out _ HCUR.out⟩
theorem walk_OnetimeRecovers (B S : Int) (pk dg : ByteArray) (a : Option Addr) (cap L : Nat) (ss : List ByteArray) (w : World) (hLe : ss.length = L) (hL9 : L ≤ 9223372036854775807) (hS : StrsAt w a ss) (hL : Laid w) :
    Calls Tryd.prog 6 #[.agg #[.int .i64 B, .int .i64 S], .string pk, .string dg, .slice a L cap] w fun e w' => e = .returned (.bool true) ∧ Below w.heap.size w w' := by
  by_cases hM : VP B S → SP B S
  · by_cases h3 : 300 < L
    · exact recs_many B S pk dg a cap L ss hLe hL9 hM h3 w hS hL
    · by_cases hV : VP B S
      · by_cases hd : (dg.size : Int) = S
        · subst hd
          obtain ⟨b, rfl, hB⟩ := bits_of hV
          have h0 : 0 < dg.size := by have := hV.2.1; omega
          have h2 : dg.size ≤ 32 := by have := hV.2.2; omega
          by_cases hp : L = count b dg.size ∧ ∀ s ∈ ss, s.size = 32
          · exact recs_ok b hB pk dg h0 h2 a cap L ss hLe hL9 (hM hV) (by omega) hp.1 hp.2 w hS hL
          · exact recs_parts b hB pk dg h0 h2 a cap L ss hLe hL9 (hM hV) (by omega) hp w hS hL
        · exact recs_digest B S pk dg a cap L ss hLe hL9 hV (hM hV) (by omega) hd w hS hL
      · exact recs_invalid B S pk dg a cap L ss hLe hL9 hV (by omega) w hS hL
  · exact recs_big B S pk dg a cap L ss hLe hL9 (Classical.byContradiction fun h => hM (fun h2 => absurd h2 h)) (fun h => hM (fun _ => h)) w hS hL
end Go.Proofs.YtmnendoloankgaaDoor
