/- The law SignatureVerify, walked. -/
import Derived.Test.YtmnendoloankgaaDoorGf
import Derived.Test.YtmnendoloankgaaDoorRge
import Derived.Test.YtmnendoloankgaaDoorSms
import Derived.Test.YtmnendoloankgaaDoorOps
namespace Go.Proofs.YtmnendoloankgaaDoor
set_option linter.unusedVariables false
set_option linter.unusedSimpArgs false
open Go.RowKit
open Kit (Chg)
open Sha (v)
open Go.Proofs.YtmnendoloankgaaDoor.One

set_option maxRecDepth 100000 in
set_option maxHeartbeats 2000000 in
theorem verify_long1 (B S : Int) (pk dg : ByteArray) (idx : Int) (a1 : Option Addr) (n1 k1 : Nat) (a2 : Option Addr) (n2 k2 : Nat) (ps qs : List ByteArray) (hl1 : ps.length < 9223372036854775808) (hl2 : qs.length < 9223372036854775808) (h : 64 < pk.size) (w : World) (hx : SigAt w (.agg #[.int .i64 idx, .slice a1 n1 k1, .slice a2 n2 k2]) idx ps qs) (hL : Laid w) :
    Calls Tryd.prog 15 #[.agg #[.int .i64 B, .int .i64 S], .string pk, .string dg, .agg #[.int .i64 idx, .slice a1 n1 k1, .slice a2 n2 k2]] w fun e w' => e = .returned (.bool true) ∧ Below w.heap.size w w' := by
  have hi : (64 : Int) < ((pk.size : Nat) : Int) := by omega
  have HL := Lib.hid hL
  have HX : Hid (∀ V, Below w.heap.size w V → SigAt V (.agg #[.int .i64 idx, .slice a1 n1 k1, .slice a2 n2 k2]) idx ps qs) := Lib.hid (fun V h => hx.later h)
  have HSM := Lib.hid (fun w hx => small_any idx (.agg #[.int .i64 idx, .slice a1 n1 k1, .slice a2 n2 k2]) ps qs hl1 hl2 w hx)
  clear hx hL h
  go_enter Tryd.func15, Tryd.ntmps15
  go_upto_region 1 with fail
  refine wp_over (fun W => Hid (W.heap[w.heap.size]? = some (.cells #[.int .i64 (B), .int .i64 (S)] 63 (0, 0))) ∧ Hid (W.heap[w.heap.size + 1]? = some (.cells #[.int .i64 idx, .slice a1 n1 k1, .slice a2 n2 k2] 75 (0, 0))) ∧ Hid (Below w.heap.size w W) ∧ Hid (W.heap.size = w.heap.size + 2)) ⟨?_, ?_, ?_, ?_⟩ ?_
  · exact (Below.heap_alloc _ _ _ (by simp)).trans (heap_alloc_new _ _)
  · have h := heap_alloc_new (w.alloc (.cells #[.int .i64 (B), .int .i64 (S)] 63)) (.cells #[.int .i64 idx, .slice a1 n1 k1, .slice a2 n2 k2] 75)
    rwa [World.size_alloc] at h
  · exact ((Below.refl _ _).alloc (Nat.le_refl _) _).alloc (by simp) _
  · show _ = _
    simp
  rintro W ⟨HG1, HG2, HB, HWN⟩
  obtain ⟨N, hN⟩ := ex_eq w.heap.size
  rw [hN] at HG1 HG2 HB HWN ⊢
  have HN := Lib.hid hN
  clear hN
  have HCE : Hid (∀ V, Below (N + 2) W V → V.cell? ⟨N, 0, none⟩ = some (.int .i64 (B)) ∧ V.cell? ⟨N, 1, none⟩ = some (.int .i64 (S)) ∧ V.cell? ⟨N + 1, 0, none⟩ = some (.int .i64 idx) ∧ V.cell? ⟨N + 1, 1, none⟩ = some (.slice a1 n1 k1) ∧ V.cell? ⟨N + 1, 2, none⟩ = some (.slice a2 n2 k2)) := Lib.hid (fun V h => by
    have e1 := (h.block N (by omega)).trans HG1.out
    have e2 := (h.block (N + 1) (by omega)).trans HG2.out
    exact ⟨(cell_of_row _ _ _ _ _ _ e1).trans rfl, (cell_of_row _ _ _ _ _ _ e1).trans rfl, (cell_of_row _ _ _ _ _ _ e2).trans rfl, (cell_of_row _ _ _ _ _ _ e2).trans rfl, (cell_of_row _ _ _ _ _ _ e2).trans rfl⟩)
  have HST : Hid (∀ V V', Below (N + 2) W V → Below V.heap.size V V' → Below (N + 2) W V') := Lib.hid (fun V V' h h' => h.trans (h'.mono (by have := h.size; have := HWN.out; omega)))
  have HEND : Hid (∀ V, Below (N + 2) W V → Below w.heap.size w V) := Lib.hid (fun V h => by rw [HN.out]; exact HB.out.trans (h.mono (by omega)))
  have HR0 : Hid (Below (N + 2) W W) := Lib.hid (Below.refl _ _)
  obtain ⟨f0, f1, f2, f3, f4⟩ := HCE.out _ HR0.out
  go_wp2_with (first
    | (go_at_call 48
       (refine (awake13 _ (HL.out.later (HEND.out _ HR0.out) (Nat.le_refl _))).mono ?_)
       rintro e w2 ⟨rfl, h2⟩
       replace HR0 := Lib.hid (HST.out _ _ HR0.out h2)
       clear h2 f0 f1 f2 f3 f4
       obtain ⟨f0, f1, f2, f3, f4⟩ := HCE.out _ HR0.out))
  go_ret
  exact ⟨by first | rfl | (simp; done), HEND.out _ HR0.out⟩
set_option maxRecDepth 100000 in
set_option maxHeartbeats 2000000 in
theorem verify_long2 (B S : Int) (pk dg : ByteArray) (idx : Int) (a1 : Option Addr) (n1 k1 : Nat) (a2 : Option Addr) (n2 k2 : Nat) (ps qs : List ByteArray) (hl1 : ps.length < 9223372036854775808) (hl2 : qs.length < 9223372036854775808) (hp : ¬ 64 < pk.size) (h : 64 < dg.size) (w : World) (hx : SigAt w (.agg #[.int .i64 idx, .slice a1 n1 k1, .slice a2 n2 k2]) idx ps qs) (hL : Laid w) :
    Calls Tryd.prog 15 #[.agg #[.int .i64 B, .int .i64 S], .string pk, .string dg, .agg #[.int .i64 idx, .slice a1 n1 k1, .slice a2 n2 k2]] w fun e w' => e = .returned (.bool true) ∧ Below w.heap.size w w' := by
  have hp : ¬ (64 : Int) < ((pk.size : Nat) : Int) := by omega
  have hi : (64 : Int) < ((dg.size : Nat) : Int) := by omega
  have HL := Lib.hid hL
  have HX : Hid (∀ V, Below w.heap.size w V → SigAt V (.agg #[.int .i64 idx, .slice a1 n1 k1, .slice a2 n2 k2]) idx ps qs) := Lib.hid (fun V h => hx.later h)
  have HSM := Lib.hid (fun w hx => small_any idx (.agg #[.int .i64 idx, .slice a1 n1 k1, .slice a2 n2 k2]) ps qs hl1 hl2 w hx)
  clear hx hL h
  go_enter Tryd.func15, Tryd.ntmps15
  go_upto_region 1 with fail
  refine wp_over (fun W => Hid (W.heap[w.heap.size]? = some (.cells #[.int .i64 (B), .int .i64 (S)] 63 (0, 0))) ∧ Hid (W.heap[w.heap.size + 1]? = some (.cells #[.int .i64 idx, .slice a1 n1 k1, .slice a2 n2 k2] 75 (0, 0))) ∧ Hid (Below w.heap.size w W) ∧ Hid (W.heap.size = w.heap.size + 2)) ⟨?_, ?_, ?_, ?_⟩ ?_
  · exact (Below.heap_alloc _ _ _ (by simp)).trans (heap_alloc_new _ _)
  · have h := heap_alloc_new (w.alloc (.cells #[.int .i64 (B), .int .i64 (S)] 63)) (.cells #[.int .i64 idx, .slice a1 n1 k1, .slice a2 n2 k2] 75)
    rwa [World.size_alloc] at h
  · exact ((Below.refl _ _).alloc (Nat.le_refl _) _).alloc (by simp) _
  · show _ = _
    simp
  rintro W ⟨HG1, HG2, HB, HWN⟩
  obtain ⟨N, hN⟩ := ex_eq w.heap.size
  rw [hN] at HG1 HG2 HB HWN ⊢
  have HN := Lib.hid hN
  clear hN
  have HCE : Hid (∀ V, Below (N + 2) W V → V.cell? ⟨N, 0, none⟩ = some (.int .i64 (B)) ∧ V.cell? ⟨N, 1, none⟩ = some (.int .i64 (S)) ∧ V.cell? ⟨N + 1, 0, none⟩ = some (.int .i64 idx) ∧ V.cell? ⟨N + 1, 1, none⟩ = some (.slice a1 n1 k1) ∧ V.cell? ⟨N + 1, 2, none⟩ = some (.slice a2 n2 k2)) := Lib.hid (fun V h => by
    have e1 := (h.block N (by omega)).trans HG1.out
    have e2 := (h.block (N + 1) (by omega)).trans HG2.out
    exact ⟨(cell_of_row _ _ _ _ _ _ e1).trans rfl, (cell_of_row _ _ _ _ _ _ e1).trans rfl, (cell_of_row _ _ _ _ _ _ e2).trans rfl, (cell_of_row _ _ _ _ _ _ e2).trans rfl, (cell_of_row _ _ _ _ _ _ e2).trans rfl⟩)
  have HST : Hid (∀ V V', Below (N + 2) W V → Below V.heap.size V V' → Below (N + 2) W V') := Lib.hid (fun V V' h h' => h.trans (h'.mono (by have := h.size; have := HWN.out; omega)))
  have HEND : Hid (∀ V, Below (N + 2) W V → Below w.heap.size w V) := Lib.hid (fun V h => by rw [HN.out]; exact HB.out.trans (h.mono (by omega)))
  have HR0 : Hid (Below (N + 2) W W) := Lib.hid (Below.refl _ _)
  obtain ⟨f0, f1, f2, f3, f4⟩ := HCE.out _ HR0.out
  go_wp2_with (first
    | (go_at_call 48
       (refine (awake13 _ (HL.out.later (HEND.out _ HR0.out) (Nat.le_refl _))).mono ?_)
       rintro e w2 ⟨rfl, h2⟩
       replace HR0 := Lib.hid (HST.out _ _ HR0.out h2)
       clear h2 f0 f1 f2 f3 f4
       obtain ⟨f0, f1, f2, f3, f4⟩ := HCE.out _ HR0.out))
  go_ret
  exact ⟨by first | rfl | (simp; done), HEND.out _ HR0.out⟩
set_option maxRecDepth 100000 in
set_option maxHeartbeats 2000000 in
theorem verify_fits (B S : Int) (pk dg : ByteArray) (idx : Int) (a1 : Option Addr) (n1 k1 : Nat) (a2 : Option Addr) (n2 k2 : Nat) (ps qs : List ByteArray) (hl1 : ps.length < 9223372036854775808) (hl2 : qs.length < 9223372036854775808) (hp : ¬ 64 < pk.size) (hd : ¬ 64 < dg.size) (hf : SigFits B S (nb dg) idx (ps.map nb) (qs.map nb)) (w : World) (hx : SigAt w (.agg #[.int .i64 idx, .slice a1 n1 k1, .slice a2 n2 k2]) idx ps qs) (hL : Laid w) :
    Calls Tryd.prog 15 #[.agg #[.int .i64 B, .int .i64 S], .string pk, .string dg, .agg #[.int .i64 idx, .slice a1 n1 k1, .slice a2 n2 k2]] w fun e w' => e = .returned (.bool true) ∧ Below w.heap.size w w' := by
  have hp : ¬ (64 : Int) < ((pk.size : Nat) : Int) := by omega
  have hd : ¬ (64 : Int) < ((dg.size : Nat) : Int) := by omega
  have HL := Lib.hid hL
  have HX : Hid (∀ V, Below w.heap.size w V → SigAt V (.agg #[.int .i64 idx, .slice a1 n1 k1, .slice a2 n2 k2]) idx ps qs) := Lib.hid (fun V h => hx.later h)
  have HSM := Lib.hid (fun w hx => small_any idx (.agg #[.int .i64 idx, .slice a1 n1 k1, .slice a2 n2 k2]) ps qs hl1 hl2 w hx)
  have HRT := Lib.hid (fun w hx hL => (sigRoot_any B S dg idx (.agg #[.int .i64 idx, .slice a1 n1 k1, .slice a2 n2 k2]) ps qs hl1 hl2 w hx hL).mono (R' := fun e w' => ∃ u : ByteArray, e = .returned (.tuple #[.string u, .int .i64 0]) ∧ nb u = sigRoot B.toNat (nb dg) idx.toNat (ps.map nb) (qs.map nb) ∧ Below w.heap.size w w') (fun e w' h => by
    rcases h.2 with ⟨_, u, h1, h2, _⟩ | ⟨h1, _⟩
    · exact ⟨u, h1, h2, h.1⟩
    · exact absurd hf h1))
  have HRR := Lib.hid (fun w hx => (refSigRoot_any B S dg idx (.agg #[.int .i64 idx, .slice a1 n1 k1, .slice a2 n2 k2]) ps qs hl1 hl2 w hx).mono (R' := fun e w' => ∃ u : ByteArray, e = .returned (.tuple #[.string u, .int .i64 0]) ∧ nb u = sigRoot B.toNat (nb dg) idx.toNat (ps.map nb) (qs.map nb) ∧ Below w.heap.size w w') (fun e w' h => by
    rcases h.2 with ⟨_, u, h1, h2, _⟩ | ⟨h1, _⟩
    · exact ⟨u, h1, h2, h.1⟩
    · exact absurd hf h1))
  have HVF := Lib.hid (fun w hx hL => sigVerify_any B S pk dg idx (.agg #[.int .i64 idx, .slice a1 n1 k1, .slice a2 n2 k2]) ps qs hl1 hl2 w hx hL)
  have HAC : Hid (∀ u : ByteArray, nb u = sigRoot B.toNat (nb dg) idx.toNat (ps.map nb) (qs.map nb) → decide (SigAcc B S (nb pk) (nb dg) idx (ps.map nb) (qs.map nb)) = (pk.toList == u.toList)) := Lib.hid (fun u hu => by
    rw [eq_str, decide_eq_decide]
    exact ⟨fun h => by rw [hu, h.2], fun h => ⟨hf, by rw [← hu, h]⟩⟩)
  clear hx hL hf hl1 hl2
  go_enter Tryd.func15, Tryd.ntmps15
  go_upto_region 1 with fail
  refine wp_over (fun W => Hid (W.heap[w.heap.size]? = some (.cells #[.int .i64 (B), .int .i64 (S)] 63 (0, 0))) ∧ Hid (W.heap[w.heap.size + 1]? = some (.cells #[.int .i64 idx, .slice a1 n1 k1, .slice a2 n2 k2] 75 (0, 0))) ∧ Hid (Below w.heap.size w W) ∧ Hid (W.heap.size = w.heap.size + 2)) ⟨?_, ?_, ?_, ?_⟩ ?_
  · exact (Below.heap_alloc _ _ _ (by simp)).trans (heap_alloc_new _ _)
  · have h := heap_alloc_new (w.alloc (.cells #[.int .i64 (B), .int .i64 (S)] 63)) (.cells #[.int .i64 idx, .slice a1 n1 k1, .slice a2 n2 k2] 75)
    rwa [World.size_alloc] at h
  · exact ((Below.refl _ _).alloc (Nat.le_refl _) _).alloc (by simp) _
  · show _ = _
    simp
  rintro W ⟨HG1, HG2, HB, HWN⟩
  obtain ⟨N, hN⟩ := ex_eq w.heap.size
  rw [hN] at HG1 HG2 HB HWN ⊢
  have HN := Lib.hid hN
  clear hN
  have HCE : Hid (∀ V, Below (N + 2) W V → V.cell? ⟨N, 0, none⟩ = some (.int .i64 (B)) ∧ V.cell? ⟨N, 1, none⟩ = some (.int .i64 (S)) ∧ V.cell? ⟨N + 1, 0, none⟩ = some (.int .i64 idx) ∧ V.cell? ⟨N + 1, 1, none⟩ = some (.slice a1 n1 k1) ∧ V.cell? ⟨N + 1, 2, none⟩ = some (.slice a2 n2 k2)) := Lib.hid (fun V h => by
    have e1 := (h.block N (by omega)).trans HG1.out
    have e2 := (h.block (N + 1) (by omega)).trans HG2.out
    exact ⟨(cell_of_row _ _ _ _ _ _ e1).trans rfl, (cell_of_row _ _ _ _ _ _ e1).trans rfl, (cell_of_row _ _ _ _ _ _ e2).trans rfl, (cell_of_row _ _ _ _ _ _ e2).trans rfl, (cell_of_row _ _ _ _ _ _ e2).trans rfl⟩)
  have HST : Hid (∀ V V', Below (N + 2) W V → Below V.heap.size V V' → Below (N + 2) W V') := Lib.hid (fun V V' h h' => h.trans (h'.mono (by have := h.size; have := HWN.out; omega)))
  have HEND : Hid (∀ V, Below (N + 2) W V → Below w.heap.size w V) := Lib.hid (fun V h => by rw [HN.out]; exact HB.out.trans (h.mono (by omega)))
  have HR0 : Hid (Below (N + 2) W W) := Lib.hid (Below.refl _ _)
  obtain ⟨f0, f1, f2, f3, f4⟩ := HCE.out _ HR0.out
  go_wp2_with (first
    | (go_at_call 48
       (refine (awake13 _ (HL.out.later (HEND.out _ HR0.out) (Nat.le_refl _))).mono ?_)
       rintro e w2 ⟨rfl, h2⟩
       replace HR0 := Lib.hid (HST.out _ _ HR0.out h2)
       clear h2 f0 f1 f2 f3 f4
       obtain ⟨f0, f1, f2, f3, f4⟩ := HCE.out _ HR0.out)
    | (go_at_call 60
       (refine (HSM.out _ (HX.out _ (HEND.out _ HR0.out))).mono ?_)
       rintro e w3 ⟨D, rfl, h3⟩
       replace HR0 := Lib.hid (HST.out _ _ HR0.out h3)
       clear h3 f0 f1 f2 f3 f4
       obtain ⟨f0, f1, f2, f3, f4⟩ := HCE.out _ HR0.out)
    | (go_at_call 57
       (refine (HRT.out _ (HX.out _ (HEND.out _ HR0.out)) (HL.out.later (HEND.out _ HR0.out) (Nat.le_refl _))).mono ?_)
       rintro e w4 ⟨u4, rfl, hu4, h4⟩
       have HU4 := Lib.hid hu4
       clear hu4
       replace HR0 := Lib.hid (HST.out _ _ HR0.out h4)
       clear h4 f0 f1 f2 f3 f4
       obtain ⟨f0, f1, f2, f3, f4⟩ := HCE.out _ HR0.out)
    | (go_at_call 61
       (refine (HRR.out _ (HX.out _ (HEND.out _ HR0.out))).mono ?_)
       rintro e w5 ⟨u5, rfl, hu5, h5⟩
       have hue : u5 = u4 := nb_inj (by rw [hu5, HU4.out])
       subst hue
       clear hu5
       have huu : (u5.toList == u5.toList) = true := by simp
       obtain ⟨E, hE⟩ := ex_eq (pk.toList == u5.toList)
       have hEE : (E == E) = true := by simp
       replace HR0 := Lib.hid (HST.out _ _ HR0.out h5)
       clear h5 f0 f1 f2 f3 f4
       obtain ⟨f0, f1, f2, f3, f4⟩ := HCE.out _ HR0.out)
    | (go_at_call 59
       (refine (HVF.out _ (HX.out _ (HEND.out _ HR0.out)) (HL.out.later (HEND.out _ HR0.out) (Nat.le_refl _))).mono ?_)
       rintro e w6 ⟨rfl, h6⟩
       rw [HAC.out _ HU4.out, hE]
       replace HR0 := Lib.hid (HST.out _ _ HR0.out h6)
       clear h6 f0 f1 f2 f3 f4
       obtain ⟨f0, f1, f2, f3, f4⟩ := HCE.out _ HR0.out))
  all_goals (
    go_ret
    exact ⟨by first | rfl | (simp; done), HEND.out _ HR0.out⟩)
set_option maxRecDepth 100000 in
set_option maxHeartbeats 2000000 in
theorem verify_unfit (B S : Int) (pk dg : ByteArray) (idx : Int) (a1 : Option Addr) (n1 k1 : Nat) (a2 : Option Addr) (n2 k2 : Nat) (ps qs : List ByteArray) (hl1 : ps.length < 9223372036854775808) (hl2 : qs.length < 9223372036854775808) (hp : ¬ 64 < pk.size) (hd : ¬ 64 < dg.size) (hf : ¬ SigFits B S (nb dg) idx (ps.map nb) (qs.map nb)) (w : World) (hx : SigAt w (.agg #[.int .i64 idx, .slice a1 n1 k1, .slice a2 n2 k2]) idx ps qs) (hL : Laid w) :
    Calls Tryd.prog 15 #[.agg #[.int .i64 B, .int .i64 S], .string pk, .string dg, .agg #[.int .i64 idx, .slice a1 n1 k1, .slice a2 n2 k2]] w fun e w' => e = .returned (.bool true) ∧ Below w.heap.size w w' := by
  have hp : ¬ (64 : Int) < ((pk.size : Nat) : Int) := by omega
  have hd : ¬ (64 : Int) < ((dg.size : Nat) : Int) := by omega
  have HL := Lib.hid hL
  have HX : Hid (∀ V, Below w.heap.size w V → SigAt V (.agg #[.int .i64 idx, .slice a1 n1 k1, .slice a2 n2 k2]) idx ps qs) := Lib.hid (fun V h => hx.later h)
  have HSM := Lib.hid (fun w hx => small_any idx (.agg #[.int .i64 idx, .slice a1 n1 k1, .slice a2 n2 k2]) ps qs hl1 hl2 w hx)
  have HRT := Lib.hid (fun w hx hL => (sigRoot_any B S dg idx (.agg #[.int .i64 idx, .slice a1 n1 k1, .slice a2 n2 k2]) ps qs hl1 hl2 w hx hL).mono (R' := fun e w' => e = .returned (.tuple #[.string ByteArray.empty, .int .i64 1]) ∧ Below w.heap.size w w') (fun e w' h => by
    rcases h.2 with ⟨h1, _⟩ | ⟨_, h2⟩
    · exact absurd h1 hf
    · exact ⟨h2, h.1⟩))
  have HRR := Lib.hid (fun w hx => (refSigRoot_any B S dg idx (.agg #[.int .i64 idx, .slice a1 n1 k1, .slice a2 n2 k2]) ps qs hl1 hl2 w hx).mono (R' := fun e w' => e = .returned (.tuple #[.string ByteArray.empty, .int .i64 1]) ∧ Below w.heap.size w w') (fun e w' h => by
    rcases h.2 with ⟨h1, _⟩ | ⟨_, h2⟩
    · exact absurd h1 hf
    · exact ⟨h2, h.1⟩))
  have HVF := Lib.hid (fun w hx hL => sigVerify_any B S pk dg idx (.agg #[.int .i64 idx, .slice a1 n1 k1, .slice a2 n2 k2]) ps qs hl1 hl2 w hx hL)
  rw [decide_eq_false (fun h => hf h.1)] at HVF
  clear hx hL hf hl1 hl2
  go_enter Tryd.func15, Tryd.ntmps15
  go_upto_region 1 with fail
  refine wp_over (fun W => Hid (W.heap[w.heap.size]? = some (.cells #[.int .i64 (B), .int .i64 (S)] 63 (0, 0))) ∧ Hid (W.heap[w.heap.size + 1]? = some (.cells #[.int .i64 idx, .slice a1 n1 k1, .slice a2 n2 k2] 75 (0, 0))) ∧ Hid (Below w.heap.size w W) ∧ Hid (W.heap.size = w.heap.size + 2)) ⟨?_, ?_, ?_, ?_⟩ ?_
  · exact (Below.heap_alloc _ _ _ (by simp)).trans (heap_alloc_new _ _)
  · have h := heap_alloc_new (w.alloc (.cells #[.int .i64 (B), .int .i64 (S)] 63)) (.cells #[.int .i64 idx, .slice a1 n1 k1, .slice a2 n2 k2] 75)
    rwa [World.size_alloc] at h
  · exact ((Below.refl _ _).alloc (Nat.le_refl _) _).alloc (by simp) _
  · show _ = _
    simp
  rintro W ⟨HG1, HG2, HB, HWN⟩
  obtain ⟨N, hN⟩ := ex_eq w.heap.size
  rw [hN] at HG1 HG2 HB HWN ⊢
  have HN := Lib.hid hN
  clear hN
  have HCE : Hid (∀ V, Below (N + 2) W V → V.cell? ⟨N, 0, none⟩ = some (.int .i64 (B)) ∧ V.cell? ⟨N, 1, none⟩ = some (.int .i64 (S)) ∧ V.cell? ⟨N + 1, 0, none⟩ = some (.int .i64 idx) ∧ V.cell? ⟨N + 1, 1, none⟩ = some (.slice a1 n1 k1) ∧ V.cell? ⟨N + 1, 2, none⟩ = some (.slice a2 n2 k2)) := Lib.hid (fun V h => by
    have e1 := (h.block N (by omega)).trans HG1.out
    have e2 := (h.block (N + 1) (by omega)).trans HG2.out
    exact ⟨(cell_of_row _ _ _ _ _ _ e1).trans rfl, (cell_of_row _ _ _ _ _ _ e1).trans rfl, (cell_of_row _ _ _ _ _ _ e2).trans rfl, (cell_of_row _ _ _ _ _ _ e2).trans rfl, (cell_of_row _ _ _ _ _ _ e2).trans rfl⟩)
  have HST : Hid (∀ V V', Below (N + 2) W V → Below V.heap.size V V' → Below (N + 2) W V') := Lib.hid (fun V V' h h' => h.trans (h'.mono (by have := h.size; have := HWN.out; omega)))
  have HEND : Hid (∀ V, Below (N + 2) W V → Below w.heap.size w V) := Lib.hid (fun V h => by rw [HN.out]; exact HB.out.trans (h.mono (by omega)))
  have HR0 : Hid (Below (N + 2) W W) := Lib.hid (Below.refl _ _)
  obtain ⟨f0, f1, f2, f3, f4⟩ := HCE.out _ HR0.out
  go_wp2_with (first
    | (go_at_call 48
       (refine (awake13 _ (HL.out.later (HEND.out _ HR0.out) (Nat.le_refl _))).mono ?_)
       rintro e w2 ⟨rfl, h2⟩
       replace HR0 := Lib.hid (HST.out _ _ HR0.out h2)
       clear h2 f0 f1 f2 f3 f4
       obtain ⟨f0, f1, f2, f3, f4⟩ := HCE.out _ HR0.out)
    | (go_at_call 60
       (refine (HSM.out _ (HX.out _ (HEND.out _ HR0.out))).mono ?_)
       rintro e w3 ⟨D, rfl, h3⟩
       replace HR0 := Lib.hid (HST.out _ _ HR0.out h3)
       clear h3 f0 f1 f2 f3 f4
       obtain ⟨f0, f1, f2, f3, f4⟩ := HCE.out _ HR0.out)
    | (go_at_call 57
       (refine (HRT.out _ (HX.out _ (HEND.out _ HR0.out)) (HL.out.later (HEND.out _ HR0.out) (Nat.le_refl _))).mono ?_)
       rintro e w4 ⟨rfl, h4⟩
       replace HR0 := Lib.hid (HST.out _ _ HR0.out h4)
       clear h4 f0 f1 f2 f3 f4
       obtain ⟨f0, f1, f2, f3, f4⟩ := HCE.out _ HR0.out)
    | (go_at_call 61
       (refine (HRR.out _ (HX.out _ (HEND.out _ HR0.out))).mono ?_)
       rintro e w5 ⟨rfl, h5⟩
       replace HR0 := Lib.hid (HST.out _ _ HR0.out h5)
       clear h5 f0 f1 f2 f3 f4
       obtain ⟨f0, f1, f2, f3, f4⟩ := HCE.out _ HR0.out)
    | (go_at_call 59
       (refine (HVF.out _ (HX.out _ (HEND.out _ HR0.out)) (HL.out.later (HEND.out _ HR0.out) (Nat.le_refl _))).mono ?_)
       rintro e w6 ⟨rfl, h6⟩
       replace HR0 := Lib.hid (HST.out _ _ HR0.out h6)
       clear h6 f0 f1 f2 f3 f4
       obtain ⟨f0, f1, f2, f3, f4⟩ := HCE.out _ HR0.out))
  all_goals (
    go_ret
    exact ⟨by first | rfl | (simp; done), HEND.out _ HR0.out⟩)
theorem walk_SignatureVerify (B S : Int) (pk dg : ByteArray) (x : Value) (idx : Int) (ps qs : List ByteArray) (w : World) (hl1 : ps.length < 9223372036854775808) (hl2 : qs.length < 9223372036854775808) (hx : SigAt w x idx ps qs) (hL : Laid w) :
    Calls Tryd.prog 15 #[.agg #[.int .i64 B, .int .i64 S], .string pk, .string dg, x] w fun e w' => e = .returned (.bool true) ∧ Below w.heap.size w w' := by
  have hx0 := hx
  obtain ⟨a1, n1, k1, a2, n2, k2, rfl, hps, hS1, hqs, hS2⟩ := hx
  by_cases hp : 64 < pk.size
  · exact verify_long1 B S pk dg idx a1 n1 k1 a2 n2 k2 ps qs hl1 hl2 hp w hx0 hL
  · by_cases hd : 64 < dg.size
    · exact verify_long2 B S pk dg idx a1 n1 k1 a2 n2 k2 ps qs hl1 hl2 hp hd w hx0 hL
    · by_cases hf : SigFits B S (nb dg) idx (ps.map nb) (qs.map nb)
      · exact verify_fits B S pk dg idx a1 n1 k1 a2 n2 k2 ps qs hl1 hl2 hp hd hf w hx0 hL
      · exact verify_unfit B S pk dg idx a1 n1 k1 a2 n2 k2 ps qs hl1 hl2 hp hd hf w hx0 hL
end Go.Proofs.YtmnendoloankgaaDoor
