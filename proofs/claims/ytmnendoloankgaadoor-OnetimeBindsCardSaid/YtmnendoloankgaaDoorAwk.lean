/- The helpers of the laws of layer 12: params, same, equal, fits, awake. -/
import Derived.Test.YtmnendoloankgaaDoorVer
namespace Go.Proofs.YtmnendoloankgaaDoor
set_option linter.unusedVariables false
set_option linter.unusedSimpArgs false
open Go.RowKit
open Kit (Chg)
open Sha (v)
open Go.Proofs.YtmnendoloankgaaDoor.One

theorem params_any (B S : Int) (w : World) : Calls Tryd.prog 19 #[.agg #[.int .i64 B, .int .i64 S]] w fun e w' => e = .returned (.agg #[.int .i64 B, .int .i64 S]) ∧ Below w.heap.size w w' := by
  go_enter Tryd.func19, Tryd.ntmps19
  go_wp2
  refine bodyPost_ret (results_cell_row (p := 2) rfl _ _ (w.heap.size + 1) 25 #[.int .i64 B, .int .i64 S] (0, 0) _ (by rfl) ?_ Tryd.underlying25 rfl (by kernel_rfl)) rfl ⟨rfl, ?_⟩
  · have h := heap_alloc_new (w.alloc (.cells #[.int .i64 B, .int .i64 S] 23)) (.cells #[.int .i64 B, .int .i64 S] 25)
    rwa [World.size_alloc] at h
  · exact ((Below.refl _ _).alloc (Nat.le_refl _) _).alloc (by simp) _
theorem refValid_any (B S : Int) (w : World) : Calls Tryd.prog 22 #[.agg #[.int .i64 B, .int .i64 S]] w fun e w' => e = .returned (.bool (decide (VP B S))) ∧ Below w.heap.size w w' := by
  obtain ⟨D, hD⟩ := ex_eq (decide (VP B S))
  have HD := Lib.hid hD
  rw [hD]
  clear hD
  by_cases s1 : 1 ≤ S <;> by_cases s2 : S ≤ 32 <;> by_cases b1 : B = 1 <;> by_cases b2 : B = 2 <;> by_cases b4 : B = 4 <;> by_cases b8 : B = 8 <;> try omega
  all_goals
    have HV : Hid (D = true ↔ VP B S) := Lib.hid (by rw [← HD.out, decide_eq_true_eq])
    have HE : Hid (D = true ∨ D = false) := Lib.hid (by cases D <;> simp)
    have HR : Hid (D = decide ((B = 1 ∨ B = 2 ∨ B = 4 ∨ B = 8) ∧ 1 ≤ S ∧ S ≤ 32)) := Lib.hid (by rw [← HD.out]; rfl)
    go_enter Tryd.func22, Tryd.ntmps22
    go_wp2
    go_ret
    refine ⟨?_, (Below.refl _ _).alloc (Nat.le_refl _) _⟩
    rw [HR.out]
    first
      | (rw [show (decide ((B = 1 ∨ B = 2 ∨ B = 4 ∨ B = 8) ∧ 1 ≤ S ∧ S ≤ 32)) = true from decide_eq_true (by omega)]; rfl)
      | (rw [show (decide ((B = 1 ∨ B = 2 ∨ B = 4 ∨ B = 8) ∧ 1 ≤ S ∧ S ≤ 32)) = false from decide_eq_false (by omega)]; rfl)
/-- Parameters that are cheap enough. -/
def SP (B S : Int) : Prop := B ≤ 4 ∧ S ≤ 8 ∨ S ≤ 2
instance (B S : Int) : Decidable (SP B S) := by unfold SP; infer_instance
theorem refSmall_any (B S : Int) (w : World) : Calls Tryd.prog 33 #[.agg #[.int .i64 B, .int .i64 S]] w fun e w' => e = .returned (.bool (decide (SP B S))) ∧ Below w.heap.size w w' := by
  obtain ⟨D, hD⟩ := ex_eq (decide (SP B S))
  have HD := Lib.hid hD
  rw [hD]
  clear hD
  by_cases s1 : B ≤ 4 <;> by_cases s2 : S ≤ 8 <;> by_cases s3 : S ≤ 2 <;> try omega
  all_goals
    have HR : Hid (D = decide (B ≤ 4 ∧ S ≤ 8 ∨ S ≤ 2)) := Lib.hid (by rw [← HD.out]; rfl)
    go_enter Tryd.func33, Tryd.ntmps33
    go_wp2
    go_ret
    refine ⟨?_, (Below.refl _ _).alloc (Nat.le_refl _) _⟩
    rw [HR.out]
    first
      | (rw [show (decide (B ≤ 4 ∧ S ≤ 8 ∨ S ≤ 2)) = true from decide_eq_true (by omega)]; rfl)
      | (rw [show (decide (B ≤ 4 ∧ S ≤ 8 ∨ S ≤ 2)) = false from decide_eq_false (by omega)]; rfl)
/-- A seed and a digest fit the parameters. -/
def Fits (B S : Int) (seed dg : List Nat) : Prop := VP B S ∧ SP B S ∧ seed.length = 32 ∧ (dg.length : Int) = S
instance (B S : Int) (seed dg : List Nat) : Decidable (Fits B S seed dg) := by unfold Fits; infer_instance
theorem fits_any (B S : Int) (seed dg : ByteArray) (w : World) : Calls Tryd.prog 43 #[.agg #[.int .i64 B, .int .i64 S], .string seed, .string dg] w fun e w' => e = .returned (.bool (decide (Fits B S (nb seed) (nb dg)))) ∧ Below w.heap.size w w' := by
  have HD : Hid (decide (Fits B S (nb seed) (nb dg)) = (decide (VP B S) && decide (SP B S) && ((seed.size : Int) == 32) && ((dg.size : Int) == S))) := Lib.hid (by
    rw [Bool.eq_iff_iff, decide_eq_true_eq]
    unfold Fits
    rw [nb_length, nb_length]
    simp
    constructor
    · rintro ⟨h1, h2, h3, h4⟩; exact ⟨⟨⟨h1, h2⟩, by omega⟩, h4⟩
    · rintro ⟨⟨⟨h1, h2⟩, h3⟩, h4⟩; exact ⟨h1, h2, by omega, h4⟩)
  obtain ⟨D1, h1⟩ := ex_eq (decide (VP B S))
  obtain ⟨D2, h2⟩ := ex_eq (decide (SP B S))
  have HV := Lib.hid (refValid_any B S)
  have HM := Lib.hid (refSmall_any B S)
  rw [h1] at HV HD
  rw [h2] at HM HD
  clear h1 h2
  obtain ⟨D3, h3⟩ := ex_eq ((seed.size : Int) == 32)
  obtain ⟨D4, h4⟩ := ex_eq ((dg.size : Int) == S)
  rw [h3, h4] at HD
  cases D1 <;> cases D2 <;> cases D3 <;> cases D4
  all_goals
    go_enter Tryd.func43, Tryd.ntmps43
    go_upto_region 1 with fail
    refine wp_over (fun W => Hid (W.heap[w.heap.size]? = some (.cells #[.int .i64 B, .int .i64 S] 23 (0, 0))) ∧ Hid (Below w.heap.size w W)) ⟨heap_alloc_new _ _, (Below.refl _ _).alloc (Nat.le_refl _) _⟩ ?_
    rintro W ⟨HG, HB⟩
    have HWN : Hid (w.heap.size + 1 ≤ W.heap.size) := Lib.hid (Array.getElem?_eq_some_iff.1 HG.out).1
    have HCE : Hid (∀ V, Below (w.heap.size + 1) W V → V.cell? ⟨w.heap.size, 0, none⟩ = some (.int .i64 B) ∧ V.cell? ⟨w.heap.size, 1, none⟩ = some (.int .i64 S)) := Lib.hid (fun V h => by
      have hg := (h.block w.heap.size (Nat.lt_succ_self _)).trans HG.out
      exact ⟨(cell_of_row _ _ _ _ _ _ hg).trans rfl, (cell_of_row _ _ _ _ _ _ hg).trans rfl⟩)
    obtain ⟨c0, c1⟩ := HCE.out W (Below.refl _ _)
    have HW0 : Hid (Below (w.heap.size + 1) W W) := Lib.hid (Below.refl _ _)
    go_wp2_with (first
      | (go_at_call 22
         (with_reducible refine (HV.out _).mono ?_)
         rintro e w2 ⟨rfl, h2⟩
         have H2 := Lib.hid (h2.mono HWN.out)
         clear h2 c0 c1
         obtain ⟨c0, c1⟩ := HCE.out w2 H2.out)
      | (go_at_call 33
         (with_reducible refine (HM.out _).mono ?_)
         rintro e w3 ⟨rfl, h3⟩
         have H3 := Lib.hid (H2.out.trans (h3.mono (by have := H2.out.size; have := HWN.out; omega)))
         clear h3 c0 c1
         obtain ⟨c0, c1⟩ := HCE.out w3 H3.out))
    go_ret
    exact ⟨by rw [HD.out]; rfl, by first | exact HB.out.trans (H3.out.mono (Nat.le_succ _)) | exact HB.out.trans (H2.out.mono (Nat.le_succ _))⟩
end Go.Proofs.YtmnendoloankgaaDoor
