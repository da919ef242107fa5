/- The document's Chain. -/
import Derived.Test.YtmeimbnfgdnlbaaGreatDoorGh
import Derived.Test.YtmeimbnfgdnlbaaGreatDoorRgs
namespace Go.Proofs.YtmeimbnfgdnlbaaGreatDoor
set_option linter.unusedVariables false
set_option linter.unusedSimpArgs false
open Go.RowKit
open Kit (Chg)
open Sha (v)
open Go.Proofs.YtmeimbnfgdnlbaaGreatDoor.One

set_option maxRecDepth 100000 in
set_option maxHeartbeats 1000000 in
theorem refChain_any (a : Option Addr) (c L : Nat) (es : List Ent) (hLe : es.length = L) (hLc : L ≤ c) (hL : L ≤ 1000000) (w : World) (hE : EntsAt w a es) :
    Calls Tryz.prog 12 #[.slice a L c] w fun e w' => e = .returned (.int .i64 (chainI es)) ∧ Below w.heap.size w w' := by
  have HE := Lib.hid hE
  have HLE := Lib.hid hLe
  clear hE hLe
  obtain ⟨M, hM⟩ := ex_eq w.heap.size
  have HM := Lib.hid hM
  clear hM
  go_enter Tryz.func12, Tryz.ntmps12
  go_upto_region 2 with fail
  go_loopw [3] (fun z wr => ∃ k : Nat, k ≤ L ∧ z = .int .i64 (k : Int) ∧ Hid (∀ i, (hi : i < es.length) → i < k → contE (es.take i) es[i] = true) ∧ Hid (Below M w wr)) (fun z _ => L - (intOf z).toNat)
  case atStart => exact ⟨0, by omega, rfl, Lib.hid (fun i hi h => by omega), Lib.hid (Below.refl _ _)⟩
  case round =>
    obtain ⟨k, hk, rfl, HCR, HR⟩ := hrel
    by_cases hlt : k < L
    · have hki : (k : Int) < (L : Int) := by omega
      have HKL : Hid (k < es.length) := Lib.hid (by rw [HLE.out]; exact hlt)
      obtain ⟨b0, o0, rfl, hes0⟩ : ∃ b o, a = some ⟨b, o, none⟩ ∧ ∀ i, (h : i < es.length) → EntAt wr b (o + i * 6) es[i] := by
        rcases HE.out.later (by rw [HM.out]; exact HR.out) with h | h
        · have := HLE.out; rw [h] at this; simp at this; omega
        · exact h
      have HES := Lib.hid hes0
      clear hes0
      have hek := HES.out k HKL.out
      have HTK : Hid (EntsAt wr.drew (some ⟨b0, o0, none⟩) (es.take k)) := Lib.hid (.inr ⟨b0, o0, rfl, fun i hi => by
        rw [List.length_take] at hi
        rw [List.getElem_take]
        exact (HES.out i (by omega)).later (Below.refl _ _).drew⟩)
      have HTL : Hid ((es.take k).length = k) := Lib.hid (by rw [List.length_take, HLE.out]; omega)
      have HTV : Hid (∀ q ∈ es.take k, ValidE q) := Lib.hid (fun q hq => by
        obtain ⟨i, hi, rfl⟩ := List.getElem_of_mem hq
        have hi2 := hi
        rw [List.length_take] at hi2
        rw [List.getElem_take]
        have h1 := HCR.out i (by omega) (by omega)
        unfold contE at h1
        rw [Bool.and_eq_true] at h1
        exact (validE_iff _).1 h1.1)
      obtain ⟨q, hq⟩ := ex_eq (es[k]'HKL.out)
      have HQ : Hid (es[k]'HKL.out = q) := Lib.hid hq
      rw [hq] at hek
      clear hq
      obtain ⟨dv, sq, kd, dy, qb, p⟩ := q
      obtain ⟨ae, m, cm, hm, hmn, hmB, d0, d1, d2, d3, d4, d5⟩ := hek
      simp only at hm hmB d0 d1 d2 d3 d4 d5
      have HMN := Lib.hid hm
      have HMB := Lib.hid hmB
      clear hm hmB hmn
      have hslc : ∀ W, (Instr.slice 22 (.slice (some ⟨b0, o0, none⟩) L c) none (some (.int .i64 (k : Int))) none).run Tryz.prog W = .ok (.slice (some ⟨b0, o0, none⟩) k c) W := fun W => by
        have h1 := sliceE_h (some ⟨b0, o0, none⟩) L c k (by omega) W
        rw [sub6_some (by omega), Nat.zero_mul, Nat.add_zero] at h1
        exact h1
      have HSS : Hid (∀ V, Below wr.heap.size wr V → (V.cell? ⟨b0, o0 + k * 6, none⟩ = some (.int .i64 dv) ∧ V.cell? ⟨b0, o0 + k * 6 + 1, none⟩ = some (.int .i64 sq) ∧ V.cell? ⟨b0, o0 + k * 6 + 2, none⟩ = some (.int .i64 kd) ∧ V.cell? ⟨b0, o0 + k * 6 + 3, none⟩ = some (.int .i64 dy) ∧ V.cell? ⟨b0, o0 + k * 6 + 4, none⟩ = some (.slice ae m cm) ∧ V.cell? ⟨b0, o0 + k * 6 + 5, none⟩ = some (.string p))) := Lib.hid (fun V h => by
        have t : ∀ {j : Nat} {x : Value}, wr.cell? ⟨b0, j, none⟩ = some x → V.cell? ⟨b0, j, none⟩ = some x := fun h0 => (h.cell (World.block_lt_of_cell? wr _ h0)).trans h0
        exact ⟨t d0, t d1, t d2, t d3, t d4, t d5⟩)
      have HCT := Lib.hid (fun w h1 h2 => continues_any (some ⟨b0, o0, none⟩) c k (es.take k) HTL.out (by omega) HTV.out dv sq kd dy ae m cm p qb HMN.out w h1 h2)
      obtain ⟨B, hB⟩ := ex_eq (contE (es.take k) ⟨dv, sq, kd, dy, qb, p⟩)
      have HBQ : Hid (contE (es.take k) (es[k]'HKL.out) = B) := Lib.hid (by rw [HQ.out]; exact hB)
      rw [hB] at HCT
      have hwr : IntKind.i64.wrap ((k : Int) + 1) = (k : Int) + 1 := by rw [IntKind.wrap_i64]; omega
      clear hB d0 d1 d2 d3 d4 d5
      go_upto_region 4 with fail
      refine Kit.wp_region_gplan (fun V => V.cell? ⟨b0, o0 + k * 6, none⟩ = some (.int .i64 dv) ∧ V.cell? ⟨b0, o0 + k * 6 + 1, none⟩ = some (.int .i64 sq) ∧ V.cell? ⟨b0, o0 + k * 6 + 2, none⟩ = some (.int .i64 kd) ∧ V.cell? ⟨b0, o0 + k * 6 + 3, none⟩ = some (.int .i64 dy) ∧ V.cell? ⟨b0, o0 + k * 6 + 4, none⟩ = some (.slice ae m cm) ∧ V.cell? ⟨b0, o0 + k * 6 + 5, none⟩ = some (.string p)) [(true, 0), (true, 1), (true, 2), (true, 3), (true, 4), (true, 5), (true, 6), (false, 7), (true, 8)] (by kernel_rfl) (by kernel_rfl) (by kernel_rfl) (by kernel_rfl) (HSS.out _ (Below.refl _ _).drew) ?_
      iterate 7 (refine Kit.gplan_head (by rfl) (by first | exact .inr ⟨by rfl, rfl⟩ | exact .inl ⟨by rfl, fun w' hS => by (dsimp only at hS); go_simp; (try with_reducible rfl)⟩) ?_; (try simp only [Act.put, List.setIfInBounds_toArray, List.set_cons_zero, List.set_cons_succ]))
      refine Kit.gplan_op (by rfl) (by rfl) fun K hK => ?_
      go_simp
      go_at_call 43
      with_reducible refine (HCT.out _ HTK.out (HMB.out.later (Below.refl _ _).drew)).mono ?_
      rintro e w3 ⟨rfl, h3⟩
      have H3 : Hid (Below wr.heap.size wr w3) := Lib.hid ((Below.refl _ wr).drew.trans h3)
      have H4 : Hid (Below M w w3) := Lib.hid (HR.out.trans (H3.out.mono (by have := HR.out.size; have := HM.out; omega)))
      clear h3
      refine hK _ _ (HSS.out _ H3.out) ?_
      clear hK K
      iterate 1 (refine Kit.gplan_head (by rfl) (by first | exact .inr ⟨by rfl, rfl⟩ | exact .inl ⟨by rfl, fun w' hS => by (dsimp only at hS); go_simp; (try with_reducible rfl)⟩) ?_; (try simp only [Act.put, List.setIfInBounds_toArray, List.set_cons_zero, List.set_cons_succ]))
      refine Kit.gplan_done ?_
      (try simp only [Act.put, List.setIfInBounds_toArray, List.set_cons_zero, List.set_cons_succ])
      cases B
      · have HCH : Hid (chainI es = (k : Int)) := Lib.hid (chainI_bad es k (fun i hi h => HCR.out i hi h) HKL.out HBQ.out)
        go_wp2_with fail
        go_ret
        exact ⟨by rw [HCH.out]; rfl, by rw [HM.out]; exact H4.out⟩
      · have HC2 : Hid (∀ i, (hi : i < es.length) → i < k + 1 → contE (es.take i) es[i] = true) := Lib.hid (fun i hi h => by
          by_cases e : i = k
          · subst e; exact HBQ.out
          · exact HCR.out i hi (by omega))
        go_wp2_with fail
        go_roundw
        case rel => exact ⟨k + 1, hlt, by go_num, HC2.out, H4.out⟩
        case measure => simp [intOf]; omega
    · have hki : ¬ (k : Int) < (L : Int) := by omega
      have HCH : Hid (chainI es = -1) := Lib.hid (chainI_good es (fun i hi => HCR.out i hi (by have := HLE.out; omega)))
      go_wp2_with fail
      go_ret
      exact ⟨by rw [HCH.out]; rfl, by rw [HM.out]; exact HR.out⟩
end Go.Proofs.YtmeimbnfgdnlbaaGreatDoor
