/- The helper small. -/
import Derived.Test.YtjhpdchcmfghpaaGreatDoorGf
namespace Go.Proofs.YtjhpdchcmfghpaaGreatDoor
set_option linter.unusedVariables false
set_option linter.unusedSimpArgs false
open Go.RowKit
open Kit (Chg)
open Sha (v)
open Go.Proofs.YtjhpdchcmfghpaaGreatDoor.One

set_option maxRecDepth 100000 in
set_option maxHeartbeats 2000000 in
theorem small_any (idx : Int) (x : Value) (ps qs : List ByteArray) (hl1 : ps.length < 9223372036854775808) (hl2 : qs.length < 9223372036854775808) (w : World) (hx : SigAt w x idx ps qs) :
    Calls Tryz.prog 6 #[x] w fun e w' => ∃ D : Bool, e = .returned (.bool D) ∧ Below w.heap.size w w' := by
  obtain ⟨a1, n1, k1, a2, n2, k2, rfl, hps, hS1, hqs, hS2⟩ := hx
  have HS1 := Lib.hid hS1
  have HS2 := Lib.hid hS2
  have HL1 := Lib.hid (And.intro hps hl1)
  have HL2 := Lib.hid (And.intro hqs hl2)
  clear hps hqs hl1 hl2 hS1 hS2
  go_enter Tryz.func6, Tryz.ntmps6
  go_upto_region 2 with fail
  refine wp_over (fun W => Hid (W.heap[w.heap.size + 1]? = some (.cells #[.slice a1 n1 k1, .slice a2 n2 k2] 22 (0, 0))) ∧ Hid (Below w.heap.size w W) ∧ Hid (W.heap.size = w.heap.size + 2)) ⟨?_, ?_, ?_⟩ ?_
  · have h := heap_alloc_new (w.alloc (.cells #[.int .i64 idx, .slice a1 n1 k1, .slice a2 n2 k2] 24)) (.cells #[.slice a1 n1 k1, .slice a2 n2 k2] 22)
    rwa [World.size_alloc] at h
  · exact ((Below.refl _ _).alloc (Nat.le_refl _) _).alloc (by simp) _
  · show _ = _
    simp
  rintro W ⟨HG2, HB, HWN⟩
  obtain ⟨N, hN⟩ := ex_eq w.heap.size
  rw [hN] at HG2 HB HWN ⊢
  have HN := Lib.hid hN
  clear hN
  have HCE : Hid (∀ V, Below (N + 2) W V → V.cell? ⟨N + 1, 0, none⟩ = some (.slice a1 n1 k1) ∧ V.cell? ⟨N + 1, 1, none⟩ = some (.slice a2 n2 k2)) := Lib.hid (fun V h => by
    have e2 := (h.block (N + 1) (by omega)).trans HG2.out
    exact ⟨(cell_of_row _ _ _ _ _ _ e2).trans rfl, (cell_of_row _ _ _ _ _ _ e2).trans rfl⟩)
  have HEND : Hid (∀ V, Below (N + 2) W V → Below w.heap.size w V) := Lib.hid (fun V h => by rw [HN.out]; exact HB.out.trans (h.mono (by omega)))
  have HR0 : Hid (Below (N + 2) W W) := Lib.hid (Below.refl _ _)
  go_upto_region 2 with fail
  go_loopw [13] (fun z wr => ∃ k : Nat, k ≤ 2 ∧ z = .int .i64 (k : Int) ∧ Hid (Below (N + 2) W wr)) (fun z _ => 2 - (intOf z).toNat)
  case atStart => exact ⟨0, by omega, rfl, HR0⟩
  case round =>
    obtain ⟨k, hk, rfl, HBE⟩ := hrel
    by_cases hlt : k < 2
    · have hki : (k : Int) < 2 := by omega
      obtain ⟨a, n, c, ss, hcell, HNB, HSA⟩ : ∃ (a : Option Addr) (n c : Nat) (ss : List ByteArray), wr.cell? ⟨N + 1, 0 + k, none⟩ = some (.slice a n c) ∧ Hid (ss.length = n ∧ ss.length < 9223372036854775808) ∧ Hid (∀ V, Below (N + 2) W V → StrsAt V a ss) := by
        obtain ⟨f0, f1⟩ := HCE.out _ HBE.out
        match k, hlt with
        | 0, _ => exact ⟨a1, n1, k1, ps, f0, HL1, Lib.hid (fun V h => HS1.out.later (HEND.out V h))⟩
        | 1, _ => exact ⟨a2, n2, k2, qs, f1, HL2, Lib.hid (fun V h => HS2.out.later (HEND.out V h))⟩
      rw [Nat.zero_add] at hcell
      by_cases hb : 300 < n
      · have hbi : (300 : Int) < (n : Int) := by omega
        go_wp2_with fail
        go_ret
        first | exact ⟨_, rfl, HEND.out _ HBE.out⟩ | exact ⟨.inr rfl, HEND.out _ HBE.out⟩ | exact ⟨.inl rfl, HEND.out _ HBE.out⟩ | exact HEND.out _ HBE.out
      · have hbi : ¬ (300 : Int) < (n : Int) := by omega
        go_upto_region 7 with fail
        clear hcell
        rename World => wa
        go_loopw [22] (fun y wr => ∃ j : Nat, j ≤ n ∧ y = .int .i64 (j : Int) ∧ Hid (Below (N + 2) W wr)) (fun y _ => n - (intOf y).toNat)
        case atStart => exact ⟨0, by omega, rfl, HBE⟩
        case round =>
          obtain ⟨j, hj, rfl, HB2⟩ := hrel
          by_cases hlt2 : j < n
          · have hji : (j : Int) < (n : Int) := by omega
            obtain ⟨b1, o1, rfl, hcs⟩ : ∃ b o, a = some ⟨b, o, none⟩ ∧ ∀ i, i < ss.length → wr.cell? ⟨b, o + i, none⟩ = some (.string (ss.getD i ByteArray.empty)) := by
              rcases HSA.out _ HB2.out with h | h
              · have := HNB.out.1; rw [h] at this; simp at this; omega
              · exact h
            have hc := hcs j (by rw [HNB.out.1]; exact hlt2)
            obtain ⟨s, hse⟩ := ex_eq (ss.getD j ByteArray.empty)
            rw [hse] at hc
            clear hcs hse
            by_cases hz : 64 < s.size
            · have hzi : (64 : Int) < ((s.size : Nat) : Int) := by omega
              go_wp2_with fail
              go_ret
              first | exact ⟨_, rfl, HEND.out _ HB2.out⟩ | exact HEND.out _ HB2.out
            · have hzi : ¬ (64 : Int) < ((s.size : Nat) : Int) := by omega
              go_wp2_with fail
              go_roundw
              case rel => exact ⟨j + 1, hlt2, by go_num, HB2⟩
              case measure => simp [intOf]; omega
          · have hji : ¬ (j : Int) < (n : Int) := by omega
            go_wp2_with fail
            go_roundw
            case rel => exact ⟨k + 1, hlt, by go_num, HB2⟩
            case measure => simp [intOf]; omega
    · have hki : ¬ (k : Int) < 2 := by omega
      go_wp2_with fail
      go_ret
      first | exact ⟨_, rfl, HEND.out _ HBE.out⟩ | exact ⟨.inr rfl, HEND.out _ HBE.out⟩ | exact ⟨.inl rfl, HEND.out _ HBE.out⟩ | exact HEND.out _ HBE.out
end Go.Proofs.YtjhpdchcmfghpaaGreatDoor
