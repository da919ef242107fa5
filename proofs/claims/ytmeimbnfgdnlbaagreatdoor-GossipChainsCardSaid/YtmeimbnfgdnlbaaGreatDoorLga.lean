/- The law GossipChains. -/
import Derived.Test.YtmeimbnfgdnlbaaGreatDoorRgt
import Derived.Test.YtmeimbnfgdnlbaaGreatDoorGaw
import Derived.Test.YtmeimbnfgdnlbaaGreatDoorOpg
namespace Go.Proofs.YtmeimbnfgdnlbaaGreatDoor
set_option linter.unusedVariables false
set_option linter.unusedSimpArgs false
open Go.RowKit
open Kit (Chg)
open Sha (v)
open Go.Proofs.YtmeimbnfgdnlbaaGreatDoor.One

theorem Laid.size3 {w : World} (h : Laid w) : 3 ≤ w.heap.size := by
  have h1 : 2 < w.heap.size := World.block_lt_of_cell? w _ h.pad0
  exact h1
def smB (es : List Ent) : Bool := es.all (fun e => decide (e.body.length ≤ 100)) && decide ((es.length : Int) ≤ 20)
theorem smB_bad (es : List Ent) (k : Nat) (hk : k < es.length) (h : 100 < (es[k]).body.length) : smB es = false := by
  unfold smB
  have : es.all (fun e => decide (e.body.length ≤ 100)) = false := by
    rw [List.all_eq_false]
    exact ⟨_, List.getElem_mem hk, by simpa using h⟩
  rw [this]
  rfl
theorem smB_good (es : List Ent) (h : ∀ i, (hi : i < es.length) → (es[i]).body.length ≤ 100) : smB es = decide ((es.length : Int) ≤ 20) := by
  unfold smB
  have : es.all (fun e => decide (e.body.length ≤ 100)) = true := by
    rw [List.all_eq_true]
    intro e he
    obtain ⟨i, hi, rfl⟩ := List.getElem_of_mem he
    simpa using h i hi
  rw [this]
  rfl
theorem smB_len {es : List Ent} (h : smB es = true) : es.length ≤ 20 := by
  unfold smB at h
  rw [Bool.and_eq_true] at h
  have := of_decide_eq_true h.2
  omega
set_option maxRecDepth 100000 in
set_option maxHeartbeats 1000000 in
theorem small46_any (a : Option Addr) (c L : Nat) (es : List Ent) (hLe : es.length = L) (hL9 : L ≤ 9223372036854775807) (w : World) (hE : EntsAt w a es) :
    Calls Tryz.prog 10 #[.slice a L c] w fun e w' => e = .returned (.bool (smB es)) ∧ w = w' := by
  have HE := Lib.hid hE
  have HLE := Lib.hid hLe
  clear hE hLe
  obtain ⟨B, hB⟩ := ex_eq (smB es)
  have HB := Lib.hid hB
  rw [hB]
  clear hB
  go_enter Tryz.func10, Tryz.ntmps10
  go_upto_region 2 with fail
  go_loopw [3] (fun z wr => ∃ k : Nat, k ≤ L ∧ z = .int .i64 (k : Int) ∧ Hid (∀ i, (hi : i < es.length) → i < k → (es[i]).body.length ≤ 100) ∧ w = wr) (fun z _ => L - (intOf z).toNat)
  case atStart => exact ⟨0, by omega, rfl, Lib.hid (fun i hi h => by omega), rfl⟩
  case round =>
    obtain ⟨k, hk, rfl, HCR, rfl⟩ := hrel
    by_cases hlt : k < L
    · have hki : (k : Int) < (L : Int) := by omega
      have HKL : Hid (k < es.length) := Lib.hid (by rw [HLE.out]; exact hlt)
      obtain ⟨b0, o0, rfl, hes0⟩ : ∃ b o, a = some ⟨b, o, none⟩ ∧ ∀ i, (h : i < es.length) → EntAt w b (o + i * 6) es[i] := by
        rcases HE.out with h | h
        · have := HLE.out; rw [h] at this; simp at this; omega
        · exact h
      obtain ⟨ae, m, cm, hm, hmn, hmB, d0, d1, d2, d3, d4, d5⟩ := hes0 k HKL.out
      have HMN := Lib.hid hm
      clear hes0 hm hmn hmB d0 d1 d2 d3 d5
      have hwr : IntKind.i64.wrap ((k : Int) + 1) = (k : Int) + 1 := by rw [IntKind.wrap_i64]; omega
      by_cases hgt : 100 < m
      · have hgi : (100 : Int) < (m : Int) := by omega
        have HF : Hid (B = false) := Lib.hid (by rw [← HB.out]; exact smB_bad es k HKL.out (by rw [HMN.out]; exact hgt))
        go_wp2_with fail
        go_ret
        exact ⟨by rw [HF.out]; rfl, rfl⟩
      · have hgi : ¬ (100 : Int) < (m : Int) := by omega
        have HC2 : Hid (∀ i, (hi : i < es.length) → i < k + 1 → (es[i]).body.length ≤ 100) := Lib.hid (fun i hi h => by
          by_cases e : i = k
          · subst e; rw [HMN.out]; omega
          · exact HCR.out i hi (by omega))
        go_wp2_with fail
        go_roundw
        case rel => exact ⟨k + 1, hlt, by go_num, HC2.out, by first | rfl | trivial⟩
        case measure => simp [intOf]; omega
    · have hki : ¬ (k : Int) < (L : Int) := by omega
      have HF : Hid (B = decide ((L : Int) ≤ 20)) := Lib.hid (by rw [← HB.out, ← HLE.out]; exact smB_good es (fun i hi => HCR.out i hi (by have := HLE.out; omega)))
      go_wp2_with fail
      go_ret
      exact ⟨by rw [HF.out]; rfl, rfl⟩
set_option maxRecDepth 100000 in
set_option maxHeartbeats 1000000 in
theorem walk_GossipChains (a : Option Addr) (c L : Nat) (es : List Ent) (hLe : es.length = L) (hLc : L ≤ c) (hL9 : L ≤ 9223372036854775807) (w : World) (hE : EntsAt w a es) (hL : Laid w) :
    Calls Tryz.prog 3 #[.slice a L c] w fun e w' => e = .returned (.bool true) ∧ Below w.heap.size w w' := by
  have HE := Lib.hid hE
  have HLD := Lib.hid hL
  have HAW := Lib.hid (awake46 w hL hL.size3)
  have HLE := Lib.hid hLe
  have HSM := Lib.hid (fun w h => small46_any a c L es hLe hL9 w h)
  obtain ⟨B, hB⟩ := ex_eq (smB es)
  have HB := Lib.hid hB
  rw [hB] at HSM
  clear hE hL hLe hB
  obtain ⟨X, hX⟩ := ex_eq (chainI es)
  cases B
  · go_enter Tryz.func3, Tryz.ntmps3
    go_wp2_with (first
      | (go_at_call 9
         (with_reducible refine HAW.out.mono ?_)
         rintro e w2 ⟨rfl, h2⟩
         have H2 := Lib.hid h2
         clear h2)
      | (go_at_call 10
         (with_reducible refine (HSM.out _ (HE.out.later H2.out)).mono ?_)
         rintro e w3 ⟨rfl, rfl⟩))
    go_ret
    exact ⟨rfl, H2.out⟩
  · have HL20 : Hid (L ≤ 20) := Lib.hid (by rw [← HLE.out]; exact smB_len HB.out)
    have HRC := Lib.hid (fun w h => refChain_any a c L es HLE.out hLc (by have := HL20.out; omega) w h)
    have HCH := Lib.hid (fun w h1 h2 => chain_any a c L es HLE.out (by have := HL20.out; omega) w h1 h2)
    rw [hX] at HRC HCH
    clear hX
    go_enter Tryz.func3, Tryz.ntmps3
    go_wp2_with (first
      | (go_at_call 9
         (with_reducible refine HAW.out.mono ?_)
         rintro e w2 ⟨rfl, h2⟩
         have H2 := Lib.hid h2
         clear h2)
      | (go_at_call 10
         (with_reducible refine (HSM.out _ (HE.out.later H2.out)).mono ?_)
         rintro e w3 ⟨rfl, rfl⟩)
      | (go_at_call 11
         (with_reducible refine (HCH.out _ (HE.out.later H2.out) (HLD.out.later H2.out (Nat.le_refl _))).mono ?_)
         rintro e w4 ⟨rfl, h4'⟩
         have H4 := Lib.hid (H2.out.trans (h4'.mono H2.out.size))
         clear h4')
      | (go_at_call 12
         (with_reducible refine (HRC.out _ (HE.out.later H4.out)).mono ?_)
         rintro e w5 ⟨rfl, h5⟩
         have H5 := Lib.hid (H4.out.trans (h5.mono H4.out.size))
         clear h5))
    go_ret
    exact ⟨by simp, H5.out⟩
end Go.Proofs.YtmeimbnfgdnlbaaGreatDoor
