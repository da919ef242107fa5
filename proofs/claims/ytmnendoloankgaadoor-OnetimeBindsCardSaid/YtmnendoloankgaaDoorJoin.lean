/- sha256.Join. -/
import Derived.Test.YtmnendoloankgaaDoorNb
namespace Go.Proofs.YtmnendoloankgaaDoor
set_option linter.unusedVariables false
set_option linter.unusedSimpArgs false
open Go.RowKit
open Kit (Chg)
open Sha (v)

/-- Strings lie there. -/
def StrsAt (w : World) (a : Option Addr) (ss : List ByteArray) : Prop :=
  ss = [] ∨ ∃ b o, a = some ⟨b, o, none⟩ ∧ ∀ i, i < ss.length → w.cell? ⟨b, o + i, none⟩ = some (.string (ss.getD i ByteArray.empty))
theorem StrsAt.later {w w' : World} {a : Option Addr} {ss : List ByteArray} (h : StrsAt w a ss) (hb : Below w.heap.size w w') : StrsAt w' a ss := by
  rcases h with h | ⟨b, o, e, h⟩
  · exact .inl h
  · exact .inr ⟨b, o, e, fun i hi => (hb.cell (p := ⟨b, o + i, none⟩) (World.block_lt_of_cell? w _ (h i hi))).trans (h i hi)⟩
def catB (ss : List ByteArray) : List Nat := ss.flatMap nb
theorem catB_take (ss : List ByteArray) (k : Nat) (h : k < ss.length) : catB (ss.take (k + 1)) = catB (ss.take k) ++ nb (ss.getD k ByteArray.empty) := by
  rw [List.take_add_one, List.getElem?_eq_getElem h, List.getD_eq_getElem?_getD, List.getElem?_eq_getElem h]
  unfold catB
  rw [List.flatMap_append]
  simp
theorem conv_str (W : World) (s : ByteArray) : (convert 9 68 (.string s)).run Tryd.prog W = .ok (.slice (some ⟨W.heap.size, 0, none⟩) s.size (grownCap W s.size 0 5)) (Go.Lib.bytesWorld W 5 s) :=
  Go.Lib.run_convert_string_bytes W 9 68 5 s Tryd.underlying9 Tryd.underlying68 Tryd.underlying5
theorem StrsAt.keep {w w' : World} {a : Option Addr} {ss : List ByteArray} {M : Nat → Nat → Prop} (h : StrsAt w a ss) (hc : Chg M w w') (hM : ∀ ad, a = some ad → 0 < ss.length → ∀ i, ¬ M ad.block i) : StrsAt w' a ss := by
  rcases h with h | ⟨b, o, e, h⟩
  · exact .inl h
  · exact .inr ⟨b, o, e, fun i hi => hc.cell (h i hi) (hM _ e (by omega) _)⟩
set_option maxHeartbeats 1000000 in
theorem join_any (a : Option Addr) (cap : Nat) (ss : List ByteArray) (hl : (catB ss).length ≤ 100000000000) (hn : ss.length ≤ 1000000000) (w : World) (hS : StrsAt w a ss) (hK : KonAt w) (hI : InitAt w) :
    Calls Tryd.prog 109 #[.slice a ss.length cap] w fun e w' => ∃ bs : List Nat, e = .returned (.string (strB bs)) ∧ bs = Sha.sum (catB ss) ∧ Below w.heap.size w w' := by
  have HSS := Lib.hid hS
  have HK := Lib.hid hK
  have HI := Lib.hid hI
  have HL := Lib.hid hl
  have HCV := Lib.hid conv_str
  clear hS hK hI hl
  go_enter Tryd.func109, Tryd.ntmps109
  go_upto_region 2 with (first
    | (with_reducible refine (newState_any _ HI.out).mono ?_
       rintro e w1 ⟨rfl, h1⟩
       have H1 := Lib.hid h1
       clear h1))
  obtain ⟨N, hN⟩ := ex_eq w.heap.size
  have HS1 : Hid (StateAt w1 N 0 []) := Lib.hid (by rw [H1.out, ← hN]; exact state_new (heap_alloc_new _ _))
  have HB1 : Hid (Below N w w1) := Lib.hid (by rw [H1.out, ← hN]; exact (Below.refl _ _).alloc (Nat.le_refl _) _)
  have HNK : Hid (N ≠ 2) := Lib.hid (by have := HK.out.lt; omega)
  rw [hN]
  have HN := Lib.hid hN
  clear hN
  have hsz1 : N + 1 ≤ w1.heap.size := by have := HS1.out.lt; omega
  go_wp2_with fail
  go_loopw [9] (fun x wr => ∃ k : Nat, k ≤ ss.length ∧ x = .int .i64 (k : Int) ∧ Hid (StateAt wr N 0 (catB (ss.take k))) ∧ Hid (Below N w wr) ∧ N + 1 ≤ wr.heap.size) (fun x _ => ss.length - (intOf x).toNat)
  case atStart => exact ⟨0, Nat.zero_le _, rfl, HS1.out, HB1.out, hsz1⟩
  case round =>
    obtain ⟨k, hk, rfl, HST, HBE, hsz⟩ := hrel
    by_cases hlt : k < ss.length
    · obtain ⟨b, o, rfl, hcs⟩ : ∃ b o, a = some ⟨b, o, none⟩ ∧ ∀ i, i < ss.length → wr.cell? ⟨b, o + i, none⟩ = some (.string (ss.getD i ByteArray.empty)) := by
        rcases HSS.out.later (by rw [HN.out]; exact HBE.out) with h | h
        · subst h; simp at hlt
        · exact h
      have hck := hcs k hlt
      clear hcs
      have hct := catB_take ss k hlt
      obtain ⟨s, hs⟩ := ex_eq (ss.getD k ByteArray.empty)
      rw [hs] at hck hct
      have HCT := Lib.hid hct
      clear hct hs
      go_upto_region 5 with fail
      have hcat : (catB (ss.take (k + 1))).length ≤ (catB ss).length := by
        have e : catB ss = catB (ss.take (k + 1)) ++ catB (ss.drop (k + 1)) := by
          unfold catB; rw [← List.flatMap_append, List.take_append_drop]
        rw [e, List.length_append]; omega
      have hsl : (catB (ss.take k)).length + (nb s).length ≤ 100000000000 := by
        have h1 := HL.out
        rw [HCT.out, List.length_append] at hcat
        omega
      have HSL := Lib.hid hsl
      have hsm : s.size ≤ maxLen := by have := nb_length s; unfold maxLen; omega
      have hcv := HCV.out wr s
      have HBY := Lib.hid (bytesWorld_bytes wr s hsm)
      have HBW := Lib.hid (bytesWorld_below wr s)
      obtain ⟨cp, hcp⟩ := ex_eq (grownCap wr s.size 0 5)
      obtain ⟨W2, hW2⟩ := ex_eq (Go.Lib.bytesWorld wr 5 s)
      have HCPL : Hid ((nb s).length ≤ cp) := Lib.hid (by rw [nb_length, ← hcp]; exact grownCap_ge _ _ _ _)
      rw [hcp, hW2, ← nb_length] at hcv
      rw [hW2] at HBY HBW
      clear hcat hsl hsm hcp hW2
      have HST2 : Hid (StateAt W2 N 0 (catB (ss.take k))) := Lib.hid (HST.out.later HBW.out)
      have HK2 : Hid (KonAt W2) := Lib.hid ((HK.out.later (by rw [HN.out]; exact HBE.out)).later HBW.out)
      go_wp2_with (first
        | (with_reducible refine (write_any N 0 (catB (ss.take k)) (some ⟨wr.heap.size, 0, none⟩) cp (nb s) HCPL.out (fun e => by cases e) (by have := HSL.out; omega) _ HST2.out HBY.out (fun ad e _ => by cases e; show wr.heap.size ≠ N; omega) HK2.out HNK.out).mono ?_
           rintro e w3 ⟨rfl, h2, h3⟩
           have H2 := Lib.hid h2
           have H3 := Lib.hid h3
           clear h2 h3))
      go_roundw
      case rel => exact ⟨k + 1, by omega, rfl, by rw [HCT.out]; exact H2.out, HBE.out.trans ((HBW.out.mono (by omega)).trans (H3.out.below (by have := HBW.out.size; omega) (fun k i hk h => by have := h.1; omega))), by have h4 := HBW.out.size; have h5 := H3.out.size; omega⟩
      case measure => simp [intOf]; omega
    · have e : k = ss.length := by omega
      subst e
      have HST2 : Hid (StateAt wr N 0 (catB ss)) := Lib.hid (by have h := HST.out; rw [List.take_length] at h; exact h)
      have HK2 : Hid (KonAt wr) := Lib.hid (HK.out.later (by rw [HN.out]; exact HBE.out))
      go_wp2_with (first
        | (with_reducible refine (stateSum_any N 0 (catB ss) HL.out _ HST2.out HK2.out).mono ?_
           rintro e w3 ⟨bs, rfl, h4, h5⟩
           have H4 := Lib.hid h4
           have H5 := Lib.hid h5
           clear h4 h5))
      go_ret
      exact ⟨bs, rfl, H4.out, by rw [HN.out]; exact HBE.out.trans (H5.out.mono (by omega))⟩
end Go.Proofs.YtmnendoloankgaaDoor
