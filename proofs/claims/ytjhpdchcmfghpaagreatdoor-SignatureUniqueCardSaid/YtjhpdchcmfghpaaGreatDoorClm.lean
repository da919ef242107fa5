/- The law's helper collides; the document's Join of long strings. -/
import Derived.Test.YtjhpdchcmfghpaaGreatDoorRga
namespace Go.Proofs.YtjhpdchcmfghpaaGreatDoor
set_option linter.unusedVariables false
set_option linter.unusedSimpArgs false
open Go.RowKit
open Kit (Chg)
open Sha (v)
open Go.Proofs.YtjhpdchcmfghpaaGreatDoor.One

theorem catB_take_lenx (ss : List ByteArray) (k : Nat) (h : ∀ s ∈ ss, s.size ≤ 100000) : (catB (ss.take k)).length ≤ 100000 * k := by
  induction k generalizing ss with
  | zero => simp [catB]
  | succ k ih =>
    cases ss with
    | nil => simp [catB]
    | cons s ss =>
      have h1 := ih ss (fun x hx => h x (List.mem_cons_of_mem _ hx))
      have h2 := h s (List.mem_cons_self ..)
      unfold catB at h1 ⊢
      rw [List.take_succ_cons, List.flatMap_cons, List.length_append]
      have h3 := nb_length s
      omega
set_option maxHeartbeats 1000000 in
theorem refJoin_x (a : Option Addr) (cap L : Nat) (ss : List ByteArray) (hLe : ss.length = L) (hL : L ≤ 10) (hsz : ∀ s ∈ ss, s.size ≤ 100000) (w : World) (hS : StrsAt w a ss) (T : List Nat) (hT : Sha.sum (catB ss) = T) :
    Calls Tryz.prog 19 #[.slice a L cap] w fun e w' => ∃ u : ByteArray, e = .returned (.string u) ∧ nb u = T ∧ Below w.heap.size w w' := by
  have HLE := Lib.hid hLe
  have HS := Lib.hid hS
  have HT := Lib.hid hT
  have HCL := Lib.hid (fun k => catB_take_lenx ss k hsz)
  have HSZ := Lib.hid hsz
  clear hLe hS hT hsz
  go_enter Tryz.func19, Tryz.ntmps19
  go_upto_region 3 with fail
  go_loopw [3, 8] (fun x y wr => ∃ (k : Nat) (u : ByteArray), k ≤ L ∧ y = .int .i64 (k : Int) ∧ x = .string u ∧ u.size ≤ 100000 * k ∧ Hid (nb u = catB (ss.take k)) ∧ wr = w) (fun _ y _ => L - (intOf y).toNat)
  case atStart => exact ⟨0, _, by omega, rfl, rfl, by decide, rfl, rfl⟩
  case round =>
    obtain ⟨k, u, hk, rfl, rfl, huz, HU, rfl⟩ := hrel
    by_cases hlt : k < L
    · have hki : (k : Int) < (L : Int) := by omega
      obtain ⟨b, o, rfl, hcs⟩ : ∃ b o, a = some ⟨b, o, none⟩ ∧ ∀ i, i < ss.length → wr.cell? ⟨b, o + i, none⟩ = some (.string (ss.getD i ByteArray.empty)) := by
        rcases HS.out with h | h
        · have := HLE.out; rw [h] at this; simp at this; omega
        · exact h
      have hc := hcs k (by rw [HLE.out]; exact hlt)
      have hz := HSZ.out _ (getD_mem ss k ByteArray.empty (by rw [HLE.out]; exact hlt))
      have HCT := Lib.hid (catB_take ss k (by rw [HLE.out]; exact hlt))
      obtain ⟨s, hs⟩ := ex_eq (ss.getD k ByteArray.empty)
      rw [hs] at hc hz HCT
      have hcat : ¬ 9223372036854775807 < u.size + s.size := by omega
      clear hcs hs
      go_wp2_with fail
      go_roundw
      case rel => exact ⟨k + 1, _, by omega, by go_num, rfl, by rw [ByteArray.size_append]; omega, by show _ = _; rw [nb_app, HU.out, HCT.out], trivial⟩
      case measure => simp [intOf]; omega
    · have hki : ¬ (k : Int) < (L : Int) := by omega
      have hke : k = L := by omega
      have HU2 : Hid (nb u = catB ss) := Lib.hid (by rw [HU.out, hke, ← HLE.out, List.take_length])
      obtain ⟨L2, hL2⟩ := ex_eq u.size
      obtain ⟨cp3, w3, hcv3, hle3, hB3, h3⟩ := str_at wr u (by rw [hL2]; unfold maxLen; omega) hL2
      have HL2 := Lib.hid hL2
      have HB3 := Lib.hid hB3
      have H3 := Lib.hid h3
      rw [hL2] at huz
      clear hL2 hle3 hB3 h3 hke
      go_wp2_with (first
        | (go_at_call 44
           (refine (refSum_l (some ⟨wr.heap.size, 0, none⟩) cp3 (nb u) L2 (by rw [nb_length]; exact HL2.out) (fun e => by cases e) (by omega) w3 HB3.out).mono ?_)
           rintro e w4 ⟨u4, rfl, hu4, h4⟩
           have HU4 := Lib.hid hu4
           have H4 := Lib.hid (H3.out.trans (h4.mono H3.out.size))
           clear hu4 h4))
      go_ret
      exact ⟨u4, rfl, by rw [HU4.out, HU2.out, HT.out], H4.out⟩
theorem catB_one (s : ByteArray) : catB [s] = nb s := by simp [catB]
/-- Two different strings with one sum. -/
def Coll (s t : List Nat) : Prop := s ≠ t ∧ Sha.sum s = Sha.sum t
instance (s t : List Nat) : Decidable (Coll s t) := by unfold Coll; infer_instance
set_option maxRecDepth 100000 in
set_option maxHeartbeats 2000000 in
theorem collides_any (s t : ByteArray) (hs : s.size ≤ 100000) (ht : t.size ≤ 100000) (w : World) :
    Calls Tryz.prog 17 #[.string s, .string t] w fun e w' => e = .returned (.bool (decide (Coll (nb s) (nb t)))) ∧ Below w.heap.size w w' := by
  by_cases hne : s = t
  · subst hne
    have HF : Hid (decide (Coll (nb s) (nb s)) = false) := Lib.hid (decide_eq_false (fun h => h.1 rfl))
    have huu : (s.toList != s.toList) = false := by simp
    go_enter Tryz.func17, Tryz.ntmps17
    go_wp2_with fail
    go_ret
    exact ⟨by rw [HF.out]; rfl, Below.refl _ _⟩
  · have hst : (s.toList == t.toList) = false := by
      rw [eq_str, decide_eq_false (fun h => hne (nb_inj h))]
    have hst2 : ¬ s.toList = t.toList := fun h => by
      rw [h] at hst
      simp at hst
    have HZ : Hid (s.size ≤ 100000 ∧ t.size ≤ 100000) := Lib.hid ⟨hs, ht⟩
    have HNE := Lib.hid hne
    clear hs ht hne
    go_enter Tryz.func17, Tryz.ntmps17
    have HB1 : Hid (Below w.heap.size w (w.alloc (.cells #[.string s] 9))) := Lib.hid ((Below.refl _ _).alloc (Nat.le_refl _) _)
    have HS1 : Hid (StrsAt (w.alloc (.cells #[.string s] 9)) (some ⟨w.heap.size, 0, none⟩) [s]) := Lib.hid (strs_of_row (t := 9) (heap_alloc_new w _))
    have HA : Hid (∀ W : World, StrsAt (W.alloc (.cells #[.string t] 9)) (some ⟨W.heap.size, 0, none⟩) [t] ∧ Below W.heap.size W (W.alloc (.cells #[.string t] 9))) := Lib.hid (fun W => ⟨strs_of_row (t := 9) (heap_alloc_new W _), (Below.refl _ _).alloc (Nat.le_refl _) _⟩)
    go_wp2_with (first
      | (go_at_call 19
         (refine (refJoin_x (some ⟨w2.heap.size, 0, none⟩) 1 1 [t] rfl (by decide) (fun x hx => by rw [List.mem_singleton.1 hx]; exact HZ.out.2) _ (HA.out w2).1 (Sha.sum (nb t)) (by rw [catB_one])).mono ?_)
         rintro e w3 ⟨u3, rfl, hu3, h3⟩
         have HU3 := Lib.hid hu3
         have H3 := Lib.hid ((H2.out.trans ((HA.out w2).2.mono H2.out.size)).trans (h3.mono (H2.out.trans ((HA.out w2).2.mono H2.out.size)).size))
         have HE : Hid ((u2.toList == u3.toList) = decide (Coll (nb s) (nb t))) := Lib.hid (by
           rw [eq_str, decide_eq_decide, HU2.out, hu3]
           exact ⟨fun h => ⟨fun e => HNE.out (nb_inj e), h⟩, fun h => h.2⟩)
         clear hu3 h3)
      | (go_at_call 19
         (refine (refJoin_x (some ⟨w.heap.size, 0, none⟩) 1 1 [s] rfl (by decide) (fun x hx => by rw [List.mem_singleton.1 hx]; exact HZ.out.1) _ HS1.out (Sha.sum (nb s)) (by rw [catB_one])).mono ?_)
         rintro e w2 ⟨u2, rfl, hu2, h2⟩
         have HU2 := Lib.hid hu2
         have H2 := Lib.hid (HB1.out.trans (h2.mono HB1.out.size))
         clear hu2 h2))
    go_ret
    exact ⟨by rw [← HE.out]; rfl, H3.out⟩
end Go.Proofs.YtjhpdchcmfghpaaGreatDoor
