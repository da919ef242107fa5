/- The laws SignatureSeed and SignatureScheme, walked. -/
import Derived.Test.YtmnendoloankgaaDoorGd
import Derived.Test.YtmnendoloankgaaDoorGf
namespace Go.Proofs.YtmnendoloankgaaDoor
set_option linter.unusedVariables false
set_option linter.unusedSimpArgs false
open Go.RowKit
open Kit (Chg)
open Sha (v)
open Go.Proofs.YtmnendoloankgaaDoor.One

set_option maxRecDepth 100000 in
set_option maxHeartbeats 2000000 in
theorem seed_long (s : ByteArray) (idx : Int) (h : 100 < s.size) (w : World) (hL : Laid w) :
    Calls Tryd.prog 13 #[.string s, .int .i64 (idx)] w fun e w' => e = .returned (.bool true) ∧ Below w.heap.size w w' := by
  have HL := Lib.hid hL
  have HST : Hid (∀ V V', Below w.heap.size w V → Below V.heap.size V V' → Below w.heap.size w V') := Lib.hid (fun V V' h h' => h.trans (h'.mono h.size))
  have HLD : Hid (∀ V, Below w.heap.size w V → Laid V) := Lib.hid (fun V h => HL.out.later h (Nat.le_refl _))
  have HCUR : Hid (Below w.heap.size w w) := Lib.hid (Below.refl _ _)
  have hi : (100 : Int) < ((s.size : Nat) : Int) := by omega
  clear hL h
  go_enter Tryd.func13, Tryd.ntmps13
  go_wp2_with (first
    | (go_at_call 48
       (refine (awake13 _ (HLD.out _ HCUR.out)).mono ?_)
       rintro e w2 ⟨rfl, h2⟩
       replace HCUR := Lib.hid (HST.out _ _ HCUR.out h2)
       clear h2))
  go_ret
  exact ⟨by first | rfl | simp, HCUR.out⟩
set_option maxRecDepth 100000 in
set_option maxHeartbeats 2000000 in
theorem seed_bad_size (s : ByteArray) (idx : Int) (h : ¬ 100 < s.size) (h32 : ¬ s.size = 32) (w : World) (hL : Laid w) :
    Calls Tryd.prog 13 #[.string s, .int .i64 (idx)] w fun e w' => e = .returned (.bool true) ∧ Below w.heap.size w w' := by
  have HL := Lib.hid hL
  have HST : Hid (∀ V V', Below w.heap.size w V → Below V.heap.size V V' → Below w.heap.size w V') := Lib.hid (fun V V' h h' => h.trans (h'.mono h.size))
  have HLD : Hid (∀ V, Below w.heap.size w V → Laid V) := Lib.hid (fun V h => HL.out.later h (Nat.le_refl _))
  have HCUR : Hid (Below w.heap.size w w) := Lib.hid (Below.refl _ _)
  have hi : ¬ (100 : Int) < ((s.size : Nat) : Int) := by omega
  have hne : (((s.size : Nat) : Int) != 32) = true := by rw [bne_iff_ne]; omega
  have HSD := Lib.hid (fun w => keySeed_bad s idx (fun h => h32 h.1) w)
  clear hL h h32
  go_enter Tryd.func13, Tryd.ntmps13
  go_wp2_with (first
    | (go_at_call 48
       (refine (awake13 _ (HLD.out _ HCUR.out)).mono ?_)
       rintro e w2 ⟨rfl, h2⟩
       replace HCUR := Lib.hid (HST.out _ _ HCUR.out h2)
       clear h2)
    | (go_at_call 51
       (refine (HSD.out _).mono ?_)
       rintro e w3 ⟨rfl, rfl⟩))
  go_ret
  exact ⟨by first | rfl | simp, HCUR.out⟩
set_option maxRecDepth 100000 in
set_option maxHeartbeats 2000000 in
theorem seed_bad_neg (s : ByteArray) (idx : Int) (h32 : s.size = 32) (h0 : idx < 0) (w : World) (hL : Laid w) :
    Calls Tryd.prog 13 #[.string s, .int .i64 (idx)] w fun e w' => e = .returned (.bool true) ∧ Below w.heap.size w w' := by
  have HL := Lib.hid hL
  have HST : Hid (∀ V V', Below w.heap.size w V → Below V.heap.size V V' → Below w.heap.size w V') := Lib.hid (fun V V' h h' => h.trans (h'.mono h.size))
  have HLD : Hid (∀ V, Below w.heap.size w V → Laid V) := Lib.hid (fun V h => HL.out.later h (Nat.le_refl _))
  have HCUR : Hid (Below w.heap.size w w) := Lib.hid (Below.refl _ _)
  have hi : ¬ (100 : Int) < ((s.size : Nat) : Int) := by omega
  have hne : (((s.size : Nat) : Int) != 32) = false := by rw [h32]; rfl
  have HSD := Lib.hid (fun w => keySeed_bad s idx (fun h => by omega) w)
  clear hL h32
  go_enter Tryd.func13, Tryd.ntmps13
  go_wp2_with (first
    | (go_at_call 48
       (refine (awake13 _ (HLD.out _ HCUR.out)).mono ?_)
       rintro e w2 ⟨rfl, h2⟩
       replace HCUR := Lib.hid (HST.out _ _ HCUR.out h2)
       clear h2)
    | (go_at_call 51
       (refine (HSD.out _).mono ?_)
       rintro e w3 ⟨rfl, rfl⟩))
  go_ret
  exact ⟨by first | rfl | simp, HCUR.out⟩
set_option maxRecDepth 100000 in
set_option maxHeartbeats 2000000 in
theorem seed_bad_big (s : ByteArray) (idx : Int) (h32 : s.size = 32) (h0 : ¬ idx < 0) (h1 : 255 < idx) (w : World) (hL : Laid w) :
    Calls Tryd.prog 13 #[.string s, .int .i64 (idx)] w fun e w' => e = .returned (.bool true) ∧ Below w.heap.size w w' := by
  have HL := Lib.hid hL
  have HST : Hid (∀ V V', Below w.heap.size w V → Below V.heap.size V V' → Below w.heap.size w V') := Lib.hid (fun V V' h h' => h.trans (h'.mono h.size))
  have HLD : Hid (∀ V, Below w.heap.size w V → Laid V) := Lib.hid (fun V h => HL.out.later h (Nat.le_refl _))
  have HCUR : Hid (Below w.heap.size w w) := Lib.hid (Below.refl _ _)
  have hi : ¬ (100 : Int) < ((s.size : Nat) : Int) := by omega
  have hne : (((s.size : Nat) : Int) != 32) = false := by rw [h32]; rfl
  have HSD := Lib.hid (fun w => keySeed_bad s idx (fun h => by omega) w)
  clear hL h32
  go_enter Tryd.func13, Tryd.ntmps13
  go_wp2_with (first
    | (go_at_call 48
       (refine (awake13 _ (HLD.out _ HCUR.out)).mono ?_)
       rintro e w2 ⟨rfl, h2⟩
       replace HCUR := Lib.hid (HST.out _ _ HCUR.out h2)
       clear h2)
    | (go_at_call 51
       (refine (HSD.out _).mono ?_)
       rintro e w3 ⟨rfl, rfl⟩))
  go_ret
  exact ⟨by first | rfl | simp, HCUR.out⟩
set_option maxRecDepth 100000 in
set_option maxHeartbeats 2000000 in
theorem seed_good (s : ByteArray) (n : Nat) (h32 : s.size = 32) (h1 : n ≤ 255) (w : World) (hL : Laid w) :
    Calls Tryd.prog 13 #[.string s, .int .i64 (n : Int)] w fun e w' => e = .returned (.bool true) ∧ Below w.heap.size w w' := by
  have HL := Lib.hid hL
  have HST : Hid (∀ V V', Below w.heap.size w V → Below V.heap.size V V' → Below w.heap.size w V') := Lib.hid (fun V V' h h' => h.trans (h'.mono h.size))
  have HLD : Hid (∀ V, Below w.heap.size w V → Laid V) := Lib.hid (fun V h => HL.out.later h (Nat.le_refl _))
  have HCUR : Hid (Below w.heap.size w w) := Lib.hid (Below.refl _ _)
  have hi : ¬ (100 : Int) < ((s.size : Nat) : Int) := by omega
  have hne : (((s.size : Nat) : Int) != 32) = false := by rw [h32]; rfl
  have h0 : ¬ (n : Int) < 0 := by omega
  have h2 : ¬ (255 : Int) < (n : Int) := by omega
  have HSD := Lib.hid (fun w hL => keySeed_ok s h32 n h1 w hL)
  have HRS := Lib.hid (fun w => refKeySeed_ok s h32 n h1 w)
  clear hL h32
  go_enter Tryd.func13, Tryd.ntmps13
  go_wp2_with (first
    | (go_at_call 48
       (refine (awake13 _ (HLD.out _ HCUR.out)).mono ?_)
       rintro e w2 ⟨rfl, h2⟩
       replace HCUR := Lib.hid (HST.out _ _ HCUR.out h2)
       clear h2)
    | (go_at_call 51
       (refine (HSD.out _ (HLD.out _ HCUR.out)).mono ?_)
       rintro e w3 ⟨u3, rfl, hu3, hz3, h3⟩
       have HU3 := Lib.hid hu3
       have huu : (u3.toList == u3.toList) = true := by simp
       clear hu3 hz3
       replace HCUR := Lib.hid (HST.out _ _ HCUR.out h3)
       clear h3)
    | (go_at_call 52
       (refine (HRS.out _).mono ?_)
       rintro e w4 ⟨u4, rfl, hu4, hz4, h4⟩
       have hue : u4 = u3 := nb_inj (by rw [hu4, HU3.out])
       subst hue
       clear hu4 hz4
       replace HCUR := Lib.hid (HST.out _ _ HCUR.out h4)
       clear h4))
  go_ret
  exact ⟨by first | rfl | simp, HCUR.out⟩
theorem walk_SignatureSeed (s : ByteArray) (idx : Int) (w : World) (hL : Laid w) :
    Calls Tryd.prog 13 #[.string s, .int .i64 idx] w fun e w' => e = .returned (.bool true) ∧ Below w.heap.size w w' := by
  by_cases h : 100 < s.size
  · exact seed_long s idx h w hL
  · by_cases h32 : s.size = 32
    · by_cases h0 : idx < 0
      · exact seed_bad_neg s idx h32 h0 w hL
      · by_cases h1 : 255 < idx
        · exact seed_bad_big s idx h32 h0 h1 w hL
        · obtain ⟨n, rfl⟩ : ∃ n : Nat, idx = (n : Int) := ⟨idx.toNat, by omega⟩
          exact seed_good s n h32 (by omega) w hL
    · exact seed_bad_size s idx h h32 w hL
end Go.Proofs.YtmnendoloankgaaDoor
