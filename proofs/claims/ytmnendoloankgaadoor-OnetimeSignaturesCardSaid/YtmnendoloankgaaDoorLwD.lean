/- The law Chains, walked. -/
import Derived.Test.YtmnendoloankgaaDoorRfi
namespace Go.Proofs.YtmnendoloankgaaDoor
set_option linter.unusedVariables false
set_option linter.unusedSimpArgs false
open Go.RowKit
open Kit (Chg)
open Sha (v)
open Go.Proofs.YtmnendoloankgaaDoor.One

theorem secret_bad' (seed : ByteArray) (c : Int) (hb : ¬ (seed.size = 32 ∧ 0 ≤ c ∧ c ≤ 999)) (w : World) (hL : Laid w) :
    Calls Tryd.prog 29 #[.string seed, .int .i64 c] w fun e w' => e = .returned (.tuple #[.string ByteArray.empty, .int .i64 1]) ∧ Below w.heap.size w w' := by
  refine (secret_bad seed c hb w).mono ?_
  rintro e w' ⟨rfl, rfl⟩
  exact ⟨rfl, Below.refl _ _⟩
theorem chain_bad' (i j m : Int) (x : ByteArray) (hb : ¬ (0 ≤ i ∧ i ≤ 999 ∧ 0 ≤ j ∧ j ≤ m ∧ m ≤ 255 ∧ x.size = 32)) (w : World) (hL : Laid w) :
    Calls Tryd.prog 30 #[.int .i64 i, .int .i64 j, .int .i64 m, .string x] w fun e w' => e = .returned (.tuple #[.string ByteArray.empty, .int .i64 1]) ∧ Below w.heap.size w w' := by
  refine (chain_bad i j m x hb w).mono ?_
  rintro e w' ⟨rfl, rfl⟩
  exact ⟨rfl, Below.refl _ _⟩
set_option maxRecDepth 100000 in
set_option maxHeartbeats 1000000 in
theorem chains_seed_ok (seed x : ByteArray) (c : Nat) (hc : c ≤ 999) (hs : seed.size = 32) (f t : Nat) (hft : f ≤ t) (ht : t ≤ 255) (hx : x.size = 32) (w : World) (hL : Laid w) :
    Calls Tryd.prog 4 #[.string seed, .int .i64 ((c : Int)), .int .i64 ((f : Int)), .int .i64 ((t : Int)), .string x] w fun e w' => e = .returned (.bool true) ∧ Below w.heap.size w w' := by
  have HL := Lib.hid hL
  have HSE := Lib.hid (fun w hL => secret_ok seed hs c hc w hL)
  have HRS := Lib.hid (fun w => refSecret_ok seed hs c hc w)
  obtain ⟨TS, hTS⟩ := ex_eq (secret (nb seed) c)
  rw [hTS] at HSE HRS
  clear hTS
  have HCH := Lib.hid (fun w hL => chain_ok c f t hc hft (by omega) x hx w hL)
  have HRC := Lib.hid (fun w => refChain_ok c f t hc hft (by omega) x (by omega) w _ rfl)
  obtain ⟨TC, hTC⟩ := ex_eq (chain c f (t - f) (nb x))
  rw [hTC] at HCH HRC
  clear hTC
  have hc9 : (c : Int) ≤ 999 := by omega
  have hsn : (((seed.size : Nat) : Int) != 32) = false := by rw [hs]; rfl
  have h1 : ¬ (f : Int) < 0 := by omega
  have h2 : ¬ (t : Int) < (f : Int) := by omega
  have h3 : ¬ (255 : Int) < (t : Int) := by omega
  have hxn : (((x.size : Nat) : Int) != 32) = false := by rw [hx]; rfl
  clear hL hs hx
  go_enter Tryd.func4, Tryd.ntmps4
  have HCUR : Hid (Below w.heap.size w w) := Lib.hid (Below.refl _ _)
  go_wp2_with (first
    | (go_at_call 18
       (with_reducible refine (awake12 _ HL.out).mono ?_)
       rintro e w2 ⟨rfl, h2⟩
       replace HCUR := Lib.hid (HCUR.out.trans (h2.mono HCUR.out.size))
       clear h2)
    | (go_at_call 29
       (with_reducible refine (HSE.out _ (HL.out.later HCUR.out (Nat.le_refl _))).mono ?_)
       rintro e w3 ⟨s3, rfl, hs3, h3⟩
       have HS3 := Lib.hid hs3
       have hss3 : (s3.toList == s3.toList) = true := by simp
       clear hs3
       replace HCUR := Lib.hid (HCUR.out.trans (h3.mono HCUR.out.size))
       clear h3)
    | (go_at_call 30
       (with_reducible refine (HCH.out _ (HL.out.later HCUR.out (Nat.le_refl _))).mono ?_)
       rintro e w4 ⟨s4, rfl, hs4, h4⟩
       have HS4 := Lib.hid hs4
       have hss4 : (s4.toList == s4.toList) = true := by simp
       clear hs4
       replace HCUR := Lib.hid (HCUR.out.trans (h4.mono HCUR.out.size))
       clear h4)
    | (go_at_call 31
       (with_reducible refine (HRS.out _).mono ?_)
       rintro e w5 ⟨s5, rfl, hs5, h5⟩
       have hse5 : s5 = s3 := nb_inj (by rw [hs5, HS3.out])
       subst hse5
       clear hs5
       replace HCUR := Lib.hid (HCUR.out.trans (h5.mono HCUR.out.size))
       clear h5)
    | (go_at_call 32
       (with_reducible refine (HRC.out _).mono ?_)
       rintro e w6 ⟨s6, rfl, hs6, h6⟩
       have hse6 : s6 = s4 := nb_inj (by rw [hs6, HS4.out])
       subst hse6
       clear hs6
       replace HCUR := Lib.hid (HCUR.out.trans (h6.mono HCUR.out.size))
       clear h6))
  go_ret
  exact ⟨by first | rfl | simp, HCUR.out⟩
set_option maxRecDepth 100000 in
set_option maxHeartbeats 1000000 in
theorem chains_seed_neg (seed x : ByteArray) (c : Nat) (hc : c ≤ 999) (hs : seed.size = 32) (f t : Int) (h1 : f < 0) (w : World) (hL : Laid w) :
    Calls Tryd.prog 4 #[.string seed, .int .i64 ((c : Int)), .int .i64 (f), .int .i64 (t), .string x] w fun e w' => e = .returned (.bool true) ∧ Below w.heap.size w w' := by
  have HL := Lib.hid hL
  have HSE := Lib.hid (fun w hL => secret_ok seed hs c hc w hL)
  have HRS := Lib.hid (fun w => refSecret_ok seed hs c hc w)
  obtain ⟨TS, hTS⟩ := ex_eq (secret (nb seed) c)
  rw [hTS] at HSE HRS
  clear hTS
  have HCH := Lib.hid (fun w hL => chain_bad' ((c : Int)) (f) (t) x (by omega) w hL)
  have hc9 : (c : Int) ≤ 999 := by omega
  have hsn : (((seed.size : Nat) : Int) != 32) = false := by rw [hs]; rfl
  clear hL hs
  go_enter Tryd.func4, Tryd.ntmps4
  have HCUR : Hid (Below w.heap.size w w) := Lib.hid (Below.refl _ _)
  go_wp2_with (first
    | (go_at_call 18
       (with_reducible refine (awake12 _ HL.out).mono ?_)
       rintro e w2 ⟨rfl, h2⟩
       replace HCUR := Lib.hid (HCUR.out.trans (h2.mono HCUR.out.size))
       clear h2)
    | (go_at_call 29
       (with_reducible refine (HSE.out _ (HL.out.later HCUR.out (Nat.le_refl _))).mono ?_)
       rintro e w3 ⟨s3, rfl, hs3, h3⟩
       have HS3 := Lib.hid hs3
       have hss3 : (s3.toList == s3.toList) = true := by simp
       clear hs3
       replace HCUR := Lib.hid (HCUR.out.trans (h3.mono HCUR.out.size))
       clear h3)
    | (go_at_call 30
       (with_reducible refine (HCH.out _ (HL.out.later HCUR.out (Nat.le_refl _))).mono ?_)
       rintro e w4 ⟨rfl, h4⟩
       replace HCUR := Lib.hid (HCUR.out.trans (h4.mono HCUR.out.size))
       clear h4)
    | (go_at_call 31
       (with_reducible refine (HRS.out _).mono ?_)
       rintro e w5 ⟨s5, rfl, hs5, h5⟩
       have hse5 : s5 = s3 := nb_inj (by rw [hs5, HS3.out])
       subst hse5
       clear hs5
       replace HCUR := Lib.hid (HCUR.out.trans (h5.mono HCUR.out.size))
       clear h5))
  go_ret
  exact ⟨by first | rfl | simp, HCUR.out⟩
set_option maxRecDepth 100000 in
set_option maxHeartbeats 1000000 in
theorem chains_seed_back (seed x : ByteArray) (c : Nat) (hc : c ≤ 999) (hs : seed.size = 32) (f t : Int) (h1 : ¬ f < 0) (h2 : t < f) (w : World) (hL : Laid w) :
    Calls Tryd.prog 4 #[.string seed, .int .i64 ((c : Int)), .int .i64 (f), .int .i64 (t), .string x] w fun e w' => e = .returned (.bool true) ∧ Below w.heap.size w w' := by
  have HL := Lib.hid hL
  have HSE := Lib.hid (fun w hL => secret_ok seed hs c hc w hL)
  have HRS := Lib.hid (fun w => refSecret_ok seed hs c hc w)
  obtain ⟨TS, hTS⟩ := ex_eq (secret (nb seed) c)
  rw [hTS] at HSE HRS
  clear hTS
  have HCH := Lib.hid (fun w hL => chain_bad' ((c : Int)) (f) (t) x (by omega) w hL)
  have hc9 : (c : Int) ≤ 999 := by omega
  have hsn : (((seed.size : Nat) : Int) != 32) = false := by rw [hs]; rfl
  clear hL hs
  go_enter Tryd.func4, Tryd.ntmps4
  have HCUR : Hid (Below w.heap.size w w) := Lib.hid (Below.refl _ _)
  go_wp2_with (first
    | (go_at_call 18
       (with_reducible refine (awake12 _ HL.out).mono ?_)
       rintro e w2 ⟨rfl, h2⟩
       replace HCUR := Lib.hid (HCUR.out.trans (h2.mono HCUR.out.size))
       clear h2)
    | (go_at_call 29
       (with_reducible refine (HSE.out _ (HL.out.later HCUR.out (Nat.le_refl _))).mono ?_)
       rintro e w3 ⟨s3, rfl, hs3, h3⟩
       have HS3 := Lib.hid hs3
       have hss3 : (s3.toList == s3.toList) = true := by simp
       clear hs3
       replace HCUR := Lib.hid (HCUR.out.trans (h3.mono HCUR.out.size))
       clear h3)
    | (go_at_call 30
       (with_reducible refine (HCH.out _ (HL.out.later HCUR.out (Nat.le_refl _))).mono ?_)
       rintro e w4 ⟨rfl, h4⟩
       replace HCUR := Lib.hid (HCUR.out.trans (h4.mono HCUR.out.size))
       clear h4)
    | (go_at_call 31
       (with_reducible refine (HRS.out _).mono ?_)
       rintro e w5 ⟨s5, rfl, hs5, h5⟩
       have hse5 : s5 = s3 := nb_inj (by rw [hs5, HS3.out])
       subst hse5
       clear hs5
       replace HCUR := Lib.hid (HCUR.out.trans (h5.mono HCUR.out.size))
       clear h5))
  go_ret
  exact ⟨by first | rfl | simp, HCUR.out⟩
set_option maxRecDepth 100000 in
set_option maxHeartbeats 1000000 in
theorem chains_seed_far (seed x : ByteArray) (c : Nat) (hc : c ≤ 999) (hs : seed.size = 32) (f t : Int) (h1 : ¬ f < 0) (h2 : ¬ t < f) (h3 : 255 < t) (w : World) (hL : Laid w) :
    Calls Tryd.prog 4 #[.string seed, .int .i64 ((c : Int)), .int .i64 (f), .int .i64 (t), .string x] w fun e w' => e = .returned (.bool true) ∧ Below w.heap.size w w' := by
  have HL := Lib.hid hL
  have HSE := Lib.hid (fun w hL => secret_ok seed hs c hc w hL)
  have HRS := Lib.hid (fun w => refSecret_ok seed hs c hc w)
  obtain ⟨TS, hTS⟩ := ex_eq (secret (nb seed) c)
  rw [hTS] at HSE HRS
  clear hTS
  have HCH := Lib.hid (fun w hL => chain_bad' ((c : Int)) (f) (t) x (by omega) w hL)
  have hc9 : (c : Int) ≤ 999 := by omega
  have hsn : (((seed.size : Nat) : Int) != 32) = false := by rw [hs]; rfl
  clear hL hs
  go_enter Tryd.func4, Tryd.ntmps4
  have HCUR : Hid (Below w.heap.size w w) := Lib.hid (Below.refl _ _)
  go_wp2_with (first
    | (go_at_call 18
       (with_reducible refine (awake12 _ HL.out).mono ?_)
       rintro e w2 ⟨rfl, h2⟩
       replace HCUR := Lib.hid (HCUR.out.trans (h2.mono HCUR.out.size))
       clear h2)
    | (go_at_call 29
       (with_reducible refine (HSE.out _ (HL.out.later HCUR.out (Nat.le_refl _))).mono ?_)
       rintro e w3 ⟨s3, rfl, hs3, h3⟩
       have HS3 := Lib.hid hs3
       have hss3 : (s3.toList == s3.toList) = true := by simp
       clear hs3
       replace HCUR := Lib.hid (HCUR.out.trans (h3.mono HCUR.out.size))
       clear h3)
    | (go_at_call 30
       (with_reducible refine (HCH.out _ (HL.out.later HCUR.out (Nat.le_refl _))).mono ?_)
       rintro e w4 ⟨rfl, h4⟩
       replace HCUR := Lib.hid (HCUR.out.trans (h4.mono HCUR.out.size))
       clear h4)
    | (go_at_call 31
       (with_reducible refine (HRS.out _).mono ?_)
       rintro e w5 ⟨s5, rfl, hs5, h5⟩
       have hse5 : s5 = s3 := nb_inj (by rw [hs5, HS3.out])
       subst hse5
       clear hs5
       replace HCUR := Lib.hid (HCUR.out.trans (h5.mono HCUR.out.size))
       clear h5))
  go_ret
  exact ⟨by first | rfl | simp, HCUR.out⟩
set_option maxRecDepth 100000 in
set_option maxHeartbeats 1000000 in
theorem chains_seed_len (seed x : ByteArray) (c : Nat) (hc : c ≤ 999) (hs : seed.size = 32) (f t : Int) (h1 : ¬ f < 0) (h2 : ¬ t < f) (h3 : ¬ 255 < t) (hx : ¬ x.size = 32) (w : World) (hL : Laid w) :
    Calls Tryd.prog 4 #[.string seed, .int .i64 ((c : Int)), .int .i64 (f), .int .i64 (t), .string x] w fun e w' => e = .returned (.bool true) ∧ Below w.heap.size w w' := by
  have HL := Lib.hid hL
  have HSE := Lib.hid (fun w hL => secret_ok seed hs c hc w hL)
  have HRS := Lib.hid (fun w => refSecret_ok seed hs c hc w)
  obtain ⟨TS, hTS⟩ := ex_eq (secret (nb seed) c)
  rw [hTS] at HSE HRS
  clear hTS
  have HCH := Lib.hid (fun w hL => chain_bad' ((c : Int)) (f) (t) x (by omega) w hL)
  have hc9 : (c : Int) ≤ 999 := by omega
  have hsn : (((seed.size : Nat) : Int) != 32) = false := by rw [hs]; rfl
  have hxn : (((x.size : Nat) : Int) != 32) = true := by rw [bne_iff_ne]; omega
  clear hL hs hx
  go_enter Tryd.func4, Tryd.ntmps4
  have HCUR : Hid (Below w.heap.size w w) := Lib.hid (Below.refl _ _)
  go_wp2_with (first
    | (go_at_call 18
       (with_reducible refine (awake12 _ HL.out).mono ?_)
       rintro e w2 ⟨rfl, h2⟩
       replace HCUR := Lib.hid (HCUR.out.trans (h2.mono HCUR.out.size))
       clear h2)
    | (go_at_call 29
       (with_reducible refine (HSE.out _ (HL.out.later HCUR.out (Nat.le_refl _))).mono ?_)
       rintro e w3 ⟨s3, rfl, hs3, h3⟩
       have HS3 := Lib.hid hs3
       have hss3 : (s3.toList == s3.toList) = true := by simp
       clear hs3
       replace HCUR := Lib.hid (HCUR.out.trans (h3.mono HCUR.out.size))
       clear h3)
    | (go_at_call 30
       (with_reducible refine (HCH.out _ (HL.out.later HCUR.out (Nat.le_refl _))).mono ?_)
       rintro e w4 ⟨rfl, h4⟩
       replace HCUR := Lib.hid (HCUR.out.trans (h4.mono HCUR.out.size))
       clear h4)
    | (go_at_call 31
       (with_reducible refine (HRS.out _).mono ?_)
       rintro e w5 ⟨s5, rfl, hs5, h5⟩
       have hse5 : s5 = s3 := nb_inj (by rw [hs5, HS3.out])
       subst hse5
       clear hs5
       replace HCUR := Lib.hid (HCUR.out.trans (h5.mono HCUR.out.size))
       clear h5))
  go_ret
  exact ⟨by first | rfl | simp, HCUR.out⟩
set_option maxRecDepth 100000 in
set_option maxHeartbeats 1000000 in
theorem chains_noseed_ok (seed x : ByteArray) (c : Nat) (hc : c ≤ 999) (hs : ¬ seed.size = 32) (f t : Nat) (hft : f ≤ t) (ht : t ≤ 255) (hx : x.size = 32) (w : World) (hL : Laid w) :
    Calls Tryd.prog 4 #[.string seed, .int .i64 ((c : Int)), .int .i64 ((f : Int)), .int .i64 ((t : Int)), .string x] w fun e w' => e = .returned (.bool true) ∧ Below w.heap.size w w' := by
  have HL := Lib.hid hL
  have HSE := Lib.hid (fun w hL => secret_bad' seed ((c : Int)) (by omega) w hL)
  have HCH := Lib.hid (fun w hL => chain_ok c f t hc hft (by omega) x hx w hL)
  have HRC := Lib.hid (fun w => refChain_ok c f t hc hft (by omega) x (by omega) w _ rfl)
  obtain ⟨TC, hTC⟩ := ex_eq (chain c f (t - f) (nb x))
  rw [hTC] at HCH HRC
  clear hTC
  have hc9 : (c : Int) ≤ 999 := by omega
  have hsn : (((seed.size : Nat) : Int) != 32) = true := by rw [bne_iff_ne]; omega
  have h1 : ¬ (f : Int) < 0 := by omega
  have h2 : ¬ (t : Int) < (f : Int) := by omega
  have h3 : ¬ (255 : Int) < (t : Int) := by omega
  have hxn : (((x.size : Nat) : Int) != 32) = false := by rw [hx]; rfl
  clear hL hs hx
  go_enter Tryd.func4, Tryd.ntmps4
  have HCUR : Hid (Below w.heap.size w w) := Lib.hid (Below.refl _ _)
  go_wp2_with (first
    | (go_at_call 18
       (with_reducible refine (awake12 _ HL.out).mono ?_)
       rintro e w2 ⟨rfl, h2⟩
       replace HCUR := Lib.hid (HCUR.out.trans (h2.mono HCUR.out.size))
       clear h2)
    | (go_at_call 29
       (with_reducible refine (HSE.out _ (HL.out.later HCUR.out (Nat.le_refl _))).mono ?_)
       rintro e w3 ⟨rfl, h3⟩
       replace HCUR := Lib.hid (HCUR.out.trans (h3.mono HCUR.out.size))
       clear h3)
    | (go_at_call 30
       (with_reducible refine (HCH.out _ (HL.out.later HCUR.out (Nat.le_refl _))).mono ?_)
       rintro e w4 ⟨s4, rfl, hs4, h4⟩
       have HS4 := Lib.hid hs4
       have hss4 : (s4.toList == s4.toList) = true := by simp
       clear hs4
       replace HCUR := Lib.hid (HCUR.out.trans (h4.mono HCUR.out.size))
       clear h4)
    | (go_at_call 32
       (with_reducible refine (HRC.out _).mono ?_)
       rintro e w6 ⟨s6, rfl, hs6, h6⟩
       have hse6 : s6 = s4 := nb_inj (by rw [hs6, HS4.out])
       subst hse6
       clear hs6
       replace HCUR := Lib.hid (HCUR.out.trans (h6.mono HCUR.out.size))
       clear h6))
  go_ret
  exact ⟨by first | rfl | simp, HCUR.out⟩
set_option maxRecDepth 100000 in
set_option maxHeartbeats 1000000 in
theorem chains_noseed_neg (seed x : ByteArray) (c : Nat) (hc : c ≤ 999) (hs : ¬ seed.size = 32) (f t : Int) (h1 : f < 0) (w : World) (hL : Laid w) :
    Calls Tryd.prog 4 #[.string seed, .int .i64 ((c : Int)), .int .i64 (f), .int .i64 (t), .string x] w fun e w' => e = .returned (.bool true) ∧ Below w.heap.size w w' := by
  have HL := Lib.hid hL
  have HSE := Lib.hid (fun w hL => secret_bad' seed ((c : Int)) (by omega) w hL)
  have HCH := Lib.hid (fun w hL => chain_bad' ((c : Int)) (f) (t) x (by omega) w hL)
  have hc9 : (c : Int) ≤ 999 := by omega
  have hsn : (((seed.size : Nat) : Int) != 32) = true := by rw [bne_iff_ne]; omega
  clear hL hs
  go_enter Tryd.func4, Tryd.ntmps4
  have HCUR : Hid (Below w.heap.size w w) := Lib.hid (Below.refl _ _)
  go_wp2_with (first
    | (go_at_call 18
       (with_reducible refine (awake12 _ HL.out).mono ?_)
       rintro e w2 ⟨rfl, h2⟩
       replace HCUR := Lib.hid (HCUR.out.trans (h2.mono HCUR.out.size))
       clear h2)
    | (go_at_call 29
       (with_reducible refine (HSE.out _ (HL.out.later HCUR.out (Nat.le_refl _))).mono ?_)
       rintro e w3 ⟨rfl, h3⟩
       replace HCUR := Lib.hid (HCUR.out.trans (h3.mono HCUR.out.size))
       clear h3)
    | (go_at_call 30
       (with_reducible refine (HCH.out _ (HL.out.later HCUR.out (Nat.le_refl _))).mono ?_)
       rintro e w4 ⟨rfl, h4⟩
       replace HCUR := Lib.hid (HCUR.out.trans (h4.mono HCUR.out.size))
       clear h4))
  go_ret
  exact ⟨by first | rfl | simp, HCUR.out⟩
set_option maxRecDepth 100000 in
set_option maxHeartbeats 1000000 in
theorem chains_noseed_back (seed x : ByteArray) (c : Nat) (hc : c ≤ 999) (hs : ¬ seed.size = 32) (f t : Int) (h1 : ¬ f < 0) (h2 : t < f) (w : World) (hL : Laid w) :
    Calls Tryd.prog 4 #[.string seed, .int .i64 ((c : Int)), .int .i64 (f), .int .i64 (t), .string x] w fun e w' => e = .returned (.bool true) ∧ Below w.heap.size w w' := by
  have HL := Lib.hid hL
  have HSE := Lib.hid (fun w hL => secret_bad' seed ((c : Int)) (by omega) w hL)
  have HCH := Lib.hid (fun w hL => chain_bad' ((c : Int)) (f) (t) x (by omega) w hL)
  have hc9 : (c : Int) ≤ 999 := by omega
  have hsn : (((seed.size : Nat) : Int) != 32) = true := by rw [bne_iff_ne]; omega
  clear hL hs
  go_enter Tryd.func4, Tryd.ntmps4
  have HCUR : Hid (Below w.heap.size w w) := Lib.hid (Below.refl _ _)
  go_wp2_with (first
    | (go_at_call 18
       (with_reducible refine (awake12 _ HL.out).mono ?_)
       rintro e w2 ⟨rfl, h2⟩
       replace HCUR := Lib.hid (HCUR.out.trans (h2.mono HCUR.out.size))
       clear h2)
    | (go_at_call 29
       (with_reducible refine (HSE.out _ (HL.out.later HCUR.out (Nat.le_refl _))).mono ?_)
       rintro e w3 ⟨rfl, h3⟩
       replace HCUR := Lib.hid (HCUR.out.trans (h3.mono HCUR.out.size))
       clear h3)
    | (go_at_call 30
       (with_reducible refine (HCH.out _ (HL.out.later HCUR.out (Nat.le_refl _))).mono ?_)
       rintro e w4 ⟨rfl, h4⟩
       replace HCUR := Lib.hid (HCUR.out.trans (h4.mono HCUR.out.size))
       clear h4))
  go_ret
  exact ⟨by first | rfl | simp, HCUR.out⟩
set_option maxRecDepth 100000 in
set_option maxHeartbeats 1000000 in
theorem chains_noseed_far (seed x : ByteArray) (c : Nat) (hc : c ≤ 999) (hs : ¬ seed.size = 32) (f t : Int) (h1 : ¬ f < 0) (h2 : ¬ t < f) (h3 : 255 < t) (w : World) (hL : Laid w) :
    Calls Tryd.prog 4 #[.string seed, .int .i64 ((c : Int)), .int .i64 (f), .int .i64 (t), .string x] w fun e w' => e = .returned (.bool true) ∧ Below w.heap.size w w' := by
  have HL := Lib.hid hL
  have HSE := Lib.hid (fun w hL => secret_bad' seed ((c : Int)) (by omega) w hL)
  have HCH := Lib.hid (fun w hL => chain_bad' ((c : Int)) (f) (t) x (by omega) w hL)
  have hc9 : (c : Int) ≤ 999 := by omega
  have hsn : (((seed.size : Nat) : Int) != 32) = true := by rw [bne_iff_ne]; omega
  clear hL hs
  go_enter Tryd.func4, Tryd.ntmps4
  have HCUR : Hid (Below w.heap.size w w) := Lib.hid (Below.refl _ _)
  go_wp2_with (first
    | (go_at_call 18
       (with_reducible refine (awake12 _ HL.out).mono ?_)
       rintro e w2 ⟨rfl, h2⟩
       replace HCUR := Lib.hid (HCUR.out.trans (h2.mono HCUR.out.size))
       clear h2)
    | (go_at_call 29
       (with_reducible refine (HSE.out _ (HL.out.later HCUR.out (Nat.le_refl _))).mono ?_)
       rintro e w3 ⟨rfl, h3⟩
       replace HCUR := Lib.hid (HCUR.out.trans (h3.mono HCUR.out.size))
       clear h3)
    | (go_at_call 30
       (with_reducible refine (HCH.out _ (HL.out.later HCUR.out (Nat.le_refl _))).mono ?_)
       rintro e w4 ⟨rfl, h4⟩
       replace HCUR := Lib.hid (HCUR.out.trans (h4.mono HCUR.out.size))
       clear h4))
  go_ret
  exact ⟨by first | rfl | simp, HCUR.out⟩
set_option maxRecDepth 100000 in
set_option maxHeartbeats 1000000 in
theorem chains_noseed_len (seed x : ByteArray) (c : Nat) (hc : c ≤ 999) (hs : ¬ seed.size = 32) (f t : Int) (h1 : ¬ f < 0) (h2 : ¬ t < f) (h3 : ¬ 255 < t) (hx : ¬ x.size = 32) (w : World) (hL : Laid w) :
    Calls Tryd.prog 4 #[.string seed, .int .i64 ((c : Int)), .int .i64 (f), .int .i64 (t), .string x] w fun e w' => e = .returned (.bool true) ∧ Below w.heap.size w w' := by
  have HL := Lib.hid hL
  have HSE := Lib.hid (fun w hL => secret_bad' seed ((c : Int)) (by omega) w hL)
  have HCH := Lib.hid (fun w hL => chain_bad' ((c : Int)) (f) (t) x (by omega) w hL)
  have hc9 : (c : Int) ≤ 999 := by omega
  have hsn : (((seed.size : Nat) : Int) != 32) = true := by rw [bne_iff_ne]; omega
  have hxn : (((x.size : Nat) : Int) != 32) = true := by rw [bne_iff_ne]; omega
  clear hL hs hx
  go_enter Tryd.func4, Tryd.ntmps4
  have HCUR : Hid (Below w.heap.size w w) := Lib.hid (Below.refl _ _)
  go_wp2_with (first
    | (go_at_call 18
       (with_reducible refine (awake12 _ HL.out).mono ?_)
       rintro e w2 ⟨rfl, h2⟩
       replace HCUR := Lib.hid (HCUR.out.trans (h2.mono HCUR.out.size))
       clear h2)
    | (go_at_call 29
       (with_reducible refine (HSE.out _ (HL.out.later HCUR.out (Nat.le_refl _))).mono ?_)
       rintro e w3 ⟨rfl, h3⟩
       replace HCUR := Lib.hid (HCUR.out.trans (h3.mono HCUR.out.size))
       clear h3)
    | (go_at_call 30
       (with_reducible refine (HCH.out _ (HL.out.later HCUR.out (Nat.le_refl _))).mono ?_)
       rintro e w4 ⟨rfl, h4⟩
       replace HCUR := Lib.hid (HCUR.out.trans (h4.mono HCUR.out.size))
       clear h4))
  go_ret
  exact ⟨by first | rfl | simp, HCUR.out⟩
set_option maxRecDepth 100000 in
set_option maxHeartbeats 1000000 in
theorem chains_low_seed (seed x : ByteArray) (c : Int) (hc : ¬ 0 ≤ c) (hs : seed.size = 32) (f t : Int) (w : World) (hL : Laid w) :
    Calls Tryd.prog 4 #[.string seed, .int .i64 (c), .int .i64 (f), .int .i64 (t), .string x] w fun e w' => e = .returned (.bool true) ∧ Below w.heap.size w w' := by
  have HL := Lib.hid hL
  have HSE := Lib.hid (fun w hL => secret_bad' seed (c) (by omega) w hL)
  have HCH := Lib.hid (fun w hL => chain_bad' (c) (f) (t) x (by omega) w hL)
  have hd : decide (0 ≤ c) = false := decide_eq_false hc
  have hsn : (((seed.size : Nat) : Int) != 32) = false := by rw [hs]; rfl
  clear hL hs
  go_enter Tryd.func4, Tryd.ntmps4
  have HCUR : Hid (Below w.heap.size w w) := Lib.hid (Below.refl _ _)
  go_wp2_with (first
    | (go_at_call 18
       (with_reducible refine (awake12 _ HL.out).mono ?_)
       rintro e w2 ⟨rfl, h2⟩
       replace HCUR := Lib.hid (HCUR.out.trans (h2.mono HCUR.out.size))
       clear h2)
    | (go_at_call 29
       (with_reducible refine (HSE.out _ (HL.out.later HCUR.out (Nat.le_refl _))).mono ?_)
       rintro e w3 ⟨rfl, h3⟩
       replace HCUR := Lib.hid (HCUR.out.trans (h3.mono HCUR.out.size))
       clear h3)
    | (go_at_call 30
       (with_reducible refine (HCH.out _ (HL.out.later HCUR.out (Nat.le_refl _))).mono ?_)
       rintro e w4 ⟨rfl, h4⟩
       replace HCUR := Lib.hid (HCUR.out.trans (h4.mono HCUR.out.size))
       clear h4))
  go_ret
  exact ⟨by first | rfl | simp, HCUR.out⟩
set_option maxRecDepth 100000 in
set_option maxHeartbeats 1000000 in
theorem chains_low_noseed (seed x : ByteArray) (c : Int) (hc : ¬ 0 ≤ c) (hs : ¬ seed.size = 32) (f t : Int) (w : World) (hL : Laid w) :
    Calls Tryd.prog 4 #[.string seed, .int .i64 (c), .int .i64 (f), .int .i64 (t), .string x] w fun e w' => e = .returned (.bool true) ∧ Below w.heap.size w w' := by
  have HL := Lib.hid hL
  have HSE := Lib.hid (fun w hL => secret_bad' seed (c) (by omega) w hL)
  have HCH := Lib.hid (fun w hL => chain_bad' (c) (f) (t) x (by omega) w hL)
  have hd : decide (0 ≤ c) = false := decide_eq_false hc
  have hsn : (((seed.size : Nat) : Int) != 32) = true := by rw [bne_iff_ne]; omega
  clear hL hs
  go_enter Tryd.func4, Tryd.ntmps4
  have HCUR : Hid (Below w.heap.size w w) := Lib.hid (Below.refl _ _)
  go_wp2_with (first
    | (go_at_call 18
       (with_reducible refine (awake12 _ HL.out).mono ?_)
       rintro e w2 ⟨rfl, h2⟩
       replace HCUR := Lib.hid (HCUR.out.trans (h2.mono HCUR.out.size))
       clear h2)
    | (go_at_call 29
       (with_reducible refine (HSE.out _ (HL.out.later HCUR.out (Nat.le_refl _))).mono ?_)
       rintro e w3 ⟨rfl, h3⟩
       replace HCUR := Lib.hid (HCUR.out.trans (h3.mono HCUR.out.size))
       clear h3)
    | (go_at_call 30
       (with_reducible refine (HCH.out _ (HL.out.later HCUR.out (Nat.le_refl _))).mono ?_)
       rintro e w4 ⟨rfl, h4⟩
       replace HCUR := Lib.hid (HCUR.out.trans (h4.mono HCUR.out.size))
       clear h4))
  go_ret
  exact ⟨by first | rfl | simp, HCUR.out⟩
set_option maxRecDepth 100000 in
set_option maxHeartbeats 1000000 in
theorem chains_high_seed (seed x : ByteArray) (c : Int) (hc0 : 0 ≤ c) (hc : ¬ c ≤ 999) (hs : seed.size = 32) (f t : Int) (w : World) (hL : Laid w) :
    Calls Tryd.prog 4 #[.string seed, .int .i64 (c), .int .i64 (f), .int .i64 (t), .string x] w fun e w' => e = .returned (.bool true) ∧ Below w.heap.size w w' := by
  have HL := Lib.hid hL
  have HSE := Lib.hid (fun w hL => secret_bad' seed (c) (by omega) w hL)
  have HCH := Lib.hid (fun w hL => chain_bad' (c) (f) (t) x (by omega) w hL)
  have hd0 : decide (0 ≤ c) = true := decide_eq_true hc0
  have hd : decide (c ≤ 999) = false := decide_eq_false hc
  have hsn : (((seed.size : Nat) : Int) != 32) = false := by rw [hs]; rfl
  clear hL hs
  go_enter Tryd.func4, Tryd.ntmps4
  have HCUR : Hid (Below w.heap.size w w) := Lib.hid (Below.refl _ _)
  go_wp2_with (first
    | (go_at_call 18
       (with_reducible refine (awake12 _ HL.out).mono ?_)
       rintro e w2 ⟨rfl, h2⟩
       replace HCUR := Lib.hid (HCUR.out.trans (h2.mono HCUR.out.size))
       clear h2)
    | (go_at_call 29
       (with_reducible refine (HSE.out _ (HL.out.later HCUR.out (Nat.le_refl _))).mono ?_)
       rintro e w3 ⟨rfl, h3⟩
       replace HCUR := Lib.hid (HCUR.out.trans (h3.mono HCUR.out.size))
       clear h3)
    | (go_at_call 30
       (with_reducible refine (HCH.out _ (HL.out.later HCUR.out (Nat.le_refl _))).mono ?_)
       rintro e w4 ⟨rfl, h4⟩
       replace HCUR := Lib.hid (HCUR.out.trans (h4.mono HCUR.out.size))
       clear h4))
  go_ret
  exact ⟨by first | rfl | simp, HCUR.out⟩
set_option maxRecDepth 100000 in
set_option maxHeartbeats 1000000 in
theorem chains_high_noseed (seed x : ByteArray) (c : Int) (hc0 : 0 ≤ c) (hc : ¬ c ≤ 999) (hs : ¬ seed.size = 32) (f t : Int) (w : World) (hL : Laid w) :
    Calls Tryd.prog 4 #[.string seed, .int .i64 (c), .int .i64 (f), .int .i64 (t), .string x] w fun e w' => e = .returned (.bool true) ∧ Below w.heap.size w w' := by
  have HL := Lib.hid hL
  have HSE := Lib.hid (fun w hL => secret_bad' seed (c) (by omega) w hL)
  have HCH := Lib.hid (fun w hL => chain_bad' (c) (f) (t) x (by omega) w hL)
  have hd0 : decide (0 ≤ c) = true := decide_eq_true hc0
  have hd : decide (c ≤ 999) = false := decide_eq_false hc
  have hsn : (((seed.size : Nat) : Int) != 32) = true := by rw [bne_iff_ne]; omega
  clear hL hs
  go_enter Tryd.func4, Tryd.ntmps4
  have HCUR : Hid (Below w.heap.size w w) := Lib.hid (Below.refl _ _)
  go_wp2_with (first
    | (go_at_call 18
       (with_reducible refine (awake12 _ HL.out).mono ?_)
       rintro e w2 ⟨rfl, h2⟩
       replace HCUR := Lib.hid (HCUR.out.trans (h2.mono HCUR.out.size))
       clear h2)
    | (go_at_call 29
       (with_reducible refine (HSE.out _ (HL.out.later HCUR.out (Nat.le_refl _))).mono ?_)
       rintro e w3 ⟨rfl, h3⟩
       replace HCUR := Lib.hid (HCUR.out.trans (h3.mono HCUR.out.size))
       clear h3)
    | (go_at_call 30
       (with_reducible refine (HCH.out _ (HL.out.later HCUR.out (Nat.le_refl _))).mono ?_)
       rintro e w4 ⟨rfl, h4⟩
       replace HCUR := Lib.hid (HCUR.out.trans (h4.mono HCUR.out.size))
       clear h4))
  go_ret
  exact ⟨by first | rfl | simp, HCUR.out⟩
theorem walk_OnetimeChains (seed : ByteArray) (c f t : Int) (x : ByteArray) (w : World) (hL : Laid w) :
    Calls Tryd.prog 4 #[.string seed, .int .i64 c, .int .i64 f, .int .i64 t, .string x] w fun e w' => e = .returned (.bool true) ∧ Below w.heap.size w w' := by
  by_cases hc0 : 0 ≤ c
  · by_cases hc : c ≤ 999
    · obtain ⟨n, rfl⟩ : ∃ n : Nat, c = (n : Int) := ⟨c.toNat, by omega⟩
      have hn : n ≤ 999 := by omega
      by_cases hs : seed.size = 32
      · by_cases h1 : f < 0
        · exact chains_seed_neg seed x n hn hs f t h1 w hL
        · by_cases h2 : t < f
          · exact chains_seed_back seed x n hn hs f t h1 h2 w hL
          · by_cases h3 : 255 < t
            · exact chains_seed_far seed x n hn hs f t h1 h2 h3 w hL
            · by_cases hx : x.size = 32
              · obtain ⟨j, rfl⟩ : ∃ n : Nat, f = (n : Int) := ⟨f.toNat, by omega⟩
                obtain ⟨m, rfl⟩ : ∃ n : Nat, t = (n : Int) := ⟨t.toNat, by omega⟩
                exact chains_seed_ok seed x n hn hs j m (by omega) (by omega) hx w hL
              · exact chains_seed_len seed x n hn hs f t h1 h2 h3 hx w hL
      · by_cases h1 : f < 0
        · exact chains_noseed_neg seed x n hn hs f t h1 w hL
        · by_cases h2 : t < f
          · exact chains_noseed_back seed x n hn hs f t h1 h2 w hL
          · by_cases h3 : 255 < t
            · exact chains_noseed_far seed x n hn hs f t h1 h2 h3 w hL
            · by_cases hx : x.size = 32
              · obtain ⟨j, rfl⟩ : ∃ n : Nat, f = (n : Int) := ⟨f.toNat, by omega⟩
                obtain ⟨m, rfl⟩ : ∃ n : Nat, t = (n : Int) := ⟨t.toNat, by omega⟩
                exact chains_noseed_ok seed x n hn hs j m (by omega) (by omega) hx w hL
              · exact chains_noseed_len seed x n hn hs f t h1 h2 h3 hx w hL
    · by_cases hs : seed.size = 32
      · exact chains_high_seed seed x c hc0 hc hs f t w hL
      · exact chains_high_noseed seed x c hc0 hc hs f t w hL
  · by_cases hs : seed.size = 32
    · exact chains_low_seed seed x c hc0 hs f t w hL
    · exact chains_low_noseed seed x c hc0 hs f t w hL
end Go.Proofs.YtmnendoloankgaaDoor
