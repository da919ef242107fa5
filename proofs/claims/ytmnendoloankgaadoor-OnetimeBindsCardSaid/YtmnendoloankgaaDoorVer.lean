/- onetime: Verify, Covers. -/
import Derived.Test.YtmnendoloankgaaDoorRec
namespace Go.Proofs.YtmnendoloankgaaDoor
set_option linter.unusedVariables false
set_option linter.unusedSimpArgs false
open Go.RowKit
open Kit (Chg)
open Sha (v)
open Go.Proofs.YtmnendoloankgaaDoor.One

/-- The parts are accepted. -/
def Acc (B S : Int) (pk dg : List Nat) (ps : List (List Nat)) : Prop := VP B S ∧ (dg.length : Int) = S ∧ ps.length = count B.toNat dg.length ∧ (∀ s ∈ ps, s.length = 32) ∧ recover B.toNat (One.digits B.toNat dg) ps = pk
instance (B S : Int) (pk dg : List Nat) (ps : List (List Nat)) : Decidable (Acc B S pk dg ps) := by unfold Acc; infer_instance
theorem bits_of {B S : Int} (h : VP B S) : ∃ b : Nat, B = (b : Int) ∧ Bits b := by
  refine ⟨B.toNat, by have := h.1; omega, ?_⟩
  have := h.1
  unfold Bits
  omega
theorem recover_ok (b : Nat) (digest : ByteArray) (hB : Bits b) (hn : 0 < digest.size) (hn2 : digest.size ≤ 32) (a : Option Addr) (cap L : Nat) (ss : List ByteArray) (hLe : ss.length = L) (hLC : L = count b digest.size) (h32 : ∀ s ∈ ss, s.size = 32) (w : World) (hS : StrsAt w a ss) (hL : Laid w) :
    Calls Tryd.prog 39 #[.agg #[.int .i64 (b : Int), .int .i64 (digest.size : Int)], .string digest, .slice a L cap] w fun e w' => ∃ u : ByteArray, e = .returned (.tuple #[.string u, .int .i64 0]) ∧ nb u = recover b (One.digits b (nb digest)) (ss.map nb) ∧ Below w.heap.size w w' := by
  refine (recover_run b digest hB hn hn2 a cap L ss hLe hLC w hS hL).mono ?_
  rintro e w' (⟨_, h⟩ | ⟨⟨s, hs, hne⟩, _⟩)
  · exact h
  · exact absurd (h32 s hs) hne
theorem recover_part (b : Nat) (digest : ByteArray) (hB : Bits b) (hn : 0 < digest.size) (hn2 : digest.size ≤ 32) (a : Option Addr) (cap L : Nat) (ss : List ByteArray) (hLe : ss.length = L) (hLC : L = count b digest.size) (h32 : ¬ ∀ s ∈ ss, s.size = 32) (w : World) (hS : StrsAt w a ss) (hL : Laid w) :
    Calls Tryd.prog 39 #[.agg #[.int .i64 (b : Int), .int .i64 (digest.size : Int)], .string digest, .slice a L cap] w fun e w' => e = .returned (.tuple #[.string ByteArray.empty, .int .i64 1]) ∧ Below w.heap.size w w' := by
  refine (recover_run b digest hB hn hn2 a cap L ss hLe hLC w hS hL).mono ?_
  rintro e w' (⟨h, _⟩ | ⟨_, h⟩)
  · exact absurd h h32
  · exact h
theorem verify_any (B S : Int) (pk digest : ByteArray) (a : Option Addr) (cap L : Nat) (ss : List ByteArray) (hLe : ss.length = L) (hL9 : L < 9223372036854775808) (w : World) (hS : StrsAt w a ss) (hL : Laid w) :
    Calls Tryd.prog 40 #[.agg #[.int .i64 B, .int .i64 S], .string pk, .string digest, .slice a L cap] w fun e w' => e = .returned (.bool (decide (Acc B S (nb pk) (nb digest) (ss.map nb)))) ∧ Below w.heap.size w w' := by
  by_cases hG : VP B S ∧ (digest.size : Int) = S ∧ L = count B.toNat digest.size
  · obtain ⟨hV, rfl, hC⟩ := hG
    obtain ⟨b, rfl, hB⟩ := bits_of hV
    rw [Int.toNat_natCast] at hC
    have HS := Lib.hid hS
    have HL := Lib.hid hL
    have HEQ := Lib.hid (fun s => eq_str s pk)
    by_cases h32 : ∀ s ∈ ss, s.size = 32
    · have HR := Lib.hid (fun w hS hL => recover_ok b digest hB (by have := hV.2.1; omega) (by have := hV.2.2; omega) a cap L ss hLe hC h32 w hS hL)
      have HD : Hid (decide (Acc (b : Int) (digest.size : Int) (nb pk) (nb digest) (ss.map nb)) = decide (recover b (One.digits b (nb digest)) (ss.map nb) = nb pk)) := Lib.hid (by
        rw [decide_eq_decide]
        refine ⟨fun h2 => by have := h2.2.2.2.2; rwa [Int.toNat_natCast] at this, fun h2 => ⟨hV, by rw [nb_length], by rw [List.length_map, hLe, hC, Int.toNat_natCast, nb_length], fun s hs => ?_, by rw [Int.toNat_natCast]; exact h2⟩⟩
        obtain ⟨t, ht, rfl⟩ := List.mem_map.1 hs
        rw [nb_length]; exact h32 t ht)
      clear hV hB hC hS hL h32
      go_enter Tryd.func40, Tryd.ntmps40
      go_upto_region 1 with fail
      have HBA : Hid (Below w.heap.size w (w.alloc (.cells #[.int .i64 (b : Int), .int .i64 (digest.size : Int)] 25))) := Lib.hid ((Below.refl _ _).alloc (Nat.le_refl _) _)
      go_upto_region 2 with (first
        | (with_reducible refine (HR.out _ (HS.out.later HBA.out) (HL.out.later HBA.out (Nat.le_refl _))).mono ?_
           rintro e w2 ⟨u, rfl, hu, h2⟩
           have HU := Lib.hid hu
           have H2 : Hid (Below w.heap.size w w2) := Lib.hid (HBA.out.trans (h2.mono HBA.out.size))
           clear h2 hu))
      have he := HEQ.out u
      rw [HU.out] at he
      have HE := Lib.hid he
      clear he
      go_wp2_with fail
      go_ret
      refine ⟨?_, H2.out⟩
      rw [HD.out, ← HE.out]
      rfl
    · have HR := Lib.hid (fun w hS hL => recover_part b digest hB (by have := hV.2.1; omega) (by have := hV.2.2; omega) a cap L ss hLe hC h32 w hS hL)
      have HD : Hid (decide (Acc (b : Int) (digest.size : Int) (nb pk) (nb digest) (ss.map nb)) = false) := Lib.hid (decide_eq_false (fun h2 => h32 (fun s hs => by
        rw [← nb_length]
        exact h2.2.2.2.1 _ (List.mem_map.2 ⟨s, hs, rfl⟩))))
      clear hV hB hC hS hL h32
      go_enter Tryd.func40, Tryd.ntmps40
      go_upto_region 1 with fail
      have HBA : Hid (Below w.heap.size w (w.alloc (.cells #[.int .i64 (b : Int), .int .i64 (digest.size : Int)] 25))) := Lib.hid ((Below.refl _ _).alloc (Nat.le_refl _) _)
      go_wp2_with (first
        | (with_reducible refine (HR.out _ (HS.out.later HBA.out) (HL.out.later HBA.out (Nat.le_refl _))).mono ?_
           rintro e w2 ⟨rfl, h2⟩
           have H2 : Hid (Below w.heap.size w w2) := Lib.hid (HBA.out.trans (h2.mono HBA.out.size))
           clear h2))
      go_ret
      exact ⟨by rw [HD.out]; rfl, H2.out⟩
  · have HR := Lib.hid (fun w => recover_bad B S digest a cap L hL9 hG w)
    have HD : Hid (decide (Acc B S (nb pk) (nb digest) (ss.map nb)) = false) := Lib.hid (decide_eq_false (fun h => hG ⟨h.1, by have := h.2.1; rwa [nb_length] at this, by have := h.2.2.1; rwa [List.length_map, hLe, nb_length] at this⟩))
    clear hG
    go_enter Tryd.func40, Tryd.ntmps40
    go_wp2_with (first
      | (with_reducible refine (HR.out _).mono ?_
         rintro e w2 ⟨rfl, h2⟩
         have H2 : Hid (Below w.heap.size w w2) := Lib.hid (((Below.refl _ w).alloc (Nat.le_refl _) _).trans (h2.mono (by simp)))
         clear h2))
    go_ret
    exact ⟨by rw [HD.out]; rfl, H2.out⟩
/-- No digit of y is less than that of x. -/
def Cov (x y : List Nat) : Prop := ∀ i, i < x.length → x.getD i 0 ≤ y.getD i 0
instance (x y : List Nat) : Decidable (Cov x y) := by unfold Cov; infer_instance
set_option maxRecDepth 100000 in
set_option maxHeartbeats 2000000 in
theorem covers_ok (b : Nat) (p q : ByteArray) (hB : Bits b) (hn : 0 < p.size) (hn2 : p.size ≤ 32) (hq : q.size = p.size) (w : World) :
    Calls Tryd.prog 21 #[.agg #[.int .i64 (b : Int), .int .i64 (p.size : Int)], .string p, .string q] w fun e w' => e = .returned (.tuple #[.bool (decide (Cov (One.digits b (nb p)) (One.digits b (nb q)))), .int .i64 0]) ∧ Below w.heap.size w w' := by
  have HD1 := Lib.hid (fun w => digits_ok b p hB hn hn2 w)
  have hd2 := fun w => digits_ok b q hB (by omega) (by omega) w
  rw [hq] at hd2
  have HD2 := Lib.hid hd2
  have HL1 : Hid ((One.digits b (nb p)).length = count b p.size) := Lib.hid (by rw [digits_length hB, nb_length])
  have HL2 : Hid ((One.digits b (nb q)).length = count b p.size) := Lib.hid (by rw [digits_length hB, nb_length, hq])
  have hC := count_le hB hn2
  obtain ⟨X, hX⟩ := ex_eq (One.digits b (nb p))
  obtain ⟨Y, hY⟩ := ex_eq (One.digits b (nb q))
  obtain ⟨C, hCe⟩ := ex_eq (count b p.size)
  rw [hX, hCe] at HL1
  rw [hY, hCe] at HL2
  rw [hX] at HD1 ⊢
  rw [hY] at HD2 ⊢
  rw [hCe] at hC
  clear hd2 hX hY hCe hB hq hn hn2
  go_enter Tryd.func21, Tryd.ntmps21
  go_upto_region 1 with fail
  refine wp_over (fun W => Hid (W.heap[w.heap.size]? = some (.cells #[.int .i64 (b : Int), .int .i64 (p.size : Int)] 25 (0, 0))) ∧ Hid (Below w.heap.size w W)) ⟨heap_alloc_new _ _, (Below.refl _ _).alloc (Nat.le_refl _) _⟩ ?_
  rintro W ⟨HG, HB⟩
  have c0 : W.cell? ⟨w.heap.size, 0, none⟩ = some (.int .i64 (b : Int)) := (cell_of_row _ _ _ _ _ _ HG.out).trans rfl
  have c1 : W.cell? ⟨w.heap.size, 1, none⟩ = some (.int .i64 (p.size : Int)) := (cell_of_row _ _ _ _ _ _ HG.out).trans rfl
  go_upto_region 4 with (first
    | (with_reducible refine (HD1.out _).mono ?_
       rintro e w2 ⟨x, L2, rfl, hL, hown, h2⟩
       rw [HL1.out] at hL
       have hL3 := hL.symm
       subst hL3
       obtain ⟨a2, cp2, rfl, hl2, hc2, hI2, hnil2⟩ := own_ints hown
       have HI2 := Lib.hid hI2
       have H2 : Hid (Below w.heap.size w w2) := Lib.hid (HB.out.trans (h2.mono HB.out.size))
       have HG2 := Lib.hid ((h2.block w.heap.size (Array.getElem?_eq_some_iff.1 HG.out).1).trans HG.out)
       clear h2 hown hl2 hc2 hI2 hnil2 hL))
  clear c0 c1
  have c0 : w2.cell? ⟨w.heap.size, 0, none⟩ = some (.int .i64 (b : Int)) := (cell_of_row _ _ _ _ _ _ HG2.out).trans rfl
  have c1 : w2.cell? ⟨w.heap.size, 1, none⟩ = some (.int .i64 (p.size : Int)) := (cell_of_row _ _ _ _ _ _ HG2.out).trans rfl
  go_upto_region 7 with (first
    | (with_reducible refine (HD2.out _).mono ?_
       rintro e w3 ⟨y, L3, rfl, hL, hown, h3⟩
       rw [HL2.out] at hL
       have hL4 := hL.symm
       subst hL4
       obtain ⟨a3, cp3, rfl, hl3, hc3, hI3, hnil3⟩ := own_ints hown
       have HI3 := Lib.hid hI3
       have HI2' := Lib.hid (HI2.out.later h3)
       have H3 : Hid (Below w.heap.size w w3) := Lib.hid (H2.out.trans (h3.mono H2.out.size))
       clear h3 hown hl3 hc3 hI3 hnil3 hL))
  clear c0 c1
  go_wp2_with fail
  go_loopw [33] (fun z wr => ∃ k : Nat, k ≤ C ∧ z = .int .i64 (k : Int) ∧ wr = w3 ∧ Hid (∀ i, i < k → X.getD i 0 ≤ Y.getD i 0)) (fun z _ => C - (intOf z).toNat)
  case atStart => exact ⟨0, by omega, rfl, rfl, fun i h => by omega⟩
  case round =>
    obtain ⟨k, hk, rfl, rfl, HLE⟩ := hrel
    by_cases hlt : k < C
    · have hki : (k : Int) < (C : Int) := by omega
      obtain ⟨b2, o2, rfl, hc2⟩ : ∃ b o, a2 = some ⟨b, o, none⟩ ∧ ∀ i, i < X.length → wr.cell? ⟨b, o + i, none⟩ = some (.int .i64 ((X.getD i 0 : Nat) : Int)) := by
        rcases HI2'.out with h | h
        · have := HL1.out; rw [h] at this; simp at this; omega
        · exact h
      obtain ⟨b3, o3, rfl, hc3⟩ : ∃ b o, a3 = some ⟨b, o, none⟩ ∧ ∀ i, i < Y.length → wr.cell? ⟨b, o + i, none⟩ = some (.int .i64 ((Y.getD i 0 : Nat) : Int)) := by
        rcases HI3.out with h | h
        · have := HL2.out; rw [h] at this; simp at this; omega
        · exact h
      have hx := hc2 k (by rw [HL1.out]; exact hlt)
      have hy := hc3 k (by rw [HL2.out]; exact hlt)
      obtain ⟨d, hd⟩ := ex_eq (X.getD k 0)
      obtain ⟨f, hf⟩ := ex_eq (Y.getD k 0)
      rw [hd] at hx
      rw [hf] at hy
      have HDF := Lib.hid (And.intro hd hf)
      clear hc2 hc3 hd hf
      by_cases hle : d ≤ f
      · have hlei : ¬ (f : Int) < (d : Int) := by omega
        go_wp2_with fail
        go_roundw
        case rel =>
          refine ⟨k + 1, hlt, by go_num, trivial, fun i hi => ?_⟩
          by_cases e : i = k
          · rw [e, HDF.out.1, HDF.out.2]; exact hle
          · exact HLE.out i (by omega)
        case measure => simp [intOf]; omega
      · have hlei : (f : Int) < (d : Int) := by omega
        have HF : Hid (decide (Cov X Y) = false) := Lib.hid (decide_eq_false (fun h => by have := h k (by rw [HL1.out]; exact hlt); rw [HDF.out.1, HDF.out.2] at this; exact hle this))
        go_wp2_with fail
        go_ret2
        exact ⟨by rw [HF.out]; rfl, H3.out⟩
    · have hki : ¬ (k : Int) < (C : Int) := by omega
      have HF : Hid (decide (Cov X Y) = true) := Lib.hid (decide_eq_true (fun i hi => HLE.out i (by rw [HL1.out] at hi; omega)))
      go_wp2_with fail
      go_ret2
      exact ⟨by rw [HF.out]; rfl, H3.out⟩
theorem covers_bad (B S : Int) (p q : ByteArray) (hb : ¬ (VP B S ∧ (p.size : Int) = S ∧ (q.size : Int) = S)) (w : World) :
    Calls Tryd.prog 21 #[.agg #[.int .i64 B, .int .i64 S], .string p, .string q] w fun e w' => e = .returned (.tuple #[.bool false, .int .i64 1]) ∧ Below w.heap.size w w' := by
  by_cases hP : VP B S ∧ (p.size : Int) = S
  · obtain ⟨hV, rfl⟩ := hP
    obtain ⟨b, rfl, hB⟩ := bits_of hV
    have HD1 := Lib.hid (fun w => digits_ok b p hB (by have := hV.2.1; omega) (by have := hV.2.2; omega) w)
    have HD2 := Lib.hid (fun w => digits_bad (b : Int) (p.size : Int) q (fun h => hb ⟨hV, rfl, h.2⟩) w)
    clear hb hV hB
    go_enter Tryd.func21, Tryd.ntmps21
    go_upto_region 1 with fail
    refine wp_over (fun W => Hid (W.heap[w.heap.size]? = some (.cells #[.int .i64 (b : Int), .int .i64 (p.size : Int)] 25 (0, 0))) ∧ Hid (Below w.heap.size w W)) ⟨heap_alloc_new _ _, (Below.refl _ _).alloc (Nat.le_refl _) _⟩ ?_
    rintro W ⟨HG, HB⟩
    have c0 : W.cell? ⟨w.heap.size, 0, none⟩ = some (.int .i64 (b : Int)) := (cell_of_row _ _ _ _ _ _ HG.out).trans rfl
    have c1 : W.cell? ⟨w.heap.size, 1, none⟩ = some (.int .i64 (p.size : Int)) := (cell_of_row _ _ _ _ _ _ HG.out).trans rfl
    go_upto_region 4 with (first
      | (with_reducible refine (HD1.out _).mono ?_
         rintro e w2 ⟨x, L2, rfl, hL, hown, h2⟩
         have H2 : Hid (Below w.heap.size w w2) := Lib.hid (HB.out.trans (h2.mono HB.out.size))
         have HG2 := Lib.hid ((h2.block w.heap.size (Array.getElem?_eq_some_iff.1 HG.out).1).trans HG.out)
         clear h2 hown hL))
    clear c0 c1
    have c0 : w2.cell? ⟨w.heap.size, 0, none⟩ = some (.int .i64 (b : Int)) := (cell_of_row _ _ _ _ _ _ HG2.out).trans rfl
    have c1 : w2.cell? ⟨w.heap.size, 1, none⟩ = some (.int .i64 (p.size : Int)) := (cell_of_row _ _ _ _ _ _ HG2.out).trans rfl
    go_wp2_with (first
      | (with_reducible refine (HD2.out _).mono ?_
         rintro e w3 ⟨rfl, h3⟩
         have H3 : Hid (Below w.heap.size w w3) := Lib.hid (H2.out.trans (h3.mono H2.out.size))
         clear h3))
    go_ret2
    exact ⟨rfl, H3.out⟩
  · have HD1 := Lib.hid (fun w => digits_bad B S p hP w)
    clear hb hP
    go_enter Tryd.func21, Tryd.ntmps21
    go_wp2_with (first
      | (with_reducible refine (HD1.out _).mono ?_
         rintro e w2 ⟨rfl, h2⟩
         have H2 : Hid (Below w.heap.size w w2) := Lib.hid (((Below.refl _ w).alloc (Nat.le_refl _) _).trans (h2.mono (by simp)))
         clear h2))
    go_ret2
    exact ⟨rfl, H2.out⟩
end Go.Proofs.YtmnendoloankgaaDoor
