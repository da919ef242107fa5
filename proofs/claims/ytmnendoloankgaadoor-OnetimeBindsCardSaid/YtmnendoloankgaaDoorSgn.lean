/- onetime: Sign. -/
import Derived.Test.YtmnendoloankgaaDoorPub
namespace Go.Proofs.YtmnendoloankgaaDoor
set_option linter.unusedVariables false
set_option linter.unusedSimpArgs false
open Go.RowKit
open Kit (Chg)
open Sha (v)
open Go.Proofs.YtmnendoloankgaaDoor.One

theorem own_ints {w : World} {base n : Nat} {v : Value} {zs : List Nat} (h : w.ownsRow base 3 1 v n (natV zs)) :
    ∃ a cap, v = .slice a n cap ∧ zs.length = n ∧ zs.length ≤ cap ∧ IntsAt w a zs ∧ (a = none → cap = 0) := by
  obtain ⟨hn, a, cap, rfl, h1, h2, h3, h4⟩ := ints_of_own h
  exact ⟨a, cap, by rw [hn], hn.symm, h1, h3, h4⟩
theorem mk_strs (L : Nat) (hL : L ≤ 100000) (W : World) : (Instr.makeSlice 47 (.int .i64 (L : Int)) (.int .i64 (L : Int))).run Tryd.prog W = .ok (.slice (some ⟨W.heap.size, 0, none⟩) L L) (W.alloc (.cells (strV (List.replicate L ByteArray.empty)).toArray 9)) := by
  obtain ⟨i0, hi0, hz0, hz1, hz2⟩ := info_parts Tryd.info9
  have h := run_makeSlice (P := Tryd.prog) (w := W) 47 9 i0 _ Tryd.underlying47 hi0 hz0 .i64 .i64 (L : Int) (L : Int) (by omega) (by omega) (by rw [hz1]; omega) (by rw [hz2]; omega) (by omega)
  rw [h, hz1]
  simp only [Int.toNat_natCast, Nat.mul_one]
  have e : madeCells (Value.string ByteArray.empty).cells L = (strV (List.replicate L ByteArray.empty)).toArray := by
    unfold madeCells strV
    simp [Value.cells]
    apply Array.ext
    · simp
    · intro i h1 h2
      simp [Nat.mod_one]
  rw [e]
theorem set_next {vs : List ByteArray} {k L : Nat} (y : ByteArray) (hv : vs.length = k) (hk : k < L) : (vs ++ List.replicate (L - k) ByteArray.empty).set k y = (vs ++ [y]) ++ List.replicate (L - (k + 1)) ByteArray.empty := by
  subst hv
  rw [List.set_append_right _ _ (Nat.le_refl _), Nat.sub_self, show L - vs.length = (L - (vs.length + 1)) + 1 by omega, List.replicate_succ, List.set_cons_zero]
  simp
theorem strV_set (ss : List ByteArray) (k : Nat) (y : ByteArray) : (strV ss).toArray.setIfInBounds k (.string y) = (strV (ss.set k y)).toArray := by
  simp [strV]
set_option maxRecDepth 100000 in
set_option maxHeartbeats 2000000 in
theorem sign_ok (b : Nat) (digest : ByteArray) (hB : Bits b) (hn : 0 < digest.size) (hn2 : digest.size ≤ 32) (seed : ByteArray) (hs : seed.size = 32) (w : World) (hL : Laid w) :
    Calls Tryd.prog 35 #[.agg #[.int .i64 (b : Int), .int .i64 (digest.size : Int)], .string seed, .string digest] w fun e w' => ∃ (g L : Nat) (vs : List ByteArray), e = .returned (.tuple #[.slice (some ⟨g, 0, none⟩) L L, .int .i64 0]) ∧ vs.length = L ∧ L = count b digest.size ∧ vs.map nb = sign (nb seed) (One.digits b (nb digest)) ∧ StrsAt w' (some ⟨g, 0, none⟩) vs ∧ w.heap.size ≤ g ∧ Below w.heap.size w w' := by
  have HS : Hid (decide (seed.size = 32) = true) := Lib.hid (decide_eq_true hs)
  have HSS := Lib.hid hs
  have HDG := Lib.hid (fun w => digits_ok b digest hB hn hn2 w)
  have HDL : Hid ((One.digits b (nb digest)).length = count b digest.size) := Lib.hid (by rw [digits_length hB, nb_length])
  have HD255 : Hid (∀ x ∈ One.digits b (nb digest), x ≤ 255) := Lib.hid (fun x hx => by
    have h1 := digits_lt b _ x hx
    have h2 := last_le hB
    unfold last at h2
    omega)
  have hC := count_le hB hn2
  have HL := Lib.hid hL
  obtain ⟨DG, hDG⟩ := ex_eq (One.digits b (nb digest))
  rw [hDG] at HDG HDL HD255 ⊢
  have HSG : Hid (sign (nb seed) DG = (List.range DG.length).map fun i => chain i 0 (DG.getD i 0) (secret (nb seed) i)) := rfl
  obtain ⟨C, hCe⟩ := ex_eq (count b digest.size)
  rw [hCe] at hC HDL ⊢
  clear hL hs hB hn hn2 hCe hDG
  go_enter Tryd.func35, Tryd.ntmps35
  go_upto_region 1 with fail
  refine wp_over (fun W => Hid (W.heap[w.heap.size]? = some (.cells #[.int .i64 (b : Int), .int .i64 (digest.size : Int)] 25 (0, 0))) ∧ Hid (Below w.heap.size w W)) ⟨heap_alloc_new _ _, (Below.refl _ _).alloc (Nat.le_refl _) _⟩ ?_
  rintro W ⟨HG, HB⟩
  obtain ⟨N, hN⟩ := ex_eq w.heap.size
  rw [hN] at HG HB ⊢
  have HN := Lib.hid hN
  clear hN
  have HWN : Hid (N + 1 ≤ W.heap.size) := Lib.hid (Array.getElem?_eq_some_iff.1 HG.out).1
  have HLD : Hid (∀ V, Below N w V → Laid V) := Lib.hid (fun V h => HL.out.later h (by rw [HN.out]; exact Nat.le_refl _))
  have c0 : W.cell? ⟨N, 0, none⟩ = some (.int .i64 (b : Int)) := (cell_of_row _ _ _ _ _ _ HG.out).trans rfl
  have c1 : W.cell? ⟨N, 1, none⟩ = some (.int .i64 (digest.size : Int)) := (cell_of_row _ _ _ _ _ _ HG.out).trans rfl
  go_upto_region 4 with (first
    | (with_reducible refine (HDG.out _).mono ?_
       rintro e w2 ⟨x, L, rfl, hL, hown, h2⟩
       rw [HDL.out] at hL
       have hL2 := hL.symm
       subst hL2
       obtain ⟨a2, cp2, rfl, hl2, hc2, hI2, hnil2⟩ := own_ints hown
       have HI2 := Lib.hid hI2
       have HL2 := Lib.hid hl2
       have H2 : Hid (Below N w w2) := Lib.hid (HB.out.trans (h2.mono (by have := HWN.out; omega)))
       clear h2 hown hl2 hc2 hI2 hnil2 hL)
    | (with_reducible refine (isSum_any seed _).mono ?_; rintro e w3 ⟨rfl, rfl⟩; rw [HS.out]))
  rename World => w2
  clear c0 c1
  have hmk := mk_strs C (by omega)
  go_upto_region 5 with fail
  refine wp_over (fun W => Hid (W.heap[w2.heap.size]? = some (.cells (strV (List.replicate C ByteArray.empty)).toArray 9 (0, 0))) ∧ Hid (Below w2.heap.size w2 W)) ⟨heap_alloc_new _ _, (Below.refl _ _).alloc (Nat.le_refl _) _⟩ ?_
  rintro V ⟨HGV, HBV⟩
  obtain ⟨G, hGe⟩ := ex_eq w2.heap.size
  rw [hGe] at HGV HBV ⊢
  have HGE := Lib.hid hGe
  have HNG : Hid (N ≤ G) := Lib.hid (by rw [← hGe]; have := HB.out.size; have := H2.out.size; have := HN.out; omega)
  clear hGe hmk
  go_upto_region 6 with fail
  go_loopw [32] (fun y wr => ∃ (k : Nat) (vs : List ByteArray), k ≤ C ∧ y = .int .i64 (k : Int) ∧ vs.length = k ∧ Hid (vs.map nb = (List.range k).map fun i => chain i 0 (DG.getD i 0) (secret (nb seed) i)) ∧ Hid (wr.heap[G]? = some (.cells (strV (vs ++ List.replicate (C - k) ByteArray.empty)).toArray 9 (0, 0))) ∧ Hid (Below G w2 wr)) (fun y _ => C - (intOf y).toNat)
  case atStart => exact ⟨0, [], by omega, rfl, rfl, rfl, HGV.out, HBV.out⟩
  case round =>
    obtain ⟨k, vs, hk, rfl, hvl, HVS, HROW, HBE⟩ := hrel
    have HVL := Lib.hid hvl
    clear hvl
    by_cases hlt : k < C
    · have hki : (k : Int) < (C : Int) := by omega
      have hk9 : k ≤ 999 := by omega
      obtain ⟨b', o', rfl, hcs⟩ : ∃ b o, a2 = some ⟨b, o, none⟩ ∧ ∀ i, i < DG.length → wr.cell? ⟨b, o + i, none⟩ = some (.int .i64 ((DG.getD i 0 : Nat) : Int)) := by
        rcases HI2.out.later (by rw [HGE.out]; exact HBE.out) with h | h
        · have := HL2.out; rw [h] at this; simp at this; omega
        · exact h
      have hck := hcs k (by rw [HL2.out]; exact hlt)
      have hd255 : DG.getD k 0 ≤ 255 := by
        rw [List.getD_eq_getElem?_getD, List.getElem?_eq_getElem (by rw [HL2.out]; exact hlt)]; exact HD255.out _ (List.getElem_mem _)
      obtain ⟨d, hd⟩ := ex_eq (DG.getD k 0)
      rw [hd] at hck hd255
      have HD := Lib.hid hd
      clear hcs hd
      have HWR : Hid (G + 1 ≤ wr.heap.size) := Lib.hid (Array.getElem?_eq_some_iff.1 HROW.out).1
      have HBW : Hid (Below N w wr) := Lib.hid (H2.out.trans (HBE.out.mono HNG.out))
      go_upto_region 9 with (first
        | (with_reducible refine (chainOf_ok seed HSS.out k hk9 _ (HLD.out _ HBW.out)).mono ?_
           rintro e w5 ⟨b1, b2, u, rfl, h51, h52, hu, h5⟩
           have HU := Lib.hid hu
           have H51 := Lib.hid h51
           have H52 := Lib.hid h52
           have H5 := Lib.hid h5
           clear hu h51 h52 h5))
      clear hck
      have HBW5 : Hid (Below N w w5) := Lib.hid (HBW.out.trans (H5.out.mono (by have := HWR.out; have := HNG.out; omega)))
      have HROW5 : Hid (w5.heap[G]? = some (.cells (strV (vs ++ List.replicate (C - k) ByteArray.empty)).toArray 9 (0, 0))) := Lib.hid ((H5.out.block G (by have := HWR.out; omega)).trans HROW.out)
      go_upto_region 10 with (first
        | (go_at_call 108
           (with_reducible refine (at_ok b1 b2 k d hk9 hd255 u (nb_size HU.out (secret_length _ _)) w5 H51.out H52.out (HLD.out _ HBW5.out)).mono ?_)
           rintro e w7 ⟨y, rfl, hy, h7⟩
           have HY := Lib.hid hy
           have hrow7 := (h7.block G (by have := (Array.getElem?_eq_some_iff.1 HROW5.out).1; omega)).trans HROW5.out
           have HROW7 := Lib.hid hrow7
           have HB7 : Hid (Below G w2 w7) := Lib.hid (HBE.out.trans ((H5.out.mono (by have := HWR.out; omega)).trans (h7.mono (by have := (Array.getElem?_eq_some_iff.1 HROW5.out).1; omega))))
           have hfz : w7.frozen? ⟨G, k, none⟩ = false := frozen_of_row _ _ _ _ _ hrow7
           obtain ⟨old, hold⟩ : ∃ old, w7.cell? ⟨G, k, none⟩ = some old := ⟨_, (cell_of_row _ _ _ _ _ _ hrow7).trans (Array.getElem?_eq_getElem (by rw [List.size_toArray, strV_length, List.length_append, HVL.out, List.length_replicate]; omega))⟩
           clear hy h7 hrow7))
      go_wp2_with fail
      go_roundw
      case rel =>
        refine ⟨k + 1, vs ++ [y], hlt, by go_num, by rw [List.length_append, HVL.out]; rfl, ?_, ?_, ?_⟩
        · show _ = _
          rw [List.map_append, HVS.out, range_snoc]
          simp only [List.map_cons, List.map_nil, HY.out, HU.out, HD.out]
        · show _ = _
          rw [heap_setCell_same _ _ _ _ _ _ HROW7.out, strV_set, set_next y HVL.out hlt]
        · exact HB7.out.setCell (p := ⟨G, k, none⟩) (Nat.le_refl _) _
      case measure => simp [intOf]; omega
    · have hke : k = C := by omega
      subst hke
      have HROWE : Hid (wr.heap[G]? = some (.cells (strV vs).toArray 9 (0, 0))) := Lib.hid (by have h := HROW.out; rw [Nat.sub_self, List.replicate_zero, List.append_nil] at h; exact h)
      go_wp2_with fail
      go_ret2
      exact ⟨G, k, vs, rfl, HVL.out, rfl, by rw [HVS.out, HSG.out, HL2.out], strs_of_row HROWE.out, by rw [HN.out]; exact HNG.out, by rw [HN.out]; exact H2.out.trans (HBE.out.mono HNG.out)⟩
set_option maxHeartbeats 1000000 in
theorem public_bad (B S : Int) (seed : ByteArray) (hb : ¬ (VP B S ∧ seed.size = 32)) (w : World) :
    Calls Tryd.prog 34 #[.agg #[.int .i64 B, .int .i64 S], .string seed] w fun e w' => e = .returned (.tuple #[.string ByteArray.empty, .int .i64 1]) ∧ Below w.heap.size w w' := by
  by_cases hP : VP B S
  · have HV : Hid (decide (VP B S) = true) := Lib.hid (decide_eq_true hP)
    have HS : Hid (decide (seed.size = 32) = false) := Lib.hid (decide_eq_false (fun e => hb ⟨hP, e⟩))
    clear hb hP
    go_enter Tryd.func34, Tryd.ntmps34
    go_wp2_with (first
      | (with_reducible refine (valid_any B S _).mono ?_
         rintro e w2 ⟨rfl, h2⟩
         rw [HV.out]
         have H2 : Hid (Below w.heap.size w w2) := Lib.hid (((Below.refl _ w).alloc (Nat.le_refl _) _).trans (h2.mono (by simp)))
         clear h2)
      | (with_reducible refine (isSum_any seed _).mono ?_; rintro e w3 ⟨rfl, rfl⟩; rw [HS.out]))
    go_ret2
    exact ⟨rfl, H2.out⟩
  · have HV : Hid (decide (VP B S) = false) := Lib.hid (decide_eq_false hP)
    clear hb hP
    go_enter Tryd.func34, Tryd.ntmps34
    go_wp2_with (first
      | (with_reducible refine (valid_any B S _).mono ?_
         rintro e w2 ⟨rfl, h2⟩
         rw [HV.out]
         have H2 : Hid (Below w.heap.size w w2) := Lib.hid (((Below.refl _ w).alloc (Nat.le_refl _) _).trans (h2.mono (by simp)))
         clear h2))
    go_ret2
    exact ⟨rfl, H2.out⟩
set_option maxHeartbeats 1000000 in
theorem sign_bad (B S : Int) (seed digest : ByteArray) (hb : ¬ (VP B S ∧ (digest.size : Int) = S ∧ seed.size = 32)) (w : World) :
    Calls Tryd.prog 35 #[.agg #[.int .i64 B, .int .i64 S], .string seed, .string digest] w fun e w' => e = .returned (.tuple #[.slice none 0 0, .int .i64 1]) ∧ Below w.heap.size w w' := by
  by_cases hP : VP B S ∧ (digest.size : Int) = S
  · obtain ⟨hV, rfl⟩ := hP
    obtain ⟨b, hbn⟩ : ∃ b : Nat, B = (b : Int) := ⟨B.toNat, by have := hV.1; omega⟩
    subst hbn
    have hB : Bits b := by
      have := hV.1
      unfold Bits
      omega
    have HS : Hid (decide (seed.size = 32) = false) := Lib.hid (decide_eq_false (fun e => hb ⟨hV, rfl, e⟩))
    have HDG := Lib.hid (fun w => digits_ok b digest hB (by have := hV.2.1; omega) (by have := hV.2.2; omega) w)
    clear hb hV hB
    go_enter Tryd.func35, Tryd.ntmps35
    go_wp2_with (first
      | (with_reducible refine (HDG.out _).mono ?_
         rintro e w2 ⟨x, L, rfl, hL, hown, h2⟩
         have H2 : Hid (Below w.heap.size w w2) := Lib.hid (((Below.refl _ w).alloc (Nat.le_refl _) _).trans (h2.mono (by simp)))
         clear h2 hL hown)
      | (with_reducible refine (isSum_any seed _).mono ?_; rintro e w3 ⟨rfl, rfl⟩; rw [HS.out]))
    go_ret2
    exact ⟨rfl, H2.out⟩
  · have HDG := Lib.hid (fun w => digits_bad B S digest hP w)
    clear hb hP
    go_enter Tryd.func35, Tryd.ntmps35
    go_wp2_with (first
      | (with_reducible refine (HDG.out _).mono ?_
         rintro e w2 ⟨rfl, h2⟩
         have H2 : Hid (Below w.heap.size w w2) := Lib.hid (((Below.refl _ w).alloc (Nat.le_refl _) _).trans (h2.mono (by simp)))
         clear h2))
    go_ret2
    exact ⟨rfl, H2.out⟩
end Go.Proofs.YtmnendoloankgaaDoor
