/- The laws Covered, Composes, Verifies, walked. -/
import Derived.Test.YtmnendoloankgaaDoorAwa
namespace Go.Proofs.YtmnendoloankgaaDoor
set_option linter.unusedVariables false
set_option linter.unusedSimpArgs false
open Go.RowKit
open Kit (Chg)
open Sha (v)
open Go.Proofs.YtmnendoloankgaaDoor.One

theorem cov_eq {b : Nat} (hB : Bits b) (p q : ByteArray) (hn : 0 < p.size) (hq : q.size = p.size) : decide (Cov (One.digits b (nb p)) (One.digits b (nb q))) = (p.toList == q.toList) := by
  rw [eq_str, decide_eq_decide]
  constructor
  · intro h
    refine covered hB (nb p) (nb q) (by rw [nb_length, nb_length, hq]) (by rw [nb_length]; exact hn) (nb_lt p) (nb_lt q) (fun i => ?_)
    by_cases hi : i < (One.digits b (nb p)).length
    · exact h i hi
    · rw [List.getD_eq_getElem?_getD, List.getElem?_eq_none (by omega)]; exact Nat.zero_le _
  · intro h
    rw [h]
    exact fun i _ => Nat.le_refl _
set_option maxHeartbeats 1000000 in
theorem walk_OnetimeCovered (B S : Int) (p q : ByteArray) (w : World) (hL : Laid w) :
    Calls Tryd.prog 8 #[.agg #[.int .i64 B, .int .i64 S], .string p, .string q] w fun e w' => e = .returned (.bool true) ∧ Below w.heap.size w w' := by
  have HL := Lib.hid hL
  by_cases hg : VP B S ∧ (p.size : Int) = S ∧ (q.size : Int) = S
  · obtain ⟨hV, rfl, hq⟩ := hg
    obtain ⟨b, rfl, hB⟩ := bits_of hV
    have HC := Lib.hid (fun w => covers_ok b p q hB (by have := hV.2.1; omega) (by have := hV.2.2; omega) (by omega) w)
    rw [cov_eq hB p q (by have := hV.2.1; omega) (by omega)] at HC
    clear hV hq hB hL
    go_enter Tryd.func8, Tryd.ntmps8
    go_upto_region 1 with fail
    refine wp_over (fun W => Hid (W.heap[w.heap.size]? = some (.cells #[.int .i64 (b : Int), .int .i64 (p.size : Int)] 23 (0, 0))) ∧ Hid (Below w.heap.size w W)) ⟨heap_alloc_new _ _, (Below.refl _ _).alloc (Nat.le_refl _) _⟩ ?_
    rintro W ⟨HG, HB⟩
    have HWN : Hid (w.heap.size + 1 ≤ W.heap.size) := Lib.hid (Array.getElem?_eq_some_iff.1 HG.out).1
    have HCE : Hid (∀ V, Below (w.heap.size + 1) W V → V.cell? ⟨w.heap.size, 0, none⟩ = some (.int .i64 (b : Int)) ∧ V.cell? ⟨w.heap.size, 1, none⟩ = some (.int .i64 (p.size : Int))) := Lib.hid (fun V h => by
      have hg := (h.block w.heap.size (Nat.lt_succ_self _)).trans HG.out
      exact ⟨(cell_of_row _ _ _ _ _ _ hg).trans rfl, (cell_of_row _ _ _ _ _ _ hg).trans rfl⟩)
    go_upto_region 3 with (first
      | (with_reducible refine (awake12 _ (HL.out.later HB.out (Nat.le_refl _))).mono ?_
         rintro e w2 ⟨rfl, h2⟩
         have H2 := Lib.hid (h2.mono HWN.out)
         clear h2))
    obtain ⟨c0, c1⟩ := HCE.out w2 H2.out
    go_upto_region 4 with (first
      | (with_reducible refine (params_any (b : Int) (p.size : Int) _).mono ?_
         rintro e w3 ⟨rfl, h3⟩
         have H3 := Lib.hid (H2.out.trans (h3.mono (by have := H2.out.size; have := HWN.out; omega)))
         clear h3)
      | (with_reducible refine (HC.out _).mono ?_
         rintro e w4 ⟨rfl, h4⟩
         have H4 := Lib.hid (H3.out.trans (h4.mono (by have := H3.out.size; have := HWN.out; omega)))
         clear h4))
    clear c0 c1
    obtain ⟨t, ht⟩ := ex_eq (p.toList == q.toList)
    rw [ht]
    have HT := Lib.hid ht
    clear ht
    go_wp2_with fail
    go_ret
    refine ⟨?_, HB.out.trans (H4.out.mono (Nat.le_succ _))⟩
    rw [← HT.out]
    simp
  · have HC := Lib.hid (fun w => covers_bad B S p q hg w)
    clear hg hL
    go_enter Tryd.func8, Tryd.ntmps8
    go_upto_region 1 with fail
    refine wp_over (fun W => Hid (W.heap[w.heap.size]? = some (.cells #[.int .i64 B, .int .i64 S] 23 (0, 0))) ∧ Hid (Below w.heap.size w W)) ⟨heap_alloc_new _ _, (Below.refl _ _).alloc (Nat.le_refl _) _⟩ ?_
    rintro W ⟨HG, HB⟩
    have HWN : Hid (w.heap.size + 1 ≤ W.heap.size) := Lib.hid (Array.getElem?_eq_some_iff.1 HG.out).1
    have HCE : Hid (∀ V, Below (w.heap.size + 1) W V → V.cell? ⟨w.heap.size, 0, none⟩ = some (.int .i64 B) ∧ V.cell? ⟨w.heap.size, 1, none⟩ = some (.int .i64 S)) := Lib.hid (fun V h => by
      have hg := (h.block w.heap.size (Nat.lt_succ_self _)).trans HG.out
      exact ⟨(cell_of_row _ _ _ _ _ _ hg).trans rfl, (cell_of_row _ _ _ _ _ _ hg).trans rfl⟩)
    go_upto_region 3 with (first
      | (with_reducible refine (awake12 _ (HL.out.later HB.out (Nat.le_refl _))).mono ?_
         rintro e w2 ⟨rfl, h2⟩
         have H2 := Lib.hid (h2.mono HWN.out)
         clear h2))
    obtain ⟨c0, c1⟩ := HCE.out w2 H2.out
    go_wp2_with (first
      | (with_reducible refine (params_any B S _).mono ?_
         rintro e w3 ⟨rfl, h3⟩
         have H3 := Lib.hid (H2.out.trans (h3.mono (by have := H2.out.size; have := HWN.out; omega)))
         clear h3)
      | (with_reducible refine (HC.out _).mono ?_
         rintro e w4 ⟨rfl, h4⟩
         have H4 := Lib.hid (H3.out.trans (h4.mono (by have := H3.out.size; have := HWN.out; omega)))
         clear h4))
    go_ret
    exact ⟨rfl, HB.out.trans (H4.out.mono (Nat.le_succ _))⟩
/-- Chain returns, whatever it is asked. -/
theorem chain_some (i j m : Int) (x : ByteArray) (w : World) (hL : Laid w) :
    Calls Tryd.prog 30 #[.int .i64 i, .int .i64 j, .int .i64 m, .string x] w fun e w' => ∃ (u : ByteArray) (c : Int), e = .returned (.tuple #[.string u, .int .i64 c]) ∧ Below w.heap.size w w' := by
  by_cases h1 : 0 ≤ i ∧ i ≤ 999 ∧ 0 ≤ j ∧ j ≤ m ∧ m ≤ 255 ∧ x.size = 32
  · obtain ⟨hi0, hi9, hj0, hjk, hk2, hx⟩ := h1
    obtain ⟨ni, rfl⟩ : ∃ n : Nat, i = (n : Int) := ⟨i.toNat, by omega⟩
    obtain ⟨nj, rfl⟩ : ∃ n : Nat, j = (n : Int) := ⟨j.toNat, by omega⟩
    obtain ⟨nm, rfl⟩ : ∃ n : Nat, m = (n : Int) := ⟨m.toNat, by omega⟩
    refine (chain_ok ni nj nm (by omega) (by omega) (by omega) x hx w hL).mono ?_
    rintro e w' ⟨u, rfl, _, h⟩
    exact ⟨u, 0, rfl, h⟩
  · refine (chain_bad i j m x h1 w).mono ?_
    rintro e w' ⟨rfl, rfl⟩
    exact ⟨_, 1, rfl, Below.refl _ _⟩
set_option maxHeartbeats 1000000 in
theorem walk_OnetimeComposes (i j k m : Int) (x : ByteArray) (w : World) (hL : Laid w) :
    Calls Tryd.prog 9 #[.int .i64 i, .int .i64 j, .int .i64 k, .int .i64 m, .string x] w fun e w' => e = .returned (.bool true) ∧ Below w.heap.size w w' := by
  have HL := Lib.hid hL
  by_cases h1 : 0 ≤ i ∧ i ≤ 999 ∧ 0 ≤ j ∧ j ≤ k ∧ k ≤ 255 ∧ x.size = 32
  · obtain ⟨hi0, hi9, hj0, hjk, hk2, hx⟩ := h1
    obtain ⟨ni, rfl⟩ : ∃ n : Nat, i = (n : Int) := ⟨i.toNat, by omega⟩
    obtain ⟨nj, rfl⟩ : ∃ n : Nat, j = (n : Int) := ⟨j.toNat, by omega⟩
    obtain ⟨nk, rfl⟩ : ∃ n : Nat, k = (n : Int) := ⟨k.toNat, by omega⟩
    have H1 := Lib.hid (fun w hL => chain_ok ni nj nk (by omega) (by omega) (by omega) x hx w hL)
    by_cases h2 : (nk : Int) ≤ m ∧ m ≤ 255
    · obtain ⟨hkm, hm2⟩ := h2
      obtain ⟨nm, rfl⟩ : ∃ n : Nat, m = (n : Int) := ⟨m.toNat, by omega⟩
      have H2 := Lib.hid (fun y hy w hL => chain_ok ni nk nm (by omega) (by omega) (by omega) y hy w hL)
      have H3 := Lib.hid (fun w hL => chain_ok ni nj nm (by omega) (by omega) (by omega) x hx w hL)
      have HCA : Hid (chain ni nj (nm - nj) (nb x) = chain ni nk (nm - nk) (chain ni nj (nk - nj) (nb x))) := Lib.hid (by
        rw [show nm - nj = (nk - nj) + (nm - nk) by omega, chain_add, show nj + (nk - nj) = nk by omega])
      have HX32 : Hid ((chain ni nj (nk - nj) (nb x)).length = 32) := Lib.hid (chain_length _ _ _ _ (by rw [nb_length]; exact hx))
      have HJM : Hid (nj = nm → chain ni nj (nm - nj) (nb x) = nb x) := Lib.hid (fun h => by subst h; rw [Nat.sub_self]; rfl)
      clear hL hi0 hi9 hj0 hjk hk2 hx hkm hm2
      go_enter Tryd.func9, Tryd.ntmps9
      go_upto_region 6 with (first
        | (with_reducible refine (awake12 _ HL.out).mono ?_
           rintro e w2 ⟨rfl, h2⟩
           have HB2 := Lib.hid h2
           have HL2 := Lib.hid (HL.out.later h2 (Nat.le_refl _))
           clear h2)
        | (with_reducible refine (H1.out _ HL2.out).mono ?_
           rintro e w3 ⟨y, rfl, hy, h3⟩
           have HY := Lib.hid hy
           have HB3 := Lib.hid (HB2.out.trans (h3.mono HB2.out.size))
           have HL3 := Lib.hid (HL2.out.later h3 (Nat.le_refl _))
           clear h3 hy)
        | (with_reducible refine (H2.out y (nb_size HY.out HX32.out) _ HL3.out).mono ?_
           rintro e w4 ⟨z, rfl, hz, h4⟩
           have HZ := Lib.hid hz
           have HB4 := Lib.hid (HB3.out.trans (h4.mono HB3.out.size))
           have HL4 := Lib.hid (HL3.out.later h4 (Nat.le_refl _))
           clear h4 hz)
        | (with_reducible refine (H3.out _ HL4.out).mono ?_
           rintro e w5 ⟨u, rfl, hu, h5⟩
           have HU := Lib.hid hu
           have HB5 := Lib.hid (HB4.out.trans (h5.mono HB4.out.size))
           clear h5 hu))
      have huz : u = z := nb_inj (by rw [HU.out, HZ.out, HY.out, HCA.out])
      subst huz
      by_cases hjm : nj = nm
      · have hux : u = x := nb_inj (by rw [HU.out]; exact HJM.out hjm)
        subst hux
        subst hjm
        go_wp2_with fail
        go_ret
        refine ⟨?_, HB5.out⟩
        simp
      · have hne : ((nj : Int) != (nm : Int)) = true := by rw [bne_iff_ne]; omega
        go_wp2_with fail
        go_ret
        refine ⟨?_, HB5.out⟩
        simp
    · have H2 := Lib.hid (fun y w => chain_bad (ni : Int) (nk : Int) m y (fun h => h2 ⟨h.2.2.2.1, h.2.2.2.2.1⟩) w)
      clear hL hi0 hi9 hj0 hjk hk2 hx h2
      go_enter Tryd.func9, Tryd.ntmps9
      go_wp2_with (first
        | (with_reducible refine (awake12 _ HL.out).mono ?_
           rintro e w2 ⟨rfl, h2⟩
           have HB2 := Lib.hid h2
           have HL2 := Lib.hid (HL.out.later h2 (Nat.le_refl _))
           clear h2)
        | (with_reducible refine (H1.out _ HL2.out).mono ?_
           rintro e w3 ⟨y, rfl, hy, h3⟩
           have HB3 := Lib.hid (HB2.out.trans (h3.mono HB2.out.size))
           have HL3 := Lib.hid (HL2.out.later h3 (Nat.le_refl _))
           clear h3 hy)
        | (with_reducible refine (H2.out y w3).mono ?_
           rintro e w4 ⟨rfl, rfl⟩)
        | (with_reducible refine (chain_some (ni : Int) (nj : Int) m x _ HL3.out).mono ?_
           rintro e w5 ⟨u, c, rfl, h5⟩
           have HB5 := Lib.hid (HB3.out.trans (h5.mono HB3.out.size))
           clear h5))
      go_ret
      exact ⟨rfl, HB5.out⟩
  · have H1 := Lib.hid (fun w => chain_bad i j k x h1 w)
    clear hL h1
    go_enter Tryd.func9, Tryd.ntmps9
    go_upto_region 4 with (first
      | (with_reducible refine (awake12 _ HL.out).mono ?_
         rintro e w2 ⟨rfl, h2⟩
         have HB2 := Lib.hid h2
         have HL2 := Lib.hid (HL.out.later h2 (Nat.le_refl _))
         clear h2)
      | (with_reducible refine (H1.out w2).mono ?_
         rintro e w3 ⟨rfl, rfl⟩))
    go_upto_region 5 with (first
      | (with_reducible refine (chain_some i k m ByteArray.empty _ HL2.out).mono ?_
         rintro e w4 ⟨u4, c4, rfl, h4⟩
         have HB4 := Lib.hid (HB2.out.trans (h4.mono HB2.out.size))
         have HL4 := Lib.hid (HL2.out.later h4 (Nat.le_refl _))
         clear h4))
    go_upto_region 6 with (first
      | (with_reducible refine (chain_some i j m x _ HL4.out).mono ?_
         rintro e w5 ⟨u, c, rfl, h5⟩
         have HB5 := Lib.hid (HB4.out.trans (h5.mono HB4.out.size))
         clear h5))
    go_wp2_with fail
    go_ret
    exact ⟨rfl, HB5.out⟩
end Go.Proofs.YtmnendoloankgaaDoor
