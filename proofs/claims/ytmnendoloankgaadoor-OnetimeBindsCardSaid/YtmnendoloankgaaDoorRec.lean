/- onetime: Recover. -/
import Derived.Test.YtmnendoloankgaaDoorSgn
namespace Go.Proofs.YtmnendoloankgaaDoor
set_option linter.unusedVariables false
set_option linter.unusedSimpArgs false
open Go.RowKit
open Kit (Chg)
open Sha (v)
open Go.Proofs.YtmnendoloankgaaDoor.One

theorem getD_mem {α : Type} (l : List α) (i : Nat) (d : α) (h : i < l.length) : l.getD i d ∈ l := by
  rw [List.getD_eq_getElem?_getD, List.getElem?_eq_getElem h]; exact List.getElem_mem h
theorem getD_map (ss : List ByteArray) (i : Nat) (h : i < ss.length) : (ss.map nb).getD i [] = nb (ss.getD i ByteArray.empty) := by
  simp [List.getD_eq_getElem?_getD, h]
set_option maxRecDepth 100000 in
set_option maxHeartbeats 4000000 in
theorem recover_run (b : Nat) (digest : ByteArray) (hB : Bits b) (hn : 0 < digest.size) (hn2 : digest.size ≤ 32) (a : Option Addr) (cap L : Nat) (ss : List ByteArray) (hLe : ss.length = L) (hLC : L = count b digest.size) (w : World) (hS : StrsAt w a ss) (hL : Laid w) :
    Calls Tryd.prog 39 #[.agg #[.int .i64 (b : Int), .int .i64 (digest.size : Int)], .string digest, .slice a L cap] w fun e w' =>
      ((∀ s ∈ ss, s.size = 32) ∧ ∃ u : ByteArray, e = .returned (.tuple #[.string u, .int .i64 0]) ∧ nb u = recover b (One.digits b (nb digest)) (ss.map nb) ∧ Below w.heap.size w w') ∨
      ((∃ s ∈ ss, s.size ≠ 32) ∧ e = .returned (.tuple #[.string ByteArray.empty, .int .i64 1]) ∧ Below w.heap.size w w') := by
  have HDG := Lib.hid (fun w => digits_ok b digest hB hn hn2 w)
  have HDL : Hid ((One.digits b (nb digest)).length = L) := Lib.hid (by rw [digits_length hB, nb_length]; exact hLC.symm)
  have HDLA : Hid (∀ x ∈ One.digits b (nb digest), x ≤ last b) := Lib.hid (fun x hx => by
    have h1 := digits_lt b _ x hx
    unfold last
    omega)
  have hC : L ≤ 269 := by rw [hLC]; exact count_le hB hn2
  have hC0 : 0 < L := by rw [hLC]; exact count_pos hB
  have hM := last_le hB
  have HLA := Lib.hid (fun w => last_any (b : Int) (digest.size : Int) b rfl hB w)
  have HL := Lib.hid hL
  have HSL := Lib.hid hLe
  have HST := Lib.hid hS
  obtain ⟨DG, hDG⟩ := ex_eq (One.digits b (nb digest))
  rw [hDG] at HDG HDL HDLA ⊢
  have HRE : Hid (recover b DG (ss.map nb) = pubOf ((List.range DG.length).map fun i => chain i (DG.getD i 0) (last b - DG.getD i 0) ((ss.map nb).getD i []))) := rfl
  obtain ⟨M, hMe⟩ := ex_eq (last b)
  rw [hMe] at hM HLA HDLA HRE
  clear hL hB hn hn2 hDG hMe hS hLe hLC
  go_enter Tryd.func39, Tryd.ntmps39
  go_upto_region 1 with fail
  refine wp_over (fun W => Hid (W.heap[w.heap.size]? = some (.cells #[.int .i64 (b : Int), .int .i64 (digest.size : Int)] 25 (0, 0))) ∧ Hid (Below w.heap.size w W)) ⟨heap_alloc_new _ _, (Below.refl _ _).alloc (Nat.le_refl _) _⟩ ?_
  rintro W ⟨HG, HB⟩
  obtain ⟨N, hN⟩ := ex_eq w.heap.size
  rw [hN] at HG HB ⊢
  have HN := Lib.hid hN
  clear hN
  have HWN : Hid (N + 1 ≤ W.heap.size) := Lib.hid (Array.getElem?_eq_some_iff.1 HG.out).1
  have HLD : Hid (∀ V, Below N w V → Laid V) := Lib.hid (fun V h => HL.out.later h (by rw [HN.out]; exact Nat.le_refl _))
  have c0 : W.cell? ⟨N, 0, none⟩ = some (.int .i64 (b : Int)) := (cell_of_row _ _ _ _ _ _ HG.out).trans rfl
  have c1 : W.cell? ⟨N, 1, none⟩ = some (.int .i64 (digest.size : Int)) := (cell_of_row _ _ _ _ _ _ HG.out).trans rfl
  go_upto_region 4 with (first
    | (with_reducible refine (HDG.out _).mono ?_
       rintro e w2 ⟨x, L2, rfl, hL, hown, h2⟩
       rw [HDL.out] at hL
       have hL3 := hL.symm
       subst hL3
       obtain ⟨a2, cp2, rfl, hl2, hc2, hI2, hnil2⟩ := own_ints hown
       have HI2 := Lib.hid hI2
       have H2 : Hid (Below N w w2) := Lib.hid (HB.out.trans (h2.mono (by have := HWN.out; omega)))
       have HG2 : Hid (w2.heap[N]? = some (.cells #[.int .i64 (b : Int), .int .i64 (digest.size : Int)] 25 (0, 0))) := Lib.hid ((h2.block N (by have := HWN.out; omega)).trans HG.out)
       clear h2 hown hl2 hc2 hI2 hnil2))
  have hmk := mk_strs L (by omega)
  clear c0 c1
  go_upto_region 5 with fail
  refine wp_over (fun W => Hid (W.heap[w2.heap.size]? = some (.cells (strV (List.replicate L ByteArray.empty)).toArray 9 (0, 0))) ∧ Hid (Below w2.heap.size w2 W)) ⟨heap_alloc_new _ _, (Below.refl _ _).alloc (Nat.le_refl _) _⟩ ?_
  rintro V ⟨HGV, HBV⟩
  obtain ⟨G, hGe⟩ := ex_eq w2.heap.size
  rw [hGe] at HGV HBV ⊢
  have HGE := Lib.hid hGe
  have HNG : Hid (N + 1 ≤ G) := Lib.hid (by rw [← hGe]; have := (Array.getElem?_eq_some_iff.1 HG2.out).1; omega)
  clear hGe hmk
  obtain ⟨b', o', rfl, hcs⟩ : ∃ b o, a2 = some ⟨b, o, none⟩ ∧ ∀ i, i < DG.length → w2.cell? ⟨b, o + i, none⟩ = some (.int .i64 ((DG.getD i 0 : Nat) : Int)) := by
    rcases HI2.out with h | h
    · have := HDL.out; rw [h] at this; simp at this; omega
    · exact h
  obtain ⟨pb, po, rfl, hps⟩ : ∃ b o, a = some ⟨b, o, none⟩ ∧ ∀ i, i < ss.length → w.cell? ⟨b, o + i, none⟩ = some (.string (ss.getD i ByteArray.empty)) := by
    rcases HST.out with h | h
    · have := HSL.out; rw [h] at this; simp at this; omega
    · exact h
  have HSA : Hid (∀ X, Below G w2 X → X.cell? ⟨N, 0, none⟩ = some (.int .i64 (b : Int)) ∧ X.cell? ⟨N, 1, none⟩ = some (.int .i64 (digest.size : Int)) ∧ ∀ k, k < L → X.cell? ⟨b', o' + k, none⟩ = some (.int .i64 ((DG.getD k 0 : Nat) : Int))) := Lib.hid (fun X h => by
    have hg := (h.block N (by have := HNG.out; omega)).trans HG2.out
    refine ⟨(cell_of_row _ _ _ _ _ _ hg).trans rfl, (cell_of_row _ _ _ _ _ _ hg).trans rfl, fun k hk => ?_⟩
    have hc := hcs k (by rw [HDL.out]; exact hk)
    exact (h.cell (p := ⟨b', o' + k, none⟩) (by have := World.block_lt_of_cell? w2 _ hc; rw [HGE.out] at this; exact this)).trans hc)
  have HPS : Hid (∀ X, Below N w X → ∀ k, k < L → X.cell? ⟨pb, po + k, none⟩ = some (.string (ss.getD k ByteArray.empty))) := Lib.hid (fun X h k hk => by
    have hc := hps k (by rw [HSL.out]; exact hk)
    exact (h.cell (p := ⟨pb, po + k, none⟩) (by have := World.block_lt_of_cell? w _ hc; rw [HN.out] at this; exact this)).trans hc)
  clear hcs hps
  go_upto_region 6 with fail
  go_loopw [33] (fun y wr => ∃ (k : Nat) (vs : List ByteArray), k ≤ L ∧ y = .int .i64 (k : Int) ∧ vs.length = k ∧ Hid (∀ i, i < k → (ss.getD i ByteArray.empty).size = 32) ∧ Hid (vs.map nb = (List.range k).map fun i => chain i (DG.getD i 0) (M - DG.getD i 0) ((ss.map nb).getD i [])) ∧ Hid (wr.heap[G]? = some (.cells (strV (vs ++ List.replicate (L - k) ByteArray.empty)).toArray 9 (0, 0))) ∧ Hid (Below G w2 wr)) (fun y _ => L - (intOf y).toNat)
  case atStart => exact ⟨0, [], by omega, rfl, rfl, fun i h => by omega, rfl, HGV.out, HBV.out⟩
  case round =>
    obtain ⟨k, vs, hk, rfl, hvl, H32, HVS, HROW, HBE⟩ := hrel
    have HVL := Lib.hid hvl
    clear hvl
    have HBW : Hid (Below N w wr) := Lib.hid (H2.out.trans (HBE.out.mono (by have := HNG.out; omega)))
    by_cases hlt : k < L
    · have hki : (k : Int) < (L : Int) := by omega
      have hk9 : k ≤ 999 := by omega
      have hps := HPS.out wr HBW.out k hlt
      have HGM := Lib.hid (getD_map ss k (by rw [HSL.out]; exact hlt))
      have HSM : Hid (ss.getD k ByteArray.empty ∈ ss) := Lib.hid (getD_mem ss k _ (by rw [HSL.out]; exact hlt))
      obtain ⟨s, hse⟩ := ex_eq (ss.getD k ByteArray.empty)
      rw [hse] at hps HGM HSM
      have HSE := Lib.hid hse
      clear hse
      have hdM : DG.getD k 0 ≤ M := HDLA.out _ (getD_mem _ _ _ (by rw [HDL.out]; exact hlt))
      have HWR : Hid (G + 1 ≤ wr.heap.size) := Lib.hid (Array.getElem?_eq_some_iff.1 HROW.out).1
      go_upto_region 8 with fail
      obtain ⟨c0, c1, c2⟩ := HSA.out wr HBE.out
      have c2 := c2 k hlt
      obtain ⟨d, hd⟩ := ex_eq (DG.getD k 0)
      rw [hd] at c2 hdM
      have HD := Lib.hid hd
      have HSB : Hid (∀ X, Below G w2 X → X.cell? ⟨N, 0, none⟩ = some (.int .i64 (b : Int)) ∧ X.cell? ⟨N, 1, none⟩ = some (.int .i64 (digest.size : Int)) ∧ X.cell? ⟨b', o' + k, none⟩ = some (.int .i64 (d : Int))) := Lib.hid (fun X h => by
        obtain ⟨h0, h1, h2⟩ := HSA.out X h
        have h3 := h2 k hlt
        rw [hd] at h3
        exact ⟨h0, h1, h3⟩)
      clear hd hps
      refine Kit.wp_region_plan (fun X => X.cell? ⟨N, 0, none⟩ = some (.int .i64 (b : Int)) ∧ X.cell? ⟨N, 1, none⟩ = some (.int .i64 (digest.size : Int)) ∧ X.cell? ⟨b', o' + k, none⟩ = some (.int .i64 (d : Int)))
        [(true, 0), (true, 1), (true, 2), (true, 3), (true, 4), (true, 5), (true, 6), (true, 7), (true, 9), (false, 8), (false, 10), (true, 11), (true, 12), (true, 13), (true, 14), (false, 15), (false, 16)] (by kernel_rfl) (by kernel_rfl) (by kernel_rfl) (by kernel_rfl) ⟨c0, c1, c2⟩ ?_
      repeat (refine Kit.plan_head (by rfl) (.inl ⟨by rfl, fun w' hS => by (dsimp only at hS); go_simp; (try with_reducible rfl)⟩) ?_; simp only [Act.put, List.setIfInBounds_toArray, List.set_cons_zero, List.set_cons_succ])
      clear c0 c1 c2
      refine Kit.plan_op (by rfl) rfl fun K hK => ?_
      go_simp
      go_at_call 68
      refine (HLA.out _).mono ?_
      rintro e w5 ⟨rfl, h5⟩
      have HBE5 : Hid (Below G w2 w5) := Lib.hid (HBE.out.trans ((Below.refl _ wr).drew.trans (h5.mono (by have := HWR.out; show G ≤ wr.heap.size; omega))))
      have HROW5 : Hid (w5.heap[G]? = some (.cells (strV (vs ++ List.replicate (L - k) ByteArray.empty)).toArray 9 (0, 0))) := Lib.hid ((h5.block G (by have := HWR.out; show G < wr.heap.size; omega)).trans HROW.out)
      have HBW5 : Hid (Below N w w5) := Lib.hid (H2.out.trans (HBE5.out.mono (by have := HNG.out; omega)))
      clear h5
      refine hK _ _ (HSB.out _ HBE5.out) ?_
      clear hK K
      by_cases h32 : s.size = 32
      · refine Kit.plan_op (by rfl) rfl fun K hK => ?_
        go_simp
        go_at_call 30
        refine (chain_ok k d M hk9 hdM hM s h32 _ (HLD.out _ HBW5.out)).mono ?_
        rintro e w6 ⟨y, rfl, hy, h6⟩
        have HY := Lib.hid hy
        have HBE6 : Hid (Below G w2 w6) := Lib.hid (HBE5.out.trans (h6.mono (by have := (Array.getElem?_eq_some_iff.1 HROW5.out).1; omega)))
        have hrow6 := (h6.block G (by have := (Array.getElem?_eq_some_iff.1 HROW5.out).1; omega)).trans HROW5.out
        have HROW6 := Lib.hid hrow6
        have hfz : w6.frozen? ⟨G, k, none⟩ = false := frozen_of_row _ _ _ _ _ hrow6
        obtain ⟨old, hold⟩ : ∃ old, w6.cell? ⟨G, k, none⟩ = some old := ⟨_, (cell_of_row _ _ _ _ _ _ hrow6).trans (Array.getElem?_eq_getElem (by rw [List.size_toArray, strV_length, List.length_append, HVL.out, List.length_replicate]; omega))⟩
        clear hy h6 hrow6
        refine hK _ _ (HSB.out _ HBE6.out) ?_
        clear hK K
        repeat (refine Kit.plan_head (by rfl) (.inl ⟨by rfl, fun w' hS => by (dsimp only at hS); go_simp; (try with_reducible rfl)⟩) ?_; simp only [Act.put, List.setIfInBounds_toArray, List.set_cons_zero, List.set_cons_succ])
        have HBE7 : Hid (Below G w2 (w6.setCell ⟨G, k, none⟩ (.string y))) := Lib.hid (HBE6.out.setCell (p := ⟨G, k, none⟩) (Nat.le_refl _) _)
        refine Kit.plan_op (by rfl) rfl fun K hK => ?_
        go_simp
        refine hK _ _ (HSB.out _ HBE7.out) ?_
        clear hK K
        refine Kit.plan_op (by rfl) rfl fun K hK => ?_
        go_simp
        refine hK _ _ (HSB.out _ HBE7.out) (Kit.plan_done ?_)
        clear hK K
        (try simp only [Act.put, List.setIfInBounds_toArray, List.set_cons_zero, List.set_cons_succ])
        go_wp2_with fail
        go_roundw
        case rel =>
          refine ⟨k + 1, vs ++ [y], hlt, by go_num, by rw [List.length_append, HVL.out]; rfl, ?_, ?_, ?_, HBE7.out⟩
          · intro i hi
            by_cases e : i = k
            · rw [e, HSE.out]; exact h32
            · exact H32.out i (by omega)
          · show _ = _
            rw [List.map_append, HVS.out, range_snoc]
            simp only [List.map_cons, List.map_nil, HY.out, HD.out, HGM.out]
          · show _ = _
            rw [heap_setCell_same _ _ _ _ _ _ HROW6.out, strV_set, set_next y HVL.out hlt]
        case measure => simp [intOf]; omega
      · refine Kit.plan_op (by rfl) rfl fun K hK => ?_
        go_simp
        go_at_call 30
        refine (chain_bad (k : Int) (d : Int) (M : Int) s (fun h => h32 h.2.2.2.2.2) w5).mono ?_
        rintro e w6 ⟨rfl, rfl⟩
        have hrow6 := HROW5.out
        have hfz : w5.frozen? ⟨G, k, none⟩ = false := frozen_of_row _ _ _ _ _ hrow6
        obtain ⟨old, hold⟩ : ∃ old, w5.cell? ⟨G, k, none⟩ = some old := ⟨_, (cell_of_row _ _ _ _ _ _ hrow6).trans (Array.getElem?_eq_getElem (by rw [List.size_toArray, strV_length, List.length_append, HVL.out, List.length_replicate]; omega))⟩
        clear hrow6
        refine hK _ _ (HSB.out _ HBE5.out) ?_
        clear hK K
        repeat (refine Kit.plan_head (by rfl) (.inl ⟨by rfl, fun w' hS => by (dsimp only at hS); go_simp; (try with_reducible rfl)⟩) ?_; simp only [Act.put, List.setIfInBounds_toArray, List.set_cons_zero, List.set_cons_succ])
        have HBE7 : Hid (Below G w2 (w5.setCell ⟨G, k, none⟩ (.string ByteArray.empty))) := Lib.hid (HBE5.out.setCell (p := ⟨G, k, none⟩) (Nat.le_refl _) _)
        refine Kit.plan_op (by rfl) rfl fun K hK => ?_
        go_simp
        refine hK _ _ (HSB.out _ HBE7.out) ?_
        clear hK K
        refine Kit.plan_op (by rfl) rfl fun K hK => ?_
        go_simp
        refine hK _ _ (HSB.out _ HBE7.out) (Kit.plan_done ?_)
        clear hK K
        (try simp only [Act.put, List.setIfInBounds_toArray, List.set_cons_zero, List.set_cons_succ])
        go_wp2_with fail
        go_ret2
        exact .inr ⟨⟨s, HSM.out, h32⟩, rfl, by rw [HN.out]; exact H2.out.trans (HBE7.out.mono (by have := HNG.out; omega))⟩
    · have hke : k = L := by omega
      subst hke
      have HROWE : Hid (wr.heap[G]? = some (.cells (strV vs).toArray 9 (0, 0))) := Lib.hid (by have h := HROW.out; rw [Nat.sub_self, List.replicate_zero, List.append_nil] at h; exact h)
      have H32E : Hid (∀ s ∈ ss, s.size = 32) := Lib.hid (fun s hs => by
        obtain ⟨i, hi, rfl⟩ := List.getElem_of_mem hs
        have h := H32.out i (by rw [← HSL.out]; exact hi)
        rwa [List.getD_eq_getElem?_getD, List.getElem?_eq_getElem hi] at h)
      have HV32 : Hid (∀ s ∈ vs, s.size = 32) := Lib.hid (fun s hs => by
        have h1 : nb s ∈ vs.map nb := List.mem_map.2 ⟨s, hs, rfl⟩
        rw [HVS.out] at h1
        obtain ⟨i, hi, he⟩ := List.mem_map.1 h1
        have hi2 := List.mem_range.1 hi
        rw [← nb_length, ← he]
        refine chain_length _ _ _ _ ?_
        rw [getD_map ss i (by rw [HSL.out]; exact hi2), nb_length]
        exact H32.out i hi2)
      go_wp2_with (first
        | (with_reducible refine (publicKey_any (some ⟨G, 0, none⟩) k vs k HVL.out (by rw [HVL.out]; exact hC0) (by rw [HVL.out]; omega) (by rw [HVL.out]; exact Nat.le_refl _) HV32.out _ (strs_of_row HROWE.out) (HLD.out _ HBW.out)).mono ?_
           rintro e w6 ⟨u, rfl, hu, h6⟩
           have HU := Lib.hid hu
           have H6 : Hid (Below N w w6) := Lib.hid (HBW.out.trans (h6.mono (by have := (Array.getElem?_eq_some_iff.1 HROWE.out).1; have := HNG.out; omega)))
           clear hu h6))
      go_ret2
      exact .inl ⟨H32E.out, u, rfl, by rw [HU.out, HVS.out, HRE.out, HDL.out], by rw [HN.out]; exact H6.out⟩
/-- Recover where the digest is none of these parameters', or the parts are not as many as the digits. -/
theorem recover_bad (B S : Int) (digest : ByteArray) (a : Option Addr) (cap L : Nat) (hL : L < 9223372036854775808) (hb : ¬ (VP B S ∧ (digest.size : Int) = S ∧ L = count B.toNat digest.size)) (w : World) :
    Calls Tryd.prog 39 #[.agg #[.int .i64 B, .int .i64 S], .string digest, .slice a L cap] w fun e w' => e = .returned (.tuple #[.string ByteArray.empty, .int .i64 1]) ∧ Below w.heap.size w w' := by
  by_cases hP : VP B S ∧ (digest.size : Int) = S
  · obtain ⟨hV, rfl⟩ := hP
    obtain ⟨b, hbn⟩ : ∃ b : Nat, B = (b : Int) := ⟨B.toNat, by have := hV.1; omega⟩
    subst hbn
    have hB : Bits b := by
      have := hV.1
      unfold Bits
      omega
    have HDG := Lib.hid (fun w => digits_ok b digest hB (by have := hV.2.1; omega) (by have := hV.2.2; omega) w)
    have hne : L ≠ count b digest.size := fun e => hb ⟨hV, rfl, e⟩
    have HDL : Hid ((One.digits b (nb digest)).length = count b digest.size) := Lib.hid (by rw [digits_length hB, nb_length])
    obtain ⟨C, hC⟩ := ex_eq (count b digest.size)
    rw [hC] at hne HDL
    have hni : ((L : Int) != (C : Int)) = true := by rw [bne_iff_ne]; omega
    clear hb hV hB hC
    go_enter Tryd.func39, Tryd.ntmps39
    go_wp2_with (first
      | (with_reducible refine (HDG.out _).mono ?_
         rintro e w2 ⟨x, L2, rfl, hL2, hown, h2⟩
         rw [HDL.out] at hL2
         have hL3 := hL2.symm
         subst hL3
         obtain ⟨a2, cp2, rfl, hl2, hc2, hI2, hnil2⟩ := own_ints hown
         have H2 : Hid (Below w.heap.size w w2) := Lib.hid (((Below.refl _ w).alloc (Nat.le_refl _) _).trans (h2.mono (by simp)))
         clear h2 hown hl2 hc2 hI2 hnil2))
    go_ret2
    exact ⟨rfl, H2.out⟩
  · have HDG := Lib.hid (fun w => digits_bad B S digest hP w)
    clear hb hP
    go_enter Tryd.func39, Tryd.ntmps39
    go_wp2_with (first
      | (with_reducible refine (HDG.out _).mono ?_
         rintro e w2 ⟨rfl, h2⟩
         have H2 : Hid (Below w.heap.size w w2) := Lib.hid (((Below.refl _ w).alloc (Nat.le_refl _) _).trans (h2.mono (by simp)))
         clear h2))
    go_ret2
    exact ⟨rfl, H2.out⟩
end Go.Proofs.YtmnendoloankgaaDoor
