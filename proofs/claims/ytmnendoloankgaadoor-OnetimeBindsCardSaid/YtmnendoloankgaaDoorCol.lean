/- The helper collision: where two different strings of a list have one sum, it says so. -/
import Derived.Test.YtmnendoloankgaaDoorEqu
namespace Go.Proofs.YtmnendoloankgaaDoor
set_option linter.unusedVariables false
set_option linter.unusedSimpArgs false
open Go.RowKit
open Kit (Chg)
open Sha (v)
open Go.Proofs.YtmnendoloankgaaDoor.One

theorem getD_snoc_lt (us : List ByteArray) (u : ByteArray) (j : Nat) (h : j < us.length) : (us ++ [u]).getD j ByteArray.empty = us.getD j ByteArray.empty := by
  rw [List.getD_eq_getElem?_getD, List.getD_eq_getElem?_getD, List.getElem?_append_left h]
theorem getD_snoc_eq (us : List ByteArray) (u : ByteArray) (j : Nat) (h : us.length = j) : (us ++ [u]).getD j ByteArray.empty = u := by
  subst h
  simp [List.getD_eq_getElem?_getD]
set_option maxRecDepth 100000 in
set_option maxHeartbeats 2000000 in
theorem collision_true (a : Option Addr) (cap L : Nat) (ss : List ByteArray) (hLe : ss.length = L) (hL : L ≤ 1000000) (hsz : ∀ s ∈ ss, s.size ≤ 100000) (hC : Coll (ss.map nb)) (w : World) (hS : StrsAt w a ss) :
    Calls Tryd.prog 44 #[.slice a L cap] w fun e w' => e = .returned (.bool true) ∧ Below w.heap.size w w' := by
  obtain ⟨i0, hi0, k0, hk0, he0, hn0⟩ := coll_idx ss hC
  have HCX : Hid (¬ ∀ i, i < L → ∀ k, k < i → Sha.sum (nb (ss.getD k ByteArray.empty)) = Sha.sum (nb (ss.getD i ByteArray.empty)) → ss.getD k ByteArray.empty = ss.getD i ByteArray.empty) := Lib.hid (fun h => hn0 (h i0 (by omega) k0 hk0 he0))
  clear he0 hn0 hk0 hi0
  have HLE := Lib.hid hLe
  have HSZ := Lib.hid hsz
  have HS := Lib.hid hS
  clear hLe hsz hS hC
  go_enter Tryd.func44, Tryd.ntmps44
  obtain ⟨N, hN⟩ := ex_eq w.heap.size
  have HN := Lib.hid hN
  rw [hN]
  clear hN
  go_upto_region 3 with fail
  go_loopw [3, 9] (fun x y wr => ∃ (i : Nat) (us : List ByteArray), i ≤ L ∧ y = .int .i64 (i : Int) ∧ us.length = i ∧ Hid (∀ j, j < i → nb (us.getD j ByteArray.empty) = Sha.sum (nb (ss.getD j ByteArray.empty))) ∧ Hid (wr.ownsRow N 9 1 x i (strV us)) ∧ Hid (Below N w wr) ∧ Hid (∀ j, j < i → ∀ k, k < j → Sha.sum (nb (ss.getD k ByteArray.empty)) = Sha.sum (nb (ss.getD j ByteArray.empty)) → ss.getD k ByteArray.empty = ss.getD j ByteArray.empty)) (fun _ y _ => L - (intOf y).toNat)
  case atStart => exact ⟨0, [], by omega, rfl, rfl, fun j hj => by omega, own_nil, Below.refl _ _, fun j hj => by omega⟩
  case round =>
    obtain ⟨i, us, hi, rfl, hul, HUS, HOW, HBE, HNC⟩ := hrel
    obtain ⟨wa, hwa⟩ : ∃ wa, wa = wr := ⟨_, rfl⟩
    subst hwa
    have HUL := Lib.hid hul
    clear hul
    have HWA : Hid (N ≤ wa.heap.size) := Lib.hid (by have := HBE.out.size; have := HN.out; omega)
    by_cases hlt : i < L
    · have hii : (i : Int) < (L : Int) := by omega
      obtain ⟨b1, o1, rfl, hcs⟩ : ∃ b o, a = some ⟨b, o, none⟩ ∧ ∀ j, j < ss.length → w.cell? ⟨b, o + j, none⟩ = some (.string (ss.getD j ByteArray.empty)) := by
        rcases HS.out with h | h
        · have := HLE.out; rw [h] at this; simp at this; omega
        · exact h
      have HCS : Hid (∀ V, Below N w V → ∀ j, j < L → V.cell? ⟨b1, o1 + j, none⟩ = some (.string (ss.getD j ByteArray.empty))) := Lib.hid (fun V h j hj => by
        have hc := hcs j (by rw [HLE.out]; exact hj)
        exact (h.cell (p := ⟨b1, o1 + j, none⟩) (by rw [← HN.out]; exact World.block_lt_of_cell? w _ hc)).trans hc)
      clear hcs
      have hc := HCS.out wa HBE.out i hlt
      have hsz : (ss.getD i ByteArray.empty).size ≤ 100000 := HSZ.out _ (getD_mem _ _ _ (by rw [HLE.out]; exact hlt))
      obtain ⟨s, hs⟩ := ex_eq (ss.getD i ByteArray.empty)
      rw [hs] at hc hsz
      have HSI := Lib.hid hs
      obtain ⟨L2, hL2⟩ := ex_eq s.size
      have HL2 := Lib.hid hL2
      obtain ⟨cp3, w3, hcv3, hle3, hB3, h3⟩ := str_at wa s (by unfold maxLen; omega) hL2
      have HB3 := Lib.hid hB3
      have H3 : Hid (Below N w w3) := Lib.hid (HBE.out.trans (h3.mono HWA.out))
      have HO3 := Lib.hid (own_later HOW.out h3)
      rw [hL2] at hsz
      clear hs hL2 hle3 hB3 h3
      go_upto_region 6 with (first
        | (go_at_call 78
           (refine (refSum_l (some ⟨wa.heap.size, 0, none⟩) cp3 (nb s) L2 (by rw [nb_length]; exact HL2.out) (fun e => by cases e) (by omega) w3 HB3.out).mono ?_)
           rintro e w4 ⟨u4, rfl, hu4, h4⟩
           have HU4 := Lib.hid hu4
           have H4 : Hid (Below N w w4) := Lib.hid (H3.out.trans (h4.mono (by have := H3.out.size; have := HN.out; omega)))
           have HO4 := Lib.hid (own_later HO3.out h4)
           have HW4 : Hid (N ≤ w4.heap.size) := Lib.hid (by have := H4.out.size; have := HN.out; omega)
           clear hu4 h4)
        | (at_builtin
           refine app_str rfl _ _ rfl N _ i us (by rfl) HO4.out HW4.out (by omega) u4 1 (by rfl) ?_
           intro v5 w5 ho5 hb5
           have HO5 := Lib.hid ho5
           have H5 : Hid (Below N w w5) := Lib.hid (H4.out.trans hb5)
           clear ho5 hb5))
      clear hc
      obtain ⟨I1, hI1⟩ := ex_eq (i + 1)
      rw [hI1] at HO5
      have HI1 := Lib.hid hI1
      have hii1 : i < I1 := by omega
      have hii2 : (i : Int) < (I1 : Int) := by omega
      clear hI1
      obtain ⟨a5, cp5, rfl, hl5, hc5, hS5, hnil5, hlt5⟩ := strs_of_own HO5.out
      obtain ⟨b5, o5, rfl, hcs5⟩ : ∃ b o, a5 = some ⟨b, o, none⟩ ∧ ∀ j, j < (us ++ [u4]).length → w5.cell? ⟨b, o + j, none⟩ = some (.string ((us ++ [u4]).getD j ByteArray.empty)) := by
        rcases hS5 with h | h
        · rw [h] at hl5; simp at hl5; omega
        · exact h
      have hce := hcs5 i (by rw [hl5]; omega)
      rw [getD_snoc_eq _ _ _ HUL.out] at hce
      have HC5 : Hid (∀ j, j < i → w5.cell? ⟨b5, o5 + j, none⟩ = some (.string (us.getD j ByteArray.empty))) := Lib.hid (fun j hj => by
        have h := hcs5 j (by rw [hl5]; omega)
        rwa [getD_snoc_lt _ _ _ (by rw [HUL.out]; exact hj)] at h)
      have HCE := Lib.hid hce
      clear hl5 hc5 hS5 hnil5 hlt5 hcs5 hce
      go_upto_region 7 with fail
      go_loopw [6] (fun z wr => ∃ k : Nat, k ≤ i ∧ z = .int .i64 (k : Int) ∧ Drawn w5 wr ∧ Hid (∀ j, j < k → Sha.sum (nb (ss.getD j ByteArray.empty)) = Sha.sum (nb (ss.getD i ByteArray.empty)) → ss.getD j ByteArray.empty = ss.getD i ByteArray.empty)) (fun z _ => i - (intOf z).toNat)
      case atStart => exact ⟨0, by omega, rfl, Drawn.refl _, fun j h => by omega⟩
      case round =>
        obtain ⟨k, hk, rfl, hdr, HLE2⟩ := hrel
        obtain ⟨q, rfl⟩ := hdr
        by_cases hki : k < i
        · have hkii : (k : Int) < (i : Int) := by omega
          have hki1 : k < I1 := by omega
          have hki2 : (k : Int) < (I1 : Int) := by omega
          have hkL : k < L := by omega
          have hkL2 : (k : Int) < (L : Int) := by omega
          have hx : (w5.drewN q).cell? ⟨b5, o5 + k, none⟩ = some (.string (us.getD k ByteArray.empty)) := HC5.out k hki
          have hy : (w5.drewN q).cell? ⟨b5, o5 + i, none⟩ = some (.string u4) := HCE.out
          have hz : (w5.drewN q).cell? ⟨b1, o1 + k, none⟩ = some (.string (ss.getD k ByteArray.empty)) := HCS.out w5 H5.out k (by omega)
          have hnb := HUS.out k hki
          obtain ⟨d, hd⟩ := ex_eq (us.getD k ByteArray.empty)
          obtain ⟨f, hf⟩ := ex_eq (ss.getD k ByteArray.empty)
          rw [hd] at hx hnb
          rw [hf] at hz hnb
          have HD : Hid ((d.toList == u4.toList) = decide (Sha.sum (nb f) = Sha.sum (nb s))) := Lib.hid (by rw [eq_str, hnb, HU4.out])
          have HFS : Hid ((f.toList == s.toList) = decide (f = s)) := Lib.hid (by
            rw [eq_str, decide_eq_decide]
            exact ⟨nb_inj, fun h => by rw [h]⟩)
          have HF := Lib.hid hf
          clear hd hf hnb
          go_upto_region 9 with fail
          by_cases hsum : Sha.sum (nb f) = Sha.sum (nb s)
          · have hdd : (d.toList == u4.toList) = true := by rw [HD.out]; exact decide_eq_true hsum
            clear hsum
            by_cases hfs : f = s
            · have hff : (f.toList == s.toList) = true := by rw [HFS.out]; exact decide_eq_true hfs
              have HFE := Lib.hid hfs
              clear hfs
              refine Kit.wp_region_gplan (fun V => V.cell? ⟨b5, o5 + k, none⟩ = some (.string d) ∧ V.cell? ⟨b5, o5 + i, none⟩ = some (.string u4) ∧ V.cell? ⟨b1, o1 + k, none⟩ = some (.string f)) [(true, 0), (true, 1), (true, 2), (true, 3), (true, 4), (true, 5), (true, 6), (true, 7), (true, 8), (true, 9), (true, 10), (true, 11), (true, 12), (true, 13), (true, 14), (true, 15), (true, 16)] (by kernel_rfl) (by kernel_rfl) (by kernel_rfl) (by kernel_rfl) ⟨hx, hy, hz⟩ ?_
              repeat (refine Kit.gplan_head (by rfl) (by first | exact .inr ⟨by rfl, rfl⟩ | exact .inl ⟨by rfl, fun w' hS => by (dsimp only at hS); go_simp; (try with_reducible rfl)⟩) ?_; simp only [Act.put, List.setIfInBounds_toArray, List.set_cons_zero, List.set_cons_succ])
              refine Kit.gplan_done ?_
              (try simp only [Act.put, List.setIfInBounds_toArray, List.set_cons_zero, List.set_cons_succ])
              go_wp2_with fail
              go_roundw
              case rel =>
                refine ⟨k + 1, by omega, by go_num, ⟨q + 1, rfl⟩, fun j hj he => ?_⟩
                by_cases e : j = k
                · rw [e, HF.out, HSI.out]; exact HFE.out
                · exact HLE2.out j (by omega) he
              case measure => simp [intOf]; omega
            · have hff : (f.toList == s.toList) = false := by rw [HFS.out]; exact decide_eq_false hfs
              clear hfs
              refine Kit.wp_region_gplan (fun V => V.cell? ⟨b5, o5 + k, none⟩ = some (.string d) ∧ V.cell? ⟨b5, o5 + i, none⟩ = some (.string u4) ∧ V.cell? ⟨b1, o1 + k, none⟩ = some (.string f)) [(true, 0), (true, 1), (true, 2), (true, 3), (true, 4), (true, 5), (true, 6), (true, 7), (true, 8), (true, 9), (true, 10), (true, 11), (true, 12), (true, 13), (true, 14), (true, 15), (true, 16)] (by kernel_rfl) (by kernel_rfl) (by kernel_rfl) (by kernel_rfl) ⟨hx, hy, hz⟩ ?_
              repeat (refine Kit.gplan_head (by rfl) (by first | exact .inr ⟨by rfl, rfl⟩ | exact .inl ⟨by rfl, fun w' hS => by (dsimp only at hS); go_simp; (try with_reducible rfl)⟩) ?_; simp only [Act.put, List.setIfInBounds_toArray, List.set_cons_zero, List.set_cons_succ])
              refine Kit.gplan_done ?_
              (try simp only [Act.put, List.setIfInBounds_toArray, List.set_cons_zero, List.set_cons_succ])
              go_wp2_with fail
              go_ret
              exact ⟨rfl, (below_drewN H5.out _).drew⟩
          · have hdd : (d.toList == u4.toList) = false := by rw [HD.out]; exact decide_eq_false hsum
            have HNS := Lib.hid hsum
            clear hsum
            refine Kit.wp_region_gplan (fun V => V.cell? ⟨b5, o5 + k, none⟩ = some (.string d) ∧ V.cell? ⟨b5, o5 + i, none⟩ = some (.string u4) ∧ V.cell? ⟨b1, o1 + k, none⟩ = some (.string f)) [(true, 0), (true, 1), (true, 2), (true, 3), (true, 4), (true, 5), (true, 6), (true, 7), (true, 8), (true, 9), (true, 10), (true, 11), (true, 12), (true, 13), (true, 14), (true, 15), (true, 16)] (by kernel_rfl) (by kernel_rfl) (by kernel_rfl) (by kernel_rfl) ⟨hx, hy, hz⟩ ?_
            repeat (refine Kit.gplan_head (by rfl) (by first | exact .inr ⟨by rfl, rfl⟩ | exact .inl ⟨by rfl, fun w' hS => by (dsimp only at hS); go_simp; (try with_reducible rfl)⟩) ?_; simp only [Act.put, List.setIfInBounds_toArray, List.set_cons_zero, List.set_cons_succ])
            refine Kit.gplan_done ?_
            (try simp only [Act.put, List.setIfInBounds_toArray, List.set_cons_zero, List.set_cons_succ])
            go_wp2_with fail
            go_roundw
            case rel =>
              refine ⟨k + 1, by omega, by go_num, ⟨q + 1, rfl⟩, fun j hj he => ?_⟩
              by_cases e : j = k
              · rw [e, HF.out, HSI.out] at he
                exact absurd he HNS.out
              · exact HLE2.out j (by omega) he
            case measure => simp [intOf]; omega
        · have hkii : ¬ (k : Int) < (i : Int) := by omega
          have hke : k = i := by omega
          have HKE := Lib.hid hke
          clear hke
          go_wp2_with fail
          go_roundw
          case rel =>
            refine ⟨i + 1, us ++ [u4], by omega, by go_num, by rw [List.length_append, HUL.out]; rfl, fun j hj => ?_, by show World.ownsRow _ _ _ _ _ _ _; rw [HI1.out]; exact own_later HO5.out (below_drewN (Below.refl _ _) q), below_drewN H5.out _, fun j hj k2 hk2 he => ?_⟩
            · by_cases e : j = i
              · rw [e, getD_snoc_eq _ _ _ HUL.out, HU4.out, HSI.out]
              · rw [getD_snoc_lt _ _ _ (by rw [HUL.out]; omega)]
                exact HUS.out j (by omega)
            · by_cases e : j = i
              · rw [e] at he hk2 ⊢
                exact HLE2.out k2 (by rw [HKE.out]; exact hk2) he
              · exact HNC.out j (by omega) k2 hk2 he
          case measure => simp [intOf]; omega
    · have hie : i = L := by omega
      exact (HCX.out (fun i2 hi2 k hk he => HNC.out i2 (by omega) k hk he)).elim
end Go.Proofs.YtmnendoloankgaaDoor
