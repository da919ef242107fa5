/- The law's helper climbs. -/
import Derived.Test.YtjhpdchcmfghpaaGreatDoorGd
import Derived.Test.YtjhpdchcmfghpaaGreatDoorClm
import Derived.Test.YtjhpdchcmfghpaaGreatDoorRgc
namespace Go.Proofs.YtjhpdchcmfghpaaGreatDoor
set_option linter.unusedVariables false
set_option linter.unusedSimpArgs false
open Go.RowKit
open Kit (Chg)
open Sha (v)
open Go.Proofs.YtjhpdchcmfghpaaGreatDoor.One

theorem zero_lit : nb { data := #[0] } = [0] := rfl
/-- Two different strings with one sum stand on the two ways up. -/
def Climbed (x y : List Nat) (i : Nat) (ps qs : List (List Nat)) : Prop := ∃ st ∈ Mrk.pairs x y i ps qs, Coll st.1 st.2
theorem climbed_cons {x y : List Nat} {i : Nat} {p q : List Nat} {ps qs : List (List Nat)} : Climbed x y i (p :: ps) (q :: qs) → Coll (if i % 2 = 0 then 1 :: (x ++ p) else 1 :: (p ++ x)) (if i % 2 = 0 then 1 :: (y ++ q) else 1 :: (q ++ y)) ∨ Climbed (Mrk.step x i p) (Mrk.step y i q) (i / 2) ps qs := by
  rintro ⟨st, h, hc⟩
  rw [Mrk.pairs] at h
  rcases List.mem_cons.1 h with rfl | h
  · exact .inl hc
  · exact .inr ⟨st, h, hc⟩
theorem step_size {s : ByteArray} {x : List Nat} {i : Nat} {p : List Nat} (h : nb s = Mrk.step x i p) : s.size = 32 := by
  rw [← nb_length, h]
  exact Mrk.step_len _ _ _
set_option maxRecDepth 100000 in
set_option maxHeartbeats 2000000 in
theorem climbs_any (a b : ByteArray) (ha : a.size = 32) (hb : b.size = 32) (i : Nat) (hi : i ≤ 1000) (a1 a2 : Option Addr) (c1 c2 L : Nat) (ps qs : List ByteArray) (hL : L ≤ 1000) (hLp : ps.length = L) (hLq : qs.length = L) (hp : ∀ s ∈ ps, s.size = 32) (hq : ∀ s ∈ qs, s.size = 32) (w : World) (hS1 : StrsAt w a1 ps) (hS2 : StrsAt w a2 qs) :
    Calls Tryz.prog 18 #[.string a, .string b, .int .i64 (i : Int), .slice a1 L c1, .slice a2 L c2] w fun e w' => ∃ D : Bool, e = .returned (.bool D) ∧ ((Coll (0 :: nb a) (0 :: nb b) ∨ Climbed (Mrk.leaf (nb a)) (Mrk.leaf (nb b)) i (ps.map nb) (qs.map nb)) → D = true) ∧ Below w.heap.size w w' := by
  obtain ⟨G, hG⟩ : ∃ G, (Coll (0 :: nb a) (0 :: nb b) ∨ Climbed (Mrk.leaf (nb a)) (Mrk.leaf (nb b)) i (ps.map nb) (qs.map nb)) = G := ⟨_, rfl⟩
  have HG := Lib.hid hG
  rw [hG]
  clear hG
  have HLP := Lib.hid hLp
  have HLQ := Lib.hid hLq
  have HP := Lib.hid hp
  have HQ := Lib.hid hq
  have HS1 := Lib.hid hS1
  have HS2 := Lib.hid hS2
  have HC0 := Lib.hid (collides_any ({ data := #[0] } ++ a) ({ data := #[0] } ++ b) (by rw [ByteArray.size_append, ha]; decide) (by rw [ByteArray.size_append, hb]; decide) w)
  have HE0 : Hid (Coll (nb ({ data := #[0] } ++ a)) (nb ({ data := #[0] } ++ b)) = Coll (0 :: nb a) (0 :: nb b)) := Lib.hid (by rw [nb_app, nb_app]; rfl)
  obtain ⟨D0, hD0⟩ := ex_eq (decide (Coll (nb ({ data := #[0] } ++ a)) (nb ({ data := #[0] } ++ b))))
  have HD0 : Hid (Coll (0 :: nb a) (0 :: nb b) → D0 = true) := Lib.hid (fun h => by rw [← HE0.out] at h; rw [← hD0]; exact decide_eq_true h)
  rw [hD0] at HC0
  clear hD0 hLp hLq hp hq hS1 hS2
  have hca : ¬ 9223372036854775807 < 1 + a.size := by omega
  have hcb : ¬ 9223372036854775807 < 1 + b.size := by omega
  have HZA := Lib.hid ha
  have HZB := Lib.hid hb
  clear ha hb
  go_enter Tryz.func18, Tryz.ntmps18
  go_upto_region 2 with (first
    | (go_at_call 17
       (refine HC0.out.mono ?_)
       rintro e w2 ⟨rfl, h2⟩
       have H2 := Lib.hid h2
       clear h2))
  obtain ⟨cp3, w3, hcv3, hle3, hB3, h3⟩ := str_at w2 a (L := 32) (by rw [HZA.out]; decide) HZA.out
  have HB3 := Lib.hid hB3
  have H3 := Lib.hid (H2.out.trans (h3.mono H2.out.size))
  clear hle3 hB3 h3
  go_upto_region 3 with (first
    | (go_at_call 43
       (with_reducible refine (HL5.out).mono ?_)
       rintro e w6 ⟨y0, rfl, hy0, hzy0, h6⟩
       have HY0 := Lib.hid hy0
       have HZY0 := Lib.hid hzy0
       have H6 := Lib.hid (H5.out.trans (h6.mono H5.out.size))
       clear hy0 hzy0 h6)
    | (go_at_call 43
       (refine (refLeaf_l (some ⟨w2.heap.size, 0, none⟩) cp3 (nb a) 32 (by rw [nb_length]; exact HZA.out) (fun e => by cases e) (by decide) w3 HB3.out _ rfl).mono ?_)
       rintro e w4 ⟨x0, rfl, hx0, hzx0, h4⟩
       have HX0 := Lib.hid hx0
       have HZX0 := Lib.hid hzx0
       have H4 := Lib.hid (H3.out.trans (h4.mono H3.out.size))
       obtain ⟨cp5, w5, hcv5, hle5, hB5, h5⟩ := str_at w4 b (L := 32) (by rw [HZB.out]; decide) HZB.out
       have H5 := Lib.hid (H4.out.trans (h5.mono H4.out.size))
       have HL5 := Lib.hid (refLeaf_l (some ⟨w4.heap.size, 0, none⟩) cp5 (nb b) 32 (by rw [nb_length]; exact HZB.out) (fun e => by cases e) (by decide) w5 hB5 _ rfl)
       clear hx0 hzx0 h4 hle5 hB5 h5))
  have HAL : Hid (∀ (V : World) (s : ByteArray), StrsAt (V.alloc (.cells #[.string s] 9)) (some ⟨V.heap.size, 0, none⟩) [s] ∧ Below V.heap.size V (V.alloc (.cells #[.string s] 9))) := Lib.hid (fun V s => ⟨strs_of_row (t := 9) (heap_alloc_new V _), (Below.refl _ _).alloc (Nat.le_refl _) _⟩)
  have HST : Hid (∀ V V', Below w.heap.size w V → Below V.heap.size V V' → Below w.heap.size w V') := Lib.hid (fun V V' h h' => h.trans (h'.mono h.size))
  clear hcv3 hca hcb
  go_upto_region 4 with fail
  go_loopw [2, 11, 12, 13, 30] (fun vi vf vx vy vk wr => ∃ (k M : Nat) (D : Bool) (x y : ByteArray), k ≤ L ∧ M ≤ 1000 ∧ vi = .int .i64 (M : Int) ∧ vf = .bool D ∧ vx = .string x ∧ vy = .string y ∧ vk = .int .i64 (k : Int) ∧ Hid (x.size = 32 ∧ y.size = 32) ∧ Hid (G → D = true ∨ Climbed (nb x) (nb y) M ((ps.drop k).map nb) ((qs.drop k).map nb)) ∧ Hid (Below w.heap.size w wr)) (fun _ _ _ _ z _ => L - (intOf z).toNat)
  case atStart => exact ⟨0, i, D0, x0, y0, by omega, hi, rfl, rfl, rfl, rfl, rfl, Lib.hid ⟨HZX0.out, HZY0.out⟩, Lib.hid (fun hg => by
    rw [← HG.out] at hg
    rcases hg with h | h
    · exact .inl (HD0.out h)
    · right
      rw [List.drop_zero, List.drop_zero, HX0.out, HY0.out]
      exact h), H6⟩
  case round =>
    obtain ⟨k, M, D, x, y, hk, hM, rfl, rfl, rfl, rfl, rfl, HZ, HGD, HBE⟩ := hrel
    by_cases hlt : k < L
    · have hki : (k : Int) < (L : Int) := by omega
      obtain ⟨b1, o1, rfl, hcs1⟩ : ∃ b o, a1 = some ⟨b, o, none⟩ ∧ ∀ i, i < ps.length → wr.cell? ⟨b, o + i, none⟩ = some (.string (ps.getD i ByteArray.empty)) := by
        rcases HS1.out.later HBE.out with h | h
        · have := HLP.out; rw [h] at this; simp at this; omega
        · exact h
      obtain ⟨b2, o2, rfl, hcs2⟩ : ∃ b o, a2 = some ⟨b, o, none⟩ ∧ ∀ i, i < qs.length → wr.cell? ⟨b, o + i, none⟩ = some (.string (qs.getD i ByteArray.empty)) := by
        rcases HS2.out.later HBE.out with h | h
        · have := HLQ.out; rw [h] at this; simp at this; omega
        · exact h
      have hc1 := hcs1 k (by rw [HLP.out]; exact hlt)
      have hc2 := hcs2 k (by rw [HLQ.out]; exact hlt)
      have hz1 := HP.out _ (getD_mem ps k ByteArray.empty (by rw [HLP.out]; exact hlt))
      have hz2 := HQ.out _ (getD_mem qs k ByteArray.empty (by rw [HLQ.out]; exact hlt))
      have HDP := Lib.hid (drop_cons_nb HLP.out hlt)
      have HDQ := Lib.hid (drop_cons_nb HLQ.out hlt)
      obtain ⟨s, hs⟩ := ex_eq (ps.getD k ByteArray.empty)
      obtain ⟨t, ht⟩ := ex_eq (qs.getD k ByteArray.empty)
      rw [hs] at hc1 hz1 HDP
      rw [ht] at hc2 hz2 HDQ
      have hzx := HZ.out.1
      have hzy := HZ.out.2
      clear hcs1 hcs2 hs ht
      go_upto_region 6 with fail
      refine Kit.wp_region_gplan (fun V => V.cell? ⟨b1, o1 + k, none⟩ = some (.string s) ∧ V.cell? ⟨b2, o2 + k, none⟩ = some (.string t)) [(true, 0), (true, 1), (true, 2), (true, 3), (true, 4), (true, 5), (true, 6), (true, 7), (true, 8), (true, 9), (true, 10), (true, 11), (true, 12), (true, 13), (true, 14), (true, 15)] (by kernel_rfl) (by kernel_rfl) (by kernel_rfl) (by kernel_rfl) ⟨hc1, hc2⟩ ?_
      iterate 16 (refine Kit.gplan_head (by rfl) (by first | exact .inr ⟨by rfl, rfl⟩ | exact .inl ⟨by rfl, fun w' hS => by (dsimp only at hS); go_simp; (try with_reducible rfl)⟩) ?_; (try simp only [Act.put, List.setIfInBounds_toArray, List.set_cons_zero, List.set_cons_succ]))
      refine Kit.gplan_done ?_
      (try simp only [Act.put, List.setIfInBounds_toArray, List.set_cons_zero, List.set_cons_succ])
      by_cases hpar : M % 2 = 0
      · have hm : (M : Int) % 2 = 0 := by omega
        go_upto_region 9 with fail
        obtain ⟨sa, hsa⟩ := ex_eq (({ data := #[1] } : ByteArray) ++ x ++ s)
        obtain ⟨sb, hsb⟩ := ex_eq (({ data := #[1] } : ByteArray) ++ y ++ t)
        rw [hsa, hsb]
        have HSA := Lib.hid hsa
        have HSB := Lib.hid hsb
        clear hsa hsb
        have HZS : Hid (sa.size ≤ 100000) := Lib.hid (by rw [← HSA.out, ByteArray.size_append, ByteArray.size_append, hzx, hz1]; decide)
        have HZT : Hid (sb.size ≤ 100000) := Lib.hid (by rw [← HSB.out, ByteArray.size_append, ByteArray.size_append, hzy, hz2]; decide)
        have HV : Hid (Below w.heap.size w wr.drew) := Lib.hid (HBE.out.drew)
        obtain ⟨V0, hV0⟩ := ex_eq wr.drew
        rw [hV0] at HV ⊢
        clear hV0 hzx hzy hz1 hz2
        cases D
        · skip
          go_upto_region 10 with (first
            | (go_at_call 17
               (refine (collides_any sa sb HZS.out HZT.out _).mono ?_)
               rintro e w9 ⟨rfl, h9⟩
               have HW := Lib.hid (HST.out _ _ HV.out h9)
               clear h9))
          go_wp2_with (first
            | (go_at_call 19
               (refine (refJoin_x (some ⟨w15.heap.size, 0, none⟩) 1 1 [sb] rfl (by decide) (fun x hx => by rw [List.mem_singleton.1 hx]; exact HZT.out) _ (HAL.out w15 sb).1 (Sha.sum (nb sb)) (by rw [catB_one])).mono ?_)
               rintro e w16 ⟨u6, rfl, hu6, h6⟩
               have HU6 := Lib.hid hu6
               have H16 := Lib.hid (HST.out _ _ (HST.out _ _ H15.out (HAL.out w15 sb).2) h6)
               clear hu6 h6)
            | (go_at_call 19
               (refine (refJoin_x (some ⟨w9.heap.size, 0, none⟩) 1 1 [sa] rfl (by decide) (fun x hx => by rw [List.mem_singleton.1 hx]; exact HZS.out) _ (HAL.out w9 sa).1 (Sha.sum (nb sa)) (by rw [catB_one])).mono ?_)
               rintro e w15 ⟨u5, rfl, hu5, h5⟩
               have HU5 := Lib.hid hu5
               have H15 := Lib.hid (HST.out _ _ (HST.out _ _ HW.out (HAL.out w9 sa).2) h5)
               clear hu5 h5))
          go_roundw
          case rel =>
            refine ⟨k + 1, M / 2, decide (Coll (nb sa) (nb sb)), u5, u6, hlt, by omega, by go_num, rfl, rfl, rfl, by go_num, Lib.hid ⟨by rw [← nb_length, HU5.out]; exact Sha.sum_length _, by rw [← nb_length, HU6.out]; exact Sha.sum_length _⟩, Lib.hid (fun hg => ?_), H16⟩
            rcases HGD.out hg with h | h
            · cases h
            · rw [HDP.out, HDQ.out] at h
              rcases climbed_cons h with h | h
              · left
                refine decide_eq_true ?_
                rw [if_pos hpar, if_pos hpar] at h
                have ea : nb sa = 1 :: (nb x ++ nb s) := by rw [← HSA.out, nb_app, nb_app]; rfl
                have eb : nb sb = 1 :: (nb y ++ nb t) := by rw [← HSB.out, nb_app, nb_app]; rfl
                rw [ea, eb]
                exact h
              · right
                have ea : nb u5 = Mrk.step (nb x) M (nb s) := by rw [HU5.out, ← HSA.out, nb_app, nb_app]; unfold Mrk.step; rw [if_pos hpar]; rfl
                have eb : nb u6 = Mrk.step (nb y) M (nb t) := by rw [HU6.out, ← HSB.out, nb_app, nb_app]; unfold Mrk.step; rw [if_pos hpar]; rfl
                rw [ea, eb]
                exact h
          case measure => simp [intOf]; omega
        · skip
          have HW := HV
          go_wp2_with (first
            | (go_at_call 19
               (refine (refJoin_x (some ⟨w15.heap.size, 0, none⟩) 1 1 [sb] rfl (by decide) (fun x hx => by rw [List.mem_singleton.1 hx]; exact HZT.out) _ (HAL.out w15 sb).1 (Sha.sum (nb sb)) (by rw [catB_one])).mono ?_)
               rintro e w16 ⟨u6, rfl, hu6, h6⟩
               have HU6 := Lib.hid hu6
               have H16 := Lib.hid (HST.out _ _ (HST.out _ _ H15.out (HAL.out w15 sb).2) h6)
               clear hu6 h6)
            | (go_at_call 19
               (refine (refJoin_x (some ⟨V0.heap.size, 0, none⟩) 1 1 [sa] rfl (by decide) (fun x hx => by rw [List.mem_singleton.1 hx]; exact HZS.out) _ (HAL.out V0 sa).1 (Sha.sum (nb sa)) (by rw [catB_one])).mono ?_)
               rintro e w15 ⟨u5, rfl, hu5, h5⟩
               have HU5 := Lib.hid hu5
               have H15 := Lib.hid (HST.out _ _ (HST.out _ _ HW.out (HAL.out V0 sa).2) h5)
               clear hu5 h5))
          go_roundw
          case rel =>
            refine ⟨k + 1, M / 2, true, u5, u6, hlt, by omega, by go_num, rfl, rfl, rfl, by go_num, Lib.hid ⟨by rw [← nb_length, HU5.out]; exact Sha.sum_length _, by rw [← nb_length, HU6.out]; exact Sha.sum_length _⟩, Lib.hid (fun hg => ?_), H16⟩
            exact .inl rfl
          case measure => simp [intOf]; omega
      · have hm : (M : Int) % 2 = 1 := by omega
        go_upto_region 8 with fail
        refine Kit.wp_region_gplan (fun V => V.cell? ⟨b1, o1 + k, none⟩ = some (.string s) ∧ V.cell? ⟨b2, o2 + k, none⟩ = some (.string t)) [(true, 0), (true, 1), (true, 2), (true, 3), (true, 4), (true, 5), (true, 6), (true, 7), (true, 8), (true, 9), (true, 10), (true, 11), (true, 12), (true, 13), (true, 14), (true, 15)] (by kernel_rfl) (by kernel_rfl) (by kernel_rfl) (by kernel_rfl) ⟨hc1, hc2⟩ ?_
        iterate 16 (refine Kit.gplan_head (by rfl) (by first | exact .inr ⟨by rfl, rfl⟩ | exact .inl ⟨by rfl, fun w' hS => by (dsimp only at hS); go_simp; (try with_reducible rfl)⟩) ?_; (try simp only [Act.put, List.setIfInBounds_toArray, List.set_cons_zero, List.set_cons_succ]))
        refine Kit.gplan_done ?_
        (try simp only [Act.put, List.setIfInBounds_toArray, List.set_cons_zero, List.set_cons_succ])
        go_upto_region 9 with fail
        obtain ⟨sa, hsa⟩ := ex_eq (({ data := #[1] } : ByteArray) ++ s ++ x)
        obtain ⟨sb, hsb⟩ := ex_eq (({ data := #[1] } : ByteArray) ++ t ++ y)
        rw [hsa, hsb]
        have HSA := Lib.hid hsa
        have HSB := Lib.hid hsb
        clear hsa hsb
        have HZS : Hid (sa.size ≤ 100000) := Lib.hid (by rw [← HSA.out, ByteArray.size_append, ByteArray.size_append, hzx, hz1]; decide)
        have HZT : Hid (sb.size ≤ 100000) := Lib.hid (by rw [← HSB.out, ByteArray.size_append, ByteArray.size_append, hzy, hz2]; decide)
        have HV : Hid (Below w.heap.size w wr.drew.drew) := Lib.hid (HBE.out.drew.drew)
        obtain ⟨V0, hV0⟩ := ex_eq wr.drew.drew
        rw [hV0] at HV ⊢
        clear hV0 hzx hzy hz1 hz2
        cases D
        · skip
          go_upto_region 10 with (first
            | (go_at_call 17
               (refine (collides_any sa sb HZS.out HZT.out _).mono ?_)
               rintro e w9 ⟨rfl, h9⟩
               have HW := Lib.hid (HST.out _ _ HV.out h9)
               clear h9))
          go_wp2_with (first
            | (go_at_call 19
               (refine (refJoin_x (some ⟨w15.heap.size, 0, none⟩) 1 1 [sb] rfl (by decide) (fun x hx => by rw [List.mem_singleton.1 hx]; exact HZT.out) _ (HAL.out w15 sb).1 (Sha.sum (nb sb)) (by rw [catB_one])).mono ?_)
               rintro e w16 ⟨u6, rfl, hu6, h6⟩
               have HU6 := Lib.hid hu6
               have H16 := Lib.hid (HST.out _ _ (HST.out _ _ H15.out (HAL.out w15 sb).2) h6)
               clear hu6 h6)
            | (go_at_call 19
               (refine (refJoin_x (some ⟨w9.heap.size, 0, none⟩) 1 1 [sa] rfl (by decide) (fun x hx => by rw [List.mem_singleton.1 hx]; exact HZS.out) _ (HAL.out w9 sa).1 (Sha.sum (nb sa)) (by rw [catB_one])).mono ?_)
               rintro e w15 ⟨u5, rfl, hu5, h5⟩
               have HU5 := Lib.hid hu5
               have H15 := Lib.hid (HST.out _ _ (HST.out _ _ HW.out (HAL.out w9 sa).2) h5)
               clear hu5 h5))
          go_roundw
          case rel =>
            refine ⟨k + 1, M / 2, decide (Coll (nb sa) (nb sb)), u5, u6, hlt, by omega, by go_num, rfl, rfl, rfl, by go_num, Lib.hid ⟨by rw [← nb_length, HU5.out]; exact Sha.sum_length _, by rw [← nb_length, HU6.out]; exact Sha.sum_length _⟩, Lib.hid (fun hg => ?_), H16⟩
            rcases HGD.out hg with h | h
            · cases h
            · rw [HDP.out, HDQ.out] at h
              rcases climbed_cons h with h | h
              · left
                refine decide_eq_true ?_
                rw [if_neg hpar, if_neg hpar] at h
                have ea : nb sa = 1 :: (nb s ++ nb x) := by rw [← HSA.out, nb_app, nb_app]; rfl
                have eb : nb sb = 1 :: (nb t ++ nb y) := by rw [← HSB.out, nb_app, nb_app]; rfl
                rw [ea, eb]
                exact h
              · right
                have ea : nb u5 = Mrk.step (nb x) M (nb s) := by rw [HU5.out, ← HSA.out, nb_app, nb_app]; unfold Mrk.step; rw [if_neg hpar]; rfl
                have eb : nb u6 = Mrk.step (nb y) M (nb t) := by rw [HU6.out, ← HSB.out, nb_app, nb_app]; unfold Mrk.step; rw [if_neg hpar]; rfl
                rw [ea, eb]
                exact h
          case measure => simp [intOf]; omega
        · skip
          have HW := HV
          go_wp2_with (first
            | (go_at_call 19
               (refine (refJoin_x (some ⟨w15.heap.size, 0, none⟩) 1 1 [sb] rfl (by decide) (fun x hx => by rw [List.mem_singleton.1 hx]; exact HZT.out) _ (HAL.out w15 sb).1 (Sha.sum (nb sb)) (by rw [catB_one])).mono ?_)
               rintro e w16 ⟨u6, rfl, hu6, h6⟩
               have HU6 := Lib.hid hu6
               have H16 := Lib.hid (HST.out _ _ (HST.out _ _ H15.out (HAL.out w15 sb).2) h6)
               clear hu6 h6)
            | (go_at_call 19
               (refine (refJoin_x (some ⟨V0.heap.size, 0, none⟩) 1 1 [sa] rfl (by decide) (fun x hx => by rw [List.mem_singleton.1 hx]; exact HZS.out) _ (HAL.out V0 sa).1 (Sha.sum (nb sa)) (by rw [catB_one])).mono ?_)
               rintro e w15 ⟨u5, rfl, hu5, h5⟩
               have HU5 := Lib.hid hu5
               have H15 := Lib.hid (HST.out _ _ (HST.out _ _ HW.out (HAL.out V0 sa).2) h5)
               clear hu5 h5))
          go_roundw
          case rel =>
            refine ⟨k + 1, M / 2, true, u5, u6, hlt, by omega, by go_num, rfl, rfl, rfl, by go_num, Lib.hid ⟨by rw [← nb_length, HU5.out]; exact Sha.sum_length _, by rw [← nb_length, HU6.out]; exact Sha.sum_length _⟩, Lib.hid (fun hg => ?_), H16⟩
            exact .inl rfl
          case measure => simp [intOf]; omega
    · have hki : ¬ (k : Int) < (L : Int) := by omega
      have HF : Hid (G → D = true) := Lib.hid (fun hg => by
        rcases HGD.out hg with h | h
        · exact h
        · rw [List.drop_eq_nil_of_le (by rw [HLP.out]; omega)] at h
          obtain ⟨st, h1, _⟩ := h
          simp [Mrk.pairs] at h1)
      cases D
      · go_wp2_with fail
        go_ret
        exact .inl ⟨rfl, (fun hg => by cases HF.out hg), HBE.out⟩
      · go_wp2_with fail
        go_ret
        exact .inr ⟨rfl, HBE.out⟩
end Go.Proofs.YtjhpdchcmfghpaaGreatDoor
