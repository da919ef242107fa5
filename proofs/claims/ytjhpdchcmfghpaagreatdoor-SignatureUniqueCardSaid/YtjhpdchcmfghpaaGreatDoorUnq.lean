/- The law SignatureUnique, walked. -/
import Derived.Test.YtjhpdchcmfghpaaGreatDoorTpl
import Derived.Test.YtjhpdchcmfghpaaGreatDoorClb
import Derived.Test.YtjhpdchcmfghpaaGreatDoorMts
import Derived.Test.YtjhpdchcmfghpaaGreatDoorRps
import Derived.Test.YtjhpdchcmfghpaaGreatDoorRgd
import Derived.Test.YtjhpdchcmfghpaaGreatDoorRge
import Derived.Test.YtjhpdchcmfghpaaGreatDoorSms
import Derived.Test.YtjhpdchcmfghpaaGreatDoorSlr
import Derived.Test.YtjhpdchcmfghpaaGreatDoorOps
namespace Go.Proofs.YtjhpdchcmfghpaaGreatDoor
set_option linter.unusedVariables false
set_option linter.unusedSimpArgs false
open Go.RowKit
open Kit (Chg)
open Sha (v)
open Go.Proofs.YtjhpdchcmfghpaaGreatDoor.One

theorem getD_map_nb (ss : List ByteArray) (k : Nat) (h : k < ss.length) : (ss.map nb).getD k [] = nb (ss.getD k ByteArray.empty) := by
  rw [List.getD_eq_getElem?_getD, List.getD_eq_getElem?_getD, List.getElem?_map, List.getElem?_eq_getElem h]
  rfl
theorem unique_plain (b t i : Nat) (hB : Bits b) (hb4 : b ≤ 4) (ht : t ≤ 8) (hi : i < 2 ^ t) (seed dg : List Nat) (hd : dg.length = 32) (P Q P' Q' : List (List Nat)) (hacc : SigAcc (b : Int) (t : Int) (sigPub b seed t) dg (i : Int) P Q) (hP' : P' = sigParts b seed i dg) (hQ' : Q' = sigPath b seed t i) (hne : ¬ (P = P' ∧ Q = Q')) (n : Nat) (hn : n = (One.digits b dg).length) :
    (Coll (endsS b (One.digits b dg) P n) (endsS b (One.digits b dg) P' n) ∨ Coll (0 :: Sha.sum (endsS b (One.digits b dg) P n)) (0 :: Sha.sum (endsS b (One.digits b dg) P' n)) ∨ Climbed (Mrk.leaf (Sha.sum (endsS b (One.digits b dg) P n))) (Mrk.leaf (Sha.sum (endsS b (One.digits b dg) P' n))) i Q Q') ∨ ∃ c, c < n ∧ Met c ((One.digits b dg).getD c 0) (last b - (One.digits b dg).getD c 0) (P.getD c []) (P'.getD c []) := by
  have hacc' := sigAcc_sign b hB hb4 seed t i ht hi dg hd
  rw [← hP', ← hQ'] at hacc'
  obtain ⟨⟨_, _, _, _, hql, hq32, hpl, hp32⟩, hr⟩ := hacc
  obtain ⟨⟨_, _, _, _, hql', hq32', hpl', hp32'⟩, hr'⟩ := hacc'
  rw [Int.toNat_natCast] at hpl hpl'
  rw [Int.toNat_natCast, Int.toNat_natCast] at hr hr'
  have hdl : (One.digits b dg).length = count b 32 := by rw [digits_length hB, hd]
  have e1 : recover b (One.digits b dg) P = Sha.sum (endsS b (One.digits b dg) P n) := by rw [hn]; rfl
  have e2 : recover b (One.digits b dg) P' = Sha.sum (endsS b (One.digits b dg) P' n) := by rw [hn]; rfl
  unfold sigRoot at hr hr'
  rw [e1] at hr
  rw [e2] at hr'
  rcases Mrk.climb_inj Q Q' _ _ i (by omega) (Mrk.leaf_len _) (Mrk.leaf_len _) hq32 hq32' (hr.trans hr'.symm) with ⟨h1, h2⟩ | ⟨st, h1, h2⟩
  · by_cases hA : Sha.sum (endsS b (One.digits b dg) P n) = Sha.sum (endsS b (One.digits b dg) P' n)
    · by_cases hE : endsS b (One.digits b dg) P n = endsS b (One.digits b dg) P' n
      · right
        have hPP : P ≠ P' := fun h => hne ⟨h, h2⟩
        have hg : ∀ X : List (List Nat), X.length = count b 32 → (∀ x ∈ X, x.length = 32) → ∀ c, c < n → (X.getD c []).length = 32 := fun X hl hx c hc => hx _ (getD_mem X c [] (by omega))
        have hF := flat_inj _ _ (by rw [ends_length, ends_length]) (ends_len32 b (One.digits b dg) P n (hg P hpl hp32)) (ends_len32 b (One.digits b dg) P' n (hg P' hpl' hp32')) (List.append_cancel_left hE)
        obtain ⟨c, hc, hcd⟩ : ∃ c, c < n ∧ P.getD c [] ≠ P'.getD c [] := by
          refine Classical.byContradiction fun hno => hPP ?_
          refine List.ext_getElem (by omega) fun c h3 h4 => ?_
          refine Classical.byContradiction fun h5 => hno ⟨c, by omega, ?_⟩
          rw [List.getD_eq_getElem?_getD, List.getD_eq_getElem?_getD, List.getElem?_eq_getElem h3, List.getElem?_eq_getElem h4]
          exact h5
        have hch := congrArg (fun l => l.getD c []) hF
        simp only [ends_get _ _ _ _ _ hc] at hch
        obtain ⟨k, hk, hx, hy⟩ := merge c _ _ _ _ hch hcd
        exact ⟨c, hc, k, hk, fun e => hx (input_inj e).2, hy⟩
      · exact .inl (.inl ⟨hE, hA⟩)
    · exact .inl (.inr (.inl ⟨fun e => hA (List.cons.inj e).2, h1⟩))
  · exact .inl (.inr (.inr ⟨st, h1, h2⟩))
set_option maxRecDepth 100000 in
set_option maxHeartbeats 2000000 in
theorem unique_size (p q s : Nat) (hs : s < 256) (b t : Nat) (hB : Bits b) (hb4 : b ≤ 4) (ht2 : t ≤ 2) (HSC : ∀ w : World, Calls Tryz.prog 7 #[.int .u8 (p : Int), .int .u8 (q : Int)] w fun e w' => e = .returned (.agg #[.int .i64 (b : Int), .int .i64 (t : Int)]) ∧ Below w.heap.size w w') (dg : ByteArray) (idx : Int) (a1 : Option Addr) (n1 k1 : Nat) (a2 : Option Addr) (n2 k2 : Nat) (ps qs : List ByteArray) (hl1 : ps.length < 9223372036854775808) (hl2 : qs.length < 9223372036854775808) (hd : ¬ dg.size = 32) (w : World) (hx : SigAt w (.agg #[.int .i64 idx, .slice a1 n1 k1, .slice a2 n2 k2]) idx ps qs) (hL : Laid w) :
    Calls Tryz.prog 3 #[.int .u8 (p : Int), .int .u8 (q : Int), .int .u8 (s : Int), .string dg, .agg #[.int .i64 idx, .slice a1 n1 k1, .slice a2 n2 k2]] w fun e w' => e = .returned (.bool true) ∧ Below w.heap.size w w' := by
  have hne : (((dg.size : Nat) : Int) != 32) = true := by rw [bne_iff_ne]; omega
  have HL := Lib.hid hL
  clear hx hL hd
  go_enter Tryz.func3, Tryz.ntmps3
  go_upto_region 1 with fail
  refine wp_over (fun W => Hid (W.heap[w.heap.size]? = some (.cells #[.int .i64 idx, .slice a1 n1 k1, .slice a2 n2 k2] 24 (0, 0))) ∧ Hid (Below w.heap.size w W) ∧ Hid (W.heap.size = w.heap.size + 1)) ⟨heap_alloc_new _ _, (Below.refl _ _).alloc (Nat.le_refl _) _, by show _ = _; simp⟩ ?_
  rintro W ⟨HG, HB, HWN⟩
  obtain ⟨N, hN⟩ := ex_eq w.heap.size
  rw [hN] at HG HB HWN ⊢
  have HN := Lib.hid hN
  clear hN
  have HCX : Hid (∀ V, Below (N + 1) W V → V.cell? ⟨N, 0, none⟩ = some (.int .i64 idx) ∧ V.cell? ⟨N, 1, none⟩ = some (.slice a1 n1 k1) ∧ V.cell? ⟨N, 2, none⟩ = some (.slice a2 n2 k2)) := Lib.hid (fun V h => by
    have hg := (h.block N (Nat.lt_succ_self _)).trans HG.out
    exact ⟨(cell_of_row _ _ _ _ _ _ hg).trans rfl, (cell_of_row _ _ _ _ _ _ hg).trans rfl, (cell_of_row _ _ _ _ _ _ hg).trans rfl⟩)
  have HST0 : Hid (∀ V V', Below (N + 1) W V → Below V.heap.size V V' → Below (N + 1) W V') := Lib.hid (fun V V' h h' => h.trans (h'.mono (by have := h.size; have := HWN.out; omega)))
  have HEND0 : Hid (∀ V, Below (N + 1) W V → Below w.heap.size w V) := Lib.hid (fun V h => by rw [HN.out]; exact HB.out.trans (h.mono (by omega)))
  have HR0 : Hid (Below (N + 1) W W) := Lib.hid (Below.refl _ _)
  obtain ⟨f0, f1, f2⟩ := HCX.out _ HR0.out
  go_wp2_with (first
    | (go_at_call 5
       (refine (awake13 _ (HL.out.later (HEND0.out _ HR0.out) (Nat.le_refl _))).mono ?_)
       rintro e w2 ⟨rfl, h2⟩
       replace HR0 := Lib.hid (HST0.out _ _ HR0.out h2)
       clear h2 f0 f1 f2
       obtain ⟨f0, f1, f2⟩ := HCX.out _ HR0.out))
  go_ret
  exact ⟨by first | rfl | (simp; done), HEND0.out _ HR0.out⟩
set_option maxRecDepth 100000 in
set_option maxHeartbeats 2000000 in
theorem unique_no (p q s : Nat) (hs : s < 256) (b t : Nat) (hB : Bits b) (hb4 : b ≤ 4) (ht2 : t ≤ 2) (HSC : ∀ w : World, Calls Tryz.prog 7 #[.int .u8 (p : Int), .int .u8 (q : Int)] w fun e w' => e = .returned (.agg #[.int .i64 (b : Int), .int .i64 (t : Int)]) ∧ Below w.heap.size w w') (dg : ByteArray) (idx : Int) (a1 : Option Addr) (n1 k1 : Nat) (a2 : Option Addr) (n2 k2 : Nat) (ps qs : List ByteArray) (hl1 : ps.length < 9223372036854775808) (hl2 : qs.length < 9223372036854775808) (hd : dg.size = 32) (hacc : ¬ SigAcc (b : Int) (t : Int) (sigPub b (seedB s) t) (nb dg) idx (ps.map nb) (qs.map nb)) (w : World) (hx : SigAt w (.agg #[.int .i64 idx, .slice a1 n1 k1, .slice a2 n2 k2]) idx ps qs) (hL : Laid w) :
    Calls Tryz.prog 3 #[.int .u8 (p : Int), .int .u8 (q : Int), .int .u8 (s : Int), .string dg, .agg #[.int .i64 idx, .slice a1 n1 k1, .slice a2 n2 k2]] w fun e w' => e = .returned (.bool true) ∧ Below w.heap.size w w' := by
  have hne : (((dg.size : Nat) : Int) != 32) = false := by rw [hd]; rfl
  have HL := Lib.hid hL
  have ht8 : t ≤ 8 := by omega
  have HX0 : Hid (∀ V, Below w.heap.size w V → SigAt V (.agg #[.int .i64 idx, .slice a1 n1 k1, .slice a2 n2 k2]) idx ps qs) := Lib.hid (fun V h => hx.later h)
  have HX := HX0
  have HSM := Lib.hid (fun w hx => small_any idx (.agg #[.int .i64 idx, .slice a1 n1 k1, .slice a2 n2 k2]) ps qs hl1 hl2 w hx)
  have HVF := Lib.hid (fun (pk : ByteArray) w hx hL => sigVerify_any (b : Int) (t : Int) pk dg idx (.agg #[.int .i64 idx, .slice a1 n1 k1, .slice a2 n2 k2]) ps qs hl1 hl2 w hx hL)
  have HAC : Hid (∀ u : ByteArray, nb u = sigPub b (seedB s) t → decide (SigAcc (b : Int) (t : Int) (nb u) (nb dg) idx (ps.map nb) (qs.map nb)) = false) := Lib.hid (fun u hu => by rw [hu]; exact decide_eq_false hacc)
  have HPK := Lib.hid (fun (u : ByteArray) hu w => refSigPub_ok b t hB ht8 u hu w)
  have HZD := Lib.hid hd
  clear hx hL hd
  go_enter Tryz.func3, Tryz.ntmps3
  go_upto_region 1 with fail
  refine wp_over (fun W => Hid (W.heap[w.heap.size]? = some (.cells #[.int .i64 idx, .slice a1 n1 k1, .slice a2 n2 k2] 24 (0, 0))) ∧ Hid (Below w.heap.size w W) ∧ Hid (W.heap.size = w.heap.size + 1)) ⟨heap_alloc_new _ _, (Below.refl _ _).alloc (Nat.le_refl _) _, by show _ = _; simp⟩ ?_
  rintro W ⟨HG, HB, HWN⟩
  obtain ⟨N, hN⟩ := ex_eq w.heap.size
  rw [hN] at HG HB HWN ⊢
  have HN := Lib.hid hN
  clear hN
  have HCX : Hid (∀ V, Below (N + 1) W V → V.cell? ⟨N, 0, none⟩ = some (.int .i64 idx) ∧ V.cell? ⟨N, 1, none⟩ = some (.slice a1 n1 k1) ∧ V.cell? ⟨N, 2, none⟩ = some (.slice a2 n2 k2)) := Lib.hid (fun V h => by
    have hg := (h.block N (Nat.lt_succ_self _)).trans HG.out
    exact ⟨(cell_of_row _ _ _ _ _ _ hg).trans rfl, (cell_of_row _ _ _ _ _ _ hg).trans rfl, (cell_of_row _ _ _ _ _ _ hg).trans rfl⟩)
  have HST0 : Hid (∀ V V', Below (N + 1) W V → Below V.heap.size V V' → Below (N + 1) W V') := Lib.hid (fun V V' h h' => h.trans (h'.mono (by have := h.size; have := HWN.out; omega)))
  have HEND0 : Hid (∀ V, Below (N + 1) W V → Below w.heap.size w V) := Lib.hid (fun V h => by rw [HN.out]; exact HB.out.trans (h.mono (by omega)))
  have HR0 : Hid (Below (N + 1) W W) := Lib.hid (Below.refl _ _)
  obtain ⟨f0, f1, f2⟩ := HCX.out _ HR0.out
  go_upto_region 3 with (first
    | (go_at_call 5
       (refine (awake13 _ (HL.out.later (HEND0.out _ HR0.out) (Nat.le_refl _))).mono ?_)
       rintro e w2 ⟨rfl, h2⟩
       replace HR0 := Lib.hid (HST0.out _ _ HR0.out h2)
       clear h2 f0 f1 f2
       obtain ⟨f0, f1, f2⟩ := HCX.out _ HR0.out)
    | (go_at_call 6
       (refine (HSM.out _ (HX.out _ (HEND0.out _ HR0.out))).mono ?_)
       rintro e w3 ⟨D, rfl, h3⟩
       replace HR0 := Lib.hid (HST0.out _ _ HR0.out h3)
       clear h3 f0 f1 f2
       obtain ⟨f0, f1, f2⟩ := HCX.out _ HR0.out))
  · -- not small
    go_wp2_with (first
      | (go_at_call 5
         (refine (awake13 _ (HL.out.later (HEND0.out _ HR0.out) (Nat.le_refl _))).mono ?_)
         rintro e w2 ⟨rfl, h2⟩
         replace HR0 := Lib.hid (HST0.out _ _ HR0.out h2)
         clear h2 f0 f1 f2
         obtain ⟨f0, f1, f2⟩ := HCX.out _ HR0.out))
    go_ret
    exact ⟨by first | rfl | (simp; done), HEND0.out _ HR0.out⟩
  clear f0 f1 f2
  go_upto_region 4 with (first
    | (go_at_call 7
       (refine (HSC _).mono ?_)
       rintro e w4 ⟨rfl, h4⟩
       have H4 := Lib.hid (HST0.out _ _ HR0.out h4)
       clear h4))
  refine wp_over (fun W2 => Hid (W2.heap[w4.heap.size]? = some (.cells #[.int .i64 (b : Int), .int .i64 (t : Int)] 28 (0, 0))) ∧ Hid (Below w4.heap.size w4 W2) ∧ Hid (W2.heap.size = w4.heap.size + 1)) ⟨heap_alloc_new _ _, (Below.refl _ _).alloc (Nat.le_refl _) _, by show _ = _; simp⟩ ?_
  rintro W2 ⟨HG2, HB2, HWN2⟩
  obtain ⟨M, hM⟩ := ex_eq w4.heap.size
  have HNM : Hid (N + 1 ≤ M) := Lib.hid (by have := H4.out.size; have := HWN.out; omega)
  have HWW : Hid (Below (N + 1) W W2) := Lib.hid (HST0.out _ _ H4.out HB2.out)
  rw [hM] at HG2 HB2 HWN2 ⊢
  clear hM
  have HCE : Hid (∀ V, Below (M + 1) W2 V → V.cell? ⟨N, 0, none⟩ = some (.int .i64 idx) ∧ V.cell? ⟨N, 1, none⟩ = some (.slice a1 n1 k1) ∧ V.cell? ⟨N, 2, none⟩ = some (.slice a2 n2 k2) ∧ V.cell? ⟨M, 0, none⟩ = some (.int .i64 (b : Int)) ∧ V.cell? ⟨M, 1, none⟩ = some (.int .i64 (t : Int))) := Lib.hid (fun V h => by
    have e2 := (h.block M (Nat.lt_succ_self _)).trans HG2.out
    obtain ⟨c0, c1, c2⟩ := HCX.out V (HWW.out.trans (h.mono (by have := HNM.out; omega)))
    exact ⟨c0, c1, c2, (cell_of_row _ _ _ _ _ _ e2).trans rfl, (cell_of_row _ _ _ _ _ _ e2).trans rfl⟩)
  have HST : Hid (∀ V V', Below (M + 1) W2 V → Below V.heap.size V V' → Below (M + 1) W2 V') := Lib.hid (fun V V' h h' => h.trans (h'.mono (by have := h.size; have := HWN2.out; omega)))
  have HSZ : Hid (∀ V, Below (M + 1) W2 V → M + 1 ≤ V.heap.size) := Lib.hid (fun V h => by have := h.size; have := HWN2.out; omega)
  have HEND : Hid (∀ V, Below (M + 1) W2 V → Below w.heap.size w V) := Lib.hid (fun V h => HEND0.out _ (HWW.out.trans (h.mono (by have := HNM.out; omega))))
  have HLD : Hid (∀ V, Below (M + 1) W2 V → Laid V) := Lib.hid (fun V h => HL.out.later (HEND.out V h) (Nat.le_refl _))
  have HCUR : Hid (Below (M + 1) W2 W2) := Lib.hid (Below.refl _ _)
  clear HST0 HEND0 HR0 HCX HX HSM
  go_upto_region 4 with fail
  refine Kit.wp_region_gplan (fun V => V.cell? ⟨N, 0, none⟩ = some (.int .i64 idx) ∧ V.cell? ⟨N, 1, none⟩ = some (.slice a1 n1 k1) ∧ V.cell? ⟨N, 2, none⟩ = some (.slice a2 n2 k2) ∧ V.cell? ⟨M, 0, none⟩ = some (.int .i64 (b : Int)) ∧ V.cell? ⟨M, 1, none⟩ = some (.int .i64 (t : Int))) [(true, 0), (true, 1), (true, 2), (true, 5), (true, 6), (false, 3), (false, 4), (false, 7), (true, 8)] (by kernel_rfl) (by kernel_rfl) (by kernel_rfl) (by kernel_rfl) (HCE.out _ HCUR.out.drew) ?_
  iterate 5 (refine Kit.gplan_head (by rfl) (by first | exact .inr ⟨by rfl, rfl⟩ | exact .inl ⟨by rfl, fun w' hS => by (dsimp only at hS); go_simp; (try with_reducible rfl)⟩) ?_; (try simp only [Act.put, List.setIfInBounds_toArray, List.set_cons_zero, List.set_cons_succ]))
  refine Kit.gplan_op (by rfl) (by rfl) fun K hK => ?_
  go_simp
  go_at_call 10
  refine (seed_any s hs _).mono ?_
  rintro e w5 ⟨u5, rfl, hu5, hz5, h5⟩
  have HU5 := Lib.hid hu5
  have HZ5 := Lib.hid hz5
  have H5 := Lib.hid (HST.out _ _ HCUR.out.drew h5)
  clear hu5 hz5 h5
  refine hK _ _ (HCE.out _ H5.out) ?_
  clear hK K
  refine Kit.gplan_op (by rfl) (by rfl) fun K hK => ?_
  go_simp
  go_at_call 9
  refine (HPK.out u5 HZ5.out _).mono ?_
  rintro e w6 ⟨u6, rfl, hu6, hz6, h6⟩
  have HU6 : Hid (nb u6 = sigPub b (seedB s) t) := Lib.hid (by rw [hu6, HU5.out])
  have H6 := Lib.hid (HST.out _ _ H5.out h6)
  clear hu6 hz6 h6
  refine hK _ _ (HCE.out _ H6.out) ?_
  clear hK K
  refine Kit.gplan_op (by rfl) (by rfl) fun K hK => ?_
  go_simp
  go_at_call 8
  refine (HVF.out u6 _ (HX0.out _ (HEND.out _ H6.out)) (HLD.out _ H6.out)).mono ?_
  rintro e w7 ⟨rfl, h7⟩
  have H7 := Lib.hid (HST.out _ _ H6.out h7)
  clear h7
  rw [HAC.out _ HU6.out]
  refine hK _ _ (HCE.out _ H7.out) ?_
  clear hK K
  iterate 1 (refine Kit.gplan_head (by rfl) (by first | exact .inr ⟨by rfl, rfl⟩ | exact .inl ⟨by rfl, fun w' hS => by (dsimp only at hS); go_simp; (try with_reducible rfl)⟩) ?_; (try simp only [Act.put, List.setIfInBounds_toArray, List.set_cons_zero, List.set_cons_succ]))
  refine Kit.gplan_done ?_
  (try simp only [Act.put, List.setIfInBounds_toArray, List.set_cons_zero, List.set_cons_succ])
  go_wp2_with fail
  go_ret
  exact ⟨by first | rfl | (simp; done), HEND.out _ H7.out⟩
set_option maxRecDepth 100000 in
set_option maxHeartbeats 2000000 in
theorem unique_yes (p q s : Nat) (hs : s < 256) (b t : Nat) (hB : Bits b) (hb4 : b ≤ 4) (ht2 : t ≤ 2) (HSC : ∀ w : World, Calls Tryz.prog 7 #[.int .u8 (p : Int), .int .u8 (q : Int)] w fun e w' => e = .returned (.agg #[.int .i64 (b : Int), .int .i64 (t : Int)]) ∧ Below w.heap.size w w') (dg : ByteArray) (i : Nat) (a1 : Option Addr) (n1 k1 : Nat) (a2 : Option Addr) (n2 k2 : Nat) (ps qs : List ByteArray) (hl1 : ps.length < 9223372036854775808) (hl2 : qs.length < 9223372036854775808) (hd : dg.size = 32) (hi2 : i < 2 ^ t) (hacc : SigAcc (b : Int) (t : Int) (sigPub b (seedB s) t) (nb dg) (i : Int) (ps.map nb) (qs.map nb)) (w : World) (hx : SigAt w (.agg #[.int .i64 (i : Int), .slice a1 n1 k1, .slice a2 n2 k2]) (i : Int) ps qs) (hL : Laid w) :
    Calls Tryz.prog 3 #[.int .u8 (p : Int), .int .u8 (q : Int), .int .u8 (s : Int), .string dg, .agg #[.int .i64 (i : Int), .slice a1 n1 k1, .slice a2 n2 k2]] w fun e w' => e = .returned (.bool true) ∧ Below w.heap.size w w' := by
  have hne : (((dg.size : Nat) : Int) != 32) = false := by rw [hd]; rfl
  have HL := Lib.hid hL
  have ht8 : t ≤ 8 := by omega
  have HX0 : Hid (∀ V, Below w.heap.size w V → SigAt V (.agg #[.int .i64 (i : Int), .slice a1 n1 k1, .slice a2 n2 k2]) (i : Int) ps qs) := Lib.hid (fun V h => hx.later h)
  have HX := HX0
  have HSM := Lib.hid (fun w hx => small_any (i : Int) (.agg #[.int .i64 (i : Int), .slice a1 n1 k1, .slice a2 n2 k2]) ps qs hl1 hl2 w hx)
  have HVF := Lib.hid (fun (pk : ByteArray) w hx hL => sigVerify_any (b : Int) (t : Int) pk dg (i : Int) (.agg #[.int .i64 (i : Int), .slice a1 n1 k1, .slice a2 n2 k2]) ps qs hl1 hl2 w hx hL)
  have HAC : Hid (∀ u : ByteArray, nb u = sigPub b (seedB s) t → decide (SigAcc (b : Int) (t : Int) (nb u) (nb dg) (i : Int) (ps.map nb) (qs.map nb)) = true) := Lib.hid (fun u hu => by rw [hu]; exact decide_eq_true hacc)
  have HPK := Lib.hid (fun (u : ByteArray) hu w => refSigPub_ok b t hB ht8 u hu w)
  have HZD := Lib.hid hd
  clear hx hL hd
  go_enter Tryz.func3, Tryz.ntmps3
  go_upto_region 1 with fail
  refine wp_over (fun W => Hid (W.heap[w.heap.size]? = some (.cells #[.int .i64 (i : Int), .slice a1 n1 k1, .slice a2 n2 k2] 24 (0, 0))) ∧ Hid (Below w.heap.size w W) ∧ Hid (W.heap.size = w.heap.size + 1)) ⟨heap_alloc_new _ _, (Below.refl _ _).alloc (Nat.le_refl _) _, by show _ = _; simp⟩ ?_
  rintro W ⟨HG, HB, HWN⟩
  obtain ⟨N, hN⟩ := ex_eq w.heap.size
  rw [hN] at HG HB HWN ⊢
  have HN := Lib.hid hN
  clear hN
  have HCX : Hid (∀ V, Below (N + 1) W V → V.cell? ⟨N, 0, none⟩ = some (.int .i64 (i : Int)) ∧ V.cell? ⟨N, 1, none⟩ = some (.slice a1 n1 k1) ∧ V.cell? ⟨N, 2, none⟩ = some (.slice a2 n2 k2)) := Lib.hid (fun V h => by
    have hg := (h.block N (Nat.lt_succ_self _)).trans HG.out
    exact ⟨(cell_of_row _ _ _ _ _ _ hg).trans rfl, (cell_of_row _ _ _ _ _ _ hg).trans rfl, (cell_of_row _ _ _ _ _ _ hg).trans rfl⟩)
  have HST0 : Hid (∀ V V', Below (N + 1) W V → Below V.heap.size V V' → Below (N + 1) W V') := Lib.hid (fun V V' h h' => h.trans (h'.mono (by have := h.size; have := HWN.out; omega)))
  have HEND0 : Hid (∀ V, Below (N + 1) W V → Below w.heap.size w V) := Lib.hid (fun V h => by rw [HN.out]; exact HB.out.trans (h.mono (by omega)))
  have HR0 : Hid (Below (N + 1) W W) := Lib.hid (Below.refl _ _)
  obtain ⟨f0, f1, f2⟩ := HCX.out _ HR0.out
  go_upto_region 3 with (first
    | (go_at_call 5
       (refine (awake13 _ (HL.out.later (HEND0.out _ HR0.out) (Nat.le_refl _))).mono ?_)
       rintro e w2 ⟨rfl, h2⟩
       replace HR0 := Lib.hid (HST0.out _ _ HR0.out h2)
       clear h2 f0 f1 f2
       obtain ⟨f0, f1, f2⟩ := HCX.out _ HR0.out)
    | (go_at_call 6
       (refine (HSM.out _ (HX.out _ (HEND0.out _ HR0.out))).mono ?_)
       rintro e w3 ⟨D, rfl, h3⟩
       replace HR0 := Lib.hid (HST0.out _ _ HR0.out h3)
       clear h3 f0 f1 f2
       obtain ⟨f0, f1, f2⟩ := HCX.out _ HR0.out))
  · -- not small
    go_wp2_with (first
      | (go_at_call 5
         (refine (awake13 _ (HL.out.later (HEND0.out _ HR0.out) (Nat.le_refl _))).mono ?_)
         rintro e w2 ⟨rfl, h2⟩
         replace HR0 := Lib.hid (HST0.out _ _ HR0.out h2)
         clear h2 f0 f1 f2
         obtain ⟨f0, f1, f2⟩ := HCX.out _ HR0.out))
    go_ret
    exact ⟨by first | rfl | (simp; done), HEND0.out _ HR0.out⟩
  clear f0 f1 f2
  go_upto_region 4 with (first
    | (go_at_call 7
       (refine (HSC _).mono ?_)
       rintro e w4 ⟨rfl, h4⟩
       have H4 := Lib.hid (HST0.out _ _ HR0.out h4)
       clear h4))
  refine wp_over (fun W2 => Hid (W2.heap[w4.heap.size]? = some (.cells #[.int .i64 (b : Int), .int .i64 (t : Int)] 28 (0, 0))) ∧ Hid (Below w4.heap.size w4 W2) ∧ Hid (W2.heap.size = w4.heap.size + 1)) ⟨heap_alloc_new _ _, (Below.refl _ _).alloc (Nat.le_refl _) _, by show _ = _; simp⟩ ?_
  rintro W2 ⟨HG2, HB2, HWN2⟩
  obtain ⟨M, hM⟩ := ex_eq w4.heap.size
  have HNM : Hid (N + 1 ≤ M) := Lib.hid (by have := H4.out.size; have := HWN.out; omega)
  have HWW : Hid (Below (N + 1) W W2) := Lib.hid (HST0.out _ _ H4.out HB2.out)
  rw [hM] at HG2 HB2 HWN2 ⊢
  clear hM
  have HCE : Hid (∀ V, Below (M + 1) W2 V → V.cell? ⟨N, 0, none⟩ = some (.int .i64 (i : Int)) ∧ V.cell? ⟨N, 1, none⟩ = some (.slice a1 n1 k1) ∧ V.cell? ⟨N, 2, none⟩ = some (.slice a2 n2 k2) ∧ V.cell? ⟨M, 0, none⟩ = some (.int .i64 (b : Int)) ∧ V.cell? ⟨M, 1, none⟩ = some (.int .i64 (t : Int))) := Lib.hid (fun V h => by
    have e2 := (h.block M (Nat.lt_succ_self _)).trans HG2.out
    obtain ⟨c0, c1, c2⟩ := HCX.out V (HWW.out.trans (h.mono (by have := HNM.out; omega)))
    exact ⟨c0, c1, c2, (cell_of_row _ _ _ _ _ _ e2).trans rfl, (cell_of_row _ _ _ _ _ _ e2).trans rfl⟩)
  have HST : Hid (∀ V V', Below (M + 1) W2 V → Below V.heap.size V V' → Below (M + 1) W2 V') := Lib.hid (fun V V' h h' => h.trans (h'.mono (by have := h.size; have := HWN2.out; omega)))
  have HSZ : Hid (∀ V, Below (M + 1) W2 V → M + 1 ≤ V.heap.size) := Lib.hid (fun V h => by have := h.size; have := HWN2.out; omega)
  have HEND : Hid (∀ V, Below (M + 1) W2 V → Below w.heap.size w V) := Lib.hid (fun V h => HEND0.out _ (HWW.out.trans (h.mono (by have := HNM.out; omega))))
  have HLD : Hid (∀ V, Below (M + 1) W2 V → Laid V) := Lib.hid (fun V h => HL.out.later (HEND.out V h) (Nat.le_refl _))
  have HCUR : Hid (Below (M + 1) W2 W2) := Lib.hid (Below.refl _ _)
  clear HST0 HEND0 HR0 HCX HX HSM
  go_upto_region 4 with fail
  refine Kit.wp_region_gplan (fun V => V.cell? ⟨N, 0, none⟩ = some (.int .i64 (i : Int)) ∧ V.cell? ⟨N, 1, none⟩ = some (.slice a1 n1 k1) ∧ V.cell? ⟨N, 2, none⟩ = some (.slice a2 n2 k2) ∧ V.cell? ⟨M, 0, none⟩ = some (.int .i64 (b : Int)) ∧ V.cell? ⟨M, 1, none⟩ = some (.int .i64 (t : Int))) [(true, 0), (true, 1), (true, 2), (true, 5), (true, 6), (false, 3), (false, 4), (false, 7), (true, 8)] (by kernel_rfl) (by kernel_rfl) (by kernel_rfl) (by kernel_rfl) (HCE.out _ HCUR.out.drew) ?_
  iterate 5 (refine Kit.gplan_head (by rfl) (by first | exact .inr ⟨by rfl, rfl⟩ | exact .inl ⟨by rfl, fun w' hS => by (dsimp only at hS); go_simp; (try with_reducible rfl)⟩) ?_; (try simp only [Act.put, List.setIfInBounds_toArray, List.set_cons_zero, List.set_cons_succ]))
  refine Kit.gplan_op (by rfl) (by rfl) fun K hK => ?_
  go_simp
  go_at_call 10
  refine (seed_any s hs _).mono ?_
  rintro e w5 ⟨u5, rfl, hu5, hz5, h5⟩
  have HU5 := Lib.hid hu5
  have HZ5 := Lib.hid hz5
  have H5 := Lib.hid (HST.out _ _ HCUR.out.drew h5)
  clear hu5 hz5 h5
  refine hK _ _ (HCE.out _ H5.out) ?_
  clear hK K
  refine Kit.gplan_op (by rfl) (by rfl) fun K hK => ?_
  go_simp
  go_at_call 9
  refine (HPK.out u5 HZ5.out _).mono ?_
  rintro e w6 ⟨u6, rfl, hu6, hz6, h6⟩
  have HU6 : Hid (nb u6 = sigPub b (seedB s) t) := Lib.hid (by rw [hu6, HU5.out])
  have H6 := Lib.hid (HST.out _ _ H5.out h6)
  clear hu6 hz6 h6
  refine hK _ _ (HCE.out _ H6.out) ?_
  clear hK K
  refine Kit.gplan_op (by rfl) (by rfl) fun K hK => ?_
  go_simp
  go_at_call 8
  refine (HVF.out u6 _ (HX0.out _ (HEND.out _ H6.out)) (HLD.out _ H6.out)).mono ?_
  rintro e w7 ⟨rfl, h7⟩
  have H7 := Lib.hid (HST.out _ _ H6.out h7)
  clear h7
  rw [HAC.out _ HU6.out]
  refine hK _ _ (HCE.out _ H7.out) ?_
  clear hK K
  iterate 1 (refine Kit.gplan_head (by rfl) (by first | exact .inr ⟨by rfl, rfl⟩ | exact .inl ⟨by rfl, fun w' hS => by (dsimp only at hS); go_simp; (try with_reducible rfl)⟩) ?_; (try simp only [Act.put, List.setIfInBounds_toArray, List.set_cons_zero, List.set_cons_succ]))
  refine Kit.gplan_done ?_
  (try simp only [Act.put, List.setIfInBounds_toArray, List.set_cons_zero, List.set_cons_succ])
  have HFT := Lib.hid (fun w hx => refFits_any (b : Int) (t : Int) dg (i : Int) (.agg #[.int .i64 (i : Int), .slice a1 n1 k1, .slice a2 n2 k2]) ps qs hl1 hl2 w hx)
  rw [decide_eq_true hacc.1] at HFT
  have HSG := Lib.hid (fun (u : ByteArray) hu w => refSigSign_ok b t i hB ht8 hi2 u hu dg HZD.out w)
  obtain ⟨f0, f1, f2, f3, f4⟩ := HCE.out _ H7.out
  go_upto_region 8 with (first
    | (go_at_call 11
       (refine (HFT.out _ (HX0.out _ (HEND.out _ H7.out))).mono ?_)
       rintro e w8 ⟨rfl, h8⟩
       have H8 := Lib.hid (HST.out _ _ H7.out h8)
       clear h8 f0 f1 f2 f3 f4))
  have HAC2 := Lib.hid hacc
  have HI2 := Lib.hid hi2
  have HD32 : Hid ((nb dg).length = 32) := Lib.hid (by rw [nb_length]; exact HZD.out)
  have hpc : n1 = count b 32 := by
    have h := hacc.1.2.2.2.2.2.2.1
    rw [Int.toNat_natCast, List.length_map] at h
    obtain ⟨_, _, _, _, _, _, e, h2, _⟩ := HX0.out _ (Below.refl _ _)
    cases e
    omega
  have hqc : n2 = t := by
    have h := hacc.1.2.2.2.2.1
    rw [List.length_map] at h
    obtain ⟨_, _, _, _, _, _, e, _, _, h2, _⟩ := HX0.out _ (Below.refl _ _)
    cases e
    omega
  have HC1 : Hid (n1 = count b 32 ∧ n1 ≤ 999 ∧ n2 = t) := Lib.hid ⟨hpc, by have := count_le hB (n := 32) (by decide); omega, hqc⟩
  have HSZ2 := Lib.hid (shape_nb2 hacc.1.2.2.2.2.2.1 hacc.1.2.2.2.2.2.2.2)
  have HXS : Hid (ps.length = n1 ∧ qs.length = n2 ∧ ∀ V, Below w.heap.size w V → StrsAt V a1 ps ∧ StrsAt V a2 qs) := Lib.hid (by
    obtain ⟨_, _, _, _, _, _, e, h1, _, h2, _⟩ := HX0.out _ (Below.refl _ _)
    cases e
    refine ⟨h1, h2, fun V h => ?_⟩
    obtain ⟨_, _, _, _, _, _, e, _, h3, _, h4⟩ := HX0.out _ h
    cases e
    exact ⟨h3, h4⟩)
  obtain ⟨ds, hds⟩ := ex_eq (One.digits b (nb dg))
  have HDS := Lib.hid hds
  have HDSL : Hid (ds.length = n1) := Lib.hid (by rw [← hds, digits_length hB, HD32.out]; exact HC1.out.1.symm)
  have HDSB : Hid (∀ x ∈ ds, x ≤ last b) := Lib.hid (by rw [← hds]; exact digits_last (nb dg))
  have hdg := fun w => refDigits_any b dg hB (by rw [HZD.out]; decide) (by rw [HZD.out]; decide) w
  rw [HZD.out, hds] at hdg
  have HDG := Lib.hid hdg
  have HP8 : Hid (2 ^ t ≤ 256) := Lib.hid (Nat.pow_le_pow_right (n := 2) (by decide) ht8)
  clear hdg hds
  clear hpc hqc hacc HVF HAC HPK HFT hi2 hne
  apply Kit.join8 (F := (fun A2 u9 b1 m1 d1 b2 m2 d2 w12 => ∃ ps2 qs2 : List ByteArray, Hid (w12.heap[A2]? = some (.cells #[.int .i64 (i : Int), .slice b1 m1 d1, .slice b2 m2 d2] 24 (0, 0))) ∧ Hid (StrsAt w12 b1 ps2 ∧ StrsAt w12 b2 qs2) ∧ Hid (Below (M + 1) W2 w12) ∧ Hid (ps2.length = m1 ∧ qs2.length = m2) ∧ Hid (ps2.map nb = sigParts b (seedB s) i (nb dg) ∧ qs2.map nb = sigPath b (seedB s) t i)))
  case main =>
    intro HJ
    refine Kit.wp_region_tplan (fun V => V.cell? ⟨N, 0, none⟩ = some (.int .i64 (i : Int)) ∧ V.cell? ⟨N, 1, none⟩ = some (.slice a1 n1 k1) ∧ V.cell? ⟨N, 2, none⟩ = some (.slice a2 n2 k2) ∧ V.cell? ⟨M, 0, none⟩ = some (.int .i64 (b : Int)) ∧ V.cell? ⟨M, 1, none⟩ = some (.int .i64 (t : Int))) (.heads [0, 1, 3, 4, 5] (.op2 2 (.op2 6 (.op1 7 (.op1 8 .done)) 7 (.op1 6 (.op1 8 .done))) 7 (.op1 2 (.op1 6 (.op1 8 .done))))) (by kernel_rfl) (by kernel_rfl) (by kernel_rfl) (by kernel_rfl) (HCE.out _ H8.out.drew) ?_
    iterate 5 (refine Kit.tplan_head (by rfl) (by first | exact .inr ⟨by rfl, rfl⟩ | exact .inl ⟨by rfl, fun w' hS => by (dsimp only at hS); go_simp; (try with_reducible rfl)⟩) ?_; (try simp only [Act.put, List.setIfInBounds_toArray, List.set_cons_zero, List.set_cons_succ]))
    obtain ⟨w20, hw20⟩ := ex_eq w8.drew
    have H20 : Hid (Below (M + 1) W2 w20) := Lib.hid (by rw [← hw20]; exact H8.out.drew)
    rw [hw20]
    clear hw20
    refine Kit.tplan_op2 ?_ ?_
    rotate_left
    focus (
      refine Kit.tplan_op1 (by rfl) (by rfl) fun K hK => ?_
      go_simp
      have hra := heap_alloc_new w20 (.cells #[.int .i64 0, .slice none 0 0, .slice none 0 0] 24)
      have hba : Below w20.heap.size w20 (w20.alloc (.cells #[.int .i64 0, .slice none 0 0, .slice none 0 0] 24)) := (Below.refl _ _).alloc (Nat.le_refl _) _
      obtain ⟨w11, hw11⟩ := ex_eq (w20.alloc (.cells #[.int .i64 0, .slice none 0 0, .slice none 0 0] 24))
      rw [hw11] at hra hba ⊢
      have HAM : Hid (M + 1 ≤ w20.heap.size) := Lib.hid (HSZ.out _ H20.out)
      have H11 := Lib.hid (HST.out _ _ H20.out hba)
      have HBA := Lib.hid hba
      obtain ⟨A2, hA2⟩ := ex_eq w20.heap.size
      rw [hA2] at hra HAM ⊢
      have HRA := Lib.hid hra
      clear hra hba hw11 hA2
      refine hK _ _ (HCE.out _ H11.out) ?_
      clear hK K
      refine Kit.tplan_op1 (by rfl) (by rfl) fun K hK => ?_
      go_simp
      go_at_call 10
      refine (seed_any s hs _).mono ?_
      rintro e w9 ⟨u9, rfl, hu9, hz9, h9⟩
      have HU9 := Lib.hid hu9
      have HZ9 := Lib.hid hz9
      have H9 := Lib.hid (HST.out _ _ H11.out h9)
      replace HRA := Lib.hid ((h9.block A2 (Array.getElem?_eq_some_iff.1 HRA.out).1).trans HRA.out)
      clear hu9 hz9 h9
      refine hK _ _ (HCE.out _ H9.out) ?_
      clear hK K
      refine Kit.tplan_op1 (by rfl) (by rfl) fun K hK => ?_
      go_simp
      go_at_call 12
      refine (HSG.out u9 HZ9.out _).mono ?_
      rintro e w10 ⟨x10, ps2, qs2, rfl, hx10, hps2, hqs2, h10⟩
      obtain ⟨b1, m1, d1, b2, m2, d2, rfl, hm1, hA1, hm2, hA2⟩ := hx10
      have H10 := Lib.hid (HST.out _ _ H9.out h10)
      have HS1 := Lib.hid hA1
      have HS2 := Lib.hid hA2
      have HLM := Lib.hid (And.intro hm1 hm2)
      have HPQ : Hid (ps2.map nb = sigParts b (seedB s) i (nb dg) ∧ qs2.map nb = sigPath b (seedB s) t i) := Lib.hid ⟨by rw [hps2, HU9.out], by rw [hqs2, HU9.out]⟩
      replace HRA := Lib.hid ((h10.block A2 (Array.getElem?_eq_some_iff.1 HRA.out).1).trans HRA.out)
      clear h10 hps2 hqs2 hm1 hm2 hA1 hA2
      refine hK _ _ (HCE.out _ H10.out) ?_
      clear hK K
      obtain ⟨z0, z1, z2⟩ := box3 HRA.out (Below.refl _ _)
      have zf : ∀ j, w10.frozen? ⟨A2, j, none⟩ = false := fun j => frozen_of_row _ _ _ _ _ HRA.out
      refine Kit.tplan_op1 (by rfl) (by rfl) fun K hK => ?_
      go_simp
      have hr := row3 (x0 := .int .i64 (i : Int)) (x1 := .slice b1 m1 d1) (x2 := .slice b2 m2 d2) HRA.out
      have hs1 := strs3 (x0 := .int .i64 (i : Int)) (x1 := .slice b1 m1 d1) (x2 := .slice b2 m2 d2) HS1.out HRA.out
      have hs2 := strs3 (x0 := .int .i64 (i : Int)) (x1 := .slice b1 m1 d1) (x2 := .slice b2 m2 d2) HS2.out HRA.out
      have hbl := below3 (x0 := .int .i64 (i : Int)) (x1 := .slice b1 m1 d1) (x2 := .slice b2 m2 d2) H10.out HAM.out
      obtain ⟨w12, hw12⟩ := ex_eq (((w10.setCell ⟨A2, 0, none⟩ (.int .i64 (i : Int))).setCell ⟨A2, 1, none⟩ (.slice b1 m1 d1)).setCell ⟨A2, 2, none⟩ (.slice b2 m2 d2))
      rw [hw12] at hr hs1 hs2 hbl ⊢
      have HY12 := Lib.hid hr
      have HS12 := Lib.hid (And.intro hs1 hs2)
      have H12 := Lib.hid hbl
      clear hr hs1 hs2 hbl hw12 z0 z1 z2 zf HRA HS1 HS2 HBA
      refine hK _ _ (HCE.out _ H12.out) ?_
      clear hK K
      refine Kit.tplan_done ?_
      (try simp only [Act.put, List.setIfInBounds_toArray, List.set_cons_zero, List.set_cons_succ])
      exact HJ A2 u9 b1 m1 d1 b2 m2 d2 w12 ⟨ps2, qs2, HY12, HS12, H12, HLM, HPQ⟩)
    refine Kit.tplan_op1 (by rfl) (by rfl) fun K hK => ?_
    go_simp
    go_at_call 10
    refine (seed_any s hs _).mono ?_
    rintro e w9 ⟨u9, rfl, hu9, hz9, h9⟩
    have HU9 := Lib.hid hu9
    have HZ9 := Lib.hid hz9
    have H9 := Lib.hid (HST.out _ _ H20.out h9)
    clear hu9 hz9 h9
    refine hK _ _ (HCE.out _ H9.out) ?_
    clear hK K
    refine Kit.tplan_op2 ?_ ?_
    focus (
      refine Kit.tplan_op1 (by rfl) (by rfl) fun K hK => ?_
      go_simp
      go_at_call 12
      refine (HSG.out u9 HZ9.out _).mono ?_
      rintro e w10 ⟨x10, ps2, qs2, rfl, hx10, hps2, hqs2, h10⟩
      obtain ⟨b1, m1, d1, b2, m2, d2, rfl, hm1, hA1, hm2, hA2⟩ := hx10
      have H10 := Lib.hid (HST.out _ _ H9.out h10)
      have HS1 := Lib.hid hA1
      have HS2 := Lib.hid hA2
      have HLM := Lib.hid (And.intro hm1 hm2)
      have HPQ : Hid (ps2.map nb = sigParts b (seedB s) i (nb dg) ∧ qs2.map nb = sigPath b (seedB s) t i) := Lib.hid ⟨by rw [hps2, HU9.out], by rw [hqs2, HU9.out]⟩
      clear h10 hps2 hqs2 hm1 hm2 hA1 hA2
      refine hK _ _ (HCE.out _ H10.out) ?_
      clear hK K
      refine Kit.tplan_op1 (by rfl) (by rfl) fun K hK => ?_
      go_simp
      have hra := heap_alloc_new w10 (.cells #[.int .i64 0, .slice none 0 0, .slice none 0 0] 24)
      have hba : Below w10.heap.size w10 (w10.alloc (.cells #[.int .i64 0, .slice none 0 0, .slice none 0 0] 24)) := (Below.refl _ _).alloc (Nat.le_refl _) _
      obtain ⟨w11, hw11⟩ := ex_eq (w10.alloc (.cells #[.int .i64 0, .slice none 0 0, .slice none 0 0] 24))
      rw [hw11] at hra hba ⊢
      have HAM : Hid (M + 1 ≤ w10.heap.size) := Lib.hid (HSZ.out _ H10.out)
      have H11 := Lib.hid (HST.out _ _ H10.out hba)
      have HBA := Lib.hid hba
      obtain ⟨A2, hA2⟩ := ex_eq w10.heap.size
      rw [hA2] at hra HAM ⊢
      have HRA := Lib.hid hra
      clear hra hba hw11 hA2
      refine hK _ _ (HCE.out _ H11.out) ?_
      clear hK K
      replace HS1 := Lib.hid (HS1.out.later HBA.out)
      replace HS2 := Lib.hid (HS2.out.later HBA.out)
      obtain ⟨z0, z1, z2⟩ := box3 HRA.out (Below.refl _ _)
      have zf : ∀ j, w11.frozen? ⟨A2, j, none⟩ = false := fun j => frozen_of_row _ _ _ _ _ HRA.out
      refine Kit.tplan_op1 (by rfl) (by rfl) fun K hK => ?_
      go_simp
      have hr := row3 (x0 := .int .i64 (i : Int)) (x1 := .slice b1 m1 d1) (x2 := .slice b2 m2 d2) HRA.out
      have hs1 := strs3 (x0 := .int .i64 (i : Int)) (x1 := .slice b1 m1 d1) (x2 := .slice b2 m2 d2) HS1.out HRA.out
      have hs2 := strs3 (x0 := .int .i64 (i : Int)) (x1 := .slice b1 m1 d1) (x2 := .slice b2 m2 d2) HS2.out HRA.out
      have hbl := below3 (x0 := .int .i64 (i : Int)) (x1 := .slice b1 m1 d1) (x2 := .slice b2 m2 d2) H11.out HAM.out
      obtain ⟨w12, hw12⟩ := ex_eq (((w11.setCell ⟨A2, 0, none⟩ (.int .i64 (i : Int))).setCell ⟨A2, 1, none⟩ (.slice b1 m1 d1)).setCell ⟨A2, 2, none⟩ (.slice b2 m2 d2))
      rw [hw12] at hr hs1 hs2 hbl ⊢
      have HY12 := Lib.hid hr
      have HS12 := Lib.hid (And.intro hs1 hs2)
      have H12 := Lib.hid hbl
      clear hr hs1 hs2 hbl hw12 z0 z1 z2 zf HRA HS1 HS2 HBA
      refine hK _ _ (HCE.out _ H12.out) ?_
      clear hK K
      refine Kit.tplan_done ?_
      (try simp only [Act.put, List.setIfInBounds_toArray, List.set_cons_zero, List.set_cons_succ])
      exact HJ A2 u9 b1 m1 d1 b2 m2 d2 w12 ⟨ps2, qs2, HY12, HS12, H12, HLM, HPQ⟩)
    focus (
      refine Kit.tplan_op1 (by rfl) (by rfl) fun K hK => ?_
      go_simp
      have hra := heap_alloc_new w9 (.cells #[.int .i64 0, .slice none 0 0, .slice none 0 0] 24)
      have hba : Below w9.heap.size w9 (w9.alloc (.cells #[.int .i64 0, .slice none 0 0, .slice none 0 0] 24)) := (Below.refl _ _).alloc (Nat.le_refl _) _
      obtain ⟨w11, hw11⟩ := ex_eq (w9.alloc (.cells #[.int .i64 0, .slice none 0 0, .slice none 0 0] 24))
      rw [hw11] at hra hba ⊢
      have HAM : Hid (M + 1 ≤ w9.heap.size) := Lib.hid (HSZ.out _ H9.out)
      have H11 := Lib.hid (HST.out _ _ H9.out hba)
      have HBA := Lib.hid hba
      obtain ⟨A2, hA2⟩ := ex_eq w9.heap.size
      rw [hA2] at hra HAM ⊢
      have HRA := Lib.hid hra
      clear hra hba hw11 hA2
      refine hK _ _ (HCE.out _ H11.out) ?_
      clear hK K
      refine Kit.tplan_op1 (by rfl) (by rfl) fun K hK => ?_
      go_simp
      go_at_call 12
      refine (HSG.out u9 HZ9.out _).mono ?_
      rintro e w10 ⟨x10, ps2, qs2, rfl, hx10, hps2, hqs2, h10⟩
      obtain ⟨b1, m1, d1, b2, m2, d2, rfl, hm1, hA1, hm2, hA2⟩ := hx10
      have H10 := Lib.hid (HST.out _ _ H11.out h10)
      have HS1 := Lib.hid hA1
      have HS2 := Lib.hid hA2
      have HLM := Lib.hid (And.intro hm1 hm2)
      have HPQ : Hid (ps2.map nb = sigParts b (seedB s) i (nb dg) ∧ qs2.map nb = sigPath b (seedB s) t i) := Lib.hid ⟨by rw [hps2, HU9.out], by rw [hqs2, HU9.out]⟩
      replace HRA := Lib.hid ((h10.block A2 (Array.getElem?_eq_some_iff.1 HRA.out).1).trans HRA.out)
      clear h10 hps2 hqs2 hm1 hm2 hA1 hA2
      refine hK _ _ (HCE.out _ H10.out) ?_
      clear hK K
      obtain ⟨z0, z1, z2⟩ := box3 HRA.out (Below.refl _ _)
      have zf : ∀ j, w10.frozen? ⟨A2, j, none⟩ = false := fun j => frozen_of_row _ _ _ _ _ HRA.out
      refine Kit.tplan_op1 (by rfl) (by rfl) fun K hK => ?_
      go_simp
      have hr := row3 (x0 := .int .i64 (i : Int)) (x1 := .slice b1 m1 d1) (x2 := .slice b2 m2 d2) HRA.out
      have hs1 := strs3 (x0 := .int .i64 (i : Int)) (x1 := .slice b1 m1 d1) (x2 := .slice b2 m2 d2) HS1.out HRA.out
      have hs2 := strs3 (x0 := .int .i64 (i : Int)) (x1 := .slice b1 m1 d1) (x2 := .slice b2 m2 d2) HS2.out HRA.out
      have hbl := below3 (x0 := .int .i64 (i : Int)) (x1 := .slice b1 m1 d1) (x2 := .slice b2 m2 d2) H10.out HAM.out
      obtain ⟨w12, hw12⟩ := ex_eq (((w10.setCell ⟨A2, 0, none⟩ (.int .i64 (i : Int))).setCell ⟨A2, 1, none⟩ (.slice b1 m1 d1)).setCell ⟨A2, 2, none⟩ (.slice b2 m2 d2))
      rw [hw12] at hr hs1 hs2 hbl ⊢
      have HY12 := Lib.hid hr
      have HS12 := Lib.hid (And.intro hs1 hs2)
      have H12 := Lib.hid hbl
      clear hr hs1 hs2 hbl hw12 z0 z1 z2 zf HRA HS1 HS2 HBA
      refine hK _ _ (HCE.out _ H12.out) ?_
      clear hK K
      refine Kit.tplan_done ?_
      (try simp only [Act.put, List.setIfInBounds_toArray, List.set_cons_zero, List.set_cons_succ])
      exact HJ A2 u9 b1 m1 d1 b2 m2 d2 w12 ⟨ps2, qs2, HY12, HS12, H12, HLM, HPQ⟩)
  case rest =>
    rintro A2 u9 b1 m1 d1 b2 m2 d2 w12 ⟨ps2, qs2, HY12, HS12, H12, HLM, HPQ⟩
    focus (
      have HT12 : Hid (∀ V V', Below w12.heap.size w12 V → Below V.heap.size V V' → Below w12.heap.size w12 V') := Lib.hid (fun V V' h h' => h.trans (h'.mono h.size))
      have HC12 : Hid (∀ V, Below w12.heap.size w12 V → V.cell? ⟨N, 0, none⟩ = some (.int .i64 (i : Int)) ∧ V.cell? ⟨N, 1, none⟩ = some (.slice a1 n1 k1) ∧ V.cell? ⟨N, 2, none⟩ = some (.slice a2 n2 k2) ∧ V.cell? ⟨M, 0, none⟩ = some (.int .i64 (b : Int)) ∧ V.cell? ⟨M, 1, none⟩ = some (.int .i64 (t : Int)) ∧ V.cell? ⟨A2, 0, none⟩ = some (.int .i64 (i : Int)) ∧ V.cell? ⟨A2, 1, none⟩ = some (.slice b1 m1 d1) ∧ V.cell? ⟨A2, 2, none⟩ = some (.slice b2 m2 d2)) := Lib.hid (fun V h => by
        obtain ⟨c0, c1, c2, c3, c4⟩ := HCE.out _ (HST.out _ _ H12.out h)
        exact ⟨c0, c1, c2, c3, c4, box3 HY12.out h⟩)
      have HM1 : Hid (n1 = m1 ∧ n2 = m2 ∧ n1 ≤ 1000000 ∧ n2 ≤ 1000000) := Lib.hid (by
        have h1 := congrArg List.length HPQ.out.1
        have h2 := congrArg List.length HPQ.out.2
        rw [List.length_map, sigParts_len b hB _ _ _ HD32.out] at h1
        rw [List.length_map, sigPath_len] at h2
        have h3 := HLM.out
        have h4 := HC1.out
        omega)
      have hm1 := HM1.out.1
      have hm2 := HM1.out.2.1
      subst hm1 hm2
      obtain ⟨g0, g1, g2, g3, g4, g5, g6, g7⟩ := HC12.out _ (Below.refl _ _)
      by_cases hsame : ps = ps2 ∧ qs = qs2
      · have HDD : Hid ((decide ((i : Int) = (i : Int)) && decide (ps = ps2) && decide (qs = qs2)) = true) := Lib.hid (by rw [decide_eq_true hsame.1, decide_eq_true hsame.2]; simp)
        clear hsame
        go_wp2_with (first
          | (go_at_call 13
             (refine (sigSame_any (i : Int) (i : Int) a1 a2 b1 b2 n1 n2 n1 n2 k1 k2 d1 d2 ps qs ps2 qs2 HXS.out.1 HXS.out.2.1 HLM.out.1 HLM.out.2 HM1.out.2.2.1 HM1.out.2.2.2 HM1.out.2.2.1 HM1.out.2.2.2 _ (HXS.out.2.2 _ (HEND.out _ H12.out)).1 (HXS.out.2.2 _ (HEND.out _ H12.out)).2 HS12.out.1 HS12.out.2).mono ?_)
             rintro e w21 ⟨rfl, h21⟩
             rw [HDD.out]
             have H21 := Lib.hid (HST.out _ _ H12.out h21)
             clear h21))
        go_ret
        exact ⟨by first | rfl | (simp; done), HEND.out _ H21.out⟩
      · have HDD : Hid ((decide ((i : Int) = (i : Int)) && decide (ps = ps2) && decide (qs = qs2)) = false) := Lib.hid (by
          by_cases h1 : ps = ps2
          · rw [decide_eq_false (fun h2 => hsame ⟨h1, h2⟩)]; simp
          · rw [decide_eq_false h1]; simp)
        have HNS := Lib.hid hsame
        clear hsame
        go_upto_region 12 with (first
          | (go_at_call 13
             (refine (sigSame_any (i : Int) (i : Int) a1 a2 b1 b2 n1 n2 n1 n2 k1 k2 d1 d2 ps qs ps2 qs2 HXS.out.1 HXS.out.2.1 HLM.out.1 HLM.out.2 HM1.out.2.2.1 HM1.out.2.2.2 HM1.out.2.2.1 HM1.out.2.2.2 _ (HXS.out.2.2 _ (HEND.out _ H12.out)).1 (HXS.out.2.2 _ (HEND.out _ H12.out)).2 HS12.out.1 HS12.out.2).mono ?_)
             rintro e w21 ⟨rfl, h21⟩
             rw [HDD.out]
             have H21 := Lib.hid h21
             clear h21 g0 g1 g2 g3 g4 g5 g6 g7
             obtain ⟨g0, g1, g2, g3, g4, g5, g6, g7⟩ := HC12.out _ H21.out)
          | (go_at_call 14
             (refine (refParams_any (b : Int) (t : Int) _).mono ?_)
             rintro e w22 ⟨rfl, h22⟩
             have H22 := Lib.hid (HT12.out _ _ H21.out h22)
             clear h22 g0 g1 g2 g3 g4 g5 g6 g7))
        refine wp_over (fun U => Hid (U.heap[w22.heap.size]? = some (.cells #[.int .i64 (b : Int), .int .i64 32] 37 (0, 0))) ∧ Hid (Below w22.heap.size w22 U)) ⟨heap_alloc_new _ _, (Below.refl _ _).alloc (Nat.le_refl _) _⟩ ?_
        rintro W3 ⟨HP3, HW3⟩
        obtain ⟨A3, hA3⟩ := ex_eq w22.heap.size
        have H3 := Lib.hid (HT12.out _ _ H22.out HW3.out)
        rw [hA3] at HP3 ⊢
        clear hA3 HW3
        obtain ⟨p0, p1⟩ : W3.cell? ⟨A3, 0, none⟩ = some (.int .i64 (b : Int)) ∧ W3.cell? ⟨A3, 1, none⟩ = some (.int .i64 32) := ⟨(cell_of_row _ _ _ _ _ _ HP3.out).trans rfl, (cell_of_row _ _ _ _ _ _ HP3.out).trans rfl⟩
        go_upto_region 13 with (first
          | (go_at_call 15
             (refine (HDG.out _).mono ?_)
             rintro e w23 ⟨x23, L23, rfl, _, ho23, h23⟩
             obtain ⟨_, a3, c3, rfl, _, _, hI23, _⟩ := ints_of_own ho23
             have HI23 := Lib.hid hI23
             have H23 := Lib.hid (HT12.out _ _ H3.out h23)
             have HP23 := Lib.hid ((h23.block A3 (Array.getElem?_eq_some_iff.1 HP3.out).1).trans HP3.out)
             clear ho23 hI23 h23 p0 p1))
        rw [HDSL.out]
        have HT4 : Hid (∀ V V', Below w23.heap.size w23 V → Below V.heap.size V V' → Below w23.heap.size w23 V') := Lib.hid (fun V V' h h' => h.trans (h'.mono h.size))
        have HC4 : Hid (∀ V, Below w23.heap.size w23 V → (V.cell? ⟨N, 0, none⟩ = some (.int .i64 (i : Int)) ∧ V.cell? ⟨N, 1, none⟩ = some (.slice a1 n1 k1) ∧ V.cell? ⟨N, 2, none⟩ = some (.slice a2 n2 k2) ∧ V.cell? ⟨M, 0, none⟩ = some (.int .i64 (b : Int)) ∧ V.cell? ⟨M, 1, none⟩ = some (.int .i64 (t : Int)) ∧ V.cell? ⟨A2, 0, none⟩ = some (.int .i64 (i : Int)) ∧ V.cell? ⟨A2, 1, none⟩ = some (.slice b1 n1 d1) ∧ V.cell? ⟨A2, 2, none⟩ = some (.slice b2 n2 d2) ∧ V.cell? ⟨A3, 0, none⟩ = some (.int .i64 (b : Int)) ∧ V.cell? ⟨A3, 1, none⟩ = some (.int .i64 32)) ∧ StrsAt V a1 ps ∧ StrsAt V b1 ps2 ∧ StrsAt V a2 qs ∧ StrsAt V b2 qs2 ∧ IntsAt V a3 ds) := Lib.hid (fun V h => by
          have h1 := HT12.out _ _ H23.out h
          have h2 := HEND.out _ (HST.out _ _ H12.out h1)
          obtain ⟨c0, c1, c2, c3, c4, c5, c6, c7⟩ := HC12.out _ h1
          have hg := (h.block A3 (Array.getElem?_eq_some_iff.1 HP23.out).1).trans HP23.out
          exact ⟨⟨c0, c1, c2, c3, c4, c5, c6, c7, (cell_of_row _ _ _ _ _ _ hg).trans rfl, (cell_of_row _ _ _ _ _ _ hg).trans rfl⟩, (HXS.out.2.2 _ h2).1, HS12.out.1.later h1, (HXS.out.2.2 _ h2).2, HS12.out.2.later h1, HI23.out.later h⟩)
        have HEND4 : Hid (∀ V, Below w23.heap.size w23 V → Below w.heap.size w V) := Lib.hid (fun V h => HEND.out _ (HST.out _ _ H12.out (HT12.out _ _ H23.out h)))
        have HP2 : Hid (∀ x ∈ ps2, x.size = 32) := Lib.hid (fun x hx => by
          rw [← nb_length]
          refine sigParts_32 b (seedB s) i (nb dg) _ ?_
          rw [← HPQ.out.1]
          exact List.mem_map_of_mem hx)
        have HQ2 : Hid (∀ x ∈ qs2, x.size = 32) := Lib.hid (fun x hx => by
          rw [← nb_length]
          refine sigPath_32 b (seedB s) t i _ ?_
          rw [← HPQ.out.2]
          exact List.mem_map_of_mem hx)
        have HQ1 : Hid (∀ x ∈ qs, x.size = 32) := Lib.hid HSZ2.out.1
        have HP1 : Hid (∀ x ∈ ps, x.size = 32) := Lib.hid HSZ2.out.2
        have HLQ : Hid (qs2.length = n2) := Lib.hid HLM.out.2
        have HFIN : Hid ((Coll (endsS b ds (ps.map nb) n1) (endsS b ds (ps2.map nb) n1) ∨ Coll (0 :: Sha.sum (endsS b ds (ps.map nb) n1)) (0 :: Sha.sum (endsS b ds (ps2.map nb) n1)) ∨ Climbed (Mrk.leaf (Sha.sum (endsS b ds (ps.map nb) n1))) (Mrk.leaf (Sha.sum (endsS b ds (ps2.map nb) n1))) i (qs.map nb) (qs2.map nb)) ∨ ∃ c, c < n1 ∧ Met c (ds.getD c 0) (last b - ds.getD c 0) ((ps.map nb).getD c []) ((ps2.map nb).getD c [])) := Lib.hid (by
          have h := unique_plain b t i hB hb4 ht8 HI2.out (seedB s) (nb dg) HD32.out (ps.map nb) (qs.map nb) (ps2.map nb) (qs2.map nb) HAC2.out HPQ.out.1 HPQ.out.2 (fun h => HNS.out ⟨(List.map_inj_right (fun _ _ h => nb_inj h)).1 h.1, (List.map_inj_right (fun _ _ h => nb_inj h)).1 h.2⟩) n1 (by rw [HDS.out, HDSL.out])
          rw [HDS.out] at h
          exact h)
        have HR4 : Hid (Below w23.heap.size w23 w23) := Lib.hid (Below.refl _ _)
        refine Kit.wp_region_gplan (fun V => V.cell? ⟨N, 0, none⟩ = some (.int .i64 (i : Int)) ∧ V.cell? ⟨N, 1, none⟩ = some (.slice a1 n1 k1) ∧ V.cell? ⟨N, 2, none⟩ = some (.slice a2 n2 k2) ∧ V.cell? ⟨M, 0, none⟩ = some (.int .i64 (b : Int)) ∧ V.cell? ⟨M, 1, none⟩ = some (.int .i64 (t : Int)) ∧ V.cell? ⟨A2, 0, none⟩ = some (.int .i64 (i : Int)) ∧ V.cell? ⟨A2, 1, none⟩ = some (.slice b1 n1 d1) ∧ V.cell? ⟨A2, 2, none⟩ = some (.slice b2 n2 d2) ∧ V.cell? ⟨A3, 0, none⟩ = some (.int .i64 (b : Int)) ∧ V.cell? ⟨A3, 1, none⟩ = some (.int .i64 32)) [(true, 0), (true, 1), (true, 2), (true, 3), (true, 5), (true, 6), (true, 7), (true, 8), (false, 4), (false, 9), (true, 10), (true, 11)] (by kernel_rfl) (by kernel_rfl) (by kernel_rfl) (by kernel_rfl) (HC4.out _ HR4.out.drew).1 ?_
        iterate 8 (refine Kit.gplan_head (by rfl) (by first | exact .inr ⟨by rfl, rfl⟩ | exact .inl ⟨by rfl, fun w' hS => by (dsimp only at hS); go_simp; (try with_reducible rfl)⟩) ?_; (try simp only [Act.put, List.setIfInBounds_toArray, List.set_cons_zero, List.set_cons_succ]))
        refine Kit.gplan_op (by rfl) (by rfl) fun K hK => ?_
        go_simp
        go_at_call 16
        refine (refEnds_ok b 32 hB ds HDSB.out a3 c3 n1 HDSL.out a1 k1 n1 ps HXS.out.1 (Nat.le_refl _) HC1.out.2.1 HP1.out _ (HC4.out _ HR4.out.drew).2.2.2.2.2 (HC4.out _ HR4.out.drew).2.1 _ rfl).mono ?_
        rintro e w24 ⟨u14, rfl, hu14, h24⟩
        have HU14 := Lib.hid hu14
        have H24 := Lib.hid (HT4.out _ _ HR4.out.drew h24)
        clear hu14 h24
        refine hK _ _ ((HC4.out _ H24.out).1) ?_
        clear hK K
        refine Kit.gplan_op (by rfl) (by rfl) fun K hK => ?_
        go_simp
        go_at_call 16
        refine (refEnds_ok b 32 hB ds HDSB.out a3 c3 n1 HDSL.out b1 d1 n1 ps2 HLM.out.1 (Nat.le_refl _) HC1.out.2.1 HP2.out _ (HC4.out _ H24.out).2.2.2.2.2 (HC4.out _ H24.out).2.2.1 _ rfl).mono ?_
        rintro e w25 ⟨u15, rfl, hu15, h25⟩
        have HU15 := Lib.hid hu15
        have H25 := Lib.hid (HT4.out _ _ H24.out h25)
        clear hu15 h25
        refine hK _ _ ((HC4.out _ H25.out).1) ?_
        clear hK K
        iterate 2 (refine Kit.gplan_head (by rfl) (by first | exact .inr ⟨by rfl, rfl⟩ | exact .inl ⟨by rfl, fun w' hS => by (dsimp only at hS); go_simp; (try with_reducible rfl)⟩) ?_; (try simp only [Act.put, List.setIfInBounds_toArray, List.set_cons_zero, List.set_cons_succ]))
        refine Kit.gplan_done ?_
        (try simp only [Act.put, List.setIfInBounds_toArray, List.set_cons_zero, List.set_cons_succ])
        have HZ14 : Hid (u14.size ≤ 100000) := Lib.hid (by
          rw [← nb_length, HU14.out, endsS_length _ _ _ _ (fun c hc => parts32 HP1.out c (by have := HXS.out.1; omega))]
          have := HC1.out.2.1
          omega)
        have HZ15 : Hid (u15.size ≤ 100000) := Lib.hid (by
          rw [← nb_length, HU15.out, endsS_length _ _ _ _ (fun c hc => parts32 HP2.out c (by have := HLM.out.1; omega))]
          have := HC1.out.2.1
          omega)
        have HCL := Lib.hid (fun w => collides_any u14 u15 HZ14.out HZ15.out w)
        go_upto_region 14 with fail
        by_cases hcl : Coll (nb u14) (nb u15)
        · rw [decide_eq_true hcl] at HCL
          clear hcl
          refine Kit.wp_region_gplan (fun V => V.cell? ⟨N, 0, none⟩ = some (.int .i64 (i : Int)) ∧ V.cell? ⟨N, 1, none⟩ = some (.slice a1 n1 k1) ∧ V.cell? ⟨N, 2, none⟩ = some (.slice a2 n2 k2) ∧ V.cell? ⟨M, 0, none⟩ = some (.int .i64 (b : Int)) ∧ V.cell? ⟨M, 1, none⟩ = some (.int .i64 (t : Int)) ∧ V.cell? ⟨A2, 0, none⟩ = some (.int .i64 (i : Int)) ∧ V.cell? ⟨A2, 1, none⟩ = some (.slice b1 n1 d1) ∧ V.cell? ⟨A2, 2, none⟩ = some (.slice b2 n2 d2) ∧ V.cell? ⟨A3, 0, none⟩ = some (.int .i64 (b : Int)) ∧ V.cell? ⟨A3, 1, none⟩ = some (.int .i64 32)) [(true, 0), (true, 1), (false, 2), (true, 3), (true, 4), (true, 5), (true, 6), (true, 7), (true, 8), (true, 9), (true, 10), (true, 11), (true, 12), (true, 13), (true, 14), (true, 15), (true, 16), (true, 17), (true, 18)] (by kernel_rfl) (by kernel_rfl) (by kernel_rfl) (by kernel_rfl) (HC4.out _ H25.out.drew).1 ?_
          iterate 2 (refine Kit.gplan_head (by rfl) (by first | exact .inr ⟨by rfl, rfl⟩ | exact .inl ⟨by rfl, fun w' hS => by (dsimp only at hS); go_simp; (try with_reducible rfl)⟩) ?_; (try simp only [Act.put, List.setIfInBounds_toArray, List.set_cons_zero, List.set_cons_succ]))
          refine Kit.gplan_op (by rfl) (by rfl) fun K hK => ?_
          go_simp
          go_at_call 17
          refine (HCL.out _).mono ?_
          rintro e w26 ⟨rfl, h26⟩
          have H26 := Lib.hid (HT4.out _ _ H25.out.drew h26)
          clear h26
          refine hK _ _ ((HC4.out _ H26.out).1) ?_
          clear hK K
          iterate 16 (refine Kit.gplan_head (by rfl) (by first | exact .inr ⟨by rfl, rfl⟩ | exact .inl ⟨by rfl, fun w' hS => by (dsimp only at hS); go_simp; (try with_reducible rfl)⟩) ?_; (try simp only [Act.put, List.setIfInBounds_toArray, List.set_cons_zero, List.set_cons_succ]))
          refine Kit.gplan_done ?_
          (try simp only [Act.put, List.setIfInBounds_toArray, List.set_cons_zero, List.set_cons_succ])
          obtain ⟨D1, hD1⟩ : ∃ D1, D1 = true := ⟨true, rfl⟩
          have HF : Hid ((Coll (endsS b ds (ps.map nb) n1) (endsS b ds (ps2.map nb) n1) ∨ Coll (0 :: Sha.sum (endsS b ds (ps.map nb) n1)) (0 :: Sha.sum (endsS b ds (ps2.map nb) n1)) ∨ Climbed (Mrk.leaf (Sha.sum (endsS b ds (ps.map nb) n1))) (Mrk.leaf (Sha.sum (endsS b ds (ps2.map nb) n1))) i (qs.map nb) (qs2.map nb)) → D1 = true) := Lib.hid (fun _ => hD1)
          rw [← hD1]
          clear hD1
          obtain ⟨w30, hw30⟩ := ex_eq w26
          have H30 : Hid (Below w23.heap.size w23 w30) := Lib.hid (by rw [← hw30]; exact H26.out)
          rw [hw30]
          clear hw30
          go_upto_region 16 with fail
          go_loopw [17, 94] (fun vf vk wr => ∃ (k : Nat) (D : Bool), k ≤ n1 ∧ vf = .bool D ∧ vk = .int .i64 (k : Int) ∧ Hid (((Coll (endsS b ds (ps.map nb) n1) (endsS b ds (ps2.map nb) n1) ∨ Coll (0 :: Sha.sum (endsS b ds (ps.map nb) n1)) (0 :: Sha.sum (endsS b ds (ps2.map nb) n1)) ∨ Climbed (Mrk.leaf (Sha.sum (endsS b ds (ps.map nb) n1))) (Mrk.leaf (Sha.sum (endsS b ds (ps2.map nb) n1))) i (qs.map nb) (qs2.map nb)) ∨ ∃ c, c < k ∧ Met c (ds.getD c 0) (last b - ds.getD c 0) ((ps.map nb).getD c []) ((ps2.map nb).getD c [])) → D = true) ∧ Hid (Below w23.heap.size w23 wr)) (fun _ z _ => n1 - (intOf z).toNat)
          case atStart => exact ⟨0, D1, by omega, rfl, rfl, Lib.hid (fun h => by
            rcases h with h | ⟨c, hc, _⟩
            · exact HF.out h
            · omega), H30⟩
          case round =>
            obtain ⟨k, D, hk, rfl, rfl, HD, HB⟩ := hrel
            by_cases hlt : k < n1
            · have hki : (k : Int) < (n1 : Int) := by omega
              obtain ⟨⟨c0, c1, c2, c3, c4, c5, c6, c7, c8, c9⟩, q1, q2, _, _, q3⟩ := HC4.out _ HB.out.drew
              obtain ⟨B1, o1, rfl, hq1⟩ : ∃ b o, a1 = some ⟨b, o, none⟩ ∧ ∀ i, i < ps.length → wr.drew.cell? ⟨b, o + i, none⟩ = some (.string (ps.getD i ByteArray.empty)) := by
                rcases q1 with h | h
                · have := HXS.out.1; rw [h] at this; simp at this; omega
                · exact h
              obtain ⟨B2, o2, rfl, hq2⟩ : ∃ b o, b1 = some ⟨b, o, none⟩ ∧ ∀ i, i < ps2.length → wr.drew.cell? ⟨b, o + i, none⟩ = some (.string (ps2.getD i ByteArray.empty)) := by
                rcases q2 with h | h
                · have := HLM.out.1; rw [h] at this; simp at this; omega
                · exact h
              obtain ⟨B3, o3, rfl, hq3⟩ : ∃ b o, a3 = some ⟨b, o, none⟩ ∧ ∀ i, i < ds.length → wr.drew.cell? ⟨b, o + i, none⟩ = some (.int .i64 ((ds.getD i 0 : Nat) : Int)) := by
                rcases q3 with h | h
                · have := HDSL.out; rw [h] at this; simp at this; omega
                · exact h
              have r1 := hq1 k (by have := HXS.out.1; omega)
              have r2 := hq2 k (by have := HLM.out.1; omega)
              have r3 := hq3 k (by have := HDSL.out; omega)
              have HX1 := Lib.hid (HP1.out _ (getD_mem ps k ByteArray.empty (by have := HXS.out.1; omega)))
              have HX2 := Lib.hid (HP2.out _ (getD_mem ps2 k ByteArray.empty (by have := HLM.out.1; omega)))
              have HE1 : Hid ((ps.map nb).getD k [] = nb (ps.getD k ByteArray.empty)) := Lib.hid (getD_map_nb ps k (by have := HXS.out.1; omega))
              have HE2 : Hid ((ps2.map nb).getD k [] = nb (ps2.getD k ByteArray.empty)) := Lib.hid (getD_map_nb ps2 k (by have := HLM.out.1; omega))
              have HDD2 := Lib.hid (HDSB.out _ (getD_mem ds k 0 (by have := HDSL.out; omega)))
              obtain ⟨x1, hx1⟩ := ex_eq (ps.getD k ByteArray.empty)
              obtain ⟨x2, hx2⟩ := ex_eq (ps2.getD k ByteArray.empty)
              obtain ⟨d, hdk⟩ := ex_eq (ds.getD k 0)
              have HDK := Lib.hid hdk
              rw [hx1] at r1 HX1 HE1
              rw [hx2] at r2 HX2 HE2
              rw [hdk] at r3 HDD2
              have HS18 : Hid (∀ V, Below wr.drew.heap.size wr.drew V → V.cell? ⟨A3, 0, none⟩ = some (.int .i64 (b : Int)) ∧ V.cell? ⟨A3, 1, none⟩ = some (.int .i64 32) ∧ V.cell? ⟨B3, o3 + k, none⟩ = some (.int .i64 (d : Int)) ∧ V.cell? ⟨N, 1, none⟩ = some (.slice (some ⟨B1, o1, none⟩) n1 k1) ∧ V.cell? ⟨B1, o1 + k, none⟩ = some (.string x1) ∧ V.cell? ⟨A2, 1, none⟩ = some (.slice (some ⟨B2, o2, none⟩) n1 d1) ∧ V.cell? ⟨B2, o2 + k, none⟩ = some (.string x2)) := Lib.hid (fun V h => ⟨(h.cell (World.block_lt_of_cell? wr.drew _ c8)).trans c8, (h.cell (World.block_lt_of_cell? wr.drew _ c9)).trans c9, (h.cell (World.block_lt_of_cell? wr.drew _ r3)).trans r3, (h.cell (World.block_lt_of_cell? wr.drew _ c1)).trans c1, (h.cell (World.block_lt_of_cell? wr.drew _ r1)).trans r1, (h.cell (World.block_lt_of_cell? wr.drew _ c6)).trans c6, (h.cell (World.block_lt_of_cell? wr.drew _ r2)).trans r2⟩)
              have hK999 : k ≤ 999 := by have := HC1.out.2.1; omega
              have HME := Lib.hid (fun w => meets_any b 32 hB hb4 k hK999 d (last b) rfl HDD2.out x1 x2 HX1.out HX2.out w)
              clear c0 c1 c2 c3 c4 c5 c6 c7 c8 c9 q1 q2 q3 hq1 hq2 hq3 r1 r2 r3 hx1 hx2 hdk
              go_upto_region 18 with fail
              cases D
              · refine Kit.wp_region_gplan (fun V => V.cell? ⟨A3, 0, none⟩ = some (.int .i64 (b : Int)) ∧ V.cell? ⟨A3, 1, none⟩ = some (.int .i64 32) ∧ V.cell? ⟨B3, o3 + k, none⟩ = some (.int .i64 (d : Int)) ∧ V.cell? ⟨N, 1, none⟩ = some (.slice (some ⟨B1, o1, none⟩) n1 k1) ∧ V.cell? ⟨B1, o1 + k, none⟩ = some (.string x1) ∧ V.cell? ⟨A2, 1, none⟩ = some (.slice (some ⟨B2, o2, none⟩) n1 d1) ∧ V.cell? ⟨B2, o2 + k, none⟩ = some (.string x2)) [(true, 0), (true, 1), (true, 2), (true, 3), (true, 4), (true, 5), (true, 6), (true, 7), (true, 8), (true, 9), (true, 10), (true, 11), (true, 12), (true, 13), (true, 14), (true, 15), (true, 16), (true, 17), (false, 18), (true, 19), (true, 20)] (by kernel_rfl) (by kernel_rfl) (by kernel_rfl) (by kernel_rfl) (HS18.out _ (Below.refl _ _)) ?_
                iterate 18 (refine Kit.gplan_head (by rfl) (by first | exact .inr ⟨by rfl, rfl⟩ | exact .inl ⟨by rfl, fun w' hS => by (dsimp only at hS); go_simp; (try with_reducible rfl)⟩) ?_; (try simp only [Act.put, List.setIfInBounds_toArray, List.set_cons_zero, List.set_cons_succ]))
                refine Kit.gplan_op (by rfl) (by rfl) fun K hK => ?_
                go_simp
                go_at_call 20
                refine (HME.out _).mono ?_
                rintro e w40 ⟨D2, rfl, hd2, h40⟩
                have HD2 := Lib.hid hd2
                have H40 := Lib.hid (HT4.out _ _ HB.out.drew h40)
                have HS40 := Lib.hid (HS18.out _ h40)
                clear hd2 h40
                refine hK _ _ (HS40.out) ?_
                clear hK K
                iterate 2 (refine Kit.gplan_head (by rfl) (by first | exact .inr ⟨by rfl, rfl⟩ | exact .inl ⟨by rfl, fun w' hS => by (dsimp only at hS); go_simp; (try with_reducible rfl)⟩) ?_; (try simp only [Act.put, List.setIfInBounds_toArray, List.set_cons_zero, List.set_cons_succ]))
                refine Kit.gplan_done ?_
                (try simp only [Act.put, List.setIfInBounds_toArray, List.set_cons_zero, List.set_cons_succ])
                go_wp2_with fail
                go_roundw
                case rel =>
                  refine ⟨k + 1, D2, hlt, rfl, by go_num, Lib.hid (fun h => ?_), H40⟩
                  have hf : ∀ (h : (Coll (endsS b ds (ps.map nb) n1) (endsS b ds (ps2.map nb) n1) ∨ Coll (0 :: Sha.sum (endsS b ds (ps.map nb) n1)) (0 :: Sha.sum (endsS b ds (ps2.map nb) n1)) ∨ Climbed (Mrk.leaf (Sha.sum (endsS b ds (ps.map nb) n1))) (Mrk.leaf (Sha.sum (endsS b ds (ps2.map nb) n1))) i (qs.map nb) (qs2.map nb)) ∨ ∃ c, c < k ∧ Met c (ds.getD c 0) (last b - ds.getD c 0) ((ps.map nb).getD c []) ((ps2.map nb).getD c [])), D2 = true := fun h => by cases HD.out h
                  rcases h with h | ⟨c, hc, h⟩
                  · exact hf (.inl h)
                  · by_cases e : c = k
                    · subst e
                      rw [HE1.out, HE2.out, HDK.out] at h
                      exact HD2.out.2 h
                    · exact hf (.inr ⟨c, by omega, h⟩)
                case measure => simp [intOf]; omega
              · refine Kit.wp_region_gplan (fun V => V.cell? ⟨A3, 0, none⟩ = some (.int .i64 (b : Int)) ∧ V.cell? ⟨A3, 1, none⟩ = some (.int .i64 32) ∧ V.cell? ⟨B3, o3 + k, none⟩ = some (.int .i64 (d : Int)) ∧ V.cell? ⟨N, 1, none⟩ = some (.slice (some ⟨B1, o1, none⟩) n1 k1) ∧ V.cell? ⟨B1, o1 + k, none⟩ = some (.string x1) ∧ V.cell? ⟨A2, 1, none⟩ = some (.slice (some ⟨B2, o2, none⟩) n1 d1) ∧ V.cell? ⟨B2, o2 + k, none⟩ = some (.string x2)) [(true, 0), (true, 1), (true, 2), (true, 3), (true, 4), (true, 5), (true, 6), (true, 7), (true, 8), (true, 9), (true, 10), (true, 11), (true, 12), (true, 13), (true, 14), (true, 15), (true, 16), (true, 17), (true, 18), (true, 19), (true, 20)] (by kernel_rfl) (by kernel_rfl) (by kernel_rfl) (by kernel_rfl) (HS18.out _ (Below.refl _ _)) ?_
                iterate 21 (refine Kit.gplan_head (by rfl) (by first | exact .inr ⟨by rfl, rfl⟩ | exact .inl ⟨by rfl, fun w' hS => by (dsimp only at hS); go_simp; (try with_reducible rfl)⟩) ?_; (try simp only [Act.put, List.setIfInBounds_toArray, List.set_cons_zero, List.set_cons_succ]))
                refine Kit.gplan_done ?_
                (try simp only [Act.put, List.setIfInBounds_toArray, List.set_cons_zero, List.set_cons_succ])
                go_wp2_with fail
                go_roundw
                case rel => exact ⟨k + 1, true, hlt, rfl, by go_num, Lib.hid (fun _ => rfl), Lib.hid HB.out.drew⟩
                case measure => simp [intOf]; omega
            · have hki : ¬ (k : Int) < (n1 : Int) := by omega
              have hDT : D = true := HD.out (by
                rcases HFIN.out with h | ⟨c, hc, h⟩
                · exact .inl h
                · exact .inr ⟨c, by omega, h⟩)
              subst hDT
              go_wp2_with fail
              go_ret
              exact ⟨by first | rfl | (simp; done), HEND4.out _ HB.out⟩
        · have HF1 := HCL
          rw [decide_eq_false hcl] at HCL
          apply Kit.join5 (F := fun B5 B8 u16 u17 D1 w30 => Hid ((Coll (endsS b ds (ps.map nb) n1) (endsS b ds (ps2.map nb) n1) ∨ Coll (0 :: Sha.sum (endsS b ds (ps.map nb) n1)) (0 :: Sha.sum (endsS b ds (ps2.map nb) n1)) ∨ Climbed (Mrk.leaf (Sha.sum (endsS b ds (ps.map nb) n1))) (Mrk.leaf (Sha.sum (endsS b ds (ps2.map nb) n1))) i (qs.map nb) (qs2.map nb)) → D1 = true) ∧ Hid (Below w23.heap.size w23 w30))
          case main =>
            intro HJ5
            refine Kit.wp_region_tplan (fun V => V.cell? ⟨N, 0, none⟩ = some (.int .i64 (i : Int)) ∧ V.cell? ⟨N, 1, none⟩ = some (.slice a1 n1 k1) ∧ V.cell? ⟨N, 2, none⟩ = some (.slice a2 n2 k2) ∧ V.cell? ⟨M, 0, none⟩ = some (.int .i64 (b : Int)) ∧ V.cell? ⟨M, 1, none⟩ = some (.int .i64 (t : Int)) ∧ V.cell? ⟨A2, 0, none⟩ = some (.int .i64 (i : Int)) ∧ V.cell? ⟨A2, 1, none⟩ = some (.slice b1 n1 d1) ∧ V.cell? ⟨A2, 2, none⟩ = some (.slice b2 n2 d2) ∧ V.cell? ⟨A3, 0, none⟩ = some (.int .i64 (b : Int)) ∧ V.cell? ⟨A3, 1, none⟩ = some (.int .i64 32)) (.heads [0, 1] (.op1 2 (.heads [3, 4, 7, 10, 11, 12, 13, 14, 15] (.op2 5 (.op2 6 (.op1 8 (.op1 9 (.op1 16 (.heads [17, 18] .done)))) 8 (.op1 6 (.op1 9 (.op1 16 (.heads [17, 18] .done))))) 8 (.op1 5 (.op1 6 (.op1 9 (.op1 16 (.heads [17, 18] .done))))))))) (by kernel_rfl) (by kernel_rfl) (by kernel_rfl) (by kernel_rfl) (HC4.out _ H25.out.drew).1 ?_
            iterate 2 (refine Kit.tplan_head (by rfl) (by first | exact .inr ⟨by rfl, rfl⟩ | exact .inl ⟨by rfl, fun w' hS => by (dsimp only at hS); go_simp; (try with_reducible rfl)⟩) ?_; (try simp only [Act.put, List.setIfInBounds_toArray, List.set_cons_zero, List.set_cons_succ]))
            refine Kit.tplan_op1 (by rfl) (by rfl) fun K hK => ?_
            go_simp
            go_at_call 17
            refine (HCL.out _).mono ?_
            rintro e w26 ⟨rfl, h26⟩
            have H26 := Lib.hid (HT4.out _ _ H25.out.drew h26)
            clear h26
            refine hK _ _ ((HC4.out _ H26.out).1) ?_
            clear hK K
            iterate 9 (refine Kit.tplan_head (by rfl) (by first | exact .inr ⟨by rfl, rfl⟩ | exact .inl ⟨by rfl, fun w' hS => by (dsimp only at hS); go_simp; (try with_reducible rfl)⟩) ?_; (try simp only [Act.put, List.setIfInBounds_toArray, List.set_cons_zero, List.set_cons_succ]))
            refine Kit.tplan_op2 ?_ ?_
            rotate_left
            focus (
              refine Kit.tplan_op1 (by rfl) (by rfl) fun K hK => ?_
              go_simp
              have hss := strs_of_row (t := 9) (heap_alloc_new w26 (.cells #[.string u15] 9)) (ss := [u15])
              have hbb : Below w26.heap.size w26 (w26.alloc (.cells #[.string u15] 9)) := (Below.refl _ _).alloc (Nat.le_refl _) _
              obtain ⟨w28, hnw⟩ := ex_eq (w26.alloc (.cells #[.string u15] 9))
              rw [hnw] at hss hbb ⊢
              have H_w28 := Lib.hid (HT4.out _ _ H26.out hbb)
              obtain ⟨B8, hna⟩ := ex_eq w26.heap.size
              rw [hna] at hss ⊢
              have HS_w28 := Lib.hid hss
              clear hss hbb hnw hna
              refine hK _ _ (HC4.out _ H_w28.out).1 ?_
              clear hK K
              refine Kit.tplan_op1 (by rfl) (by rfl) fun K hK => ?_
              go_simp
              have hss := strs_of_row (t := 9) (heap_alloc_new w28 (.cells #[.string u14] 9)) (ss := [u14])
              have hbb : Below w28.heap.size w28 (w28.alloc (.cells #[.string u14] 9)) := (Below.refl _ _).alloc (Nat.le_refl _) _
              obtain ⟨w27, hnw⟩ := ex_eq (w28.alloc (.cells #[.string u14] 9))
              rw [hnw] at hss hbb ⊢
              have H_w27 := Lib.hid (HT4.out _ _ H_w28.out hbb)
              replace HS_w28 := Lib.hid (HS_w28.out.later hbb)
              obtain ⟨B5, hna⟩ := ex_eq w28.heap.size
              rw [hna] at hss ⊢
              have HS_w27 := Lib.hid hss
              clear hss hbb hnw hna
              refine hK _ _ (HC4.out _ H_w27.out).1 ?_
              clear hK K
              refine Kit.tplan_op1 (by rfl) (by rfl) fun K hK => ?_
              go_simp
              go_at_call 19
              refine (refJoin_x (some ⟨B5, 0, none⟩) 1 1 [u14] rfl (by decide) (fun x hx => by rw [List.mem_singleton.1 hx]; exact HZ14.out) _ HS_w27.out (Sha.sum (nb u14)) (by rw [catB_one])).mono ?_
              rintro e w31 ⟨u16, rfl, hu16, hj⟩
              have HU_u16 := Lib.hid hu16
              have H_w31 := Lib.hid (HT4.out _ _ H_w27.out hj)
              replace HS_w28 := Lib.hid (HS_w28.out.later hj)
              clear hu16 hj
              refine hK _ _ ((HC4.out _ H_w31.out).1) ?_
              clear hK K
              refine Kit.tplan_op1 (by rfl) (by rfl) fun K hK => ?_
              go_simp
              go_at_call 19
              refine (refJoin_x (some ⟨B8, 0, none⟩) 1 1 [u15] rfl (by decide) (fun x hx => by rw [List.mem_singleton.1 hx]; exact HZ15.out) _ HS_w28.out (Sha.sum (nb u15)) (by rw [catB_one])).mono ?_
              rintro e w32 ⟨u17, rfl, hu17, hj⟩
              have HU_u17 := Lib.hid hu17
              have H_w32 := Lib.hid (HT4.out _ _ H_w31.out hj)
              clear hu17 hj
              refine hK _ _ ((HC4.out _ H_w32.out).1) ?_
              clear hK K
              refine Kit.tplan_op1 (by rfl) (by rfl) fun K hK => ?_
              go_simp
              go_at_call 18
              refine (climbs_any u16 u17 (by rw [← nb_length, HU_u16.out]; exact Sha.sum_length _) (by rw [← nb_length, HU_u17.out]; exact Sha.sum_length _) i (by have := HI2.out; have := HP8.out; omega) a2 b2 k2 d2 n2 qs qs2 (by have := HC1.out.2.2; omega) HXS.out.2.1 HLQ.out HQ1.out HQ2.out _ (HC4.out _ H_w32.out).2.2.2.1 (HC4.out _ H_w32.out).2.2.2.2.1).mono ?_
              rintro e w30 ⟨D1, rfl, hd1, hj⟩
              have HF : Hid ((Coll (endsS b ds (ps.map nb) n1) (endsS b ds (ps2.map nb) n1) ∨ Coll (0 :: Sha.sum (endsS b ds (ps.map nb) n1)) (0 :: Sha.sum (endsS b ds (ps2.map nb) n1)) ∨ Climbed (Mrk.leaf (Sha.sum (endsS b ds (ps.map nb) n1))) (Mrk.leaf (Sha.sum (endsS b ds (ps2.map nb) n1))) i (qs.map nb) (qs2.map nb)) → D1 = true) := Lib.hid (fun hf => by
                rcases hf with h | h
                · exact absurd (by rw [HU14.out, HU15.out]; exact h) hcl
                · refine hd1 ?_
                  rw [HU_u16.out, HU_u17.out, HU14.out, HU15.out]
                  exact h)
              have H30 := Lib.hid (HT4.out _ _ H_w32.out hj)
              clear hd1 hj
              refine hK _ _ ((HC4.out _ H30.out).1) ?_
              clear hK K
              iterate 2 (refine Kit.tplan_head (by rfl) (by first | exact .inr ⟨by rfl, rfl⟩ | exact .inl ⟨by rfl, fun w' hS => by (dsimp only at hS); go_simp; (try with_reducible rfl)⟩) ?_; (try simp only [Act.put, List.setIfInBounds_toArray, List.set_cons_zero, List.set_cons_succ]))
              refine Kit.tplan_done ?_
              (try simp only [Act.put, List.setIfInBounds_toArray, List.set_cons_zero, List.set_cons_succ])
              exact HJ5 B5 B8 u16 u17 D1 w30 ⟨HF, H30⟩)
            refine Kit.tplan_op1 (by rfl) (by rfl) fun K hK => ?_
            go_simp
            have hss := strs_of_row (t := 9) (heap_alloc_new w26 (.cells #[.string u14] 9)) (ss := [u14])
            have hbb : Below w26.heap.size w26 (w26.alloc (.cells #[.string u14] 9)) := (Below.refl _ _).alloc (Nat.le_refl _) _
            obtain ⟨w27, hnw⟩ := ex_eq (w26.alloc (.cells #[.string u14] 9))
            rw [hnw] at hss hbb ⊢
            have H_w27 := Lib.hid (HT4.out _ _ H26.out hbb)
            obtain ⟨B5, hna⟩ := ex_eq w26.heap.size
            rw [hna] at hss ⊢
            have HS_w27 := Lib.hid hss
            clear hss hbb hnw hna
            refine hK _ _ (HC4.out _ H_w27.out).1 ?_
            clear hK K
            refine Kit.tplan_op2 ?_ ?_
            focus (
              refine Kit.tplan_op1 (by rfl) (by rfl) fun K hK => ?_
              go_simp
              go_at_call 19
              refine (refJoin_x (some ⟨B5, 0, none⟩) 1 1 [u14] rfl (by decide) (fun x hx => by rw [List.mem_singleton.1 hx]; exact HZ14.out) _ HS_w27.out (Sha.sum (nb u14)) (by rw [catB_one])).mono ?_
              rintro e w31 ⟨u16, rfl, hu16, hj⟩
              have HU_u16 := Lib.hid hu16
              have H_w31 := Lib.hid (HT4.out _ _ H_w27.out hj)
              clear hu16 hj
              refine hK _ _ ((HC4.out _ H_w31.out).1) ?_
              clear hK K
              refine Kit.tplan_op1 (by rfl) (by rfl) fun K hK => ?_
              go_simp
              have hss := strs_of_row (t := 9) (heap_alloc_new w31 (.cells #[.string u15] 9)) (ss := [u15])
              have hbb : Below w31.heap.size w31 (w31.alloc (.cells #[.string u15] 9)) := (Below.refl _ _).alloc (Nat.le_refl _) _
              obtain ⟨w28, hnw⟩ := ex_eq (w31.alloc (.cells #[.string u15] 9))
              rw [hnw] at hss hbb ⊢
              have H_w28 := Lib.hid (HT4.out _ _ H_w31.out hbb)
              obtain ⟨B8, hna⟩ := ex_eq w31.heap.size
              rw [hna] at hss ⊢
              have HS_w28 := Lib.hid hss
              clear hss hbb hnw hna
              refine hK _ _ (HC4.out _ H_w28.out).1 ?_
              clear hK K
              refine Kit.tplan_op1 (by rfl) (by rfl) fun K hK => ?_
              go_simp
              go_at_call 19
              refine (refJoin_x (some ⟨B8, 0, none⟩) 1 1 [u15] rfl (by decide) (fun x hx => by rw [List.mem_singleton.1 hx]; exact HZ15.out) _ HS_w28.out (Sha.sum (nb u15)) (by rw [catB_one])).mono ?_
              rintro e w32 ⟨u17, rfl, hu17, hj⟩
              have HU_u17 := Lib.hid hu17
              have H_w32 := Lib.hid (HT4.out _ _ H_w28.out hj)
              clear hu17 hj
              refine hK _ _ ((HC4.out _ H_w32.out).1) ?_
              clear hK K
              refine Kit.tplan_op1 (by rfl) (by rfl) fun K hK => ?_
              go_simp
              go_at_call 18
              refine (climbs_any u16 u17 (by rw [← nb_length, HU_u16.out]; exact Sha.sum_length _) (by rw [← nb_length, HU_u17.out]; exact Sha.sum_length _) i (by have := HI2.out; have := HP8.out; omega) a2 b2 k2 d2 n2 qs qs2 (by have := HC1.out.2.2; omega) HXS.out.2.1 HLQ.out HQ1.out HQ2.out _ (HC4.out _ H_w32.out).2.2.2.1 (HC4.out _ H_w32.out).2.2.2.2.1).mono ?_
              rintro e w30 ⟨D1, rfl, hd1, hj⟩
              have HF : Hid ((Coll (endsS b ds (ps.map nb) n1) (endsS b ds (ps2.map nb) n1) ∨ Coll (0 :: Sha.sum (endsS b ds (ps.map nb) n1)) (0 :: Sha.sum (endsS b ds (ps2.map nb) n1)) ∨ Climbed (Mrk.leaf (Sha.sum (endsS b ds (ps.map nb) n1))) (Mrk.leaf (Sha.sum (endsS b ds (ps2.map nb) n1))) i (qs.map nb) (qs2.map nb)) → D1 = true) := Lib.hid (fun hf => by
                rcases hf with h | h
                · exact absurd (by rw [HU14.out, HU15.out]; exact h) hcl
                · refine hd1 ?_
                  rw [HU_u16.out, HU_u17.out, HU14.out, HU15.out]
                  exact h)
              have H30 := Lib.hid (HT4.out _ _ H_w32.out hj)
              clear hd1 hj
              refine hK _ _ ((HC4.out _ H30.out).1) ?_
              clear hK K
              iterate 2 (refine Kit.tplan_head (by rfl) (by first | exact .inr ⟨by rfl, rfl⟩ | exact .inl ⟨by rfl, fun w' hS => by (dsimp only at hS); go_simp; (try with_reducible rfl)⟩) ?_; (try simp only [Act.put, List.setIfInBounds_toArray, List.set_cons_zero, List.set_cons_succ]))
              refine Kit.tplan_done ?_
              (try simp only [Act.put, List.setIfInBounds_toArray, List.set_cons_zero, List.set_cons_succ])
              exact HJ5 B5 B8 u16 u17 D1 w30 ⟨HF, H30⟩)
            focus (
              refine Kit.tplan_op1 (by rfl) (by rfl) fun K hK => ?_
              go_simp
              have hss := strs_of_row (t := 9) (heap_alloc_new w27 (.cells #[.string u15] 9)) (ss := [u15])
              have hbb : Below w27.heap.size w27 (w27.alloc (.cells #[.string u15] 9)) := (Below.refl _ _).alloc (Nat.le_refl _) _
              obtain ⟨w28, hnw⟩ := ex_eq (w27.alloc (.cells #[.string u15] 9))
              rw [hnw] at hss hbb ⊢
              have H_w28 := Lib.hid (HT4.out _ _ H_w27.out hbb)
              replace HS_w27 := Lib.hid (HS_w27.out.later hbb)
              obtain ⟨B8, hna⟩ := ex_eq w27.heap.size
              rw [hna] at hss ⊢
              have HS_w28 := Lib.hid hss
              clear hss hbb hnw hna
              refine hK _ _ (HC4.out _ H_w28.out).1 ?_
              clear hK K
              refine Kit.tplan_op1 (by rfl) (by rfl) fun K hK => ?_
              go_simp
              go_at_call 19
              refine (refJoin_x (some ⟨B5, 0, none⟩) 1 1 [u14] rfl (by decide) (fun x hx => by rw [List.mem_singleton.1 hx]; exact HZ14.out) _ HS_w27.out (Sha.sum (nb u14)) (by rw [catB_one])).mono ?_
              rintro e w31 ⟨u16, rfl, hu16, hj⟩
              have HU_u16 := Lib.hid hu16
              have H_w31 := Lib.hid (HT4.out _ _ H_w28.out hj)
              replace HS_w28 := Lib.hid (HS_w28.out.later hj)
              clear hu16 hj
              refine hK _ _ ((HC4.out _ H_w31.out).1) ?_
              clear hK K
              refine Kit.tplan_op1 (by rfl) (by rfl) fun K hK => ?_
              go_simp
              go_at_call 19
              refine (refJoin_x (some ⟨B8, 0, none⟩) 1 1 [u15] rfl (by decide) (fun x hx => by rw [List.mem_singleton.1 hx]; exact HZ15.out) _ HS_w28.out (Sha.sum (nb u15)) (by rw [catB_one])).mono ?_
              rintro e w32 ⟨u17, rfl, hu17, hj⟩
              have HU_u17 := Lib.hid hu17
              have H_w32 := Lib.hid (HT4.out _ _ H_w31.out hj)
              clear hu17 hj
              refine hK _ _ ((HC4.out _ H_w32.out).1) ?_
              clear hK K
              refine Kit.tplan_op1 (by rfl) (by rfl) fun K hK => ?_
              go_simp
              go_at_call 18
              refine (climbs_any u16 u17 (by rw [← nb_length, HU_u16.out]; exact Sha.sum_length _) (by rw [← nb_length, HU_u17.out]; exact Sha.sum_length _) i (by have := HI2.out; have := HP8.out; omega) a2 b2 k2 d2 n2 qs qs2 (by have := HC1.out.2.2; omega) HXS.out.2.1 HLQ.out HQ1.out HQ2.out _ (HC4.out _ H_w32.out).2.2.2.1 (HC4.out _ H_w32.out).2.2.2.2.1).mono ?_
              rintro e w30 ⟨D1, rfl, hd1, hj⟩
              have HF : Hid ((Coll (endsS b ds (ps.map nb) n1) (endsS b ds (ps2.map nb) n1) ∨ Coll (0 :: Sha.sum (endsS b ds (ps.map nb) n1)) (0 :: Sha.sum (endsS b ds (ps2.map nb) n1)) ∨ Climbed (Mrk.leaf (Sha.sum (endsS b ds (ps.map nb) n1))) (Mrk.leaf (Sha.sum (endsS b ds (ps2.map nb) n1))) i (qs.map nb) (qs2.map nb)) → D1 = true) := Lib.hid (fun hf => by
                rcases hf with h | h
                · exact absurd (by rw [HU14.out, HU15.out]; exact h) hcl
                · refine hd1 ?_
                  rw [HU_u16.out, HU_u17.out, HU14.out, HU15.out]
                  exact h)
              have H30 := Lib.hid (HT4.out _ _ H_w32.out hj)
              clear hd1 hj
              refine hK _ _ ((HC4.out _ H30.out).1) ?_
              clear hK K
              iterate 2 (refine Kit.tplan_head (by rfl) (by first | exact .inr ⟨by rfl, rfl⟩ | exact .inl ⟨by rfl, fun w' hS => by (dsimp only at hS); go_simp; (try with_reducible rfl)⟩) ?_; (try simp only [Act.put, List.setIfInBounds_toArray, List.set_cons_zero, List.set_cons_succ]))
              refine Kit.tplan_done ?_
              (try simp only [Act.put, List.setIfInBounds_toArray, List.set_cons_zero, List.set_cons_succ])
              exact HJ5 B5 B8 u16 u17 D1 w30 ⟨HF, H30⟩)
          case rest =>
            rintro B5 B8 u16 u17 D1 w30 ⟨HF, H30⟩
            clear hcl
            go_upto_region 16 with fail
            go_loopw [17, 94] (fun vf vk wr => ∃ (k : Nat) (D : Bool), k ≤ n1 ∧ vf = .bool D ∧ vk = .int .i64 (k : Int) ∧ Hid (((Coll (endsS b ds (ps.map nb) n1) (endsS b ds (ps2.map nb) n1) ∨ Coll (0 :: Sha.sum (endsS b ds (ps.map nb) n1)) (0 :: Sha.sum (endsS b ds (ps2.map nb) n1)) ∨ Climbed (Mrk.leaf (Sha.sum (endsS b ds (ps.map nb) n1))) (Mrk.leaf (Sha.sum (endsS b ds (ps2.map nb) n1))) i (qs.map nb) (qs2.map nb)) ∨ ∃ c, c < k ∧ Met c (ds.getD c 0) (last b - ds.getD c 0) ((ps.map nb).getD c []) ((ps2.map nb).getD c [])) → D = true) ∧ Hid (Below w23.heap.size w23 wr)) (fun _ z _ => n1 - (intOf z).toNat)
            case atStart => exact ⟨0, D1, by omega, rfl, rfl, Lib.hid (fun h => by
              rcases h with h | ⟨c, hc, _⟩
              · exact HF.out h
              · omega), H30⟩
            case round =>
              obtain ⟨k, D, hk, rfl, rfl, HD, HB⟩ := hrel
              by_cases hlt : k < n1
              · have hki : (k : Int) < (n1 : Int) := by omega
                obtain ⟨⟨c0, c1, c2, c3, c4, c5, c6, c7, c8, c9⟩, q1, q2, _, _, q3⟩ := HC4.out _ HB.out.drew
                obtain ⟨B1, o1, rfl, hq1⟩ : ∃ b o, a1 = some ⟨b, o, none⟩ ∧ ∀ i, i < ps.length → wr.drew.cell? ⟨b, o + i, none⟩ = some (.string (ps.getD i ByteArray.empty)) := by
                  rcases q1 with h | h
                  · have := HXS.out.1; rw [h] at this; simp at this; omega
                  · exact h
                obtain ⟨B2, o2, rfl, hq2⟩ : ∃ b o, b1 = some ⟨b, o, none⟩ ∧ ∀ i, i < ps2.length → wr.drew.cell? ⟨b, o + i, none⟩ = some (.string (ps2.getD i ByteArray.empty)) := by
                  rcases q2 with h | h
                  · have := HLM.out.1; rw [h] at this; simp at this; omega
                  · exact h
                obtain ⟨B3, o3, rfl, hq3⟩ : ∃ b o, a3 = some ⟨b, o, none⟩ ∧ ∀ i, i < ds.length → wr.drew.cell? ⟨b, o + i, none⟩ = some (.int .i64 ((ds.getD i 0 : Nat) : Int)) := by
                  rcases q3 with h | h
                  · have := HDSL.out; rw [h] at this; simp at this; omega
                  · exact h
                have r1 := hq1 k (by have := HXS.out.1; omega)
                have r2 := hq2 k (by have := HLM.out.1; omega)
                have r3 := hq3 k (by have := HDSL.out; omega)
                have HX1 := Lib.hid (HP1.out _ (getD_mem ps k ByteArray.empty (by have := HXS.out.1; omega)))
                have HX2 := Lib.hid (HP2.out _ (getD_mem ps2 k ByteArray.empty (by have := HLM.out.1; omega)))
                have HE1 : Hid ((ps.map nb).getD k [] = nb (ps.getD k ByteArray.empty)) := Lib.hid (getD_map_nb ps k (by have := HXS.out.1; omega))
                have HE2 : Hid ((ps2.map nb).getD k [] = nb (ps2.getD k ByteArray.empty)) := Lib.hid (getD_map_nb ps2 k (by have := HLM.out.1; omega))
                have HDD2 := Lib.hid (HDSB.out _ (getD_mem ds k 0 (by have := HDSL.out; omega)))
                obtain ⟨x1, hx1⟩ := ex_eq (ps.getD k ByteArray.empty)
                obtain ⟨x2, hx2⟩ := ex_eq (ps2.getD k ByteArray.empty)
                obtain ⟨d, hdk⟩ := ex_eq (ds.getD k 0)
                have HDK := Lib.hid hdk
                rw [hx1] at r1 HX1 HE1
                rw [hx2] at r2 HX2 HE2
                rw [hdk] at r3 HDD2
                have HS18 : Hid (∀ V, Below wr.drew.heap.size wr.drew V → V.cell? ⟨A3, 0, none⟩ = some (.int .i64 (b : Int)) ∧ V.cell? ⟨A3, 1, none⟩ = some (.int .i64 32) ∧ V.cell? ⟨B3, o3 + k, none⟩ = some (.int .i64 (d : Int)) ∧ V.cell? ⟨N, 1, none⟩ = some (.slice (some ⟨B1, o1, none⟩) n1 k1) ∧ V.cell? ⟨B1, o1 + k, none⟩ = some (.string x1) ∧ V.cell? ⟨A2, 1, none⟩ = some (.slice (some ⟨B2, o2, none⟩) n1 d1) ∧ V.cell? ⟨B2, o2 + k, none⟩ = some (.string x2)) := Lib.hid (fun V h => ⟨(h.cell (World.block_lt_of_cell? wr.drew _ c8)).trans c8, (h.cell (World.block_lt_of_cell? wr.drew _ c9)).trans c9, (h.cell (World.block_lt_of_cell? wr.drew _ r3)).trans r3, (h.cell (World.block_lt_of_cell? wr.drew _ c1)).trans c1, (h.cell (World.block_lt_of_cell? wr.drew _ r1)).trans r1, (h.cell (World.block_lt_of_cell? wr.drew _ c6)).trans c6, (h.cell (World.block_lt_of_cell? wr.drew _ r2)).trans r2⟩)
                have hK999 : k ≤ 999 := by have := HC1.out.2.1; omega
                have HME := Lib.hid (fun w => meets_any b 32 hB hb4 k hK999 d (last b) rfl HDD2.out x1 x2 HX1.out HX2.out w)
                clear c0 c1 c2 c3 c4 c5 c6 c7 c8 c9 q1 q2 q3 hq1 hq2 hq3 r1 r2 r3 hx1 hx2 hdk
                go_upto_region 18 with fail
                cases D
                · refine Kit.wp_region_gplan (fun V => V.cell? ⟨A3, 0, none⟩ = some (.int .i64 (b : Int)) ∧ V.cell? ⟨A3, 1, none⟩ = some (.int .i64 32) ∧ V.cell? ⟨B3, o3 + k, none⟩ = some (.int .i64 (d : Int)) ∧ V.cell? ⟨N, 1, none⟩ = some (.slice (some ⟨B1, o1, none⟩) n1 k1) ∧ V.cell? ⟨B1, o1 + k, none⟩ = some (.string x1) ∧ V.cell? ⟨A2, 1, none⟩ = some (.slice (some ⟨B2, o2, none⟩) n1 d1) ∧ V.cell? ⟨B2, o2 + k, none⟩ = some (.string x2)) [(true, 0), (true, 1), (true, 2), (true, 3), (true, 4), (true, 5), (true, 6), (true, 7), (true, 8), (true, 9), (true, 10), (true, 11), (true, 12), (true, 13), (true, 14), (true, 15), (true, 16), (true, 17), (false, 18), (true, 19), (true, 20)] (by kernel_rfl) (by kernel_rfl) (by kernel_rfl) (by kernel_rfl) (HS18.out _ (Below.refl _ _)) ?_
                  iterate 18 (refine Kit.gplan_head (by rfl) (by first | exact .inr ⟨by rfl, rfl⟩ | exact .inl ⟨by rfl, fun w' hS => by (dsimp only at hS); go_simp; (try with_reducible rfl)⟩) ?_; (try simp only [Act.put, List.setIfInBounds_toArray, List.set_cons_zero, List.set_cons_succ]))
                  refine Kit.gplan_op (by rfl) (by rfl) fun K hK => ?_
                  go_simp
                  go_at_call 20
                  refine (HME.out _).mono ?_
                  rintro e w40 ⟨D2, rfl, hd2, h40⟩
                  have HD2 := Lib.hid hd2
                  have H40 := Lib.hid (HT4.out _ _ HB.out.drew h40)
                  have HS40 := Lib.hid (HS18.out _ h40)
                  clear hd2 h40
                  refine hK _ _ (HS40.out) ?_
                  clear hK K
                  iterate 2 (refine Kit.gplan_head (by rfl) (by first | exact .inr ⟨by rfl, rfl⟩ | exact .inl ⟨by rfl, fun w' hS => by (dsimp only at hS); go_simp; (try with_reducible rfl)⟩) ?_; (try simp only [Act.put, List.setIfInBounds_toArray, List.set_cons_zero, List.set_cons_succ]))
                  refine Kit.gplan_done ?_
                  (try simp only [Act.put, List.setIfInBounds_toArray, List.set_cons_zero, List.set_cons_succ])
                  go_wp2_with fail
                  go_roundw
                  case rel =>
                    refine ⟨k + 1, D2, hlt, rfl, by go_num, Lib.hid (fun h => ?_), H40⟩
                    have hf : ∀ (h : (Coll (endsS b ds (ps.map nb) n1) (endsS b ds (ps2.map nb) n1) ∨ Coll (0 :: Sha.sum (endsS b ds (ps.map nb) n1)) (0 :: Sha.sum (endsS b ds (ps2.map nb) n1)) ∨ Climbed (Mrk.leaf (Sha.sum (endsS b ds (ps.map nb) n1))) (Mrk.leaf (Sha.sum (endsS b ds (ps2.map nb) n1))) i (qs.map nb) (qs2.map nb)) ∨ ∃ c, c < k ∧ Met c (ds.getD c 0) (last b - ds.getD c 0) ((ps.map nb).getD c []) ((ps2.map nb).getD c [])), D2 = true := fun h => by cases HD.out h
                    rcases h with h | ⟨c, hc, h⟩
                    · exact hf (.inl h)
                    · by_cases e : c = k
                      · subst e
                        rw [HE1.out, HE2.out, HDK.out] at h
                        exact HD2.out.2 h
                      · exact hf (.inr ⟨c, by omega, h⟩)
                  case measure => simp [intOf]; omega
                · refine Kit.wp_region_gplan (fun V => V.cell? ⟨A3, 0, none⟩ = some (.int .i64 (b : Int)) ∧ V.cell? ⟨A3, 1, none⟩ = some (.int .i64 32) ∧ V.cell? ⟨B3, o3 + k, none⟩ = some (.int .i64 (d : Int)) ∧ V.cell? ⟨N, 1, none⟩ = some (.slice (some ⟨B1, o1, none⟩) n1 k1) ∧ V.cell? ⟨B1, o1 + k, none⟩ = some (.string x1) ∧ V.cell? ⟨A2, 1, none⟩ = some (.slice (some ⟨B2, o2, none⟩) n1 d1) ∧ V.cell? ⟨B2, o2 + k, none⟩ = some (.string x2)) [(true, 0), (true, 1), (true, 2), (true, 3), (true, 4), (true, 5), (true, 6), (true, 7), (true, 8), (true, 9), (true, 10), (true, 11), (true, 12), (true, 13), (true, 14), (true, 15), (true, 16), (true, 17), (true, 18), (true, 19), (true, 20)] (by kernel_rfl) (by kernel_rfl) (by kernel_rfl) (by kernel_rfl) (HS18.out _ (Below.refl _ _)) ?_
                  iterate 21 (refine Kit.gplan_head (by rfl) (by first | exact .inr ⟨by rfl, rfl⟩ | exact .inl ⟨by rfl, fun w' hS => by (dsimp only at hS); go_simp; (try with_reducible rfl)⟩) ?_; (try simp only [Act.put, List.setIfInBounds_toArray, List.set_cons_zero, List.set_cons_succ]))
                  refine Kit.gplan_done ?_
                  (try simp only [Act.put, List.setIfInBounds_toArray, List.set_cons_zero, List.set_cons_succ])
                  go_wp2_with fail
                  go_roundw
                  case rel => exact ⟨k + 1, true, hlt, rfl, by go_num, Lib.hid (fun _ => rfl), Lib.hid HB.out.drew⟩
                  case measure => simp [intOf]; omega
              · have hki : ¬ (k : Int) < (n1 : Int) := by omega
                have hDT : D = true := HD.out (by
                  rcases HFIN.out with h | ⟨c, hc, h⟩
                  · exact .inl h
                  · exact .inr ⟨c, by omega, h⟩)
                subst hDT
                go_wp2_with fail
                go_ret
                exact ⟨by first | rfl | (simp; done), HEND4.out _ HB.out⟩
      )
theorem walk_SignatureUnique (p q s : Nat) (dg : ByteArray) (x : Value) (idx : Int) (ps qs : List ByteArray) (w : World) (hp : p < 256) (hq : q < 256) (hs : s < 256) (hl1 : ps.length < 9223372036854775808) (hl2 : qs.length < 9223372036854775808) (hx : SigAt w x idx ps qs) (hL : Laid w) :
    Calls Tryz.prog 3 #[.int .u8 (p : Int), .int .u8 (q : Int), .int .u8 (s : Int), .string dg, x] w fun e w' => e = .returned (.bool true) ∧ Below w.heap.size w w' := by
  have hx0 := hx
  obtain ⟨a1, n1, k1, a2, n2, k2, rfl, _, _, _, _⟩ := hx
  obtain ⟨b, t, hB, hb4, ht, hsc⟩ := schemeH_any p q
  by_cases hd : dg.size = 32
  · by_cases hacc : SigAcc (b : Int) (t : Int) (sigPub b (seedB s) t) (nb dg) idx (ps.map nb) (qs.map nb)
    · have h0 := hacc.1.2.2.1
      have h1 := hacc.1.2.2.2.1
      obtain ⟨i, rfl⟩ : ∃ i : Nat, idx = (i : Int) := ⟨idx.toNat, by omega⟩
      refine unique_yes p q s hs b t hB hb4 ht hsc dg i a1 n1 k1 a2 n2 k2 ps qs hl1 hl2 hd ?_ hacc w hx0 hL
      rw [Int.toNat_natCast, show (2 : Int) ^ t = ((2 ^ t : Nat) : Int) from (Int.natCast_pow 2 t).symm] at h1
      exact Int.ofNat_lt.1 h1
    · exact unique_no p q s hs b t hB hb4 ht hsc dg idx a1 n1 k1 a2 n2 k2 ps qs hl1 hl2 hd hacc w hx0 hL
  · exact unique_size p q s hs b t hB hb4 ht hsc dg idx a1 n1 k1 a2 n2 k2 ps qs hl1 hl2 hd w hx0 hL
end Go.Proofs.YtjhpdchcmfghpaaGreatDoor
