/- The law SignatureVerifies, walked. -/
import Derived.Test.YtmnendoloankgaaDoorSlr
import Derived.Test.YtmnendoloankgaaDoorOpb
namespace Go.Proofs.YtmnendoloankgaaDoor
set_option linter.unusedVariables false
set_option linter.unusedSimpArgs false
open Go.RowKit
open Kit (Chg)
open Sha (v)
open Go.Proofs.YtmnendoloankgaaDoor.One

theorem sig_lens (b : Nat) (hB : Bits b) (t i : Nat) (ht : t ≤ 8) (dg seed : ByteArray) (hd : dg.size = 32) (ps qs : List ByteArray) (hps : ps.map nb = sigParts b (nb seed) i (nb dg)) (hqs : qs.map nb = sigPath b (nb seed) t i) : ps.length ≤ 1000000 ∧ qs.length ≤ 1000000 := by
  have e1 := congrArg List.length hps
  have e2 := congrArg List.length hqs
  rw [List.length_map, sigParts_len b hB _ _ _ (by rw [nb_length]; exact hd)] at e1
  rw [List.length_map, sigPath_len] at e2
  have hC := count_le hB (n := 32) (by decide)
  omega
/-- What a signer signs leads to its public key. -/
theorem root_good (b t i : Nat) (hB : Bits b) (hb4 : b ≤ 4) (ht : t ≤ 8) (hi : i < 2 ^ t) (dg pk seed : ByteArray) (hd : dg.size = 32) (hpk : nb pk = sigPub b (nb seed) t) (x : Value) (ps qs : List ByteArray) (hps : ps.map nb = sigParts b (nb seed) i (nb dg)) (hqs : qs.map nb = sigPath b (nb seed) t i) (w : World) (hx : SigAt w x (i : Int) ps qs) (hL : Laid w) :
    Calls Tryd.prog 57 #[.agg #[.int .i64 (b : Int), .int .i64 (t : Int)], .string dg, x] w fun e w' => e = .returned (.tuple #[.string pk, .int .i64 0]) ∧ Below w.heap.size w w' := by
  have hl := sig_lens b hB t i ht dg seed hd ps qs hps hqs
  have ha := sigAcc_sign b hB hb4 (nb seed) t i ht hi (nb dg) (by rw [nb_length]; exact hd)
  rw [← hps, ← hqs, ← hpk] at ha
  refine (sigRoot_any (b : Int) (t : Int) dg (i : Int) x ps qs (by omega) (by omega) w hx hL).mono ?_
  rintro e w' ⟨hb, h | h⟩
  · obtain ⟨_, u, he, hu, _⟩ := h
    have : u = pk := nb_inj (hu.trans ha.2)
    subst this
    exact ⟨he, hb⟩
  · exact absurd ha.1 h.1
theorem verify_good (b t i : Nat) (hB : Bits b) (hb4 : b ≤ 4) (ht : t ≤ 8) (hi : i < 2 ^ t) (dg pk seed : ByteArray) (hd : dg.size = 32) (hpk : nb pk = sigPub b (nb seed) t) (x : Value) (ps qs : List ByteArray) (hps : ps.map nb = sigParts b (nb seed) i (nb dg)) (hqs : qs.map nb = sigPath b (nb seed) t i) (w : World) (hx : SigAt w x (i : Int) ps qs) (hL : Laid w) :
    Calls Tryd.prog 59 #[.agg #[.int .i64 (b : Int), .int .i64 (t : Int)], .string pk, .string dg, x] w fun e w' => e = .returned (.bool true) ∧ Below w.heap.size w w' := by
  have hl := sig_lens b hB t i ht dg seed hd ps qs hps hqs
  have ha := sigAcc_sign b hB hb4 (nb seed) t i ht hi (nb dg) (by rw [nb_length]; exact hd)
  rw [← hps, ← hqs, ← hpk] at ha
  refine (sigVerify_any (b : Int) (t : Int) pk dg (i : Int) x ps qs (by omega) (by omega) w hx hL).mono ?_
  rintro e w' ⟨he, hb⟩
  rw [decide_eq_true ha] at he
  exact ⟨he, hb⟩

set_option maxRecDepth 100000 in
set_option maxHeartbeats 2000000 in
theorem verifies_long (p q x : Nat) (a : Option Addr) (cap : Nat) (bs : List Nat) (h : 6 < bs.length) (w : World) (hL : Laid w) :
    Calls Tryd.prog 14 #[.int .u8 (p : Int), .int .u8 (q : Int), .int .u8 (x : Int), .slice a bs.length cap] w fun e w' => e = .returned (.bool true) ∧ Below w.heap.size w w' := by
  have HL := Lib.hid hL
  obtain ⟨L, hLe⟩ := ex_eq bs.length
  rw [hLe] at h ⊢
  have hi : (6 : Int) < (L : Int) := by omega
  clear hL h hLe
  have HC0 : Hid (Below w.heap.size w w) := Lib.hid (Below.refl _ _)
  go_enter Tryd.func14, Tryd.ntmps14
  go_wp2_with (first
    | (go_at_call 48
       (refine (awake13 _ (HL.out.later HC0.out (Nat.le_refl _))).mono ?_)
       rintro e w2 ⟨rfl, h2⟩
       replace HC0 := Lib.hid (HC0.out.trans (h2.mono HC0.out.size))
       clear h2))
  go_ret
  exact ⟨by first | rfl | simp, HC0.out⟩
set_option maxRecDepth 100000 in
set_option maxHeartbeats 2000000 in
theorem verifies_good (p q x : Nat) (hx : x < 256) (a : Option Addr) (cap L : Nat) (bs : List Nat) (hLe : bs.length = L) (h : ¬ 6 < L) (b t : Nat) (hB : Bits b) (hb4 : b ≤ 4) (ht2 : t ≤ 2) (HSC : ∀ w : World, Calls Tryd.prog 53 #[.int .u8 (p : Int), .int .u8 (q : Int)] w fun e w' => e = .returned (.agg #[.int .i64 (b : Int), .int .i64 (t : Int)]) ∧ Below w.heap.size w w') (w : World) (hA : BytesAt w a bs) (hL : Laid w) :
    Calls Tryd.prog 14 #[.int .u8 (p : Int), .int .u8 (q : Int), .int .u8 (x : Int), .slice a L cap] w fun e w' => e = .returned (.bool true) ∧ Below w.heap.size w w' := by
  have HL := Lib.hid hL
  have HBY := Lib.hid hA
  have HLE := Lib.hid hLe
  have hi : ¬ (6 : Int) < (L : Int) := by omega
  have ht8 : t ≤ 8 := by omega
  obtain ⟨hshl, hP8⟩ := fit_pow (t := t) ht8
  obtain ⟨P, hP⟩ := ex_eq (2 ^ t)
  rw [hP] at hshl hP8
  have HP := Lib.hid hP
  have hshl2 : wrap64 ((2 : Int) ^ t) = (P : Int) := by
    rw [show (2 : Int) ^ t = ((2 ^ t : Nat) : Int) from (Int.natCast_pow 2 t).symm, hP]
    exact IntWalk.wrap64_in _ ⟨by omega, by omega⟩
  have HNW := Lib.hid (fun (u : ByteArray) hu w hL => signerNew_ok b t hB hb4 (by omega) u hu w hL)
  have HC0 : Hid (Below w.heap.size w w) := Lib.hid (Below.refl _ _)
  clear hL hA hLe h hP
  go_enter Tryd.func14, Tryd.ntmps14
  go_upto_region 4 with (first
    | (go_at_call 48
       (refine (awake13 _ (HL.out.later HC0.out (Nat.le_refl _))).mono ?_)
       rintro e w0 ⟨rfl, h0⟩
       replace HC0 := Lib.hid (HC0.out.trans (h0.mono HC0.out.size))
       clear h0)
    | (go_at_call 53
       (refine (HSC _).mono ?_)
       rintro e w1 ⟨rfl, h1⟩
       have H1 := Lib.hid (HC0.out.trans (h1.mono HC0.out.size))
       clear h1))
  refine wp_over (fun W => Hid (W.heap[w1.heap.size]? = some (.cells #[.int .i64 (b : Int), .int .i64 (t : Int)] 63 (0, 0))) ∧ Hid (Below w1.heap.size w1 W) ∧ Hid (W.heap.size = w1.heap.size + 1)) ⟨heap_alloc_new _ _, (Below.refl _ _).alloc (Nat.le_refl _) _, by show _ = _; simp⟩ ?_
  rintro W ⟨HG, HB, HWN⟩
  obtain ⟨N, hN⟩ := ex_eq w1.heap.size
  rw [hN] at HG HB HWN ⊢
  have HN : Hid (w.heap.size ≤ N) := Lib.hid (by rw [← hN]; exact H1.out.size)
  have HBW : Hid (Below w.heap.size w W) := Lib.hid (H1.out.trans (HB.out.mono HN.out))
  clear hN
  have HCE : Hid (∀ V, Below (N + 1) W V → V.cell? ⟨N, 0, none⟩ = some (.int .i64 (b : Int)) ∧ V.cell? ⟨N, 1, none⟩ = some (.int .i64 (t : Int))) := Lib.hid (fun V h => by
    have hg := (h.block N (Nat.lt_succ_self _)).trans HG.out
    exact ⟨(cell_of_row _ _ _ _ _ _ hg).trans rfl, (cell_of_row _ _ _ _ _ _ hg).trans rfl⟩)
  have HST : Hid (∀ V V', Below (N + 1) W V → Below V.heap.size V V' → Below (N + 1) W V') := Lib.hid (fun V V' h h' => h.trans (h'.mono (by have := h.size; have := HWN.out; omega)))
  have HSZ : Hid (∀ V, Below (N + 1) W V → N + 1 ≤ V.heap.size) := Lib.hid (fun V h => by have := h.size; have := HWN.out; omega)
  have HEND : Hid (∀ V, Below (N + 1) W V → Below w.heap.size w V) := Lib.hid (fun V h => HBW.out.trans (h.mono (by have := HN.out; omega)))
  have HLD : Hid (∀ V, Below (N + 1) W V → Laid V) := Lib.hid (fun V h => HL.out.later (HEND.out V h) (Nat.le_refl _))
  have HCUR : Hid (Below (N + 1) W W) := Lib.hid (Below.refl _ _)
  go_upto_region 4 with fail
  refine Kit.wp_region_gplan (fun V => V.cell? ⟨N, 0, none⟩ = some (.int .i64 (b : Int)) ∧ V.cell? ⟨N, 1, none⟩ = some (.int .i64 (t : Int))) [(true, 0), (true, 1), (false, 2), (false, 3), (true, 4), (true, 5), (true, 6), (true, 7), (true, 8)] (by kernel_rfl) (by kernel_rfl) (by kernel_rfl) (by kernel_rfl) (HCE.out _ HCUR.out.drew) ?_
  iterate 2 (refine Kit.gplan_head (by rfl) (by first | exact .inr ⟨by rfl, rfl⟩ | exact .inl ⟨by rfl, fun w' hS => by (dsimp only at hS); go_simp; (try with_reducible rfl)⟩) ?_; (try simp only [Act.put, List.setIfInBounds_toArray, List.set_cons_zero, List.set_cons_succ]))
  refine Kit.gplan_op (by rfl) (by rfl) fun K hK => ?_
  go_simp
  go_at_call 55
  refine (seed_any x hx _).mono ?_
  rintro e w3 ⟨u3, rfl, hu3, hz3, h3⟩
  have HZ3 := Lib.hid hz3
  have H3 := Lib.hid (HST.out _ _ HCUR.out.drew h3)
  clear hu3 hz3 h3
  refine hK _ _ (HCE.out _ H3.out) ?_
  clear hK K
  refine Kit.gplan_op (by rfl) (by rfl) fun K hK => ?_
  go_simp
  go_at_call 54
  refine (HNW.out u3 HZ3.out _ (HLD.out _ H3.out)).mono ?_
  rintro e w4 ⟨g, pk, rfl, hs4, h4⟩
  have HS4 := Lib.hid hs4
  have H4 := Lib.hid (HST.out _ _ H3.out h4)
  have HGN : Hid (N + 1 ≤ g) := Lib.hid (Nat.le_trans (HSZ.out _ H3.out) hs4.base)
  have HPK := Lib.hid hs4.pk
  clear hs4 h4
  refine hK _ _ (HCE.out _ H4.out) ?_
  clear hK K
  iterate 5 (refine Kit.gplan_head (by rfl) (by first | exact .inr ⟨by rfl, rfl⟩ | exact .inl ⟨by rfl, fun w' hS => by (dsimp only at hS); go_simp; (try with_reducible rfl)⟩) ?_; (try simp only [Act.put, List.setIfInBounds_toArray, List.set_cons_zero, List.set_cons_succ]))
  refine Kit.gplan_done ?_
  (try simp only [Act.put, List.setIfInBounds_toArray, List.set_cons_zero, List.set_cons_succ])
  obtain ⟨B1, hB1⟩ := ex_eq w3.heap.size
  rw [hB1] at HS4
  clear hB1
  obtain ⟨f0, f1⟩ := HCE.out _ H4.out
  go_wp2_with fail
  go_loopw [12] (fun z wr => ∃ k : Nat, k ≤ L ∧ z = .int .i64 (k : Int) ∧ Hid (Below (N + 1) W wr) ∧ Hid (∃ n, n = min k P ∧ SignerAt wr B1 g b t u3 pk n)) (fun z _ => L - (intOf z).toNat)
  case atStart => exact ⟨0, by omega, rfl, H4, Lib.hid ⟨0, by omega, HS4.out⟩⟩
  case round =>
    obtain ⟨k, hk, rfl, HR, HSN⟩ := hrel
    by_cases hlt : k < L
    · have hki : (k : Int) < (L : Int) := by omega
      clear f0 f1
      obtain ⟨b0, o0, rfl, hcs⟩ := BytesAt.some HBY.out (by rw [HLE.out]; omega)
      have hy := BytesAt.getD_lt HBY.out k (by rw [HLE.out]; exact hlt)
      have hcy := hcs k (by rw [HLE.out]; exact hlt)
      obtain ⟨y, hye⟩ := ex_eq (bs.getD k 0)
      rw [hye] at hy hcy
      have HCY : Hid (∀ V, Below (N + 1) W V → V.cell? ⟨b0, o0 + k, none⟩ = some (.int .u8 (y : Int))) := Lib.hid (fun V h => ((HEND.out V h).cell (p := ⟨b0, o0 + k, none⟩) (World.block_lt_of_cell? w _ hcy)).trans hcy)
      clear hcs hcy hye
      by_cases hkp : k < P
      · have hkpi : ¬ (P : Int) ≤ (k : Int) := by omega
        have HSK : Hid (SignerAt wr B1 g b t u3 pk k) := Lib.hid (by
          obtain ⟨n, hn, hs⟩ := HSN.out
          rw [show n = k by omega] at hs
          exact hs)
        have HKP : Hid (k < 2 ^ t) := Lib.hid (by rw [HP.out]; exact hkp)
        clear HSN
        obtain ⟨f0, f1⟩ := HCE.out _ HR.out
        have cy := HCY.out _ HR.out
        go_upto_region 11 with (first
          | (go_at_call 55
             (refine (seed_any y hy _).mono ?_)
             rintro e w5 ⟨u5, rfl, hu5, hz5, h5⟩
             have HU5 := Lib.hid hu5
             have HZ5 := Lib.hid hz5
             have H5 := Lib.hid (HST.out _ _ HR.out h5)
             have HS5 := Lib.hid (HSK.out.later h5)
             clear hu5 hz5 h5)
          | (go_at_call 56
             (refine (signerSign_ok u5 HZ5.out HKP.out _ HS5.out (HLD.out _ H5.out)).mono ?_)
             rintro e w6 ⟨x6, ps, qs, rfl, hx6, hps, hqs, hs6, hc6⟩
             obtain ⟨a1, n1, c1, a2, n2, c2, rfl, hl1, hA1, hl2, hA2⟩ := hx6
             have HS6 := Lib.hid hs6
             have H6 := Lib.hid (H5.out.trans (chg_below hc6 HGN.out (HSZ.out _ H5.out)))
             have HX6 : Hid (SigAt w6 (.agg #[.int .i64 (k : Int), .slice a1 n1 c1, .slice a2 n2 c2]) (k : Int) ps qs) := Lib.hid ⟨a1, n1, c1, a2, n2, c2, rfl, hl1, hA1, hl2, hA2⟩
             have HPQ := Lib.hid (And.intro hps hqs)
             clear hps hqs hs6 hc6 hA1 hA2 hl1 hl2))
        have hb7 : Below w6.heap.size w6 (w6.alloc (.cells #[.int .i64 (k : Int), .slice a1 n1 c1, .slice a2 n2 c2] 75)) := (Below.refl _ _).alloc (Nat.le_refl _) _
        refine wp_over (fun W => Hid (W.heap[w6.heap.size]? = some (.cells #[.int .i64 (k : Int), .slice a1 n1 c1, .slice a2 n2 c2] 75 (0, 0))) ∧ Hid (Below w6.heap.size w6 W)) ⟨heap_alloc_new _ _, hb7⟩ ?_
        clear hb7
        rintro w7 ⟨HR7, HB7⟩
        have H7 := Lib.hid (HST.out _ _ H6.out HB7.out)
        have HS7 := Lib.hid (HS6.out.later HB7.out)
        have HX7 := Lib.hid (HX6.out.later HB7.out)
        obtain ⟨A, hA⟩ := ex_eq w6.heap.size
        rw [hA] at HR7 ⊢
        clear hA HB7 HS6 HX6
        have HC7 : Hid (∀ V, Below w7.heap.size w7 V → V.cell? ⟨N, 0, none⟩ = some (.int .i64 (b : Int)) ∧ V.cell? ⟨N, 1, none⟩ = some (.int .i64 (t : Int)) ∧ V.cell? ⟨b0, o0 + k, none⟩ = some (.int .u8 (y : Int)) ∧ V.cell? ⟨A, 0, none⟩ = some (.int .i64 (k : Int)) ∧ V.cell? ⟨A, 1, none⟩ = some (.slice a1 n1 c1) ∧ V.cell? ⟨A, 2, none⟩ = some (.slice a2 n2 c2)) := Lib.hid (fun V h => ⟨(HCE.out _ (HST.out _ _ H7.out h)).1, (HCE.out _ (HST.out _ _ H7.out h)).2, HCY.out _ (HST.out _ _ H7.out h), box3 HR7.out h⟩)
        have HT7 : Hid (∀ V V', Below w7.heap.size w7 V → Below V.heap.size V V' → Below w7.heap.size w7 V') := Lib.hid (fun V V' h h' => h.trans (h'.mono h.size))
        clear f0 f1 cy
        obtain ⟨f0, f1, cy, ca0, ca1, ca2⟩ := HC7.out _ (Below.refl _ _)
        go_upto_region 14 with fail
        clear f0 f1 cy ca0 ca1 ca2
        refine Kit.wp_region_gplan (fun V => V.cell? ⟨N, 0, none⟩ = some (.int .i64 (b : Int)) ∧ V.cell? ⟨N, 1, none⟩ = some (.int .i64 (t : Int)) ∧ V.cell? ⟨b0, o0 + k, none⟩ = some (.int .u8 (y : Int)) ∧ V.cell? ⟨A, 0, none⟩ = some (.int .i64 (k : Int)) ∧ V.cell? ⟨A, 1, none⟩ = some (.slice a1 n1 c1) ∧ V.cell? ⟨A, 2, none⟩ = some (.slice a2 n2 c2)) [(true, 0), (true, 1), (true, 2), (true, 3), (true, 4), (true, 6), (false, 5), (false, 7), (true, 8), (true, 9), (true, 10), (true, 11), (true, 12)] (by kernel_rfl) (by kernel_rfl) (by kernel_rfl) (by kernel_rfl) (HC7.out _ (Below.refl _ w7).drew) ?_
        iterate 6 (refine Kit.gplan_head (by rfl) (by first | exact .inr ⟨by rfl, rfl⟩ | exact .inl ⟨by rfl, fun w' hS => by (dsimp only at hS); go_simp; (try with_reducible rfl)⟩) ?_; (try simp only [Act.put, List.setIfInBounds_toArray, List.set_cons_zero, List.set_cons_succ]))
        refine Kit.gplan_op (by rfl) (by rfl) fun K hK => ?_
        go_simp
        go_at_call 55
        refine (seed_any y hy _).mono ?_
        rintro e w8 ⟨u8, rfl, hu8, hz8, h8⟩
        have hue : u8 = u5 := nb_inj (by rw [hu8, HU5.out])
        subst hue
        have H8 := Lib.hid ((Below.refl _ w7).drew.trans h8)
        clear hu8 hz8 h8
        refine hK _ _ (HC7.out _ H8.out) ?_
        clear hK K
        refine Kit.gplan_op (by rfl) (by rfl) fun K hK => ?_
        go_simp
        go_at_call 57
        refine (root_good b t k hB hb4 ht8 HKP.out u8 pk u3 HZ5.out HPK.out _ ps qs HPQ.out.1 HPQ.out.2 _ (HX7.out.later H8.out) (HLD.out _ (HST.out _ _ H7.out H8.out))).mono ?_
        rintro e w9 ⟨rfl, h9⟩
        have H9 := Lib.hid (HT7.out _ _ H8.out h9)
        clear h9
        refine hK _ _ (HC7.out _ H9.out) ?_
        clear hK K
        iterate 5 (refine Kit.gplan_head (by rfl) (by first | exact .inr ⟨by rfl, rfl⟩ | exact .inl ⟨by rfl, fun w' hS => by (dsimp only at hS); go_simp; (try with_reducible rfl)⟩) ?_; (try simp only [Act.put, List.setIfInBounds_toArray, List.set_cons_zero, List.set_cons_succ]))
        refine Kit.gplan_done ?_
        (try simp only [Act.put, List.setIfInBounds_toArray, List.set_cons_zero, List.set_cons_succ])
        have huu : (pk.toList != pk.toList) = false := by simp
        have hkk : ((k : Int) != (k : Int)) = false := by simp
        go_upto_region 15 with fail
        refine Kit.wp_region_gplan (fun V => V.cell? ⟨N, 0, none⟩ = some (.int .i64 (b : Int)) ∧ V.cell? ⟨N, 1, none⟩ = some (.int .i64 (t : Int)) ∧ V.cell? ⟨b0, o0 + k, none⟩ = some (.int .u8 (y : Int)) ∧ V.cell? ⟨A, 0, none⟩ = some (.int .i64 (k : Int)) ∧ V.cell? ⟨A, 1, none⟩ = some (.slice a1 n1 c1) ∧ V.cell? ⟨A, 2, none⟩ = some (.slice a2 n2 c2)) [(true, 0), (true, 1), (true, 2), (true, 3), (true, 4), (true, 5), (true, 6), (true, 7), (true, 8), (true, 9), (true, 10), (true, 11), (true, 12), (true, 13), (true, 14), (false, 15), (true, 16), (true, 17), (true, 18), (true, 19), (true, 20), (true, 22), (true, 23), (true, 24), (true, 25), (true, 27), (false, 21), (false, 26), (false, 28), (true, 29), (true, 30)] (by kernel_rfl) (by kernel_rfl) (by kernel_rfl) (by kernel_rfl) (HC7.out _ H9.out.drew) ?_
        iterate 15 (refine Kit.gplan_head (by rfl) (by first | exact .inr ⟨by rfl, rfl⟩ | exact .inl ⟨by rfl, fun w' hS => by (dsimp only at hS); go_simp; (try with_reducible rfl)⟩) ?_; (try simp only [Act.put, List.setIfInBounds_toArray, List.set_cons_zero, List.set_cons_succ]))
        refine Kit.gplan_op (by rfl) (by rfl) fun K hK => ?_
        go_simp
        go_at_call 58
        refine (signerPublic_any _ (HS7.out.later H9.out.drew)).mono ?_
        rintro e w10 ⟨rfl, h10⟩
        subst h10
        refine hK _ _ (HC7.out _ H9.out.drew) ?_
        clear hK K
        iterate 10 (refine Kit.gplan_head (by rfl) (by first | exact .inr ⟨by rfl, rfl⟩ | exact .inl ⟨by rfl, fun w' hS => by (dsimp only at hS); go_simp; (try with_reducible rfl)⟩) ?_; (try simp only [Act.put, List.setIfInBounds_toArray, List.set_cons_zero, List.set_cons_succ]))
        refine Kit.gplan_op (by rfl) (by rfl) fun K hK => ?_
        go_simp
        go_at_call 58
        refine (signerPublic_any _ (HS7.out.later H9.out.drew)).mono ?_
        rintro e w11 ⟨rfl, h11⟩
        subst h11
        refine hK _ _ (HC7.out _ H9.out.drew) ?_
        clear hK K
        refine Kit.gplan_op (by rfl) (by rfl) fun K hK => ?_
        go_simp
        go_at_call 55
        refine (seed_any y hy _).mono ?_
        rintro e w12 ⟨u12, rfl, hu12, hz12, h12⟩
        have hue : u12 = u8 := nb_inj (by rw [hu12, HU5.out])
        subst hue
        have H12 := Lib.hid (HT7.out _ _ H9.out.drew h12)
        clear hu12 hz12 h12
        refine hK _ _ (HC7.out _ H12.out) ?_
        clear hK K
        refine Kit.gplan_op (by rfl) (by rfl) fun K hK => ?_
        go_simp
        go_at_call 59
        refine (verify_good b t k hB hb4 ht8 HKP.out u12 pk u3 HZ5.out HPK.out _ ps qs HPQ.out.1 HPQ.out.2 _ (HX7.out.later H12.out) (HLD.out _ (HST.out _ _ H7.out H12.out))).mono ?_
        rintro e w13 ⟨rfl, h13⟩
        have H13 := Lib.hid (HT7.out _ _ H12.out h13)
        clear h13
        refine hK _ _ (HC7.out _ H13.out) ?_
        clear hK K
        iterate 2 (refine Kit.gplan_head (by rfl) (by first | exact .inr ⟨by rfl, rfl⟩ | exact .inl ⟨by rfl, fun w' hS => by (dsimp only at hS); go_simp; (try with_reducible rfl)⟩) ?_; (try simp only [Act.put, List.setIfInBounds_toArray, List.set_cons_zero, List.set_cons_succ]))
        refine Kit.gplan_done ?_
        (try simp only [Act.put, List.setIfInBounds_toArray, List.set_cons_zero, List.set_cons_succ])
        go_wp2_with fail
        go_roundw
        case rel => exact ⟨k + 1, hlt, by go_num, Lib.hid (HST.out _ _ H7.out H13.out), Lib.hid ⟨k + 1, by omega, HS7.out.later H13.out⟩⟩
        case measure => simp [intOf]; omega
      · have hkpi : (P : Int) ≤ (k : Int) := by omega
        have HSK : Hid (SignerAt wr B1 g b t u3 pk (2 ^ t)) := Lib.hid (by
          obtain ⟨n, hn, hs⟩ := HSN.out
          rw [show n = 2 ^ t by rw [HP.out]; omega] at hs
          exact hs)
        clear HSN
        obtain ⟨f0, f1⟩ := HCE.out _ HR.out
        have cy := HCY.out _ HR.out
        go_upto_region 11 with (first
          | (go_at_call 55
             (refine (seed_any y hy _).mono ?_)
             rintro e w5 ⟨u5, rfl, hu5, hz5, h5⟩
             have HZ5 := Lib.hid hz5
             have H5 := Lib.hid (HST.out _ _ HR.out h5)
             have HS5 := Lib.hid (HSK.out.later h5)
             clear hu5 hz5 h5)
          | (go_at_call 56
             (refine (signerSign_spent u5 HZ5.out _ HS5.out).mono ?_)
             rintro e w6 ⟨rfl, h6⟩
             have H6 := Lib.hid (HST.out _ _ H5.out h6)
             have HS6 := Lib.hid (HS5.out.later h6)
             clear h6))
        have hb7 : Below w6.heap.size w6 (w6.alloc (.cells #[.int .i64 0, .slice none 0 0, .slice none 0 0] 75)) := (Below.refl _ _).alloc (Nat.le_refl _) _
        refine wp_over (fun W => Hid (Below w6.heap.size w6 W)) hb7 ?_
        clear hb7
        intro w7 HB7
        have H7 := Lib.hid (HST.out _ _ H6.out HB7.out)
        have HS7 := Lib.hid (HS6.out.later HB7.out)
        clear f0 f1 cy
        obtain ⟨f0, f1⟩ := HCE.out _ H7.out
        go_wp2_with fail
        go_roundw
        case rel => exact ⟨k + 1, hlt, by go_num, H7, Lib.hid ⟨2 ^ t, by rw [HP.out]; omega, HS7.out⟩⟩
        case measure => simp [intOf]; omega
    · have hki : ¬ (k : Int) < (L : Int) := by omega
      go_wp2_with fail
      go_ret
      exact ⟨by first | rfl | simp, HEND.out _ HR.out⟩
theorem walk_SignatureVerifies (p q x : Nat) (a : Option Addr) (cap : Nat) (bs : List Nat) (w : World) (hp : p < 256) (hq : q < 256) (hx : x < 256) (hA : BytesAt w a bs) (hL : Laid w) :
    Calls Tryd.prog 14 #[.int .u8 (p : Int), .int .u8 (q : Int), .int .u8 (x : Int), .slice a bs.length cap] w fun e w' => e = .returned (.bool true) ∧ Below w.heap.size w w' := by
  obtain ⟨b, t, hB, hb4, ht, hsc⟩ := schemeH_any p q
  by_cases h : 6 < bs.length
  · exact verifies_long p q x a cap bs h w hL
  · exact verifies_good p q x hx a cap _ bs rfl h b t hB hb4 ht hsc w hA hL
end Go.Proofs.YtmnendoloankgaaDoor
