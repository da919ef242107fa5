/- The law SignatureResumes, walked. -/
import Derived.Test.YtmnendoloankgaaDoorSml
import Derived.Test.YtmnendoloankgaaDoorOpu
namespace Go.Proofs.YtmnendoloankgaaDoor
set_option linter.unusedVariables false
set_option linter.unusedSimpArgs false
open Go.RowKit
open Kit (Chg)
open Sha (v)
open Go.Proofs.YtmnendoloankgaaDoor.One

/-- What a signer does leaves strings as they are. -/
theorem strs_chg {w w' : World} {B g b t next : Nat} {seed pk : ByteArray} {a : Option Addr} {ss : List ByteArray} (h : StrsAt w a ss) (hs : SignerAt w B g b t seed pk next) (hc : Chg (fun q i => q = g ∧ i = 6) w w') : StrsAt w' a ss := by
  obtain ⟨gt, ls, hR, _, _⟩ := hs.ex
  obtain ⟨k0, k1, k2, k3, k4, k5, k6⟩ := row_cells hR
  rcases h with h | ⟨bb, o, e, hq⟩
  · exact .inl h
  · refine .inr ⟨bb, o, e, fun j hj => hc.cell (hq j hj) (fun hm => ?_)⟩
    have h1 := hq j hj
    rw [hm.1, hm.2, k6] at h1
    cases h1
theorem row_chg {w w' : World} {B g b t next A : Nat} {seed pk : ByteArray} {c : Array Value} {T : TypeId} {f : Nat × Nat} (h : w.heap[A]? = some (.cells c T f)) (hT : T ≠ 111) (hs : SignerAt w B g b t seed pk next) (hc : Chg (fun q i => q = g ∧ i = 6) w w') : w'.heap[A]? = some (.cells c T f) := by
  obtain ⟨gt, ls, hR, _, _⟩ := hs.ex
  refine (hc.other A (Array.getElem?_eq_some_iff.1 h).1 (fun i e => ?_)).trans h
  rw [e.1, hR] at h
  cases h
  exact hT rfl
/-- The cells of a result that was laid into a box of its own. -/
theorem box3 {w w' : World} {A : Nat} {c0 c1 c2 : Value} {T : TypeId} (h : w.heap[A]? = some (.cells #[c0, c1, c2] T (0, 0))) (hb : Below w.heap.size w w') : w'.cell? ⟨A, 0, none⟩ = some c0 ∧ w'.cell? ⟨A, 1, none⟩ = some c1 ∧ w'.cell? ⟨A, 2, none⟩ = some c2 := by
  have hg := (hb.block A (Array.getElem?_eq_some_iff.1 h).1).trans h
  exact ⟨(cell_of_row _ _ _ _ _ _ hg).trans rfl, (cell_of_row _ _ _ _ _ _ hg).trans rfl, (cell_of_row _ _ _ _ _ _ hg).trans rfl⟩

set_option maxRecDepth 100000 in
set_option maxHeartbeats 2000000 in
theorem resumes_more (x y z p q : Nat) (hx : x < 256) (hy : y < 256) (hz : z < 256) (b t : Nat) (hB : Bits b) (hb4 : b ≤ 4) (ht2 : t ≤ 2) (hp : 1 < 2 ^ t ∧ 0 < 2 ^ t) (hti : (0 : Int) < (t : Int)) (HSC : ∀ w : World, Calls Tryd.prog 53 #[.int .u8 (p : Int), .int .u8 (q : Int)] w fun e w' => e = .returned (.agg #[.int .i64 (b : Int), .int .i64 (t : Int)]) ∧ Below w.heap.size w w') (w : World) (hL : Laid w) :
    Calls Tryd.prog 17 #[.int .u8 (p : Int), .int .u8 (q : Int), .int .u8 (x : Int), .int .u8 (y : Int), .int .u8 (z : Int)] w fun e w' => e = .returned (.bool true) ∧ Below w.heap.size w w' := by
  have HL := Lib.hid hL
  obtain ⟨hP2, hP0⟩ := hp
  have HNW := Lib.hid (fun (u : ByteArray) hu w hL => signerNew_ok b t hB hb4 (by omega) u hu w hL)
  clear hL
  go_enter Tryd.func17, Tryd.ntmps17
  go_upto_region 2 with (first
    | (go_at_call 53
       (refine (HSC _).mono ?_)
       rintro e w1 ⟨rfl, h1⟩
       have H1 := Lib.hid h1
       clear h1))
  refine wp_over (fun W => Hid (W.heap[w1.heap.size]? = some (.cells #[.int .i64 (b : Int), .int .i64 (t : Int)] 63 (0, 0))) ∧ Hid (Below w1.heap.size w1 W) ∧ Hid (W.heap.size = w1.heap.size + 1)) ⟨heap_alloc_new _ _, (Below.refl _ _).alloc (Nat.le_refl _) _, by show _ = _; simp⟩ ?_
  rintro W ⟨HG, HB, HWN⟩
  obtain ⟨N, hN⟩ := ex_eq w1.heap.size
  rw [hN] at HG HB HWN ⊢
  have HN : Hid (w.heap.size ≤ N) := Lib.hid (by rw [← hN]; exact H1.out.size)
  have HBW : Hid (Below w.heap.size w W) := Lib.hid (H1.out.trans (HB.out.mono HN.out))
  clear hN
  have HCE : Hid (∀ V, Below (N + 1) W V → V.cell? ⟨N, 0, none⟩ = some (.int .i64 (b : Int)) ∧ V.cell? ⟨N, 1, none⟩ = some (.int .i64 (t : Int))) := Lib.hid (fun V h => by
    have hg := (h.block N (Nat.lt_succ_self _)).trans HG.out
    exact ⟨(cell_of_row _ _ _ _ _ _ hg).trans rfl, (cell_of_row _ _ _ _ _ _ hg).trans rfl⟩)
  have HST : Hid (∀ V V', Below (N + 1) W V → Below V.heap.size V V' → Below (N + 1) W V') := Lib.hid (fun V V' h h' => h.trans (h'.mono (by have := h.size; have := HWN.out; omega)))
  have HSZ : Hid (∀ V, Below (N + 1) W V → N + 1 ≤ V.heap.size) := Lib.hid (fun V h => by have := h.size; have := HWN.out; omega)
  have HEND : Hid (∀ V, Below (N + 1) W V → Below w.heap.size w V) := Lib.hid (fun V h => HBW.out.trans (h.mono (by have := HN.out; omega)))
  have HLD : Hid (∀ V, Below (N + 1) W V → Laid V) := Lib.hid (fun V h => HL.out.later (HEND.out V h) (Nat.le_refl _))
  have HCUR : Hid (Below (N + 1) W W) := Lib.hid (Below.refl _ _)
  go_upto_region 2 with fail
  refine Kit.wp_region_gplan (fun V => V.cell? ⟨N, 0, none⟩ = some (.int .i64 (b : Int)) ∧ V.cell? ⟨N, 1, none⟩ = some (.int .i64 (t : Int))) [(true, 0), (true, 1), (false, 2), (false, 3), (true, 4), (true, 5), (true, 6), (true, 7), (true, 8)] (by kernel_rfl) (by kernel_rfl) (by kernel_rfl) (by kernel_rfl) (HCE.out _ HCUR.out.drew) ?_
  iterate 2 (refine Kit.gplan_head (by rfl) (by first | exact .inr ⟨by rfl, rfl⟩ | exact .inl ⟨by rfl, fun w' hS => by (dsimp only at hS); go_simp; (try with_reducible rfl)⟩) ?_; (try simp only [Act.put, List.setIfInBounds_toArray, List.set_cons_zero, List.set_cons_succ]))
  refine Kit.gplan_op (by rfl) (by rfl) fun K hK => ?_
  go_simp
  go_at_call 55
  refine (seed_any x hx _).mono ?_
  rintro e w3 ⟨u3, rfl, hu3, hz3, h3⟩
  have HU3 := Lib.hid hu3
  have HZ3 := Lib.hid hz3
  have H3 := Lib.hid (HST.out _ _ HCUR.out.drew h3)
  clear hu3 hz3 h3
  refine hK _ _ (HCE.out _ H3.out) ?_
  clear hK K
  refine Kit.gplan_op (by rfl) (by rfl) fun K hK => ?_
  go_simp
  go_at_call 54
  refine (HNW.out u3 HZ3.out _ (HLD.out _ H3.out)).mono ?_
  rintro e w4 ⟨g, pk, rfl, hs4, h4⟩
  have HS4 := Lib.hid hs4
  have H4 := Lib.hid (HST.out _ _ H3.out h4)
  have HGN : Hid (N + 1 ≤ g) := Lib.hid (Nat.le_trans (HSZ.out _ H3.out) hs4.base)
  clear hs4 h4
  refine hK _ _ (HCE.out _ H4.out) ?_
  clear hK K
  iterate 5 (refine Kit.gplan_head (by rfl) (by first | exact .inr ⟨by rfl, rfl⟩ | exact .inl ⟨by rfl, fun w' hS => by (dsimp only at hS); go_simp; (try with_reducible rfl)⟩) ?_; (try simp only [Act.put, List.setIfInBounds_toArray, List.set_cons_zero, List.set_cons_succ]))
  refine Kit.gplan_done ?_
  (try simp only [Act.put, List.setIfInBounds_toArray, List.set_cons_zero, List.set_cons_succ])
  go_upto_region 3 with fail
  refine Kit.wp_region_gplan (fun V => V.cell? ⟨N, 0, none⟩ = some (.int .i64 (b : Int)) ∧ V.cell? ⟨N, 1, none⟩ = some (.int .i64 (t : Int))) [(true, 0), (true, 1), (false, 2), (false, 3), (true, 4), (true, 5), (true, 6), (true, 7), (true, 8)] (by kernel_rfl) (by kernel_rfl) (by kernel_rfl) (by kernel_rfl) (HCE.out _ H4.out.drew) ?_
  iterate 2 (refine Kit.gplan_head (by rfl) (by first | exact .inr ⟨by rfl, rfl⟩ | exact .inl ⟨by rfl, fun w' hS => by (dsimp only at hS); go_simp; (try with_reducible rfl)⟩) ?_; (try simp only [Act.put, List.setIfInBounds_toArray, List.set_cons_zero, List.set_cons_succ]))
  refine Kit.gplan_op (by rfl) (by rfl) fun K hK => ?_
  go_simp
  go_at_call 55
  refine (seed_any x hx _).mono ?_
  rintro e w5 ⟨u5, rfl, hu5, hz5, h5⟩
  have hue : u5 = u3 := nb_inj (by rw [hu5, HU3.out])
  subst hue
  have HS5 := Lib.hid ((HS4.out.later (Below.refl _ _).drew).later h5)
  have H5 := Lib.hid (HST.out _ _ H4.out.drew h5)
  clear hu5 hz5 h5 HS4
  refine hK _ _ (HCE.out _ H5.out) ?_
  clear hK K
  refine Kit.gplan_op (by rfl) (by rfl) fun K hK => ?_
  go_simp
  go_at_call 54
  refine (HNW.out u5 HZ3.out _ (HLD.out _ H5.out)).mono ?_
  rintro e w6 ⟨g2, pk2, rfl, hs6, h6⟩
  have hpe : pk2 = pk := nb_inj (by rw [hs6.pk, HS5.out.pk])
  subst hpe
  have HT6 := Lib.hid hs6
  have HS6 := Lib.hid (HS5.out.later h6)
  have H6 := Lib.hid (HST.out _ _ H5.out h6)
  have HNE : Hid (g ≠ g2) := Lib.hid (fun e => by have := HS5.out.lt; have := hs6.base; omega)
  have HGN2 : Hid (N + 1 ≤ g2) := Lib.hid (Nat.le_trans (HSZ.out _ H5.out) hs6.base)
  clear hs6 h6 HS5
  refine hK _ _ (HCE.out _ H6.out) ?_
  clear hK K
  iterate 5 (refine Kit.gplan_head (by rfl) (by first | exact .inr ⟨by rfl, rfl⟩ | exact .inl ⟨by rfl, fun w' hS => by (dsimp only at hS); go_simp; (try with_reducible rfl)⟩) ?_; (try simp only [Act.put, List.setIfInBounds_toArray, List.set_cons_zero, List.set_cons_succ]))
  refine Kit.gplan_done ?_
  (try simp only [Act.put, List.setIfInBounds_toArray, List.set_cons_zero, List.set_cons_succ])
  obtain ⟨B1, hB1⟩ := ex_eq w3.heap.size
  obtain ⟨B2, hB2⟩ := ex_eq w5.heap.size
  rw [hB1] at HS6
  rw [hB2] at HT6
  clear hB1 hB2
  go_upto_region 5 with (first
    | (go_at_call 48
       (refine (awake13 _ (HLD.out _ H6.out)).mono ?_)
       rintro e w7 ⟨rfl, h7⟩
       have H7 := Lib.hid (HST.out _ _ H6.out h7)
       have HS7 := Lib.hid (HS6.out.later h7)
       have HT7 := Lib.hid (HT6.out.later h7)
       clear h7))
  go_upto_region 7 with (first
    | (go_at_call 55
       (refine (seed_any y hy _).mono ?_)
       rintro e w8 ⟨u8, rfl, hu8, hz8, h8⟩
       have HZ8 := Lib.hid hz8
       have H8 := Lib.hid (HST.out _ _ H7.out h8)
       have HS8 := Lib.hid (HS7.out.later h8)
       have HT8 := Lib.hid (HT7.out.later h8)
       clear hu8 hz8 h8)
    | (go_at_call 56
       (refine (signerSign_ok u8 HZ8.out hP0 _ HS8.out (HLD.out _ H8.out)).mono ?_)
       rintro e w9 ⟨x9, ps9, qs9, rfl, hx9, hps9, hqs9, hs9, hc9⟩
       have HT9 := Lib.hid (HT8.out.keep HS8.out HNE.out.symm hc9)
       have HS9 : Hid (SignerAt w9 B1 g b t u5 pk2 1) := Lib.hid hs9
       have H9 := Lib.hid (H8.out.trans (chg_below hc9 HGN.out (HSZ.out _ H8.out)))
       clear hx9 hps9 hqs9 hs9 hc9))
  have HSK := Lib.hid (fun w h => signerSkip_ok (B := B2) (g := g2) (b := b) (t := t) (seed := u5) (pk := pk2) (next := 0) 1 (by decide) (by omega) w h)
  go_upto_region 8 with (first
    | (go_at_call 63
       (refine (signerNext_any _ HS9.out).mono ?_)
       rintro e w10 ⟨rfl, rfl⟩)
    | (go_at_call 65
       (refine (HSK.out _ HT9.out).mono ?_)
       rintro e w11 ⟨rfl, ht11, hc11⟩
       have HS11 := Lib.hid (HS9.out.keep HT9.out HNE.out hc11)
       have HT11 := Lib.hid ht11
       have H11 := Lib.hid (H9.out.trans (chg_below hc11 HGN2.out (HSZ.out _ H9.out)))
       clear ht11 hc11))
  go_upto_region 9 with (first
    | (go_at_call 55
       (refine (seed_any z hz _).mono ?_)
       rintro e w12 ⟨u12, rfl, hu12, hz12, h12⟩
       have HU12 := Lib.hid hu12
       have HZ12 := Lib.hid hz12
       have H12 := Lib.hid (HST.out _ _ H11.out h12)
       have HS12 := Lib.hid (HS11.out.later h12)
       have HT12 := Lib.hid (HT11.out.later h12)
       clear hu12 hz12 h12)
    | (go_at_call 56
       (refine (signerSign_ok u12 HZ12.out hP2 _ HS12.out (HLD.out _ H12.out)).mono ?_)
       rintro e w13 ⟨x13, ps, qs, rfl, hx13, hps, hqs, hs13, hc13⟩
       obtain ⟨a1, n1, c1, a2, n2, c2, rfl, hl1, hA1, hl2, hA2⟩ := hx13
       have HT13 := Lib.hid (HT12.out.keep HS12.out HNE.out.symm hc13)
       have HS13 := Lib.hid hs13
       have H13 := Lib.hid (H12.out.trans (chg_below hc13 HGN.out (HSZ.out _ H12.out)))
       have HA1 := Lib.hid hA1
       have HA2 := Lib.hid hA2
       have HLA := Lib.hid (And.intro hl1 hl2)
       have HPQ := Lib.hid (And.intro hps hqs)
       clear hps hqs hs13 hc13 hA1 hA2 hl1 hl2))
  have hb14 : Below w13.heap.size w13 (w13.alloc (.cells #[.int .i64 1, .slice a1 n1 c1, .slice a2 n2 c2] 75)) := (Below.refl _ _).alloc (Nat.le_refl _) _
  refine wp_over (fun W => Hid (W.heap[w13.heap.size]? = some (.cells #[.int .i64 1, .slice a1 n1 c1, .slice a2 n2 c2] 75 (0, 0))) ∧ Hid (Below w13.heap.size w13 W)) ⟨heap_alloc_new _ _, hb14⟩ ?_
  clear hb14
  rintro w14 ⟨HR14, HB14⟩
  have H14 := Lib.hid (HST.out _ _ H13.out HB14.out)
  have HS14 := Lib.hid (HS13.out.later HB14.out)
  have HT14 := Lib.hid (HT13.out.later HB14.out)
  have HA3 := Lib.hid (And.intro (HA1.out.later HB14.out) (HA2.out.later HB14.out))
  obtain ⟨A, hA⟩ := ex_eq w13.heap.size
  rw [hA] at HR14 ⊢
  clear hA HB14 HS13 HT13 HA1 HA2
  go_upto_region 10 with (first
    | (go_at_call 55
       (refine (seed_any z hz _).mono ?_)
       rintro e w15 ⟨u15, rfl, hu15, hz15, h15⟩
       have HU15 := Lib.hid hu15
       have HZ15 := Lib.hid hz15
       have H15 := Lib.hid (HST.out _ _ H14.out h15)
       have HS15 := Lib.hid (HS14.out.later h15)
       have HT15 := Lib.hid (HT14.out.later h15)
       have hue : u15 = u12 := nb_inj (by rw [hu15, HU12.out])
       subst hue
       have HA4 := Lib.hid (And.intro (HA3.out.1.later h15) (HA3.out.2.later h15))
       have HR15 := Lib.hid ((h15.block A (Array.getElem?_eq_some_iff.1 HR14.out).1).trans HR14.out)
       clear hu15 hz15 h15)
    | (go_at_call 56
       (refine (signerSign_ok u15 HZ15.out hP2 _ HT15.out (HLD.out _ H15.out)).mono ?_)
       rintro e w16 ⟨x16, ps2, qs2, rfl, hx16, hps2, hqs2, hs16, hc16⟩
       obtain ⟨b1, m1, d1, b2, m2, d2, rfl, hl3, hA3, hl4, hA4⟩ := hx16
       have HS16 := Lib.hid (HS15.out.keep HT15.out HNE.out hc16)
       have HT16 := Lib.hid hs16
       have H16 := Lib.hid (H15.out.trans (chg_below hc16 HGN2.out (HSZ.out _ H15.out)))
       have HA5 := Lib.hid (And.intro (strs_chg HA4.out.1 HT15.out hc16) (strs_chg HA4.out.2 HT15.out hc16))
       have HR16 := Lib.hid (row_chg HR15.out (by decide) HT15.out hc16)
       have HBS := Lib.hid (And.intro hA3 hA4)
       have HLB := Lib.hid (And.intro hl3 hl4)
       have HPQ2 := Lib.hid (And.intro hps2 hqs2)
       clear hps2 hqs2 hs16 hc16 hA3 hA4 hl3 hl4))
  have hb17 : Below w16.heap.size w16 (w16.alloc (.cells #[.int .i64 1, .slice b1 m1 d1, .slice b2 m2 d2] 75)) := (Below.refl _ _).alloc (Nat.le_refl _) _
  refine wp_over (fun W => Hid (W.heap[w16.heap.size]? = some (.cells #[.int .i64 1, .slice b1 m1 d1, .slice b2 m2 d2] 75 (0, 0))) ∧ Hid (Below w16.heap.size w16 W)) ⟨heap_alloc_new _ _, hb17⟩ ?_
  clear hb17
  rintro w17 ⟨HR17, HB17⟩
  have H17 := Lib.hid (HST.out _ _ H16.out HB17.out)
  have HS17 := Lib.hid (HS16.out.later HB17.out)
  have HT17 := Lib.hid (HT16.out.later HB17.out)
  have HA6 := Lib.hid (And.intro (HA5.out.1.later HB17.out) (HA5.out.2.later HB17.out))
  have HB6 := Lib.hid (And.intro (HBS.out.1.later HB17.out) (HBS.out.2.later HB17.out))
  have HRA := Lib.hid ((HB17.out.block A (Array.getElem?_eq_some_iff.1 HR16.out).1).trans HR16.out)
  obtain ⟨A2, hA2⟩ := ex_eq w16.heap.size
  rw [hA2] at HR17 ⊢
  have HRB := HR17
  clear hA2 HB17 HS16 HT16
  have hpe : ps2 = ps := (List.map_inj_right (fun _ _ h => nb_inj h)).1 (by rw [HPQ2.out.1, HPQ.out.1])
  have hqe : qs2 = qs := (List.map_inj_right (fun _ _ h => nb_inj h)).1 (by rw [HPQ2.out.2, HPQ.out.2])
  subst hpe hqe
  have HN9 : Hid ((n1 ≤ 1000000 ∧ n2 ≤ 1000000) ∧ m1 ≤ 1000000 ∧ m2 ≤ 1000000) := Lib.hid (by
    have e1 := congrArg List.length HPQ.out.1
    have e2 := congrArg List.length HPQ.out.2
    rw [List.length_map, sigParts_len b hB _ _ _ (by rw [nb_length]; exact HZ15.out)] at e1
    rw [List.length_map, sigPath_len] at e2
    have hC := count_le hB (n := 32) (by decide)
    have h1 := HLA.out.1
    have h2 := HLA.out.2
    have h3 := HLB.out.1
    have h4 := HLB.out.2
    omega)
  have HDD : Hid ((decide ((1 : Int) = 1) && decide (ps2 = ps2) && decide (qs2 = qs2)) = true) := Lib.hid (by simp)
  obtain ⟨a0_, a1_, a2_⟩ := box3 HRA.out (Below.refl _ _)
  obtain ⟨b0_, b1_, b2_⟩ := box3 HRB.out (Below.refl _ _)
  have huu : (pk2.toList == pk2.toList) = true := by simp
  go_wp2_with (first
    | (go_at_call 66
       (refine (sigSame_any 1 1 a1 a2 b1 b2 n1 n2 m1 m2 c1 c2 d1 d2 ps2 qs2 ps2 qs2 HLA.out.1 HLA.out.2 HLB.out.1 HLB.out.2 HN9.out.1.1 HN9.out.1.2 HN9.out.2.1 HN9.out.2.2 w17 HA6.out.1 HA6.out.2 HB6.out.1 HB6.out.2).mono ?_)
       rintro e w20 ⟨rfl, h20⟩
       have H20 := Lib.hid (HST.out _ _ H17.out h20)
       have HS20 := Lib.hid (HS17.out.later h20)
       have HT20 := Lib.hid (HT17.out.later h20)
       rw [HDD.out]
       obtain ⟨c0_, c1_⟩ := HCE.out _ H20.out
       clear h20)
    | (go_at_call 58
       (refine (signerPublic_any _ HS20.out).mono ?_)
       rintro e w21 ⟨rfl, rfl⟩)
    | (go_at_call 58
       (refine (signerPublic_any _ HT20.out).mono ?_)
       rintro e w22 ⟨rfl, rfl⟩))
  go_ret
  exact ⟨by first | rfl | (simp; done) | (simp; omega), HEND.out _ H20.out⟩
set_option maxRecDepth 100000 in
set_option maxHeartbeats 2000000 in
theorem resumes_last (x y z p q : Nat) (hx : x < 256) (hy : y < 256) (hz : z < 256) (b t : Nat) (hB : Bits b) (hb4 : b ≤ 4) (ht2 : t ≤ 2) (ht0 : 2 ^ t = 1) (hti : ¬ (0 : Int) < (t : Int)) (HSC : ∀ w : World, Calls Tryd.prog 53 #[.int .u8 (p : Int), .int .u8 (q : Int)] w fun e w' => e = .returned (.agg #[.int .i64 (b : Int), .int .i64 (t : Int)]) ∧ Below w.heap.size w w') (w : World) (hL : Laid w) :
    Calls Tryd.prog 17 #[.int .u8 (p : Int), .int .u8 (q : Int), .int .u8 (x : Int), .int .u8 (y : Int), .int .u8 (z : Int)] w fun e w' => e = .returned (.bool true) ∧ Below w.heap.size w w' := by
  have HL := Lib.hid hL
  have hP0 : 0 < 2 ^ t := by omega
  have HNW := Lib.hid (fun (u : ByteArray) hu w hL => signerNew_ok b t hB hb4 (by omega) u hu w hL)
  clear hL
  go_enter Tryd.func17, Tryd.ntmps17
  go_upto_region 2 with (first
    | (go_at_call 53
       (refine (HSC _).mono ?_)
       rintro e w1 ⟨rfl, h1⟩
       have H1 := Lib.hid h1
       clear h1))
  refine wp_over (fun W => Hid (W.heap[w1.heap.size]? = some (.cells #[.int .i64 (b : Int), .int .i64 (t : Int)] 63 (0, 0))) ∧ Hid (Below w1.heap.size w1 W) ∧ Hid (W.heap.size = w1.heap.size + 1)) ⟨heap_alloc_new _ _, (Below.refl _ _).alloc (Nat.le_refl _) _, by show _ = _; simp⟩ ?_
  rintro W ⟨HG, HB, HWN⟩
  obtain ⟨N, hN⟩ := ex_eq w1.heap.size
  rw [hN] at HG HB HWN ⊢
  have HN : Hid (w.heap.size ≤ N) := Lib.hid (by rw [← hN]; exact H1.out.size)
  have HBW : Hid (Below w.heap.size w W) := Lib.hid (H1.out.trans (HB.out.mono HN.out))
  clear hN
  have HCE : Hid (∀ V, Below (N + 1) W V → V.cell? ⟨N, 0, none⟩ = some (.int .i64 (b : Int)) ∧ V.cell? ⟨N, 1, none⟩ = some (.int .i64 (t : Int))) := Lib.hid (fun V h => by
    have hg := (h.block N (Nat.lt_succ_self _)).trans HG.out
    exact ⟨(cell_of_row _ _ _ _ _ _ hg).trans rfl, (cell_of_row _ _ _ _ _ _ hg).trans rfl⟩)
  have HST : Hid (∀ V V', Below (N + 1) W V → Below V.heap.size V V' → Below (N + 1) W V') := Lib.hid (fun V V' h h' => h.trans (h'.mono (by have := h.size; have := HWN.out; omega)))
  have HSZ : Hid (∀ V, Below (N + 1) W V → N + 1 ≤ V.heap.size) := Lib.hid (fun V h => by have := h.size; have := HWN.out; omega)
  have HEND : Hid (∀ V, Below (N + 1) W V → Below w.heap.size w V) := Lib.hid (fun V h => HBW.out.trans (h.mono (by have := HN.out; omega)))
  have HLD : Hid (∀ V, Below (N + 1) W V → Laid V) := Lib.hid (fun V h => HL.out.later (HEND.out V h) (Nat.le_refl _))
  have HCUR : Hid (Below (N + 1) W W) := Lib.hid (Below.refl _ _)
  go_upto_region 2 with fail
  refine Kit.wp_region_gplan (fun V => V.cell? ⟨N, 0, none⟩ = some (.int .i64 (b : Int)) ∧ V.cell? ⟨N, 1, none⟩ = some (.int .i64 (t : Int))) [(true, 0), (true, 1), (false, 2), (false, 3), (true, 4), (true, 5), (true, 6), (true, 7), (true, 8)] (by kernel_rfl) (by kernel_rfl) (by kernel_rfl) (by kernel_rfl) (HCE.out _ HCUR.out.drew) ?_
  iterate 2 (refine Kit.gplan_head (by rfl) (by first | exact .inr ⟨by rfl, rfl⟩ | exact .inl ⟨by rfl, fun w' hS => by (dsimp only at hS); go_simp; (try with_reducible rfl)⟩) ?_; (try simp only [Act.put, List.setIfInBounds_toArray, List.set_cons_zero, List.set_cons_succ]))
  refine Kit.gplan_op (by rfl) (by rfl) fun K hK => ?_
  go_simp
  go_at_call 55
  refine (seed_any x hx _).mono ?_
  rintro e w3 ⟨u3, rfl, hu3, hz3, h3⟩
  have HU3 := Lib.hid hu3
  have HZ3 := Lib.hid hz3
  have H3 := Lib.hid (HST.out _ _ HCUR.out.drew h3)
  clear hu3 hz3 h3
  refine hK _ _ (HCE.out _ H3.out) ?_
  clear hK K
  refine Kit.gplan_op (by rfl) (by rfl) fun K hK => ?_
  go_simp
  go_at_call 54
  refine (HNW.out u3 HZ3.out _ (HLD.out _ H3.out)).mono ?_
  rintro e w4 ⟨g, pk, rfl, hs4, h4⟩
  have HS4 := Lib.hid hs4
  have H4 := Lib.hid (HST.out _ _ H3.out h4)
  have HGN : Hid (N + 1 ≤ g) := Lib.hid (Nat.le_trans (HSZ.out _ H3.out) hs4.base)
  clear hs4 h4
  refine hK _ _ (HCE.out _ H4.out) ?_
  clear hK K
  iterate 5 (refine Kit.gplan_head (by rfl) (by first | exact .inr ⟨by rfl, rfl⟩ | exact .inl ⟨by rfl, fun w' hS => by (dsimp only at hS); go_simp; (try with_reducible rfl)⟩) ?_; (try simp only [Act.put, List.setIfInBounds_toArray, List.set_cons_zero, List.set_cons_succ]))
  refine Kit.gplan_done ?_
  (try simp only [Act.put, List.setIfInBounds_toArray, List.set_cons_zero, List.set_cons_succ])
  go_upto_region 3 with fail
  refine Kit.wp_region_gplan (fun V => V.cell? ⟨N, 0, none⟩ = some (.int .i64 (b : Int)) ∧ V.cell? ⟨N, 1, none⟩ = some (.int .i64 (t : Int))) [(true, 0), (true, 1), (false, 2), (false, 3), (true, 4), (true, 5), (true, 6), (true, 7), (true, 8)] (by kernel_rfl) (by kernel_rfl) (by kernel_rfl) (by kernel_rfl) (HCE.out _ H4.out.drew) ?_
  iterate 2 (refine Kit.gplan_head (by rfl) (by first | exact .inr ⟨by rfl, rfl⟩ | exact .inl ⟨by rfl, fun w' hS => by (dsimp only at hS); go_simp; (try with_reducible rfl)⟩) ?_; (try simp only [Act.put, List.setIfInBounds_toArray, List.set_cons_zero, List.set_cons_succ]))
  refine Kit.gplan_op (by rfl) (by rfl) fun K hK => ?_
  go_simp
  go_at_call 55
  refine (seed_any x hx _).mono ?_
  rintro e w5 ⟨u5, rfl, hu5, hz5, h5⟩
  have hue : u5 = u3 := nb_inj (by rw [hu5, HU3.out])
  subst hue
  have HS5 := Lib.hid ((HS4.out.later (Below.refl _ _).drew).later h5)
  have H5 := Lib.hid (HST.out _ _ H4.out.drew h5)
  clear hu5 hz5 h5 HS4
  refine hK _ _ (HCE.out _ H5.out) ?_
  clear hK K
  refine Kit.gplan_op (by rfl) (by rfl) fun K hK => ?_
  go_simp
  go_at_call 54
  refine (HNW.out u5 HZ3.out _ (HLD.out _ H5.out)).mono ?_
  rintro e w6 ⟨g2, pk2, rfl, hs6, h6⟩
  have hpe : pk2 = pk := nb_inj (by rw [hs6.pk, HS5.out.pk])
  subst hpe
  have HT6 := Lib.hid hs6
  have HS6 := Lib.hid (HS5.out.later h6)
  have H6 := Lib.hid (HST.out _ _ H5.out h6)
  have HNE : Hid (g ≠ g2) := Lib.hid (fun e => by have := HS5.out.lt; have := hs6.base; omega)
  have HGN2 : Hid (N + 1 ≤ g2) := Lib.hid (Nat.le_trans (HSZ.out _ H5.out) hs6.base)
  clear hs6 h6 HS5
  refine hK _ _ (HCE.out _ H6.out) ?_
  clear hK K
  iterate 5 (refine Kit.gplan_head (by rfl) (by first | exact .inr ⟨by rfl, rfl⟩ | exact .inl ⟨by rfl, fun w' hS => by (dsimp only at hS); go_simp; (try with_reducible rfl)⟩) ?_; (try simp only [Act.put, List.setIfInBounds_toArray, List.set_cons_zero, List.set_cons_succ]))
  refine Kit.gplan_done ?_
  (try simp only [Act.put, List.setIfInBounds_toArray, List.set_cons_zero, List.set_cons_succ])
  obtain ⟨B1, hB1⟩ := ex_eq w3.heap.size
  obtain ⟨B2, hB2⟩ := ex_eq w5.heap.size
  rw [hB1] at HS6
  rw [hB2] at HT6
  clear hB1 hB2
  go_upto_region 5 with (first
    | (go_at_call 48
       (refine (awake13 _ (HLD.out _ H6.out)).mono ?_)
       rintro e w7 ⟨rfl, h7⟩
       have H7 := Lib.hid (HST.out _ _ H6.out h7)
       have HS7 := Lib.hid (HS6.out.later h7)
       have HT7 := Lib.hid (HT6.out.later h7)
       clear h7))
  go_upto_region 7 with (first
    | (go_at_call 55
       (refine (seed_any y hy _).mono ?_)
       rintro e w8 ⟨u8, rfl, hu8, hz8, h8⟩
       have HZ8 := Lib.hid hz8
       have H8 := Lib.hid (HST.out _ _ H7.out h8)
       have HS8 := Lib.hid (HS7.out.later h8)
       have HT8 := Lib.hid (HT7.out.later h8)
       clear hu8 hz8 h8)
    | (go_at_call 56
       (refine (signerSign_ok u8 HZ8.out hP0 _ HS8.out (HLD.out _ H8.out)).mono ?_)
       rintro e w9 ⟨x9, ps9, qs9, rfl, hx9, hps9, hqs9, hs9, hc9⟩
       have HT9 := Lib.hid (HT8.out.keep HS8.out HNE.out.symm hc9)
       have HS9 : Hid (SignerAt w9 B1 g b t u5 pk2 1) := Lib.hid hs9
       have H9 := Lib.hid (H8.out.trans (chg_below hc9 HGN.out (HSZ.out _ H8.out)))
       clear hx9 hps9 hqs9 hs9 hc9))
  have HSK := Lib.hid (fun w h => signerSkip_ok (B := B2) (g := g2) (b := b) (t := t) (seed := u5) (pk := pk2) (next := 0) 1 (by decide) (by omega) w h)
  go_upto_region 8 with (first
    | (go_at_call 63
       (refine (signerNext_any _ HS9.out).mono ?_)
       rintro e w10 ⟨rfl, rfl⟩)
    | (go_at_call 65
       (refine (HSK.out _ HT9.out).mono ?_)
       rintro e w11 ⟨rfl, ht11, hc11⟩
       have HS11 := Lib.hid (HS9.out.keep HT9.out HNE.out hc11)
       have HT11 := Lib.hid ht11
       have H11 := Lib.hid (H9.out.trans (chg_below hc11 HGN2.out (HSZ.out _ H9.out)))
       clear ht11 hc11))
  go_upto_region 9 with (first
    | (go_at_call 55
       (refine (seed_any z hz _).mono ?_)
       rintro e w12 ⟨u12, rfl, hu12, hz12, h12⟩
       have HU12 := Lib.hid hu12
       have HZ12 := Lib.hid hz12
       have H12 := Lib.hid (HST.out _ _ H11.out h12)
       have HS12 := Lib.hid (HS11.out.later h12)
       have HT12 := Lib.hid (HT11.out.later h12)
       clear hu12 hz12 h12)
    | (go_at_call 56
       (refine (signerSign_spent (t := t) (B := B1) (b := b) (seed := u5) (pk := pk2) u12 HZ12.out _ (by rw [ht0]; exact HS12.out)).mono ?_)
       rintro e w13 ⟨rfl, h13⟩
       have HS13 := Lib.hid (HS12.out.later h13)
       have HT13 := Lib.hid (HT12.out.later h13)
       have H13 := Lib.hid (HST.out _ _ H12.out h13)
       clear h13))
  have hb14 : Below w13.heap.size w13 (w13.alloc (.cells #[.int .i64 0, .slice none 0 0, .slice none 0 0] 75)) := (Below.refl _ _).alloc (Nat.le_refl _) _
  refine wp_over (fun W => Hid (W.heap[w13.heap.size]? = some (.cells #[.int .i64 0, .slice none 0 0, .slice none 0 0] 75 (0, 0))) ∧ Hid (Below w13.heap.size w13 W)) ⟨heap_alloc_new _ _, hb14⟩ ?_
  clear hb14
  rintro w14 ⟨HR14, HB14⟩
  have H14 := Lib.hid (HST.out _ _ H13.out HB14.out)
  have HS14 := Lib.hid (HS13.out.later HB14.out)
  have HT14 := Lib.hid (HT13.out.later HB14.out)
  obtain ⟨A, hA⟩ := ex_eq w13.heap.size
  rw [hA] at HR14 ⊢
  clear hA HB14 HS13 HT13
  go_upto_region 10 with (first
    | (go_at_call 55
       (refine (seed_any z hz _).mono ?_)
       rintro e w15 ⟨u15, rfl, hu15, hz15, h15⟩
       have HU15 := Lib.hid hu15
       have HZ15 := Lib.hid hz15
       have H15 := Lib.hid (HST.out _ _ H14.out h15)
       have HS15 := Lib.hid (HS14.out.later h15)
       have HT15 := Lib.hid (HT14.out.later h15)
       have HR15 := Lib.hid ((h15.block A (Array.getElem?_eq_some_iff.1 HR14.out).1).trans HR14.out)
       clear hu15 hz15 h15)
    | (go_at_call 56
       (refine (signerSign_spent (t := t) (B := B2) (b := b) (seed := u5) (pk := pk2) u15 HZ15.out _ (by rw [ht0]; exact HT15.out)).mono ?_)
       rintro e w16 ⟨rfl, h16⟩
       have HS16 := Lib.hid (HS15.out.later h16)
       have HT16 := Lib.hid (HT15.out.later h16)
       have H16 := Lib.hid (HST.out _ _ H15.out h16)
       have HR16 := Lib.hid ((h16.block A (Array.getElem?_eq_some_iff.1 HR15.out).1).trans HR15.out)
       clear h16))
  have hb17 : Below w16.heap.size w16 (w16.alloc (.cells #[.int .i64 0, .slice none 0 0, .slice none 0 0] 75)) := (Below.refl _ _).alloc (Nat.le_refl _) _
  refine wp_over (fun W => Hid (W.heap[w16.heap.size]? = some (.cells #[.int .i64 0, .slice none 0 0, .slice none 0 0] 75 (0, 0))) ∧ Hid (Below w16.heap.size w16 W)) ⟨heap_alloc_new _ _, hb17⟩ ?_
  clear hb17
  rintro w17 ⟨HR17, HB17⟩
  have H17 := Lib.hid (HST.out _ _ H16.out HB17.out)
  have HS17 := Lib.hid (HS16.out.later HB17.out)
  have HT17 := Lib.hid (HT16.out.later HB17.out)
  have HRA := Lib.hid ((HB17.out.block A (Array.getElem?_eq_some_iff.1 HR16.out).1).trans HR16.out)
  obtain ⟨A2, hA2⟩ := ex_eq w16.heap.size
  rw [hA2] at HR17 ⊢
  have HRB := HR17
  clear hA2 HB17 HS16 HT16
  have HDD : Hid ((decide ((0 : Int) = 0) && decide (([] : List ByteArray) = []) && decide (([] : List ByteArray) = [])) = true) := Lib.hid (by simp)
  obtain ⟨a0_, a1_, a2_⟩ := box3 HRA.out (Below.refl _ _)
  obtain ⟨b0_, b1_, b2_⟩ := box3 HRB.out (Below.refl _ _)
  have huu : (pk2.toList == pk2.toList) = true := by simp
  go_wp2_with (first
    | (go_at_call 66
       (refine (sigSame_any 0 0 none none none none 0 0 0 0 0 0 0 0 [] [] [] [] rfl rfl rfl rfl (by decide) (by decide) (by decide) (by decide) w17 (.inl rfl) (.inl rfl) (.inl rfl) (.inl rfl)).mono ?_)
       rintro e w20 ⟨rfl, h20⟩
       have H20 := Lib.hid (HST.out _ _ H17.out h20)
       have HS20 := Lib.hid (HS17.out.later h20)
       have HT20 := Lib.hid (HT17.out.later h20)
       rw [HDD.out]
       obtain ⟨c0_, c1_⟩ := HCE.out _ H20.out
       clear h20)
    | (go_at_call 58
       (refine (signerPublic_any _ HS20.out).mono ?_)
       rintro e w21 ⟨rfl, rfl⟩)
    | (go_at_call 58
       (refine (signerPublic_any _ HT20.out).mono ?_)
       rintro e w22 ⟨rfl, rfl⟩))
  go_ret
  exact ⟨by first | rfl | (simp; done) | (simp; omega), HEND.out _ H20.out⟩
theorem walk_SignatureResumes (p q x y z : Nat) (w : World) (hp : p < 256) (hq : q < 256) (hx : x < 256) (hy : y < 256) (hz : z < 256) (hL : Laid w) :
    Calls Tryd.prog 17 #[.int .u8 (p : Int), .int .u8 (q : Int), .int .u8 (x : Int), .int .u8 (y : Int), .int .u8 (z : Int)] w fun e w' => e = .returned (.bool true) ∧ Below w.heap.size w w' := by
  obtain ⟨b, t, hB, hb4, ht, hsc⟩ := schemeH_any p q
  by_cases h : t = 0
  · exact resumes_last x y z p q hx hy hz b t hB hb4 ht (by rw [h]) (by omega) hsc w hL
  · have h1 : 2 ^ 1 ≤ 2 ^ t := Nat.pow_le_pow_right (n := 2) (by decide) (by omega)
    exact resumes_more x y z p q hx hy hz b t hB hb4 ht ⟨by omega, by omega⟩ (by omega) hsc w hL
end Go.Proofs.YtmnendoloankgaaDoor
