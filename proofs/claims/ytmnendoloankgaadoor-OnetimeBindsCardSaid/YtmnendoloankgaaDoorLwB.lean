/- The law Verifies, walked. -/
import Derived.Test.YtmnendoloankgaaDoorAwa
namespace Go.Proofs.YtmnendoloankgaaDoor
set_option linter.unusedVariables false
set_option linter.unusedSimpArgs false
open Go.RowKit
open Kit (Chg)
open Sha (v)
open Go.Proofs.YtmnendoloankgaaDoor.One

theorem digits_le {b : Nat} (ds : List Nat) : ∀ x ∈ One.digits b ds, x ≤ last b := fun x hx => by
  have h1 := digits_lt b ds x hx
  unfold last
  omega
/-- The parts of a signature, as lists of bytes. -/
theorem sign_parts {vs : List ByteArray} {seed ds : List Nat} (h : vs.map nb = sign seed ds) : ∀ s ∈ vs, s.size = 32 := fun s hs => by
  have h1 : nb s ∈ vs.map nb := List.mem_map.2 ⟨s, hs, rfl⟩
  rw [h] at h1
  obtain ⟨i, _, he⟩ := List.mem_map.1 h1
  rw [← nb_length, ← he]
  exact chain_length _ _ _ _ (secret_length _ _)
theorem acc_eq {b : Nat} (hB : Bits b) (dg : ByteArray) (h0 : 0 < dg.size) (h32 : dg.size ≤ 32) (pk k : ByteArray) (vs : List ByteArray) (hl : vs.length = count b dg.size) (hs : ∀ s ∈ vs, s.size = 32) (hk : recover b (One.digits b (nb dg)) (vs.map nb) = nb k) :
    decide (Acc (b : Int) (dg.size : Int) (nb pk) (nb dg) (vs.map nb)) = (pk.toList == k.toList) := by
  rw [eq_str, decide_eq_decide]
  constructor
  · intro h
    have := h.2.2.2.2
    rw [Int.toNat_natCast, hk] at this
    exact this.symm
  · intro h
    refine ⟨vp_of hB h0 h32, by rw [nb_length], by rw [List.length_map, hl, Int.toNat_natCast, nb_length], fun s hs2 => ?_, by rw [Int.toNat_natCast, hk, h]⟩
    obtain ⟨t, ht, rfl⟩ := List.mem_map.1 hs2
    rw [nb_length]; exact hs t ht
set_option maxRecDepth 100000 in
set_option maxHeartbeats 2000000 in
theorem walk_OnetimeVerifies (B S : Int) (seed dg other : ByteArray) (w : World) (hL : Laid w) :
    Calls Tryd.prog 7 #[.agg #[.int .i64 B, .int .i64 S], .string seed, .string dg, .string other] w fun e w' => e = .returned (.bool true) ∧ Below w.heap.size w w' := by
  have HL := Lib.hid hL
  have HF := Lib.hid (fits_any B S seed dg)
  by_cases hf : Fits B S (nb seed) (nb dg)
  · rw [decide_eq_true hf] at HF
    obtain ⟨hV, hSm, hs, rfl⟩ := hf
    rw [nb_length] at hs
    obtain ⟨b, rfl, hB⟩ := bits_of hV
    have e : ((nb dg).length : Int) = (dg.size : Int) := by rw [nb_length]
    rw [e] at HF hV ⊢
    clear e
    have h0 : 0 < dg.size := by have := hV.2.1; omega
    have h32 : dg.size ≤ 32 := by have := hV.2.2; omega
    have HPK := Lib.hid (fun w hL => public_ok b dg.size hB h0 h32 seed hs w hL)
    have HSG := Lib.hid (fun w hL => sign_ok b dg hB h0 h32 seed hs w hL)
    have HRC := Lib.hid (fun a cap L ss h1 h2 h3 w hS hL => recover_ok b dg hB h0 h32 a cap L ss h1 h2 h3 w hS hL)
    have HCN := Lib.hid (fun w => chains_ok b dg.size hB h0 h32 w)
    have HVF := Lib.hid (fun pk a cap L ss h1 h2 w hS hL => verify_any (b : Int) (dg.size : Int) pk dg a cap L ss h1 h2 w hS hL)
    have HAC := Lib.hid (fun pk k vs hl hs hk => acc_eq hB dg h0 h32 pk k vs hl hs hk)
    have hC := count_le hB h32
    have HVE : Hid (recover b (One.digits b (nb dg)) (sign (nb seed) (One.digits b (nb dg))) = pub b (nb seed) (count b dg.size)) := Lib.hid (by
      have h := verifies b (nb seed) (One.digits b (nb dg)) (digits_le _)
      rwa [digits_length hB, nb_length] at h)
    obtain ⟨C, hCe⟩ := ex_eq (count b dg.size)
    rw [hCe] at HPK HSG HRC HCN HAC HVE hC
    clear hV hSm hs hB h0 h32 hCe hL
    go_enter Tryd.func7, Tryd.ntmps7
    go_upto_region 1 with fail
    refine wp_over (fun W => Hid (W.heap[w.heap.size]? = some (.cells #[.int .i64 (b : Int), .int .i64 (dg.size : Int)] 23 (0, 0))) ∧ Hid (Below w.heap.size w W)) ⟨heap_alloc_new _ _, (Below.refl _ _).alloc (Nat.le_refl _) _⟩ ?_
    rintro W ⟨HG, HB⟩
    obtain ⟨N, hN⟩ := ex_eq w.heap.size
    rw [hN] at HG HB ⊢
    have HN := Lib.hid hN
    clear hN
    have HWN : Hid (N + 1 ≤ W.heap.size) := Lib.hid (Array.getElem?_eq_some_iff.1 HG.out).1
    have HCE : Hid (∀ V, Below (N + 1) W V → V.cell? ⟨N, 0, none⟩ = some (.int .i64 (b : Int)) ∧ V.cell? ⟨N, 1, none⟩ = some (.int .i64 (dg.size : Int))) := Lib.hid (fun V h => by
      have hg := (h.block N (Nat.lt_succ_self _)).trans HG.out
      exact ⟨(cell_of_row _ _ _ _ _ _ hg).trans rfl, (cell_of_row _ _ _ _ _ _ hg).trans rfl⟩)
    have HLD : Hid (∀ V, Below (N + 1) W V → Laid V) := Lib.hid (fun V h => HL.out.later (HB.out.trans (h.mono (Nat.le_succ N))) (by rw [HN.out]; exact Nat.le_refl _))
    have HST : Hid (∀ V V', Below (N + 1) W V → Below V.heap.size V V' → Below (N + 1) W V') := Lib.hid (fun V V' h h' => h.trans (h'.mono (by have := h.size; have := HWN.out; omega)))
    go_upto_region 3 with (first
      | (with_reducible refine (awake12 _ (HLD.out W (Below.refl _ _))).mono ?_
         rintro e w1 ⟨rfl, h1⟩
         have H1 := Lib.hid (h1.mono HWN.out)
         clear h1))
    obtain ⟨c0, c1⟩ := HCE.out w1 H1.out
    go_upto_region 5 with (first
      | (with_reducible refine (HF.out _).mono ?_
         rintro e w2 ⟨rfl, h2⟩
         have H2 := Lib.hid (HST.out _ _ H1.out h2)
         clear h2 c0 c1
         obtain ⟨c0, c1⟩ := HCE.out w2 H2.out))
    go_upto_region 6 with (first
      | (with_reducible refine (params_any (b : Int) (dg.size : Int) _).mono ?_
         rintro e w3 ⟨rfl, h3⟩
         have H3 := Lib.hid (HST.out _ _ H2.out h3)
         clear h3 c0 c1)
      | (with_reducible refine (HPK.out w3 (HLD.out w3 H3.out)).mono ?_
         rintro e w4 ⟨k, rfl, hk, h4⟩
         have HKK := Lib.hid hk
         have H4 := Lib.hid (HST.out _ _ H3.out h4)
         clear h4 hk))
    obtain ⟨c0, c1⟩ := HCE.out w4 H4.out
    go_upto_region 7 with (first
      | (with_reducible refine (params_any (b : Int) (dg.size : Int) _).mono ?_
         rintro e w5 ⟨rfl, h5⟩
         have H5 := Lib.hid (HST.out _ _ H4.out h5)
         clear h5 c0 c1)
      | (with_reducible refine (HSG.out w5 (HLD.out w5 H5.out)).mono ?_
         rintro e w6 ⟨g, L, vs, rfl, hvl, hLC, hvs, hst, _, h6⟩
         subst hLC
         have HVL := Lib.hid hvl
         have HVS := Lib.hid hvs
         have HS6 := Lib.hid hst
         have H6 := Lib.hid (HST.out _ _ H5.out h6)
         clear h6 hvl hvs hst))
    have HP32 := Lib.hid (sign_parts HVS.out)
    have HRK : Hid (recover b (One.digits b (nb dg)) (vs.map nb) = nb k) := Lib.hid (by rw [HVS.out, HVE.out, HKK.out])
    obtain ⟨c0, c1⟩ := HCE.out w6 H6.out
    go_upto_region 8 with (first
      | (with_reducible refine (params_any (b : Int) (dg.size : Int) _).mono ?_
         rintro e w7 ⟨rfl, h7⟩
         have H7 := Lib.hid (HST.out _ _ H6.out h7)
         have HS7 := Lib.hid (HS6.out.later h7)
         clear h7 c0 c1)
      | (with_reducible refine (HRC.out (some ⟨g, 0, none⟩) L L vs HVL.out rfl HP32.out w7 HS7.out (HLD.out w7 H7.out)).mono ?_
         rintro e w8 ⟨r, rfl, hr, h8⟩
         have hrk : r = k := nb_inj (by rw [hr, HRK.out])
         subst hrk
         have H8 := Lib.hid (HST.out _ _ H7.out h8)
         have HS8 := Lib.hid (HS7.out.later h8)
         clear h8 hr))
    have HAK := Lib.hid (fun pk => HAC.out pk r vs HVL.out HP32.out HRK.out)
    obtain ⟨c0, c1⟩ := HCE.out w8 H8.out
    have hrr : (r.toList == r.toList) = true := by simp
    go_wp2_with (first
      | (go_at_call 19
         (with_reducible refine (params_any (b : Int) (dg.size : Int) w12).mono ?_)
         rintro e w13 ⟨rfl, h13⟩
         have H13 := Lib.hid (HST.out _ _ H12.out h13)
         have HS13 := Lib.hid (HS12.out.later h13)
         clear h13 c0 c1)
      | (go_at_call 19
         (with_reducible refine (params_any (b : Int) (dg.size : Int) w10).mono ?_)
         rintro e w11 ⟨rfl, h11⟩
         have H11 := Lib.hid (HST.out _ _ H10.out h11)
         have HS11 := Lib.hid (HS10.out.later h11)
         clear h11 c0 c1)
      | (go_at_call 19
         (with_reducible refine (params_any (b : Int) (dg.size : Int) w8).mono ?_)
         rintro e w9 ⟨rfl, h9⟩
         have H9 := Lib.hid (HST.out _ _ H8.out h9)
         have HS9 := Lib.hid (HS8.out.later h9)
         clear h9 c0 c1)
      | (with_reducible refine (HCN.out w9).mono ?_
         rintro e w10 ⟨cc, rfl, hcc, h10⟩
         subst hcc
         have H10 := Lib.hid (HST.out _ _ H9.out h10)
         have HS10 := Lib.hid (HS9.out.later h10)
         obtain ⟨c0, c1⟩ := HCE.out w10 H10.out
         clear h10)
      | (with_reducible refine (HVF.out r (some ⟨g, 0, none⟩) cc cc vs HVL.out (by omega) w11 HS11.out (HLD.out w11 H11.out)).mono ?_
         rintro e w12 ⟨rfl, h12⟩
         rw [HAK.out r]
         have H12 := Lib.hid (HST.out _ _ H11.out h12)
         have HS12 := Lib.hid (HS11.out.later h12)
         obtain ⟨c0, c1⟩ := HCE.out w12 H12.out
         clear h12)
      | (with_reducible refine (HVF.out other (some ⟨g, 0, none⟩) cc cc vs HVL.out (by omega) w13 HS13.out (HLD.out w13 H13.out)).mono ?_
         rintro e w14 ⟨rfl, h14⟩
         rw [HAK.out other]
         have H14 := Lib.hid (HST.out _ _ H13.out h14)
         clear h14))
    go_ret
    exact ⟨rfl, by rw [HN.out]; exact HB.out.trans (H14.out.mono (Nat.le_succ N))⟩
  · rw [decide_eq_false hf] at HF
    clear hf hL
    go_enter Tryd.func7, Tryd.ntmps7
    go_upto_region 1 with fail
    refine wp_over (fun W => Hid (W.heap[w.heap.size]? = some (.cells #[.int .i64 B, .int .i64 S] 23 (0, 0))) ∧ Hid (Below w.heap.size w W)) ⟨heap_alloc_new _ _, (Below.refl _ _).alloc (Nat.le_refl _) _⟩ ?_
    rintro W ⟨HG, HB⟩
    have HWN : Hid (w.heap.size + 1 ≤ W.heap.size) := Lib.hid (Array.getElem?_eq_some_iff.1 HG.out).1
    go_upto_region 3 with (first
      | (with_reducible refine (awake12 _ (HL.out.later HB.out (Nat.le_refl _))).mono ?_
         rintro e w1 ⟨rfl, h1⟩
         have H1 := Lib.hid (h1.mono HWN.out)
         clear h1))
    have hg := (H1.out.block w.heap.size (Nat.lt_succ_self _)).trans HG.out
    have c0 : w1.cell? ⟨w.heap.size, 0, none⟩ = some (.int .i64 B) := (cell_of_row _ _ _ _ _ _ hg).trans rfl
    have c1 : w1.cell? ⟨w.heap.size, 1, none⟩ = some (.int .i64 S) := (cell_of_row _ _ _ _ _ _ hg).trans rfl
    clear hg
    go_wp2_with (first
      | (with_reducible refine (HF.out _).mono ?_
         rintro e w2 ⟨rfl, h2⟩
         have H2 := Lib.hid (H1.out.trans (h2.mono (by have := H1.out.size; have := HWN.out; omega)))
         clear h2))
    go_ret
    exact ⟨rfl, HB.out.trans (H2.out.mono (Nat.le_succ _))⟩
end Go.Proofs.YtmnendoloankgaaDoor
