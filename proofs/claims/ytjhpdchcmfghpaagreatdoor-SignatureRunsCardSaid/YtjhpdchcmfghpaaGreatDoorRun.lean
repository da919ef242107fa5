/- The law SignatureRuns, walked. -/
import Derived.Test.YtjhpdchcmfghpaaGreatDoorRps
import Derived.Test.YtjhpdchcmfghpaaGreatDoorSlr
import Derived.Test.YtjhpdchcmfghpaaGreatDoorOpe
namespace Go.Proofs.YtjhpdchcmfghpaaGreatDoor
set_option linter.unusedVariables false
set_option linter.unusedSimpArgs false
open Go.RowKit
open Kit (Chg)
open Sha (v)
open Go.Proofs.YtjhpdchcmfghpaaGreatDoor.One

theorem sig_lens2 (b : Nat) (hB : Bits b) (t i : Nat) (ht : t ≤ 8) (dg : ByteArray) (seed : List Nat) (hd : dg.size = 32) (ps qs : List ByteArray) (hps : ps.map nb = sigParts b seed i (nb dg)) (hqs : qs.map nb = sigPath b seed t i) : ps.length ≤ 1000000 ∧ qs.length ≤ 1000000 := by
  have e1 := congrArg List.length hps
  have e2 := congrArg List.length hqs
  rw [List.length_map, sigParts_len b hB _ _ _ (by rw [nb_length]; exact hd)] at e1
  rw [List.length_map, sigPath_len] at e2
  have hC := count_le hB (n := 32) (by decide)
  omega
/-- An operation's struct stays, whatever a signer does. -/
theorem row_chg3 {w w' : World} {B g b t next A : Nat} {seed pk : ByteArray} {c0 c1 c2 : Value} {T : TypeId} (h : w.heap[A]? = some (.cells #[c0, c1, c2] T (0, 0))) (hT : T ≠ 86) (hs : SignerAt w B g b t seed pk next) (hc : Chg (fun q i => q = g ∧ i = 6) w w') : w'.cell? ⟨A, 0, none⟩ = some c0 ∧ w'.cell? ⟨A, 1, none⟩ = some c1 ∧ w'.cell? ⟨A, 2, none⟩ = some c2 := box3 (row_chg h hT hs hc) (Below.refl _ _)
set_option maxRecDepth 100000 in
set_option maxHeartbeats 2000000 in
theorem runs_long (p q x : Nat) (a : Option Addr) (cap L : Nat) (h : 6 < L) (w : World) (hL : Laid w) :
    Calls Tryz.prog 4 #[.int .u8 (p : Int), .int .u8 (q : Int), .int .u8 (x : Int), .slice a L cap] w fun e w' => e = .returned (.bool true) ∧ Below w.heap.size w w' := by
  have HL := Lib.hid hL
  have hi : (6 : Int) < (L : Int) := by omega
  clear hL h
  have HC0 : Hid (Below w.heap.size w w) := Lib.hid (Below.refl _ _)
  go_enter Tryz.func4, Tryz.ntmps4
  go_wp2_with (first
    | (go_at_call 5
       (refine (awake13 _ (HL.out.later HC0.out (Nat.le_refl _))).mono ?_)
       rintro e w2 ⟨rfl, h2⟩
       replace HC0 := Lib.hid (HC0.out.trans (h2.mono HC0.out.size))
       clear h2))
  go_ret
  exact ⟨by first | rfl | simp, HC0.out⟩
set_option maxRecDepth 100000 in
set_option maxHeartbeats 2000000 in
theorem runs_main (p q x : Nat) (hx : x < 256) (a : Option Addr) (cap L : Nat) (os : List (Int × ByteArray × Int)) (hLe : os.length = L) (h : ¬ 6 < L) (b t : Nat) (hB : Bits b) (hb4 : b ≤ 4) (ht2 : t ≤ 2) (HSC : ∀ w : World, Calls Tryz.prog 7 #[.int .u8 (p : Int), .int .u8 (q : Int)] w fun e w' => e = .returned (.agg #[.int .i64 (b : Int), .int .i64 (t : Int)]) ∧ Below w.heap.size w w') (w : World) (hA : OpsAt w a os) (hL : Laid w) :
    Calls Tryz.prog 4 #[.int .u8 (p : Int), .int .u8 (q : Int), .int .u8 (x : Int), .slice a L cap] w fun e w' => e = .returned (.bool true) ∧ Below w.heap.size w w' := by
  have HL := Lib.hid hL
  have HBY := Lib.hid hA
  have HLE := Lib.hid hLe
  have hi : ¬ (6 : Int) < (L : Int) := by omega
  have ht8 : t ≤ 8 := by omega
  obtain ⟨hshl, hP8⟩ := fit_pow (t := t) ht8
  obtain ⟨P, hP⟩ := ex_eq (2 ^ t)
  rw [hP] at hshl hP8
  have HP := Lib.hid hP
  have hshl2 : wrap64 ((2 : Int) ^ t) = (P : Int) := by
    rw [show (2 : Int) ^ t = ((2 ^ t : Nat) : Int) from (Int.natCast_pow 2 t).symm, hP]
    exact IntWalk.wrap64_in _ ⟨by omega, by omega⟩
  have HNW := Lib.hid (fun (u : ByteArray) hu w hL => signerNew_ok b t hB hb4 (by omega) u hu w hL)
  have HC0 : Hid (Below w.heap.size w w) := Lib.hid (Below.refl _ _)
  clear hL hA hLe h hP
  go_enter Tryz.func4, Tryz.ntmps4
  go_upto_region 4 with (first
    | (go_at_call 5
       (refine (awake13 _ (HL.out.later HC0.out (Nat.le_refl _))).mono ?_)
       rintro e w0 ⟨rfl, h0⟩
       replace HC0 := Lib.hid (HC0.out.trans (h0.mono HC0.out.size))
       clear h0)
    | (go_at_call 7
       (refine (HSC _).mono ?_)
       rintro e w1 ⟨rfl, h1⟩
       have H1 := Lib.hid (HC0.out.trans (h1.mono HC0.out.size))
       clear h1))
  refine wp_over (fun W => Hid (W.heap[w1.heap.size]? = some (.cells #[.int .i64 (b : Int), .int .i64 (t : Int)] 28 (0, 0))) ∧ Hid (Below w1.heap.size w1 W) ∧ Hid (W.heap.size = w1.heap.size + 1)) ⟨heap_alloc_new _ _, (Below.refl _ _).alloc (Nat.le_refl _) _, by show _ = _; simp⟩ ?_
  rintro W ⟨HG, HB, HWN⟩
  obtain ⟨N, hN⟩ := ex_eq w1.heap.size
  rw [hN] at HG HB HWN ⊢
  have HN : Hid (w.heap.size ≤ N) := Lib.hid (by rw [← hN]; exact H1.out.size)
  have HBW : Hid (Below w.heap.size w W) := Lib.hid (H1.out.trans (HB.out.mono HN.out))
  clear hN
  have HCE : Hid (∀ V, Below (N + 1) W V → V.cell? ⟨N, 0, none⟩ = some (.int .i64 (b : Int)) ∧ V.cell? ⟨N, 1, none⟩ = some (.int .i64 (t : Int))) := Lib.hid (fun V h => by
    have hg := (h.block N (Nat.lt_succ_self _)).trans HG.out
    exact ⟨(cell_of_row _ _ _ _ _ _ hg).trans rfl, (cell_of_row _ _ _ _ _ _ hg).trans rfl⟩)
  have HST : Hid (∀ V V', Below (N + 1) W V → Below V.heap.size V V' → Below (N + 1) W V') := Lib.hid (fun V V' h h' => h.trans (h'.mono (by have := h.size; have := HWN.out; omega)))
  have HSZ : Hid (∀ V, Below (N + 1) W V → N + 1 ≤ V.heap.size) := Lib.hid (fun V h => by have := h.size; have := HWN.out; omega)
  have HEND : Hid (∀ V, Below (N + 1) W V → Below w.heap.size w V) := Lib.hid (fun V h => HBW.out.trans (h.mono (by have := HN.out; omega)))
  have HLD : Hid (∀ V, Below (N + 1) W V → Laid V) := Lib.hid (fun V h => HL.out.later (HEND.out V h) (Nat.le_refl _))
  have HCUR : Hid (Below (N + 1) W W) := Lib.hid (Below.refl _ _)
  go_upto_region 4 with fail
  refine Kit.wp_region_gplan (fun V => V.cell? ⟨N, 0, none⟩ = some (.int .i64 (b : Int)) ∧ V.cell? ⟨N, 1, none⟩ = some (.int .i64 (t : Int))) [(true, 0), (true, 1), (false, 2), (false, 3), (true, 4), (true, 5), (true, 6), (true, 7), (true, 8)] (by kernel_rfl) (by kernel_rfl) (by kernel_rfl) (by kernel_rfl) (HCE.out _ HCUR.out.drew) ?_
  iterate 2 (refine Kit.gplan_head (by rfl) (by first | exact .inr ⟨by rfl, rfl⟩ | exact .inl ⟨by rfl, fun w' hS => by (dsimp only at hS); go_simp; (try with_reducible rfl)⟩) ?_; (try simp only [Act.put, List.setIfInBounds_toArray, List.set_cons_zero, List.set_cons_succ]))
  refine Kit.gplan_op (by rfl) (by rfl) fun K hK => ?_
  go_simp
  go_at_call 10
  refine (seed_any x hx _).mono ?_
  rintro e w3 ⟨u3, rfl, hu3, hz3, h3⟩
  have HU3 := Lib.hid hu3
  have HZ3 := Lib.hid hz3
  have H3 := Lib.hid (HST.out _ _ HCUR.out.drew h3)
  clear hu3 hz3 h3
  refine hK _ _ (HCE.out _ H3.out) ?_
  clear hK K
  refine Kit.gplan_op (by rfl) (by rfl) fun K hK => ?_
  go_simp
  go_at_call 21
  refine (HNW.out u3 HZ3.out _ (HLD.out _ H3.out)).mono ?_
  rintro e w4 ⟨g, pk, rfl, hs4, h4⟩
  have HS4 := Lib.hid hs4
  have H4 := Lib.hid (HST.out _ _ H3.out h4)
  have HGN : Hid (N + 1 ≤ g) := Lib.hid (Nat.le_trans (HSZ.out _ H3.out) hs4.base)
  clear hs4 h4
  refine hK _ _ (HCE.out _ H4.out) ?_
  clear hK K
  iterate 5 (refine Kit.gplan_head (by rfl) (by first | exact .inr ⟨by rfl, rfl⟩ | exact .inl ⟨by rfl, fun w' hS => by (dsimp only at hS); go_simp; (try with_reducible rfl)⟩) ?_; (try simp only [Act.put, List.setIfInBounds_toArray, List.set_cons_zero, List.set_cons_succ]))
  refine Kit.gplan_done ?_
  (try simp only [Act.put, List.setIfInBounds_toArray, List.set_cons_zero, List.set_cons_succ])
  obtain ⟨B1, hB1⟩ := ex_eq w3.heap.size
  rw [hB1] at HS4
  clear hB1
  have HSG := Lib.hid (fun i hi dg hd w => refSigSign_ok b t i hB ht8 hi u3 HZ3.out dg hd w)
  go_wp2_with fail
  go_loopw [12, 13] (fun y z wr => ∃ nx k : Nat, k ≤ L ∧ y = .int .i64 (nx : Int) ∧ z = .int .i64 (k : Int) ∧ Hid (SignerAt wr B1 g b t u3 pk nx) ∧ Hid (Below (N + 1) W wr)) (fun _ z _ => L - (intOf z).toNat)
  case atStart => exact ⟨0, 0, by omega, rfl, rfl, HS4, H4⟩
  case round =>
    obtain ⟨nx, k, hk, rfl, rfl, HSR, HR⟩ := hrel
    by_cases hlt : k < L
    · have hki : (k : Int) < (L : Int) := by omega
      obtain ⟨b0, o0, rfl, hcs⟩ : ∃ b o, a = some ⟨b, o, none⟩ ∧ ∀ i, i < os.length → w.cell? ⟨b, o + i * 3 + 0, none⟩ = some (.int .i64 (os.getD i (0, ByteArray.empty, 0)).1) ∧ w.cell? ⟨b, o + i * 3 + 1, none⟩ = some (.string (os.getD i (0, ByteArray.empty, 0)).2.1) ∧ w.cell? ⟨b, o + i * 3 + 2, none⟩ = some (.int .i64 (os.getD i (0, ByteArray.empty, 0)).2.2) := by
        rcases HBY.out with h | h
        · have := HLE.out; rw [h] at this; simp at this; omega
        · exact h
      obtain ⟨hc0, hc1, hc2⟩ := hcs k (by rw [HLE.out]; exact hlt)
      obtain ⟨KK, hKK⟩ := ex_eq (os.getD k (0, ByteArray.empty, 0)).1
      obtain ⟨d, hd⟩ := ex_eq (os.getD k (0, ByteArray.empty, 0)).2.1
      obtain ⟨X, hX⟩ := ex_eq (os.getD k (0, ByteArray.empty, 0)).2.2
      rw [hKK] at hc0
      rw [hd] at hc1
      rw [hX] at hc2
      rw [Nat.add_zero] at hc0
      have e0 := ((HEND.out _ HR.out).cell (World.block_lt_of_cell? w _ hc0)).trans hc0
      have e1 := ((HEND.out _ HR.out).cell (World.block_lt_of_cell? w _ hc1)).trans hc1
      have e2 := ((HEND.out _ HR.out).cell (World.block_lt_of_cell? w _ hc2)).trans hc2
      clear hcs hc0 hc1 hc2 hKK hd hX
      go_upto_region 12 with fail
      refine wp_over (fun V => Hid (V.heap[wr.heap.size]? = some (.cells #[.int .i64 KK, .string d, .int .i64 X] 53 (0, 0))) ∧ Hid (Below wr.heap.size wr V)) ⟨heap_alloc_new _ _, (Below.refl _ _).alloc (Nat.le_refl _) _⟩ ?_
      rintro V ⟨HO, HV⟩
      have HA5 : Hid (N + 1 ≤ wr.heap.size) := Lib.hid (HSZ.out _ HR.out)
      obtain ⟨A, hA⟩ := ex_eq wr.heap.size
      rw [hA] at HO HA5 ⊢
      have H5 := Lib.hid (HST.out _ _ HR.out HV.out)
      have HS5 := Lib.hid (HSR.out.later HV.out)
      clear hA HV e0 e1 e2
      have HOC : Hid (∀ U, Below V.heap.size V U → U.cell? ⟨A, 0, none⟩ = some (.int .i64 KK) ∧ U.cell? ⟨A, 1, none⟩ = some (.string d) ∧ U.cell? ⟨A, 2, none⟩ = some (.int .i64 X)) := Lib.hid (fun U h => box3 HO.out h)
      obtain ⟨g0, g1, g2⟩ := HOC.out _ (Below.refl _ _)
      by_cases hK1 : KK = 1
      · subst hK1
        by_cases hd64 : 64 < d.size
        · have hdi : (64 : Int) < ((d.size : Nat) : Int) := by omega
          go_wp2_with fail
          go_ret
          exact ⟨by first | rfl | simp, HEND.out _ H5.out⟩
        · have hdi : ¬ (64 : Int) < ((d.size : Nat) : Int) := by omega
          by_cases hd32 : d.size = 32
          · have hne : (((d.size : Nat) : Int) != 32) = false := by rw [hd32]; rfl
            by_cases hnx : nx = P
            · have HSK : Hid (SignerAt V B1 g b t u3 pk (2 ^ t)) := Lib.hid (by rw [HP.out, ← hnx]; exact HS5.out)
              have hee : ((nx : Int) == (P : Int)) = true := by rw [hnx]; simp
              clear hnx
              go_upto_region 20 with (first
                | (go_at_call 22
                   (refine (signerSign_spent d hd32 _ HSK.out).mono ?_)
                   rintro e w6 ⟨rfl, h6⟩
                   have H6 := Lib.hid h6
                   clear h6))
              refine wp_over (fun U => Hid (U.heap[w6.heap.size]? = some (.cells #[.int .i64 0, .slice none 0 0, .slice none 0 0] 24 (0, 0))) ∧ Hid (Below w6.heap.size w6 U)) ⟨heap_alloc_new _ _, (Below.refl _ _).alloc (Nat.le_refl _) _⟩ ?_
              rintro w7 ⟨HY7, HB7⟩
              obtain ⟨A2, hA2⟩ := ex_eq w6.heap.size
              rw [hA2] at HY7 ⊢
              clear hA2
              have HV7 := Lib.hid (H6.out.trans (HB7.out.mono H6.out.size))
              clear g0 g1 g2
              obtain ⟨g0, g1, g2⟩ := HOC.out _ HV7.out
              obtain ⟨y0, y1, y2⟩ := box3 HY7.out (Below.refl _ _)
              have H7 := Lib.hid (HST.out _ _ H5.out HV7.out)
              have HS7 := Lib.hid (HS5.out.later HV7.out)
              obtain ⟨f0, f1⟩ := HCE.out _ H7.out
              go_upto_region 34 with fail
              clear f0 f1 g0 g1 g2 y0 y1 y2 hee
              have hnx : ((nx : Int) != (nx : Int)) = false := by simp
              have HLE2 : Hid (nx ≤ P) := Lib.hid (by have := HS7.out.next; rw [HP.out] at this; exact this)
              have hsub : ((P - nx : Nat) : Int) = (P : Int) - (nx : Int) := by have := HLE2.out; omega
              have hsubw : IntKind.i64.wrap ((P : Int) - (nx : Int)) = (P : Int) - (nx : Int) := by have := HLE2.out; rw [IntKind.wrap_i64]; omega
              have hss : (((P : Int) - (nx : Int)) != ((P : Int) - (nx : Int))) = false := by simp
              have HLF := Lib.hid (fun w h => signerLeft_any (B := B1) (g := g) (b := b) (t := t) (seed := u3) (pk := pk) (next := nx) w h)
              rw [HP.out, hsub] at HLF
              clear hsub
              refine Kit.wp_region_gplan (fun V => V.cell? ⟨N, 0, none⟩ = some (.int .i64 (b : Int)) ∧ V.cell? ⟨N, 1, none⟩ = some (.int .i64 (t : Int))) [(true, 0), (true, 2), (false, 1), (true, 3), (true, 4), (true, 5), (true, 7), (true, 8), (true, 9), (true, 10), (true, 11), (false, 6), (true, 12), (true, 13)] (by kernel_rfl) (by kernel_rfl) (by kernel_rfl) (by kernel_rfl) (HCE.out _ H7.out.drew) ?_
              iterate 2 (refine Kit.gplan_head (by rfl) (by first | exact .inr ⟨by rfl, rfl⟩ | exact .inl ⟨by rfl, fun w' hS => by (dsimp only at hS); go_simp; (try with_reducible rfl)⟩) ?_; (try simp only [Act.put, List.setIfInBounds_toArray, List.set_cons_zero, List.set_cons_succ]))
              refine Kit.gplan_op (by rfl) (by rfl) fun K hK => ?_
              go_simp
              go_at_call 24
              refine (signerNext_any _ (HS7.out.later (Below.refl _ _).drew)).mono ?_
              rintro e w90 ⟨rfl, h90⟩
              subst h90
              refine hK _ _ (HCE.out _ H7.out.drew) ?_
              clear hK K
              iterate 8 (refine Kit.gplan_head (by rfl) (by first | exact .inr ⟨by rfl, rfl⟩ | exact .inl ⟨by rfl, fun w' hS => by (dsimp only at hS); go_simp; (try with_reducible rfl)⟩) ?_; (try simp only [Act.put, List.setIfInBounds_toArray, List.set_cons_zero, List.set_cons_succ]))
              refine Kit.gplan_op (by rfl) (by rfl) fun K hK => ?_
              go_simp
              go_at_call 25
              refine (HLF.out _ (HS7.out.later (Below.refl _ _).drew)).mono ?_
              rintro e w91 ⟨rfl, h91⟩
              have H91 := Lib.hid ((Below.refl _ w7).drew.trans h91)
              have H92 := Lib.hid (HST.out _ _ H7.out H91.out)
              clear h91
              refine hK _ _ (HCE.out _ H92.out) ?_
              clear hK K
              iterate 2 (refine Kit.gplan_head (by rfl) (by first | exact .inr ⟨by rfl, rfl⟩ | exact .inl ⟨by rfl, fun w' hS => by (dsimp only at hS); go_simp; (try with_reducible rfl)⟩) ?_; (try simp only [Act.put, List.setIfInBounds_toArray, List.set_cons_zero, List.set_cons_succ]))
              refine Kit.gplan_done ?_
              (try simp only [Act.put, List.setIfInBounds_toArray, List.set_cons_zero, List.set_cons_succ])
              have HS92 := Lib.hid (HS7.out.later H91.out)
              go_wp2_with fail
              go_roundw
              case rel => exact ⟨nx, k + 1, hlt, rfl, by go_num, HS92, H92⟩
              case measure => simp [intOf]; omega
            · have HNX : Hid (nx < P) := Lib.hid (by have := HS5.out.next; rw [HP.out] at this; omega)
              have HNX2 : Hid (nx < 2 ^ t) := Lib.hid (by rw [HP.out]; exact HNX.out)
              have hee : ((nx : Int) == (P : Int)) = false := by rw [beq_eq_false_iff_ne]; omega
              go_upto_region 20 with (first
                | (go_at_call 22
                   (refine (signerSign_ok d hd32 HNX2.out _ HS5.out (HLD.out _ H5.out)).mono ?_)
                   rintro e w6 ⟨x6, ps, qs, rfl, hx6, hps, hqs, hs6, hc6⟩
                   obtain ⟨a1, n1, c1, a2, n2, c2, rfl, hl1, hA1, hl2, hA2⟩ := hx6
                   have HS6 := Lib.hid hs6
                   have H6 := Lib.hid (H5.out.trans (chg_below hc6 HGN.out (HSZ.out _ H5.out)))
                   have HX6 : Hid (StrsAt w6 a1 ps ∧ StrsAt w6 a2 qs) := Lib.hid ⟨hA1, hA2⟩
                   have HLN := Lib.hid (And.intro hl1 hl2)
                   have HPQ := Lib.hid (And.intro hps hqs)
                   have HO6 := Lib.hid (row_chg HO.out (by decide) HS5.out hc6)
                   clear hps hqs hs6 hc6 hA1 hA2 hl1 hl2))
              refine wp_over (fun U => Hid (U.heap[w6.heap.size]? = some (.cells #[.int .i64 (nx : Int), .slice a1 n1 c1, .slice a2 n2 c2] 24 (0, 0))) ∧ Hid (Below w6.heap.size w6 U)) ⟨heap_alloc_new _ _, (Below.refl _ _).alloc (Nat.le_refl _) _⟩ ?_
              rintro w7 ⟨HY7, HB7⟩
              obtain ⟨A2, hA2⟩ := ex_eq w6.heap.size
              rw [hA2] at HY7 ⊢
              clear hA2 g0 g1 g2
              have H7 := Lib.hid (HST.out _ _ H6.out HB7.out)
              have HS7 := Lib.hid (HS6.out.later HB7.out)
              have HX7 : Hid (StrsAt w7 a1 ps ∧ StrsAt w7 a2 qs) := Lib.hid ⟨HX6.out.1.later HB7.out, HX6.out.2.later HB7.out⟩
              have HO7 := Lib.hid ((HB7.out.block A (Array.getElem?_eq_some_iff.1 HO6.out).1).trans HO6.out)
              have HZ7 : Hid (ps.length ≤ 1000000 ∧ qs.length ≤ 1000000) := Lib.hid (sig_lens2 b hB t nx ht8 d _ hd32 ps qs HPQ.out.1 HPQ.out.2)
              have HC7 : Hid (∀ V, Below w7.heap.size w7 V → V.cell? ⟨N, 0, none⟩ = some (.int .i64 (b : Int)) ∧ V.cell? ⟨N, 1, none⟩ = some (.int .i64 (t : Int)) ∧ V.cell? ⟨A, 0, none⟩ = some (.int .i64 1) ∧ V.cell? ⟨A, 1, none⟩ = some (.string d) ∧ V.cell? ⟨A, 2, none⟩ = some (.int .i64 X) ∧ V.cell? ⟨A2, 0, none⟩ = some (.int .i64 (nx : Int)) ∧ V.cell? ⟨A2, 1, none⟩ = some (.slice a1 n1 c1) ∧ V.cell? ⟨A2, 2, none⟩ = some (.slice a2 n2 c2)) := Lib.hid (fun V h => ⟨(HCE.out _ (HST.out _ _ H7.out h)).1, (HCE.out _ (HST.out _ _ H7.out h)).2, (box3 HO7.out h).1, (box3 HO7.out h).2.1, (box3 HO7.out h).2.2, box3 HY7.out h⟩)
              have HT7 : Hid (∀ V V', Below w7.heap.size w7 V → Below V.heap.size V V' → Below w7.heap.size w7 V') := Lib.hid (fun V V' h h' => h.trans (h'.mono h.size))
              clear HX6 HS6 HB7
              obtain ⟨f0, f1, g0, g1, g2, y0, y1, y2⟩ := HC7.out _ (Below.refl _ _)
              go_upto_region 17 with fail
              clear f0 f1 g0 g1 g2 y0 y1 y2
              refine Kit.wp_region_gplan (fun V => V.cell? ⟨N, 0, none⟩ = some (.int .i64 (b : Int)) ∧ V.cell? ⟨N, 1, none⟩ = some (.int .i64 (t : Int)) ∧ V.cell? ⟨A, 0, none⟩ = some (.int .i64 1) ∧ V.cell? ⟨A, 1, none⟩ = some (.string d) ∧ V.cell? ⟨A, 2, none⟩ = some (.int .i64 X) ∧ V.cell? ⟨A2, 0, none⟩ = some (.int .i64 (nx : Int)) ∧ V.cell? ⟨A2, 1, none⟩ = some (.slice a1 n1 c1) ∧ V.cell? ⟨A2, 2, none⟩ = some (.slice a2 n2 c2)) [(true, 0), (true, 1), (true, 2), (true, 3), (true, 4), (true, 5), (true, 7), (true, 8), (true, 9), (false, 6), (false, 10), (false, 11), (true, 12), (true, 13)] (by kernel_rfl) (by kernel_rfl) (by kernel_rfl) (by kernel_rfl) (HC7.out _ (Below.refl _ w7).drew) ?_
              iterate 9 (refine Kit.gplan_head (by rfl) (by first | exact .inr ⟨by rfl, rfl⟩ | exact .inl ⟨by rfl, fun w' hS => by (dsimp only at hS); go_simp; (try with_reducible rfl)⟩) ?_; (try simp only [Act.put, List.setIfInBounds_toArray, List.set_cons_zero, List.set_cons_succ]))
              refine Kit.gplan_op (by rfl) (by rfl) fun K hK => ?_
              go_simp
              go_at_call 10
              refine (seed_any x hx _).mono ?_
              rintro e w8 ⟨u8, rfl, hu8, hz8, h8⟩
              have hue : u3 = u8 := nb_inj (by rw [hu8, HU3.out])
              subst hue
              have H8 := Lib.hid ((Below.refl _ w7).drew.trans h8)
              clear hu8 hz8 h8
              refine hK _ _ (HC7.out _ H8.out) ?_
              clear hK K
              refine Kit.gplan_op (by rfl) (by rfl) fun K hK => ?_
              go_simp
              go_at_call 12
              refine (HSG.out nx HNX2.out d hd32 _).mono ?_
              rintro e w9 ⟨x9, ps9, qs9, rfl, hx9, hps9, hqs9, h9⟩
              obtain ⟨b1, m1, d1, b2, m2, d2, rfl, hm1, hB1, hm2, hB2⟩ := hx9
              have hpe : ps9 = ps := (List.map_inj_right (fun _ _ h => nb_inj h)).1 (by rw [hps9, HPQ.out.1])
              have hqe : qs9 = qs := (List.map_inj_right (fun _ _ h => nb_inj h)).1 (by rw [hqs9, HPQ.out.2])
              subst hpe hqe
              have HX9 := Lib.hid (And.intro hB1 hB2)
              have HLM := Lib.hid (And.intro hm1 hm2)
              have H9 := Lib.hid (HT7.out _ _ H8.out h9)
              clear h9 hps9 hqs9 hB1 hB2 hm1 hm2
              refine hK _ _ (HC7.out _ H9.out) ?_
              clear hK K
              refine Kit.gplan_op (by rfl) (by rfl) fun K hK => ?_
              go_simp
              go_at_call 13
              refine (sigSame_any (nx : Int) (nx : Int) a1 a2 b1 b2 n1 n2 m1 m2 c1 c2 d1 d2 ps9 qs9 ps9 qs9 HLN.out.1 HLN.out.2 HLM.out.1 HLM.out.2 (by rw [← HLN.out.1]; exact HZ7.out.1) (by rw [← HLN.out.2]; exact HZ7.out.2) (by rw [← HLM.out.1]; exact HZ7.out.1) (by rw [← HLM.out.2]; exact HZ7.out.2) _ (HX7.out.1.later H9.out) (HX7.out.2.later H9.out) HX9.out.1 HX9.out.2).mono ?_
              rintro e w10 ⟨rfl, h10⟩
              have H10 := Lib.hid (HT7.out _ _ H9.out h10)
              clear h10
              rw [show (decide ((nx : Int) = (nx : Int)) && decide (ps9 = ps9) && decide (qs9 = qs9)) = true by simp]
              refine hK _ _ (HC7.out _ H10.out) ?_
              clear hK K
              iterate 2 (refine Kit.gplan_head (by rfl) (by first | exact .inr ⟨by rfl, rfl⟩ | exact .inl ⟨by rfl, fun w' hS => by (dsimp only at hS); go_simp; (try with_reducible rfl)⟩) ?_; (try simp only [Act.put, List.setIfInBounds_toArray, List.set_cons_zero, List.set_cons_succ]))
              refine Kit.gplan_done ?_
              (try simp only [Act.put, List.setIfInBounds_toArray, List.set_cons_zero, List.set_cons_succ])
              have hnw : IntKind.i64.wrap ((nx : Int) + 1) = ((nx + 1 : Nat) : Int) := by have := HNX.out; rw [IntKind.wrap_i64]; omega
              have H10B := Lib.hid (HST.out _ _ H7.out H10.out)
              have HS10 := Lib.hid (HS7.out.later H10.out)
              obtain ⟨f0, f1⟩ := HCE.out _ H10B.out
              go_upto_region 34 with fail
              clear f0 f1 hee
              obtain ⟨M, hM⟩ := ex_eq (nx + 1)
              have hMi : (nx : Int) + 1 = (M : Int) := by omega
              try rw [hMi]
              try rw [hM]
              rw [hM] at HS10
              clear hM hMi hnw
              have hM : ((M : Int) != (M : Int)) = false := by simp
              have HLE2 : Hid (M ≤ P) := Lib.hid (by have := HS10.out.next; rw [HP.out] at this; exact this)
              have hsub : ((P - M : Nat) : Int) = (P : Int) - (M : Int) := by have := HLE2.out; omega
              have hsubw : IntKind.i64.wrap ((P : Int) - (M : Int)) = (P : Int) - (M : Int) := by have := HLE2.out; rw [IntKind.wrap_i64]; omega
              have hss : (((P : Int) - (M : Int)) != ((P : Int) - (M : Int))) = false := by simp
              have HLF := Lib.hid (fun w h => signerLeft_any (B := B1) (g := g) (b := b) (t := t) (seed := u3) (pk := pk) (next := M) w h)
              rw [HP.out, hsub] at HLF
              clear hsub
              refine Kit.wp_region_gplan (fun V => V.cell? ⟨N, 0, none⟩ = some (.int .i64 (b : Int)) ∧ V.cell? ⟨N, 1, none⟩ = some (.int .i64 (t : Int))) [(true, 0), (true, 2), (false, 1), (true, 3), (true, 4), (true, 5), (true, 7), (true, 8), (true, 9), (true, 10), (true, 11), (false, 6), (true, 12), (true, 13)] (by kernel_rfl) (by kernel_rfl) (by kernel_rfl) (by kernel_rfl) (HCE.out _ H10B.out.drew) ?_
              iterate 2 (refine Kit.gplan_head (by rfl) (by first | exact .inr ⟨by rfl, rfl⟩ | exact .inl ⟨by rfl, fun w' hS => by (dsimp only at hS); go_simp; (try with_reducible rfl)⟩) ?_; (try simp only [Act.put, List.setIfInBounds_toArray, List.set_cons_zero, List.set_cons_succ]))
              refine Kit.gplan_op (by rfl) (by rfl) fun K hK => ?_
              go_simp
              go_at_call 24
              refine (signerNext_any _ (HS10.out.later (Below.refl _ _).drew)).mono ?_
              rintro e w90 ⟨rfl, h90⟩
              subst h90
              refine hK _ _ (HCE.out _ H10B.out.drew) ?_
              clear hK K
              iterate 8 (refine Kit.gplan_head (by rfl) (by first | exact .inr ⟨by rfl, rfl⟩ | exact .inl ⟨by rfl, fun w' hS => by (dsimp only at hS); go_simp; (try with_reducible rfl)⟩) ?_; (try simp only [Act.put, List.setIfInBounds_toArray, List.set_cons_zero, List.set_cons_succ]))
              refine Kit.gplan_op (by rfl) (by rfl) fun K hK => ?_
              go_simp
              go_at_call 25
              refine (HLF.out _ (HS10.out.later (Below.refl _ _).drew)).mono ?_
              rintro e w91 ⟨rfl, h91⟩
              have H91 := Lib.hid ((Below.refl _ w10).drew.trans h91)
              have H92 := Lib.hid (HST.out _ _ H10B.out H91.out)
              clear h91
              refine hK _ _ (HCE.out _ H92.out) ?_
              clear hK K
              iterate 2 (refine Kit.gplan_head (by rfl) (by first | exact .inr ⟨by rfl, rfl⟩ | exact .inl ⟨by rfl, fun w' hS => by (dsimp only at hS); go_simp; (try with_reducible rfl)⟩) ?_; (try simp only [Act.put, List.setIfInBounds_toArray, List.set_cons_zero, List.set_cons_succ]))
              refine Kit.gplan_done ?_
              (try simp only [Act.put, List.setIfInBounds_toArray, List.set_cons_zero, List.set_cons_succ])
              have HS92 := Lib.hid (HS10.out.later H91.out)
              go_wp2_with fail
              go_roundw
              case rel => exact ⟨M, k + 1, hlt, rfl, by go_num, HS92, H92⟩
              case measure => simp [intOf]; omega
          · have hne : (((d.size : Nat) : Int) != 32) = true := by rw [bne_iff_ne]; omega
            go_upto_region 20 with (first
              | (go_at_call 22
                 (refine (signerSign_size (B := 0) (g := g) (b := 0) (t := 0) (next := 0) (seed := d) (pk := d) d hd32 _).mono ?_)
                 rintro e w6 ⟨rfl, h6⟩
                 have H6 := Lib.hid h6
                 clear h6))
            refine wp_over (fun U => Hid (U.heap[w6.heap.size]? = some (.cells #[.int .i64 0, .slice none 0 0, .slice none 0 0] 24 (0, 0))) ∧ Hid (Below w6.heap.size w6 U)) ⟨heap_alloc_new _ _, (Below.refl _ _).alloc (Nat.le_refl _) _⟩ ?_
            rintro w7 ⟨HY7, HB7⟩
            obtain ⟨A2, hA2⟩ := ex_eq w6.heap.size
            rw [hA2] at HY7 ⊢
            clear hA2
            have HV7 := Lib.hid (H6.out.trans (HB7.out.mono H6.out.size))
            clear g0 g1 g2
            obtain ⟨g0, g1, g2⟩ := HOC.out _ HV7.out
            obtain ⟨y0, y1, y2⟩ := box3 HY7.out (Below.refl _ _)
            have H7 := Lib.hid (HST.out _ _ H5.out HV7.out)
            have HS7 := Lib.hid (HS5.out.later HV7.out)
            obtain ⟨f0, f1⟩ := HCE.out _ H7.out
            go_upto_region 34 with fail
            clear f0 f1 g0 g1 g2 y0 y1 y2 hne
            have hnx : ((nx : Int) != (nx : Int)) = false := by simp
            have HLE2 : Hid (nx ≤ P) := Lib.hid (by have := HS7.out.next; rw [HP.out] at this; exact this)
            have hsub : ((P - nx : Nat) : Int) = (P : Int) - (nx : Int) := by have := HLE2.out; omega
            have hsubw : IntKind.i64.wrap ((P : Int) - (nx : Int)) = (P : Int) - (nx : Int) := by have := HLE2.out; rw [IntKind.wrap_i64]; omega
            have hss : (((P : Int) - (nx : Int)) != ((P : Int) - (nx : Int))) = false := by simp
            have HLF := Lib.hid (fun w h => signerLeft_any (B := B1) (g := g) (b := b) (t := t) (seed := u3) (pk := pk) (next := nx) w h)
            rw [HP.out, hsub] at HLF
            clear hsub
            refine Kit.wp_region_gplan (fun V => V.cell? ⟨N, 0, none⟩ = some (.int .i64 (b : Int)) ∧ V.cell? ⟨N, 1, none⟩ = some (.int .i64 (t : Int))) [(true, 0), (true, 2), (false, 1), (true, 3), (true, 4), (true, 5), (true, 7), (true, 8), (true, 9), (true, 10), (true, 11), (false, 6), (true, 12), (true, 13)] (by kernel_rfl) (by kernel_rfl) (by kernel_rfl) (by kernel_rfl) (HCE.out _ H7.out.drew) ?_
            iterate 2 (refine Kit.gplan_head (by rfl) (by first | exact .inr ⟨by rfl, rfl⟩ | exact .inl ⟨by rfl, fun w' hS => by (dsimp only at hS); go_simp; (try with_reducible rfl)⟩) ?_; (try simp only [Act.put, List.setIfInBounds_toArray, List.set_cons_zero, List.set_cons_succ]))
            refine Kit.gplan_op (by rfl) (by rfl) fun K hK => ?_
            go_simp
            go_at_call 24
            refine (signerNext_any _ (HS7.out.later (Below.refl _ _).drew)).mono ?_
            rintro e w90 ⟨rfl, h90⟩
            subst h90
            refine hK _ _ (HCE.out _ H7.out.drew) ?_
            clear hK K
            iterate 8 (refine Kit.gplan_head (by rfl) (by first | exact .inr ⟨by rfl, rfl⟩ | exact .inl ⟨by rfl, fun w' hS => by (dsimp only at hS); go_simp; (try with_reducible rfl)⟩) ?_; (try simp only [Act.put, List.setIfInBounds_toArray, List.set_cons_zero, List.set_cons_succ]))
            refine Kit.gplan_op (by rfl) (by rfl) fun K hK => ?_
            go_simp
            go_at_call 25
            refine (HLF.out _ (HS7.out.later (Below.refl _ _).drew)).mono ?_
            rintro e w91 ⟨rfl, h91⟩
            have H91 := Lib.hid ((Below.refl _ w7).drew.trans h91)
            have H92 := Lib.hid (HST.out _ _ H7.out H91.out)
            clear h91
            refine hK _ _ (HCE.out _ H92.out) ?_
            clear hK K
            iterate 2 (refine Kit.gplan_head (by rfl) (by first | exact .inr ⟨by rfl, rfl⟩ | exact .inl ⟨by rfl, fun w' hS => by (dsimp only at hS); go_simp; (try with_reducible rfl)⟩) ?_; (try simp only [Act.put, List.setIfInBounds_toArray, List.set_cons_zero, List.set_cons_succ]))
            refine Kit.gplan_done ?_
            (try simp only [Act.put, List.setIfInBounds_toArray, List.set_cons_zero, List.set_cons_succ])
            have HS92 := Lib.hid (HS7.out.later H91.out)
            go_wp2_with fail
            go_roundw
            case rel => exact ⟨nx, k + 1, hlt, rfl, by go_num, HS92, H92⟩
            case measure => simp [intOf]; omega
      · have hKf : (KK == 1) = false := by rw [beq_eq_false_iff_ne]; exact hK1
        by_cases hK2 : KK = 2
        · subst hK2
          by_cases hbad : X < (nx : Int) ∨ (P : Int) < X
          · have HBAD : Hid (X < (nx : Int) ∨ ((2 ^ t : Nat) : Int) < X) := Lib.hid (by rw [HP.out]; exact hbad)
            have HSKB := Lib.hid (fun w h => signerSkip_bad (B := B1) (g := g) (b := b) (t := t) (next := nx) (seed := u3) (pk := pk) X HBAD.out w h)
            obtain ⟨f0, f1⟩ := HCE.out _ H5.out
            by_cases hb1 : X < (nx : Int)
            · clear hbad
              have hq1 : decide (X < (nx : Int)) = true := decide_eq_true hb1
              go_upto_region 28 with (first
                | (go_at_call 23
                   (refine (HSKB.out _ HS5.out).mono ?_)
                   rintro e w6 ⟨rfl, rfl⟩))
              refine Kit.wp_region_gplan (fun V => V.cell? ⟨N, 0, none⟩ = some (.int .i64 (b : Int)) ∧ V.cell? ⟨N, 1, none⟩ = some (.int .i64 (t : Int)) ∧ V.cell? ⟨A, 0, none⟩ = some (.int .i64 2) ∧ V.cell? ⟨A, 1, none⟩ = some (.string d) ∧ V.cell? ⟨A, 2, none⟩ = some (.int .i64 X)) [(true, 0), (true, 1), (true, 2), (true, 3), (true, 4), (true, 5), (true, 6), (true, 7), (true, 8), (true, 9), (true, 10), (true, 11)] (by kernel_rfl) (by kernel_rfl) (by kernel_rfl) (by kernel_rfl) ⟨(HCE.out _ H5.out.drew).1, (HCE.out _ H5.out.drew).2, HOC.out _ (Below.refl _ _).drew⟩ ?_
              iterate 12 (refine Kit.gplan_head (by rfl) (by first | exact .inr ⟨by rfl, rfl⟩ | exact .inl ⟨by rfl, fun w' hS => by (dsimp only at hS); go_simp; (try with_reducible rfl)⟩) ?_; (try simp only [Act.put, List.setIfInBounds_toArray, List.set_cons_zero, List.set_cons_succ]))
              refine Kit.gplan_done ?_
              (try simp only [Act.put, List.setIfInBounds_toArray, List.set_cons_zero, List.set_cons_succ])
              go_upto_region 34 with fail
              clear f0 f1 g0 g1 g2 hb1
              have HS7 := Lib.hid (HS5.out.later (Below.refl _ _).drew)
              have H7 := Lib.hid (HST.out _ _ H5.out (Below.refl _ _).drew)
              obtain ⟨V7, hV7⟩ := ex_eq V.drew
              rw [hV7] at HS7 H7 ⊢
              clear hV7
              have hnx : ((nx : Int) != (nx : Int)) = false := by simp
              have HLE2 : Hid (nx ≤ P) := Lib.hid (by have := HS7.out.next; rw [HP.out] at this; exact this)
              have hsub : ((P - nx : Nat) : Int) = (P : Int) - (nx : Int) := by have := HLE2.out; omega
              have hsubw : IntKind.i64.wrap ((P : Int) - (nx : Int)) = (P : Int) - (nx : Int) := by have := HLE2.out; rw [IntKind.wrap_i64]; omega
              have hss : (((P : Int) - (nx : Int)) != ((P : Int) - (nx : Int))) = false := by simp
              have HLF := Lib.hid (fun w h => signerLeft_any (B := B1) (g := g) (b := b) (t := t) (seed := u3) (pk := pk) (next := nx) w h)
              rw [HP.out, hsub] at HLF
              clear hsub
              refine Kit.wp_region_gplan (fun V => V.cell? ⟨N, 0, none⟩ = some (.int .i64 (b : Int)) ∧ V.cell? ⟨N, 1, none⟩ = some (.int .i64 (t : Int))) [(true, 0), (true, 2), (false, 1), (true, 3), (true, 4), (true, 5), (true, 7), (true, 8), (true, 9), (true, 10), (true, 11), (false, 6), (true, 12), (true, 13)] (by kernel_rfl) (by kernel_rfl) (by kernel_rfl) (by kernel_rfl) (HCE.out _ H7.out.drew) ?_
              iterate 2 (refine Kit.gplan_head (by rfl) (by first | exact .inr ⟨by rfl, rfl⟩ | exact .inl ⟨by rfl, fun w' hS => by (dsimp only at hS); go_simp; (try with_reducible rfl)⟩) ?_; (try simp only [Act.put, List.setIfInBounds_toArray, List.set_cons_zero, List.set_cons_succ]))
              refine Kit.gplan_op (by rfl) (by rfl) fun K hK => ?_
              go_simp
              go_at_call 24
              refine (signerNext_any _ (HS7.out.later (Below.refl _ _).drew)).mono ?_
              rintro e w90 ⟨rfl, h90⟩
              subst h90
              refine hK _ _ (HCE.out _ H7.out.drew) ?_
              clear hK K
              iterate 8 (refine Kit.gplan_head (by rfl) (by first | exact .inr ⟨by rfl, rfl⟩ | exact .inl ⟨by rfl, fun w' hS => by (dsimp only at hS); go_simp; (try with_reducible rfl)⟩) ?_; (try simp only [Act.put, List.setIfInBounds_toArray, List.set_cons_zero, List.set_cons_succ]))
              refine Kit.gplan_op (by rfl) (by rfl) fun K hK => ?_
              go_simp
              go_at_call 25
              refine (HLF.out _ (HS7.out.later (Below.refl _ _).drew)).mono ?_
              rintro e w91 ⟨rfl, h91⟩
              have H91 := Lib.hid ((Below.refl _ V7).drew.trans h91)
              have H92 := Lib.hid (HST.out _ _ H7.out H91.out)
              clear h91
              refine hK _ _ (HCE.out _ H92.out) ?_
              clear hK K
              iterate 2 (refine Kit.gplan_head (by rfl) (by first | exact .inr ⟨by rfl, rfl⟩ | exact .inl ⟨by rfl, fun w' hS => by (dsimp only at hS); go_simp; (try with_reducible rfl)⟩) ?_; (try simp only [Act.put, List.setIfInBounds_toArray, List.set_cons_zero, List.set_cons_succ]))
              refine Kit.gplan_done ?_
              (try simp only [Act.put, List.setIfInBounds_toArray, List.set_cons_zero, List.set_cons_succ])
              have HS92 := Lib.hid (HS7.out.later H91.out)
              go_wp2_with fail
              go_roundw
              case rel => exact ⟨nx, k + 1, hlt, rfl, by go_num, HS92, H92⟩
              case measure => simp [intOf]; omega
            · have hb2 : (P : Int) < X := by omega
              have hq1 : decide (X < (nx : Int)) = false := decide_eq_false hb1
              have hq2 : decide ((P : Int) < X) = true := decide_eq_true hb2
              clear hbad
              go_upto_region 28 with (first
                | (go_at_call 23
                   (refine (HSKB.out _ HS5.out).mono ?_)
                   rintro e w6 ⟨rfl, rfl⟩))
              refine Kit.wp_region_gplan (fun V => V.cell? ⟨N, 0, none⟩ = some (.int .i64 (b : Int)) ∧ V.cell? ⟨N, 1, none⟩ = some (.int .i64 (t : Int)) ∧ V.cell? ⟨A, 0, none⟩ = some (.int .i64 2) ∧ V.cell? ⟨A, 1, none⟩ = some (.string d) ∧ V.cell? ⟨A, 2, none⟩ = some (.int .i64 X)) [(true, 0), (true, 1), (true, 2), (true, 3), (true, 4), (true, 5), (true, 6), (true, 7), (true, 8), (true, 9), (true, 10), (true, 11)] (by kernel_rfl) (by kernel_rfl) (by kernel_rfl) (by kernel_rfl) ⟨(HCE.out _ H5.out.drew).1, (HCE.out _ H5.out.drew).2, HOC.out _ (Below.refl _ _).drew⟩ ?_
              iterate 12 (refine Kit.gplan_head (by rfl) (by first | exact .inr ⟨by rfl, rfl⟩ | exact .inl ⟨by rfl, fun w' hS => by (dsimp only at hS); go_simp; (try with_reducible rfl)⟩) ?_; (try simp only [Act.put, List.setIfInBounds_toArray, List.set_cons_zero, List.set_cons_succ]))
              refine Kit.gplan_done ?_
              (try simp only [Act.put, List.setIfInBounds_toArray, List.set_cons_zero, List.set_cons_succ])
              go_upto_region 34 with fail
              clear f0 f1 g0 g1 g2 hb1 hb2
              have HS7 := Lib.hid (HS5.out.later (Below.refl _ _).drew)
              have H7 := Lib.hid (HST.out _ _ H5.out (Below.refl _ _).drew)
              obtain ⟨V7, hV7⟩ := ex_eq V.drew
              rw [hV7] at HS7 H7 ⊢
              clear hV7
              have hnx : ((nx : Int) != (nx : Int)) = false := by simp
              have HLE2 : Hid (nx ≤ P) := Lib.hid (by have := HS7.out.next; rw [HP.out] at this; exact this)
              have hsub : ((P - nx : Nat) : Int) = (P : Int) - (nx : Int) := by have := HLE2.out; omega
              have hsubw : IntKind.i64.wrap ((P : Int) - (nx : Int)) = (P : Int) - (nx : Int) := by have := HLE2.out; rw [IntKind.wrap_i64]; omega
              have hss : (((P : Int) - (nx : Int)) != ((P : Int) - (nx : Int))) = false := by simp
              have HLF := Lib.hid (fun w h => signerLeft_any (B := B1) (g := g) (b := b) (t := t) (seed := u3) (pk := pk) (next := nx) w h)
              rw [HP.out, hsub] at HLF
              clear hsub
              refine Kit.wp_region_gplan (fun V => V.cell? ⟨N, 0, none⟩ = some (.int .i64 (b : Int)) ∧ V.cell? ⟨N, 1, none⟩ = some (.int .i64 (t : Int))) [(true, 0), (true, 2), (false, 1), (true, 3), (true, 4), (true, 5), (true, 7), (true, 8), (true, 9), (true, 10), (true, 11), (false, 6), (true, 12), (true, 13)] (by kernel_rfl) (by kernel_rfl) (by kernel_rfl) (by kernel_rfl) (HCE.out _ H7.out.drew) ?_
              iterate 2 (refine Kit.gplan_head (by rfl) (by first | exact .inr ⟨by rfl, rfl⟩ | exact .inl ⟨by rfl, fun w' hS => by (dsimp only at hS); go_simp; (try with_reducible rfl)⟩) ?_; (try simp only [Act.put, List.setIfInBounds_toArray, List.set_cons_zero, List.set_cons_succ]))
              refine Kit.gplan_op (by rfl) (by rfl) fun K hK => ?_
              go_simp
              go_at_call 24
              refine (signerNext_any _ (HS7.out.later (Below.refl _ _).drew)).mono ?_
              rintro e w90 ⟨rfl, h90⟩
              subst h90
              refine hK _ _ (HCE.out _ H7.out.drew) ?_
              clear hK K
              iterate 8 (refine Kit.gplan_head (by rfl) (by first | exact .inr ⟨by rfl, rfl⟩ | exact .inl ⟨by rfl, fun w' hS => by (dsimp only at hS); go_simp; (try with_reducible rfl)⟩) ?_; (try simp only [Act.put, List.setIfInBounds_toArray, List.set_cons_zero, List.set_cons_succ]))
              refine Kit.gplan_op (by rfl) (by rfl) fun K hK => ?_
              go_simp
              go_at_call 25
              refine (HLF.out _ (HS7.out.later (Below.refl _ _).drew)).mono ?_
              rintro e w91 ⟨rfl, h91⟩
              have H91 := Lib.hid ((Below.refl _ V7).drew.trans h91)
              have H92 := Lib.hid (HST.out _ _ H7.out H91.out)
              clear h91
              refine hK _ _ (HCE.out _ H92.out) ?_
              clear hK K
              iterate 2 (refine Kit.gplan_head (by rfl) (by first | exact .inr ⟨by rfl, rfl⟩ | exact .inl ⟨by rfl, fun w' hS => by (dsimp only at hS); go_simp; (try with_reducible rfl)⟩) ?_; (try simp only [Act.put, List.setIfInBounds_toArray, List.set_cons_zero, List.set_cons_succ]))
              refine Kit.gplan_done ?_
              (try simp only [Act.put, List.setIfInBounds_toArray, List.set_cons_zero, List.set_cons_succ])
              have HS92 := Lib.hid (HS7.out.later H91.out)
              go_wp2_with fail
              go_roundw
              case rel => exact ⟨nx, k + 1, hlt, rfl, by go_num, HS92, H92⟩
              case measure => simp [intOf]; omega
          · obtain ⟨M, hM⟩ : ∃ M : Nat, X = (M : Int) := ⟨X.toNat, by omega⟩
            subst hM
            have hb1 : ¬ (M : Int) < (nx : Int) := by omega
            have hb2 : ¬ (P : Int) < (M : Int) := by omega
            have hq1 : decide ((M : Int) < (nx : Int)) = false := decide_eq_false hb1
            have hq2 : decide ((P : Int) < (M : Int)) = false := decide_eq_false hb2
            have hq3 : decide (M < nx) = false := decide_eq_false (by omega)
            have hq4 : decide (P < M) = false := decide_eq_false (by omega)
            have HMP : Hid (nx ≤ M ∧ M ≤ 2 ^ t) := Lib.hid (by rw [HP.out]; omega)
            have HSKO := Lib.hid (fun w h => signerSkip_ok (B := B1) (g := g) (b := b) (t := t) (next := nx) (seed := u3) (pk := pk) M HMP.out.1 HMP.out.2 w h)
            obtain ⟨f0, f1⟩ := HCE.out _ H5.out
            clear hbad
            go_upto_region 28 with (first
              | (go_at_call 23
                 (refine (HSKO.out _ HS5.out).mono ?_)
                 rintro e w6 ⟨rfl, hs6, hc6⟩
                 have HS6 := Lib.hid hs6
                 have H6 := Lib.hid (H5.out.trans (chg_below hc6 HGN.out (HSZ.out _ H5.out)))
                 have HO6 := Lib.hid (row_chg HO.out (by decide) HS5.out hc6)
                 clear hs6 hc6 g0 g1 g2))
            clear f0 f1
            refine Kit.wp_region_gplan (fun V => V.cell? ⟨N, 0, none⟩ = some (.int .i64 (b : Int)) ∧ V.cell? ⟨N, 1, none⟩ = some (.int .i64 (t : Int)) ∧ V.cell? ⟨A, 0, none⟩ = some (.int .i64 2) ∧ V.cell? ⟨A, 1, none⟩ = some (.string d) ∧ V.cell? ⟨A, 2, none⟩ = some (.int .i64 (M : Int))) [(true, 0), (true, 1), (true, 2), (true, 3), (true, 4), (true, 5), (true, 6), (true, 7), (true, 8), (true, 9), (true, 10), (true, 11)] (by kernel_rfl) (by kernel_rfl) (by kernel_rfl) (by kernel_rfl) ⟨(HCE.out _ H6.out.drew).1, (HCE.out _ H6.out.drew).2, box3 HO6.out (Below.refl _ _).drew⟩ ?_
            iterate 12 (refine Kit.gplan_head (by rfl) (by first | exact .inr ⟨by rfl, rfl⟩ | exact .inl ⟨by rfl, fun w' hS => by (dsimp only at hS); go_simp; (try with_reducible rfl)⟩) ?_; (try simp only [Act.put, List.setIfInBounds_toArray, List.set_cons_zero, List.set_cons_succ]))
            refine Kit.gplan_done ?_
            (try simp only [Act.put, List.setIfInBounds_toArray, List.set_cons_zero, List.set_cons_succ])
            obtain ⟨f0, f1⟩ := HCE.out _ H6.out.drew
            obtain ⟨g0, g1, g2⟩ := box3 HO6.out (Below.refl _ _).drew
            go_upto_region 34 with fail
            clear f0 f1 g0 g1 g2 hb1 hb2
            have HS7 := Lib.hid (HS6.out.later (Below.refl _ _).drew)
            have H7 := Lib.hid (HST.out _ _ H6.out (Below.refl _ _).drew)
            obtain ⟨V7, hV7⟩ := ex_eq w6.drew
            rw [hV7] at HS7 H7 ⊢
            clear hV7
            have hM : ((M : Int) != (M : Int)) = false := by simp
            have HLE2 : Hid (M ≤ P) := Lib.hid (by have := HS7.out.next; rw [HP.out] at this; exact this)
            have hsub : ((P - M : Nat) : Int) = (P : Int) - (M : Int) := by have := HLE2.out; omega
            have hsubw : IntKind.i64.wrap ((P : Int) - (M : Int)) = (P : Int) - (M : Int) := by have := HLE2.out; rw [IntKind.wrap_i64]; omega
            have hss : (((P : Int) - (M : Int)) != ((P : Int) - (M : Int))) = false := by simp
            have HLF := Lib.hid (fun w h => signerLeft_any (B := B1) (g := g) (b := b) (t := t) (seed := u3) (pk := pk) (next := M) w h)
            rw [HP.out, hsub] at HLF
            clear hsub
            refine Kit.wp_region_gplan (fun V => V.cell? ⟨N, 0, none⟩ = some (.int .i64 (b : Int)) ∧ V.cell? ⟨N, 1, none⟩ = some (.int .i64 (t : Int))) [(true, 0), (true, 2), (false, 1), (true, 3), (true, 4), (true, 5), (true, 7), (true, 8), (true, 9), (true, 10), (true, 11), (false, 6), (true, 12), (true, 13)] (by kernel_rfl) (by kernel_rfl) (by kernel_rfl) (by kernel_rfl) (HCE.out _ H7.out.drew) ?_
            iterate 2 (refine Kit.gplan_head (by rfl) (by first | exact .inr ⟨by rfl, rfl⟩ | exact .inl ⟨by rfl, fun w' hS => by (dsimp only at hS); go_simp; (try with_reducible rfl)⟩) ?_; (try simp only [Act.put, List.setIfInBounds_toArray, List.set_cons_zero, List.set_cons_succ]))
            refine Kit.gplan_op (by rfl) (by rfl) fun K hK => ?_
            go_simp
            go_at_call 24
            refine (signerNext_any _ (HS7.out.later (Below.refl _ _).drew)).mono ?_
            rintro e w90 ⟨rfl, h90⟩
            subst h90
            refine hK _ _ (HCE.out _ H7.out.drew) ?_
            clear hK K
            iterate 8 (refine Kit.gplan_head (by rfl) (by first | exact .inr ⟨by rfl, rfl⟩ | exact .inl ⟨by rfl, fun w' hS => by (dsimp only at hS); go_simp; (try with_reducible rfl)⟩) ?_; (try simp only [Act.put, List.setIfInBounds_toArray, List.set_cons_zero, List.set_cons_succ]))
            refine Kit.gplan_op (by rfl) (by rfl) fun K hK => ?_
            go_simp
            go_at_call 25
            refine (HLF.out _ (HS7.out.later (Below.refl _ _).drew)).mono ?_
            rintro e w91 ⟨rfl, h91⟩
            have H91 := Lib.hid ((Below.refl _ V7).drew.trans h91)
            have H92 := Lib.hid (HST.out _ _ H7.out H91.out)
            clear h91
            refine hK _ _ (HCE.out _ H92.out) ?_
            clear hK K
            iterate 2 (refine Kit.gplan_head (by rfl) (by first | exact .inr ⟨by rfl, rfl⟩ | exact .inl ⟨by rfl, fun w' hS => by (dsimp only at hS); go_simp; (try with_reducible rfl)⟩) ?_; (try simp only [Act.put, List.setIfInBounds_toArray, List.set_cons_zero, List.set_cons_succ]))
            refine Kit.gplan_done ?_
            (try simp only [Act.put, List.setIfInBounds_toArray, List.set_cons_zero, List.set_cons_succ])
            have HS92 := Lib.hid (HS7.out.later H91.out)
            go_wp2_with fail
            go_roundw
            case rel => exact ⟨M, k + 1, hlt, rfl, by go_num, HS92, H92⟩
            case measure => simp [intOf]; omega
        · have hKg : (KK == 2) = false := by rw [beq_eq_false_iff_ne]; exact hK2
          go_upto_region 34 with fail
          clear g0 g1 g2
          have hnx : ((nx : Int) != (nx : Int)) = false := by simp
          have HLE2 : Hid (nx ≤ P) := Lib.hid (by have := HS5.out.next; rw [HP.out] at this; exact this)
          have hsub : ((P - nx : Nat) : Int) = (P : Int) - (nx : Int) := by have := HLE2.out; omega
          have hsubw : IntKind.i64.wrap ((P : Int) - (nx : Int)) = (P : Int) - (nx : Int) := by have := HLE2.out; rw [IntKind.wrap_i64]; omega
          have hss : (((P : Int) - (nx : Int)) != ((P : Int) - (nx : Int))) = false := by simp
          have HLF := Lib.hid (fun w h => signerLeft_any (B := B1) (g := g) (b := b) (t := t) (seed := u3) (pk := pk) (next := nx) w h)
          rw [HP.out, hsub] at HLF
          clear hsub
          refine Kit.wp_region_gplan (fun V => V.cell? ⟨N, 0, none⟩ = some (.int .i64 (b : Int)) ∧ V.cell? ⟨N, 1, none⟩ = some (.int .i64 (t : Int))) [(true, 0), (true, 2), (false, 1), (true, 3), (true, 4), (true, 5), (true, 7), (true, 8), (true, 9), (true, 10), (true, 11), (false, 6), (true, 12), (true, 13)] (by kernel_rfl) (by kernel_rfl) (by kernel_rfl) (by kernel_rfl) (HCE.out _ H5.out.drew) ?_
          iterate 2 (refine Kit.gplan_head (by rfl) (by first | exact .inr ⟨by rfl, rfl⟩ | exact .inl ⟨by rfl, fun w' hS => by (dsimp only at hS); go_simp; (try with_reducible rfl)⟩) ?_; (try simp only [Act.put, List.setIfInBounds_toArray, List.set_cons_zero, List.set_cons_succ]))
          refine Kit.gplan_op (by rfl) (by rfl) fun K hK => ?_
          go_simp
          go_at_call 24
          refine (signerNext_any _ (HS5.out.later (Below.refl _ _).drew)).mono ?_
          rintro e w90 ⟨rfl, h90⟩
          subst h90
          refine hK _ _ (HCE.out _ H5.out.drew) ?_
          clear hK K
          iterate 8 (refine Kit.gplan_head (by rfl) (by first | exact .inr ⟨by rfl, rfl⟩ | exact .inl ⟨by rfl, fun w' hS => by (dsimp only at hS); go_simp; (try with_reducible rfl)⟩) ?_; (try simp only [Act.put, List.setIfInBounds_toArray, List.set_cons_zero, List.set_cons_succ]))
          refine Kit.gplan_op (by rfl) (by rfl) fun K hK => ?_
          go_simp
          go_at_call 25
          refine (HLF.out _ (HS5.out.later (Below.refl _ _).drew)).mono ?_
          rintro e w91 ⟨rfl, h91⟩
          have H91 := Lib.hid ((Below.refl _ V).drew.trans h91)
          have H92 := Lib.hid (HST.out _ _ H5.out H91.out)
          clear h91
          refine hK _ _ (HCE.out _ H92.out) ?_
          clear hK K
          iterate 2 (refine Kit.gplan_head (by rfl) (by first | exact .inr ⟨by rfl, rfl⟩ | exact .inl ⟨by rfl, fun w' hS => by (dsimp only at hS); go_simp; (try with_reducible rfl)⟩) ?_; (try simp only [Act.put, List.setIfInBounds_toArray, List.set_cons_zero, List.set_cons_succ]))
          refine Kit.gplan_done ?_
          (try simp only [Act.put, List.setIfInBounds_toArray, List.set_cons_zero, List.set_cons_succ])
          have HS92 := Lib.hid (HS5.out.later H91.out)
          go_wp2_with fail
          go_roundw
          case rel => exact ⟨nx, k + 1, hlt, rfl, by go_num, HS92, H92⟩
          case measure => simp [intOf]; omega
    · have hki : ¬ (k : Int) < (L : Int) := by omega
      go_wp2_with fail
      go_ret
      exact ⟨by first | rfl | simp, HEND.out _ HR.out⟩
theorem walk_SignatureRuns (p q x : Nat) (a : Option Addr) (cap L : Nat) (os : List (Int × ByteArray × Int)) (w : World) (hp : p < 256) (hq : q < 256) (hx : x < 256) (hl : os.length = L) (hA : OpsAt w a os) (hL : Laid w) :
    Calls Tryz.prog 4 #[.int .u8 (p : Int), .int .u8 (q : Int), .int .u8 (x : Int), .slice a L cap] w fun e w' => e = .returned (.bool true) ∧ Below w.heap.size w w' := by
  obtain ⟨b, t, hB, hb4, ht, hsc⟩ := schemeH_any p q
  by_cases h : 6 < L
  · exact runs_long p q x a cap L h w hL
  · exact runs_main p q x hx a cap L os hl h b t hB hb4 ht hsc w hA hL
end Go.Proofs.YtjhpdchcmfghpaaGreatDoor
