/- Texts Tdx of the proof, each as a section; no premises beyond those that each theorem states. -/
import Derived.Test.YtmcbnhkcjhlbaaaGreatDoorP23
set_option linter.unusedVariables false
set_option linter.unusedSimpArgs false
namespace Go.Proofs.YtmcbnhkcjhlbaaaGreatDoor.Tp
open Go.RowKit
open Kit (Chg)
open Go.Maps
open Go.WideMaps
open Go.Proofs.YtmcbnhkcjhlbaaaGreatDoor.One

def ApplyP (bs : List FE) (w : World) (e : Ending) (w' : World) : Prop := ∃ (v : Value) (xs : List FV) (B : Nat), e = .returned (.tuple #[v, .int .i64 0]) ∧ w.heap.size ≤ B ∧ ERow w' B v xs ∧ xs.map FV.e = bs ∧ Below w.heap.size w w'
theorem good_sizes {c : CV} (h : c.good) (hp : c.x.e.path.size ≤ 4000000) : c.path.size ≤ 4000000 ∧ c.frm.size ≤ 4000000 := by
  rcases h.k with k | k | k | k
  · obtain ⟨h1, h2, _⟩ := h.rem k
    have h3 := h1.len
    rw [bytes_len] at h3
    omega
  · obtain ⟨h1, h2, _⟩ := h.mov k
    have h3 := h2.len
    rw [bytes_len] at h3
    rw [h1]
    omega
  · obtain ⟨h1, h2, _⟩ := h.put (.inl k)
    rw [h1]
    omega
  · obtain ⟨h1, h2, _⟩ := h.put (.inr k)
    rw [h1]
    omega
set_option maxRecDepth 100000 in
set_option maxHeartbeats 4000000 in
theorem apply_any (ad : Option Addr) (n cap : Nat) (xa : List FV) (l : Option Addr) (m c : Nat) (L : List CV) (bs : List FE) (hn : xa.length = n) (hcap : n ≤ cap) (hm : L.length = m) (hmc : m ≤ c) (hm2 : m ≤ 20000) (w : World) (hX : FEsAt w ad xa) (hoa : OkTree (xa.map FV.e)) (hob : OkTree bs) (hL : CsAt w l L) (hD : DiffOf (xa.map FV.e) bs L) (hT : Top w) : Calls Tryz.prog 16 #[.slice ad n cap, .slice l m c] w (ApplyP bs w) := by
  have hn4 : n ≤ 4096 := by have := hoa.len; rw [List.length_map, hn] at this; exact this
  have HCK := Lib.hid (check40_ok ad n cap xa l m c L hn hcap hn4 hm hmc hm2 w hX hoa hL hD.good hT)
  have HBP := Lib.hid (fun V (h : Below w.heap.size w V) => byPath_any ad n cap xa hn hcap (by omega) V (hX.later h))
  have HM := Lib.hid hm
  have HX := Lib.hid hX
  have HOA := Lib.hid hoa
  have HOB := Lib.hid hob
  have HL := Lib.hid hL
  have HD := Lib.hid hD
  have HT := Lib.hid hT
  clear hn hm hX hoa hob hL hD hT
  go_enter Tryz.func16, Tryz.ntmps16
  go_upto_region 5 with (first
    | (go_at_call 40
       (with_reducible refine HCK.out.mono ?_)
       rintro e W0 ⟨rfl, hb⟩
       have HB0 := Lib.hid hb
       clear hb)
    | (go_at_call 41
       (with_reducible refine (HBP.out _ HB0.out).mono ?_)
       rintro e W1 ⟨bl, rfl, hbl, hml, hb1⟩
       have HBL := Lib.hid hbl
       have HML1 := Lib.hid hml
       have HB1 : Hid (Below w.heap.size w W1) := Lib.hid (HB0.out.trans (hb1.mono HB0.out.size))
       clear hbl hml hb1))
  refine wp_over (fun V => Hid (V.cell? ⟨W1.heap.size, 0, none⟩ = some (.map (some bl))) ∧ Hid (Below W1.heap.size W1 V) ∧ Hid (V.heap.size = W1.heap.size + 1)) ⟨Lib.hid ((cell_of_row _ _ _ _ _ _ (heap_alloc_new _ _)).trans rfl), Lib.hid ((Below.refl _ _).alloc (Nat.le_refl _) _), Lib.hid (by simp)⟩ ?_
  rintro W2 ⟨HV2, HB2, HZ2⟩
  have HML2 := Lib.hid (HML1.out.later HB2.out)
  have HBW2 : Hid (Below w.heap.size w W2) := Lib.hid (HB1.out.trans (HB2.out.mono HB1.out.size))
  have HLV : Hid (w.heap.size ≤ bl ∧ bl < W1.heap.size) := Lib.hid ⟨by have := HBL.out; have := HB0.out.size; omega, HML1.out.lt⟩
  obtain ⟨V1, hV1⟩ := ex_eq W1.heap.size
  rw [hV1] at HV2 HZ2 HLV ⊢
  clear hV1
  go_upto_region 8 with (first
    | (go_at_call 41
       (with_reducible refine (HBP.out _ HBW2.out).mono ?_)
       rintro e W3 ⟨bo, rfl, hbo, hmo, hb3⟩
       have HBO := Lib.hid hbo
       have HMO3 := Lib.hid hmo
       have HB3 := Lib.hid hb3
       clear hbo hmo hb3))
  have HML3 : Hid (MapS W3 bl n (entM (m1F xa (L.take 0)))) := Lib.hid ((HML2.out.later HB3.out).congr (fun p => by unfold entM; rw [List.take_zero, m1F_nil]))
  have HV3 : Hid (W3.cell? ⟨V1, 0, none⟩ = some (.map (some bl))) := Lib.hid ((HB3.out.cell (p := ⟨V1, 0, none⟩) (by have := HZ2.out; show V1 < _; omega)).trans HV2.out)
  have HLT : Hid (w.heap.size ≤ bl ∧ bl < V1 ∧ V1 < bo) := Lib.hid (by have := HLV.out; have := HBO.out; have := HZ2.out; omega)
  have HB03 : Hid (Below w.heap.size w W3) := Lib.hid (HBW2.out.trans (HB3.out.mono HBW2.out.size))
  go_loopw [35] (fun z wr => ∃ k : Nat, k ≤ m ∧ z = .int .i64 (k : Int) ∧ Hid (MapS wr bl n (entM (m1F xa (L.take (k))))) ∧ Hid (MapS wr bo n (entM (findF xa))) ∧ Hid (wr.cell? ⟨V1, 0, none⟩ = some (.map (some bl))) ∧ Hid (Below w.heap.size w wr) ∧ Hid (bo < wr.heap.size)) (fun z _ => m - (intOf z).toNat)
  case atStart => exact ⟨0, Nat.zero_le _, rfl, HML3, HMO3, HV3, HB03, Lib.hid HMO3.out.lt⟩
  case round =>
    obtain ⟨k, hk, rfl, HMD, HMO, HV, HB, HZ⟩ := hrel
    clear HML3 HV3 HMO3 HB03
    by_cases hlt : k < m
    rotate_left
    · have hkm : m = k := by omega
      subst hkm
      have HMF : Hid (MapS wr bl n (entM (m1F xa L))) := Lib.hid (by have h1 := HMD.out; rw [List.take_of_length_le (by rw [HM.out]; exact Nat.le_refl _)] at h1; exact h1)
      have hmk1 := fun W => run_makeMap_none (P := Tryz.prog) (t := 49) Tryz.underlying49 W
      have hmk2 := fun W => run_makeMap_none (P := Tryz.prog) (t := 109) Tryz.underlying109 W
      go_upto_region 22 with fail
      clear hmk1 hmk2
      have hal1 := (Below.refl wr.heap.size wr).alloc (Nat.le_refl _) (.map #[] 0)
      have hal2 := (Below.refl (wr.alloc (.map #[] 0)).heap.size (wr.alloc (.map #[] 0))).alloc (Nat.le_refl _) (.map #[] 0)
      refine wp_over (fun V => Hid (MapS V bl (n + 0) (entM (overM (modF (L.take 0)) (m1F xa L)))) ∧ Hid (MapS V wr.heap.size 0 (entM (addF (L.take 0)))) ∧ Hid (MapS V (wr.heap.size + 1) 0 (goneV (fun p => (modF (L.take 0) p).isSome))) ∧ Hid (Below wr.heap.size wr V) ∧ Hid (V.heap.size = wr.heap.size + 2)) ⟨Lib.hid (((HMF.out.later hal1).later hal2).congr (fun p => rfl)), Lib.hid (((MapS.start wr).congr (fun p => rfl)).later hal2), Lib.hid (by have h := (MapS.start (wr.alloc (.map #[] 0))).congr (G := goneV (fun p => (modF (L.take 0) p).isSome)) (fun p => rfl); rw [World.size_alloc] at h; exact h), Lib.hid (hal1.trans (hal2.mono (by simp))), Lib.hid (by simp)⟩ ?_
      clear hal1 hal2
      rintro V0 ⟨HL0, HA0, HD0, HVB, HVZ⟩
      have HV0 : Hid (V0.cell? ⟨V1, 0, none⟩ = some (.map (some bl))) := Lib.hid ((HVB.out.cell (p := ⟨V1, 0, none⟩) (World.block_lt_of_cell? _ _ HV.out)).trans HV.out)
      have HB0V : Hid (Below w.heap.size w V0) := Lib.hid (HB.out.trans (HVB.out.mono HB.out.size))
      obtain ⟨ba, hba⟩ := ex_eq wr.heap.size
      obtain ⟨bm, hbm⟩ := ex_eq (wr.heap.size + 1)
      have HLT2 : Hid (w.heap.size ≤ bl ∧ bl < V1 ∧ V1 < ba ∧ ba < bm) := Lib.hid (by have := HLT.out; have := HZ.out; omega)
      have HZ0 : Hid (bm < V0.heap.size) := Lib.hid (by have := HVZ.out; omega)
      rw [hbm] at HD0 ⊢
      rw [hba] at HA0 ⊢
      clear hba hbm HMF HV HB HMD HMO HZ HVB HVZ
      go_loopw [79] (fun z wr => ∃ k : Nat, k ≤ m ∧ z = .int .i64 (k : Int) ∧ Hid (MapS wr bl (n + (k)) (entM (overM (modF (L.take (k))) (m1F xa L)))) ∧ Hid (MapS wr ba (k) (entM (addF (L.take (k))))) ∧ Hid (MapS wr bm (k) (goneV (fun p => (modF (L.take (k)) p).isSome))) ∧ Hid (wr.cell? ⟨V1, 0, none⟩ = some (.map (some bl))) ∧ Hid (Below w.heap.size w wr) ∧ Hid (bm < wr.heap.size)) (fun z _ => m - (intOf z).toNat)
      case atStart => exact ⟨0, Nat.zero_le _, rfl, HL0, HA0, HD0, HV0, HB0V, HZ0⟩
      case round =>
        obtain ⟨k, hk, rfl, HLM, HAM, HDM, HV, HB, HZ⟩ := hrel
        clear HL0 HA0 HD0 HV0 HB0V HZ0
        have hkm3 : m ≤ 20000 := hm2
        by_cases hlt : k < m
        rotate_left
        · have hkm : k = m := by omega
          subst hkm
          have HTM : Hid (L.take k = L) := Lib.hid (List.take_of_length_le (by rw [HM.out]; exact Nat.le_refl _))
          rw [HTM.out] at HLM HAM
          have HBSL : Hid (bs.length ≤ 4096) := Lib.hid HOB.out.len
          have HMC := Lib.hid (mapsCopy_any bl ba (n + k) k (overM (modF L) (m1F xa L)) (addF L) (bs.map FE.p) (fun p hp => by
            obtain ⟨x, hx⟩ := Option.isSome_iff_exists.1 hp
            obtain ⟨c', hc', hk', rfl, hp'⟩ := addF_some hx
            exact List.mem_map.2 ⟨_, (HD.out.anew c' hc' hk').1, hp'⟩) (by rw [List.length_map]; have := HBSL.out; omega) (fun p hp => by
            obtain ⟨e, he, rfl⟩ := List.mem_map.1 hp
            have := (HOB.out.ok e he).vp.len
            show e.path.data.toList.length ≤ _
            omega) (by omega) wr HLM.out HAM.out (by have := HLT2.out; omega))
          have hV := HV.out
          go_upto_region 39 with (first
            | (go_at_call 44
               (with_reducible refine HMC.out.mono ?_)
               rintro e W2 ⟨rfl, hm2', hc2⟩
               have HM2 := Lib.hid hm2'
               have HC2 := Lib.hid hc2
               clear hm2' hc2))
          clear hV
          have hV2 : W2.cell? ⟨V1, 0, none⟩ = some (.map (some bl)) := HC2.out.cell HV.out (fun e => by have := HLT2.out; (try simp only at e); omega)
          have HBW : Hid (Below w.heap.size w W2) := Lib.hid (HB.out.trans (HC2.out.below HB.out.size (fun q i hq e => by have := HLT2.out; omega)))
          have HSO := Lib.hid (sorted_any bl (n + k + 10000) (finM xa L) (bs.map FE.p) (nodup_paths HOB.out.asc) (fun p => ⟨fun hp => by
            obtain ⟨e, he, h⟩ := HD.out.finIn HOA.out.asc hp
            exact List.mem_map.2 ⟨e, he, h⟩, fun hp => by
            obtain ⟨e, he, rfl⟩ := List.mem_map.1 hp
            obtain ⟨y, hy, _⟩ := HD.out.fin HOA.out.asc HOB.out.asc he
            rw [hy]
            rfl⟩) (fun p hp => by
            obtain ⟨e, he, rfl⟩ := List.mem_map.1 hp
            have := (HOB.out.ok e he).vp.len
            show e.path.data.toList.length ≤ _
            omega) (by rw [List.length_map]; have := HBSL.out; omega) (by omega) W2 HM2.out (fun p x hx => finM_ok (fun y hy => (HX.out.2 y hy).later HBW.out) (fun c hc => (HL.out.2 c hc).later HBW.out) hx))
          go_upto_region 40 with (first
            | (go_at_call 45
               (with_reducible refine HSO.out.mono ?_)
               rintro e W3 ⟨v, xs, ys, B, rfl, hB, hys, hpw, her, hmp, hb3⟩
               have HBB := Lib.hid hB
               have HER := Lib.hid her
               have HB3 := Lib.hid hb3
               have HXS : Hid (xs.map FV.e = bs) := Lib.hid (HD.out.whole HOA.out.asc HOB.out.asc hys hpw hmp)
               clear hB hys hpw her hmp hb3))
          clear hV2
          obtain ⟨ra, rc, hv, hrc, hfe⟩ := HER.out.at
          have HBW3 : Hid (Below w.heap.size w W3) := Lib.hid (HBW.out.trans (HB3.out.mono HBW.out.size))
          have HCKE := Lib.hid (check_any ra xs.length rc xs rfl hrc (by have := congrArg List.length HXS.out; rw [List.length_map] at this; rw [this]; exact HBSL.out) W3 hfe (fun x hx => HOB.out.ok _ (by rw [← HXS.out]; exact List.mem_map.2 ⟨x, hx, rfl⟩)) (by rw [HXS.out]; exact HOB.out.asc) (HT.out.later HBW3.out))
          subst hv
          clear hrc hfe
          go_wp2_with (first
            | (go_at_call 20
               (with_reducible refine HCKE.out.mono ?_)
               rintro e W4 ⟨r, rfl, _, hr, hb4⟩
               obtain rfl : r = 0 := hr (by rw [HXS.out]; exact HOB.out)
               have HB4 := Lib.hid hb4
               clear hr hb4))
          go_ret2
          exact ⟨_, xs, B, rfl, Nat.le_trans HBW.out.size HBB.out, HER.out.later HB4.out, HXS.out, HBW3.out.trans (HB4.out.mono HBW3.out.size)⟩
        have hkx : k < L.length := by rw [HM.out]; exact hlt
        have HLW := Lib.hid (HL.out.later HB.out)
        obtain ⟨b, o, rfl, c0, c1, c2, c3, c4, c5, c6, c7, c8⟩ := HLW.out.nine k hkx
        obtain ⟨x, hx⟩ : ∃ x, L[k] = x := ⟨_, rfl⟩
        rw [hx] at c0 c1 c2 c3 c4 c5 c6 c7 c8
        have HXL : Hid (x ∈ L) := Lib.hid (by rw [← hx]; exact List.getElem_mem hkx)
        have HXK : Hid (∀ (P : CV → Prop), P L[k] → P x) := Lib.hid (fun P h => by rw [← hx]; exact h)
        have HTK : Hid (L.take (k + 1) = L.take k ++ [x]) := Lib.hid (by rw [List.take_succ_eq_append_getElem hkx, hx])
        have HXO : Hid (x.x.ok w) := Lib.hid (HL.out.2 x HXL.out)
        have HGD := Lib.hid (HD.out.good x HXL.out)
        have HPS : Hid (x.path.size ≤ 4000000 ∧ x.frm.size ≤ 4000000) := Lib.hid (good_sizes HGD.out HXO.out.sp)
        clear hx
        obtain ⟨ck, cp, cf, ⟨⟨path, kind, mode, time, data, link⟩, a, cc⟩⟩ := x
        dsimp only at c0 c1 c2 c3 c4 c5 c6 c7 c8 HPS HXO
        go_upto_region 24 with fail
        refine wp_over (fun V => Hid (V.heap[wr.heap.size]? = some (.cells (CV.row (⟨ck, cp, cf, (⟨⟨path, kind, mode, time, data, link⟩, a, cc⟩ : FV)⟩ : CV)) 114 (0, 0))) ∧ Hid (Below wr.heap.size wr V) ∧ Hid (V.heap.size = wr.heap.size + 1)) ⟨Lib.hid (new_row9 (c := (⟨ck, cp, cf, (⟨⟨path, kind, mode, time, data, link⟩, a, cc⟩ : FV)⟩ : CV))), Lib.hid ((Below.refl _ _).alloc (Nat.le_refl _) _), Lib.hid (by simp)⟩ ?_
        rintro W ⟨HR, HWB, HWS⟩
        clear c0 c1 c2 c3 c4 c5 c6 c7 c8
        obtain ⟨N, hN⟩ := ex_eq wr.heap.size
        rw [hN] at HR HWS ⊢
        have HNW := Lib.hid hN
        clear hN
        obtain ⟨c0, c1, c2, c3, c4, c5, c6, c7, c8⟩ := row9 HR.out
        dsimp only at c0 c1 c2 c3 c4 c5 c6 c7 c8
        have HBW : Hid (Below w.heap.size w W) := Lib.hid (HB.out.trans (HWB.out.mono HB.out.size))
        have hV : W.cell? ⟨V1, 0, none⟩ = some (.map (some bl)) := (HWB.out.cell (p := ⟨V1, 0, none⟩) (World.block_lt_of_cell? _ _ HV.out)).trans HV.out
        have HV1 := Lib.hid hV
        obtain ⟨ov, th, hovt, hlook⟩ : ∃ (ov : FV) (th : Bool), ((overM (modF (L.take k)) (m1F xa L) cp.data.toList).getD fvZero = ov ∧ (overM (modF (L.take k)) (m1F xa L) cp.data.toList).isSome = th) ∧ (Instr.lookup 109 (.map (some bl)) (.string cp) true).run Tryz.prog W = .ok (.tuple #[ov.val, .bool th]) W := by
          have hz : ∀ V : World, (zeroValue 54).run Tryz.prog V = .ok fvZero.val V := fun V => by kernel_rfl
          refine ⟨_, _, ⟨rfl, rfl⟩, ?_⟩
          have h1 := (HLM.out.later HWB.out).look (t := 109) (e := 54) Tryz.underlying109 (hz W) cp (size_maxLen HPS.out.1)
          rw [entM_getD, entM_isSome] at h1
          exact h1
        have HOVT := Lib.hid hovt
        clear hovt
        obtain ⟨⟨pathO, kindO, modeO, timeO, dataO, linkO⟩, daO, dcO⟩ := ov
        dsimp only [FV.val, FV.row] at hlook
        go_upto_region 25 with fail
        clear hlook hV
        refine wp_over (fun V => Hid (V.heap[W.heap.size]? = some (.cells (FV.row (⟨⟨pathO, kindO, modeO, timeO, dataO, linkO⟩, daO, dcO⟩ : FV)) 54 (0, 0))) ∧ Hid (Below W.heap.size W V) ∧ Hid (V.heap.size = W.heap.size + 1)) ⟨Lib.hid (heap_alloc_new _ _), Lib.hid ((Below.refl _ _).alloc (Nat.le_refl _) _), Lib.hid (by simp)⟩ ?_
        rintro WO ⟨HRO, HOB2, HOZ⟩
        clear c0 c1 c2 c3 c4 c5 c6 c7 c8
        have HWN : Hid (W.heap.size = N + 1) := HWS
        rw [HWN.out] at HRO HOZ ⊢
        have HRN : Hid (WO.heap[N]? = some (.cells (CV.row (⟨ck, cp, cf, (⟨⟨path, kind, mode, time, data, link⟩, a, cc⟩ : FV)⟩ : CV)) 114 (0, 0))) := Lib.hid ((HOB2.out.block N (by have := HWN.out; omega)).trans HR.out)
        have HLO := Lib.hid ((HLM.out.later HWB.out).later HOB2.out)
        have HAO := Lib.hid ((HAM.out.later HWB.out).later HOB2.out)
        have HDO := Lib.hid ((HDM.out.later HWB.out).later HOB2.out)
        have HV2b : Hid (WO.cell? ⟨V1, 0, none⟩ = some (.map (some bl))) := Lib.hid ((HOB2.out.cell (p := ⟨V1, 0, none⟩) (World.block_lt_of_cell? _ _ HV1.out)).trans HV1.out)
        have HBO2 : Hid (Below w.heap.size w WO) := Lib.hid (HBW.out.trans (HOB2.out.mono HBW.out.size))
        obtain ⟨c0, c1, c2, c3, c4, c5, c6, c7, c8⟩ := row9 HRN.out
        dsimp only at c0 c1 c2 c3 c4 c5 c6 c7 c8
        rcases HGD.out.k with hk1 | hk1 | hk1 | hk1
        · have hk1 : ck = 1 := hk1
          subst hk1
          have HC9 : Hid (Chg (fun _ _ => False) WO WO) := Lib.hid (Chg.of_heap rfl rfl rfl rfl)
          have HM9 : Hid (MapS WO bl (n + (k + 1)) (entM (overM (modF (L.take (k + 1))) (m1F xa L)))) := Lib.hid ((HLO.out.mono (by omega)).congr (fun p => by
            rw [HTK.out, modF_miss _ _ (by simp)]))
          have HA9 : Hid (MapS WO ba (k + 1) (entM (addF (L.take (k + 1))))) := Lib.hid ((HAO.out.mono (by omega)).congr (fun p => by
            rw [HTK.out, addF_miss _ _ (by simp)]))
          have HD9 : Hid (MapS WO bm (k + 1) (goneV (fun p => (modF (L.take (k + 1)) p).isSome))) := Lib.hid ((HDO.out.mono (by omega)).congr (fun p => by
            rw [HTK.out, modF_miss _ _ (by simp)]))
          have HV9 : Hid (WO.cell? ⟨V1, 0, none⟩ = some (.map (some bl))) := Lib.hid (HC9.out.cell HV2b.out (fun e => by first | exact e.elim | (have := HLT2.out; (try simp only at e); omega)))
          have HB9 : Hid (Below w.heap.size w WO) := Lib.hid (HBO2.out.trans (HC9.out.below HBO2.out.size (fun q i hq e => by have := HLT2.out; omega)))
          have HZ9 : Hid (bm < WO.heap.size) := Lib.hid (by have := HC9.out.size; have := HOZ.out; have := HZ.out; have := HNW.out; omega)
          go_wp2_with fail
          go_roundw
          case rel => exact ⟨k + 1, by omega, by go_num, HM9, HA9, HD9, HV9, HB9, HZ9⟩
          case measure => simp [intOf]; omega
        · have hk1 : ck = 2 := hk1
          subst hk1
          have HPP : Hid (FV.p (⟨⟨path, kind, mode, time, data, link⟩, a, cc⟩ : FV) = cp.data.toList) := Lib.hid (good_p HGD.out (by simp)).symm
          have HFR : Hid (overM (modF (L.take k)) (m1F xa L) cp.data.toList = none ∧ addF (L.take k) cp.data.toList = none) := Lib.hid (HXK.out (fun x => (x.kind = 2 ∨ x.kind = 3) → overM (modF (L.take k)) (m1F xa L) x.p = none ∧ addF (L.take k) x.p = none) (fun h => HD.out.fresh HOA.out.asc HOB.out.asc hkx h) (.inl rfl))
          have hth := HFR.out.1
          obtain ⟨hov1, hov2⟩ := HOVT.out
          rw [hth] at hov1 hov2
          have hov2 : false = th := hov2
          subst hov2
          clear hth hov1
          have hz : ∀ V : World, (zeroValue 54).run Tryz.prog V = .ok fvZero.val V := fun V => by kernel_rfl
          have hl2 := (HAO.out).look (t := 109) (e := 54) Tryz.underlying109 (hz WO) cp (size_maxLen HPS.out.1)
          rw [entM_getD, entM_isSome, HFR.out.2] at hl2
          replace hl2 : (Instr.lookup 109 (.map (some ba)) (.string cp) true).run Tryz.prog WO = .ok (.tuple #[.agg #[.string ByteArray.empty, .int .i64 0, .int .i64 0, .int .i64 0, .slice none 0 0, .string ByteArray.empty], .bool false]) WO := hl2
          clear hz
          go_upto_region 31 with fail
          clear hl2
          refine wp_over (fun V => Hid (Below WO.heap.size WO V)) (Lib.hid ((Below.refl _ _).alloc (Nat.le_refl _) _)) ?_
          rintro WP HPB
          clear c0 c1 c2 c3 c4 c5 c6 c7 c8
          obtain ⟨c0, c1, c2, c3, c4, c5, c6, c7, c8⟩ := row9 ((HPB.out.block N (by have := HOZ.out; omega)).trans HRN.out)
          dsimp only at c0 c1 c2 c3 c4 c5 c6 c7 c8
          obtain ⟨W9, hput, hm9, hg9, hs9⟩ := (HAO.out.later HPB.out).put (t := 109) (e := 54) Tryz.underlying109 (by unfold maxLen; omega) cp (size_maxLen HPS.out.1) (.agg #[.string path, .int .i64 kind, .int .i64 mode, .int .i64 time, .slice a data.length cc, .string link])
          have HC9 : Hid (Chg (fun q _ => q = ba) WO W9) := Lib.hid ((Chg.of_below HPB.out).trans (Chg.of_grown hg9 (fun q _ e => (Option.some.inj e).symm)))
          have HA9 : Hid (MapS W9 ba (k + 1) (entM (addF (L.take (k + 1))))) := Lib.hid (hm9.congr (fun p => by
            unfold entM
            rw [HTK.out, addF_hit _ _ (by simp)]
            have hpp : (FV.p (⟨⟨path, kind, mode, time, data, link⟩, a, cc⟩ : FV)) = cp.data.toList := HPP.out
            rw [hpp]
            by_cases e : p = cp.data.toList <;> simp [e, FV.val, FV.row]))
          clear hm9 hg9 hs9
          have HM9 : Hid (MapS W9 bl (n + (k + 1)) (entM (overM (modF (L.take (k + 1))) (m1F xa L)))) := Lib.hid (((HLO.out.keep (HC9.out.other bl HLO.out.lt (fun _ e => by have := HLT2.out; omega))).mono (by omega)).congr (fun p => by
            rw [HTK.out, modF_miss _ _ (by simp)]))
          have HD9 : Hid (MapS W9 bm (k + 1) (goneV (fun p => (modF (L.take (k + 1)) p).isSome))) := Lib.hid (((HDO.out.keep (HC9.out.other bm HDO.out.lt (fun _ e => by have := HLT2.out; omega))).mono (by omega)).congr (fun p => by
            rw [HTK.out, modF_miss _ _ (by simp)]))
          have HV9 : Hid (W9.cell? ⟨V1, 0, none⟩ = some (.map (some bl))) := Lib.hid (HC9.out.cell HV2b.out (fun e => by first | exact e.elim | (have := HLT2.out; (try simp only at e); omega)))
          have HB9 : Hid (Below w.heap.size w W9) := Lib.hid (HBO2.out.trans (HC9.out.below HBO2.out.size (fun q i hq e => by have := HLT2.out; omega)))
          have HZ9 : Hid (bm < W9.heap.size) := Lib.hid (by have := HC9.out.size; have := HOZ.out; have := HZ.out; have := HNW.out; omega)
          go_wp2_with fail
          go_roundw
          case rel => exact ⟨k + 1, by omega, by go_num, HM9, HA9, HD9, HV9, HB9, HZ9⟩
          case measure => simp [intOf]; omega
        · have hk1 : ck = 3 := hk1
          subst hk1
          have HPP : Hid (FV.p (⟨⟨path, kind, mode, time, data, link⟩, a, cc⟩ : FV) = cp.data.toList) := Lib.hid (good_p HGD.out (by simp)).symm
          have HFR : Hid (overM (modF (L.take k)) (m1F xa L) cp.data.toList = none ∧ addF (L.take k) cp.data.toList = none) := Lib.hid (HXK.out (fun x => (x.kind = 2 ∨ x.kind = 3) → overM (modF (L.take k)) (m1F xa L) x.p = none ∧ addF (L.take k) x.p = none) (fun h => HD.out.fresh HOA.out.asc HOB.out.asc hkx h) (.inr rfl))
          have hth := HFR.out.1
          obtain ⟨hov1, hov2⟩ := HOVT.out
          rw [hth] at hov1 hov2
          have hov2 : false = th := hov2
          subst hov2
          clear hth hov1
          have hz : ∀ V : World, (zeroValue 54).run Tryz.prog V = .ok fvZero.val V := fun V => by kernel_rfl
          have hl2 := (HAO.out).look (t := 109) (e := 54) Tryz.underlying109 (hz WO) cp (size_maxLen HPS.out.1)
          rw [entM_getD, entM_isSome, HFR.out.2] at hl2
          replace hl2 : (Instr.lookup 109 (.map (some ba)) (.string cp) true).run Tryz.prog WO = .ok (.tuple #[.agg #[.string ByteArray.empty, .int .i64 0, .int .i64 0, .int .i64 0, .slice none 0 0, .string ByteArray.empty], .bool false]) WO := hl2
          clear hz
          go_upto_region 31 with fail
          clear hl2
          refine wp_over (fun V => Hid (Below WO.heap.size WO V)) (Lib.hid ((Below.refl _ _).alloc (Nat.le_refl _) _)) ?_
          rintro WP HPB
          clear c0 c1 c2 c3 c4 c5 c6 c7 c8
          obtain ⟨c0, c1, c2, c3, c4, c5, c6, c7, c8⟩ := row9 ((HPB.out.block N (by have := HOZ.out; omega)).trans HRN.out)
          dsimp only at c0 c1 c2 c3 c4 c5 c6 c7 c8
          obtain ⟨W9, hput, hm9, hg9, hs9⟩ := (HAO.out.later HPB.out).put (t := 109) (e := 54) Tryz.underlying109 (by unfold maxLen; omega) cp (size_maxLen HPS.out.1) (.agg #[.string path, .int .i64 kind, .int .i64 mode, .int .i64 time, .slice a data.length cc, .string link])
          have HC9 : Hid (Chg (fun q _ => q = ba) WO W9) := Lib.hid ((Chg.of_below HPB.out).trans (Chg.of_grown hg9 (fun q _ e => (Option.some.inj e).symm)))
          have HA9 : Hid (MapS W9 ba (k + 1) (entM (addF (L.take (k + 1))))) := Lib.hid (hm9.congr (fun p => by
            unfold entM
            rw [HTK.out, addF_hit _ _ (by simp)]
            have hpp : (FV.p (⟨⟨path, kind, mode, time, data, link⟩, a, cc⟩ : FV)) = cp.data.toList := HPP.out
            rw [hpp]
            by_cases e : p = cp.data.toList <;> simp [e, FV.val, FV.row]))
          clear hm9 hg9 hs9
          have HM9 : Hid (MapS W9 bl (n + (k + 1)) (entM (overM (modF (L.take (k + 1))) (m1F xa L)))) := Lib.hid (((HLO.out.keep (HC9.out.other bl HLO.out.lt (fun _ e => by have := HLT2.out; omega))).mono (by omega)).congr (fun p => by
            rw [HTK.out, modF_miss _ _ (by simp)]))
          have HD9 : Hid (MapS W9 bm (k + 1) (goneV (fun p => (modF (L.take (k + 1)) p).isSome))) := Lib.hid (((HDO.out.keep (HC9.out.other bm HDO.out.lt (fun _ e => by have := HLT2.out; omega))).mono (by omega)).congr (fun p => by
            rw [HTK.out, modF_miss _ _ (by simp)]))
          have HV9 : Hid (W9.cell? ⟨V1, 0, none⟩ = some (.map (some bl))) := Lib.hid (HC9.out.cell HV2b.out (fun e => by first | exact e.elim | (have := HLT2.out; (try simp only at e); omega)))
          have HB9 : Hid (Below w.heap.size w W9) := Lib.hid (HBO2.out.trans (HC9.out.below HBO2.out.size (fun q i hq e => by have := HLT2.out; omega)))
          have HZ9 : Hid (bm < W9.heap.size) := Lib.hid (by have := HC9.out.size; have := HOZ.out; have := HZ.out; have := HNW.out; omega)
          go_wp2_with fail
          go_roundw
          case rel => exact ⟨k + 1, by omega, by go_num, HM9, HA9, HD9, HV9, HB9, HZ9⟩
          case measure => simp [intOf]; omega
        · have hk1 : ck = 4 := hk1
          subst hk1
          have HPP : Hid (FV.p (⟨⟨path, kind, mode, time, data, link⟩, a, cc⟩ : FV) = cp.data.toList) := Lib.hid (good_p HGD.out (by simp)).symm
          have HFR : Hid ((∃ y, overM (modF (L.take k)) (m1F xa L) cp.data.toList = some y ∧ y.e.kind = kind ∧ y ∈ xa) ∧ modF (L.take k) cp.data.toList = none) := Lib.hid (HXK.out (fun x => x.kind = 4 → (∃ y, overM (modF (L.take k)) (m1F xa L) x.p = some y ∧ y.e.kind = x.x.e.kind ∧ y ∈ xa) ∧ modF (L.take k) x.p = none) (fun h => HD.out.modded HOA.out.asc HOB.out.asc hkx h) rfl)
          obtain ⟨y, hy, hyk, hyx⟩ := HFR.out.1
          obtain ⟨hov1, hov2⟩ := HOVT.out
          rw [hy] at hov1 hov2
          have hov2 : true = th := hov2
          have hov1 : y = (⟨⟨pathO, kindO, modeO, timeO, dataO, linkO⟩, daO, dcO⟩ : FV) := hov1
          subst hov2
          subst hov1
          have hko : (kindO != kind) = false := by
            have : kindO = kind := hyk
            rw [this]
            simp
          clear hy hyk hyx
          have hzb : ∀ V : World, (zeroValue 4).run Tryz.prog V = .ok (.bool false) V := fun V => by kernel_rfl
          have hl2 := (HDO.out).look1 (t := 49) (e := 4) Tryz.underlying49 (hzb WO) cp (size_maxLen HPS.out.1)
          replace hl2 : (Instr.lookup 49 (.map (some bm)) (.string cp) false).run Tryz.prog WO = .ok (.bool false) WO := by
            have hg : goneV (fun p => (modF (L.take k) p).isSome) cp.data.toList = none := by
              unfold goneV
              simp [HFR.out.2]
            rw [hl2, hg]
            rfl
          clear hzb
          obtain ⟨d0, d1, d2, d3, d4, d5⟩ := row6 HRO.out
          dsimp only at d0 d1 d2 d3 d4 d5
          obtain ⟨W8, hput8, hm8, hg8, hs8⟩ := HDO.out.put (t := 49) (e := 4) Tryz.underlying49 (by unfold maxLen; omega) cp (size_maxLen HPS.out.1) (.bool true)
          have HC8 : Hid (Chg (fun q _ => q = bm) WO W8) := Lib.hid (Chg.of_grown hg8 (fun q _ e => (Option.some.inj e).symm))
          have HM8 := Lib.hid hm8
          clear hm8 hg8 hs8
          go_upto_region 36 with fail
          clear hl2 hput8 d0 d1 d2 d3 d4 d5 c0 c1 c2 c3 c4 c5 c6 c7 c8
          obtain ⟨c0, c1, c2, c3, c4, c5, c6, c7, c8⟩ := row9 ((HC8.out.other N (by have := HOZ.out; omega) (fun _ e => by have := HZ.out; have := HNW.out; omega)).trans HRN.out)
          dsimp only at c0 c1 c2 c3 c4 c5 c6 c7 c8
          have hV8 : W8.cell? ⟨V1, 0, none⟩ = some (.map (some bl)) := HC8.out.cell HV2b.out (fun e => by have := HLT2.out; (try simp only at e); omega)
          have HL8 := Lib.hid (HLO.out.keep (HC8.out.other bl HLO.out.lt (fun _ e => by have := HLT2.out; omega)))
          obtain ⟨W9, hput, hm9, hg9, hs9⟩ := HL8.out.put (t := 109) (e := 54) Tryz.underlying109 (by unfold maxLen; omega) cp (size_maxLen HPS.out.1) (.agg #[.string path, .int .i64 kind, .int .i64 mode, .int .i64 time, .slice a data.length cc, .string link])
          have HC89 : Hid (Chg (fun q _ => q = bl) W8 W9) := Lib.hid (Chg.of_grown hg9 (fun q _ e => (Option.some.inj e).symm))
          have HM9 : Hid (MapS W9 bl (n + (k + 1)) (entM (overM (modF (L.take (k + 1))) (m1F xa L)))) := Lib.hid (hm9.congr (fun p => by
            have hpp : (FV.p (⟨⟨path, kind, mode, time, data, link⟩, a, cc⟩ : FV)) = cp.data.toList := HPP.out
            unfold entM overM
            rw [HTK.out, modF_hit _ _ rfl]
            dsimp only
            rw [hpp]
            by_cases e : p = cp.data.toList <;> simp [e, FV.val, FV.row]))
          clear hm9 hg9 hs9
          have HC9 : Hid (Chg (fun q _ => q = bm ∨ q = bl) WO W9) := Lib.hid ((HC8.out.mono (fun q _ _ e => .inl e)).trans (HC89.out.mono (fun q _ _ e => .inr e)))
          have HA9 : Hid (MapS W9 ba (k + 1) (entM (addF (L.take (k + 1))))) := Lib.hid (((HAO.out.keep (HC9.out.other ba HAO.out.lt (fun _ e => by have := HLT2.out; omega))).mono (by omega)).congr (fun p => by
            rw [HTK.out, addF_miss _ _ (by simp)]))
          have HD9 : Hid (MapS W9 bm (k + 1) (goneV (fun p => (modF (L.take (k + 1)) p).isSome))) := Lib.hid ((HM8.out.keep (HC89.out.other bm HM8.out.lt (fun _ e => by have := HLT2.out; omega))).congr (fun p => by
            have hpp : (FV.p (⟨⟨path, kind, mode, time, data, link⟩, a, cc⟩ : FV)) = cp.data.toList := HPP.out
            show (if (modF (L.take (k + 1)) p).isSome = true then some (Value.bool true) else none) = _
            rw [HTK.out, modF_hit _ _ rfl, hpp]
            by_cases e : p = cp.data.toList <;> simp [goneV, e]))
          have HV9 : Hid (W9.cell? ⟨V1, 0, none⟩ = some (.map (some bl))) := Lib.hid (HC9.out.cell HV2b.out (fun e => by first | exact e.elim | (have := HLT2.out; (try simp only at e); omega)))
          have HB9 : Hid (Below w.heap.size w W9) := Lib.hid (HBO2.out.trans (HC9.out.below HBO2.out.size (fun q i hq e => by have := HLT2.out; omega)))
          have HZ9 : Hid (bm < W9.heap.size) := Lib.hid (by have := HC9.out.size; have := HOZ.out; have := HZ.out; have := HNW.out; omega)
          go_wp2_with fail
          go_roundw
          case rel => exact ⟨k + 1, by omega, by go_num, HM9, HA9, HD9, HV9, HB9, HZ9⟩
          case measure => simp [intOf]; omega
    have hkx : k < L.length := by rw [HM.out]; exact hlt
    have HLW := Lib.hid (HL.out.later HB.out)
    obtain ⟨b, o, rfl, c0, c1, c2, c3, c4, c5, c6, c7, c8⟩ := HLW.out.nine k hkx
    obtain ⟨x, hx⟩ : ∃ x, L[k] = x := ⟨_, rfl⟩
    rw [hx] at c0 c1 c2 c3 c4 c5 c6 c7 c8
    have HXL : Hid (x ∈ L) := Lib.hid (by rw [← hx]; exact List.getElem_mem hkx)
    have HXK : Hid (∀ (P : CV → Prop), P L[k] → P x) := Lib.hid (fun P h => by rw [← hx]; exact h)
    have HTK : Hid (L.take (k + 1) = L.take k ++ [x]) := Lib.hid (by rw [List.take_succ_eq_append_getElem hkx, hx])
    have HXO : Hid (x.x.ok w) := Lib.hid (HL.out.2 x HXL.out)
    have HGD := Lib.hid (HD.out.good x HXL.out)
    have HPS : Hid (x.path.size ≤ 4000000 ∧ x.frm.size ≤ 4000000) := Lib.hid (good_sizes HGD.out HXO.out.sp)
    clear hx
    obtain ⟨ck, cp, cf, ⟨⟨path, kind, mode, time, data, link⟩, a, cc⟩⟩ := x
    dsimp only at c0 c1 c2 c3 c4 c5 c6 c7 c8 HPS HXO
    go_upto_region 10 with fail
    refine wp_over (fun V => Hid (V.heap[wr.heap.size]? = some (.cells (CV.row (⟨ck, cp, cf, (⟨⟨path, kind, mode, time, data, link⟩, a, cc⟩ : FV)⟩ : CV)) 114 (0, 0))) ∧ Hid (Below wr.heap.size wr V) ∧ Hid (V.heap.size = wr.heap.size + 1)) ⟨Lib.hid (new_row9 (c := (⟨ck, cp, cf, (⟨⟨path, kind, mode, time, data, link⟩, a, cc⟩ : FV)⟩ : CV))), Lib.hid ((Below.refl _ _).alloc (Nat.le_refl _) _), Lib.hid (by simp)⟩ ?_
    rintro W ⟨HR, HWB, HWS⟩
    clear c0 c1 c2 c3 c4 c5 c6 c7 c8
    obtain ⟨N, hN⟩ := ex_eq wr.heap.size
    rw [hN] at HR HWS ⊢
    have HNW := Lib.hid hN
    clear hN
    obtain ⟨c0, c1, c2, c3, c4, c5, c6, c7, c8⟩ := row9 HR.out
    dsimp only at c0 c1 c2 c3 c4 c5 c6 c7 c8
    have HBW : Hid (Below w.heap.size w W) := Lib.hid (HB.out.trans (HWB.out.mono HB.out.size))
    have HMW := Lib.hid (HMD.out.later HWB.out)
    have HV1 : Hid (W.cell? ⟨V1, 0, none⟩ = some (.map (some bl))) := Lib.hid ((HWB.out.cell (p := ⟨V1, 0, none⟩) (World.block_lt_of_cell? _ _ HV.out)).trans HV.out)
    have hkm3 : m ≤ 20000 := hm2
    rcases HGD.out.k with hk1 | hk1 | hk1 | hk1
    · have hk1 : ck = 1 := hk1
      subst hk1
      have hs := HXK.out (fun x => takeOf x = some cp.data.toList → (m1F xa (L.take k) cp.data.toList).isSome = true) (fun h => HD.out.taken HOA.out.asc hkx h) rfl
      have HTA := Lib.hid (take_any V1 bl n (m1F xa (L.take k)) cp HPS.out.1 W HV1.out HMW.out)
      rw [hs] at HTA
      clear hs
      go_wp2_with (first
        | (go_at_call 42
           (with_reducible refine HTA.out.mono ?_)
           rintro e W2 ⟨rfl, hm2', hc2⟩
           have HM2 := Lib.hid hm2'
           have HC2 := Lib.hid hc2
           clear hm2' hc2))
      have HM9 : Hid (MapS W2 bl n (entM (m1F xa (L.take (k + 1))))) := Lib.hid (HM2.out.congr (fun p => by
        unfold entM
        rw [HTK.out, m1F_take xa _ _ (q := cp.data.toList) rfl]))
      have HO9 : Hid (MapS W2 bo n (entM (findF xa))) := Lib.hid ((HMO.out.later HWB.out).keep (HC2.out.other bo (HMO.out.later HWB.out).lt (fun _ e => by have := HLT.out; omega)))
      have HV9 : Hid (W2.cell? ⟨V1, 0, none⟩ = some (.map (some bl))) := Lib.hid (HC2.out.cell HV1.out (fun e => by have := HLT.out; (try simp only at e); omega))
      have HB9 : Hid (Below w.heap.size w W2) := Lib.hid (HBW.out.trans (HC2.out.below HBW.out.size (fun q i hq e => by have := HLT.out; omega)))
      have HZ9 : Hid (bo < W2.heap.size) := Lib.hid (by have := HC2.out.size; have := HWS.out; have := HZ.out; have := HNW.out; omega)
      go_roundw
      case rel => exact ⟨k + 1, by omega, by go_num, HM9, HO9, HV9, HB9, HZ9⟩
      case measure => simp [intOf]; omega
    · have hk1 : ck = 2 := hk1
      subst hk1
      have hs := HXK.out (fun x => takeOf x = some cf.data.toList → (m1F xa (L.take k) cf.data.toList).isSome = true) (fun h => HD.out.taken HOA.out.asc hkx h) rfl
      obtain ⟨y, hy, hyk, hys, hyx⟩ := HD.out.moved HOA.out.asc HXL.out rfl
      have HY := Lib.hid hy
      have HYK := Lib.hid hyk
      have HYS := Lib.hid hys
      have HYO : Hid (y.ok w) := Lib.hid (HX.out.2 y hyx)
      have hz : ∀ V : World, (zeroValue 54).run Tryz.prog V = .ok fvZero.val V := fun V => by kernel_rfl
      have hlook := (HMO.out.later HWB.out).look1 (t := 109) (e := 54) Tryz.underlying109 (hz W) cf (size_maxLen HPS.out.2)
      rw [entM_getD] at hlook
      rw [hy] at hlook
      clear hy hyk hys hyx hz
      obtain ⟨⟨pathO, kindO, modeO, timeO, dataO, linkO⟩, daO, dcO⟩ := y
      dsimp only [Option.getD, FV.val, FV.row] at hlook
      go_upto_region 16 with fail
      refine wp_over (fun V => Hid (V.heap[W.heap.size]? = some (.cells (FV.row (⟨⟨pathO, kindO, modeO, timeO, dataO, linkO⟩, daO, dcO⟩ : FV)) 54 (0, 0))) ∧ Hid (Below W.heap.size W V) ∧ Hid (V.heap.size = W.heap.size + 1)) ⟨Lib.hid (heap_alloc_new _ _), Lib.hid ((Below.refl _ _).alloc (Nat.le_refl _) _), Lib.hid (by simp)⟩ ?_
      rintro WO ⟨HRO, HOB, HOZ⟩
      clear hlook c0 c1 c2 c3 c4 c5 c6 c7 c8
      have HWN : Hid (W.heap.size = N + 1) := HWS
      rw [HWN.out] at HRO HOZ ⊢
      have HRN : Hid (WO.heap[N]? = some (.cells (CV.row (⟨2, cp, cf, (⟨⟨path, kind, mode, time, data, link⟩, a, cc⟩ : FV)⟩ : CV)) 114 (0, 0))) := Lib.hid ((HOB.out.block N (by have := HWN.out; omega)).trans HR.out)
      have HMW2 := Lib.hid (HMW.out.later HOB.out)
      have HV2b : Hid (WO.cell? ⟨V1, 0, none⟩ = some (.map (some bl))) := Lib.hid ((HOB.out.cell (p := ⟨V1, 0, none⟩) (World.block_lt_of_cell? _ _ HV1.out)).trans HV1.out)
      have HTA := Lib.hid (take_any V1 bl n (m1F xa (L.take k)) cf HPS.out.2 WO HV2b.out HMW2.out)
      rw [hs] at HTA
      clear hs
      have HBO2 : Hid (Below w.heap.size w WO) := Lib.hid (HBW.out.trans (HOB.out.mono HBW.out.size))
      have HNB : Hid (V1 < N ∧ bo < N) := Lib.hid (by have := HZ.out; have := HNW.out; have := HLT.out; omega)
      obtain ⟨c0, c1, c2, c3, c4, c5, c6, c7, c8⟩ := row9 HRN.out
      dsimp only at c0 c1 c2 c3 c4 c5 c6 c7 c8
      have hko : (kindO != kind) = false := by
        have : kindO = kind := HYK.out
        rw [this]
        simp
      go_wp2_with (first
        | (go_at_call 42
           (with_reducible refine HTA.out.mono ?_)
           rintro e W2 ⟨rfl, hm2', hc2⟩
           have HM2 := Lib.hid hm2'
           have HC2b := Lib.hid hc2
           clear hm2' hc2 c0 c1 c2 c3 c4 c5 c6 c7 c8
           have HRN2 := Lib.hid ((HC2b.out.other N (by have := HOZ.out; omega) (fun _ e => by have := HLT.out; have := HNB.out; omega)).trans HRN.out)
           have HRO2 := Lib.hid ((HC2b.out.other (N + 1) (by have := HOZ.out; omega) (fun _ e => by have := HLT.out; have := HNB.out; omega)).trans HRO.out)
           obtain ⟨c0, c1, c2, c3, c4, c5, c6, c7, c8⟩ := row9 HRN2.out
           dsimp only at c0 c1 c2 c3 c4 c5 c6 c7 c8
           obtain ⟨d0, d1, d2, d3, d4, d5⟩ := row6 HRO2.out
           dsimp only at d0 d1 d2 d3 d4 d5
           have HBX2 : Hid (Below w.heap.size w W2) := Lib.hid (HBO2.out.trans (HC2b.out.below HBO2.out.size (fun q i hq e => by have := HLT.out; omega)))
           have HSC := Lib.hid (sameContent_any (⟨⟨pathO, kindO, modeO, timeO, dataO, linkO⟩, daO, dcO⟩ : FV) (⟨⟨path, kind, mode, time, data, link⟩, a, cc⟩ : FV) W2 (HYO.out.later HBX2.out) (HXO.out.later HBX2.out))
           have hse : sameC (⟨⟨pathO, kindO, modeO, timeO, dataO, linkO⟩, daO, dcO⟩ : FV).e (⟨⟨path, kind, mode, time, data, link⟩, a, cc⟩ : FV).e = true := HYS.out
           rw [hse] at HSC
           dsimp only [FV.row] at HSC
           clear hse)
        | (go_at_call 43
           (with_reducible refine HSC.out.mono ?_)
           rintro e W4 ⟨rfl, hb4⟩
           have HB4 := Lib.hid hb4
           clear hb4))
      have HM9 : Hid (MapS W4 bl n (entM (m1F xa (L.take (k + 1))))) := Lib.hid ((HM2.out.later HB4.out).congr (fun p => by
        unfold entM
        rw [HTK.out, m1F_take xa _ _ (q := cf.data.toList) rfl]))
      have HO9 : Hid (MapS W4 bo n (entM (findF xa))) := Lib.hid ((((HMO.out.later HWB.out).later HOB.out).keep (HC2b.out.other bo ((HMO.out.later HWB.out).later HOB.out).lt (fun _ e => by have := HLT.out; omega))).later HB4.out)
      have HV9 : Hid (W4.cell? ⟨V1, 0, none⟩ = some (.map (some bl))) := Lib.hid ((HB4.out.cell (p := ⟨V1, 0, none⟩) (by have := HC2b.out.size; have := HOZ.out; have := HNB.out; show V1 < _; omega)).trans (HC2b.out.cell HV2b.out (fun e => by have := HLT.out; (try simp only at e); omega)))
      have HB9 : Hid (Below w.heap.size w W4) := Lib.hid (HBX2.out.trans (HB4.out.mono HBX2.out.size))
      have HZ9 : Hid (bo < W4.heap.size) := Lib.hid (by have := HC2b.out.size; have := HOZ.out; have := HNB.out; have := HB4.out.size; omega)
      go_roundw
      case rel => exact ⟨k + 1, by omega, by go_num, HM9, HO9, HV9, HB9, HZ9⟩
      case measure => simp [intOf]; omega
    all_goals
      have hk1 := hk1
      dsimp only at hk1
      subst hk1
      have HM9 : Hid (MapS W bl n (entM (m1F xa (L.take (k + 1))))) := Lib.hid (HMW.out.congr (fun p => by
        unfold entM
        rw [HTK.out, m1F_none xa _ _ (by rfl)]))
      have HO9 := Lib.hid (HMO.out.later HWB.out)
      have HZ9 : Hid (bo < W.heap.size) := Lib.hid (by have := HWS.out; have := HZ.out; have := HNW.out; omega)
      go_wp2_with fail
      go_roundw
      case rel => exact ⟨k + 1, by omega, by go_num, HM9, HO9, HV1, HBW, HZ9⟩
      case measure => simp [intOf]; omega
end Go.Proofs.YtmcbnhkcjhlbaaaGreatDoor.Tp
