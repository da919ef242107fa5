/- Texts Tck of the proof, each as a section; no premises beyond those that each theorem states. -/
import Derived.IntWalk
import Derived.Test.YtmcbnhkcjhlbaaaGreatDoorP12
import Derived.Test.YtmcbnhkcjhlbaaaGreatDoorP14
set_option linter.unusedVariables false
set_option linter.unusedSimpArgs false
namespace Go.Proofs.YtmcbnhkcjhlbaaaGreatDoor.Tp
open Go.RowKit
open Kit (Chg)
open Go.Proofs.YtmcbnhkcjhlbaaaGreatDoor.One

theorem OkTree.nil : OkTree [] := ⟨by simp, by simp, by simp, fun i h => by simp at h⟩
theorem OkTree.snoc {es : List FE} {e : FE} (h : OkTree es) (he : e.ok) (hl : es.length < 4096) (hc : ∀ x, es.getLast? = some x → cmpP x.p e.p < 0) (hp : parP e.p ≠ [] → ∃ j, ∃ h2 : j < es.length, es[j].p = parP e.p ∧ es[j].kind = 2) : OkTree (es ++ [e]) := by
  refine ⟨by rw [List.length_append]; simp; omega, ?_, ?_, ?_⟩
  · intro x hx
    rcases List.mem_append.1 hx with h1 | h1
    · exact h.ok x h1
    · rw [List.mem_singleton.1 h1]; exact he
  · rw [List.pairwise_append]
    refine ⟨h.asc, by simp, fun x hx y hy => ?_⟩
    rw [List.mem_singleton.1 hy]
    cases hg : es.getLast? with
    | none => rw [List.getLast?_eq_none_iff.1 hg] at hx; simp at hx
    | some z =>
      have h1 := hc z hg
      obtain ⟨ys, hys⟩ := List.getLast?_eq_some_iff.1 hg
      rw [hys] at hx
      rcases List.mem_append.1 hx with h2 | h2
      · have h3 := h.asc
        rw [hys, List.pairwise_append] at h3
        exact cmpP_trans (h3.2.2 x h2 z (by simp)) h1
      · rw [List.mem_singleton.1 h2]; exact h1
  · intro i hi hpi
    by_cases h1 : i < es.length
    · rw [List.getElem_append_left h1] at hpi
      obtain ⟨j, h2, h3, h4⟩ := h.par i h1 hpi
      refine ⟨j, h2, ?_, ?_⟩
      · rw [List.getElem_append_left (by omega), List.getElem_append_left h1]; exact h3
      · rw [List.getElem_append_left (by omega)]; exact h4
    · have h2 : i = es.length := by rw [List.length_append] at hi; simp at hi; omega
      subst h2
      rw [List.getElem_append_right (Nat.le_refl _)] at hpi
      simp only [Nat.sub_self, List.getElem_cons_zero] at hpi
      obtain ⟨j, h2, h3, h4⟩ := hp hpi
      refine ⟨j, h2, ?_, ?_⟩
      · rw [List.getElem_append_left h2, List.getElem_append_right (Nat.le_refl _)]
        simpa using h3
      · rw [List.getElem_append_left h2]; exact h4
def CheckR (xs : List FV) (w : World) (e : Ending) (w' : World) : Prop := ∃ r : Int, e = .returned (.int .i64 r) ∧ (r = 0 → OkTree (xs.map FV.e)) ∧ Below w.heap.size w w'
theorem new_row6 {w : World} {x : FV} {T : TypeId} : SixAt (w.alloc (.cells x.row T)) w.heap.size 0 x := six_of_row (heap_alloc_new _ _)
set_option maxRecDepth 100000 in
set_option maxHeartbeats 4000000 in
theorem refCheck_any (a : Option Addr) (n cap : Nat) (xs : List FV) (hn : xs.length = n) (hcap : n ≤ cap) (hm : n ≤ 4000000) (w : World) (hX : FEsAt w a xs) : Calls Tryz.prog 7 #[.slice a n cap] w (CheckR xs w) := by
  have HN := Lib.hid hn
  have HX := Lib.hid hX
  clear hn hX
  by_cases h4 : 4096 < n
  · have hz : (4096 : Int) < (n : Int) := by omega
    go_enter Tryz.func7, Tryz.ntmps7
    go_wp2
    go_ret
    exact ⟨2, rfl, (fun h => by cases h), Below.refl _ _⟩
  have hz : ¬ (4096 : Int) < (n : Int) := by omega
  go_enter Tryz.func7, Tryz.ntmps7
  go_wp2
  go_loopw [11] (fun i wr => ∃ k : Nat, k ≤ n ∧ i = .int .i64 k ∧ Below w.heap.size w wr ∧ OkTree ((xs.take k).map FV.e)) (fun i _ => n - (intOf i).toNat)
  case atStart => exact ⟨0, Nat.zero_le _, rfl, Below.refl _ _, OkTree.nil⟩
  case round =>
    obtain ⟨k, hk, rfl, hb, hP⟩ := hrel
    have HB := Lib.hid hb
    have HOK := Lib.hid hP
    clear hb hP
    by_cases hlt : k < n
    rotate_left
    · have HF : Hid (OkTree (xs.map FV.e)) := Lib.hid (by
        have := HOK.out
        rw [List.take_of_length_le (by rw [HN.out]; omega)] at this
        exact this)
      go_wp2
      go_ret
      exact ⟨0, rfl, fun _ => HF.out, HB.out⟩
    have hkx : k < xs.length := by rw [HN.out]; exact hlt
    have HXW := Lib.hid (HX.out.later HB.out)
    obtain ⟨b, o, rfl, c0, c1, c2, c3, c4, c5⟩ := HXW.out.six k hkx
    have HLT2 : Hid (b < wr.heap.size) := Lib.hid (World.block_lt_of_cell? wr _ c0)
    obtain ⟨x, hx⟩ : ∃ x, xs[k] = x := ⟨_, rfl⟩
    rw [hx] at c0 c1 c2 c3 c4 c5
    have hxo : x.ok wr := by rw [← hx]; exact HXW.out.2 _ (List.getElem_mem hkx)
    have htk : (xs.take (k + 1)).map FV.e = (xs.take k).map FV.e ++ [x.e] := by
      rw [List.take_succ_eq_append_getElem hkx, List.map_append, hx]
      rfl
    -- the entry before this one
    have hprev : k = 0 ∨ ∃ (k0 : Nat) (y : FV), k = k0 + 1 ∧ y.e.path.size ≤ 4000000 ∧ wr.cell? ⟨b, o + k0 * 6, none⟩ = some (.string y.e.path) ∧ ((xs.take k).map FV.e).getLast? = some y.e := by
      by_cases h0 : k = 0
      · exact .inl h0
      · obtain ⟨k0, rfl⟩ : ∃ k0, k = k0 + 1 := ⟨k - 1, by omega⟩
        have hk0 : k0 < xs.length := by omega
        obtain ⟨b', o', e, d0, _⟩ := HXW.out.six k0 hk0
        cases e
        refine .inr ⟨k0, xs[k0], rfl, (HXW.out.2 _ (List.getElem_mem hk0)).sp, d0, ?_⟩
        rw [List.take_succ_eq_append_getElem hk0, List.map_append, List.getLast?_append]
        rfl
    clear hx
    obtain ⟨⟨path, kind, mode, time, data, link⟩, da, dc⟩ := x
    have HTK := Lib.hid htk
    have HXO := Lib.hid hxo
    have HPR := Lib.hid hprev
    clear htk hxo hprev
    dsimp only at c0 c1 c2 c3 c4 c5
    go_upto_region 6 with fail
    refine wp_over (fun V => Hid (V.cell? ⟨wr.heap.size, 0, none⟩ = some (.string path) ∧ V.cell? ⟨wr.heap.size, 1, none⟩ = some (.int .i64 kind) ∧ V.cell? ⟨wr.heap.size, 2, none⟩ = some (.int .i64 mode) ∧ V.cell? ⟨wr.heap.size, 3, none⟩ = some (.int .i64 time) ∧ V.cell? ⟨wr.heap.size, 4, none⟩ = some (.slice da data.length dc) ∧ V.cell? ⟨wr.heap.size, 5, none⟩ = some (.string link)) ∧ Hid (Below wr.heap.size wr V) ∧ Hid (V.heap.size = wr.heap.size + 1)) ⟨Lib.hid (new_row6 (x := (⟨⟨path, kind, mode, time, data, link⟩, da, dc⟩ : FV))), Lib.hid ((Below.refl _ _).alloc (Nat.le_refl _) _), Lib.hid (by simp)⟩ ?_
    rintro W ⟨H6, HWB, HWS⟩
    obtain ⟨N, hN⟩ := ex_eq wr.heap.size
    rw [hN] at H6 HWB HWS HLT2 ⊢
    have HNW := Lib.hid hN
    clear hN
    have HXV : Hid (∀ V, Below (N + 1) W V → Below N wr V) := Lib.hid (fun V h => HWB.out.trans (h.mono (by omega)))
    have HBW : Hid (∀ V, Below (N + 1) W V → Below w.heap.size w V) := Lib.hid (fun V h => HB.out.trans ((HXV.out V h).mono (by rw [← HNW.out]; exact HB.out.size)))
    have HST : Hid (∀ V V', Below (N + 1) W V → Below V.heap.size V V' → Below (N + 1) W V') := Lib.hid (fun V V' h h' => h.trans (h'.mono (by have := h.size; have := HWS.out; omega)))
    have HV : Hid (∀ V, Below (N + 1) W V → Calls Tryz.prog 22 #[.agg #[.string path, .int .i64 kind, .int .i64 mode, .int .i64 time, .slice da data.length dc, .string link]] V (BoolTo (FE.ok ⟨path, kind, mode, time, data, link⟩) V)) := Lib.hid (fun V h => refValid20_any (⟨⟨path, kind, mode, time, data, link⟩, da, dc⟩ : FV) V (HXO.out.later (by rw [HNW.out]; exact HXV.out V h)))
    have HPA := Lib.hid (refParent_any path HXO.out.sp)
    have HDI : Hid (∀ (u : ByteArray) V, Below (N + 1) W V → Calls Tryz.prog 24 #[.slice (some ⟨b, o, none⟩) k cap, .string u] V (DirR (xs.take k) u.data.toList V)) := Lib.hid (fun u V h => refDir_any (some ⟨b, o, none⟩) k cap (xs.take k) (by rw [List.length_take]; omega) (by omega) u V ((HXW.out.later (by rw [HNW.out]; exact HXV.out V h)).take k))
    have HC6 : Hid (∀ V, Below (N + 1) W V → V.cell? ⟨N, 0, none⟩ = some (.string path) ∧ V.cell? ⟨N, 1, none⟩ = some (.int .i64 kind) ∧ V.cell? ⟨N, 2, none⟩ = some (.int .i64 mode) ∧ V.cell? ⟨N, 3, none⟩ = some (.int .i64 time) ∧ V.cell? ⟨N, 4, none⟩ = some (.slice da data.length dc) ∧ V.cell? ⟨N, 5, none⟩ = some (.string link)) := Lib.hid (fun V h => by
      have h1 : SixAt W N 0 (⟨⟨path, kind, mode, time, data, link⟩, da, dc⟩ : FV) := H6.out
      exact h1.low h (Nat.lt_succ_self N))
    have hkc : (k : Int) ≤ (cap : Int) := by omega
    obtain ⟨VD, hVD⟩ := ex_eq W.drew
    have HDR : Hid (Below (N + 1) W VD) := Lib.hid (by rw [← hVD]; exact (Below.refl _ _).drew)
    rcases HPR.out with h0 | ⟨k0, ⟨⟨pp, pk, pm, pt, pd, pl⟩, pda, pdc⟩, hk0, hps, d0, hlast⟩
    · have HK0 := Lib.hid h0
      have hz0 : ¬ 0 < k := by omega
      have HLAST : Hid (∀ x, ((xs.take k).map FV.e).getLast? = some x → cmpP x.p (FE.p ⟨path, kind, mode, time, data, link⟩) < 0) := Lib.hid (fun x hx => by rw [HK0.out] at hx; simp at hx)
      have HCC := HC6
      clear h0
      refine Kit.wp_region_hplan (fun V => V.cell? ⟨N, 0, none⟩ = some (.string path) ∧ V.cell? ⟨N, 1, none⟩ = some (.int .i64 kind) ∧ V.cell? ⟨N, 2, none⟩ = some (.int .i64 mode) ∧ V.cell? ⟨N, 3, none⟩ = some (.int .i64 time) ∧ V.cell? ⟨N, 4, none⟩ = some (.slice da data.length dc) ∧ V.cell? ⟨N, 5, none⟩ = some (.string link)) [(true, 0), (false, 1), (true, 2), (true, 3), (true, 4), (true, 5), (true, 6), (true, 7), (true, 8), (true, 9), (true, 10), (true, 11), (true, 12), (true, 13), (true, 14), (false, 15), (true, 16), (true, 17), (true, 18)] (by kernel_rfl) (by kernel_rfl) (by kernel_rfl) (by kernel_rfl) (by rw [hVD]; exact HCC.out _ HDR.out) ?_
      rw [hVD]
      clear hVD
      iterate 1 (refine Kit.hplan_head (by rfl) (by first | exact .inr ⟨by rfl, rfl⟩ | exact .inl ⟨by rfl, fun w' hS => by (dsimp only at hS); go_simp; (try with_reducible rfl)⟩) ?_; (try simp only [Act.put, List.setIfInBounds_toArray, List.set_cons_zero, List.set_cons_succ]))
      refine Kit.hplan_op (by rfl) (by rfl) fun K hK => ?_
      go_simp
      go_at_call 22
      refine (HV.out _ HDR.out).mono ?_
      rintro e w2 ⟨vb, rfl, hv, h2⟩
      have HVB := Lib.hid hv
      have H1 : Hid (Below (N + 1) W w2) := Lib.hid (HST.out _ _ HDR.out h2)
      clear h2 hv
      refine hK _ _ (HCC.out _ H1.out) ?_
      clear hK K
      cases vb
      · iterate 13 (refine Kit.hplan_head (by rfl) (by first | exact .inr ⟨by rfl, rfl⟩ | exact .inl ⟨by rfl, fun w' hS => by (dsimp only at hS); go_simp; (try with_reducible rfl)⟩) ?_; (try simp only [Act.put, List.setIfInBounds_toArray, List.set_cons_zero, List.set_cons_succ]))
        refine Kit.hplan_skip (by rfl) (by rfl) ?_
        (try simp only [Act.put, List.setIfInBounds_toArray, List.set_cons_zero, List.set_cons_succ])
        iterate 3 (refine Kit.hplan_head (by rfl) (by first | exact .inr ⟨by rfl, rfl⟩ | exact .inl ⟨by rfl, fun w' hS => by (dsimp only at hS); go_simp; (try with_reducible rfl)⟩) ?_; (try simp only [Act.put, List.setIfInBounds_toArray, List.set_cons_zero, List.set_cons_succ]))
        refine Kit.hplan_done ?_
        (try simp only [Act.put, List.setIfInBounds_toArray, List.set_cons_zero, List.set_cons_succ])
        (try go_wp2_with fail)
        go_ret
        exact ⟨1, rfl, (fun h => by cases h), HBW.out _ H1.out⟩
      · have HXOK := Lib.hid (HVB.out rfl)
        iterate 13 (refine Kit.hplan_head (by rfl) (by first | exact .inr ⟨by rfl, rfl⟩ | exact .inl ⟨by rfl, fun w' hS => by (dsimp only at hS); go_simp; (try with_reducible rfl)⟩) ?_; (try simp only [Act.put, List.setIfInBounds_toArray, List.set_cons_zero, List.set_cons_succ]))
        refine Kit.hplan_skip (by rfl) (by rfl) ?_
        (try simp only [Act.put, List.setIfInBounds_toArray, List.set_cons_zero, List.set_cons_succ])
        iterate 3 (refine Kit.hplan_head (by rfl) (by first | exact .inr ⟨by rfl, rfl⟩ | exact .inl ⟨by rfl, fun w' hS => by (dsimp only at hS); go_simp; (try with_reducible rfl)⟩) ?_; (try simp only [Act.put, List.setIfInBounds_toArray, List.set_cons_zero, List.set_cons_succ]))
        refine Kit.hplan_done ?_
        (try simp only [Act.put, List.setIfInBounds_toArray, List.set_cons_zero, List.set_cons_succ])
        (try go_wp2_with fail)
        refine wp_over (fun V => Hid (Below (N + 1) W V)) H1 ?_
        rintro V8 H8
        obtain ⟨VD, hVD⟩ := ex_eq V8.drew
        have HDR : Hid (Below (N + 1) W VD) := Lib.hid (by rw [← hVD]; exact H8.out.drew)
        refine Kit.wp_region_hplan (fun V => V.cell? ⟨N, 0, none⟩ = some (.string path) ∧ V.cell? ⟨N, 1, none⟩ = some (.int .i64 kind) ∧ V.cell? ⟨N, 2, none⟩ = some (.int .i64 mode) ∧ V.cell? ⟨N, 3, none⟩ = some (.int .i64 time) ∧ V.cell? ⟨N, 4, none⟩ = some (.slice da data.length dc) ∧ V.cell? ⟨N, 5, none⟩ = some (.string link)) [(true, 0), (true, 1), (true, 2), (true, 3), (true, 4), (false, 5), (false, 6), (true, 7)] (by kernel_rfl) (by kernel_rfl) (by kernel_rfl) (by kernel_rfl) (by rw [hVD]; exact HCC.out _ HDR.out) ?_
        rw [hVD]
        clear hVD
        iterate 5 (refine Kit.hplan_head (by rfl) (by first | exact .inr ⟨by rfl, rfl⟩ | exact .inl ⟨by rfl, fun w' hS => by (dsimp only at hS); go_simp; (try with_reducible rfl)⟩) ?_; (try simp only [Act.put, List.setIfInBounds_toArray, List.set_cons_zero, List.set_cons_succ]))
        refine Kit.hplan_op (by rfl) (by rfl) fun K hK => ?_
        go_simp
        go_at_call 25
        refine (HPA.out _).mono ?_
        rintro e w4 ⟨u, rfl, hu, h2⟩
        have HUU := Lib.hid hu
        have H4 : Hid (Below (N + 1) W w4) := Lib.hid (HST.out _ _ HDR.out h2)
        clear h2 hu
        refine hK _ _ (HCC.out _ H4.out) ?_
        clear hK K
        refine Kit.hplan_op (by rfl) (by rfl) fun K hK => ?_
        go_simp
        go_at_call 24
        refine (HDI.out u _ H4.out).mono ?_
        rintro e w5 ⟨r, rfl, hr, h2⟩
        have HRR := Lib.hid hr
        have H5 : Hid (Below (N + 1) W w5) := Lib.hid (HST.out _ _ H4.out h2)
        clear h2 hr
        refine hK _ _ (HCC.out _ H5.out) ?_
        clear hK K
        iterate 1 (refine Kit.hplan_head (by rfl) (by first | exact .inr ⟨by rfl, rfl⟩ | exact .inl ⟨by rfl, fun w' hS => by (dsimp only at hS); go_simp; (try with_reducible rfl)⟩) ?_; (try simp only [Act.put, List.setIfInBounds_toArray, List.set_cons_zero, List.set_cons_succ]))
        refine Kit.hplan_done ?_
        (try simp only [Act.put, List.setIfInBounds_toArray, List.set_cons_zero, List.set_cons_succ])
        by_cases hr0 : r = 0
        rotate_left
        · have hq0 : (r != 0) = true := by rw [bne_iff_ne]; exact hr0
          have HR0 := Lib.hid hr0
          clear hr0
          go_wp2_with fail
          go_ret
          exact ⟨r, rfl, (fun h => absurd h HR0.out), HBW.out _ H5.out⟩
        · have HR0 := Lib.hid (HRR.out hr0)
          have hq0 : (r != 0) = false := by rw [hr0]; rfl
          clear hr0
          go_wp2_with fail
          go_roundw
          case rel =>
            refine ⟨k + 1, by omega, by go_num, HBW.out _ H5.out, ?_⟩
            rw [HTK.out]
            refine HOK.out.snoc HXOK.out (by rw [List.length_map, List.length_take]; omega) HLAST.out (fun hp => ?_)
            rcases HR0.out with h | ⟨j, hj, h1, h2⟩
            · exact absurd (HUU.out.symm.trans h) hp
            · refine ⟨j, by rw [List.length_map]; exact hj, ?_, ?_⟩
              · rw [List.getElem_map]; exact h1.trans HUU.out
              · rw [List.getElem_map]; exact h2
          case measure => simp [intOf]; omega
    · have HK0 := Lib.hid hk0
      have hz0 : 0 < k := by omega
      have hki : (k : Int) - 1 = (k0 : Int) := by omega
      have hkn : (k0 : Int) < (n : Int) := by omega
      have hkw : IntKind.i64.wrap (k0 : Int) = (k0 : Int) := IntWalk.i64_in _ (by omega)
      have HD0 := Lib.hid d0
      have HCC : Hid (∀ V, Below (N + 1) W V → V.cell? ⟨N, 0, none⟩ = some (.string path) ∧ V.cell? ⟨N, 1, none⟩ = some (.int .i64 kind) ∧ V.cell? ⟨N, 2, none⟩ = some (.int .i64 mode) ∧ V.cell? ⟨N, 3, none⟩ = some (.int .i64 time) ∧ V.cell? ⟨N, 4, none⟩ = some (.slice da data.length dc) ∧ V.cell? ⟨N, 5, none⟩ = some (.string link) ∧ V.cell? ⟨b, o + k0 * 6, none⟩ = some (.string pp)) := Lib.hid (fun V h => by
        obtain ⟨a0, a1, a2, a3, a4, a5⟩ := HC6.out V h
        exact ⟨a0, a1, a2, a3, a4, a5, ((HXV.out V h).cell (p := ⟨b, o + k0 * 6, none⟩) HLT2.out).trans HD0.out⟩)
      obtain ⟨R, hR⟩ : ∃ R, cmpP pp.data.toList path.data.toList = R := ⟨_, rfl⟩
      have HCM : Hid (∀ V, Calls Tryz.prog 23 #[.string pp, .string path] V fun e w' => e = .returned (.int .i64 R) ∧ Below V.heap.size V w') := Lib.hid (fun V => by rw [← hR]; exact refCompare_any pp path hps HXO.out.sp V)
      have HR := Lib.hid hR
      have HLA := Lib.hid hlast
      clear hk0 d0 hlast hR hps
      by_cases hr : 0 ≤ R
      · have hq2 : decide (0 ≤ R) = true := decide_eq_true hr
        refine Kit.wp_region_hplan (fun V => V.cell? ⟨N, 0, none⟩ = some (.string path) ∧ V.cell? ⟨N, 1, none⟩ = some (.int .i64 kind) ∧ V.cell? ⟨N, 2, none⟩ = some (.int .i64 mode) ∧ V.cell? ⟨N, 3, none⟩ = some (.int .i64 time) ∧ V.cell? ⟨N, 4, none⟩ = some (.slice da data.length dc) ∧ V.cell? ⟨N, 5, none⟩ = some (.string link) ∧ V.cell? ⟨b, o + k0 * 6, none⟩ = some (.string pp)) [(true, 0), (false, 1), (true, 2), (true, 3), (true, 4), (true, 5), (true, 6), (true, 7), (true, 8), (true, 9), (true, 10), (true, 11), (true, 12), (true, 13), (true, 14), (false, 15), (true, 16), (true, 17), (true, 18)] (by kernel_rfl) (by kernel_rfl) (by kernel_rfl) (by kernel_rfl) (by rw [hVD]; exact HCC.out _ HDR.out) ?_
        rw [hVD]
        clear hVD
        iterate 1 (refine Kit.hplan_head (by rfl) (by first | exact .inr ⟨by rfl, rfl⟩ | exact .inl ⟨by rfl, fun w' hS => by (dsimp only at hS); go_simp; (try with_reducible rfl)⟩) ?_; (try simp only [Act.put, List.setIfInBounds_toArray, List.set_cons_zero, List.set_cons_succ]))
        refine Kit.hplan_op (by rfl) (by rfl) fun K hK => ?_
        go_simp
        go_at_call 22
        refine (HV.out _ HDR.out).mono ?_
        rintro e w2 ⟨vb, rfl, hv, h2⟩
        have HVB := Lib.hid hv
        have H1 : Hid (Below (N + 1) W w2) := Lib.hid (HST.out _ _ HDR.out h2)
        clear h2 hv
        refine hK _ _ (HCC.out _ H1.out) ?_
        clear hK K
        cases vb
        · iterate 13 (refine Kit.hplan_head (by rfl) (by first | exact .inr ⟨by rfl, rfl⟩ | exact .inl ⟨by rfl, fun w' hS => by (dsimp only at hS); go_simp; (try with_reducible rfl)⟩) ?_; (try simp only [Act.put, List.setIfInBounds_toArray, List.set_cons_zero, List.set_cons_succ]))
          refine Kit.hplan_skip (by rfl) (by rfl) ?_
          (try simp only [Act.put, List.setIfInBounds_toArray, List.set_cons_zero, List.set_cons_succ])
          iterate 3 (refine Kit.hplan_head (by rfl) (by first | exact .inr ⟨by rfl, rfl⟩ | exact .inl ⟨by rfl, fun w' hS => by (dsimp only at hS); go_simp; (try with_reducible rfl)⟩) ?_; (try simp only [Act.put, List.setIfInBounds_toArray, List.set_cons_zero, List.set_cons_succ]))
          refine Kit.hplan_done ?_
          (try simp only [Act.put, List.setIfInBounds_toArray, List.set_cons_zero, List.set_cons_succ])
          (try go_wp2_with fail)
          go_ret
          exact ⟨1, rfl, (fun h => by cases h), HBW.out _ H1.out⟩
        · have HXOK := Lib.hid (HVB.out rfl)
          iterate 13 (refine Kit.hplan_head (by rfl) (by first | exact .inr ⟨by rfl, rfl⟩ | exact .inl ⟨by rfl, fun w' hS => by (dsimp only at hS); go_simp; (try with_reducible rfl)⟩) ?_; (try simp only [Act.put, List.setIfInBounds_toArray, List.set_cons_zero, List.set_cons_succ]))
          refine Kit.hplan_op (by rfl) (by rfl) fun K hK => ?_
          go_simp
          go_at_call 23
          refine (HCM.out _).mono ?_
          rintro e w3 ⟨rfl, h2⟩
          have H2 : Hid (Below (N + 1) W w3) := Lib.hid (HST.out _ _ H1.out h2)
          clear h2
          refine hK _ _ (HCC.out _ H2.out) ?_
          clear hK K
          iterate 3 (refine Kit.hplan_head (by rfl) (by first | exact .inr ⟨by rfl, rfl⟩ | exact .inl ⟨by rfl, fun w' hS => by (dsimp only at hS); go_simp; (try with_reducible rfl)⟩) ?_; (try simp only [Act.put, List.setIfInBounds_toArray, List.set_cons_zero, List.set_cons_succ]))
          refine Kit.hplan_done ?_
          (try simp only [Act.put, List.setIfInBounds_toArray, List.set_cons_zero, List.set_cons_succ])
          (try go_wp2_with fail)
          go_ret
          exact ⟨1, rfl, (fun h => by cases h), HBW.out _ H2.out⟩
      · have hq2 : decide (0 ≤ R) = false := decide_eq_false hr
        have HLAST : Hid (∀ x, ((xs.take k).map FV.e).getLast? = some x → cmpP x.p (FE.p ⟨path, kind, mode, time, data, link⟩) < 0) := Lib.hid (fun x hx => by
          rw [HLA.out] at hx
          cases hx
          show cmpP pp.data.toList path.data.toList < 0
          rw [HR.out]
          omega)
        refine Kit.wp_region_hplan (fun V => V.cell? ⟨N, 0, none⟩ = some (.string path) ∧ V.cell? ⟨N, 1, none⟩ = some (.int .i64 kind) ∧ V.cell? ⟨N, 2, none⟩ = some (.int .i64 mode) ∧ V.cell? ⟨N, 3, none⟩ = some (.int .i64 time) ∧ V.cell? ⟨N, 4, none⟩ = some (.slice da data.length dc) ∧ V.cell? ⟨N, 5, none⟩ = some (.string link) ∧ V.cell? ⟨b, o + k0 * 6, none⟩ = some (.string pp)) [(true, 0), (false, 1), (true, 2), (true, 3), (true, 4), (true, 5), (true, 6), (true, 7), (true, 8), (true, 9), (true, 10), (true, 11), (true, 12), (true, 13), (true, 14), (false, 15), (true, 16), (true, 17), (true, 18)] (by kernel_rfl) (by kernel_rfl) (by kernel_rfl) (by kernel_rfl) (by rw [hVD]; exact HCC.out _ HDR.out) ?_
        rw [hVD]
        clear hVD
        iterate 1 (refine Kit.hplan_head (by rfl) (by first | exact .inr ⟨by rfl, rfl⟩ | exact .inl ⟨by rfl, fun w' hS => by (dsimp only at hS); go_simp; (try with_reducible rfl)⟩) ?_; (try simp only [Act.put, List.setIfInBounds_toArray, List.set_cons_zero, List.set_cons_succ]))
        refine Kit.hplan_op (by rfl) (by rfl) fun K hK => ?_
        go_simp
        go_at_call 22
        refine (HV.out _ HDR.out).mono ?_
        rintro e w2 ⟨vb, rfl, hv, h2⟩
        have HVB := Lib.hid hv
        have H1 : Hid (Below (N + 1) W w2) := Lib.hid (HST.out _ _ HDR.out h2)
        clear h2 hv
        refine hK _ _ (HCC.out _ H1.out) ?_
        clear hK K
        cases vb
        · iterate 13 (refine Kit.hplan_head (by rfl) (by first | exact .inr ⟨by rfl, rfl⟩ | exact .inl ⟨by rfl, fun w' hS => by (dsimp only at hS); go_simp; (try with_reducible rfl)⟩) ?_; (try simp only [Act.put, List.setIfInBounds_toArray, List.set_cons_zero, List.set_cons_succ]))
          refine Kit.hplan_skip (by rfl) (by rfl) ?_
          (try simp only [Act.put, List.setIfInBounds_toArray, List.set_cons_zero, List.set_cons_succ])
          iterate 3 (refine Kit.hplan_head (by rfl) (by first | exact .inr ⟨by rfl, rfl⟩ | exact .inl ⟨by rfl, fun w' hS => by (dsimp only at hS); go_simp; (try with_reducible rfl)⟩) ?_; (try simp only [Act.put, List.setIfInBounds_toArray, List.set_cons_zero, List.set_cons_succ]))
          refine Kit.hplan_done ?_
          (try simp only [Act.put, List.setIfInBounds_toArray, List.set_cons_zero, List.set_cons_succ])
          (try go_wp2_with fail)
          go_ret
          exact ⟨1, rfl, (fun h => by cases h), HBW.out _ H1.out⟩
        · have HXOK := Lib.hid (HVB.out rfl)
          iterate 13 (refine Kit.hplan_head (by rfl) (by first | exact .inr ⟨by rfl, rfl⟩ | exact .inl ⟨by rfl, fun w' hS => by (dsimp only at hS); go_simp; (try with_reducible rfl)⟩) ?_; (try simp only [Act.put, List.setIfInBounds_toArray, List.set_cons_zero, List.set_cons_succ]))
          refine Kit.hplan_op (by rfl) (by rfl) fun K hK => ?_
          go_simp
          go_at_call 23
          refine (HCM.out _).mono ?_
          rintro e w3 ⟨rfl, h2⟩
          have H2 : Hid (Below (N + 1) W w3) := Lib.hid (HST.out _ _ H1.out h2)
          clear h2
          refine hK _ _ (HCC.out _ H2.out) ?_
          clear hK K
          iterate 3 (refine Kit.hplan_head (by rfl) (by first | exact .inr ⟨by rfl, rfl⟩ | exact .inl ⟨by rfl, fun w' hS => by (dsimp only at hS); go_simp; (try with_reducible rfl)⟩) ?_; (try simp only [Act.put, List.setIfInBounds_toArray, List.set_cons_zero, List.set_cons_succ]))
          refine Kit.hplan_done ?_
          (try simp only [Act.put, List.setIfInBounds_toArray, List.set_cons_zero, List.set_cons_succ])
          (try go_wp2_with fail)
          refine wp_over (fun V => Hid (Below (N + 1) W V)) H2 ?_
          rintro V8 H8
          obtain ⟨VD, hVD⟩ := ex_eq V8.drew
          have HDR : Hid (Below (N + 1) W VD) := Lib.hid (by rw [← hVD]; exact H8.out.drew)
          refine Kit.wp_region_hplan (fun V => V.cell? ⟨N, 0, none⟩ = some (.string path) ∧ V.cell? ⟨N, 1, none⟩ = some (.int .i64 kind) ∧ V.cell? ⟨N, 2, none⟩ = some (.int .i64 mode) ∧ V.cell? ⟨N, 3, none⟩ = some (.int .i64 time) ∧ V.cell? ⟨N, 4, none⟩ = some (.slice da data.length dc) ∧ V.cell? ⟨N, 5, none⟩ = some (.string link)) [(true, 0), (true, 1), (true, 2), (true, 3), (true, 4), (false, 5), (false, 6), (true, 7)] (by kernel_rfl) (by kernel_rfl) (by kernel_rfl) (by kernel_rfl) (by rw [hVD]; exact HC6.out _ HDR.out) ?_
          rw [hVD]
          clear hVD
          iterate 5 (refine Kit.hplan_head (by rfl) (by first | exact .inr ⟨by rfl, rfl⟩ | exact .inl ⟨by rfl, fun w' hS => by (dsimp only at hS); go_simp; (try with_reducible rfl)⟩) ?_; (try simp only [Act.put, List.setIfInBounds_toArray, List.set_cons_zero, List.set_cons_succ]))
          refine Kit.hplan_op (by rfl) (by rfl) fun K hK => ?_
          go_simp
          go_at_call 25
          refine (HPA.out _).mono ?_
          rintro e w4 ⟨u, rfl, hu, h2⟩
          have HUU := Lib.hid hu
          have H4 : Hid (Below (N + 1) W w4) := Lib.hid (HST.out _ _ HDR.out h2)
          clear h2 hu
          refine hK _ _ (HC6.out _ H4.out) ?_
          clear hK K
          refine Kit.hplan_op (by rfl) (by rfl) fun K hK => ?_
          go_simp
          go_at_call 24
          refine (HDI.out u _ H4.out).mono ?_
          rintro e w5 ⟨r, rfl, hr, h2⟩
          have HRR := Lib.hid hr
          have H5 : Hid (Below (N + 1) W w5) := Lib.hid (HST.out _ _ H4.out h2)
          clear h2 hr
          refine hK _ _ (HC6.out _ H5.out) ?_
          clear hK K
          iterate 1 (refine Kit.hplan_head (by rfl) (by first | exact .inr ⟨by rfl, rfl⟩ | exact .inl ⟨by rfl, fun w' hS => by (dsimp only at hS); go_simp; (try with_reducible rfl)⟩) ?_; (try simp only [Act.put, List.setIfInBounds_toArray, List.set_cons_zero, List.set_cons_succ]))
          refine Kit.hplan_done ?_
          (try simp only [Act.put, List.setIfInBounds_toArray, List.set_cons_zero, List.set_cons_succ])
          by_cases hr0 : r = 0
          rotate_left
          · have hq0 : (r != 0) = true := by rw [bne_iff_ne]; exact hr0
            have HR0 := Lib.hid hr0
            clear hr0
            go_wp2_with fail
            go_ret
            exact ⟨r, rfl, (fun h => absurd h HR0.out), HBW.out _ H5.out⟩
          · have HR0 := Lib.hid (HRR.out hr0)
            have hq0 : (r != 0) = false := by rw [hr0]; rfl
            clear hr0
            go_wp2_with fail
            go_roundw
            case rel =>
              refine ⟨k + 1, by omega, by go_num, HBW.out _ H5.out, ?_⟩
              rw [HTK.out]
              refine HOK.out.snoc HXOK.out (by rw [List.length_map, List.length_take]; omega) HLAST.out (fun hp => ?_)
              rcases HR0.out with h | ⟨j, hj, h1, h2⟩
              · exact absurd (HUU.out.symm.trans h) hp
              · refine ⟨j, by rw [List.length_map]; exact hj, ?_, ?_⟩
                · rw [List.getElem_map]; exact h1.trans HUU.out
                · rw [List.getElem_map]; exact h2
            case measure => simp [intOf]; omega
end Go.Proofs.YtmcbnhkcjhlbaaaGreatDoor.Tp
