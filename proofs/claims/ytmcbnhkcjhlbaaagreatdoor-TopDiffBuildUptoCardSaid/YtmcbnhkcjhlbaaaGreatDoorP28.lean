/- Texts Tng, Tnh, Tni of the proof, each as a section; no premises beyond those that each theorem states. -/
import Derived.Test.YtmcbnhkcjhlbaaaGreatDoorP12
import Derived.Test.YtmcbnhkcjhlbaaaGreatDoorP27
set_option linter.unusedVariables false
set_option linter.unusedSimpArgs false
section
namespace Go.Proofs.YtmcbnhkcjhlbaaaGreatDoor.Tp
open Go.RowKit
open Kit (Chg)
open Go.Maps
open Go.WideMaps
open Go.Proofs.YtmcbnhkcjhlbaaaGreatDoor.One

theorem look_none (u : ByteArray) (hu : u.size ≤ maxLen) (W : World) : (Instr.lookup 83 (.map none) (.string u) false).run Tryz.prog W = .ok (.int .i64 0) W := by
  have h := Maps.look_nil (P := Tryz.prog) (w := W) false strK Tryz.underlying83 (z := .int .i64 0) (by kernel_rfl) (keyS hu)
  simpa using h
open Classical in
theorem MapR.look_all {V : World} {b n : Nat} {rs : List RefP} (h : MapR V b n rs) (r : RefP) (hr : r.ok) : ∃ KB : Bool, (∀ X, Below V.heap.size V X → (Instr.lookup 91 (.map (some b)) (.agg #[.string r.name, .int .i64 0, .int .i64 (r.size : Int)]) false).run Tryz.prog X = .ok (.bool KB) X) ∧ (KB = true ↔ r ∈ rs) :=
  ⟨_, fun X hX => (h.later hX).look r hr, @decide_eq_true_iff _ _⟩
set_option maxRecDepth 100000 in
set_option maxHeartbeats 4000000 in
theorem add_any (g bi bk N0 n : Nat) (K : KV) (hK : K.ok) (c : Ck.Chk.Cut) (blv : Value) (bl : List BV) (a : Option Addr) (cap L : Nat) (xs : List Nat) (hL : xs.length = L) (hcap : L ≤ cap) (hnil : a = none → cap = 0) (hl : L ≤ 32768) (hbl : bl.length ≤ 100000) (hn : n ≤ 100000) (w : World) (hB : BytesAt w a xs) (hab : ∀ ad, a = some ad → ad.block ≠ bk) (hS : BS w g bi bk N0 n K c blv bl) (hT : Top w) : Calls Tryz.prog 75 #[.pointer (some ⟨g, 0, none⟩), .slice a L cap] w fun e w' => ∃ blv' bl', e = .returned (.tuple #[.agg (refOf K xs).row, .int .i64 0]) ∧ AddP K xs bl bl' ∧ BS w' g bi bk N0 (n + 1) K c blv' bl' ∧ Bt g bk blv bl blv' bl' w w' := by
  have HK := Lib.hid hK
  have HL := Lib.hid hL
  have HNIL := Lib.hid hnil
  have HBY := Lib.hid hB
  have HAB := Lib.hid hab
  have HST := Lib.hid hS
  have HT := Lib.hid hT
  have HNM := Lib.hid (fun V (h : Below w.heap.size w V) => sealName_ok K hK a cap L xs hL hcap hnil hl V (hB.later h) (hT.later h))
  unfold KV.row at HNM
  clear hK hL hnil hB hab hS hT
  go_enter Tryz.func75, Tryz.ntmps75
  go_upto_region 3 with fail
  refine wp_over (fun V => Hid (V.heap[w.heap.size]? = some (.cells (RefP.row refZ) 45 (0, 0))) ∧ Hid (V.heap[w.heap.size + 1]? = some (.cells (RefP.row ⟨ByteArray.empty, L⟩) 45 (0, 0))) ∧ Hid (Below w.heap.size w V) ∧ Hid (V.heap.size = w.heap.size + 2)) ⟨Lib.hid two_rows1, Lib.hid two_rows2, Lib.hid two_below, Lib.hid two_size⟩ ?_
  rintro W ⟨HA0, HA1, HB, HWS⟩
  obtain ⟨N, hN⟩ := ex_eq w.heap.size
  rw [hN] at HA0 HA1 HWS ⊢
  have HN := Lib.hid hN
  clear hN
  have HSW := Lib.hid (HST.out.later HB.out)
  have HGN : Hid (g < N ∧ bk < N ∧ N0 ≤ N ∧ g < N0) := Lib.hid (by have := HST.out.lt; have := HN.out; omega)
  obtain ⟨g0, g1, g2, g3, g4, g5, g6, g7, g8, g9, g10, g11, g12, g13⟩ := row14B HSW.out.row
  obtain ⟨r0, r1, r2⟩ := row3R HA1.out
  dsimp only at r0 r1 r2
  have rf : W.frozen? ⟨N + 1, 0, none⟩ = false := frozen_of_row _ _ _ _ _ HA1.out
  have HNW := Lib.hid (HNM.out W HB.out)
  go_wp2_with fail
  refine HNW.out.mono ?_
  rintro e W1 ⟨u, rfl, hu, hus, hb1⟩
  have HU : Hid (u = (refOf K xs).name) := Lib.hid (by
    show u = strB (nameB K xs)
    rw [← hu, strB_nb])
  have HUS := Lib.hid hus
  have HB1 : Hid (Below w.heap.size w W1) := Lib.hid (HB.out.trans (hb1.mono HB.out.size))
  have HA01 := Lib.hid ((hb1.block N (by have := HWS.out; omega)).trans HA0.out)
  have HA11 := Lib.hid ((hb1.block (N + 1) (by have := HWS.out; omega)).trans HA1.out)
  have HS1 := Lib.hid (HSW.out.later hb1)
  have HZ1 : Hid (N + 2 ≤ W1.heap.size) := Lib.hid (by have := hb1.size; have := HWS.out; omega)
  clear hu hus hb1 g0 g1 g2 g3 g4 g5 g6 g7 g8 g9 g10 g11 g12 g13 r0 r1 r2 rf
  obtain ⟨r0, r1, r2⟩ := row3R HA11.out
  dsimp only at r0 r1 r2
  have rf : W1.frozen? ⟨N + 1, 0, none⟩ = false := frozen_of_row _ _ _ _ _ HA11.out
  go_upto_region 4 with fail
  clear r0 r1 r2 rf
  refine wp_over (fun V => Hid (V.heap[N]? = some (.cells (RefP.row refZ) 45 (0, 0))) ∧ Hid (V.heap[N + 1]? = some (.cells (RefP.row ⟨u, L⟩) 45 (0, 0))) ∧ Hid (N + 2 ≤ V.heap.size) ∧ Hid (Below w.heap.size w V)) ⟨Lib.hid ((Below.heap_setCell _ _ _ _ (by simp)).trans HA01.out), Lib.hid (heap_setCell_same W1 (N + 1) 0 _ _ _ HA11.out), Lib.hid (by simp [World.setCell]; exact HZ1.out), Lib.hid (HB1.out.setCell (by have := HN.out; show w.heap.size ≤ N + 1; omega) _)⟩ ?_
  rintro V ⟨HR0, HR1, HZV, HBV⟩
  have HSV := Lib.hid (HST.out.later HBV.out)
  clear HA0 HA1 HA01 HA11 HS1 HSW
  have HC4 : Hid (∀ X, Below V.heap.size V X → X.cell? ⟨g, 10, none⟩ = some (.map none) ∧ X.cell? ⟨N + 1, 0, none⟩ = some (.string u)) := Lib.hid (fun X h => ⟨(row14B ((h.block g (by have := HGN.out; have := HZV.out; omega)).trans HSV.out.row)).2.2.2.2.2.2.2.2.2.2.1, (row3R ((h.block (N + 1) (by have := HZV.out; omega)).trans HR1.out)).1⟩)
  have HDR : Hid (Below V.heap.size V V.drew) := Lib.hid (Below.refl _ _).drew
  have hln := fun X => look_none u (by have := HUS.out; unfold maxLen; omega) X
  obtain ⟨VD, hVD⟩ := ex_eq V.drew
  rw [hVD] at HDR
  refine Kit.wp_region_hplan (fun V => V.cell? ⟨g, 10, none⟩ = some (.map none) ∧ V.cell? ⟨N + 1, 0, none⟩ = some (.string u)) [(true, 0), (true, 1), (true, 2), (true, 3), (true, 4), (true, 5), (true, 6), (true, 7)] (by kernel_rfl) (by kernel_rfl) (by kernel_rfl) (by kernel_rfl) (by rw [hVD]; exact HC4.out _ HDR.out) ?_
  rw [hVD]
  clear hVD
  iterate 8 (refine Kit.hplan_head (by rfl) (by first | exact .inr ⟨by rfl, rfl⟩ | exact .inl ⟨by rfl, fun w' hS => by (dsimp only at hS); go_simp; (try with_reducible rfl)⟩) ?_; (try simp only [Act.put, List.setIfInBounds_toArray, List.set_cons_zero, List.set_cons_succ]))
  refine Kit.hplan_done ?_
  (try simp only [Act.put, List.setIfInBounds_toArray, List.set_cons_zero, List.set_cons_succ])
  (try go_wp2_with fail)
  go_upto_region 10 with fail
  have HRE : Hid ((⟨u, L⟩ : RefP) = refOf K xs) := Lib.hid (by rw [HU.out]; show (⟨(refOf K xs).name, L⟩ : RefP) = refOf K xs; rw [← HL.out]; rfl)
  have HROK : Hid ((⟨u, L⟩ : RefP).ok) := Lib.hid ⟨HUS.out, hl⟩
  have HD1 : Hid (Below V.heap.size V VD) := HDR
  obtain ⟨KB, hkr, hkm⟩ := HSV.out.known.look_all ⟨u, L⟩ HROK.out
  dsimp only at hkr
  have HLKN := Lib.hid hkr
  have HKB : Hid (KB = true ↔ refOf K xs ∈ bl.map BV.r) := Lib.hid (by rw [← HRE.out]; exact hkm)
  clear hkr hkm
  have HC10 : Hid (∀ X, Below V.heap.size V X → X.cell? ⟨g, 13, none⟩ = some (.map (some bk)) ∧ (X.cell? ⟨N + 1, 0, none⟩ = some (.string u) ∧ X.cell? ⟨N + 1, 1, none⟩ = some (.int .i64 0) ∧ X.cell? ⟨N + 1, 2, none⟩ = some (.int .i64 (L : Int))) ∧ (Instr.lookup 91 (.map (some bk)) (.agg #[.string u, .int .i64 0, .int .i64 (L : Int)]) false).run Tryz.prog X = .ok (.bool KB) X) := Lib.hid (fun X h => ⟨(row14B ((h.block g (by have := HGN.out; have := HZV.out; omega)).trans HSV.out.row)).2.2.2.2.2.2.2.2.2.2.2.2.2, row3R (r := ⟨u, L⟩) ((h.block (N + 1) (by have := HZV.out; omega)).trans HR1.out), HLKN.out X h⟩)
  have HDR2 : Hid (Below V.heap.size V VD.drew) := Lib.hid HD1.out.drew
  obtain ⟨VE, hVE⟩ := ex_eq VD.drew
  rw [hVE] at HDR2
  refine Kit.wp_region_hplan (fun V => V.cell? ⟨g, 13, none⟩ = some (.map (some bk)) ∧ (V.cell? ⟨N + 1, 0, none⟩ = some (.string u) ∧ V.cell? ⟨N + 1, 1, none⟩ = some (.int .i64 0) ∧ V.cell? ⟨N + 1, 2, none⟩ = some (.int .i64 (L : Int))) ∧ (Instr.lookup 91 (.map (some bk)) (.agg #[.string u, .int .i64 0, .int .i64 (L : Int)]) false).run Tryz.prog V = .ok (.bool KB) V) [(true, 0), (true, 1), (true, 2), (true, 3), (true, 4), (true, 5), (true, 6)] (by kernel_rfl) (by kernel_rfl) (by kernel_rfl) (by kernel_rfl) (by rw [hVE]; exact HC10.out _ HDR2.out) ?_
  rw [hVE]
  clear hVE
  iterate 7 (refine Kit.hplan_head (by rfl) (by first | exact .inr ⟨by rfl, rfl⟩ | exact .inl ⟨by rfl, fun w' hS => by (dsimp only at hS); go_simp; (try with_reducible rfl)⟩) ?_; (try simp only [Act.put, List.setIfInBounds_toArray, List.set_cons_zero, List.set_cons_succ]))
  refine Kit.hplan_done ?_
  (try simp only [Act.put, List.setIfInBounds_toArray, List.set_cons_zero, List.set_cons_succ])
  have HRA : Hid (∀ X, Below V.heap.size V X → X.heap[N]? = some (.cells (RefP.row refZ) 45 (0, 0)) ∧ X.heap[N + 1]? = some (.cells (RefP.row ⟨u, L⟩) 45 (0, 0))) := Lib.hid (fun X h => ⟨(h.block N (by have := HZV.out; omega)).trans HR0.out, (h.block (N + 1) (by have := HZV.out; omega)).trans HR1.out⟩)
  cases KB with
  | true =>
    obtain ⟨r0, r1, r2⟩ := row3R (r := ⟨u, L⟩) (HRA.out VE HDR2.out).2
    dsimp only at r0 r1 r2
    obtain ⟨z0, z1, z2⟩ := row3R (HRA.out VE HDR2.out).1
    dsimp only [refZ] at z0 z1 z2
    have hNE : N ≠ N + 1 := by omega
    have rf0 : VE.frozen? ⟨N, 0, none⟩ = false := frozen_of_row _ _ _ _ _ (HRA.out VE HDR2.out).1
    have rf1 : VE.frozen? ⟨N, 1, none⟩ = false := frozen_of_row _ _ _ _ _ (HRA.out VE HDR2.out).1
    have rf2 : VE.frozen? ⟨N, 2, none⟩ = false := frozen_of_row _ _ _ _ _ (HRA.out VE HDR2.out).1
    (try go_wp2_with fail)
    refine bodyPost_ret (results_cell_row_tmp (p := 4) (u := 5) rfl _ _ N 45 #[.string u, .int .i64 0, .int .i64 (L : Int)] (0, 0) _ (by rfl) (putL_full (cur := [.string refZ.name, .int .i64 0, .int .i64 (refZ.size : Int)]) (vs := [.string u, .int .i64 0, .int .i64 (L : Int)]) (HRA.out VE HDR2.out).1 rfl) Tryz.underlying45 rfl (by kernel_rfl)) rfl ?_
    have HMEM : Hid (refOf K xs ∈ bl.map BV.r) := Lib.hid (by have h := HKB.out; simpa using h)
    have hbw : Below w.heap.size w (putL N 0 [.string u, .int .i64 0, .int .i64 (L : Int)] VE) := putL_below (by have := HN.out; omega) _ _ _ (HBV.out.trans (HDR2.out.mono HBV.out.size))
    refine ⟨?_, blv, bl, .inl ⟨HMEM.out, rfl⟩, BS.mono (HST.out.later hbw) (Nat.le_succ n), Bt.of_below hbw⟩
    rw [← HRE.out]; rfl
  | false =>
    have HNM2 : Hid (¬ refOf K xs ∈ bl.map BV.r) := Lib.hid (by have h := HKB.out; simpa using h)
    (try go_wp2_with fail)
    go_upto_region 11 with fail
    have HC11 : Hid (∀ X, Below V.heap.size V X → X.cell? ⟨g, 13, none⟩ = some (.map (some bk)) ∧ X.cell? ⟨N + 1, 0, none⟩ = some (.string u) ∧ X.cell? ⟨N + 1, 1, none⟩ = some (.int .i64 0) ∧ X.cell? ⟨N + 1, 2, none⟩ = some (.int .i64 (L : Int))) := Lib.hid (fun X h => ⟨(HC10.out X h).1, (HC10.out X h).2.1⟩)
    have HDR3 : Hid (Below V.heap.size V VE.drew) := Lib.hid HDR2.out.drew
    obtain ⟨VG, hVG⟩ := ex_eq VE.drew
    rw [hVG] at HDR3
    refine Kit.wp_region_lplan (fun V => V.cell? ⟨g, 13, none⟩ = some (.map (some bk)) ∧ V.cell? ⟨N + 1, 0, none⟩ = some (.string u) ∧ V.cell? ⟨N + 1, 1, none⟩ = some (.int .i64 0) ∧ V.cell? ⟨N + 1, 2, none⟩ = some (.int .i64 (L : Int))) 5 [(true, 0), (true, 1), (true, 2), (true, 3), (true, 4), (false, 5)] (by kernel_rfl) (by kernel_rfl) (by kernel_rfl) (by kernel_rfl) (by rw [hVG]; exact HC11.out _ HDR3.out) ?_
    rw [hVG]
    clear hVG
    iterate 5 (refine Kit.lplan_head (by rfl) (by first | exact .inr ⟨by rfl, rfl⟩ | exact .inl ⟨by rfl, fun w' hS => by (dsimp only at hS); go_simp; (try with_reducible rfl)⟩) ?_; (try simp only [Act.put, List.setIfInBounds_toArray, List.set_cons_zero, List.set_cons_succ]))
    obtain ⟨W6, hput, hm6, hg6, hs6⟩ := (HSV.out.known.later HDR3.out).put (by unfold maxLen; omega) ⟨u, L⟩ HROK.out
    dsimp only at hput
    refine Kit.lplan_last (by rfl) (by rfl) fun K hK => ?_
    go_simp
    refine hK _ _ ?_
    clear hK hput K
    refine Kit.lplan_done ?_
    (try simp only [Act.put, List.setIfInBounds_toArray, List.set_cons_zero, List.set_cons_succ])
    have HM6 := Lib.hid hm6
    have HG6 := Lib.hid hg6
    have HZ6 := Lib.hid hs6
    clear hm6 hg6 hs6
    (try go_wp2_with fail)
    go_upto_region 12 with fail
    have HBW6 : Hid (BytesAt W6 a xs) := Lib.hid (bytesAt_chg (HBY.out.later (HBV.out.trans (HDR3.out.mono HBV.out.size))) (Chg.of_grown HG6.out (fun q _ e => e) : Chg (fun q _ => some bk = some q) VG W6) (fun ad e i e2 => HAB.out ad e (Option.some.inj e2).symm))
    have HGR : Hid (W6.heap[g]? = some (.cells (bRow K c bi blv bk) 93 (0, 0))) := Lib.hid ((HG6.out.block g (by have := HGN.out; have := HZV.out; have := HDR3.out.size; omega) (fun e => HSV.out.ne.2.1 (Option.some.inj e))).trans ((HDR3.out.block g (by have := HGN.out; have := HZV.out; omega)).trans HSV.out.row))
    have HNR : Hid (W6.heap[N + 1]? = some (.cells (RefP.row ⟨u, L⟩) 45 (0, 0))) := Lib.hid ((HG6.out.block (N + 1) (by have := HZV.out; have := HDR3.out.size; omega) (fun e => by have := HGN.out; have := Option.some.inj e; omega)).trans (HRA.out VG HDR3.out).2)
    have HN0 : Hid (W6.heap[N]? = some (.cells (RefP.row refZ) 45 (0, 0))) := Lib.hid ((HG6.out.block N (by have := HZV.out; have := HDR3.out.size; omega) (fun e => by have := HGN.out; have := Option.some.inj e; omega)).trans (HRA.out VG HDR3.out).1)
    have HBL6 : Hid (BRow W6 N0 blv bl) := Lib.hid ((HSV.out.blobs.later HDR3.out).under (Chg.of_grown HG6.out (fun q _ e => by have := HST.out.lt; have := Option.some.inj e; omega)))
    have HOWN : Hid (∀ q, blv.ownBlock = some q → N0 ≤ q ∧ q < N) := Lib.hid (fun q e => by have := HST.out.blobs.own.lt q e; have := HN.out; omega)
    have HZ6' : Hid (N + 2 ≤ W6.heap.size) := Lib.hid (by have := HZ6.out; have := HDR3.out.size; have := HZV.out; omega)
    have HC12 : Hid (∀ X, Chg (fun q _ => blv.ownBlock = some q) W6 X → X.cell? ⟨g, 12, none⟩ = some blv ∧ (X.cell? ⟨N + 1, 0, none⟩ = some (.string u) ∧ X.cell? ⟨N + 1, 1, none⟩ = some (.int .i64 0) ∧ X.cell? ⟨N + 1, 2, none⟩ = some (.int .i64 (L : Int)))) := Lib.hid (fun X h => by
      have f : ∀ i {z : Value}, W6.cell? ⟨N + 1, i, none⟩ = some z → X.cell? ⟨N + 1, i, none⟩ = some z := fun i z hz => h.cell hz (fun e => by have := HOWN.out _ e; (try simp only at this); omega)
      obtain ⟨q0, q1, q2⟩ := row3R (r := ⟨u, L⟩) HNR.out
      exact ⟨h.cell (row14B HGR.out).2.2.2.2.2.2.2.2.2.2.2.2.1 (fun e => by have := HOWN.out _ e; have := HGN.out; (try simp only at this); omega), f _ q0, f _ q1, f _ q2⟩)
    have HDR4 : Hid (Below W6.heap.size W6 W6.drew) := Lib.hid (Below.refl _ _).drew
    obtain ⟨VH, hVH⟩ := ex_eq W6.drew
    rw [hVH] at HDR4
    refine Kit.wp_region_lplan (fun V => V.cell? ⟨g, 12, none⟩ = some blv ∧ (V.cell? ⟨N + 1, 0, none⟩ = some (.string u) ∧ V.cell? ⟨N + 1, 1, none⟩ = some (.int .i64 0) ∧ V.cell? ⟨N + 1, 2, none⟩ = some (.int .i64 (L : Int)))) 13 [(true, 0), (true, 1), (true, 2), (true, 3), (true, 4), (true, 5), (true, 6), (false, 7), (true, 8), (false, 9), (false, 10), (false, 11), (true, 12), (false, 13)] (by kernel_rfl) (by kernel_rfl) (by kernel_rfl) (by kernel_rfl) (by rw [hVH]; exact HC12.out _ (Chg.of_below HDR4.out)) ?_
    rw [hVH]
    clear hVH
    iterate 7 (refine Kit.lplan_head (by rfl) (by first | exact .inr ⟨by rfl, rfl⟩ | exact .inl ⟨by rfl, fun w' hS => by (dsimp only at hS); go_simp; (try with_reducible rfl)⟩) ?_; (try simp only [Act.put, List.setIfInBounds_toArray, List.set_cons_zero, List.set_cons_succ]))
    refine Kit.lplan_op (by rfl) (by rfl) (fun K hK => ?_) (by decide)
    obtain ⟨i0, hi, hz0, hz1, hz2⟩ := info_parts Tryz.info5
    refine wp_append_src _ _ 52 (by rfl) VH.heap.size 5 i0 (.int .u8 0) 1 1 Tryz.underlying52 hi hz0 hz1 hz2 rfl (by decide) (.slice none 0 0) 0 [] (by rfl) (World.ownsRow_nil _ _ _ _) a L cap (bvals xs) (by rfl) (by
      have h1 : BytesAt VH a xs := HBW6.out.later HDR4.out
      have h2 := h1.src cap HNIL.out
      rw [HL.out] at h2
      exact h2) (bvals_one _) (by unfold maxLen; omega) (by omega) (Nat.le_refl _) ?_
    intro v7 W7 hown7 hg7
    have HO7 : Hid (W7.ownsRow VH.heap.size 5 1 v7 L (bvals xs)) := Lib.hid (by simpa using hown7)
    have H7 : Hid (Below VH.heap.size VH W7) := Lib.hid ((Chg.of_grown hg7 (fun q _ e => e) : Chg (fun q _ => (Value.slice none 0 0).ownBlock = some q) VH W7).below (Nat.le_refl _) (fun q i hq e => by cases e))
    clear hown7 hg7
    have H67 : Hid (Below W6.heap.size W6 W7) := Lib.hid (HDR4.out.trans (H7.out.mono HDR4.out.size))
    obtain ⟨hlen7, a7, c7, hv7, hc7, _, hB7, hn7⟩ := bytes_of_own HO7.out HBY.out.2.1 (by rw [HL.out]; unfold maxLen; omega)
    have HB7 := Lib.hid hB7
    subst hv7
    clear hlen7 hc7 hB7 hn7
    refine hK _ _ (HC12.out _ (Chg.of_below H67.out)) ?_
    clear hK K
    iterate 1 (refine Kit.lplan_head (by rfl) (by first | exact .inr ⟨by rfl, rfl⟩ | exact .inl ⟨by rfl, fun w' hS => by (dsimp only at hS); go_simp; (try with_reducible rfl)⟩) ?_; (try simp only [Act.put, List.setIfInBounds_toArray, List.set_cons_zero, List.set_cons_succ]))
    refine Kit.lplan_op (by rfl) (by rfl) (fun K hK => ?_) (by decide)
    go_simp
    refine hK _ _ (HC12.out _ (Chg.of_below (H67.out.alloc H67.out.size _))) ?_
    clear hK K
    refine Kit.lplan_op (by rfl) (by rfl) (fun K hK => ?_) (by decide)
    have HR7 : Hid (BRow W7 N0 blv bl) := Lib.hid (HBL6.out.later H67.out)
    refine wp_app_at kindBV _ _ (by rfl) N0 blv bl.length bl (by rfl) HR7.out.own (by have := HGN.out; have := HZ6'.out; have := H67.out.size; omega) (by omega) (⟨⟨u, L⟩, xs, a7, c7⟩ : BV) _ (by rfl) 1 (by rfl) ?_
    intro v' w3 h1 h2 h3
    have HRW3 : Hid (BRow w3 N0 v' (bl ++ [(⟨⟨u, L⟩, xs, a7, c7⟩ : BV)])) := Lib.hid (HR7.out.snoc (fun _ => HB7.out) (fun hd ad e => by
      have h5 := (HO7.out.lt ad.block (by show (Value.slice a7 xs.length c7).ownBlock = _; rw [show a7 = some ad from e]; rfl)).1
      have h6 := HDR4.out.size
      have h8 := HZ6'.out
      have h9 := HGN.out
      refine ⟨by (try simp only); omega, fun e2 => ?_⟩
      have h7 := HOWN.out _ e2
      (try simp only at h7)
      omega) h1 h2 h3)
    have HCH : Hid (Chg (fun q _ => blv.ownBlock = some q) W6 w3) := Lib.hid ((Chg.of_below H67.out).trans ((Chg.alloc1 W7 _).trans (Chg.of_grown h2 (fun q _ e => e))))
    have HV3 : Hid (v'.ownBlock = blv.ownBlock ∨ v'.ownBlock = some (W7.heap.size + 1)) := Lib.hid h3
    clear h1 h2 h3
    refine hK _ _ (HC12.out _ HCH.out) ?_
    clear hK K
    refine Kit.lplan_op (by rfl) (by rfl) (fun K hK => ?_) (by decide)
    go_simp
    refine hK _ _ (HC12.out _ HCH.out) ?_
    clear hK K
    iterate 1 (refine Kit.lplan_head (by rfl) (by first | exact .inr ⟨by rfl, rfl⟩ | exact .inl ⟨by rfl, fun w' hS => by (dsimp only at hS); go_simp; (try with_reducible rfl)⟩) ?_; (try simp only [Act.put, List.setIfInBounds_toArray, List.set_cons_zero, List.set_cons_succ]))
    have hf12 : w3.frozen? ⟨g, 12, none⟩ = false := frozen_of_row _ _ _ _ _ ((HCH.out.other g (by have := HGN.out; have := HZ6'.out; omega) (fun i e => by have := HOWN.out _ e; have := HGN.out; (try simp only at this); omega)).trans HGR.out)
    have hc12 := (HC12.out _ HCH.out).1
    obtain ⟨p', l', c', hv'⟩ : ∃ p l c, v' = .slice p l c := by
      rcases HRW3.out.own.2 with h | ⟨g2, cap2, cur2, h, _⟩
      · first | exact ⟨_, _, _, h⟩ | exact ⟨_, _, _, h.1⟩ | exact ⟨_, _, _, h.1.1⟩
      · exact ⟨_, _, _, h⟩
    subst hv'
    refine Kit.lplan_last (by rfl) (by rfl) fun K hK => ?_
    go_simp
    refine hK _ _ ?_
    clear hK K hf12 hc12
    refine Kit.lplan_done ?_
    (try simp only [Act.put, List.setIfInBounds_toArray, List.set_cons_zero, List.set_cons_succ])
    have HGW : Hid (w3.heap[g]? = some (.cells (bRow K c bi blv bk) 93 (0, 0))) := Lib.hid ((HCH.out.other g (by have := HGN.out; have := HZ6'.out; omega) (fun i e => by have := HOWN.out _ e; have := HGN.out; (try simp only at this); omega)).trans HGR.out)
    have HGW2 : Hid ((w3.setCell ⟨g, 12, none⟩ (.slice p' l' c')).heap[g]? = some (.cells (bRow K c bi (.slice p' l' c') bk) 93 (0, 0))) := Lib.hid (heap_setCell_same w3 g 12 _ _ _ HGW.out)
    have HNW0 : Hid (w3.heap[N]? = some (.cells (RefP.row refZ) 45 (0, 0))) := Lib.hid ((HCH.out.other N (by have := HZ6'.out; omega) (fun i e => by have := HOWN.out _ e; (try simp only at this); omega)).trans HN0.out)
    have HNW1 : Hid (w3.heap[N + 1]? = some (.cells (RefP.row ⟨u, L⟩) 45 (0, 0))) := Lib.hid ((HCH.out.other (N + 1) (by have := HZ6'.out; omega) (fun i e => by have := HOWN.out _ e; (try simp only at this); omega)).trans HNR.out)
    have HC1 : Hid (Chg (fun q _ => q = g) w3 (w3.setCell ⟨g, 12, none⟩ (.slice p' l' c'))) := Lib.hid (Chg.setCell1 _ _ _ _ rfl)
    have HZ3 : Hid (N + 2 ≤ w3.heap.size) := Lib.hid (by have := HCH.out.size; have := HZ6'.out; omega)
    obtain ⟨X, hX⟩ := ex_eq (w3.setCell ⟨g, 12, none⟩ (.slice p' l' c'))
    rw [hX] at HC1 HGW2 ⊢
    clear hX
    have HX0 : Hid (X.heap[N]? = some (.cells (RefP.row refZ) 45 (0, 0))) := Lib.hid ((HC1.out.other N (by have := HZ3.out; omega) (fun i e => by have := HGN.out; (try simp only at e); omega)).trans HNW0.out)
    have HX1 : Hid (X.heap[N + 1]? = some (.cells (RefP.row ⟨u, L⟩) 45 (0, 0))) := Lib.hid ((HC1.out.other (N + 1) (by have := HZ3.out; omega) (fun i e => by have := HGN.out; (try simp only at e); omega)).trans HNW1.out)
    obtain ⟨r0, r1, r2⟩ := row3R (r := ⟨u, L⟩) HX1.out
    dsimp only at r0 r1 r2
    obtain ⟨z0, z1, z2⟩ := row3R HX0.out
    dsimp only [refZ] at z0 z1 z2
    have hNE : N ≠ N + 1 := by omega
    have rf0 : X.frozen? ⟨N, 0, none⟩ = false := frozen_of_row _ _ _ _ _ HX0.out
    have rf1 : X.frozen? ⟨N, 1, none⟩ = false := frozen_of_row _ _ _ _ _ HX0.out
    have rf2 : X.frozen? ⟨N, 2, none⟩ = false := frozen_of_row _ _ _ _ _ HX0.out
    (try go_wp2_with fail)
    refine bodyPost_ret (results_cell_row_tmp (p := 4) (u := 5) rfl _ _ N 45 #[.string u, .int .i64 0, .int .i64 (L : Int)] (0, 0) _ (by rfl) (putL_full (cur := [.string refZ.name, .int .i64 0, .int .i64 (refZ.size : Int)]) (vs := [.string u, .int .i64 0, .int .i64 (L : Int)]) HX0.out rfl) Tryz.underlying45 rfl (by kernel_rfl)) rfl ?_
    obtain ⟨Z, hZ⟩ := ex_eq (putL N 0 [.string u, .int .i64 0, .int .i64 (L : Int)] X)
    have hcZ : Chg (fun q _ => q = N) X Z := by rw [← hZ]; exact putL_chg (fun i => rfl) _ _ _ (Chg.refl _ _)
    have hl := HGN.out
    have hst := HST.out.lt
    have hsz : N + 2 ≤ X.heap.size := Nat.le_trans HZ3.out HC1.out.size
    have hchg : Bt g bk blv bl (.slice p' l' c') (bl ++ [(⟨⟨u, L⟩, xs, a7, c7⟩ : BV)]) w Z := by
      refine ⟨(((((Chg.of_below HBV.out).trans (Chg.of_below HDR3.out)).trans (Chg.of_grown HG6.out (fun q _ e => Or.inr (Or.inl (Option.some.inj e).symm)))).trans (HCH.out.mono fun q i _ e => Or.inr (Or.inr (Or.inl e)))).trans (HC1.out.mono fun q i _ e => Or.inl e)).trans (hcZ.mono fun q i _ e => Or.inr (Or.inr (Or.inr (by have e2 : q = N := e; have := HN.out; omega)))), ?_, fun b hb => ?_⟩
      rotate_left
      · rcases List.mem_append.1 hb with hb2 | hb2
        · exact .inl hb2
        · refine .inr (fun hd ad e => ?_)
          rw [List.mem_singleton.1 hb2] at e
          have h5 := (HO7.out.lt ad.block (by show (Value.slice a7 xs.length c7).ownBlock = _; rw [show a7 = some ad from e]; rfl)).1
          have h6 := HDR4.out.size
          have h8 := HZ6'.out
          have h9 := HN.out
          omega
      rcases HV3.out with h3 | h3
      · exact .inl h3
      · exact .inr ⟨_, h3, by have := H67.out.size; have := HZ6'.out; have := HN.out; omega⟩
    have hrow : Z.heap[g]? = some (.cells (bRow K c bi (.slice p' l' c') bk) 93 (0, 0)) := (hcZ.other g (by omega) (fun i e => by have e2 : g = N := e; omega)).trans HGW2.out
    have hkn : Z.heap[bk]? = W6.heap[bk]? := (hcZ.other bk (by omega) (fun i e => by have e2 : bk = N := e; omega)).trans ((HC1.out.other bk (by have := HZ3.out; omega) (fun i e => by have e2 : bk = g := e; exact HST.out.ne.2.1 e2.symm)).trans (HCH.out.other bk (by have := HZ6'.out; omega) (fun i e => by have := HOWN.out bk e; omega)))
    have hmap : MapR Z bk (n + 1) ((bl ++ [(⟨⟨u, L⟩, xs, a7, c7⟩ : BV)]).map BV.r) := by
      have h1 := HM6.out.keep hkn
      rw [List.map_append]; exact h1
    have hblob : BRow Z N0 (.slice p' l' c') (bl ++ [(⟨⟨u, L⟩, xs, a7, c7⟩ : BV)]) := by
      have hc3 : Chg (fun q _ => q = g ∨ q = N) w3 Z := (HC1.out.mono fun q i _ e => Or.inl e).trans (hcZ.mono fun q i _ e => Or.inr e)
      refine ⟨ownsRow_keepM HRW3.out.own hc3 (fun q hq i e => ?_), fun b hb hd => bytesAt_chg (HRW3.out.dat b hb hd) hc3 (fun ad e i e2 => ?_), HRW3.out.off⟩
      · have h1 := (HRW3.out.own.lt q hq).1
        have h2 := H67.out.size
        have h4 := HZ6'.out
        rcases HV3.out with h3 | h3
        · have h5 := HOWN.out q (h3 ▸ hq)
          rcases e with e | e <;> omega
        · have h5 := Option.some.inj (h3.symm.trans hq)
          rcases e with e | e <;> omega
      · have h1 := (HRW3.out.off b hb hd ad e).1
        rcases e2 with e2 | e2
        · omega
        · rcases List.mem_append.1 hb with hb2 | hb2
          · have h5 := (HST.out.blobs.dat b hb2 hd).blk ad e hd
            have h6 := HN.out
            omega
          · rw [List.mem_singleton.1 hb2] at e
            have h5 := (HO7.out.lt ad.block (by show (Value.slice a7 xs.length c7).ownBlock = _; rw [show a7 = some ad from e]; rfl)).1
            have h6 := HDR4.out.size
            have h8 := HZ6'.out
            omega
    have hlt : g < N0 ∧ bi < N0 ∧ bk < N0 ∧ N0 ≤ Z.heap.size := by have := hcZ.size; omega
    subst hZ
    refine ⟨.slice p' l' c', bl ++ [(⟨⟨u, L⟩, xs, a7, c7⟩ : BV)], ?_, .inr ⟨HNM2.out, a7, c7, by rw [HRE.out]⟩, ⟨hrow, hmap, hblob, hlt, HST.out.ne⟩, hchg⟩
    rw [← HRE.out]; rfl
end Go.Proofs.YtmcbnhkcjhlbaaaGreatDoor.Tp
end
section
namespace Go.Proofs.YtmcbnhkcjhlbaaaGreatDoor.Tp
open Go.RowKit
open Kit (Chg)
open Go.Proofs.YtmcbnhkcjhlbaaaGreatDoor.One

/-! ### chunks -/
theorem chunksS_flat (c : Ck.Chk.Cut) (ds : List Nat) : ∀ k, k ≤ ds.length → (Ck.Chk.chunksS c ds k).flatten = ds.take (Ck.Chk.startS c ds k)
  | 0, _ => by simp [Ck.Chk.chunksS, Ck.Chk.startS]
  | k + 1, h => by
    have ih := chunksS_flat c ds k (by omega)
    have hl := Ck.Chk.startS_le c ds k
    cases hc : Ck.Chk.cutS c ds k with
    | true =>
      rw [Ck.Chk.chunksS_yes hc, Ck.Chk.startS_yes hc, List.flatten_append, ih]
      simp only [List.flatten_cons, List.flatten_nil, List.append_nil]
      have h1 := List.take_append_drop (Ck.Chk.startS c ds k) (ds.take (k + 1))
      rw [List.take_take, Nat.min_eq_left (by omega)] at h1
      exact h1
    | false => rw [Ck.Chk.chunksS_no hc, Ck.Chk.startS_no hc, ih]
theorem chunks_flat (c : Ck.Chk.Cut) (ds : List Nat) : (Ck.Chk.chunks c ds).flatten = ds := by
  unfold Ck.Chk.chunks
  have h1 := chunksS_flat c ds ds.length (Nat.le_refl _)
  have h2 := Ck.Chk.startS_le c ds ds.length
  rw [List.flatten_append, h1]
  by_cases h : Ck.Chk.startS c ds ds.length < ds.length
  · rw [if_pos h]
    simp
  · rw [if_neg h, List.take_of_length_le (by omega)]
    simp
theorem chunksS_pos (c : Ck.Chk.Cut) (ds : List Nat) : ∀ k, k ≤ ds.length → ∀ x ∈ Ck.Chk.chunksS c ds k, 1 ≤ x.length
  | 0, _, x, hx => by simp [Ck.Chk.chunksS] at hx
  | k + 1, h, x, hx => by
    have hl := Ck.Chk.startS_le c ds k
    cases hc : Ck.Chk.cutS c ds k with
    | true =>
      rw [Ck.Chk.chunksS_yes hc] at hx
      rcases List.mem_append.1 hx with h1 | h1
      · exact chunksS_pos c ds k (by omega) x h1
      · rw [List.mem_singleton.1 h1, List.length_drop, List.length_take]
        omega
    | false =>
      rw [Ck.Chk.chunksS_no hc] at hx
      exact chunksS_pos c ds k (by omega) x hx
theorem chunks_pos (c : Ck.Chk.Cut) (ds : List Nat) : ∀ x ∈ Ck.Chk.chunks c ds, 1 ≤ x.length := fun x hx => by
  unfold Ck.Chk.chunks at hx
  rcases List.mem_append.1 hx with h1 | h1
  · exact chunksS_pos c ds _ (Nat.le_refl _) x h1
  · by_cases h : Ck.Chk.startS c ds ds.length < ds.length
    · rw [if_pos h] at h1
      rw [List.mem_singleton.1 h1, List.length_drop]
      omega
    · rw [if_neg h] at h1
      simp at h1
theorem mem_flat_len : ∀ (l : List (List Nat)), ∀ x ∈ l, x.length ≤ l.flatten.length
  | [], x, h => by simp at h
  | y :: l, x, h => by
    rw [List.flatten_cons, List.length_append]
    rcases List.mem_cons.1 h with e | e
    · subst e; omega
    · have := mem_flat_len l x e
      omega
theorem flat_sum (K : KV) : ∀ (l : List (List Nat)), sumR (l.map (refOf K)) = l.flatten.length
  | [] => rfl
  | x :: l => by
    have h := flat_sum K l
    unfold sumR at h ⊢
    simp only [List.map_cons, List.sum_cons, List.flatten_cons, List.length_append]
    rw [h]
    rfl
theorem len_flat : ∀ (l : List (List Nat)), (∀ x ∈ l, 1 ≤ x.length) → l.length ≤ l.flatten.length
  | [], _ => Nat.zero_le _
  | x :: l, h => by
    have h1 := len_flat l (fun y hy => h y (List.mem_cons_of_mem _ hy))
    have h2 := h x (by simp)
    rw [List.length_cons, List.flatten_cons, List.length_append]
    omega
theorem chunk_len (c : Ck.Chk.Cut) (ds : List Nat) : ∀ x ∈ Ck.Chk.chunks c ds, x.length ≤ ds.length := fun x hx => by
  have h := mem_flat_len _ x hx
  rw [chunks_flat] at h
  exact h
theorem chunks_few (c : Ck.Chk.Cut) (ds : List Nat) : (Ck.Chk.chunks c ds).length ≤ ds.length := by
  have h := len_flat _ (chunks_pos c ds)
  rw [chunks_flat] at h
  exact h
/-! ### nodes -/
def kidsF (es : List FE) (p : Bs) : List FE := es.filter fun e => decide (parP e.p = p)
theorem mem_kids {es : List FE} {p : Bs} {e : FE} : e ∈ kidsF es p ↔ e ∈ es ∧ parP e.p = p := by
  unfold kidsF
  rw [List.mem_filter]
  simp
def lastB (l : Bs) : ByteArray := ⟨(lastP l).toArray⟩
def itOf (K : KV) (c : Ck.Chk.Cut) (nd : RefP) (e : FE) : IT := ⟨lastB e.p, e.kind, e.mode, e.time, if e.kind = 1 then e.data.length else 0, e.link, if e.kind = 1 then (Ck.Chk.chunks c e.data).map (refOf K) else [], if e.kind = 2 then nd else refZ⟩
def nodeF (K : KV) (c : Ck.Chk.Cut) (es : List FE) : Nat → Bs → List Nat
  | 0, _ => []
  | n + 1, p => encN ((kidsF es p).map fun e => itOf K c (refOf K (nodeF K c es n e.p)) e)
def entC (c : Ck.Chk.Cut) (sub : Bs → List (List Nat)) (e : FE) : List (List Nat) := if e.kind = 1 then Ck.Chk.chunks c e.data else if e.kind = 2 then sub e.p else []
def dirC (K : KV) (c : Ck.Chk.Cut) (es : List FE) : Nat → Bs → List (List Nat)
  | 0, _ => []
  | n + 1, p => (kidsF es p).flatMap (entC c (dirC K c es n)) ++ [nodeF K c es (n + 1) p]
theorem VP.lastv {l : Bs} (h : VP l) : VP (lastP l) := by
  have h1 := h.last
  have h2 := cutS_one _ (lastP_free l)
  refine ⟨by rw [h2]; simp, Nat.le_trans h1.len (by decide), fun p hp => ?_⟩
  rw [h2] at hp
  rw [List.mem_singleton.1 hp]
  exact h1
structure SmallT (es : List FE) : Prop where
  ok : OkTree es
  few : es.length ≤ 8
  data : ∀ e ∈ es, e.data.length ≤ 60
  time : ∀ e ∈ es, e.time ≤ 9223372036854775807
theorem itOf_small {K : KV} {c : Ck.Chk.Cut} {e : FE} {nd : RefP} (he : e.ok) (hd : e.data.length ≤ 60) (ht : e.time ≤ 9223372036854775807) (hn : nd.ok) : (itOf K c nd e).small := by
  have h1 := chunk_len c e.data
  have h2 := chunks_few c e.data
  refine ⟨⟨he.vp.lastv, lastP_free _, he.mode0, he.mode1, he.time0, he.kinds, fun hk => ?_, fun hk => ?_, fun hk => ?_⟩, ?_, ht⟩
  · have hk : e.kind = 1 := hk
    have h3 := he.file hk
    simp only [itOf, hk, if_true]
    refine ⟨h3.2, by simp, fun r hr => ?_, ?_, by omega, by rw [List.length_map]; omega⟩
    · obtain ⟨x, hx, rfl⟩ := List.mem_map.1 hr
      exact ⟨refOf_ok K (by have := h1 x hx; omega), chunks_pos c _ x hx⟩
    · rw [flat_sum, chunks_flat]
  · have hk : e.kind = 2 := hk
    have h3 := he.dir hk
    simp only [itOf, hk, if_true]
    exact ⟨h3.2, by simp, by simp, hn⟩
  · have hk : e.kind = 3 := hk
    have h3 := he.lnk hk
    simp only [itOf, hk]
    exact ⟨by simp, by simp, by simp, h3.2.1, h3.2.2.1, h3.2.2.2⟩
  · simp only [itOf]
    split
    · rw [List.length_map]; omega
    · simp
theorem nodeF_len {K : KV} {c : Ck.Chk.Cut} {es : List FE} (h : SmallT es) : ∀ (n : Nat) (p : Bs), (nodeF K c es n p).length ≤ 22500
  | 0, p => by simp [nodeF]
  | n + 1, p => by
    unfold nodeF encN
    have hl : (kidsF es p).length ≤ 8 := Nat.le_trans (List.length_filter_le _ _) h.few
    have h1 := nodes_len (ts := (kidsF es p).map fun e => itOf K c (refOf K (nodeF K c es n e.p)) e) (fun t ht => by
      obtain ⟨e, he, rfl⟩ := List.mem_map.1 ht
      have he := (mem_kids.1 he).1
      exact itOf_small (h.ok.ok e he) (h.data e he) (h.time e he) (refOf_ok K (by have := nodeF_len (K := K) (c := c) h n e.p; omega))) (by rw [List.length_map]; exact hl) ((kidsF es p).length)
    rw [List.take_of_length_le (by rw [List.length_map]; omega)] at h1
    exact h1
theorem node_ref {K : KV} {c : Ck.Chk.Cut} {es : List FE} (h : SmallT es) (n : Nat) (p : Bs) : (refOf K (nodeF K c es n p)).ok := refOf_ok K (by have := nodeF_len (K := K) (c := c) h n p; omega)
theorem kid_small {K : KV} {c : Ck.Chk.Cut} {es : List FE} (h : SmallT es) {p : Bs} {e : FE} (he : e ∈ kidsF es p) (n : Nat) (q : Bs) : (itOf K c (refOf K (nodeF K c es n q)) e).small := by
  have he := (mem_kids.1 he).1
  exact itOf_small (h.ok.ok e he) (h.data e he) (h.time e he) (node_ref h n q)
theorem kids_ord {es : List FE} (h : OkTree es) (K : KV) (c : Ck.Chk.Cut) (f : FE → RefP) (p : Bs) : ((kidsF es p).map fun e => itOf K c (f e) e).Pairwise NameOrd := by
  rw [List.pairwise_map]
  have h1 : (kidsF es p).Pairwise (fun a b => cmpP a.p b.p < 0) := h.asc.sublist List.filter_sublist
  refine List.Pairwise.imp_of_mem ?_ h1
  intro a b ha hb hab
  obtain ⟨ha, hpa⟩ := mem_kids.1 ha
  obtain ⟨hb, hpb⟩ := mem_kids.1 hb
  have hva := (h.ok a ha).vp.par
  have hvb := (h.ok b hb).vp.par
  have key : cmpP (lastP a.p) (lastP b.p) < 0 := by
    change (parP a.p = [] ∧ a.p = lastP a.p ∧ _) ∨ (parP a.p ≠ [] ∧ a.p = parP a.p ++ 47 :: lastP a.p) at hva
    change (parP b.p = [] ∧ b.p = lastP b.p ∧ _) ∨ (parP b.p ≠ [] ∧ b.p = parP b.p ++ 47 :: lastP b.p) at hvb
    rcases hva with ⟨e1, e2, _⟩ | ⟨e1, e2⟩ <;> rcases hvb with ⟨e3, e4, _⟩ | ⟨e3, e4⟩
    · rw [← e2, ← e4]; exact hab
    · exact absurd (hpb.trans (hpa.symm.trans e1)) e3
    · exact absurd (hpa.trans (hpb.symm.trans e3)) e1
    · rw [e2, e4, hpa, hpb] at hab
      rw [show p ++ 47 :: lastP a.p = (p ++ [47]) ++ lastP a.p by simp, show p ++ 47 :: lastP b.p = (p ++ [47]) ++ lastP b.p by simp, cmpP_app] at hab
      exact hab
  have h3 := cmpP_lex _ _ (lastP_free a.p) (lastP_free b.p) key
  unfold NameOrd
  rw [Lib.toList_data, Lib.toList_data]
  exact h3
/-! ### what lies behind an entry -/
def Late (es : List FE) (m : Nat) (p : Bs) : Prop := ∃ pre S, es = pre ++ S ∧ S.length = m ∧ ∀ e ∈ pre, parP e.p ≠ p
theorem Late.root (es : List FE) (p : Bs) : Late es es.length p := ⟨[], es, rfl, rfl, by simp⟩
theorem late_at {pre S2 : List FE} {e : FE} (h : OkTree (pre ++ e :: S2)) : Late (pre ++ e :: S2) S2.length e.p := by
  refine ⟨pre ++ [e], S2, by simp, rfl, fun x hx hp => ?_⟩
  have hok := h.ok
  have hne := (hok e (by simp)).vp.ne
  have hxm : x ∈ pre ++ e :: S2 := by
    rcases List.mem_append.1 hx with h1 | h1
    · exact List.mem_append_left _ h1
    · rw [List.mem_singleton.1 h1]; simp
  have h2 : cmpP e.p x.p < 0 := by
    have hv := (hok x hxm).vp.par
    change (parP x.p = [] ∧ _) ∨ (parP x.p ≠ [] ∧ x.p = parP x.p ++ 47 :: lastP x.p) at hv
    rcases hv with ⟨e1, _⟩ | ⟨_, e2⟩
    · exact absurd (hp.symm.trans e1) hne
    · rw [e2, hp]; exact cmpP_prefix _ _ _
  rcases List.mem_append.1 hx with h1 | h1
  · have h3 := h.asc
    rw [List.pairwise_append] at h3
    have h4 := cmpP_trans (h3.2.2 x h1 e (by simp)) h2
    rw [cmpP_self] at h4
    omega
  · rw [List.mem_singleton.1 h1, cmpP_self] at h2
    omega
theorem Late.kid {es : List FE} {m : Nat} {p : Bs} (h : Late es m p) (ho : OkTree es) {e : FE} (he : e ∈ kidsF es p) : ∃ m', m' < m ∧ Late es m' e.p := by
  obtain ⟨pre, S, rfl, hl, hp⟩ := h
  obtain ⟨h1, h2⟩ := mem_kids.1 he
  rcases List.mem_append.1 h1 with h3 | h3
  · exact absurd h2 (hp e h3)
  · obtain ⟨S1, S2, rfl⟩ := List.append_of_mem h3
    have h4 := late_at (pre := pre ++ S1) (S2 := S2) (e := e) (by simpa using ho)
    refine ⟨S2.length, by rw [← hl, List.length_append, List.length_cons]; omega, ?_⟩
    simpa using h4
theorem kids_behind (pre T : List FE) (p : Bs) (h : ∀ e ∈ pre, parP e.p ≠ p) : kidsF (pre ++ T) p = kidsF T p := by
  unfold kidsF
  rw [List.filter_append, List.filter_eq_nil_iff.2 (fun e he => by simpa using h e he), List.nil_append]
theorem sub_len {c : Ck.Chk.Cut} {es : List FE} (h : SmallT es) {sub : Bs → List (List Nat)} (p : Bs) : ∀ (T pre : List FE), es = pre ++ T → (∀ m q, m < T.length → Late es m q → (sub q).length ≤ 61 * 2 ^ m) → ((kidsF T p).flatMap (entC c sub)).length + 61 ≤ 61 * 2 ^ T.length
  | [], pre, _, _ => by simp [kidsF]
  | e :: T, pre, he, hs => by
    have ih := sub_len h p T (pre ++ [e]) (by rw [he]; simp) (fun m q hm hl => hs m q (by rw [List.length_cons]; omega) hl) (c := c) (sub := sub)
    have hpow : 2 ^ (T.length + 1) = 2 * 2 ^ T.length := by rw [Nat.pow_succ]; omega
    rw [List.length_cons, hpow]
    unfold kidsF at ih ⊢
    rw [List.filter_cons]
    by_cases hp : parP e.p = p
    · rw [if_pos (by simpa using hp), List.flatMap_cons, List.length_append]
      have h1 : (entC c sub e).length ≤ 61 * 2 ^ T.length := by
        have h2 : 1 ≤ 2 ^ T.length := Nat.one_le_two_pow
        unfold entC
        split
        · have h3 := chunks_few c e.data
          have h4 := h.data e (by rw [he]; simp)
          omega
        · split
          · refine hs T.length e.p (by simp) ?_
            rw [he]
            exact late_at (by rw [← he]; exact h.ok)
          · simp
      omega
    · rw [if_neg (by simpa using hp)]
      omega
theorem dirC_len {K : KV} {c : Ck.Chk.Cut} {es : List FE} (h : SmallT es) : ∀ (n m : Nat) (p : Bs), Late es m p → (dirC K c es n p).length ≤ 61 * 2 ^ m
  | 0, m, p, _ => by simp [dirC]
  | n + 1, m, p, hl => by
    obtain ⟨pre, S, he, hm, hp⟩ := hl
    unfold dirC
    rw [List.length_append, List.length_singleton]
    have h1 := sub_len h (c := c) (sub := dirC K c es n) p S pre he (fun m' q hm' hl' => dirC_len h n m' q hl')
    have h2 : kidsF es p = kidsF S p := by rw [he]; exact kids_behind pre S p hp
    rw [h2, ← hm]
    omega
theorem dirC_most {K : KV} {c : Ck.Chk.Cut} {es : List FE} (h : SmallT es) (n : Nat) (p : Bs) : (dirC K c es n p).length ≤ 15616 := by
  have h1 := dirC_len (K := K) (c := c) h n es.length p (Late.root es p)
  have h2 : 2 ^ es.length ≤ 2 ^ 8 := Nat.pow_le_pow_right (by decide) h.few
  omega
/-! ### contents added -/
def AddsP (k : KV) : List (List Nat) → List BV → List BV → Prop
  | [], bl, bl' => bl' = bl
  | x :: xs, bl, bl' => ∃ bm, AddP k x bl bm ∧ AddsP k xs bm bl'
theorem AddsP.nil (k : KV) (bl : List BV) : AddsP k [] bl bl := rfl
theorem AddsP.append {k : KV} : ∀ {xs ys : List (List Nat)} {bl bm bl' : List BV}, AddsP k xs bl bm → AddsP k ys bm bl' → AddsP k (xs ++ ys) bl bl'
  | [], ys, bl, bm, bl', h, h2 => by have h : bm = bl := h; subst h; exact h2
  | x :: xs, ys, bl, bm, bl', ⟨b1, h, h3⟩, h2 => ⟨b1, h, AddsP.append h3 h2⟩
theorem AddsP.snoc {k : KV} {xs : List (List Nat)} {y : List Nat} {bl bm bl' : List BV} (h : AddsP k xs bl bm) (h2 : AddP k y bm bl') : AddsP k (xs ++ [y]) bl bl' := h.append (show AddsP k [y] bm bl' from ⟨bl', h2, rfl⟩)
theorem AddP.len {k : KV} {x : List Nat} {bl bl' : List BV} (h : AddP k x bl bl') : bl'.length ≤ bl.length + 1 := by
  rcases h with ⟨_, rfl⟩ | ⟨_, a, c, rfl⟩
  · omega
  · simp
theorem AddsP.len {k : KV} : ∀ {xs : List (List Nat)} {bl bl' : List BV}, AddsP k xs bl bl' → bl'.length ≤ bl.length + xs.length
  | [], bl, bl', h => by have h : bl' = bl := h; rw [h]; simp
  | x :: xs, bl, bl', ⟨bm, h1, h2⟩ => by
    have h3 := h1.len
    have h4 := AddsP.len h2
    rw [List.length_cons]
    omega
end Go.Proofs.YtmcbnhkcjhlbaaaGreatDoor.Tp
end
section
namespace Go.Proofs.YtmcbnhkcjhlbaaaGreatDoor.Tp
open Go.RowKit
open Kit (Chg)
open Go.Maps
open Go.WideMaps
open Go.Proofs.YtmcbnhkcjhlbaaaGreatDoor.One

def FileP (g bi bk N0 n : Nat) (K : KV) (c : Ck.Chk.Cut) (blv : Value) (bl : List BV) (cs : List (List Nat)) (w : World) (e : Ending) (w' : World) : Prop := ∃ (blv' : Value) (bl' : List BV) (a' : Option Addr) (cap' : Nat), e = .returned (.tuple #[.slice a' cs.length cap', .int .i64 0]) ∧ AddsP K cs bl bl' ∧ BS w' g bi bk N0 (n + cs.length) K c blv' bl' ∧ Bt g bk blv bl blv' bl' w w' ∧ cs.length ≤ cap' ∧ RowsAt RefP.cells 3 w' a' (cs.map (refOf K)) ∧ ∀ ad, a' = some ad → w.heap.size ≤ ad.block ∧ ad.block < w'.heap.size ∧ Free ad.block blv' bl'
def slC (x : Option Addr × Nat × Nat) : List Value := [Ck.slV x]
theorem slC_map (xs : List (Option Addr × Nat × Nat)) : xs.flatMap slC = xs.map Ck.slV := by
  induction xs with
  | nil => rfl
  | cons x xs ih => rw [List.flatMap_cons, ih]; rfl
theorem new_row3 {w : World} {r : RefP} {T : TypeId} : (w.alloc (.cells r.row T)).heap[w.heap.size]? = some (.cells r.row T (0, 0)) := heap_alloc_new _ _
theorem Bt.below {g bi bk N0 n : Nat} {K : KV} {c : Ck.Chk.Cut} {blv blv1 : Value} {bl bl1 : List BV} {W W' : World} (hS : BS W g bi bk N0 n K c blv bl) (h : Bt g bk blv bl blv1 bl1 W W') {B : Nat} (hg : B ≤ g) (hk : B ≤ bk) : Below B W W' :=
  h.chg.below (by have := hS.lt; omega) (fun q i hq e => by
    have := hS.lt
    rcases e with e | e | e | e
    · omega
    · omega
    · have := (hS.blobs.own.lt q e).1
      omega
    · omega)
theorem Bt.bytes {g bi bk N0 n : Nat} {K : KV} {c : Ck.Chk.Cut} {blv blv1 : Value} {bl bl1 : List BV} {W W' : World} (hS : BS W g bi bk N0 n K c blv bl) (h : Bt g bk blv bl blv1 bl1 W W') (q : Nat) (cur : Array Value) (f : Nat × Nat) (hq : W.heap[q]? = some (.cells cur 5 f)) : W'.heap[q]? = W.heap[q]? := by
  refine h.chg.other q (Array.getElem?_eq_some_iff.1 hq).1 (fun i e => ?_)
  rcases e with e | e | e | e
  · subst e
    have h1 := hS.row
    rw [hq] at h1
    cases h1
  · obtain ⟨D, ⟨es, clock, hb, _⟩, _⟩ := hS.known
    subst e
    rw [hq] at hb
    cases hb
  · rcases hS.blobs.own.2 with ⟨e2, _⟩ | ⟨g2, cap2, cur2, e2, _, h4, _⟩
    · rw [e2] at e; cases e
    · rw [e2] at e
      have h5 : g2 = q := by simpa [Value.ownBlock] using e
      rw [h5, hq] at h4
      cases h4
  · have := (Array.getElem?_eq_some_iff.1 hq).1
    omega
set_option maxRecDepth 100000 in
set_option maxHeartbeats 4000000 in
theorem file_any (g bi bk N0 n : Nat) (K : KV) (hK : K.ok) (c : Ck.Chk.Cut) (hc : c.Ok) (blv : Value) (bl : List BV) (a : Option Addr) (cap L : Nat) (ds : List Nat) (hL : ds.length = L) (hcap : L ≤ cap) (hl : L ≤ 10000) (hbl : bl.length + L ≤ 100000) (hn : n + L ≤ 100000) (w : World) (hB : BytesAt w a ds) (hS : BS w g bi bk N0 n K c blv bl) (hlo : 7 ≤ g ∧ 7 ≤ bk) (hT : Top w) : Calls Tryz.prog 73 #[.pointer (some ⟨g, 0, none⟩), .slice a L cap] w (FileP g bi bk N0 n K c blv bl (Ck.Chk.chunks c ds) w) := by
  have HSP := Lib.hid (Ck.split_any c hc a cap ds (by omega) (by omega) w hB hT.tab)
  rw [hL] at HSP
  have HK := Lib.hid hK
  have HL := Lib.hid hL
  have HNB : Hid (bl.length + L ≤ 100000 ∧ n + L ≤ 100000) := Lib.hid ⟨hbl, hn⟩
  have HST := Lib.hid hS
  have HT := Lib.hid hT
  have HLO := Lib.hid hlo
  have HLB : Hid (L ≤ 10000) := Lib.hid hl
  have HCF : Hid ((Ck.Chk.chunks c ds).length ≤ L) := Lib.hid (by rw [← hL]; exact chunks_few c ds)
  obtain ⟨CS, hCS⟩ := ex_eq (Ck.Chk.chunks c ds)
  have HCL : Hid (∀ x ∈ CS, x.length ≤ 10000) := Lib.hid (by rw [← hCS]; intro x hx; have := chunk_len c ds x hx; omega)
  have HCN : Hid ((Ck.Chk.cuts c ds).length = CS.length) := Lib.hid (by rw [← hCS, Ck.Chk.chunks_pieces, Ck.pieces_length])
  rw [hCS] at HSP HCF ⊢
  rw [HCN.out] at HSP
  obtain ⟨m, hm⟩ := ex_eq CS.length
  rw [hm] at HSP HCF
  have HM := Lib.hid hm
  obtain ⟨g0, g1, g2, g3, g4, g5, g6, g7, g8, g9, g10, g11, g12, g13⟩ := row14B hS.row
  clear hK hL hcap hl hbl hn hS hlo hT hCS hm hB hc g0 g1 g2 g3 g4 g10 g11 g12 g13
  go_enter Tryz.func73, Tryz.ntmps73
  go_upto_region 2 with (first
    | (go_at_call 13
       (with_reducible refine HSP.out.mono ?_)
       rintro e W1 ⟨sv, xs, rfl, hown, hch, hb⟩
       have HCH := Lib.hid hch
       have HOWN := Lib.hid hown
       have HB1 := Lib.hid hb
       clear hch hown hb))
  clear g5 g6 g7 g8 g9
  have HXN : Hid (xs.length = m) := Lib.hid (by rw [HCH.out.1, HM.out])
  obtain ⟨sa, sc, rfl, hq1, hsc, hq2, hsr, hq3, hsb⟩ := rows_of_own (f := slC) (n := 1) (fun _ => rfl) (by decide) (xs := xs) (by rw [slC_map]; exact HOWN.out)
  have HSR := Lib.hid hsr
  have HSB := Lib.hid hsb
  have HSC := Lib.hid hsc
  have HS1 := Lib.hid (HST.out.later HB1.out)
  have HT1 := Lib.hid (HT.out.later HB1.out)
  have HGN : Hid (g < N0 ∧ bi < N0 ∧ bk < N0 ∧ N0 ≤ w.heap.size ∧ w.heap.size ≤ W1.heap.size) := Lib.hid (by have := HST.out.lt; have := HB1.out.size; omega)
  clear hsr hsb hsc hq1 hq2 hq3
  go_upto_region 6 with fail
  go_loopw [8, 27] (fun v z wr => ∃ (k : Nat) (blv1 : Value) (bl1 : List BV), k ≤ m ∧ z = .int .i64 (k : Int) ∧ Hid (AddsP K (CS.take k) bl bl1) ∧ Hid (BS wr g bi bk N0 (n + k) K c blv1 bl1) ∧ Hid (Bt g bk blv bl blv1 bl1 W1 wr) ∧ Hid (wr.ownsRow W1.heap.size 45 3 v k (((CS.take k).map (refOf K)).flatMap RefP.cells)) ∧ Hid (∀ q, v.ownBlock = some q → Free q blv1 bl1)) (fun _ z _ => m - (intOf z).toNat)
  case atStart =>
    refine ⟨0, blv, bl, Nat.zero_le _, rfl, Lib.hid ?_, Lib.hid HS1.out, Lib.hid (Bt.refl _ _ _ _ _), Lib.hid ?_, Lib.hid (fun q e => by cases e)⟩
    · rw [List.take_zero]; exact AddsP.nil _ _
    · rw [List.take_zero]; exact World.ownsRow_nil _ _ _ _
  case round =>
    obtain ⟨k, blv1, bl1, hk, rfl, HAD, HBS, HBT, HRW, HFR⟩ := hrel
    by_cases hlt : k < m
    rotate_left
    · go_wp2_with fail
      have hkm : CS.take k = CS := List.take_of_length_le (by have := HM.out; omega)
      have hke : k = CS.length := by have := HM.out; omega
      obtain ⟨ra, rc, hv, hq1, hrc, hq2, hrr, hq3, hrb⟩ := rows_of_own RefP.len (by decide) HRW.out
      go_ret2
      refine ⟨blv1, bl1, ra, rc, ?_, ?_, ?_, (Bt.of_below HB1.out).trans HBT.out, by rw [← hke]; exact hrc, ?_, fun ad e => ?_⟩
      · rw [hv, ← hke]; rfl
      · rw [← hkm]; exact HAD.out
      · rw [← hke]; exact HBS.out
      · rw [← hkm]; exact hrr
      · have h1 := hrb ad e
        refine ⟨by have := HGN.out; omega, h1.2.1, HFR.out ad.block ?_⟩
        rw [hv, e]
        rfl
    have hkx : k < xs.length := by rw [HXN.out]; exact hlt
    have hkc : k < CS.length := by rw [HM.out]; exact hlt
    have HKC := Lib.hid hkc
    obtain ⟨q, qc, hx1, hx2, hx3, _⟩ := (HCH.out.keep (fun q cur f hq => HBT.out.bytes HS1.out q cur f hq)).2 k hkc
    obtain ⟨X, hX⟩ := ex_eq (CS.getD k [])
    rw [hX] at hx1 hx2 hx3
    have HXE : Hid (CS[k] = X) := Lib.hid (by rw [← hX, List.getD_eq_getElem?_getD, List.getElem?_eq_getElem hkc]; rfl)
    have HTK : Hid (CS.take (k + 1) = CS.take k ++ [X]) := Lib.hid ((List.take_succ_eq_append_getElem hkc).trans (congrArg (fun z => CS.take k ++ [z]) HXE.out))
    have HXL : Hid (X.length ≤ 10000) := Lib.hid (HCL.out X (by rw [← HXE.out]; exact List.getElem_mem hkc))
    obtain ⟨b, o, hsa, hcell⟩ := HSR.out.one k hkx
    subst hsa
    have hc0 : wr.cell? ⟨b, o + k, none⟩ = some (.slice (some ⟨q, 0, none⟩) X.length qc) := by
      have h1 := hcell 0 (by decide)
      have h2 : xs[k] = (some ⟨q, 0, none⟩, X.length, qc) := by
        rw [List.getElem?_eq_getElem hkx] at hx1
        exact Option.some.inj hx1
      rw [h2, Nat.mul_one, Nat.add_zero] at h1
      have h3 : W1.cell? ⟨b, o + k, none⟩ = some (.slice (some ⟨q, 0, none⟩) X.length qc) := h1
      have h4 := HSB.out ⟨b, o, none⟩ rfl
      have h5 := HGN.out
      refine HBT.out.chg.cell h3 (fun e => HBT.out.keeps (q := b) h4.2.1 (by have := h4.1; (try simp only at this); omega) (by have := h4.1; (try simp only at this); omega) (HST.out.fresh h4.1) (o + k) e)
    obtain ⟨l, hl⟩ := ex_eq X.length
    rw [hl] at hc0 hx3 HXL
    have HXN2 := Lib.hid hl
    have HTW : Hid (Top wr) := Lib.hid (HT1.out.low (HBT.out.below HS1.out HLO.out.1 HLO.out.2) (Nat.le_refl _))
    have HAL : Hid (bl1.length ≤ 100000 ∧ n + k ≤ 100000) := Lib.hid (by
      have h1 := HAD.out.len
      rw [List.length_take] at h1
      have := HNB.out
      have := HCF.out
      omega)
    have HADD := Lib.hid (add_any g bi bk N0 (n + k) K HK.out c blv1 bl1 (some ⟨q, 0, none⟩) qc l X hl hx3 (fun e => by cases e) (by have := HXL.out; omega) HAL.out.1 HAL.out.2 wr hx2 (fun ad e => by
      cases e
      intro e2
      obtain ⟨q2, qc2, hy1, _, _, cur, f, hy4⟩ := (HCH.out.keep (fun q cur f hq => HBT.out.bytes HS1.out q cur f hq)).2 k HKC.out
      have h9 := congrArg (fun o => o.map Prod.fst) (hx1.symm.trans hy1)
      obtain rfl : q = q2 := by simpa using h9
      obtain ⟨D, ⟨es, clock, hb, _⟩, _⟩ := HBS.out.known
      simp only at e2
      rw [← e2, hy4] at hb
      cases hb) HBS.out HTW.out)
    obtain ⟨r, hr⟩ := ex_eq (refOf K X)
    rw [hr] at HADD
    have HRE := Lib.hid hr
    obtain ⟨rn, rs⟩ := r
    unfold RefP.row at HADD
    dsimp only at HADD
    clear hx1 hx2 hx3 hX hcell hl hr hkc
    go_upto_region 9 with (first
      | (go_at_call 75
         (with_reducible refine HADD.out.mono ?_)
         rintro e w2 ⟨blv2, bl2, rfl, h1, h2, h3⟩
         have HA2 := Lib.hid h1
         have HS2 := Lib.hid h2
         have HT2 := Lib.hid h3
         clear h1 h2 h3))
    clear hc0
    refine wp_over (fun V => Hid (V.heap[w2.heap.size]? = some (.cells (RefP.row ⟨rn, rs⟩) 45 (0, 0))) ∧ Hid (Below w2.heap.size w2 V)) ⟨Lib.hid (new_row3 (r := ⟨rn, rs⟩)), Lib.hid ((Below.refl _ _).alloc (Nat.le_refl _) _)⟩ ?_
    rintro V ⟨HR, HVB⟩
    have HRW2 : Hid (V.ownsRow W1.heap.size 45 3 u8 k (((CS.take k).map (refOf K)).flatMap RefP.cells)) := Lib.hid (own_later (ownsRow_keepM HRW.out HT2.out.chg (fun q2 hq => HT2.out.keeps (HRW.out.lt q2 hq).2 (by have := HGN.out; have := (HRW.out.lt q2 hq).1; omega) (by have := HGN.out; have := (HRW.out.lt q2 hq).1; omega) (HFR.out q2 hq))) HVB.out)
    have HFR2 : Hid (∀ q2, u8.ownBlock = some q2 → Free q2 blv2 bl2) := Lib.hid (fun q2 hq => HT2.out.free (HFR.out q2 hq) (HRW.out.lt q2 hq).2)
    have HSV := Lib.hid (HS2.out.later HVB.out)
    have HTV : Hid (Bt g bk blv bl blv2 bl2 W1 V) := Lib.hid ((HBT.out.trans HT2.out).trans (Bt.of_below HVB.out))
    obtain ⟨r0, r1, r2⟩ := row3R HR.out
    dsimp only at r0 r1 r2
    obtain ⟨N, hN⟩ := ex_eq w2.heap.size
    rw [hN] at r0 r1 r2 ⊢
    clear hN
    have hm4 : m ≤ 10000 := by have := HCF.out; have := HNB.out; have := HLB.out; omega
    have HKL : Hid (((CS.take k).map (refOf K)).length = k) := Lib.hid (by rw [List.length_map, List.length_take]; have := HKC.out; omega)
    have HK5 : Hid (k ≤ 5000000) := Lib.hid (by have := HAL.out; omega)
    go_wp2_with (first
      | (at_builtin
         refine app_at kindRef rfl _ _ rfl W1.heap.size u8 k ((CS.take k).map (refOf K)) (by rfl) HRW2.out (by have := HTV.out.size; omega) HK5.out ⟨rn, rs⟩ _ (by rfl) 1 (by rfl) ?_
         intro v' w3 h1 h2 h3
         have H1 := Lib.hid h1
         have H2 := Lib.hid h2
         have H3 := Lib.hid h3
         clear h1 h2 h3))
    have HCH3 : Hid (Chg (fun q _ => u8.ownBlock = some q) V w3) := Lib.hid ((Chg.alloc1 V _).trans (Chg.of_grown H2.out (fun q _ e => e)))
    go_roundw
    case rel =>
      refine ⟨k + 1, blv2, bl2, by omega, by go_num, Lib.hid ?_, Lib.hid ?_, Lib.hid (HTV.out.more HCH3.out (fun q2 i _ e => (HRW2.out.lt q2 e).1)), Lib.hid ?_, Lib.hid (fun q2 hq => ?_)⟩
      · rw [HTK.out]; exact HAD.out.snoc HA2.out
      · exact HSV.out.turn HCH3.out (fun q2 e => ⟨by have := (HRW2.out.lt q2 e).1; have := HGN.out; omega, HFR2.out q2 e⟩)
      · have h1 := H1.out
        rw [HTK.out, List.map_append]
        have h2 : [X].map (refOf K) = [(⟨rn, rs⟩ : RefP)] := by rw [List.map_singleton, HRE.out]
        rw [h2]
        exact h1
      · rcases H3.out with h3 | h3
        · exact HFR2.out q2 (h3 ▸ hq)
        · rw [h3] at hq
          cases hq
          exact HSV.out.fresh (Nat.le_succ _)
    case measure => simp [intOf]; omega
end Go.Proofs.YtmcbnhkcjhlbaaaGreatDoor.Tp
end
