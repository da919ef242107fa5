/- Texts Tdc, Tdd, Tby, Tdk of the proof, each as a section; no premises beyond those that each theorem states. -/
import Derived.Test.YtmcbnhkcjhlbaaaGreatDoorP12
import Derived.Test.YtmcbnhkcjhlbaaaGreatDoorP13
import Derived.Test.YtmcbnhkcjhlbaaaGreatDoorP17
set_option linter.unusedVariables false
set_option linter.unusedSimpArgs false
section
namespace Go.Proofs.YtmcbnhkcjhlbaaaGreatDoor.Tp
open Go.RowKit
open Kit (Chg)
open Go.Proofs.YtmcbnhkcjhlbaaaGreatDoor.One

theorem clone_b (a : Option Addr) (n c : Nat) (bs : List Nat) (hn : bs.length = n) (hl : n ≤ 4000000) (hz : a = none → c = 0) (w : World) (h : BytesAt w a bs) : Calls Tryz.prog 35 #[.slice a n c] w fun e w' => ∃ (a' : Option Addr) (c' : Nat), e = .returned (.slice a' n c') ∧ BytesAt w' a' bs ∧ n ≤ c' ∧ (a' = none → c' = 0) ∧ (∀ ad, a' = some ad → w.heap.size ≤ ad.block) ∧ Below w.heap.size w w' := by
  cases a with
  | none =>
    have hbs : bs = [] := by
      rcases h.1 with e | ⟨b, o, e, _⟩
      · exact e
      · cases e
    subst hbs
    subst hn
    refine (bytes_Clone_nil _ c w).mono ?_
    rintro e w' ⟨rfl, rfl⟩
    exact ⟨none, 0, rfl, h, Nat.le_refl _, fun _ => rfl, (fun ad e => by cases e), Below.refl _ _⟩
  | some ad =>
    have hc : ∀ i, i < n → w.cell? (ad.add i) = some (.int .u8 ((bs.map fun (x : Nat) => (x : Int)).getD i 0)) := by
      intro i hi
      obtain ⟨b, o, e, hcell⟩ := h.some (by omega)
      cases e
      rw [add_none, hcell i (by omega)]
      simp [List.getD_eq_getElem?_getD, List.getElem?_map, List.getElem?_eq_getElem (show i < bs.length by omega)]
    refine (bytes_Clone_at ad n c (bs.map fun (x : Nat) => (x : Int)) w (by rw [List.length_map]; exact hn) (by omega) hc).mono ?_
    rintro e w' ⟨v', rfl, hown, _, hb⟩
    have e1 : (bs.map fun (x : Nat) => (x : Int)).map (Value.int .u8) = bvals bs := by simp [bvals]
    rw [e1] at hown
    obtain ⟨h1, a', cap, hv, h2, h3, h4, h5⟩ := bytes_of_own hown h.2.1 h.2.2
    refine ⟨a', cap, by rw [hv, hn], h4, by omega, h5, fun ad' e => ?_, hb⟩
    subst e
    rcases hown.2 with ⟨e2, _⟩ | ⟨g, cap2, cur, e2, hg, _⟩
    · rw [hv] at e2; cases e2
    · rw [hv] at e2
      cases e2
      exact hg
theorem row6 {w : World} {b : Nat} {x : FV} {T : TypeId} {f : Nat × Nat} (h : w.heap[b]? = some (.cells x.row T f)) : w.cell? ⟨b, 0, none⟩ = some (.string x.e.path) ∧ w.cell? ⟨b, 1, none⟩ = some (.int .i64 x.e.kind) ∧ w.cell? ⟨b, 2, none⟩ = some (.int .i64 x.e.mode) ∧ w.cell? ⟨b, 3, none⟩ = some (.int .i64 x.e.time) ∧ w.cell? ⟨b, 4, none⟩ = some (.slice x.a x.e.data.length x.c) ∧ w.cell? ⟨b, 5, none⟩ = some (.string x.e.link) := six_of_row h
def FV.off (N : Nat) (x : FV) : Prop := ∀ ad, x.a = some ad → N ≤ ad.block
set_option maxRecDepth 100000 in
set_option maxHeartbeats 4000000 in
theorem copied_any (x : FV) (w : World) (hx : x.ok w) : Calls Tryz.prog 82 #[.agg x.row] w fun e w' => ∃ y : FV, e = .returned (.agg y.row) ∧ y.e = x.e ∧ y.ok w' ∧ y.off w.heap.size ∧ Below w.heap.size w w' := by
  have HX := Lib.hid hx
  obtain ⟨⟨path, kind, mode, time, data, link⟩, a, c⟩ := x
  have HCL : Hid (∀ W, Below w.heap.size w W → Calls Tryz.prog 35 #[.slice a data.length c] W fun e w' => ∃ (a' : Option Addr) (c' : Nat), e = .returned (.slice a' data.length c') ∧ BytesAt w' a' data ∧ data.length ≤ c' ∧ (a' = none → c' = 0) ∧ (∀ ad, a' = some ad → W.heap.size ≤ ad.block) ∧ Below W.heap.size W w') := Lib.hid (fun W hb => clone_b a data.length c data rfl hx.sd hx.nil W (hx.dat.later hb))
  unfold FV.row
  dsimp only
  clear hx
  go_enter Tryz.func82, Tryz.ntmps82
  go_upto_region 1 with fail
  refine wp_over (fun W => Hid (W.heap[w.heap.size]? = some (.cells (FV.row ⟨⟨path, kind, mode, time, data, link⟩, a, c⟩) 54 (0, 0))) ∧ Hid (W.heap[w.heap.size + 1]? = some (.cells #[.string ByteArray.empty, .int .i64 0, .int .i64 0, .int .i64 0, .slice none 0 0, .string ByteArray.empty] 54 (0, 0))) ∧ Hid (Below w.heap.size w W) ∧ Hid (W.heap.size = w.heap.size + 2)) ⟨Lib.hid two_rows1, Lib.hid two_rows2, Lib.hid two_below, Lib.hid two_size⟩ ?_
  rintro W ⟨HG, HZ, HB, HS⟩
  obtain ⟨N, hN⟩ := ex_eq w.heap.size
  have HCLW := Lib.hid (HCL.out W HB.out)
  rw [hN] at HG HZ HS ⊢
  have HN := Lib.hid hN
  clear hN
  obtain ⟨c0, c1, c2, c3, c4, c5⟩ := row6 HG.out
  dsimp only at c0 c1 c2 c3 c4 c5
  go_wp2_with fail
  refine HCLW.out.mono ?_
  rintro e W2 ⟨a', c', rfl, hdat, hcap, hnil, hoff, hb⟩
  have HD := Lib.hid (And.intro hdat (And.intro hcap (And.intro hnil hoff)))
  have HB2 := Lib.hid hb
  have g1 : W2.heap[N]? = some (.cells (FV.row ⟨⟨path, kind, mode, time, data, link⟩, a, c⟩) 54 (0, 0)) := (hb.block N (by have := HS.out; omega)).trans HG.out
  have g2 : W2.heap[N + 1]? = some (.cells #[.string ByteArray.empty, .int .i64 0, .int .i64 0, .int .i64 0, .slice none 0 0, .string ByteArray.empty] 54 (0, 0)) := (hb.block (N + 1) (by have := HS.out; omega)).trans HZ.out
  have G1 := Lib.hid g1
  have G2 := Lib.hid g2
  clear c0 c1 c2 c3 c4 c5 hdat hcap hnil hoff hb g1 g2
  obtain ⟨c0, c1, c2, c3, c4, c5⟩ := row6 G1.out
  dsimp only at c0 c1 c2 c3 c4 c5
  have f4 : W2.frozen? ⟨N, 4, none⟩ = false := frozen_of_row _ _ _ _ _ G1.out
  obtain ⟨z0, z1, z2, z3, z4, z5⟩ := row6 (x := ⟨⟨ByteArray.empty, 0, 0, 0, [], ByteArray.empty⟩, none, 0⟩) G2.out
  dsimp only at z0 z1 z2 z3 z4 z5
  have fz : ∀ i, W2.frozen? ⟨N + 1, i, none⟩ = false := fun i => frozen_of_row _ _ _ _ _ G2.out
  go_wp2_with fail
  have h3 : (W2.setCell ⟨N, 4, none⟩ (.slice a' data.length c')).heap[N + 1]? = some (.cells #[.string ByteArray.empty, .int .i64 0, .int .i64 0, .int .i64 0, .slice none 0 0, .string ByteArray.empty] 54 (0, 0)) := (Below.heap_setCell _ _ _ _ (by simp)).trans G2.out
  refine bodyPost_ret (results_cell_row (p := 2) rfl _ _ (N + 1) 54 (FV.row ⟨⟨path, kind, mode, time, data, link⟩, a', c'⟩) (0, 0) _ (by rfl) (putL_full (cur := [.string ByteArray.empty, .int .i64 0, .int .i64 0, .int .i64 0, .slice none 0 0, .string ByteArray.empty]) (vs := FV.cells ⟨⟨path, kind, mode, time, data, link⟩, a', c'⟩) h3 rfl) Tryz.underlying54 rfl (by kernel_rfl)) rfl ?_
  have hbw : Below N w (W2.setCell ⟨N, 4, none⟩ (.slice a' data.length c')) := ((by have := HB.out; rw [HN.out] at this; exact this : Below N w W).trans (HB2.out.mono (by have := HS.out; omega))).setCell (Nat.le_refl _) _
  have hbw2 := putL_below (Nat.le_succ N) (FV.cells ⟨⟨path, kind, mode, time, data, link⟩, a', c'⟩) 0 _ hbw
  have hch : Chg (fun k _ => k = N ∨ k = N + 1) W2 (putL (N + 1) 0 (FV.cells ⟨⟨path, kind, mode, time, data, link⟩, a', c'⟩) (W2.setCell ⟨N, 4, none⟩ (.slice a' data.length c'))) := putL_chg (M := fun k _ => k = N ∨ k = N + 1) (fun i => .inr rfl) _ 0 _ (Chg.setCell1 _ _ _ _ (.inl rfl))
  have hd := HD.out
  refine ⟨⟨⟨path, kind, mode, time, data, link⟩, a', c'⟩, rfl, rfl, ⟨hd.2.2.1, hd.2.1, ?_, HX.out.sp, HX.out.sl, HX.out.sd⟩, fun ad e => ?_, by rw [HN.out]; exact hbw2⟩
  · refine bytesAt_chg hd.1 hch (fun ad e i h => ?_)
    have h1 := hd.2.2.2 ad e
    have := HS.out
    omega
  · have h1 := hd.2.2.2 ad e
    have := HS.out
    have := HN.out
    show w.heap.size ≤ ad.block
    omega
def sameC (x y : FE) : Bool := decide (x.link = y.link) && decide (x.data = y.data)
def sameE (x y : FE) : Bool := decide (x.path = y.path) && (decide (x.kind = y.kind) && (decide (x.mode = y.mode) && (decide (x.time = y.time) && sameC x y)))
theorem sameC_iff {x y : FE} : sameC x y = true ↔ x.link = y.link ∧ x.data = y.data := by simp [sameC]
theorem sameE_iff {x y : FE} : sameE x y = true ↔ x = y := by
  obtain ⟨a1, a2, a3, a4, a5, a6⟩ := x
  obtain ⟨b1, b2, b3, b4, b5, b6⟩ := y
  simp only [sameE, sameC, Bool.and_eq_true, decide_eq_true_eq, FE.mk.injEq]
  constructor
  · rintro ⟨h1, h2, h3, h4, h5, h6⟩; exact ⟨h1, h2, h3, h4, h6, h5⟩
  · rintro ⟨h1, h2, h3, h4, h6, h5⟩; exact ⟨h1, h2, h3, h4, h5, h6⟩
theorem str_dec (s t : ByteArray) : (s.toList == t.toList) = decide (s = t) := by
  rw [str_eq_iff, decide_eq_decide]
  exact ⟨str_ext, fun h => by rw [h]⟩
set_option maxRecDepth 100000 in
set_option maxHeartbeats 4000000 in
theorem sameContent_any (x y : FV) (w : World) (hx : x.ok w) (hy : y.ok w) : Calls Tryz.prog 43 #[.agg x.row, .agg y.row] w fun e w' => e = .returned (.bool (sameC x.e y.e)) ∧ Below w.heap.size w w' := by
  obtain ⟨⟨path, kind, mode, time, data, link⟩, a, c⟩ := x
  obtain ⟨⟨path2, kind2, mode2, time2, data2, link2⟩, a2, c2⟩ := y
  have HEQ : Hid (∀ W, Below w.heap.size w W → Calls Tryz.prog 86 #[.slice a data.length c, .slice a2 data2.length c2] W fun e w' => e = .returned (.bool (decide (data = data2))) ∧ W = w') := Lib.hid (fun W hb => bytesEqual_any a a2 data.length c data2.length c2 data data2 rfl rfl W (hx.dat.later hb) (hy.dat.later hb))
  unfold FV.row sameC
  dsimp only
  obtain ⟨B, hB⟩ := ex_eq (decide (data = data2))
  obtain ⟨L, hL⟩ := ex_eq (decide (link = link2))
  have hlk : (link.toList == link2.toList) = L := by rw [str_dec, hL]
  rw [hB] at HEQ ⊢
  rw [hL]
  clear hx hy hB hL
  go_enter Tryz.func43, Tryz.ntmps43
  go_upto_region 1 with fail
  refine wp_over (fun W => Hid (W.heap[w.heap.size]? = some (.cells (FV.row ⟨⟨path, kind, mode, time, data, link⟩, a, c⟩) 54 (0, 0))) ∧ Hid (W.heap[w.heap.size + 1]? = some (.cells (FV.row ⟨⟨path2, kind2, mode2, time2, data2, link2⟩, a2, c2⟩) 54 (0, 0))) ∧ Hid (Below w.heap.size w W)) ⟨Lib.hid two_rows1, Lib.hid two_rows2, Lib.hid two_below⟩ ?_
  rintro W ⟨HG, HZ, HB⟩
  obtain ⟨N, hN⟩ := ex_eq w.heap.size
  have HE := Lib.hid (HEQ.out W HB.out)
  rw [hN] at HG HZ ⊢
  have HN := Lib.hid hN
  clear hN
  obtain ⟨c0, c1, c2', c3, c4, c5⟩ := row6 HG.out
  obtain ⟨d0, d1, d2, d3, d4, d5⟩ := row6 HZ.out
  dsimp only at c0 c1 c2' c3 c4 c5 d0 d1 d2 d3 d4 d5
  have hbw : Below N w W := by have := HB.out; rw [HN.out] at this; exact this
  have HBW := Lib.hid hbw
  clear hbw
  cases L
  · go_wp2_with fail
    go_ret
    exact ⟨by first | rfl | (rw [HF.out]; rfl), by rw [HN.out]; exact HBW.out⟩
  · go_wp2_with fail
    refine HE.out.mono ?_
    rintro e w1 ⟨rfl, rfl⟩
    go_wp2_with fail
    go_ret
    exact ⟨by first | rfl | (rw [HF.out]; rfl), by rw [HN.out]; exact HBW.out⟩
set_option maxRecDepth 100000 in
set_option maxHeartbeats 4000000 in
theorem same_any20 (x y : FV) (w : World) (hx : x.ok w) (hy : y.ok w) : Calls Tryz.prog 81 #[.agg x.row, .agg y.row] w fun e w' => e = .returned (.bool (sameE x.e y.e)) ∧ Below w.heap.size w w' := by
  have HSC := Lib.hid (fun W (hb : Below w.heap.size w W) => sameContent_any x y W (hx.later hb) (hy.later hb))
  unfold sameE
  obtain ⟨S, hS⟩ := ex_eq (sameC x.e y.e)
  rw [hS] at HSC ⊢
  clear hx hy hS
  obtain ⟨⟨path, kind, mode, time, data, link⟩, a, c⟩ := x
  obtain ⟨⟨path2, kind2, mode2, time2, data2, link2⟩, a2, c2⟩ := y
  unfold FV.row at HSC ⊢
  dsimp only at HSC ⊢
  obtain ⟨P, hP⟩ := ex_eq (decide (path = path2))
  obtain ⟨K, hK⟩ := ex_eq (decide (kind = kind2))
  obtain ⟨M, hM⟩ := ex_eq (decide (mode = mode2))
  obtain ⟨T, hT⟩ := ex_eq (decide (time = time2))
  have q1 : (path.toList == path2.toList) = P := by rw [str_dec, hP]
  have q2 : (kind == kind2) = K := by rw [← hK]; rw [Bool.eq_iff_iff]; simp
  have q3 : (mode == mode2) = M := by rw [← hM]; rw [Bool.eq_iff_iff]; simp
  have q4 : (time == time2) = T := by rw [← hT]; rw [Bool.eq_iff_iff]; simp
  rw [hP, hK, hM, hT]
  clear hP hK hM hT
  obtain ⟨F, hF⟩ := ex_eq (P && (K && (M && (T && S))))
  have HF0 := Lib.hid hF.symm
  rw [hF]
  clear hF
  go_enter Tryz.func81, Tryz.ntmps81
  go_upto_region 1 with fail
  refine wp_over (fun W => Hid (W.heap[w.heap.size]? = some (.cells (FV.row ⟨⟨path, kind, mode, time, data, link⟩, a, c⟩) 54 (0, 0))) ∧ Hid (W.heap[w.heap.size + 1]? = some (.cells (FV.row ⟨⟨path2, kind2, mode2, time2, data2, link2⟩, a2, c2⟩) 54 (0, 0))) ∧ Hid (Below w.heap.size w W)) ⟨Lib.hid two_rows1, Lib.hid two_rows2, Lib.hid two_below⟩ ?_
  rintro W ⟨HG, HZ, HB⟩
  obtain ⟨N, hN⟩ := ex_eq w.heap.size
  have HE := Lib.hid (HSC.out W HB.out)
  rw [hN] at HG HZ ⊢
  have HN := Lib.hid hN
  clear hN
  obtain ⟨c0, c1, c2', c3, c4, c5⟩ := row6 HG.out
  obtain ⟨d0, d1, d2, d3, d4, d5⟩ := row6 HZ.out
  dsimp only at c0 c1 c2' c3 c4 c5 d0 d1 d2 d3 d4 d5
  have hbw : Below N w W := by have := HB.out; rw [HN.out] at this; exact this
  have HBW := Lib.hid hbw
  clear hbw
  by_cases hall : P = true ∧ K = true ∧ M = true ∧ T = true
  · obtain ⟨rfl, rfl, rfl, rfl⟩ := hall
    go_wp2_with fail
    refine HE.out.mono ?_
    rintro e w1 ⟨rfl, hb1⟩
    have HB1 := Lib.hid hb1
    clear hb1
    go_wp2_with fail
    go_ret
    exact ⟨by rw [HF0.out]; rfl, by rw [HN.out]; exact HBW.out.trans (HB1.out.mono (by have := HBW.out.size; have := (Array.getElem?_eq_some_iff.1 HZ.out).1; omega))⟩
  · have HF : Hid (F = false) := Lib.hid (by
      rw [HF0.out]
      revert hall
      cases P <;> cases K <;> cases M <;> cases T <;> simp)
    cases P
    · go_wp2_with fail
      go_ret
      exact ⟨by first | rfl | (rw [HF.out]; rfl), by rw [HN.out]; exact HBW.out⟩
    · cases K
      · go_wp2_with fail
        go_ret
        exact ⟨by first | rfl | (rw [HF.out]; rfl), by rw [HN.out]; exact HBW.out⟩
      · cases M
        · go_wp2_with fail
          go_ret
          exact ⟨by first | rfl | (rw [HF.out]; rfl), by rw [HN.out]; exact HBW.out⟩
        · cases T
          · go_wp2_with fail
            go_ret
            exact ⟨by first | rfl | (rw [HF.out]; rfl), by rw [HN.out]; exact HBW.out⟩
          · exact absurd ⟨rfl, rfl, rfl, rfl⟩ hall
end Go.Proofs.YtmcbnhkcjhlbaaaGreatDoor.Tp
end
section
namespace Go.Proofs.YtmcbnhkcjhlbaaaGreatDoor.Tp
open Go.RowKit
open Kit (Chg)
open Go.Maps
open Go.WideMaps
open Go.Proofs.YtmcbnhkcjhlbaaaGreatDoor.One

def movP (e : FE) : Option (Int × ByteArray) := if e.kind = 1 ∧ 0 < e.data.length then some (1, strB e.data) else if e.kind = 3 then some (3, e.link) else none
def contV (k : Int) (s : ByteArray) : Value := .agg #[.int .i64 k, .string s]
def movV (m : Option (Int × ByteArray)) : Value := match m with
  | some (k, s) => .tuple #[contV k s, .bool true]
  | none => .tuple #[contV 0 ByteArray.empty, .bool false]
set_option maxRecDepth 100000 in
set_option maxHeartbeats 4000000 in
theorem movable_any (x : FV) (w : World) (hx : x.ok w) : Calls Tryz.prog 80 #[.agg x.row] w fun e w' => e = .returned (movV (movP x.e)) ∧ Below w.heap.size w w' := by
  obtain ⟨⟨path, kind, mode, time, data, link⟩, a, c⟩ := x
  have HCV : Hid (∀ W, Below w.heap.size w W → (convert 52 9 (.slice a data.length c)).run Tryz.prog W = .ok (.string (strB data)) W) := Lib.hid (fun W hb => conv_bytes (hx.dat.later hb) c)
  obtain ⟨R, hR⟩ := ex_eq (movV (movP ⟨path, kind, mode, time, data, link⟩))
  have HR := Lib.hid hR.symm
  dsimp only
  rw [hR]
  unfold FV.row
  dsimp only
  clear hx hR
  go_enter Tryz.func80, Tryz.ntmps80
  go_upto_region 1 with fail
  refine wp_over (fun W => Hid (W.heap[w.heap.size]? = some (.cells (FV.row ⟨⟨path, kind, mode, time, data, link⟩, a, c⟩) 54 (0, 0))) ∧ Hid (W.heap[w.heap.size + 1]? = some (.cells #[.int .i64 0, .string ByteArray.empty] 176 (0, 0))) ∧ Hid (Below w.heap.size w W)) ⟨Lib.hid two_rows1, Lib.hid two_rows2, Lib.hid two_below⟩ ?_
  rintro W ⟨HG, HZ, HB⟩
  obtain ⟨N, hN⟩ := ex_eq w.heap.size
  have hcv := HCV.out W HB.out
  rw [hN] at HG HZ ⊢
  have HN := Lib.hid hN
  clear hN
  obtain ⟨c0, c1, c2, c3, c4, c5⟩ := row6 HG.out
  dsimp only at c0 c1 c2 c3 c4 c5
  have hbw : Below N w W := by have := HB.out; rw [HN.out] at this; exact this
  have HBW := Lib.hid hbw
  have z0 : W.cell? ⟨N + 1, 0, none⟩ = some (.int .i64 0) := (cell_of_row _ _ _ _ _ _ HZ.out).trans rfl
  have z1 : W.cell? ⟨N + 1, 1, none⟩ = some (.string ByteArray.empty) := (cell_of_row _ _ _ _ _ _ HZ.out).trans rfl
  have fz : ∀ i, W.frozen? ⟨N + 1, i, none⟩ = false := fun i => frozen_of_row _ _ _ _ _ HZ.out
  have HEND : Hid (∀ (k : Int) (s : ByteArray), Below N w (putL (N + 1) 0 [.int .i64 k, .string s] W)) := Lib.hid (fun k s => putL_below (Nat.le_succ N) _ 0 _ HBW.out)
  clear hbw
  by_cases h1 : kind = 1
  · by_cases h2 : 0 < data.length
    · have HF : Hid (R = movV (some (1, strB data))) := Lib.hid (by rw [HR.out]; unfold movP; rw [if_pos ⟨h1, h2⟩])
      have q1 : (kind == 1) = true := by rw [h1]; rfl
      clear h1
      go_wp2_with fail
      refine bodyPost_ret (results_cell_row_tmp rfl _ _ (N + 1) 176 #[.int .i64 1, .string (strB data)] (0, 0) _ (by rfl) (putL_full (cur := [.int .i64 0, .string ByteArray.empty]) (vs := [.int .i64 1, .string (strB data)]) HZ.out rfl) Tryz.underlying176 rfl (by kernel_rfl)) rfl ?_
      exact ⟨by rw [HF.out]; rfl, by rw [HN.out]; exact HEND.out _ _⟩
    · have HF : Hid (R = movV none) := Lib.hid (by
        rw [HR.out]; unfold movP
        rw [if_neg (fun h => h2 h.2), if_neg (fun h : kind = 3 => by omega)])
      have q1 : (kind == 1) = true := by rw [h1]; rfl
      have q3 : (kind == 3) = false := by rw [h1]; rfl
      clear h1
      go_wp2_with fail
      refine bodyPost_ret (results_cell_row_tmp rfl _ _ (N + 1) 176 #[.int .i64 0, .string ByteArray.empty] (0, 0) _ (by rfl) (putL_full (cur := [.int .i64 0, .string ByteArray.empty]) (vs := [.int .i64 0, .string ByteArray.empty]) HZ.out rfl) Tryz.underlying176 rfl (by kernel_rfl)) rfl ?_
      exact ⟨by rw [HF.out]; rfl, by rw [HN.out]; exact HEND.out _ _⟩
  · have q1 : (kind == 1) = false := by rw [beq_eq_false_iff_ne]; exact h1
    by_cases h3 : kind = 3
    · have HF : Hid (R = movV (some (3, link))) := Lib.hid (by rw [HR.out]; unfold movP; rw [if_neg (fun h => h1 h.1), if_pos h3])
      have q3 : (kind == 3) = true := by rw [h3]; rfl
      clear h1 h3
      go_wp2_with fail
      refine bodyPost_ret (results_cell_row_tmp rfl _ _ (N + 1) 176 #[.int .i64 3, .string link] (0, 0) _ (by rfl) (putL_full (cur := [.int .i64 0, .string ByteArray.empty]) (vs := [.int .i64 3, .string link]) HZ.out rfl) Tryz.underlying176 rfl (by kernel_rfl)) rfl ?_
      exact ⟨by rw [HF.out]; rfl, by rw [HN.out]; exact HEND.out _ _⟩
    · have HF : Hid (R = movV none) := Lib.hid (by rw [HR.out]; unfold movP; rw [if_neg (fun h => h1 h.1), if_neg h3])
      have q3 : (kind == 3) = false := by rw [beq_eq_false_iff_ne]; exact h3
      clear h1 h3
      go_wp2_with fail
      refine bodyPost_ret (results_cell_row_tmp rfl _ _ (N + 1) 176 #[.int .i64 0, .string ByteArray.empty] (0, 0) _ (by rfl) (putL_full (cur := [.int .i64 0, .string ByteArray.empty]) (vs := [.int .i64 0, .string ByteArray.empty]) HZ.out rfl) Tryz.underlying176 rfl (by kernel_rfl)) rfl ?_
      exact ⟨by rw [HF.out]; rfl, by rw [HN.out]; exact HEND.out _ _⟩
set_option maxRecDepth 100000 in
set_option maxHeartbeats 4000000 in
theorem validEntry_ok (x : FV) (w : World) (hx : x.ok w) (he : x.e.ok) (hT : Top w) : Calls Tryz.prog 135 #[.agg x.row] w fun e w' => e = .returned (.bool true) ∧ Below w.heap.size w w' := by
  have HC : Hid (∀ W b, Below w.heap.size w W → W.heap[b]? = some (.cells x.row 54 (0, 0)) → Calls Tryz.prog 20 #[.slice (some ⟨b, 0, none⟩) 1 1] W (CheckP [x] W)) := Lib.hid (fun W b hb hg => by
    refine check_any _ 1 1 [x] rfl (Nat.le_refl _) (by decide) W ⟨.inr ⟨b, 0, rfl, fun k hk j hj => ?_⟩, fun y hy => ?_⟩ (fun y hy => ?_) (by simp) (hT.later hb)
    · obtain rfl : k = 0 := by simpa using hk
      rw [Nat.zero_mul, Nat.zero_add, cell_of_row _ _ _ _ _ _ hg]
      obtain ⟨e, a, c⟩ := x
      rcases (show j = 0 ∨ j = 1 ∨ j = 2 ∨ j = 3 ∨ j = 4 ∨ j = 5 by omega) with rfl | rfl | rfl | rfl | rfl | rfl <;> rfl
    · rw [List.mem_singleton.1 hy]; exact hx.later hb
    · rw [List.mem_singleton.1 hy]; exact he)
  obtain ⟨⟨path, kind, mode, time, data, link⟩, a, c⟩ := x
  unfold FV.row at HC ⊢
  dsimp only at HC ⊢
  clear hx he hT
  go_enter Tryz.func135, Tryz.ntmps135
  go_wp2_with fail
  refine (HC.out _ _ two_below two_rows2).mono ?_
  rintro e W ⟨r, rfl, hr, _, hb⟩
  have hq : (r != 1) = true := by rw [bne_iff_ne]; omega
  have HB := Lib.hid (two_below.trans (hb.mono (by simp; omega)) : Below w.heap.size w W)
  clear hr hb
  go_wp2_with fail
  go_ret
  exact ⟨rfl, HB.out⟩
structure CV where
  kind : Int
  path : ByteArray
  frm : ByteArray
  x : FV
def CV.cells (c : CV) : List Value := [.int .i64 c.kind, .string c.path, .string c.frm, .string c.x.e.path, .int .i64 c.x.e.kind, .int .i64 c.x.e.mode, .int .i64 c.x.e.time, .slice c.x.a c.x.e.data.length c.x.c, .string c.x.e.link]
def CV.row (c : CV) : Array Value := #[.int .i64 c.kind, .string c.path, .string c.frm, .string c.x.e.path, .int .i64 c.x.e.kind, .int .i64 c.x.e.mode, .int .i64 c.x.e.time, .slice c.x.a c.x.e.data.length c.x.c, .string c.x.e.link]
theorem CV.len (c : CV) : c.cells.length = 9 := rfl
theorem CV.one (c : CV) : ∀ v ∈ c.cells, v.oneCell' = true := fun v h => by
  simp only [CV.cells, List.mem_cons, List.not_mem_nil, or_false] at h
  rcases h with rfl | rfl | rfl | rfl | rfl | rfl | rfl | rfl | rfl <;> rfl
def cvZ : Value := .agg #[.int .i64 0, .string ByteArray.empty, .string ByteArray.empty, .string ByteArray.empty, .int .i64 0, .int .i64 0, .int .i64 0, .slice none 0 0, .string ByteArray.empty]
theorem kindCV : Kind Tryz.prog CV.cells 9 59 114 cvZ 120 := ⟨CV.len, CV.one, by decide, Tryz.underlying59, by kernel_rfl, rfl, by decide⟩
def feZero : FE := ⟨ByteArray.empty, 0, 0, 0, [], ByteArray.empty⟩
def fvZero : FV := ⟨feZero, none, 0⟩
theorem fvZero_ok (w : World) : fvZero.ok w := ⟨fun _ => rfl, Nat.le_refl _, ⟨.inl rfl, by simp [fvZero, feZero], by simp [fvZero, feZero]⟩, by decide, by decide, by decide⟩
structure CV.good (c : CV) : Prop where
  k : c.kind = 1 ∨ c.kind = 2 ∨ c.kind = 3 ∨ c.kind = 4
  rem : c.kind = 1 → VP c.path.data.toList ∧ c.frm.size = 0 ∧ c.x.e = feZero
  mov : c.kind = 2 → c.path = c.x.e.path ∧ VP c.frm.data.toList ∧ c.x.e.ok ∧ c.x.e.kind ≠ 2
  put : c.kind = 3 ∨ c.kind = 4 → c.path = c.x.e.path ∧ c.frm.size = 0 ∧ c.x.e.ok
theorem row9 {w : World} {b : Nat} {c : CV} {T : TypeId} {f : Nat × Nat} (h : w.heap[b]? = some (.cells c.row T f)) : w.cell? ⟨b, 0, none⟩ = some (.int .i64 c.kind) ∧ w.cell? ⟨b, 1, none⟩ = some (.string c.path) ∧ w.cell? ⟨b, 2, none⟩ = some (.string c.frm) ∧ w.cell? ⟨b, 3, none⟩ = some (.string c.x.e.path) ∧ w.cell? ⟨b, 4, none⟩ = some (.int .i64 c.x.e.kind) ∧ w.cell? ⟨b, 5, none⟩ = some (.int .i64 c.x.e.mode) ∧ w.cell? ⟨b, 6, none⟩ = some (.int .i64 c.x.e.time) ∧ w.cell? ⟨b, 7, none⟩ = some (.slice c.x.a c.x.e.data.length c.x.c) ∧ w.cell? ⟨b, 8, none⟩ = some (.string c.x.e.link) :=
  ⟨(cell_of_row _ _ _ _ _ _ h).trans rfl, (cell_of_row _ _ _ _ _ _ h).trans rfl, (cell_of_row _ _ _ _ _ _ h).trans rfl, (cell_of_row _ _ _ _ _ _ h).trans rfl, (cell_of_row _ _ _ _ _ _ h).trans rfl, (cell_of_row _ _ _ _ _ _ h).trans rfl, (cell_of_row _ _ _ _ _ _ h).trans rfl, (cell_of_row _ _ _ _ _ _ h).trans rfl, (cell_of_row _ _ _ _ _ _ h).trans rfl⟩
theorem empty_of_size {s : ByteArray} (h : s.size = 0) : s.toList.isEmpty = true := by rw [Lib.toList_data, List.isEmpty_iff, ← List.length_eq_zero_iff, bytes_len]; exact h
set_option maxRecDepth 100000 in
set_option maxHeartbeats 4000000 in
theorem cvalid_ok (c : CV) (w : World) (hx : c.x.ok w) (hg : c.good) (hT : Top w) : Calls Tryz.prog 85 #[.agg c.row] w fun e w' => e = .returned (.bool true) ∧ Below w.heap.size w w' := by
  have HG := Lib.hid hg
  have HVE := Lib.hid (fun W (hb : Below w.heap.size w W) (he : c.x.e.ok) => validEntry_ok c.x W (hx.later hb) he (hT.later hb))
  have HVP := Lib.hid (fun (s : ByteArray) W (hb : Below w.heap.size w W) (hv : VP s.data.toList) => valid18_ok s hv W (hT.later hb))
  have HSM := Lib.hid (fun W (hb : Below w.heap.size w W) => same_any20 c.x fvZero W (hx.later hb) (fvZero_ok W))
  obtain ⟨ck, cp, cf, ⟨path, kind, mode, time, data, link⟩, a, cc⟩ := c
  unfold CV.row
  unfold FV.row at HVE HSM
  dsimp only at HVE HSM ⊢
  have hb0 : Below w.heap.size w (w.alloc (.cells #[.int .i64 ck, .string cp, .string cf, .string path, .int .i64 kind, .int .i64 mode, .int .i64 time, .slice a data.length cc, .string link] 114)) := (Below.refl _ _).alloc (Nat.le_refl _) _
  have hrow := row9 (c := ⟨ck, cp, cf, ⟨path, kind, mode, time, data, link⟩, a, cc⟩) (heap_alloc_new w (.cells #[.int .i64 ck, .string cp, .string cf, .string path, .int .i64 kind, .int .i64 mode, .int .i64 time, .slice a data.length cc, .string link] 114))
  clear hx hg hT
  go_enter Tryz.func85, Tryz.ntmps85
  go_upto_region 1 with fail
  refine wp_over (fun W => Hid (∀ V, Below (w.heap.size + 1) W V → Hid (Below w.heap.size w V) ∧ (V.cell? ⟨w.heap.size, 0, none⟩ = some (.int .i64 ck) ∧ V.cell? ⟨w.heap.size, 1, none⟩ = some (.string cp) ∧ V.cell? ⟨w.heap.size, 2, none⟩ = some (.string cf) ∧ V.cell? ⟨w.heap.size, 3, none⟩ = some (.string path) ∧ V.cell? ⟨w.heap.size, 4, none⟩ = some (.int .i64 kind) ∧ V.cell? ⟨w.heap.size, 5, none⟩ = some (.int .i64 mode) ∧ V.cell? ⟨w.heap.size, 6, none⟩ = some (.int .i64 time) ∧ V.cell? ⟨w.heap.size, 7, none⟩ = some (.slice a data.length cc) ∧ V.cell? ⟨w.heap.size, 8, none⟩ = some (.string link))) ∧ Hid (W.heap.size = w.heap.size + 1)) ⟨Lib.hid (fun V h => ⟨Lib.hid (hb0.trans (h.mono (Nat.le_succ _))), row9 (c := ⟨ck, cp, cf, ⟨path, kind, mode, time, data, link⟩, a, cc⟩) ((h.block w.heap.size (Nat.lt_succ_self _)).trans (heap_alloc_new w _))⟩), Lib.hid (by simp)⟩ ?_
  clear hb0 hrow
  rintro W ⟨HC, HS⟩
  obtain ⟨N, hN⟩ := ex_eq w.heap.size
  rw [hN] at HC HS ⊢
  have HN := Lib.hid hN
  clear hN
  obtain ⟨HB0, c0, c1, c2, c3, c4, c5, c6, c7, c8⟩ := HC.out W (Below.refl _ _)
  have HW : Hid (Below w.heap.size w W) := Lib.hid (by rw [HN.out]; exact HB0.out)
  rcases HG.out.k with hk | hk | hk | hk
  · have hk1 : ck = 1 := hk
    subst hk1
    obtain ⟨g1, g2, g3⟩ := HG.out.rem rfl
    have q2 : cf.toList.isEmpty = true := empty_of_size g2
    have g3 : (⟨path, kind, mode, time, data, link⟩ : FE) = feZero := g3
    have HV1 := Lib.hid (HVP.out cp W HW.out g1)
    have hse : sameE ⟨path, kind, mode, time, data, link⟩ fvZero.e = true := sameE_iff.2 g3
    rw [hse] at HSM
    clear hk g1 g2 g3 hse
    go_wp2_with fail
    refine HV1.out.mono ?_
    rintro e W1 ⟨rfl, hb1⟩
    have H1 : Hid (Below (N + 1) W W1) := Lib.hid (hb1.mono (by have := HS.out; omega))
    clear hb1 c0 c1 c2 c3 c4 c5 c6 c7 c8
    obtain ⟨HB1, c0, c1, c2, c3, c4, c5, c6, c7, c8⟩ := HC.out W1 H1.out
    go_wp2_with fail
    refine (HSM.out _ (by rw [HN.out]; exact HB1.out)).mono ?_
    rintro e W2 ⟨rfl, hb2⟩
    have H2 : Hid (Below w.heap.size w W2) := Lib.hid (by rw [HN.out]; exact HB1.out.trans (hb2.mono (by have := H1.out.size; have := HS.out; omega)))
    clear hb2
    go_wp2_with fail
    go_ret
    exact ⟨rfl, H2.out⟩
  · have hk1 : ck = 2 := hk
    subst hk1
    obtain ⟨g1, g2, g3, g4⟩ := HG.out.mov rfl
    have g1 : cp = path := g1
    subst g1
    have g4 : kind ≠ 2 := g4
    have q4 : (kind != 2) = true := by rw [bne_iff_ne]; exact g4
    have HV1 := Lib.hid (HVP.out cf W HW.out g2)
    have HE3 := Lib.hid g3
    clear hk g2 g3 g4
    go_wp2_with fail
    refine HV1.out.mono ?_
    rintro e W1 ⟨rfl, hb1⟩
    have H1 : Hid (Below (N + 1) W W1) := Lib.hid (hb1.mono (by have := HS.out; omega))
    clear hb1 c0 c1 c2 c3 c4 c5 c6 c7 c8
    obtain ⟨HB1, c0, c1, c2, c3, c4, c5, c6, c7, c8⟩ := HC.out W1 H1.out
    go_wp2_with fail
    refine (HVE.out _ (by rw [HN.out]; exact HB1.out) HE3.out).mono ?_
    rintro e W2 ⟨rfl, hb2⟩
    have H2 : Hid (Below (N + 1) W W2) := Lib.hid (H1.out.trans (hb2.mono (by have := H1.out.size; have := HS.out; omega)))
    clear hb2 c0 c1 c2 c3 c4 c5 c6 c7 c8
    obtain ⟨HB2, c0, c1, c2, c3, c4, c5, c6, c7, c8⟩ := HC.out W2 H2.out
    go_wp2_with fail
    go_ret
    exact ⟨rfl, by rw [HN.out]; exact HB2.out⟩
  all_goals
    have hk1 := hk
    dsimp only at hk1
    subst hk1
    obtain ⟨g1, g2, g3⟩ := HG.out.put (by first | exact .inl rfl | exact .inr rfl)
    have g1 : cp = path := g1
    subst g1
    have q2 : cf.toList.isEmpty = true := empty_of_size g2
    have HE3 := Lib.hid g3
    clear hk g2 g3
    go_wp2_with fail
    refine (HVE.out _ HW.out HE3.out).mono ?_
    rintro e W2 ⟨rfl, hb2⟩
    have H2 : Hid (Below (N + 1) W W2) := Lib.hid (hb2.mono (by have := HS.out; omega))
    clear hb2 c0 c1 c2 c3 c4 c5 c6 c7 c8
    obtain ⟨HB2, c0, c1, c2, c3, c4, c5, c6, c7, c8⟩ := HC.out W2 H2.out
    go_wp2_with fail
    go_ret
    exact ⟨rfl, by rw [HN.out]; exact HB2.out⟩
end Go.Proofs.YtmcbnhkcjhlbaaaGreatDoor.Tp
end
section
namespace Go.Proofs.YtmcbnhkcjhlbaaaGreatDoor.Tp
open Go.RowKit
open Kit (Chg)
open Go.Maps
open Go.WideMaps
open Go.Proofs.YtmcbnhkcjhlbaaaGreatDoor.One

def FV.p (x : FV) : Bs := x.e.p
def FV.val (x : FV) : Value := .agg x.row
def findF (xs : List FV) (p : Bs) : Option FV := xs.reverse.find? fun x => decide (x.p = p)
theorem findF_snoc (xs : List FV) (x : FV) (p : Bs) : findF (xs ++ [x]) p = if p = x.p then some x else findF xs p := by
  unfold findF
  rw [List.reverse_append, List.reverse_cons, List.reverse_nil, List.nil_append, List.singleton_append, List.find?_cons]
  by_cases h : x.p = p
  · rw [if_pos h.symm, decide_eq_true h]
  · rw [if_neg (Ne.symm h), decide_eq_false h]
theorem findF_some {xs : List FV} {p : Bs} {x : FV} (h : findF xs p = some x) : x ∈ xs ∧ x.p = p :=
  ⟨List.mem_reverse.1 (List.mem_of_find?_eq_some h), by have h1 := List.find?_some h; exact of_decide_eq_true (p := x.p = p) h1⟩
theorem findF_none {xs : List FV} {p : Bs} (h : findF xs p = none) : ∀ x ∈ xs, x.p ≠ p := fun x hx hp => List.find?_eq_none.1 h x (List.mem_reverse.2 hx) (by rw [decide_eq_true_eq]; exact hp)
def entM (m : Bs → Option FV) (p : Bs) : Option Value := (m p).map FV.val
theorem entM_snoc (xs : List FV) (x : FV) (p : Bs) : entM (findF (xs ++ [x])) p = if p = x.p then some x.val else entM (findF xs) p := by
  unfold entM
  rw [findF_snoc]
  split <;> rfl
set_option maxRecDepth 100000 in
set_option maxHeartbeats 4000000 in
theorem byPath_any (a : Option Addr) (n cap : Nat) (xs : List FV) (hn : xs.length = n) (hcap : n ≤ cap) (hm : n ≤ 5000000) (w : World) (hX : FEsAt w a xs) : Calls Tryz.prog 41 #[.slice a n cap] w fun e w' => ∃ bm, e = .returned (.map (some bm)) ∧ w.heap.size ≤ bm ∧ MapS w' bm n (entM (findF xs)) ∧ Below w.heap.size w w' := by
  have HN := Lib.hid hn
  have HX := Lib.hid hX
  clear hn hX
  have hmm := fun (w : World) => run_makeMap_hint (t := 109) Tryz.underlying109 (n : Int) w
  go_enter Tryz.func41, Tryz.ntmps41
  go_upto_region 2 with fail
  refine wp_over (fun V => Hid (MapS V w.heap.size 0 (entM (findF []))) ∧ Hid (Below w.heap.size w V)) ⟨Lib.hid ((MapS.start w).congr (fun p => rfl)), Lib.hid ((Below.refl _ _).alloc (Nat.le_refl _) _)⟩ ?_
  rintro W0 ⟨HM0, HB0⟩
  obtain ⟨bm, hbm⟩ := ex_eq w.heap.size
  rw [hbm] at HM0 ⊢
  have HBM : Hid (w.heap.size ≤ bm) := Lib.hid (by omega)
  clear hmm
  go_wp2
  go_loopw [11] (fun i wr => ∃ k : Nat, k ≤ n ∧ i = .int .i64 k ∧ Below w.heap.size w wr ∧ MapS wr bm k (entM (findF (xs.take k)))) (fun i _ => n - (intOf i).toNat)
  case atStart => exact ⟨0, Nat.zero_le _, rfl, by first | exact HB0.out | (rw [hbm]; exact HB0.out) | (rw [← hbm]; exact HB0.out), HM0.out⟩
  case round =>
    obtain ⟨k, hk, rfl, hb, hP⟩ := hrel
    have HB := Lib.hid hb
    have HMK := Lib.hid hP
    clear hb hP
    by_cases hlt : k < n
    rotate_left
    · have HFIN : Hid (MapS wr bm n (entM (findF xs))) := Lib.hid (by
        have h1 := HMK.out
        have e : k = n := by omega
        rw [e, List.take_of_length_le (by rw [HN.out]; exact Nat.le_refl _)] at h1
        exact h1)
      go_wp2
      go_ret
      exact ⟨bm, rfl, by first | exact HBM.out | (rw [hbm]; exact Nat.le_refl _) | exact Nat.le_refl _, HFIN.out, by first | exact HB.out | (rw [hbm]; exact HB.out) | (rw [← hbm]; exact HB.out)⟩
    have hkx : k < xs.length := by rw [HN.out]; exact hlt
    have HXW := Lib.hid (HX.out.later (by first | exact HB.out | (rw [hbm]; exact HB.out) | (rw [← hbm]; exact HB.out)))
    obtain ⟨b, o, rfl, c0, c1, c2, c3, c4, c5⟩ := HXW.out.six k hkx
    obtain ⟨x, hx⟩ : ∃ x, xs[k] = x := ⟨_, rfl⟩
    rw [hx] at c0 c1 c2 c3 c4 c5
    have HXO : Hid (x.ok wr) := Lib.hid (by rw [← hx]; exact HXW.out.2 _ (List.getElem_mem hkx))
    have HTK : Hid (xs.take (k + 1) = xs.take k ++ [x]) := Lib.hid (by rw [List.take_succ_eq_append_getElem hkx, hx])
    clear hx
    obtain ⟨⟨path, kind, mode, time, data, link⟩, da, dc⟩ := x
    dsimp only at c0 c1 c2 c3 c4 c5
    go_upto_region 5 with fail
    refine wp_over (fun V => Hid (V.cell? ⟨wr.heap.size, 0, none⟩ = some (.string path) ∧ V.cell? ⟨wr.heap.size, 1, none⟩ = some (.int .i64 kind) ∧ V.cell? ⟨wr.heap.size, 2, none⟩ = some (.int .i64 mode) ∧ V.cell? ⟨wr.heap.size, 3, none⟩ = some (.int .i64 time) ∧ V.cell? ⟨wr.heap.size, 4, none⟩ = some (.slice da data.length dc) ∧ V.cell? ⟨wr.heap.size, 5, none⟩ = some (.string link)) ∧ Hid (Below wr.heap.size wr V) ∧ Hid (V.heap.size = wr.heap.size + 1)) ⟨Lib.hid (new_row6 (x := (⟨⟨path, kind, mode, time, data, link⟩, da, dc⟩ : FV))), Lib.hid ((Below.refl _ _).alloc (Nat.le_refl _) _), Lib.hid (by simp)⟩ ?_
    rintro W ⟨H6, HWB, HWS⟩
    have hmap := HMK.out.later HWB.out
    obtain ⟨N, hN⟩ := ex_eq wr.heap.size
    have HBW : Hid (Below w.heap.size w W) := Lib.hid (by
      have h1 : Below w.heap.size w wr := by first | exact HB.out | (rw [hbm]; exact HB.out) | (rw [← hbm]; exact HB.out)
      exact h1.trans (HWB.out.mono h1.size))
    rw [hN] at H6 HWB HWS ⊢
    clear hN c0 c1 c2 c3 c4 c5
    obtain ⟨c0, c1, c2, c3, c4, c5⟩ := H6.out
    obtain ⟨W3, hput, hm3, hg3, hs3⟩ := hmap.put (t := 109) (e := 54) Tryz.underlying109 (by unfold maxLen; omega) path (size_maxLen HXO.out.sp) (.agg #[.string path, .int .i64 kind, .int .i64 mode, .int .i64 time, .slice da data.length dc, .string link])
    have H3 : Hid (Below w.heap.size w W3) := Lib.hid (HBW.out.grown hg3 HBW.out.size (fun q e => by cases e; rw [hbm]; exact Nat.le_refl _))
    have HREL : Hid (MapS W3 bm (k + 1) (entM (findF (xs.take (k + 1))))) := Lib.hid (by
      refine hm3.congr (fun p => ?_)
      rw [HTK.out, entM_snoc]
      rfl)
    clear hmap hm3 hg3 hs3
    go_wp2_with fail
    go_roundw
    case rel => exact ⟨k + 1, by omega, by go_num, by first | exact H3.out | (rw [hbm]; exact H3.out) | (rw [← hbm]; exact H3.out), HREL.out⟩
    case measure => simp [intOf]; omega
end Go.Proofs.YtmcbnhkcjhlbaaaGreatDoor.Tp
end
section
namespace Go.Proofs.YtmcbnhkcjhlbaaaGreatDoor.Tp
open Go.RowKit
open Kit (Chg)
open Go.Maps
open Go.WideMaps
open Go.WideElems
open Go.Proofs.YtmcbnhkcjhlbaaaGreatDoor.One

theorem contLaw : KeyLaw Tryz.prog 176 := deep_law_laid Tryz.laidQ (m := 3) (by omega) (of_decide_eq_true (by kernel_rfl)) (by kernel_rfl) (by kernel_rfl)
theorem contKeyed : Keyed Tryz.prog 176 := Keyed.of_law contLaw
theorem contDeep : Tryz.prog.keyType 176 = true := by kernel_rfl
theorem contKey {k : Int} {s : ByteArray} (hs : s.size ≤ maxLen) (hk : (Lit.int .i64 k).wf = true) : ∃ l, keyOf Tryz.prog 176 (contV k s) = some l := by
  obtain ⟨m, hm⟩ := Tryz.sizeT
  unfold contV
  rw [keyOf_two Tryz.underlying176 contDeep (by kernel_rfl), hm, agg_cells2 _ _ rfl rfl, keyLits_two Tryz.underlying176 (by kernel_rfl) (by decide) (by decide) rfl rfl (by kernel_rfl) (by kernel_rfl), keyLits_int Tryz.underlying3, keyLits_str Tryz.underlying9]
  simp only [hs, hk, and_self, if_true]
  exact ⟨_, rfl⟩
theorem contInv {key : Value} {l : Lit} (h : keyOf Tryz.prog 176 key = some l) : ∃ k s, key = contV k s := by
  obtain ⟨m, hm⟩ := Tryz.sizeT
  obtain ⟨a, b, rfl⟩ := keyOf_shape Tryz.underlying176 (by kernel_rfl) h
  rw [keyOf_two Tryz.underlying176 contDeep (by kernel_rfl), hm] at h
  have hc : (Value.agg #[a, b]).cells.toList = [a, b] := rfl
  rw [hc, keyLits_two Tryz.underlying176 (by kernel_rfl) (by decide) (by decide) rfl rfl (by kernel_rfl) (by kernel_rfl), keyLits_int Tryz.underlying3, keyLits_str Tryz.underlying9] at h
  cases a with
  | int q i =>
    cases b with
    | string s =>
      simp only at h
      by_cases h2 : q = .i64 ∧ (Lit.int .i64 i).wf = true
      · obtain ⟨rfl, h2⟩ := h2
        exact ⟨i, s, rfl⟩
      · rw [if_neg h2] at h; cases h
    | _ => simp only at h; by_cases h1 : q = .i64 ∧ (Lit.int .i64 i).wf = true <;> simp [h1] at h
  | _ => simp at h
def liftC (S : Int × ByteArray → Option Value) : Value → Option Value
  | .agg a => match a.toList with
    | [.int _ k, .string s] => S (k, s)
    | _ => none
  | _ => none
theorem liftC_at (S : Int × ByteArray → Option Value) (k : Int) (s : ByteArray) : liftC S (contV k s) = S (k, s) := rfl
def MapC (w : World) (b n : Nat) (S : Int × ByteArray → Option Value) : Prop := MapV Tryz.prog 176 w b n (liftC S)
theorem MapC.start (w : World) : MapC (w.alloc (.map #[] 0)) w.heap.size 0 (fun _ => none) := (MapV.start (P := Tryz.prog) (k := 176) w).congr (fun key kl h => by obtain ⟨k, s, rfl⟩ := contInv h; rfl)
theorem MapC.keep {w w' : World} {b n : Nat} {S : Int × ByteArray → Option Value} (h : MapC w b n S) (he : w'.heap[b]? = w.heap[b]?) : MapC w' b n S := MapV.keep h he
theorem MapC.lt {w : World} {b n : Nat} {S : Int × ByteArray → Option Value} (h : MapC w b n S) : b < w.heap.size := MapV.lt h
theorem MapC.later {w w' : World} {b n : Nat} {S : Int × ByteArray → Option Value} (h : MapC w b n S) (hb : Below w.heap.size w w') : MapC w' b n S := MapV.later h hb
theorem MapC.low {w w' : World} {b n N : Nat} {S : Int × ByteArray → Option Value} (h : MapC w b n S) (hb : Below N w w') (hN : b < N) : MapC w' b n S := h.keep (hb.block b hN)
theorem MapC.mono {w : World} {b n n' : Nat} {S : Int × ByteArray → Option Value} (h : MapC w b n S) (hn : n ≤ n') : MapC w b n' S := MapV.mono h hn
theorem liftC_upd (S : Int × ByteArray → Option Value) (k : Int) (s : ByteArray) (v : Value) {x : Value} {l : Lit} (hx : keyOf Tryz.prog 176 x = some l) (hne : x ≠ contV k s) : liftC (fun c => if c = (k, s) then some v else S c) x = liftC S x := by
  obtain ⟨k', s', rfl⟩ := contInv hx
  rw [liftC_at, liftC_at, if_neg]
  intro e
  cases e
  exact hne rfl
theorem MapC.look1 {w : World} {b n : Nat} {S : Int × ByteArray → Option Value} (h : MapC w b n S) (k : Int) (s : ByteArray) (hk : (Lit.int .i64 k).wf = true) (hs : s.size ≤ maxLen) :
    (Instr.lookup 174 (.map (some b)) (.agg #[.int .i64 k, .string s]) false).run Tryz.prog w = .ok ((S (k, s)).getD (.slice none 0 0)) w := by
  obtain ⟨l, hl⟩ := contKey hs hk
  exact MapV.look1 h contKeyed Tryz.underlying174 (z := .slice none 0 0) (by kernel_rfl) hl
theorem MapC.put {w : World} {b n : Nat} {S : Int × ByteArray → Option Value} (h : MapC w b n S) (hn : n < maxLen) (k : Int) (s : ByteArray) (hk : (Lit.int .i64 k).wf = true) (hs : s.size ≤ maxLen) (v : Value) :
    ∃ w', (Instr.mapUpdate 174 (.map (some b)) (.agg #[.int .i64 k, .string s]) v).run Tryz.prog w = .ok () w' ∧ MapC w' b (n + 1) (fun c => if c = (k, s) then some v else S c) ∧ w.grownBy w' (some b) ∧ w'.heap.size = w.heap.size := by
  obtain ⟨l, hl⟩ := contKey hs hk
  refine MapV.put h contKeyed Tryz.underlying174 hn hl v _ ?_ ?_
  · show liftC _ (contV k s) = _
    rw [liftC_at, if_pos rfl]
  · intro x l' hx hne
    exact liftC_upd S k s v hx hne
theorem MapC.entry {w : World} {b n : Nat} {S : Int × ByteArray → Option Value} (h : MapC w b n S) (hn : n < maxLen) (k : Int) (s : ByteArray) (hk : (Lit.int .i64 k).wf = true) (hs : s.size ≤ maxLen) :
    ∃ (st : Nat) (w1 : World), (Instr.mapEntry 174 (.map (some b)) (.agg #[.int .i64 k, .string s])).run Tryz.prog w = .ok (.tuple #[(S (k, s)).getD (.slice none 0 0), .int .i64 st]) w1 ∧ w.grownBy w1 (some b) ∧ w1.heap.size = w.heap.size ∧
      ∀ (w2 : World) (v : Value), w2.heap[b]? = w1.heap[b]? →
        ∃ w3, (Instr.entryStore 174 (.map (some b)) (.int .i64 st) v).run Tryz.prog w2 = .ok () w3 ∧ MapC w3 b (n + 1) (fun c => if c = (k, s) then some v else S c) ∧ w2.grownBy w3 (some b) ∧ w3.heap.size = w2.heap.size := by
  obtain ⟨l, hl⟩ := contKey hs hk
  obtain ⟨st, w1, h1, h2, h3, h4⟩ := MapV.entry h contLaw contKeyed Tryz.underlying174 hn (z := .slice none 0 0) (fun u => by kernel_rfl) hl
  refine ⟨st, w1, h1, h2, h3, fun w2 v he => ?_⟩
  refine h4 w2 v _ he ?_ (fun x l' hx hne => liftC_upd S k s v hx hne)
  show liftC _ (contV k s) = _
  rw [liftC_at, if_pos rfl]
/-! ### rows of strings -/
def strC (s : ByteArray) : List Value := [.string s]
theorem kindStr : Kind Tryz.prog strC 1 130 9 (.string ByteArray.empty) 16 := ⟨fun _ => rfl, fun x v h => by rw [List.mem_singleton.1 h]; rfl, by decide, Tryz.underlying130, by kernel_rfl, rfl, by decide⟩
def StrRow (w : World) (base : Nat) (v : Value) (ss : List ByteArray) : Prop := w.ownsRow base 9 1 v ss.length (ss.flatMap strC)
theorem strRow_nil (w : World) (base : Nat) : StrRow w base (.slice none 0 0) [] := World.ownsRow_nil _ _ _ _
structure SrcsAt (w : World) (base : Nat) (S : Int × ByteArray → Option Value) (Src : Int × ByteArray → List ByteArray) : Prop where
  row : ∀ c v, S c = some v → StrRow w base v (Src c)
  no : ∀ c, S c = none → Src c = []
  apart : ∀ c c' v v', S c = some v → S c' = some v' → c ≠ c' → v.ownBlock = none ∨ v.ownBlock ≠ v'.ownBlock
theorem SrcsAt.start (w : World) (base : Nat) : SrcsAt w base (fun _ => none) (fun _ => []) := ⟨(fun c v h => by cases h), (fun _ _ => rfl), (fun c c' v v' h => by cases h)⟩
theorem SrcsAt.later {w w' : World} {base : Nat} {S : Int × ByteArray → Option Value} {Src : Int × ByteArray → List ByteArray} (h : SrcsAt w base S Src) (hb : Below w.heap.size w w') : SrcsAt w' base S Src := ⟨fun c v e => own_later (h.row c v e) hb, h.no, h.apart⟩
theorem SrcsAt.grown {w w' : World} {base g : Nat} {S : Int × ByteArray → Option Value} {Src : Int × ByteArray → List ByteArray} (h : SrcsAt w base S Src) (hg : w.grownBy w' (some g)) (hn : ∀ c v, S c = some v → v.ownBlock ≠ some g) : SrcsAt w' base S Src := ⟨fun c v e => (h.row c v e).kept hg (.inr (hn c v e)), h.no, h.apart⟩
theorem SrcsAt.srcRow {w : World} {base : Nat} {S : Int × ByteArray → Option Value} {Src : Int × ByteArray → List ByteArray} (h : SrcsAt w base S Src) (c : Int × ByteArray) : StrRow w base ((S c).getD (.slice none 0 0)) (Src c) := by
  cases hs : S c with
  | none => rw [h.no c hs]; exact strRow_nil _ _
  | some v => exact h.row c v hs
theorem SrcsAt.snoc {w w' : World} {base : Nat} {S : Int × ByteArray → Option Value} {Src : Int × ByteArray → List ByteArray} (h : SrcsAt w base S Src) (c : Int × ByteArray) (s : ByteArray) (v' : Value) (hg : w.grownBy w' (((S c).getD (.slice none 0 0)).ownBlock)) (hv : StrRow w' base v' (Src c ++ [s])) (hnew : v'.ownBlock = ((S c).getD (.slice none 0 0)).ownBlock ∨ ∀ g, v'.ownBlock = some g → w.heap.size ≤ g) :
    SrcsAt w' base (fun x => if x = c then some v' else S x) (fun x => if x = c then Src c ++ [s] else Src x) := by
  have hlt : ∀ x u g, S x = some u → u.ownBlock = some g → g < w.heap.size := fun x u g hu e => ((h.row x u hu).lt g e).2
  have hap : ∀ x u, S x = some u → x ≠ c → u.ownBlock = none ∨ u.ownBlock ≠ ((S c).getD (.slice none 0 0)).ownBlock := fun x u hu hne => by
    cases hc : S c with
    | none =>
      by_cases e : u.ownBlock = none
      · exact .inl e
      · exact .inr (fun e2 => e (e2.trans rfl))
    | some v => exact h.apart x c u v hu hc hne
  have hap' : ∀ x u, S x = some u → x ≠ c → u.ownBlock = none ∨ u.ownBlock ≠ v'.ownBlock := fun x u hu hne => by
    rcases hap x u hu hne with e | e
    · exact .inl e
    · rcases hnew with h1 | h1
      · exact .inr (by rw [h1]; exact e)
      · cases hb : u.ownBlock with
        | none => exact .inl rfl
        | some g => exact .inr (fun e2 => by have := h1 g e2.symm; have := hlt x u g hu hb; omega)
  refine ⟨fun x v hx => ?_, fun x hx => ?_, fun x y v u hx hy hne => ?_⟩
  · by_cases e : x = c
    · subst e
      simp only [if_true] at hx ⊢
      cases hx
      exact hv
    · simp only [if_neg e] at hx ⊢
      refine (h.row x v hx).kept hg ?_
      exact hap x v hx e
  · by_cases e : x = c
    · subst e
      simp only [if_true] at hx
      cases hx
    · simp only [if_neg e] at hx ⊢
      exact h.no x hx
  · by_cases e : x = c
    · have hy2 : y ≠ c := fun e2 => hne (e.trans e2.symm)
      simp only [if_pos e] at hx
      simp only [if_neg hy2] at hy
      cases hx
      cases hb : v'.ownBlock with
      | none => exact .inl rfl
      | some g =>
        rcases hap' y u hy hy2 with h1 | h1
        · exact .inr (by rw [h1]; simp)
        · exact .inr (fun e2 => h1 (by rw [← e2, hb]))
    · by_cases e2 : y = c
      · simp only [if_neg e] at hx
        simp only [if_pos e2] at hy
        cases hy
        exact hap' x v hx e
      · simp only [if_neg e] at hx
        simp only [if_neg e2] at hy
        exact h.apart x y v u hx hy hne
end Go.Proofs.YtmcbnhkcjhlbaaaGreatDoor.Tp
end
