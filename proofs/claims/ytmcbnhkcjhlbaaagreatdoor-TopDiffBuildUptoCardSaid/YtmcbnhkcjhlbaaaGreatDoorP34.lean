/- Texts Tcj of the proof, each as a section; no premises beyond those that each theorem states. -/
import Derived.Test.YtmcbnhkcjhlbaaaGreatDoorP15
import Derived.Test.YtmcbnhkcjhlbaaaGreatDoorP33
set_option linter.unusedVariables false
set_option linter.unusedSimpArgs false
namespace Go.Proofs.YtmcbnhkcjhlbaaaGreatDoor.Tp
open Go.RowKit
open Kit (Chg)
open Go.Proofs.YtmcbnhkcjhlbaaaGreatDoor.One

theorem fewE_iff {xs : List FV} : fewE xs = true ↔ (∀ x ∈ xs, x.e.data.length ≤ 60) ∧ xs.length ≤ 8 := by
  unfold fewE
  rw [Bool.and_eq_true, decide_eq_true_eq, decide_eq_true_eq]
theorem smallT_of {xs : List FV} (h : fewE xs = true) (ho : OkTree (xs.map FV.e)) (ht : ∀ x ∈ xs, x.e.time ≤ 9223372036854775807) : SmallT (xs.map FV.e) := by
  obtain ⟨h1, h2⟩ := fewE_iff.1 h
  refine ⟨ho, by rw [List.length_map]; exact h2, fun e he => ?_, fun e he => ?_⟩
  · obtain ⟨x, hx, rfl⟩ := List.mem_map.1 he
    exact h1 x hx
  · obtain ⟨x, hx, rfl⟩ := List.mem_map.1 he
    exact ht x hx
theorem erow_at {w : World} {base : Nat} {v : Value} {L : List FV} (h : ERow w base v L) : ∃ a cap, v = .slice a L.length cap ∧ L.length ≤ cap ∧ FEsAt w a L := by
  obtain ⟨a, cap, h1, h2, h3, h4, h5, h6⟩ := rows_of_own FV.len (by decide) h.own
  exact ⟨a, cap, h1, h3, h5, h.ok⟩
set_option maxRecDepth 100000 in
set_option maxHeartbeats 4000000 in
theorem walk_TopDiffBuild (x : Nat) (a : Option Addr) (ca na : Nat) (xa : List FV) (b : Option Addr) (cb nb : Nat) (xb : List FV) (w : World) (hx : x < 256) (hna : xa.length = na) (hca : na ≤ ca) (hma : na ≤ 4000000) (hta : ∀ y ∈ xa, y.e.time ≤ 9223372036854775807) (hA : FEsAt w a xa) (hnb : xb.length = nb) (hcb : nb ≤ cb) (hmb : nb ≤ 4000000) (htb : ∀ y ∈ xb, y.e.time ≤ 9223372036854775807) (hB : FEsAt w b xb) (hT : Top w) : Calls Tryz.prog 4 #[.int .u8 (x : Int), .slice a na ca, .slice b nb cb] w fun e w' => e = .returned (.bool true) ∧ Below w.heap.size w w' := by
  have HX := Lib.hid hx
  have HNA := Lib.hid hna
  have HNB := Lib.hid hnb
  have HTA := Lib.hid hta
  have HTB := Lib.hid htb
  have HA := Lib.hid hA
  have HB := Lib.hid hB
  have HT := Lib.hid hT
  have HCC : Hid (na ≤ ca ∧ nb ≤ cb ∧ na ≤ 4000000 ∧ nb ≤ 4000000) := Lib.hid ⟨hca, hcb, hma, hmb⟩
  have HAW := Lib.hid (awake12_any w hT)
  have HFA := Lib.hid (fun V (h : Below w.heap.size w V) => fewEntries_any a na ca xa hna hma V (hA.later h))
  have HFB := Lib.hid (fun V (h : Below w.heap.size w V) => fewEntries_any b nb cb xb hnb hmb V (hB.later h))
  have HCA := Lib.hid (fun V (h : Below w.heap.size w V) => refCheck_any a na ca xa hna hca hma V (hA.later h))
  have HCB := Lib.hid (fun V (h : Below w.heap.size w V) => refCheck_any b nb cb xb hnb hcb hmb V (hB.later h))
  clear hx hna hca hma hta hA hnb hcb hmb htb hB hT
  obtain ⟨fa, hfa⟩ := ex_eq (fewE xa)
  obtain ⟨fb, hfb⟩ := ex_eq (fewE xb)
  rw [hfa] at HFA
  rw [hfb] at HFB
  have HFA1 := Lib.hid hfa
  have HFB1 := Lib.hid hfb
  clear hfa hfb
  go_enter Tryz.func4, Tryz.ntmps4
  go_upto_region 3 with (first
    | (go_at_call 5
       (with_reducible refine HAW.out.mono ?_)
       rintro e W ⟨rfl, hb⟩
       have HW := Lib.hid hb
       clear hb))
  cases fa with
  | false =>
    go_wp2_with (first
      | (go_at_call 6
         (with_reducible refine (HFA.out _ HW.out).mono ?_)
         rintro e W1 ⟨rfl, rfl⟩))
    go_ret
    exact ⟨rfl, HW.out⟩
  | true =>
  cases fb with
  | false =>
    go_wp2_with (first
      | (go_at_call 6
         (with_reducible refine (HFA.out _ HW.out).mono ?_)
         rintro e W1 ⟨rfl, hw1⟩
         replace hw1 := hw1.symm
         subst hw1)
      | (go_at_call 6
         (with_reducible refine (HFB.out _ HW.out).mono ?_)
         rintro e W1 ⟨rfl, hw1⟩
         replace hw1 := hw1.symm
         subst hw1))
    go_ret
    exact ⟨rfl, HW.out⟩
  | true =>
  go_upto_region 5 with (first
    | (go_at_call 6
       (with_reducible refine (HFA.out _ HW.out).mono ?_)
       rintro e W1 ⟨rfl, hw1⟩
       replace hw1 := hw1.symm
       subst hw1)
    | (go_at_call 6
       (with_reducible refine (HFB.out _ HW.out).mono ?_)
       rintro e W1 ⟨rfl, hw1⟩
       replace hw1 := hw1.symm
       subst hw1)
    | (go_at_call 7
       (with_reducible refine (HCA.out _ HW.out).mono ?_)
       rintro e W1 ⟨r1, rfl, hr1, hb⟩
       have HR1 := Lib.hid hr1
       have HB1 := Lib.hid hb
       have HW1 : Hid (Below w.heap.size w W1) := Lib.hid (HW.out.trans (hb.mono HW.out.size))
       clear hr1 hb
       by_cases h1 : r1 = 0)
    | (go_at_call 7
       (with_reducible refine (HCB.out _ HW1.out).mono ?_)
       rintro e W2 ⟨r2, rfl, hr2, hb⟩
       have HR2 := Lib.hid hr2
       have HB2 := Lib.hid hb
       have HW2 : Hid (Below w.heap.size w W2) := Lib.hid (HW1.out.trans (hb.mono HW1.out.size))
       clear hr2 hb
       by_cases h2 : r2 = 0))
  rotate_left
  · go_ret
    exact ⟨rfl, HW2.out⟩
  · go_ret
    exact ⟨rfl, HW1.out⟩
  have HEA : Hid (SmallT (xa.map FV.e)) := Lib.hid (smallT_of HFA1.out (HR1.out h1) HTA.out)
  have HEB : Hid (SmallT (xb.map FV.e)) := Lib.hid (smallT_of HFB1.out (HR2.out h2) HTB.out)
  have HT2 := Lib.hid (HT.out.later HW2.out)
  have HA2 := Lib.hid (HA.out.later HW2.out)
  have HB2' := Lib.hid (HB.out.later HW2.out)
  have HDF := Lib.hid (diff_any a na ca xa b nb cb xb HNA.out HNB.out HCC.out.1 HCC.out.2.1 W2 HA2.out HB2'.out HEA.out.ok HEB.out.ok HT2.out)
  go_upto_region 6 with (first
    | (go_at_call 15
       (with_reducible refine HDF.out.mono ?_)
       rintro e W3 ⟨v, L, B3, rfl, hB, hrow, hl, hd, hb⟩
       obtain ⟨la, lc, hv, hlc, hcs⟩ := hrow.at
       subst hv
       have HCS := Lib.hid hcs
       have HLC := Lib.hid hlc
       have HLL := Lib.hid hl
       have HD3 := Lib.hid hd
       have HW3 : Hid (Below w.heap.size w W3) := Lib.hid (HW2.out.trans (hb.mono HW2.out.size))
       clear hB hrow hlc hcs hl hd hb))
  obtain ⟨m, hm⟩ := ex_eq L.length
  have HM := Lib.hid hm
  rw [hm] at HLC HLL ⊢
  clear hm
  have HT3 := Lib.hid (HT.out.later HW3.out)
  have HA3 := Lib.hid (HA.out.later HW3.out)
  have HAP := Lib.hid (apply_any a na ca xa la m lc L (xb.map FV.e) HNA.out HCC.out.1 HM.out HLC.out HLL.out W3 HA3.out HEA.out.ok HEB.out.ok HCS.out HD3.out HT3.out)
  go_upto_region 7 with (first
    | (go_at_call 16
       (with_reducible refine HAP.out.mono ?_)
       rintro e W4 ⟨v, xc, B4, rfl, hB, hrow, hx, hb⟩
       obtain ⟨c1, c2, hv, hc, hat⟩ := erow_at hrow
       subst hv
       have HXC := Lib.hid hx
       have HC2 := Lib.hid hc
       have HCA4 := Lib.hid hat
       have HB4 := Lib.hid hb
       have HW4 : Hid (Below w.heap.size w W4) := Lib.hid (HW3.out.trans (hb.mono HW3.out.size))
       clear hB hrow hx hc hat hb))
  obtain ⟨nc, hnc⟩ := ex_eq xc.length
  have HNC := Lib.hid hnc
  rw [hnc] at HC2 ⊢
  clear hnc
  have HT4 := Lib.hid (HT.out.later HW4.out)
  have HA4 := Lib.hid (HA.out.later HW4.out)
  have HCS4 := Lib.hid (HCS.out.later HB4.out)
  have HIN := Lib.hid (invert_any a na ca xa la m lc L (xb.map FV.e) HNA.out HCC.out.1 HM.out HLC.out HLL.out W4 HA4.out HEA.out.ok HEB.out.ok HCS4.out HD3.out HT4.out)
  go_upto_region 8 with (first
    | (go_at_call 17
       (with_reducible refine HIN.out.mono ?_)
       rintro e W5 ⟨v, L2, B5, rfl, hB, hrow, hl, hd, hb⟩
       obtain ⟨ma, mc, hv, hlc, hcs⟩ := hrow.at
       subst hv
       have HCS5 := Lib.hid hcs
       have HLC5 := Lib.hid hlc
       have HLL5 := Lib.hid hl
       have HD5 : Hid (DiffOf (xc.map FV.e) (xa.map FV.e) L2) := Lib.hid (by rw [HXC.out]; exact hd)
       have HB5 := Lib.hid hb
       have HW5 : Hid (Below w.heap.size w W5) := Lib.hid (HW4.out.trans (hb.mono HW4.out.size))
       clear hB hrow hlc hcs hl hd hb))
  obtain ⟨m2, hm⟩ := ex_eq L2.length
  have HM5 := Lib.hid hm
  rw [hm] at HLC5 HLL5 ⊢
  clear hm
  have HT5 := Lib.hid (HT.out.later HW5.out)
  have HC5 := Lib.hid (HCA4.out.later HB5.out)
  have HEC : Hid (SmallT (xc.map FV.e)) := Lib.hid (by rw [HXC.out]; exact HEB.out)
  have HAP2 := Lib.hid (apply_any c1 nc c2 xc ma m2 mc L2 (xa.map FV.e) HNC.out HC2.out HM5.out HLC5.out HLL5.out W5 HC5.out HEC.out.ok HEA.out.ok HCS5.out HD5.out HT5.out)
  go_upto_region 11 with (first
    | (go_at_call 16
       (with_reducible refine HAP2.out.mono ?_)
       rintro e W6 ⟨v, xd, B6, rfl, hB, hrow, hx, hb⟩
       obtain ⟨d1, d2, hv, hc, hat⟩ := erow_at hrow
       subst hv
       have HXD := Lib.hid hx
       have HD2 := Lib.hid hc
       have HDA6 := Lib.hid hat
       have HB6 := Lib.hid hb
       have HW6 : Hid (Below w.heap.size w W6) := Lib.hid (HW5.out.trans (hb.mono HW5.out.size))
       clear hB hrow hx hc hat hb))
  obtain ⟨nd, hnd⟩ := ex_eq xd.length
  have HND := Lib.hid hnd
  rw [hnd] at HD2 ⊢
  clear hnd
  have HT6 := Lib.hid (HT.out.later HW6.out)
  have HC6 := Lib.hid (HC5.out.later HB6.out)
  have HED : Hid (SmallT (xd.map FV.e)) := Lib.hid (by rw [HXD.out]; exact HEA.out)
  have HFK0 := Lib.hid (fixedKeys_any x HX.out W6)
  have HBA := Lib.hid (fun V (h : Below W6.heap.size W6 V) => buildRoot_any x HX.out a na ca xa HNA.out HCC.out.1 V ((HA.out.later HW6.out).later h) HEA.out (HT6.out.later h))
  have HBB := Lib.hid (fun V (h : Below W6.heap.size W6 V) => buildRoot_any x HX.out b nb cb xb HNB.out HCC.out.2.1 V ((HB.out.later HW6.out).later h) HEB.out (HT6.out.later h))
  have HBC := Lib.hid (fun V (h : Below W6.heap.size W6 V) => buildRoot_any x HX.out c1 nc c2 xc HNC.out HC2.out V (HC6.out.later h) HEC.out (HT6.out.later h))
  have HBD := Lib.hid (fun V (h : Below W6.heap.size W6 V) => buildRoot_any x HX.out d1 nd d2 xd HND.out HD2.out V (HDA6.out.later h) HED.out (HT6.out.later h))
  rw [HXC.out] at HBC
  rw [HXD.out] at HBD
  obtain ⟨ra, hra⟩ := ex_eq (rootR (keys32 x) (cut22 0) (xa.map FV.e))
  obtain ⟨rb, hrb⟩ := ex_eq (rootR (keys32 x) (cut22 0) (xb.map FV.e))
  rw [hra] at HBA HBD
  rw [hrb] at HBB HBC
  clear hra hrb
  obtain ⟨K, hK⟩ := ex_eq (keys32 x)
  rw [hK] at HBA HBB HBC HBD HFK0
  clear hK
  obtain ⟨kn, ks, kc, ki, kt⟩ := K
  obtain ⟨an, az⟩ := ra
  obtain ⟨bn, bz⟩ := rb
  unfold KV.row RefP.row at HBA HBB HBC HBD
  unfold KV.row at HFK0
  dsimp only at HBA HBB HBC HBD HFK0
  have HFK := HFK0
  clear HFK0
  go_upto_region 12 with (first
    | (go_at_call 9
       (with_reducible refine HFK.out.mono ?_)
       rintro e W7 ⟨rfl, hb⟩
       have HB7 := Lib.hid hb
       clear hb))
  refine wp_over (fun V => Hid (V.heap[W7.heap.size]? = some (.cells #[.string kn, .string ks, .string kc, .string ki, .string kt] 38 (0, 0))) ∧ Hid (Below W7.heap.size W7 V)) ⟨Lib.hid (heap_alloc_new _ _), Lib.hid ((Below.refl _ _).alloc (Nat.le_refl _) _)⟩ ?_
  rintro V0 ⟨HKR, HV0⟩
  have HL0 : Hid (Below W6.heap.size W6 V0) := Lib.hid (HB7.out.trans (HV0.out.mono HB7.out.size))
  obtain ⟨KB, hKB⟩ := ex_eq W7.heap.size
  rw [hKB] at HKR ⊢
  have HKL : Hid (KB < V0.heap.size) := Lib.hid (Array.getElem?_eq_some_iff.1 HKR.out).1
  have HK5 : Hid (∀ X, Below V0.heap.size V0 X → X.cell? ⟨KB, 0, none⟩ = some (.string kn) ∧ X.cell? ⟨KB, 1, none⟩ = some (.string ks) ∧ X.cell? ⟨KB, 2, none⟩ = some (.string kc) ∧ X.cell? ⟨KB, 3, none⟩ = some (.string ki) ∧ X.cell? ⟨KB, 4, none⟩ = some (.string kt)) := Lib.hid (fun X h => row5 ((h.block KB HKL.out).trans HKR.out))
  clear hKB
  obtain ⟨k0, k1, k2, k3, k4⟩ := HK5.out V0 (Below.refl _ _)
  go_upto_region 13 with (first
    | (go_at_call 18
       (with_reducible refine (HBB.out _ HL0.out).mono ?_)
       rintro e U1 ⟨rfl, hb⟩
       have HU1 := Lib.hid hb
       clear hb))
  clear k0 k1 k2 k3 k4
  refine wp_over (fun V => Hid (V.heap[U1.heap.size]? = some (.cells (RefP.row ⟨bn, bz⟩) 45 (0, 0))) ∧ Hid (Below U1.heap.size U1 V)) ⟨Lib.hid (new_row3 (r := ⟨bn, bz⟩)), Lib.hid ((Below.refl _ _).alloc (Nat.le_refl _) _)⟩ ?_
  rintro V1 ⟨HR1r, HV1⟩
  have HP1 : Hid (Below V0.heap.size V0 V1) := Lib.hid (HU1.out.trans (HV1.out.mono HU1.out.size))
  have HL1 : Hid (Below W6.heap.size W6 V1) := Lib.hid (HL0.out.trans (HP1.out.mono HL0.out.size))
  obtain ⟨R1, hR⟩ := ex_eq U1.heap.size
  rw [hR] at HR1r ⊢
  have HRL1 : Hid (R1 < V1.heap.size) := Lib.hid (Array.getElem?_eq_some_iff.1 HR1r.out).1
  clear hR
  have HQ1 : Hid (Below V0.heap.size V0 V1) := HP1
  obtain ⟨k0, k1, k2, k3, k4⟩ := HK5.out V1 HQ1.out
  go_upto_region 14 with (first
    | (go_at_call 18
       (with_reducible refine (HBC.out _ HL1.out).mono ?_)
       rintro e U2 ⟨rfl, hb⟩
       have HU2 := Lib.hid hb
       clear hb))
  clear k0 k1 k2 k3 k4
  refine wp_over (fun V => Hid (V.heap[U2.heap.size]? = some (.cells (RefP.row ⟨bn, bz⟩) 45 (0, 0))) ∧ Hid (Below U2.heap.size U2 V)) ⟨Lib.hid (new_row3 (r := ⟨bn, bz⟩)), Lib.hid ((Below.refl _ _).alloc (Nat.le_refl _) _)⟩ ?_
  rintro V2 ⟨HR2r, HV2⟩
  have HP2 : Hid (Below V1.heap.size V1 V2) := Lib.hid (HU2.out.trans (HV2.out.mono HU2.out.size))
  have HL2 : Hid (Below W6.heap.size W6 V2) := Lib.hid (HL1.out.trans (HP2.out.mono HL1.out.size))
  obtain ⟨R2, hR⟩ := ex_eq U2.heap.size
  rw [hR] at HR2r ⊢
  have HRL2 : Hid (R2 < V2.heap.size) := Lib.hid (Array.getElem?_eq_some_iff.1 HR2r.out).1
  clear hR
  have HQ2 : Hid (Below V0.heap.size V0 V2) := Lib.hid (HQ1.out.trans (HP2.out.mono HQ1.out.size))
  obtain ⟨k0, k1, k2, k3, k4⟩ := HK5.out V2 HQ2.out
  go_upto_region 15 with (first
    | (go_at_call 18
       (with_reducible refine (HBA.out _ HL2.out).mono ?_)
       rintro e U3 ⟨rfl, hb⟩
       have HU3 := Lib.hid hb
       clear hb))
  clear k0 k1 k2 k3 k4
  refine wp_over (fun V => Hid (V.heap[U3.heap.size]? = some (.cells (RefP.row ⟨an, az⟩) 45 (0, 0))) ∧ Hid (Below U3.heap.size U3 V)) ⟨Lib.hid (new_row3 (r := ⟨an, az⟩)), Lib.hid ((Below.refl _ _).alloc (Nat.le_refl _) _)⟩ ?_
  rintro V3 ⟨HR3r, HV3⟩
  have HP3 : Hid (Below V2.heap.size V2 V3) := Lib.hid (HU3.out.trans (HV3.out.mono HU3.out.size))
  have HL3 : Hid (Below W6.heap.size W6 V3) := Lib.hid (HL2.out.trans (HP3.out.mono HL2.out.size))
  obtain ⟨R3, hR⟩ := ex_eq U3.heap.size
  rw [hR] at HR3r ⊢
  have HRL3 : Hid (R3 < V3.heap.size) := Lib.hid (Array.getElem?_eq_some_iff.1 HR3r.out).1
  clear hR
  have HQ3 : Hid (Below V0.heap.size V0 V3) := Lib.hid (HQ2.out.trans (HP3.out.mono HQ2.out.size))
  obtain ⟨k0, k1, k2, k3, k4⟩ := HK5.out V3 HQ3.out
  go_upto_region 16 with (first
    | (go_at_call 18
       (with_reducible refine (HBD.out _ HL3.out).mono ?_)
       rintro e U4 ⟨rfl, hb⟩
       have HU4 := Lib.hid hb
       clear hb))
  clear k0 k1 k2 k3 k4
  refine wp_over (fun V => Hid (V.heap[U4.heap.size]? = some (.cells (RefP.row ⟨an, az⟩) 45 (0, 0))) ∧ Hid (Below U4.heap.size U4 V)) ⟨Lib.hid (new_row3 (r := ⟨an, az⟩)), Lib.hid ((Below.refl _ _).alloc (Nat.le_refl _) _)⟩ ?_
  rintro V4 ⟨HR4r, HV4⟩
  have HP4 : Hid (Below V3.heap.size V3 V4) := Lib.hid (HU4.out.trans (HV4.out.mono HU4.out.size))
  have HL4 : Hid (Below W6.heap.size W6 V4) := Lib.hid (HL3.out.trans (HP4.out.mono HL3.out.size))
  obtain ⟨R4, hR⟩ := ex_eq U4.heap.size
  rw [hR] at HR4r ⊢
  have HRL4 : Hid (R4 < V4.heap.size) := Lib.hid (Array.getElem?_eq_some_iff.1 HR4r.out).1
  clear hR
  have HQ4 : Hid (Below V0.heap.size V0 V4) := Lib.hid (HQ3.out.trans (HP4.out.mono HQ3.out.size))
  obtain ⟨k0, k1, k2, k3, k4⟩ := HK5.out V4 HQ4.out
  clear k0 k1 k2 k3 k4
  have HP24 : Hid (Below V2.heap.size V2 V4) := Lib.hid (HP3.out.trans (HP4.out.mono HP3.out.size))
  have HP14 : Hid (Below V1.heap.size V1 V4) := Lib.hid (HP2.out.trans (HP24.out.mono HP2.out.size))
  obtain ⟨p0, p1, p2⟩ := row3R ((HP14.out.block R1 HRL1.out).trans HR1r.out)
  obtain ⟨q0, q1, q2⟩ := row3R ((HP24.out.block R2 HRL2.out).trans HR2r.out)
  obtain ⟨r0, r1', r2'⟩ := row3R ((HP4.out.block R3 HRL3.out).trans HR3r.out)
  obtain ⟨s0, s1, s2⟩ := row3R HR4r.out
  dsimp only at p0 p1 p2 q0 q1 q2 r0 r1' r2' s0 s1 s2
  have heqb : ∀ W : World, (binOp .eql 45 (.agg #[.string bn, .int .i64 0, .int .i64 (bz : Int)]) (.agg #[.string bn, .int .i64 0, .int .i64 (bz : Int)])).run Tryz.prog W = .ok (.bool true) W := fun W => by
    rw [eq_ref bn bn 0 bz 0 bz W]
    simp
  have heqa : ∀ W : World, (binOp .eql 45 (.agg #[.string an, .int .i64 0, .int .i64 (az : Int)]) (.agg #[.string an, .int .i64 0, .int .i64 (az : Int)])).run Tryz.prog W = .ok (.bool true) W := fun W => by
    rw [eq_ref an an 0 az 0 az W]
    simp
  go_wp2_with fail
  go_ret
  exact ⟨rfl, HW6.out.trans (HL4.out.mono HW6.out.size)⟩
end Go.Proofs.YtmcbnhkcjhlbaaaGreatDoor.Tp
