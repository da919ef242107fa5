/- sha256: Sum and Join. -/
import Derived.Test.YtmnendoloankgaaDoorSumm
namespace Go.Proofs.YtmnendoloankgaaDoor
set_option linter.unusedVariables false
set_option linter.unusedSimpArgs false
open Go.RowKit
open Kit (Chg)
open Sha (v)

theorem KonAt.later {w w' : World} (h : KonAt w) (hb : Below w.heap.size w w') : KonAt w' := fun t ht => (hb.cell (p := ⟨2, t, none⟩) (World.block_lt_of_cell? w _ (h t ht))).trans (h t ht)
theorem KonAt.lt {w : World} (h : KonAt w) : 2 < w.heap.size := World.block_lt_of_cell? w _ (h 0 (by decide))

set_option maxHeartbeats 1000000 in
theorem sum_any (a : Option Addr) (cap : Nat) (xs : List Nat) (hcap : xs.length ≤ cap) (hnil : a = none → cap = 0) (hl : xs.length ≤ 100000000000) (w : World) (hB : BytesAt w a xs) (hlt : ∀ ad, a = some ad → 0 < xs.length → ad.block < w.heap.size) (hK : KonAt w) (hI : InitAt w) :
    Calls Tryd.prog 75 #[.slice a xs.length cap] w fun e w' => ∃ bs : List Nat, e = .returned (.string (strB bs)) ∧ bs = Sha.sum xs ∧ Below w.heap.size w w' := by
  have HB := Lib.hid hB
  have HK := Lib.hid hK
  have HI := Lib.hid hI
  have HNIL := Lib.hid hnil
  have HCAP := Lib.hid hcap
  have HLT := Lib.hid hlt
  have HL := Lib.hid hl
  clear hB hK hI hnil hcap hlt hl
  go_enter Tryd.func75, Tryd.ntmps75
  go_upto_region 2 with (first
    | (with_reducible refine (newState_any _ HI.out).mono ?_
       rintro e w1 ⟨rfl, h1⟩
       have H1 := Lib.hid h1
       clear h1))
  obtain ⟨N, hN⟩ := ex_eq w.heap.size
  have HS1 : Hid (StateAt w1 N 0 []) := Lib.hid (by rw [H1.out, ← hN]; exact state_new (heap_alloc_new _ _))
  have HB1 : Hid (Below N w w1) := Lib.hid (by rw [H1.out, ← hN]; exact (Below.refl _ _).alloc (Nat.le_refl _) _)
  have HK1 : Hid (KonAt w1) := Lib.hid (HK.out.later (by rw [hN]; exact HB1.out))
  have HBB : Hid (BytesAt w1 a xs) := Lib.hid (HB.out.later (by rw [hN]; exact HB1.out))
  have HAB : Hid (∀ ad, a = some ad → 0 < xs.length → ad.block ≠ N) := Lib.hid (fun ad e h0 => by have := HLT.out ad e h0; omega)
  have HNK : Hid (N ≠ 2) := Lib.hid (by have := HK.out.lt; omega)
  rw [hN]
  have HN := Lib.hid hN
  clear hN
  go_upto_region 3 with (first
    | (with_reducible refine (write_any N 0 [] a cap xs HCAP.out HNIL.out (by have := HL.out; simp; omega) _ HS1.out HBB.out HAB.out HK1.out HNK.out).mono ?_
       rintro e w2 ⟨rfl, h2, h3⟩
       have H2 := Lib.hid h2
       have H3 := Lib.hid h3
       clear h2 h3))
  have HK2 : Hid (KonAt w2) := Lib.hid (fun t ht => H3.out.cell (HK1.out t ht) (fun hm => HNK.out hm.1.symm))
  have HB2 : Hid (Below N w w2) := Lib.hid (HB1.out.trans (H3.out.below (by have := HS1.out.lt; omega) (fun k i hk h => by have := h.1; omega)))
  go_wp2_with (first
    | (with_reducible refine (stateSum_any N 0 xs HL.out _ H2.out HK2.out).mono ?_
       rintro e w3 ⟨bs, rfl, h4, h5⟩
       have H4 := Lib.hid h4
       have H5 := Lib.hid h5
       clear h4 h5))
  go_ret
  exact ⟨bs, rfl, H4.out, by rw [HN.out]; exact HB2.out.trans (H5.out.mono (by have := H2.out.lt; omega))⟩
end Go.Proofs.YtmnendoloankgaaDoor
