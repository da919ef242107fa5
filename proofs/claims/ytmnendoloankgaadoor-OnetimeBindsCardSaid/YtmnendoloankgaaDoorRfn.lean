/- The document's encoding of a number. -/
import Derived.Test.YtmnendoloankgaaDoorApp
namespace Go.Proofs.YtmnendoloankgaaDoor
set_option linter.unusedVariables false
set_option linter.unusedSimpArgs false
open Go.RowKit
open Kit (Chg)
open Sha (v)
open Go.Proofs.YtmnendoloankgaaDoor.One

theorem num_byte (m : Nat) : IntKind.u8.wrap ((m : Int) % 256 % 128 + 128) = ((m % 128 + 128 : Nat) : Int) := by
  rw [IntKind.wrap_u8]; omega
set_option maxRecDepth 100000 in
set_option maxHeartbeats 1000000 in
theorem refNumber_any (n : Nat) (hn : n < 18446744073709551616) (w : World) :
    Calls Tryd.prog 77 #[.int .u64 (n : Int)] w fun e w' => ∃ v' c, e = .returned v' ∧ c = (num n).length ∧ w'.ownsRow w.heap.size 5 1 v' c (bvals (num n)) ∧ Below w.heap.size w w' := by
  have HN10 := Lib.hid (num_len10 hn)
  obtain ⟨i0, hi, hz0, hz1, hz2⟩ := info_parts Tryd.info5
  have FI := Lib.hid hi
  have FZ0 := Lib.hid hz0
  have FZ1 := Lib.hid hz1
  have FZ2 := Lib.hid hz2
  clear hi hz0 hz1 hz2
  go_enter Tryd.func77, Tryd.ntmps77
  go_upto_region 2 with fail
  refine wp_over (fun W => Hid (W.ownsRow w.heap.size 5 1 (.slice (some ⟨w.heap.size, 0, none⟩) 0 0) 0 (bvals [])) ∧ Hid (Below w.heap.size w W)) ⟨own_empty (Nat.le_refl _), (Below.refl _ _).alloc (Nat.le_refl _) _⟩ ?_
  rintro W ⟨HOW0, HB0⟩
  obtain ⟨N, hN⟩ := ex_eq w.heap.size
  rw [hN] at HOW0 HB0 ⊢
  have HN := Lib.hid hN
  clear hN
  go_loopw [0, 3] (fun x y wr => ∃ (k : Nat) (cur : List Nat), x = .int .u64 (k : Int) ∧ k < 18446744073709551616 ∧ Hid (cur ++ num k = num n) ∧ Hid (wr.ownsRow N 5 1 y cur.length (bvals cur)) ∧ Hid (Below N w wr)) (fun x _ _ => (intOf x).toNat)
  case atStart => exact ⟨n, [], rfl, hn, rfl, HOW0.out, HB0.out⟩
  case round =>
    obtain ⟨k, cur, rfl, hk, HE, HOW, HBE⟩ := hrel
    have HCL : Hid (cur.length ≤ 10) := Lib.hid (by have := congrArg List.length HE.out; rw [List.length_append] at this; have := HN10.out; omega)
    have HBS : Hid (N ≤ wr.heap.size) := Lib.hid (by have := HBE.out.size; have := HN.out; omega)
    by_cases h128 : 127 < k
    · have hi128 : (127 : Int) < (k : Int) := by omega
      have hrem : (k : Int).tmod 128 = ((k % 128 : Nat) : Int) := by rw [Int.tmod_eq_emod_of_nonneg (by omega)]; omega
      have hquo : (k : Int).tdiv 128 = ((k / 128 : Nat) : Int) := by rw [Int.tdiv_eq_ediv_of_nonneg (by omega)]; omega
      have hkm : k % 128 < 128 := Nat.mod_lt _ (by decide)
      have HNE : Hid (cur ++ [k % 128 + 128] ++ num (k / 128) = num n) := Lib.hid (by rw [← HE.out, num_big h128]; simp)
      obtain ⟨r, hr⟩ := ex_eq (k % 128)
      rw [hr] at hrem hkm HNE
      have HBV : Hid (bvals cur ++ [.int .u8 ((r : Int) + 128)] = bvals (cur ++ [r + 128])) := Lib.hid (by rw [bvals_snoc, Int.natCast_add]; rfl)
      have hk2 : k / 128 < k := by omega
      obtain ⟨q, hq⟩ := ex_eq (k / 128)
      rw [hq] at hquo HNE hk2
      clear hr hq
      go_upto_region 4 with (first
        | (at_builtin
           refine wpList_append_own _ rfl _ _ 68 rfl N 5 i0 (.int .u8 0) 1 1 Tryd.underlying68 FI.out FZ0.out FZ1.out FZ2.out rfl (by decide) _ _ _ rfl (HOW.out.alloc _) ⟨wr.heap.size, 0, none⟩ 1 1 [.int .u8 ((r : Int) + 128)] rfl rfl (cell_one_new _ _ _) (by simp [Value.oneCell']) (by have := HCL.out; unfold maxLen; omega) (by have := HCL.out; omega) (by have := HBS.out; simp; omega) ?_
           intro v' w4 hown4 hgr4 _
           have HO4 : Hid (w4.ownsRow N 5 1 v' (cur.length + 1) (bvals (cur ++ [r + 128]))) := by rw [← HBV.out]; exact hown4
           have HC4 : Hid (Chg (fun q _ => N ≤ q) wr w4) := (Chg.alloc1 wr _).trans (Chg.of_grown hgr4 (fun q _ e => (HOW.out.lt q e).1))
           clear hown4 hgr4))
      go_wp2_with fail
      go_roundw
      case rel => exact ⟨q, cur ++ [r + 128], by go_num, by omega, HNE.out, by rw [List.length_append]; exact HO4.out, HBE.out.trans (HC4.out.below HBS.out (fun q i hq h => by omega))⟩
      case measure => simp [intOf]; omega
    · have hi128 : ¬ (127 : Int) < (k : Int) := by omega
      have HBV : Hid (bvals cur ++ [.int .u8 (k : Int)] = bvals (cur ++ [k])) := Lib.hid (by rw [bvals_snoc])
      have HNE : Hid (cur ++ [k] = num n) := Lib.hid (by rw [← HE.out, num_small (by omega)])
      go_wp2_with (first
        | (at_builtin
           refine wpList_append_own _ rfl _ _ 68 rfl N 5 i0 (.int .u8 0) 1 1 Tryd.underlying68 FI.out FZ0.out FZ1.out FZ2.out rfl (by decide) _ _ _ rfl (HOW.out.alloc _) ⟨wr.heap.size, 0, none⟩ 1 1 [.int .u8 (k : Int)] rfl rfl (cell_one_new _ _ _) (by simp [Value.oneCell']) (by have := HCL.out; unfold maxLen; omega) (by have := HCL.out; omega) (by have := HBS.out; simp; omega) ?_
           intro v' w4 hown4 hgr4 _
           have HO4 : Hid (w4.ownsRow N 5 1 v' (cur.length + 1) (bvals (cur ++ [k]))) := by rw [← HBV.out]; exact hown4
           have HC4 : Hid (Chg (fun q _ => N ≤ q) wr w4) := (Chg.alloc1 wr _).trans (Chg.of_grown hgr4 (fun q _ e => (HOW.out.lt q e).1))
           clear hown4 hgr4))
      go_ret
      have HLE : Hid (cur.length + 1 = (num n).length) := Lib.hid (by rw [← HNE.out, List.length_append]; rfl)
      exact ⟨_, rfl, by have h := HO4.out; rw [HNE.out, HLE.out] at h; rw [HN.out]; exact h, by rw [HN.out]; exact HBE.out.trans (HC4.out.below HBS.out (fun q i hq h => by omega))⟩
end Go.Proofs.YtmnendoloankgaaDoor
