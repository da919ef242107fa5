/- Texts Rfn, Rfp, Rfr, Rfb, Rfs, Rft, Rfc, Rfe, Rff, Smd, Rfg, merged. -/
import Derived.Great.BuildSlice
import Derived.ArgAppend
import Derived.Test.YtmeimbnfgdnlbaaGreatDoorGc
/- The document's encoding of a number. -/
namespace Go.Proofs.YtmeimbnfgdnlbaaGreatDoor
set_option linter.unusedVariables false
set_option linter.unusedSimpArgs false
open Go.RowKit
open Kit (Chg)
open Sha (v)
open Go.Proofs.YtmeimbnfgdnlbaaGreatDoor.One
set_option maxRecDepth 100000 in
set_option maxHeartbeats 1000000 in
theorem refNumber_any (n : Nat) (hn : n < 18446744073709551616) (w : World) :
    Calls Tryz.prog 122 #[.int .u64 (n : Int)] w fun e w' => ∃ v' c, e = .returned v' ∧ c = (num n).length ∧ w'.ownsRow w.heap.size 5 1 v' c (bvals (num n)) ∧ Below w.heap.size w w' := by
  have HN10 := Lib.hid (num_len10 hn)
  obtain ⟨i0, hi, hz0, hz1, hz2⟩ := info_parts Tryz.info5
  have FI := Lib.hid hi
  have FZ0 := Lib.hid hz0
  have FZ1 := Lib.hid hz1
  have FZ2 := Lib.hid hz2
  clear hi hz0 hz1 hz2
  go_enter Tryz.func122, Tryz.ntmps122
  go_upto_region 2 with fail
  refine wp_over (fun W => Hid (W.ownsRow w.heap.size 5 1 (.slice (some ⟨w.heap.size, 0, none⟩) 0 0) 0 (bvals [])) ∧ Hid (Below w.heap.size w W)) ⟨own_empty (Nat.le_refl _), (Below.refl _ _).alloc (Nat.le_refl _) _⟩ ?_
  rintro W ⟨HOW0, HB0⟩
  obtain ⟨N, hN⟩ := ex_eq w.heap.size
  rw [hN] at HOW0 HB0 ⊢
  have HN := Lib.hid hN
  clear hN
  go_loopw [0, 3] (fun x y wr => ∃ (k : Nat) (cur : List Nat), x = .int .u64 (k : Int) ∧ k < 18446744073709551616 ∧ Hid (cur ++ num k = num n) ∧ Hid (wr.ownsRow N 5 1 y cur.length (bvals cur)) ∧ Hid (Below N w wr)) (fun x _ _ => (intOf x).toNat)
  case atStart => exact ⟨n, [], rfl, hn, rfl, HOW0.out, HB0.out⟩
  case round =>
    obtain ⟨k, cur, rfl, hk, HE, HOW, HBE⟩ := hrel
    have HCL : Hid (cur.length ≤ 10) := Lib.hid (by have := congrArg List.length HE.out; rw [List.length_append] at this; have := HN10.out; omega)
    have HBS : Hid (N ≤ wr.heap.size) := Lib.hid (by have := HBE.out.size; have := HN.out; omega)
    by_cases h128 : 127 < k
    · have hi128 : (127 : Int) < (k : Int) := by omega
      have hrem : (k : Int).tmod 128 = ((k % 128 : Nat) : Int) := by rw [Int.tmod_eq_emod_of_nonneg (by omega)]; omega
      have hquo : (k : Int).tdiv 128 = ((k / 128 : Nat) : Int) := by rw [Int.tdiv_eq_ediv_of_nonneg (by omega)]; omega
      have hkm : k % 128 < 128 := Nat.mod_lt _ (by decide)
      have HNE : Hid (cur ++ [k % 128 + 128] ++ num (k / 128) = num n) := Lib.hid (by rw [← HE.out, num_big h128]; simp)
      obtain ⟨r, hr⟩ := ex_eq (k % 128)
      rw [hr] at hrem hkm HNE
      have HBV : Hid (bvals cur ++ [.int .u8 ((r : Int) + 128)] = bvals (cur ++ [r + 128])) := Lib.hid (by rw [bvals_snoc, Int.natCast_add]; rfl)
      have hk2 : k / 128 < k := by omega
      obtain ⟨q, hq⟩ := ex_eq (k / 128)
      rw [hq] at hquo HNE hk2
      clear hr hq
      go_upto_region 4 with (first
        | (at_builtin
           refine wpList_append_own _ rfl _ _ 29 rfl N 5 i0 (.int .u8 0) 1 1 Tryz.underlying29 FI.out FZ0.out FZ1.out FZ2.out rfl (by decide) _ _ _ rfl (HOW.out.alloc _) ⟨wr.heap.size, 0, none⟩ 1 1 [.int .u8 ((r : Int) + 128)] rfl rfl (cell_one_new _ _ _) (by simp [Value.oneCell']) (by have := HCL.out; unfold maxLen; omega) (by have := HCL.out; omega) (by have := HBS.out; simp; omega) ?_
           intro v' w4 hown4 hgr4 _
           have HO4 : Hid (w4.ownsRow N 5 1 v' (cur.length + 1) (bvals (cur ++ [r + 128]))) := by rw [← HBV.out]; exact hown4
           have HC4 : Hid (Chg (fun q _ => N ≤ q) wr w4) := (Chg.alloc1 wr _).trans (Chg.of_grown hgr4 (fun q _ e => (HOW.out.lt q e).1))
           clear hown4 hgr4))
      go_wp2_with fail
      go_roundw
      case rel => exact ⟨q, cur ++ [r + 128], by go_num, by omega, HNE.out, by rw [List.length_append]; exact HO4.out, HBE.out.trans (HC4.out.below HBS.out (fun q i hq h => by omega))⟩
      case measure => simp [intOf]; omega
    · have hi128 : ¬ (127 : Int) < (k : Int) := by omega
      have HBV : Hid (bvals cur ++ [.int .u8 (k : Int)] = bvals (cur ++ [k])) := Lib.hid (by rw [bvals_snoc])
      have HNE : Hid (cur ++ [k] = num n) := Lib.hid (by rw [← HE.out, num_small (by omega)])
      go_wp2_with (first
        | (at_builtin
           refine wpList_append_own _ rfl _ _ 29 rfl N 5 i0 (.int .u8 0) 1 1 Tryz.underlying29 FI.out FZ0.out FZ1.out FZ2.out rfl (by decide) _ _ _ rfl (HOW.out.alloc _) ⟨wr.heap.size, 0, none⟩ 1 1 [.int .u8 (k : Int)] rfl rfl (cell_one_new _ _ _) (by simp [Value.oneCell']) (by have := HCL.out; unfold maxLen; omega) (by have := HCL.out; omega) (by have := HBS.out; simp; omega) ?_
           intro v' w4 hown4 hgr4 _
           have HO4 : Hid (w4.ownsRow N 5 1 v' (cur.length + 1) (bvals (cur ++ [k]))) := by rw [← HBV.out]; exact hown4
           have HC4 : Hid (Chg (fun q _ => N ≤ q) wr w4) := (Chg.alloc1 wr _).trans (Chg.of_grown hgr4 (fun q _ e => (HOW.out.lt q e).1))
           clear hown4 hgr4))
      go_ret
      have HLE : Hid (cur.length + 1 = (num n).length) := Lib.hid (by rw [← HNE.out, List.length_append]; rfl)
      exact ⟨_, rfl, by have h := HO4.out; rw [HNE.out, HLE.out] at h; rw [HN.out]; exact h, by rw [HN.out]; exact HBE.out.trans (HC4.out.below HBS.out (fun q i hq h => by omega))⟩
end Go.Proofs.YtmeimbnfgdnlbaaGreatDoor

/- The document's SHA-256: padding. -/
namespace Go.Proofs.YtmeimbnfgdnlbaaGreatDoor
set_option linter.unusedVariables false
set_option linter.unusedSimpArgs false
open Go.RowKit
open Kit (Chg)
open Sha (v)
open Go.Proofs.YtmeimbnfgdnlbaaGreatDoor.One

theorem pad_zeros (n j : Nat) (hj : j ≤ Sha.zeros n) : (n + 1 + j) % 64 = 56 ↔ j = Sha.zeros n := by
  unfold Sha.zeros at *
  omega
theorem repl_snoc (xs : List Nat) (j : Nat) : (xs ++ 128 :: List.replicate j 0) ++ [0] = xs ++ 128 :: List.replicate (j + 1) 0 := by
  rw [List.replicate_succ', List.append_assoc, List.cons_append]
theorem shift8 (n t : Nat) (h : t < 8) : ((n : Nat) : Int) / 2 ^ (8 * (7 - t)) % 256 = ((n / 256 ^ (7 - t) % 256 : Nat) : Int) := by
  rw [Int.pow_mul, show (2 : Int) ^ 8 = ((256 : Nat) : Int) by rfl, Int.natCast_emod, Int.natCast_ediv, Int.natCast_pow]
  rfl
set_option maxRecDepth 100000 in
set_option maxHeartbeats 1000000 in
theorem refPad_l (a : Option Addr) (cap : Nat) (xs : List Nat) (L : Nat) (hLe : xs.length = L) (hnil : a = none → cap = 0) (hl : L ≤ 100000000000) (w : World) (hB : BytesAt w a xs) :
    Calls Tryz.prog 124 #[.slice a L cap] w fun e w' => ∃ v' c, e = .returned v' ∧ c = (Sha.pad xs).length ∧ w'.ownsRow w.heap.size 5 1 v' c (bvals (Sha.pad xs)) ∧ Below w.heap.size w w' := by
  have HB := Lib.hid hB
  have HNIL := Lib.hid hnil
  have HLE := Lib.hid hLe
  have HPZ := Lib.hid (fun j h => pad_zeros L j h)
  have HPAD : Hid (Sha.pad xs = (xs ++ 128 :: List.replicate (Sha.zeros L) 0) ++ Sha.be8 (8 * L)) := Lib.hid (by unfold Sha.pad; rw [hLe]; simp)
  have hz64 : Sha.zeros L < 64 := by unfold Sha.zeros; omega
  obtain ⟨Z, hZ⟩ := ex_eq (Sha.zeros L)
  rw [hZ] at HPZ HPAD hz64
  clear hB hnil hLe hZ
  go_enter Tryz.func124, Tryz.ntmps124
  obtain ⟨N, hN⟩ := ex_eq w.heap.size
  have HN := Lib.hid hN
  have HW : Hid (N ≤ w.heap.size) := Lib.hid (by omega)
  have HE := Lib.hid (own_empty (w := w) (base := N) HW.out)
  have HBE : Hid (Below N w (w.alloc (.cells #[] 5))) := Lib.hid ((Below.refl _ _).alloc HW.out _)
  rw [hN]
  clear hN
  go_upto_region 2 with (first
    | (at_builtin
       refine app_bytes rfl _ _ rfl N _ 0 [] (by rfl) HE.out (by have := HBE.out.size; have := HN.out; omega) (by omega) a L cap xs HLE.out (by omega) (by rfl) (HB.out.later (by rw [HN.out]; exact HBE.out)) HNIL.out ?_
       intro v1 w1 ho1 hb1
       have HO1 := Lib.hid ho1
       have HB1 := Lib.hid (HBE.out.trans hb1)
       clear ho1 hb1)
    | (at_builtin
       refine app_byte rfl _ _ rfl N v1 (0 + L) ([] ++ xs) (by rfl) HO1.out (by have := HB1.out.size; have := HN.out; omega) (by omega) 128 128 rfl 1 (by rfl) ?_
       intro v2 w2 ho2 hb2
       have HO2 := Lib.hid ho2
       have HB2 := Lib.hid (HB1.out.trans hb2)
       clear ho2 hb2))
  have HO2' : Hid (w2.ownsRow N 5 1 v2 (L + 1 + 0) (bvals (xs ++ 128 :: List.replicate 0 0))) := Lib.hid (by
    have h := HO2.out
    rw [Nat.zero_add, List.nil_append] at h
    exact h)
  clear HO2 HO1 HE HBE HB1
  go_loopw [3] (fun x wr => ∃ j : Nat, j ≤ Z ∧ Hid (wr.ownsRow N 5 1 x (L + 1 + j) (bvals (xs ++ 128 :: List.replicate j 0))) ∧ Hid (Below N w wr)) (fun x _ => Z + L + 2 - sliceLen x)
  case atStart => exact ⟨0, Nat.zero_le _, HO2'.out, HB2.out⟩
  case round =>
    obtain ⟨j, hj, HOW, HBE⟩ := hrel
    have HWR : Hid (N ≤ wr.heap.size) := Lib.hid (by have := HBE.out.size; have := HN.out; omega)
    obtain ⟨M, hM⟩ := ex_eq (L + j)
    have hM2 : L + 1 + j = M + 1 := by omega
    have hMl : M ≤ 200000000000 := by omega
    have HRK : Hid ((M + 1) % 64 = 56 ↔ j = Z) := Lib.hid (by rw [← hM2]; exact HPZ.out j hj)
    have HMJ := Lib.hid hM
    rw [hM2] at HOW
    clear hM hM2
    obtain ⟨g, cp, rfl⟩ := ownsRow_succ HOW.out
    obtain ⟨r, hr⟩ := ex_eq ((M + 1) % 64)
    have hm : ((M : Int) + 1).tmod 64 = (r : Int) := by rw [Int.tmod_eq_emod_of_nonneg (by omega)]; omega
    have hm2 : ((M : Int) + 1) % 64 = (r : Int) := by omega
    rw [hr] at HRK
    clear hr
    by_cases hjz : j < Z
    · have hne : ((r : Int) != 56) = true := by
        rw [bne_iff_ne]; intro h; have := HRK.out.1 (by omega); omega
      go_wp2_with (first
        | (at_builtin
           refine app_byte rfl _ _ rfl N _ (M + 1) (xs ++ 128 :: List.replicate j 0) (by rfl) HOW.out HWR.out (by omega) 0 0 rfl 1 (by rfl) ?_
           intro v4 w4 ho4 hb4
           have HO4 := Lib.hid ho4
           have HB4 := Lib.hid (HBE.out.trans hb4)
           clear ho4 hb4
           obtain ⟨g4, cp4, hv4⟩ := ownsRow_succ HO4.out
           subst hv4))
      go_roundw
      case rel => exact ⟨j + 1, hjz, by have h := HO4.out; rw [repl_snoc] at h; rw [show L + 1 + (j + 1) = M + 1 + 1 by have := HMJ.out; omega]; exact h, HB4.out⟩
      case measure => have := HMJ.out; simp [sliceLen]; omega
    · have hjz2 : j = Z := by omega
      subst hjz2
      have hne : ((r : Int) != 56) = false := by
        have h := HRK.out.2 rfl
        rw [h]; rfl
      have hw8 : IntKind.u64.wrap (L : Int) = (L : Int) := by rw [IntKind.wrap_u64]; omega
      have hw88 : IntKind.u64.wrap ((L : Int) * 8) = ((8 * L : Nat) : Int) := by rw [IntKind.wrap_u64]; omega
      obtain ⟨B8, hB8⟩ := ex_eq (8 * L)
      rw [hB8] at hw88 HPAD
      have HPB : Hid (Sha.pad xs = (xs ++ 128 :: List.replicate j 0) ++ (Sha.be8 B8).take 8) := Lib.hid (by rw [HPAD.out, List.take_of_length_le (by rw [Sha.be8_length]; exact Nat.le_refl _)])
      obtain ⟨base, hbase⟩ := ex_eq (xs ++ 128 :: List.replicate j 0)
      rw [hbase] at HOW HPB
      have HOW0 : Hid (wr.ownsRow N 5 1 (.slice (some ⟨g, 0, none⟩) (M + 1) cp) (M + 1 + 0) (bvals (base ++ (Sha.be8 B8).take 0))) := Lib.hid (by rw [List.take_zero, List.append_nil]; exact HOW.out)
      rename World => wa
      have HBA := HBE
      go_upto_region 6 with fail
      clear HOW HBE hm hm2 hne HRK hB8
      go_loopw [3, 5] (fun x y wr => ∃ t : Nat, t ≤ 8 ∧ y = .int .i64 (7 - (t : Int)) ∧ Hid (wr.ownsRow N 5 1 x (M + 1 + t) (bvals (base ++ (Sha.be8 B8).take t))) ∧ Hid (Below N w wr)) (fun x _ _ => M + 10 - sliceLen x)
      case atStart => exact ⟨0, by omega, rfl, HOW0.out, HBA.out⟩
      case round =>
        obtain ⟨t, ht, rfl, HOW, HBE⟩ := hrel
        have HWR : Hid (N ≤ wr.heap.size) := Lib.hid (by have := HBE.out.size; have := HN.out; omega)
        obtain ⟨K, hK⟩ := ex_eq (M + 1 + t)
        have hKl : K ≤ 300000000000 := by omega
        rw [hK] at HOW
        have HK := Lib.hid hK
        clear hK
        have HSL : Hid (sliceLen u3 = K) := Lib.hid (by
          obtain ⟨K', rfl⟩ : ∃ K', K = K' + 1 := ⟨K - 1, by have := HK.out; omega⟩
          obtain ⟨g4, cp4, rfl⟩ := ownsRow_succ HOW.out
          rfl)
        by_cases ht8 : t < 8
        · obtain ⟨q, hq⟩ : ∃ q : Nat, (7 : Int) - (t : Int) = (q : Int) := ⟨7 - t, by omega⟩
          have HQ := Lib.hid hq
          have hq7 : q ≤ 7 := by omega
          obtain ⟨e8, he8⟩ := ex_eq (8 * q)
          have hq8 : (8 : Int) * (q : Int) = (e8 : Int) := by omega
          have he : e8 ≤ 56 := by omega
          have HE8 : Hid (e8 = 8 * (7 - t)) := Lib.hid (by omega)
          rw [hq]
          clear hq ht he8
          go_wp2_with (first
            | (at_builtin
               refine app_byte rfl _ _ rfl N _ K (base ++ (Sha.be8 B8).take t) (by rfl) HOW.out HWR.out (by omega) _ (B8 / 256 ^ (7 - t) % 256) (by rw [HE8.out]; exact shift8 B8 t ht8) 1 (by rfl) ?_
               intro v4 w4 ho4 hb4
               have HO4 := Lib.hid ho4
               have HB4 := Lib.hid (HBE.out.trans hb4)
               clear ho4 hb4
               obtain ⟨g4, cp4, hv4⟩ := ownsRow_succ HO4.out
               subst hv4))
          go_roundw
          case rel => exact ⟨t + 1, ht8, by have := HQ.out; congr 1; omega, by have h := HO4.out; rw [List.append_assoc, ← be8_take _ _ ht8] at h; rw [show M + 1 + (t + 1) = K + 1 by have := HK.out; omega]; exact h, HB4.out⟩
          case measure => rw [HSL.out]; have := HK.out; simp [sliceLen]; omega
        · have e8 : t = 8 := by omega
          subst e8
          go_wp2_with fail
          go_ret
          have HLE : Hid (K = (Sha.pad xs).length) := Lib.hid (by
            have h := HOW.out.1
            rw [bvals_length, ← HPB.out, Nat.mul_one] at h
            exact h.symm)
          exact ⟨_, K, rfl, HLE.out, by have h := HOW.out; rw [← HPB.out] at h; exact h, HBE.out⟩
end Go.Proofs.YtmeimbnfgdnlbaaGreatDoor

/- The document's SHA-256: rotations, constants, padding. -/
namespace Go.Proofs.YtmeimbnfgdnlbaaGreatDoor
set_option linter.unusedVariables false
set_option linter.unusedSimpArgs false
open Go.RowKit
open Kit (Chg)
open Sha (v)
open Go.Proofs.YtmeimbnfgdnlbaaGreatDoor.One

set_option maxHeartbeats 400000 in
theorem refRot_any (x : BitVec 32) (k : Nat) (h0 : 0 < k) (h : k < 32) (w : World) :
    Calls Tryz.prog 159 #[.int .u32 (v x), .int .i64 (k : Int)] w fun e w' => e = .returned (.int .u32 (v (Sha.rot x k))) ∧ ∃ n, w' = w.drewN n := by
  obtain ⟨m, hm⟩ : ∃ m, 32 - k = m := ⟨_, rfl⟩
  have hmi : (32 : Int) - (k : Int) = (m : Int) := by omega
  have hm32 : m < 32 := by omega
  have hm0 : 0 < m := by omega
  have hrot : Sha.rot x k = x >>> k ||| x <<< m := by unfold Sha.rot; rw [hm]
  rw [hrot]
  obtain ⟨Q0, hq0⟩ : ∃ Q : Prop, Hid Q := ⟨True, trivial⟩
  have r2 := Sha.f_shl Q0 m
  have r3 := Sha.f_shr Q0 k
  have r4 := Sha.f_or Q0
  have r9 := Sha.f_nonneg Q0
  clear hm hrot
  go_enter Tryz.func159, Tryz.ntmps159
  go_upto_region 1 with fail
  go_quiet (fail)
  go_wp2_with fail
  go_ret
  exact ⟨rfl, _, rfl⟩
theorem refRot2 (x : BitVec 32) (w : World) : Calls Tryz.prog 159 #[.int .u32 (v x), .int .i64 2] w fun e w' => e = .returned (.int .u32 (v (Sha.rot x 2))) ∧ ∃ n, w' = w.drewN n := refRot_any x 2 (by decide) (by decide) w
theorem refRot6 (x : BitVec 32) (w : World) : Calls Tryz.prog 159 #[.int .u32 (v x), .int .i64 6] w fun e w' => e = .returned (.int .u32 (v (Sha.rot x 6))) ∧ ∃ n, w' = w.drewN n := refRot_any x 6 (by decide) (by decide) w
theorem refRot7 (x : BitVec 32) (w : World) : Calls Tryz.prog 159 #[.int .u32 (v x), .int .i64 7] w fun e w' => e = .returned (.int .u32 (v (Sha.rot x 7))) ∧ ∃ n, w' = w.drewN n := refRot_any x 7 (by decide) (by decide) w
theorem refRot11 (x : BitVec 32) (w : World) : Calls Tryz.prog 159 #[.int .u32 (v x), .int .i64 11] w fun e w' => e = .returned (.int .u32 (v (Sha.rot x 11))) ∧ ∃ n, w' = w.drewN n := refRot_any x 11 (by decide) (by decide) w
theorem refRot13 (x : BitVec 32) (w : World) : Calls Tryz.prog 159 #[.int .u32 (v x), .int .i64 13] w fun e w' => e = .returned (.int .u32 (v (Sha.rot x 13))) ∧ ∃ n, w' = w.drewN n := refRot_any x 13 (by decide) (by decide) w
theorem refRot17 (x : BitVec 32) (w : World) : Calls Tryz.prog 159 #[.int .u32 (v x), .int .i64 17] w fun e w' => e = .returned (.int .u32 (v (Sha.rot x 17))) ∧ ∃ n, w' = w.drewN n := refRot_any x 17 (by decide) (by decide) w
theorem refRot18 (x : BitVec 32) (w : World) : Calls Tryz.prog 159 #[.int .u32 (v x), .int .i64 18] w fun e w' => e = .returned (.int .u32 (v (Sha.rot x 18))) ∧ ∃ n, w' = w.drewN n := refRot_any x 18 (by decide) (by decide) w
theorem refRot19 (x : BitVec 32) (w : World) : Calls Tryz.prog 159 #[.int .u32 (v x), .int .i64 19] w fun e w' => e = .returned (.int .u32 (v (Sha.rot x 19))) ∧ ∃ n, w' = w.drewN n := refRot_any x 19 (by decide) (by decide) w
theorem refRot22 (x : BitVec 32) (w : World) : Calls Tryz.prog 159 #[.int .u32 (v x), .int .i64 22] w fun e w' => e = .returned (.int .u32 (v (Sha.rot x 22))) ∧ ∃ n, w' = w.drewN n := refRot_any x 22 (by decide) (by decide) w
theorem refRot25 (x : BitVec 32) (w : World) : Calls Tryz.prog 159 #[.int .u32 (v x), .int .i64 25] w fun e w' => e = .returned (.int .u32 (v (Sha.rot x 25))) ∧ ∃ n, w' = w.drewN n := refRot_any x 25 (by decide) (by decide) w
def konZ : List Int := [1116352408, 1899447441, 3049323471, 3921009573, 961987163, 1508970993, 2453635748, 2870763221, 3624381080, 310598401, 607225278, 1426881987, 1925078388, 2162078206, 2614888103, 3248222580, 3835390401, 4022224774, 264347078, 604807628, 770255983, 1249150122, 1555081692, 1996064986, 2554220882, 2821834349, 2952996808, 3210313671, 3336571891, 3584528711, 113926993, 338241895, 666307205, 773529912, 1294757372, 1396182291, 1695183700, 1986661051, 2177026350, 2456956037, 2730485921, 2820302411, 3259730800, 3345764771, 3516065817, 3600352804, 4094571909, 275423344, 430227734, 506948616, 659060556, 883997877, 958139571, 1322822218, 1537002063, 1747873779, 1955562222, 2024104815, 2227730452, 2361852424, 2428436474, 2756734187, 3204031479, 3329325298]
def konA : Array Value := (konZ.map (Value.int .u32)).toArray
set_option maxRecDepth 100000 in
theorem konA_eq : konA = (Sha.kList.map fun (n : Nat) => Value.int .u32 (n : Int)).toArray := by kernel_rfl
theorem konA_size : konA.size = 64 := by rw [konA_eq, List.size_toArray, List.length_map, Sha.kList_length]
theorem konA_one : konA.all (·.oneCell') = true := by
  rw [konA, List.all_toArray, List.all_eq_true]
  intro v hv
  obtain ⟨x, _, rfl⟩ := List.mem_map.1 hv
  rfl
theorem konA_get (t : Nat) (h : t < 64) : konA[t]? = some (.int .u32 (v (Sha.kon t))) := by
  rw [konA_eq]
  unfold Sha.kon
  rw [Sha.ofNat_v _ (Sha.kList_lt t h), List.getElem?_toArray, List.getElem?_map, List.getD_eq_getElem?_getD, List.getElem?_eq_getElem (by rw [Sha.kList_length]; exact h)]
  rfl
theorem wpList_buildArrL {P : Program} {ops : Array Oper} {rest : List Oper} {o : Oper} {a : Act} {w : World} {Q : Exit → Act → World → Prop} (hg : o.guard = none) (t e : TypeId) (n : Nat) (parts : Array (Nat × Operand)) (ho : o.op = .build t parts)
    (k : IntKind) (zs : List Int) (K : Array Value) (hc : (zs.map (Value.int k)).toArray = K)
    (hu : P.underlying t = some (.array n e)) (hsz : (P.info? e).map (·.size) = some 1) (hz : ((P.info? t).bind (·.zero)).map (·.cells.size) = some zs.length)
    (hparts : parts.toList = (zs.zipIdx 0).map fun x => (x.2, Operand.const (Value.int k x.1)))
    (h : wpList P ops Q rest (a.put o.dst (.agg K)) w) : wpList P ops Q (o :: rest) a w := by
  subst hc
  exact wpList_buildFlatArr hg t e n parts ho k zs hu hsz hz hparts h
theorem zero149_new (w : World) : (w.alloc (.cells Tryz.zeroW 227)).heap[w.heap.size]? = some (.cells Tryz.zeroW 227 (0, 0)) := heap_alloc_new _ _
theorem Tryz.size149 : (Tryz.prog.info? 227).map (·.size) = some 64 := by kernel_rfl
theorem Tryz.esize149 : (Tryz.prog.info? 193).map (·.size) = some 1 := by kernel_rfl
theorem Tryz.zs149 : ((Tryz.prog.info? 227).bind (·.zero)).map (·.cells.size) = some konZ.length := by kernel_rfl
set_option maxRecDepth 100000 in
theorem refKon_any (w : World) : Calls Tryz.prog 158 #[] w fun e w' => e = .returned (.agg konA) ∧ Below w.heap.size w w' := by
  obtain ⟨KA, hKA⟩ : ∃ K, konA = K := ⟨_, rfl⟩
  have hs := konA_size
  have h1 := konA_one
  rw [hKA] at hs h1
  have HKA := Lib.hid hKA
  have HS := Lib.hid hs
  have H1 := Lib.hid h1
  rw [hKA]
  clear hKA hs h1
  go_enter Tryz.func158, Tryz.ntmps158
  go_upto_region 1 with fail
  refine wp_over (fun W => Hid (W.heap[w.heap.size]? = some (.cells Tryz.zeroW 227 (0, 0))) ∧ Hid (Below w.heap.size w W)) ⟨zero149_new w, (Below.refl _ _).alloc (Nat.le_refl _) _⟩ ?_
  rintro V ⟨HV, HBV⟩
  obtain ⟨N, hN⟩ := ex_eq w.heap.size
  rw [hN] at HV HBV ⊢
  have HN := Lib.hid hN
  clear hN
  go_wp2_with (first
    | (refine wpList_buildArrL rfl 227 193 64 _ rfl .u32 konZ KA HKA.out Tryz.underlying227 Tryz.esize149 Tryz.zs149 (by kernel_rfl) ?_)
    | (refine wpList_store_row rfl 227 (.tmp 0) (.tmp 1) rfl N KA (by rfl) (by rfl) 227 Tryz.zeroW (by exact HV.out) (by rw [HS.out]; exact Tryz.size149) (by rw [HS.out]; exact Tryz.zeroW_size) H1.out ?_))
  refine bodyPost_ret (results_cell_row (p := 0) rfl _ _ N 227 KA (0, 0) _ (by rfl) (setRow_heap _ _ _ _ _ _ HV.out) Tryz.underlying227 rfl (by rw [HS.out]; exact Tryz.size149)) rfl ⟨rfl, ?_⟩
  rw [HN.out]; exact below_setRow HBV.out (Nat.le_refl _) _
end Go.Proofs.YtmeimbnfgdnlbaaGreatDoor

/- The document's SHA-256: one block. -/
namespace Go.Proofs.YtmeimbnfgdnlbaaGreatDoor
set_option linter.unusedVariables false
set_option linter.unusedSimpArgs false
open Go.RowKit
open Kit (Chg)
open Sha (v)
open Go.Proofs.YtmeimbnfgdnlbaaGreatDoor.One

theorem quiet3 {P : Program} {f : FuncId} {args : Array Value} {w : World} {q n : Nat} {v : Value}
    (h : Calls P f args (w.drewN (q + n)) fun e w' => e = .returned v ∧ ∃ m, w' = (w.drewN (q + n)).drewN m) : Calls P f args (w.drewN (q + n)) fun e w'' => e = .returned v ∧ ∃ m, w'' = w.drewN (q + m) :=
  h.mono fun _ _ ⟨he, m, hm⟩ => ⟨he, n + m, by rw [hm, World.drewN_drewN, Nat.add_assoc]⟩
theorem Tryz.built149 : Tryz.prog.built 227 [] = some Tryz.zeroW := by kernel_rfl
theorem wpList_buildL {P : Program} {ops : Array Oper} {rest : List Oper} {o : Oper} {a : Act} {w : World} {Q : Exit → Act → World → Prop} (hg : o.guard = none) (t : TypeId) (parts : Array (Nat × Operand)) (ho : o.op = .build t parts) (cells : Array Value)
    (hf : P.built t (parts.map fun (i, x) => (i, a.eval x)).toList = some cells)
    (h : wpList P ops Q rest (a.put o.dst (.agg cells)) w) : wpList P ops Q (o :: rest) a w :=
  wpList_plain hg fun _ hK => Kit.wp_build_to t parts ho cells hf (hK _ _ h)
theorem wordsL_size (S : Sha.St) : (wordsL S).toArray.size = 8 := rfl
theorem wordsL_one (S : Sha.St) : (wordsL S).toArray.all (·.oneCell') = true := by simp [wordsL, Value.oneCell']
theorem Tryz.zeroW_one : Tryz.zeroW.all (·.oneCell') = true := by
  unfold Tryz.zeroW
  rw [List.all_toArray, List.all_eq_true]
  intro v hv
  rw [List.eq_of_mem_replicate hv]; rfl
theorem Tryz.size128 : (Tryz.prog.info? 194).map (·.size) = some 8 := by kernel_rfl
/-- The words of v while those of h are added. -/
structure MixAt (w : World) (b : Nat) (R T : Sha.St) (k : Nat) : Prop where
  cell : ∀ i, i < 8 → w.cell? ⟨b, i, none⟩ = some (.int .u32 (v (if i < k then T.list.getD i 0 else R.list.getD i 0)))
  free : ∀ i, i < 8 → w.frozen? ⟨b, i, none⟩ = false
theorem MixAt.step {w : World} {b : Nat} {R T : Sha.St} {k : Nat} {y : BitVec 32} (h : MixAt w b R T k) (hk : k < 8) (hy : y = T.list.getD k 0) : MixAt (w.setCell ⟨b, k, none⟩ (.int .u32 (v y))) b R T (k + 1) := by
  refine ⟨fun i hi => ?_, fun i hi => by rw [World.frozen?_setCell]; exact h.free i hi⟩
  by_cases e : i = k
  · subst e
    rw [if_pos (by omega), ← hy]
    exact World.cell?_setCell_same _ _ _ (h.cell i hi)
  · have h1 := h.cell i hi
    have e2 : (i < k + 1) = (i < k) := propext ⟨fun _ => by omega, fun _ => by omega⟩
    simp only [e2]
    exact set_other h1 (fun e' => e e'.symm)
theorem MixAt.drew {w : World} {b : Nat} {R T : Sha.St} {k : Nat} (h : MixAt w b R T k) : MixAt w.drew b R T k := ⟨h.cell, h.free⟩
theorem mix_row {w : World} {b : Nat} {R T : Sha.St} {t : TypeId} (h : w.heap[b]? = some (.cells (wordsL R).toArray t (0, 0))) : MixAt w b R T 0 := by
  refine ⟨fun i hi => ?_, fun i hi => frozen_of_row _ _ _ _ _ h⟩
  rw [cell_of_row _ _ _ _ _ _ h, if_neg (by omega), List.getElem?_toArray]
  exact wordsL_get R i hi
theorem words_row {w : World} {b : Nat} {R : Sha.St} {t : TypeId} (h : w.heap[b]? = some (.cells (wordsL R).toArray t (0, 0))) (i : Nat) (hi : i < 8) : w.cell? ⟨b, i, none⟩ = some (.int .u32 (v (R.list.getD i 0))) := by
  rw [cell_of_row _ _ _ _ _ _ h, List.getElem?_toArray]
  exact wordsL_get R i hi
theorem addSt_getD' (S R : Sha.St) (k : Nat) (h : k < 8) : R.list.getD k 0 + S.list.getD k 0 = (Sha.addSt S R).list.getD k 0 := by
  rw [← addSt_getD S R k h, BitVec.add_comm]

set_option maxRecDepth 100000 in
set_option maxHeartbeats 4000000 in
theorem refBlock_any (S : Sha.St) (a : Option Addr) (cap : Nat) (xs : List Nat) (hx : xs.length = 64) (hcap : 64 ≤ cap) (w : World) (hB : BytesAt w a xs) (RS : Array Value) (hRS : (wordsL S).toArray = RS) :
    Calls Tryz.prog 125 #[.agg RS, .slice a 64 cap] w fun e w' => e = .returned (.agg (wordsL (Sha.comp S xs)).toArray) ∧ Below w.heap.size w w' := by
  have HX := Lib.hid hx
  have HB := Lib.hid hB
  have HRS := Lib.hid hRS
  have hss := wordsL_size S
  have hs1 := wordsL_one S
  rw [hRS] at hss hs1
  have HSS := Lib.hid hss
  have HS1 := Lib.hid hs1
  obtain ⟨KA, hKA⟩ : ∃ K, konA = K := ⟨_, rfl⟩
  have hks := konA_size
  have hk1 := konA_one
  have hkg := konA_get
  rw [hKA] at hks hk1 hkg
  have HKA := Lib.hid hKA
  have HKS := Lib.hid hks
  have HK1 := Lib.hid hk1
  have HKG := Lib.hid hkg
  clear hx hB hRS hss hs1 hKA hks hk1 hkg
  go_enter Tryz.func125, Tryz.ntmps125
  go_upto_region 1 with fail
  obtain ⟨N, hN⟩ := ex_eq w.heap.size
  have HN := Lib.hid hN
  refine wp_over (fun W => Hid (W.heap[w.heap.size]? = some (.cells RS 194 (0, 0))) ∧ Hid (∃ z, z.size = 8 ∧ W.heap[w.heap.size + 1]? = some (.cells z 194 (0, 0))) ∧ Hid (Below w.heap.size w W) ∧ Hid (W.heap.size = w.heap.size + 2)) ⟨?_, ?_, ?_, ?_⟩ ?_
  · exact (((Below.refl (w.heap.size + 1) (w.alloc (.cells RS 194))).alloc (by simp) _).block w.heap.size (Nat.lt_succ_self _)).trans (heap_alloc_new _ _)
  · refine ⟨#[.int .u32 0, .int .u32 0, .int .u32 0, .int .u32 0, .int .u32 0, .int .u32 0, .int .u32 0, .int .u32 0], rfl, ?_⟩
    have h := heap_alloc_new (w.alloc (.cells RS 194)) (.cells #[.int .u32 0, .int .u32 0, .int .u32 0, .int .u32 0, .int .u32 0, .int .u32 0, .int .u32 0, .int .u32 0] 194)
    simpa using h
  · exact ((Below.refl _ _).alloc (Nat.le_refl _) _).alloc (by simp) _
  · show _ = _; simp
  rintro W ⟨HR0, HZ0, HB0, HW0⟩
  rw [hN] at HR0 HZ0 HB0 HW0 ⊢
  clear hN
  go_upto_region 2 with (first
    | (go_at_call 158; (with_reducible refine (refKon_any _).mono ?_); rintro e w1 ⟨rfl, h1⟩; (rw [HKA.out]); (have HB1 := Lib.hid h1); clear h1)
    | (refine wpList_store_row rfl 227 (.tmp 5) (.tmp 22) rfl w1.heap.size KA (by rfl) (by rfl) 227 Tryz.zeroW (by exact zero149_new w1) (by rw [HKS.out]; exact Tryz.size149) (by rw [HKS.out]; exact Tryz.zeroW_size) HK1.out ?_))
  obtain ⟨K, hK⟩ := ex_eq w1.heap.size
  have hKN : N + 2 ≤ K := by rw [← hK, ← HW0.out]; exact HB1.out.size
  refine wp_over (fun V => Hid (V.heap[w1.heap.size]? = some (.cells KA 227 (0, 0))) ∧ Hid (Below (N + 2) W V) ∧ Hid (V.heap.size = w1.heap.size + 1)) ⟨?_, ?_, ?_⟩ ?_
  · exact setRow_heap _ _ _ _ _ _ (zero149_new w1)
  · exact below_setRow ((HB1.out.mono (by rw [HW0.out]; exact Nat.le_refl _)).alloc (by rw [hK]; exact hKN) _) (by rw [hK]; exact hKN) _
  · show _ = _; simp [World.setRow]
  rintro V ⟨HVK, HVB, HVS⟩
  rw [hK] at HVK HVS ⊢
  clear hK HB1
  have HKN := Lib.hid hKN
  clear hKN
  have HBZ : Hid (Tryz.prog.built 227 [] = some Tryz.zeroW) := Lib.hid Tryz.built149
  obtain ⟨ZW, hZW⟩ : ∃ Z, Tryz.zeroW = Z := ⟨_, rfl⟩
  rw [hZW] at HBZ
  have HZS : Hid (ZW.size = 64) := Lib.hid (by rw [← hZW]; exact Tryz.zeroW_size)
  have HZ1 : Hid (ZW.all (·.oneCell') = true) := Lib.hid (by rw [← hZW]; exact Tryz.zeroW_one)
  clear hZW
  go_upto_region 3 with (first
    | (refine wpList_buildL rfl 227 #[] rfl ZW (by simp only [Array.map_empty]; exact HBZ.out) ?_)
    | (refine wpList_store_row rfl 227 (.tmp 6) (.tmp 23) rfl V.heap.size ZW (by rfl) (by rfl) 227 Tryz.zeroW (by exact zero149_new V) (by rw [HZS.out]; exact Tryz.size149) (by rw [HZS.out]; exact Tryz.zeroW_size) HZ1.out ?_))
  obtain ⟨M, hM⟩ := ex_eq V.heap.size
  have hMK : M = K + 1 := by rw [← hM]; exact HVS.out
  refine wp_over (fun X => Hid (WAt X V.heap.size xs 0) ∧ Hid (Below V.heap.size V X) ∧ Hid (X.heap.size = V.heap.size + 1)) ⟨?_, ?_, ?_⟩ ?_
  · have hg : ((V.alloc (.cells Tryz.zeroW 227)).setRow V.heap.size ZW).heap[V.heap.size]? = some (.cells ZW 227 (0, 0)) := setRow_heap _ _ _ _ _ _ (zero149_new V)
    exact ⟨fun i hi => by omega, fun i hi => ⟨_, (cell_of_row _ _ _ _ _ _ hg).trans (Array.getElem?_eq_getElem (by rw [HZS.out]; exact hi))⟩, fun i hi => frozen_of_row _ _ _ _ _ hg⟩
  · exact below_setRow ((Below.refl _ _).alloc (Nat.le_refl _) _) (Nat.le_refl _) _
  · show _ = _; simp [World.setRow]
  rintro X ⟨HX0, HXB, HXS⟩
  rw [hM] at HX0 HXB HXS ⊢
  clear hM
  have HMK := Lib.hid hMK
  clear hMK
  have HKON : Hid (∀ Y, Below M X Y → ∀ t, t < 64 → Y.cell? ⟨K, t, none⟩ = some (.int .u32 (v (Sha.kon t)))) := Lib.hid (fun Y hY t ht => by
    have h1 := (hY.block K (by have := HMK.out; omega)).trans ((HXB.out.block K (by have := HVS.out; have := HMK.out; omega)).trans HVK.out)
    rw [cell_of_row _ _ _ _ _ _ h1]
    exact HKG.out t ht)
  have HSN : Hid (∀ Y, Below M X Y → Y.heap[N]? = some (.cells RS 194 (0, 0))) := Lib.hid (fun Y hY => by
    have a1 := HKN.out; have a2 := HMK.out; have a3 := HVS.out
    exact (hY.block N (by omega)).trans ((HXB.out.block N (by omega)).trans ((HVB.out.block N (by omega)).trans HR0.out)))
  have HZN : Hid (∀ Y, Below M X Y → ∃ z, z.size = 8 ∧ Y.heap[N + 1]? = some (.cells z 194 (0, 0))) := Lib.hid (fun Y hY => by
    have a1 := HKN.out; have a2 := HMK.out; have a3 := HVS.out
    obtain ⟨z, hz, h⟩ := HZ0.out
    exact ⟨z, hz, (hY.block (N + 1) (by omega)).trans ((HXB.out.block (N + 1) (by omega)).trans ((HVB.out.block (N + 1) (by omega)).trans h))⟩)
  have HXW : Hid (Below N w X) := Lib.hid (by
    have a1 := HKN.out; have a2 := HMK.out; have a3 := HVS.out
    exact (HB0.out.trans (HVB.out.mono (by omega))).trans (HXB.out.mono (by omega)))
  have HBY : Hid (∀ Y, Below M X Y → BytesAt Y a xs) := Lib.hid (fun Y hY => HB.out.later (by
    have a1 := HKN.out; have a2 := HMK.out; have a3 := HVS.out
    rw [HN.out]; exact HXW.out.trans (hY.mono (by omega))))
  clear HR0 HZ0 HB0 HW0 HVK HVB HXB HVS HB HKG HKS HK1 HKA
  go_wp2_with fail
  go_loopw [7] (fun i wr => ∃ k : Nat, k ≤ 16 ∧ i = .int .i64 k ∧ Hid (WAt wr M xs k) ∧ Hid (Below M X wr)) (fun i _ => 16 - (intOf i).toNat)
  case atStart => exact ⟨0, by omega, rfl, HX0, Below.refl _ _⟩
  case round =>
    obtain ⟨k, hk, rfl, HWA, HBE⟩ := hrel
    by_cases hlt : k < 16
    · have hki : (k : Int) < 16 := by omega
      obtain ⟨old, hold⟩ := HWA.out.cell k (by omega)
      have hfree := HWA.out.free k (by omega)
      obtain ⟨b', o', e', hc⟩ := (HBY.out _ HBE.out).some (by rw [HX.out]; omega)
      subst e'
      have c0 := hc (4 * k) (by rw [HX.out]; omega)
      have c1 := hc (4 * k + 1) (by rw [HX.out]; omega)
      have c2 := hc (4 * k + 2) (by rw [HX.out]; omega)
      have c3 := hc (4 * k + 3) (by rw [HX.out]; omega)
      have x0 := (HBY.out _ HBE.out).getD_lt (4 * k) (by rw [HX.out]; omega)
      have x1 := (HBY.out _ HBE.out).getD_lt (4 * k + 1) (by rw [HX.out]; omega)
      have x2 := (HBY.out _ HBE.out).getD_lt (4 * k + 2) (by rw [HX.out]; omega)
      have x3 := (HBY.out _ HBE.out).getD_lt (4 * k + 3) (by rw [HX.out]; omega)
      have HNX : Hid (Sha.word (xs.getD (4 * k) 0) (xs.getD (4 * k + 1) 0) (xs.getD (4 * k + 2) 0) (xs.getD (4 * k + 3) 0) = Sha.next xs (Sha.sched xs k) k) := (next_low hlt).symm
      clear hc
      generalize xs.getD (4 * k) 0 = z0 at c0 x0 HNX
      generalize xs.getD (4 * k + 1) 0 = z1 at c1 x1 HNX
      generalize xs.getD (4 * k + 2) 0 = z2 at c2 x2 HNX
      generalize xs.getD (4 * k + 3) 0 = z3 at c3 x3 HNX
      go_wp2_with fail
      refine Kit.wp_region_quiet_tail 34 (by kernel_rfl) (by kernel_rfl) ?_
      simp only [List.take_succ_cons, List.take_zero, List.drop_succ_cons, List.drop_zero]
      repeat (go_big_quiet_step (fail))
      refine wpQuiet_nil ?_
      go_wp2_with fail
      go_roundw
      case rel => exact ⟨k + 1, by omega, by go_num, by show WAt _ _ _ _; rw [Sha.word_bits _ _ _ _ x0 x1 x2 x3]; exact (HWA.out.step (by omega) HNX.out).drew, (HBE.out.setCell (p := ⟨M, k, none⟩) (Nat.le_refl _) _).drew⟩
      case measure => simp [intOf]; omega
    · have e : k = 16 := by omega
      subst e
      rw [show (((16 : Nat)) : Int) = 16 from rfl]
      rename World => w2
      obtain ⟨Q0, hq0⟩ : ∃ Q : Prop, Hid Q := ⟨True, trivial⟩
      have HWA2 := HWA
      have HBE2 := HBE
      clear HWA HBE
      go_wp2_with fail
      go_loopw [8, 9, 10] (fun i y9 y10 wr => ∃ k : Nat, 16 ≤ k ∧ k ≤ 64 ∧ i = .int .i64 k ∧ Hid (WAt wr M xs k) ∧ Hid (Below M X wr)) (fun i _ _ _ => 64 - (intOf i).toNat)
      case atStart => exact ⟨16, by omega, by omega, rfl, HWA2.out, HBE2.out⟩
      case round =>
        obtain ⟨k, h16, hk, rfl, HWA, HBE⟩ := hrel
        by_cases hlt : k < 64
        · have hki : (k : Int) < 64 := by omega
          obtain ⟨old, hold⟩ := HWA.out.cell k hlt
          have hfree := HWA.out.free k hlt
          have HNX := Lib.hid (next_high (xs := xs) (show ¬ k < 16 by omega) hlt)
          have c2 := HWA.out.done (k - 2) (by omega)
          have c7 := HWA.out.done (k - 7) (by omega)
          have c15 := HWA.out.done (k - 15) (by omega)
          have c16 := HWA.out.done (k - 16) (by omega)
          generalize (Sha.sched xs 64).getD (k - 2) 0 = y2 at c2 HNX
          generalize (Sha.sched xs 64).getD (k - 7) 0 = y7 at c7 HNX
          generalize (Sha.sched xs 64).getD (k - 15) 0 = y15 at c15 HNX
          generalize (Sha.sched xs 64).getD (k - 16) 0 = y16 at c16 HNX
          obtain ⟨p2, hp2⟩ : ∃ p, k - 2 = p := ⟨_, rfl⟩
          obtain ⟨p7, hp7⟩ : ∃ p, k - 7 = p := ⟨_, rfl⟩
          obtain ⟨p15, hp15⟩ : ∃ p, k - 15 = p := ⟨_, rfl⟩
          obtain ⟨p16, hp16⟩ : ∃ p, k - 16 = p := ⟨_, rfl⟩
          have i2 : (k : Int) - 2 = (p2 : Int) := by omega
          have i7 : (k : Int) - 7 = (p7 : Int) := by omega
          have i15 : (k : Int) - 15 = (p15 : Int) := by omega
          have i16 : (k : Int) - 16 = (p16 : Int) := by omega
          have l2 : p2 < 64 := by omega
          have l7 : p7 < 64 := by omega
          have l15 : p15 < 64 := by omega
          have l16 : p16 < 64 := by omega
          rw [hp2] at c2
          rw [hp7] at c7
          rw [hp15] at c15
          rw [hp16] at c16
          clear hp2 hp7 hp15 hp16
          have l2' : (p2 : Int) < 64 := by omega
          have l7' : (p7 : Int) < 64 := by omega
          have l15' : (p15 : Int) < 64 := by omega
          have l16' : (p16 : Int) < 64 := by omega
          have w2' : IntKind.i64.wrap (p2 : Int) = (p2 : Int) := by rw [IntKind.wrap_i64]; omega
          have w7' : IntKind.i64.wrap (p7 : Int) = (p7 : Int) := by rw [IntKind.wrap_i64]; omega
          have w15' : IntKind.i64.wrap (p15 : Int) = (p15 : Int) := by rw [IntKind.wrap_i64]; omega
          have w16' : IntKind.i64.wrap (p16 : Int) = (p16 : Int) := by rw [IntKind.wrap_i64]; omega
          have r1 := Sha.f_xor Q0
          have r2 := Sha.f_add Q0
          have r3 := Sha.f_shr10 Q0
          have r4 := Sha.f_shr3 Q0
          have r9 := Sha.f_nonneg Q0
          go_upto_region 10 with fail
          refine wp_region_quiet_lit (by kernel_rfl) (by kernel_rfl) ?_
          iterate 4 (quiet_step (fail))
          quiet_step (with_reducible exact Calls.quiet_of (refRot7 _ _))
          iterate 4 (quiet_step (fail))
          quiet_step (with_reducible exact Calls.quiet_of (refRot18 _ _))
          repeat (quiet_step (fail))
          refine wpQuiet_nil ?_
          intro _ hw'
          obtain ⟨nq, hw''⟩ := hw'
          subst hw''
          go_upto_region 11 with fail
          refine wp_region_quiet_lit (by kernel_rfl) (by kernel_rfl) ?_
          iterate 4 (quiet_step (fail))
          quiet_step (with_reducible exact quiet3 (refRot17 _ _))
          iterate 4 (quiet_step (fail))
          quiet_step (with_reducible exact quiet3 (refRot19 _ _))
          repeat (quiet_step (fail))
          refine wpQuiet_nil ?_
          intro _ hw'
          obtain ⟨nq, hw''⟩ := hw'
          subst hw''
          go_upto_region 12 with fail
          refine Kit.wp_region_quiet_tail 15 (by kernel_rfl) (by kernel_rfl) ?_
          simp only [List.take_succ_cons, List.take_zero, List.drop_succ_cons, List.drop_zero]
          repeat (go_big_quiet_step (fail))
          refine wpQuiet_nil ?_
          go_wp2_with fail
          go_roundw
          case rel => exact ⟨k + 1, by omega, by omega, by go_num, (HWA.out.drawn _).step hlt (by rw [HNX.out]; rfl), (below_drewN HBE.out _).setCell (p := ⟨M, k, none⟩) (Nat.le_refl _) _⟩
          case measure => simp [intOf]; omega
        · have e : k = 64 := by omega
          subst e
          rw [show (((64 : Nat)) : Int) = 64 from rfl]
          rename World => w3
          have HW3 := HWA
          have HB3 := HBE
          clear HWA HBE HWA2 HBE2
          have HR3 := Lib.hid (HSN.out _ HB3.out)
          have HM3 : Hid (M + 1 ≤ w3.heap.size) := Lib.hid (by
            obtain ⟨y, hy⟩ := HW3.out.cell 0 (by omega)
            exact World.block_lt_of_cell? w3 _ hy)
          go_upto_region 14 with (first
            | (with_reducible refine wpList_load_row rfl 194 (.tmp 2) rfl N rfl 194 RS (0, 0) _ HR3.out Tryz.underlying194 rfl (by rw [HSS.out]; exact Tryz.size128) ?_)
            | (refine wpList_store_row rfl 194 (.tmp 11) (.tmp 116) rfl w3.heap.size RS (by rfl) (by rfl) 194 #[.int .u32 0, .int .u32 0, .int .u32 0, .int .u32 0, .int .u32 0, .int .u32 0, .int .u32 0, .int .u32 0] (by exact heap_alloc_new w3 _) (by rw [HSS.out]; exact Tryz.size128) (by rw [HSS.out]; rfl) HS1.out ?_))
          obtain ⟨VB, hVB⟩ := ex_eq w3.heap.size
          refine wp_over (fun Y => Hid (Y.heap[w3.heap.size]? = some (.cells RS 194 (0, 0))) ∧ Hid (Below w3.heap.size w3 Y)) ⟨?_, ?_⟩ ?_
          · exact setRow_heap _ _ _ _ _ _ (heap_alloc_new w3 _)
          · exact below_setRow ((Below.refl _ _).alloc (Nat.le_refl _) _) (Nat.le_refl _) _
          rintro Y ⟨HYV, HYB⟩
          rw [hVB] at HYV HYB ⊢
          have hVM : M < VB := by have := HM3.out; omega
          have HVB := Lib.hid hVB
          clear hVB
          clear HR3 HM3 hVM
          have HVM : Hid (M < VB) := Lib.hid (by
            obtain ⟨y, hy⟩ := HW3.out.cell 0 (by omega)
            have h := World.block_lt_of_cell? w3 _ hy
            rw [HVB.out] at h
            exact h)
          go_wp2_with fail
          go_loopw [12, 13, 14, 15, 16, 17, 18, 19, 20] (fun t y13 y14 y15 y16 y17 y18 y19 y20 wr => ∃ k : Nat, k ≤ 64 ∧ t = .int .i64 k ∧ Hid (wr.heap[VB]? = some (.cells (wordsL (Sha.rounds xs S k)).toArray 194 (0, 0))) ∧ Hid (Below VB Y wr)) (fun t _ _ _ _ _ _ _ _ _ => 64 - (intOf t).toNat)
          case atStart => exact ⟨0, by omega, rfl, by show _ = _; rw [show Sha.rounds xs S 0 = S from rfl, HRS.out]; exact HYV.out, Below.refl _ _⟩
          case round =>
            obtain ⟨k, hk, rfl, HROW, HBE⟩ := hrel
            have HBX : Hid (Below M X wr) := Lib.hid (HB3.out.trans ((HYB.out.trans HBE.out).mono (Nat.le_of_lt HVM.out)))
            by_cases hlt : k < 64
            · have hki : (k : Int) < 64 := by omega
              have hkon := HKON.out wr HBX.out k hlt
              have hwk := (HW3.out.later (by rw [HVB.out]; exact HYB.out.trans HBE.out)).done k hlt
              have HRN : Hid (Sha.rounds xs S (k + 1) = Sha.rnd (Sha.rounds xs S k) (Sha.kon k) ((Sha.sched xs 64).getD k 0)) := rfl
              generalize (Sha.sched xs 64).getD k 0 = wk at hwk HRN
              generalize Sha.kon k = kk at hkon HRN
              have c0 := words_row HROW.out 0 (by omega)
              have c1 := words_row HROW.out 1 (by omega)
              have c2 := words_row HROW.out 2 (by omega)
              have c3 := words_row HROW.out 3 (by omega)
              have c4 := words_row HROW.out 4 (by omega)
              have c5 := words_row HROW.out 5 (by omega)
              have c6 := words_row HROW.out 6 (by omega)
              have c7 := words_row HROW.out 7 (by omega)
              obtain ⟨R, hR⟩ := ex_eq (Sha.rounds xs S k)
              rw [hR] at HROW HRN c0 c1 c2 c3 c4 c5 c6 c7
              have HR := Lib.hid hR
              clear hR
              obtain ⟨ra, rb, rc, rd, re, rf, rg, rh⟩ := R
              simp only [Sha.St.list, List.getD_cons_zero, List.getD_cons_succ] at c0 c1 c2 c3 c4 c5 c6 c7
              have r1 := Sha.f_xor Q0
              have r2 := Sha.f_add Q0
              have r3 := Sha.f_and Q0
              have r4 := Sha.f_not Q0
              have r9 := Sha.f_nonneg Q0
              go_upto_region 17 with fail
              go_quiet (fail)
              go_upto_region 18 with fail
              refine wp_region_quiet_lit (by kernel_rfl) (by kernel_rfl) ?_
              iterate 3 (quiet_step (fail))
              quiet_step (with_reducible exact quiet3 (refRot6 _ _))
              iterate 1 (quiet_step (fail))
              quiet_step (with_reducible exact quiet3 (refRot11 _ _))
              iterate 2 (quiet_step (fail))
              quiet_step (with_reducible exact quiet3 (refRot25 _ _))
              repeat (quiet_step (fail))
              refine wpQuiet_nil ?_
              intro _ hw'
              obtain ⟨nq2, hw''⟩ := hw'
              subst hw''
              go_upto_region 20 with (first
                | (go_at_call 159; (with_reducible refine (refRot2 _ _).mono ?_); rintro e w' ⟨rfl, n2, rfl⟩)
                | (go_at_call 159; (with_reducible refine (refRot13 _ _).mono ?_); rintro e w' ⟨rfl, n13, rfl⟩)
                | (go_at_call 159; (with_reducible refine (refRot22 _ _).mono ?_); rintro e w' ⟨rfl, n22, rfl⟩))
              go_wp2_with (first
                | (refine wpList_store_row rfl 194 (.tmp 11) (.tmp 194) rfl VB (wordsL (Sha.rnd ⟨ra, rb, rc, rd, re, rf, rg, rh⟩ kk wk)).toArray (by rfl) (by rfl) 194 (wordsL ⟨ra, rb, rc, rd, re, rf, rg, rh⟩).toArray (by exact HROW.out) (by rw [wordsL_size]; exact Tryz.size128) rfl (wordsL_one _) ?_))
              go_roundw
              case rel => exact ⟨k + 1, by omega, by go_num, by show _ = _; rw [HRN.out]; exact setRow_heap _ _ _ _ _ _ HROW.out, below_setRow (below_drewN HBE.out _) (Nat.le_refl _) _⟩
              case measure => simp [intOf]; omega
            · have e : k = 64 := by omega
              subst e
              rw [show (((64 : Nat)) : Int) = 64 from rfl]
              rename World => w4
              have HRC : Hid (Sha.comp S xs = Sha.addSt S (Sha.rounds xs S 64)) := rfl
              obtain ⟨R, hR⟩ := ex_eq (Sha.rounds xs S 64)
              rw [hR] at HROW HRC
              obtain ⟨T, hT⟩ := ex_eq (Sha.comp S xs)
              rw [hT] at HRC
              have HT := Lib.hid hT
              clear hT hR
              have HB4 := HBE
              have HMX : Hid (∀ Z, Below VB Y Z → Below M X Z) := Lib.hid (fun Z hZ => HB3.out.trans ((HYB.out.trans hZ).mono (Nat.le_of_lt HVM.out)))
              clear HBE HBX hk hlt
              go_wp2_with fail
              go_loopw [21] (fun i wr => ∃ k : Nat, k ≤ 8 ∧ i = .int .i64 k ∧ Hid (MixAt wr VB R T k) ∧ Hid (Below VB Y wr)) (fun i _ => 8 - (intOf i).toNat)
              case atStart => exact ⟨0, by omega, rfl, mix_row HROW.out, HB4.out⟩
              case round =>
                obtain ⟨k, hk, rfl, HMA, HBE⟩ := hrel
                by_cases hlt : k < 8
                · have hki : (k : Int) < 8 := by omega
                  have cv := HMA.out.cell k hlt
                  rw [if_neg (Nat.lt_irrefl k)] at cv
                  have hfree := HMA.out.free k hlt
                  have hrow := HSN.out _ (HMX.out _ HBE.out)
                  rw [← HRS.out] at hrow
                  have cs := words_row hrow k hlt
                  clear hrow
                  have HAD := Lib.hid (addSt_getD' S R k hlt)
                  rw [← HRC.out] at HAD
                  generalize R.list.getD k 0 = yR at cv HAD
                  generalize S.list.getD k 0 = yS at cs HAD
                  have r2 := Sha.f_add Q0
                  have r9 := Sha.f_nonneg Q0
                  go_upto_region 24 with fail
                  refine Kit.wp_region_quiet_tail 8 (by kernel_rfl) (by kernel_rfl) ?_
                  simp only [List.take_succ_cons, List.take_zero, List.drop_succ_cons, List.drop_zero]
                  repeat (go_big_quiet_step (fail))
                  refine wpQuiet_nil ?_
                  go_wp2_with fail
                  go_roundw
                  case rel => exact ⟨k + 1, by omega, by go_num, HMA.out.drew.step hlt HAD.out, HBE.out.drew.setCell (p := ⟨VB, k, none⟩) (Nat.le_refl _) _⟩
                  case measure => simp [intOf]; omega
                · have e : k = 8 := by omega
                  subst e
                  have hsT := wordsL_size T
                  have hs1 := wordsL_one T
                  have hcs : ∀ j u, (wordsL T)[j]? = some u → wr.cell? ⟨VB, 0 + j, none⟩ = some u := fun j u hj => by
                    have hj8 : j < 8 := (List.getElem?_eq_some_iff.1 hj).1
                    rw [wordsL_get T j hj8] at hj
                    have h := HMA.out.cell j hj8
                    rw [if_pos hj8] at h
                    rw [Nat.zero_add, h, hj]
                  obtain ⟨z, hz, hzr⟩ := HZN.out _ (HMX.out _ HBE.out)
                  obtain ⟨RT, hRT⟩ := ex_eq (wordsL T).toArray
                  rw [hRT] at hsT hs1
                  have HRT := Lib.hid hRT
                  have HCS := Lib.hid hcs
                  have HZR := Lib.hid hzr
                  have HZS := Lib.hid hz
                  have HST := Lib.hid hsT
                  have HS1T := Lib.hid hs1
                  clear hcs hzr hz hRT hsT hs1
                  go_wp2_with (first
                    | (with_reducible refine wpList_load_cells rfl 194 (.tmp 11) rfl VB 0 rfl (wordsL T) HCS.out _ Tryz.underlying194 rfl rfl RT HRT.out ?_)
                    | (refine wpList_store_row rfl 194 (.tmp 4) (.tmp 207) rfl (N + 1) RT (by rfl) (by rfl) 194 z (by exact HZR.out) (by rw [HST.out]; exact Tryz.size128) (by rw [HST.out, HZS.out]) HS1T.out ?_))
                  refine bodyPost_ret (results_cell_row (p := 4) rfl _ _ (N + 1) 194 RT (0, 0) _ (by rfl) (setRow_heap _ _ _ _ _ _ HZR.out) Tryz.underlying194 rfl (by rw [HST.out]; exact Tryz.size128)) rfl ⟨by rw [HT.out, HRT.out], ?_⟩
                  have a1 := HKN.out; have a2 := HMK.out; have a3 := HVM.out
                  rw [HN.out]
                  exact below_setRow (HXW.out.trans ((HMX.out _ HBE.out).mono (by omega))) (by omega) _
end Go.Proofs.YtmeimbnfgdnlbaaGreatDoor

/- The document's SHA-256: Sum. -/
namespace Go.Proofs.YtmeimbnfgdnlbaaGreatDoor
set_option linter.unusedVariables false
set_option linter.unusedSimpArgs false
open Go.RowKit
open Kit (Chg)
open Sha (v)
open Go.Proofs.YtmeimbnfgdnlbaaGreatDoor.One

theorem init_row : (#[.int .u32 1779033703, .int .u32 3144134277, .int .u32 1013904242, .int .u32 2773480762, .int .u32 1359893119, .int .u32 2600822924, .int .u32 528734635, .int .u32 1541459225] : Array Value) = (wordsL (Sha.hs [] 0)).toArray := rfl
theorem hs_zero (P : List Nat) : Sha.hs P 0 = Sha.hs [] 0 := rfl
theorem wp_app_four {o : Oper} {a : Act} {K : Act → World → Prop} {Q : Exit → Act → World → Prop} {w0 : World} (s x : Operand) (ho : o.op = .call { callee := .builtin .append, args := #[s, x], argTypes := #[29, 29] })
    (base : Nat) (v : Value) (L : Nat) (cur : List Nat) (hs : a.eval s = v) (hown : w0.ownsRow base 5 1 v L (bvals cur)) (hb : base ≤ w0.heap.size) (hL : L ≤ 1000000000000)
    (E0 E1 E2 E3 : Int) (bs : List Nat) (hE : bvals bs = [.int .u8 E0, .int .u8 E1, .int .u8 E2, .int .u8 E3]) (c : Nat) (hx : a.eval x = .slice (some ⟨w0.heap.size, 0, none⟩) 4 c)
    (h : ∀ v' w', w'.ownsRow base 5 1 v' (L + 4) (bvals (cur ++ bs)) → Below base w0 w' → K (a.put o.dst v') w') : o.wp Tryz.prog a (w0.alloc (.cells #[.int .u8 E0, .int .u8 E1, .int .u8 E2, .int .u8 E3] 5)) K Q := by
  obtain ⟨i0, hi, hz0, hz1, hz2⟩ := info_parts Tryz.info5
  refine wp_append_own _ s x 29 ho base 5 i0 (.int .u8 0) 1 1 Tryz.underlying29 hi hz0 hz1 hz2 rfl (by decide) v L (bvals cur) hs (hown.alloc _) ⟨w0.heap.size, 0, none⟩ 4 c [.int .u8 E0, .int .u8 E1, .int .u8 E2, .int .u8 E3] hx rfl (by intro j u hu; rw [add_none]; exact cells_new_at _ _ _ j u hu) (by simp [Value.oneCell']) (by unfold maxLen; omega) (by omega) (by simp; omega) ?_
  intro v' w4 hown4 hgr4 _
  refine h v' w4 (by rw [bvals_append, hE]; exact hown4) ?_
  exact ((Chg.alloc1 w0 _).trans (Chg.of_grown hgr4 (fun q _ e => (hown.lt q e).1)) : Chg (fun q _ => base ≤ q) w0 w4).below hb (fun q i hq h => by omega)
theorem chg_setRow {M : Nat → Nat → Prop} (w : World) (g : Nat) (cs : Array Value) (hM : ∀ i, M g i) : Chg M w (w.setRow g cs) :=
  ⟨rfl, rfl, rfl, by simp [World.setRow], fun k _ hn => setRow_other w g k cs (fun e => hn 0 (e ▸ hM 0)), fun k hn c e f hc =>
    ⟨c, (setRow_other w g k cs (fun e => by obtain ⟨i, hi⟩ := hn; exact hi (e ▸ hM i))).trans hc, rfl, fun _ _ => rfl⟩⟩
set_option maxRecDepth 100000 in
set_option maxHeartbeats 2000000 in
theorem refSum_l (a : Option Addr) (cap : Nat) (xs : List Nat) (L : Nat) (hLe : xs.length = L) (hnil : a = none → cap = 0) (hl : L ≤ 100000000000) (w : World) (hB : BytesAt w a xs) :
    Calls Tryz.prog 83 #[.slice a L cap] w fun e w' => ∃ u : ByteArray, e = .returned (.string u) ∧ nb u = Sha.sum xs ∧ Below w.heap.size w w' := by
  have HB := Lib.hid hB
  have HNIL := Lib.hid hnil
  have HLE := Lib.hid hLe
  have HSUM : Hid (Sha.sum xs = Sha.digest (Sha.hs (Sha.pad xs) (Sha.pad xs).length)) := rfl
  have HP64 : Hid ((Sha.pad xs).length % 64 = 0) := Lib.hid (Sha.pad_length xs)
  have HPL : Hid ((Sha.pad xs).length ≤ 200000000000) := Lib.hid (by
    unfold Sha.pad Sha.zeros
    rw [List.length_append, List.length_cons, List.length_append, List.length_replicate, Sha.be8_length]
    omega)
  have HPB : Hid (∀ x ∈ Sha.pad xs, x < 256) := Lib.hid (fun x hx => by
    unfold Sha.pad at hx
    rcases List.mem_append.1 hx with h | h
    · exact hB.2.1 x h
    · rcases List.mem_cons.1 h with h | h
      · omega
      · rcases List.mem_append.1 h with h | h
        · rw [List.eq_of_mem_replicate h]; decide
        · exact Sha.be8_lt _ x h)
  have HPAD := Lib.hid (fun w hB => refPad_l a cap xs L hLe hnil hl w hB)
  obtain ⟨P, hP⟩ := ex_eq (Sha.pad xs)
  rw [hP] at HSUM HP64 HPL HPB HPAD
  obtain ⟨PL, hPL⟩ := ex_eq P.length
  rw [hPL] at HSUM HP64 HPL HPAD
  have HPLE := Lib.hid hPL
  clear hB hnil hLe hP hPL
  go_enter Tryz.func83, Tryz.ntmps83
  go_upto_region 2 with fail
  rw [init_row, ← hs_zero P]
  refine wp_over (fun W => Hid (W.heap[w.heap.size]? = some (.cells (wordsL (Sha.hs P 0)).toArray 194 (0, 0))) ∧ Hid (Below w.heap.size w W) ∧ Hid (W.heap.size = w.heap.size + 1)) ⟨heap_alloc_new _ _, (Below.refl _ _).alloc (Nat.le_refl _) _, by show _ = _; simp⟩ ?_
  rintro W ⟨HR0, HB0, HW0⟩
  obtain ⟨N, hN⟩ := ex_eq w.heap.size
  rw [hN] at HR0 HB0 HW0 ⊢
  have HN := Lib.hid hN
  clear hN
  go_upto_region 3 with (first
    | (with_reducible refine (HPAD.out _ (HB.out.later (by rw [HN.out]; exact HB0.out))).mono ?_
       rintro e w1 ⟨vp, cp0, rfl, hc, ho1, h1⟩
       rw [hc] at ho1
       rw [HW0.out] at ho1 h1
       have HO1 := Lib.hid ho1
       have H1 := Lib.hid h1
       clear hc ho1 h1))
  obtain ⟨ap, cp, rfl, hpl2, hpc, hPB, hpnil, hpblk⟩ := own_bytes HO1.out HPB.out (by rw [HPLE.out]; have := HPL.out; unfold maxLen; omega)
  rw [HPLE.out] at hpc
  have HPB1 := Lib.hid hPB
  have HPN := Lib.hid hpnil
  have HPC := Lib.hid hpc
  have HPK := Lib.hid hpblk
  have HW1 : Hid (N + 1 ≤ w1.heap.size) := Lib.hid (by have := H1.out.size; have := HW0.out; omega)
  have HR1 : Hid (w1.heap[N]? = some (.cells (wordsL (Sha.hs P 0)).toArray 194 (0, 0))) := Lib.hid ((H1.out.block N (Nat.lt_succ_self N)).trans HR0.out)
  have HNW : Hid (N ≤ w.heap.size) := Lib.hid (by have := HN.out; omega)
  have HB1 : Hid (Below N w w1) := Lib.hid (HB0.out.trans (H1.out.mono (Nat.le_succ N)))
  clear hpl2 hpc hPB hpnil hpblk HPAD HB HNIL HO1 HR0
  have HBYP : Hid (∀ V, Chg (fun q i => q = N) w1 V → BytesAt V ap P) := Lib.hid (fun V h => bytesAt_chg HPB1.out h (fun ad e i hi => by have := (HPK.out ad e).1; omega))
  have hPLi : (PL : Int) ≤ 200000000000 := by have := HPL.out; omega
  go_wp2_with fail
  go_loopw [5] (fun x wr => ∃ i : Nat, x = .int .i64 (i : Int) ∧ i ≤ PL ∧ Hid (i % 64 = 0) ∧ Hid (wr.heap[N]? = some (.cells (wordsL (Sha.hs P i)).toArray 194 (0, 0))) ∧ Hid (Chg (fun q i => q = N) w1 wr)) (fun x _ => PL - (intOf x).toNat)
  case atStart => exact ⟨0, rfl, Nat.zero_le _, rfl, HR1.out, Chg.refl _ _⟩
  case round =>
    obtain ⟨i, rfl, hi, HI64, HROW, HCH⟩ := hrel
    by_cases hlt : i < PL
    · have hii : (i : Int) < (PL : Int) := by omega
      have hi64 : i + 64 ≤ PL := by have := HI64.out; have := HP64.out; omega
      have hsl := slice_lh ap PL cp i (i + 64) (by omega) (by have := HPC.out; omega)
      rw [show ((i + 64 : Nat) : Int) = (i : Int) + 64 by omega, show i + 64 - i = 64 by omega] at hsl
      have HBL : Hid (BytesAt wr (subA ap i cp) ((P.take (i + 64)).drop i)) := Lib.hid (bytesAt_sub (HBYP.out _ HCH.out) (by rw [HPLE.out]; exact HPC.out) i (i + 64))
      obtain ⟨A2, hA2⟩ := ex_eq (subA ap i cp)
      obtain ⟨C2, hC2⟩ := ex_eq (cp - i)
      rw [hA2] at HBL
      rw [hA2, hC2] at hsl
      have HC2 : Hid (64 ≤ C2) := Lib.hid (by have := HPC.out; omega)
      have HXL : Hid (((P.take (i + 64)).drop i).length = 64) := Lib.hid (by rw [List.length_drop, List.length_take, HPLE.out]; omega)
      have HBK : Hid (Sha.hs P (i + 64) = Sha.comp (Sha.hs P i) ((P.take (i + 64)).drop i)) := Lib.hid (Sha.hs_block P i HI64.out)
      obtain ⟨S, hS⟩ := ex_eq (Sha.hs P i)
      rw [hS] at HROW HBK
      obtain ⟨xb, hxb⟩ := ex_eq ((P.take (i + 64)).drop i)
      rw [hxb] at HBL HXL HBK
      obtain ⟨RS, hRS⟩ := ex_eq (wordsL S).toArray
      have hss := wordsL_size S
      rw [hRS] at HROW hss
      have HSS := Lib.hid hss
      have HRS := Lib.hid hRS
      clear hA2 hC2 hS hxb hRS hss hi64
      have hw64 : IntKind.i64.wrap ((i : Int) + 64) = (i : Int) + 64 := by rw [IntKind.wrap_i64]; omega
      go_upto_region 6 with fail
      refine Kit.wp_region_headsL (fun X => X.heap[N]? = some (.cells RS 194 (0, 0))) 7 [0, 1, 2, 3, 4, 5] [6, 7] (by kernel_rfl) (by kernel_rfl) (by kernel_rfl) (by kernel_rfl) HROW.out ?_
      refine Kit.heads_cons (by rfl) (.inl ⟨by rfl, fun w' hS => load_cells_yield 194 (.tmp 3) rfl N 0 rfl RS.toList (fun j u hj => by rw [Nat.zero_add, cell_of_row _ _ _ _ _ _ hS, ← hj]; simp) _ Tryz.underlying194 rfl (by rw [Array.length_toList, HSS.out]; exact Tryz.size128) RS (by simp)⟩) ?_
      simp only [Act.put, List.setIfInBounds_toArray, List.set_cons_zero, List.set_cons_succ]
      iterate 5 (refine Kit.heads_cons (by rfl) (.inl ⟨by rfl, fun w' hS => by (dsimp only at hS); go_simp; (try with_reducible rfl)⟩) ?_; simp only [Act.put, List.setIfInBounds_toArray, List.set_cons_zero, List.set_cons_succ])
      refine Kit.heads_nil ?_
      refine Kit.chainL_cons (by rfl) rfl fun K hK => ?_
      go_simp
      go_at_call 125
      refine (refBlock_any S A2 C2 xb HXL.out HC2.out wr.drew HBL.out RS HRS.out).mono ?_
      rintro e w2 ⟨rfl, h2⟩
      have HW2 : Hid (wr.heap.size ≤ w2.heap.size) := Lib.hid h2.size
      have hr2 : w2.heap[N]? = some (.cells RS 194 (0, 0)) := (h2.block N (Array.getElem?_eq_some_iff.1 HROW.out).1).trans HROW.out
      have HR2 := Lib.hid hr2
      have HC2' : Hid (Chg (fun q i => q = N) w1 w2) := Lib.hid (HCH.out.drew.trans (Chg.of_below h2))
      clear h2 hr2
      refine hK _ _ (fun _ => HR2.out) ?_
      clear hK K
      refine Kit.chainL_cons (by rfl) rfl fun K hK => wp_store_row 194 (.tmp 3) (.tmp 23) rfl N (wordsL (Sha.comp S xb)).toArray (by rfl) (by rfl) 194 RS HR2.out (by rw [wordsL_size]; exact Tryz.size128) (by rw [HSS.out, wordsL_size]) (wordsL_one _) (hK _ _ (fun h => absurd rfl h) (Kit.chainL_done ?_))
      simp only [Act.put]
      go_wp2_with fail
      go_roundw
      case rel => exact ⟨i + 64, by go_num, by have := HI64.out; have := HP64.out; omega, by show _ = _; have := HI64.out; omega, by show _ = _; rw [HBK.out]; exact setRow_heap _ _ _ _ _ _ HR2.out, HC2'.out.trans (chg_setRow _ _ _ (fun _ => rfl))⟩
      case measure => simp [intOf]; omega
    · have he : i = PL := by omega
      subst he
      obtain ⟨S, hS⟩ := ex_eq (Sha.hs P i)
      rw [hS] at HROW HSUM
      have HDL : Hid ((Sha.digest S).length = 32) := Lib.hid (Sha.digest_length S)
      rename World => wa
      have HWA : Hid (N + 1 ≤ wa.heap.size) := Lib.hid (by have := HCH.out.size; have := HW1.out; omega)
      have HE := Lib.hid (own_empty (w := wa) (base := N + 1) HWA.out)
      have HBA : Hid (Below (N + 1) wa (wa.alloc (.cells #[] 5))) := Lib.hid ((Below.refl _ _).alloc HWA.out _)
      have HBW : Hid (Below N w wa) := Lib.hid (HB1.out.trans (HCH.out.below (by have := HW1.out; omega) (fun k i hk h => by omega)))
      clear hS hi hlt HPLE HP64 HPL hPLi
      go_upto_region 9 with fail
      go_loopw [6, 7] (fun x y wr => ∃ k : Nat, k ≤ 8 ∧ y = .int .i64 (k : Int) ∧ Hid (wr.ownsRow (N + 1) 5 1 x (4 * k) (bvals ((Sha.digest S).take (4 * k)))) ∧ Hid (Below (N + 1) wa wr)) (fun _ y _ => 8 - (intOf y).toNat)
      case atStart => exact ⟨0, by omega, rfl, HE.out, HBA.out⟩
      case round =>
        obtain ⟨k, hk, rfl, HOW, HBE⟩ := hrel
        have HWR : Hid (N + 1 ≤ wr.heap.size) := Lib.hid (by have := HBE.out.size; have := HWA.out; omega)
        by_cases hlt : k < 8
        · have hki : (k : Int) < 8 := by omega
          have hrow := (HBE.out.block N (Nat.lt_succ_self N)).trans HROW.out
          have cs := words_row hrow k hlt
          have HDT := Lib.hid (digest_take S k hlt)
          obtain ⟨X0, hX⟩ := ex_eq (S.list.getD k 0)
          rw [hX] at cs HDT
          have HX := Lib.hid hX
          obtain ⟨Q0, hq0⟩ : ∃ Q : Prop, Hid Q := ⟨True, trivial⟩
          have r9 := Sha.f_nonneg Q0
          clear hrow hX
          go_upto_region 11 with fail
          refine Kit.wp_region_plan (fun X => X.cell? ⟨N, k, none⟩ = some (.int .u32 (v X0))) [(true, 0), (true, 1), (true, 2), (true, 3), (true, 4), (true, 5), (true, 6), (true, 7), (true, 8), (true, 9), (true, 10), (true, 11), (true, 12), (true, 13), (true, 14), (true, 15), (true, 16), (true, 17), (true, 18), (true, 19), (false, 20), (false, 21), (false, 22)] (by kernel_rfl) (by kernel_rfl) (by kernel_rfl) (by kernel_rfl) cs ?_
          iterate 20 (refine Kit.plan_head (by rfl) (.inl ⟨by rfl, fun w' hS => by (dsimp only at hS); go_simp; (try with_reducible rfl)⟩) ?_; simp only [Act.put, List.setIfInBounds_toArray, List.set_cons_zero, List.set_cons_succ])
          have HCN : Hid (∀ V, Below (N + 1) wa V → V.cell? ⟨N, k, none⟩ = some (.int .u32 (v X0))) := Lib.hid (fun V h => by
            have h1 := words_row ((h.block N (Nat.lt_succ_self N)).trans HROW.out) k hlt
            rw [HX.out] at h1
            exact h1)
          refine Kit.plan_op (by rfl) rfl fun K hK => ?_
          go_simp
          refine hK _ _ (HCN.out _ (HBE.out.drew.alloc HWR.out _)) ?_
          clear hK K
          refine Kit.plan_op (by rfl) rfl fun K hK => ?_
          refine wp_app_four (w0 := wr.drew) _ _ rfl (N + 1) _ (4 * k) _ (by rfl) HOW.out.drew HWR.out (by omega) _ _ _ _ (Sha.bytes4 X0) (by rfl) 4 (by rfl) ?_
          intro v4 w4 ho4 hb4
          have HO4 := Lib.hid ho4
          have HB4 := Lib.hid (HBE.out.drew.trans hb4)
          clear ho4 hb4
          refine hK _ _ (HCN.out _ HB4.out) ?_
          clear hK K
          simp only [Act.put, List.setIfInBounds_toArray, List.set_cons_zero, List.set_cons_succ]
          refine Kit.plan_op (by rfl) rfl fun K hK => ?_
          go_simp
          refine hK _ _ (HCN.out _ HB4.out) (Kit.plan_done ?_)
          clear hK K
          (try simp only [Act.put, List.setIfInBounds_toArray, List.set_cons_zero, List.set_cons_succ])
          go_wp2_with fail
          go_roundw
          case rel => exact ⟨k + 1, by omega, by go_num, by have h := HO4.out; rw [← HDT.out] at h; exact h, HB4.out⟩
          case measure => simp [intOf]; omega
        · have e8 : k = 8 := by omega
          subst e8
          have HD32 : Hid ((Sha.digest S).take (4 * 8) = Sha.sum xs) := Lib.hid (by rw [List.take_of_length_le (by rw [HDL.out]; exact Nat.le_refl _), HSUM.out])
          rw [HD32.out] at HOW
          obtain ⟨a9, cp9, hv9, hl9, _, hB9, _, _⟩ := own_bytes HOW.out (Sha.sum_lt xs) (by rw [Sha.sum_length]; unfold maxLen; omega)
          subst hv9
          have hcv := conv_bytes hB9 cp9
          rw [hl9] at hcv
          go_wp2_with fail
          go_ret
          exact ⟨_, rfl, nb_strB (Sha.sum_lt xs), by rw [HN.out]; exact HBW.out.trans (HBE.out.mono (Nat.le_succ N))⟩
end Go.Proofs.YtmeimbnfgdnlbaaGreatDoor

/- The document's HMAC: pad, Tag. -/
namespace Go.Proofs.YtmeimbnfgdnlbaaGreatDoor
set_option linter.unusedVariables false
set_option linter.unusedSimpArgs false
open Go.RowKit
open Kit (Chg)
open Sha (v)
open Go.Proofs.YtmeimbnfgdnlbaaGreatDoor.One

theorem conv_str_ex (W : World) (s : ByteArray) (hs : s.size ≤ maxLen) : ∃ cp W2, (convert 9 29 (.string s)).run Tryz.prog W = .ok (.slice (some ⟨W.heap.size, 0, none⟩) s.size cp) W2 ∧ s.size ≤ cp ∧ BytesAt W2 (some ⟨W.heap.size, 0, none⟩) (nb s) ∧ Below W.heap.size W W2 :=
  ⟨_, _, conv_str W s, grownCap_ge _ _ _ _, bytesWorld_bytes W s hs, bytesWorld_below W s⟩
/-- The bytes of a string, in a block of the call's own. -/
theorem str_at (W : World) (s : ByteArray) (hs : s.size ≤ maxLen) {L : Nat} (hL : s.size = L) : ∃ cp W2, (convert 9 29 (.string s)).run Tryz.prog W = .ok (.slice (some ⟨W.heap.size, 0, none⟩) L cp) W2 ∧ L ≤ cp ∧ BytesAt W2 (some ⟨W.heap.size, 0, none⟩) (nb s) ∧ Below W.heap.size W W2 := by
  subst hL
  exact conv_str_ex W s hs
end Go.Proofs.YtmeimbnfgdnlbaaGreatDoor

/- The document's Secret, Input, Chain. -/
namespace Go.Proofs.YtmeimbnfgdnlbaaGreatDoor
set_option linter.unusedVariables false
set_option linter.unusedSimpArgs false
open Go.RowKit
open Kit (Chg)
open Sha (v)
open Go.Proofs.YtmeimbnfgdnlbaaGreatDoor.One
section
variable {ops : Array Oper} {rest : List Oper} {o : Oper} {a : Act} {Q : Exit → Act → World → Prop}
end
theorem conv_l {w : World} {a : Option Addr} {bs : List Nat} (h : BytesAt w a bs) {n : Nat} (hl : bs.length = n) (cap : Nat) {s : ByteArray} (hs : strB bs = s) : (convert 29 9 (.slice a n cap)).run Tryz.prog w = .ok (.string s) w := by
  subst hl hs
  exact conv_bytes h cap
theorem num_pos (n : Nat) : 0 < (num n).length := by
  by_cases h : n < 128
  · rw [num_small h]; exact Nat.zero_lt_one
  · rw [num_big (by omega)]; exact Nat.succ_pos _
end Go.Proofs.YtmeimbnfgdnlbaaGreatDoor

/- The document's Start: the beginnings of all chains. -/
namespace Go.Proofs.YtmeimbnfgdnlbaaGreatDoor
set_option linter.unusedVariables false
set_option linter.unusedSimpArgs false
open Go.RowKit
open Kit (Chg)
open Sha (v)
open Go.Proofs.YtmeimbnfgdnlbaaGreatDoor.One
end Go.Proofs.YtmeimbnfgdnlbaaGreatDoor

/- The document's Ends: the ends of all chains in a row. -/
namespace Go.Proofs.YtmeimbnfgdnlbaaGreatDoor
set_option linter.unusedVariables false
set_option linter.unusedSimpArgs false
open Go.RowKit
open Kit (Chg)
open Sha (v)
open Go.Proofs.YtmeimbnfgdnlbaaGreatDoor.One
end Go.Proofs.YtmeimbnfgdnlbaaGreatDoor

/- Plain: the list of the helper 'summed' as its loops build it; collisions by index. -/
namespace Go.Proofs.YtmeimbnfgdnlbaaGreatDoor
set_option linter.unusedVariables false
set_option linter.unusedSimpArgs false
open Go.RowKit
open Go.Proofs.YtmeimbnfgdnlbaaGreatDoor.One
end Go.Proofs.YtmeimbnfgdnlbaaGreatDoor

/- The document's Public, Sign, Parts, Recover. -/
namespace Go.Proofs.YtmeimbnfgdnlbaaGreatDoor
set_option linter.unusedVariables false
set_option linter.unusedSimpArgs false
open Go.RowKit
open Kit (Chg)
open Sha (v)
open Go.Proofs.YtmeimbnfgdnlbaaGreatDoor.One
theorem ints_of_row {w : World} {g : Nat} {zs : List Nat} {t : TypeId} {fr : Nat × Nat} (h : w.heap[g]? = some (.cells (natV zs).toArray t fr)) : IntsAt w (some ⟨g, 0, none⟩) zs := by
  refine .inr ⟨g, 0, rfl, fun i hi => ?_⟩
  rw [Nat.zero_add, cell_of_row _ _ _ _ _ _ h, List.getElem?_toArray]
  exact natV_get zs i hi
end Go.Proofs.YtmeimbnfgdnlbaaGreatDoor
