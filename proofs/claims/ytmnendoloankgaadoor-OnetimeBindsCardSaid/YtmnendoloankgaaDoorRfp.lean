/- The document's SHA-256: padding. -/
import Derived.Test.YtmnendoloankgaaDoorApp
namespace Go.Proofs.YtmnendoloankgaaDoor
set_option linter.unusedVariables false
set_option linter.unusedSimpArgs false
open Go.RowKit
open Kit (Chg)
open Sha (v)
open Go.Proofs.YtmnendoloankgaaDoor.One

theorem pad_zeros (n j : Nat) (hj : j ≤ Sha.zeros n) : (n + 1 + j) % 64 = 56 ↔ j = Sha.zeros n := by
  unfold Sha.zeros at *
  omega
theorem repl_snoc (xs : List Nat) (j : Nat) : (xs ++ 128 :: List.replicate j 0) ++ [0] = xs ++ 128 :: List.replicate (j + 1) 0 := by
  rw [List.replicate_succ', List.append_assoc, List.cons_append]
theorem shift8 (n t : Nat) (h : t < 8) : ((n : Nat) : Int) / 2 ^ (8 * (7 - t)) % 256 = ((n / 256 ^ (7 - t) % 256 : Nat) : Int) := by
  rw [Int.pow_mul, show (2 : Int) ^ 8 = ((256 : Nat) : Int) by rfl, Int.natCast_emod, Int.natCast_ediv, Int.natCast_pow]
  rfl
set_option maxRecDepth 100000 in
set_option maxHeartbeats 1000000 in
theorem refPad_l (a : Option Addr) (cap : Nat) (xs : List Nat) (L : Nat) (hLe : xs.length = L) (hnil : a = none → cap = 0) (hl : L ≤ 100000000000) (w : World) (hB : BytesAt w a xs) :
    Calls Tryd.prog 106 #[.slice a L cap] w fun e w' => ∃ v' c, e = .returned v' ∧ c = (Sha.pad xs).length ∧ w'.ownsRow w.heap.size 5 1 v' c (bvals (Sha.pad xs)) ∧ Below w.heap.size w w' := by
  have HB := Lib.hid hB
  have HNIL := Lib.hid hnil
  have HLE := Lib.hid hLe
  have HPZ := Lib.hid (fun j h => pad_zeros L j h)
  have HPAD : Hid (Sha.pad xs = (xs ++ 128 :: List.replicate (Sha.zeros L) 0) ++ Sha.be8 (8 * L)) := Lib.hid (by unfold Sha.pad; rw [hLe]; simp)
  have hz64 : Sha.zeros L < 64 := by unfold Sha.zeros; omega
  obtain ⟨Z, hZ⟩ := ex_eq (Sha.zeros L)
  rw [hZ] at HPZ HPAD hz64
  clear hB hnil hLe hZ
  go_enter Tryd.func106, Tryd.ntmps106
  obtain ⟨N, hN⟩ := ex_eq w.heap.size
  have HN := Lib.hid hN
  have HW : Hid (N ≤ w.heap.size) := Lib.hid (by omega)
  have HE := Lib.hid (own_empty (w := w) (base := N) HW.out)
  have HBE : Hid (Below N w (w.alloc (.cells #[] 5))) := Lib.hid ((Below.refl _ _).alloc HW.out _)
  rw [hN]
  clear hN
  go_upto_region 2 with (first
    | (at_builtin
       refine app_bytes rfl _ _ rfl N _ 0 [] (by rfl) HE.out (by have := HBE.out.size; have := HN.out; omega) (by omega) a L cap xs HLE.out (by omega) (by rfl) (HB.out.later (by rw [HN.out]; exact HBE.out)) HNIL.out ?_
       intro v1 w1 ho1 hb1
       have HO1 := Lib.hid ho1
       have HB1 := Lib.hid (HBE.out.trans hb1)
       clear ho1 hb1)
    | (at_builtin
       refine app_byte rfl _ _ rfl N v1 (0 + L) ([] ++ xs) (by rfl) HO1.out (by have := HB1.out.size; have := HN.out; omega) (by omega) 128 128 rfl 1 (by rfl) ?_
       intro v2 w2 ho2 hb2
       have HO2 := Lib.hid ho2
       have HB2 := Lib.hid (HB1.out.trans hb2)
       clear ho2 hb2))
  have HO2' : Hid (w2.ownsRow N 5 1 v2 (L + 1 + 0) (bvals (xs ++ 128 :: List.replicate 0 0))) := Lib.hid (by
    have h := HO2.out
    rw [Nat.zero_add, List.nil_append] at h
    exact h)
  clear HO2 HO1 HE HBE HB1
  go_loopw [3] (fun x wr => ∃ j : Nat, j ≤ Z ∧ Hid (wr.ownsRow N 5 1 x (L + 1 + j) (bvals (xs ++ 128 :: List.replicate j 0))) ∧ Hid (Below N w wr)) (fun x _ => Z + L + 2 - sliceLen x)
  case atStart => exact ⟨0, Nat.zero_le _, HO2'.out, HB2.out⟩
  case round =>
    obtain ⟨j, hj, HOW, HBE⟩ := hrel
    have HWR : Hid (N ≤ wr.heap.size) := Lib.hid (by have := HBE.out.size; have := HN.out; omega)
    obtain ⟨M, hM⟩ := ex_eq (L + j)
    have hM2 : L + 1 + j = M + 1 := by omega
    have hMl : M ≤ 200000000000 := by omega
    have HRK : Hid ((M + 1) % 64 = 56 ↔ j = Z) := Lib.hid (by rw [← hM2]; exact HPZ.out j hj)
    have HMJ := Lib.hid hM
    rw [hM2] at HOW
    clear hM hM2
    obtain ⟨g, cp, rfl⟩ := ownsRow_succ HOW.out
    obtain ⟨r, hr⟩ := ex_eq ((M + 1) % 64)
    have hm : ((M : Int) + 1).tmod 64 = (r : Int) := by rw [Int.tmod_eq_emod_of_nonneg (by omega)]; omega
    have hm2 : ((M : Int) + 1) % 64 = (r : Int) := by omega
    rw [hr] at HRK
    clear hr
    by_cases hjz : j < Z
    · have hne : ((r : Int) != 56) = true := by
        rw [bne_iff_ne]; intro h; have := HRK.out.1 (by omega); omega
      go_wp2_with (first
        | (at_builtin
           refine app_byte rfl _ _ rfl N _ (M + 1) (xs ++ 128 :: List.replicate j 0) (by rfl) HOW.out HWR.out (by omega) 0 0 rfl 1 (by rfl) ?_
           intro v4 w4 ho4 hb4
           have HO4 := Lib.hid ho4
           have HB4 := Lib.hid (HBE.out.trans hb4)
           clear ho4 hb4
           obtain ⟨g4, cp4, hv4⟩ := ownsRow_succ HO4.out
           subst hv4))
      go_roundw
      case rel => exact ⟨j + 1, hjz, by have h := HO4.out; rw [repl_snoc] at h; rw [show L + 1 + (j + 1) = M + 1 + 1 by have := HMJ.out; omega]; exact h, HB4.out⟩
      case measure => have := HMJ.out; simp [sliceLen]; omega
    · have hjz2 : j = Z := by omega
      subst hjz2
      have hne : ((r : Int) != 56) = false := by
        have h := HRK.out.2 rfl
        rw [h]; rfl
      have hw8 : IntKind.u64.wrap (L : Int) = (L : Int) := by rw [IntKind.wrap_u64]; omega
      have hw88 : IntKind.u64.wrap ((L : Int) * 8) = ((8 * L : Nat) : Int) := by rw [IntKind.wrap_u64]; omega
      obtain ⟨B8, hB8⟩ := ex_eq (8 * L)
      rw [hB8] at hw88 HPAD
      have HPB : Hid (Sha.pad xs = (xs ++ 128 :: List.replicate j 0) ++ (Sha.be8 B8).take 8) := Lib.hid (by rw [HPAD.out, List.take_of_length_le (by rw [Sha.be8_length]; exact Nat.le_refl _)])
      obtain ⟨base, hbase⟩ := ex_eq (xs ++ 128 :: List.replicate j 0)
      rw [hbase] at HOW HPB
      have HOW0 : Hid (wr.ownsRow N 5 1 (.slice (some ⟨g, 0, none⟩) (M + 1) cp) (M + 1 + 0) (bvals (base ++ (Sha.be8 B8).take 0))) := Lib.hid (by rw [List.take_zero, List.append_nil]; exact HOW.out)
      rename World => wa
      have HBA := HBE
      go_upto_region 6 with fail
      clear HOW HBE hm hm2 hne HRK hB8
      go_loopw [3, 5] (fun x y wr => ∃ t : Nat, t ≤ 8 ∧ y = .int .i64 (7 - (t : Int)) ∧ Hid (wr.ownsRow N 5 1 x (M + 1 + t) (bvals (base ++ (Sha.be8 B8).take t))) ∧ Hid (Below N w wr)) (fun x _ _ => M + 10 - sliceLen x)
      case atStart => exact ⟨0, by omega, rfl, HOW0.out, HBA.out⟩
      case round =>
        obtain ⟨t, ht, rfl, HOW, HBE⟩ := hrel
        have HWR : Hid (N ≤ wr.heap.size) := Lib.hid (by have := HBE.out.size; have := HN.out; omega)
        obtain ⟨K, hK⟩ := ex_eq (M + 1 + t)
        have hKl : K ≤ 300000000000 := by omega
        rw [hK] at HOW
        have HK := Lib.hid hK
        clear hK
        have HSL : Hid (sliceLen u3 = K) := Lib.hid (by
          obtain ⟨K', rfl⟩ : ∃ K', K = K' + 1 := ⟨K - 1, by have := HK.out; omega⟩
          obtain ⟨g4, cp4, rfl⟩ := ownsRow_succ HOW.out
          rfl)
        by_cases ht8 : t < 8
        · obtain ⟨q, hq⟩ : ∃ q : Nat, (7 : Int) - (t : Int) = (q : Int) := ⟨7 - t, by omega⟩
          have HQ := Lib.hid hq
          have hq7 : q ≤ 7 := by omega
          obtain ⟨e8, he8⟩ := ex_eq (8 * q)
          have hq8 : (8 : Int) * (q : Int) = (e8 : Int) := by omega
          have he : e8 ≤ 56 := by omega
          have HE8 : Hid (e8 = 8 * (7 - t)) := Lib.hid (by omega)
          rw [hq]
          clear hq ht he8
          go_wp2_with (first
            | (at_builtin
               refine app_byte rfl _ _ rfl N _ K (base ++ (Sha.be8 B8).take t) (by rfl) HOW.out HWR.out (by omega) _ (B8 / 256 ^ (7 - t) % 256) (by rw [HE8.out]; exact shift8 B8 t ht8) 1 (by rfl) ?_
               intro v4 w4 ho4 hb4
               have HO4 := Lib.hid ho4
               have HB4 := Lib.hid (HBE.out.trans hb4)
               clear ho4 hb4
               obtain ⟨g4, cp4, hv4⟩ := ownsRow_succ HO4.out
               subst hv4))
          go_roundw
          case rel => exact ⟨t + 1, ht8, by have := HQ.out; congr 1; omega, by have h := HO4.out; rw [List.append_assoc, ← be8_take _ _ ht8] at h; rw [show M + 1 + (t + 1) = K + 1 by have := HK.out; omega]; exact h, HB4.out⟩
          case measure => rw [HSL.out]; have := HK.out; simp [sliceLen]; omega
        · have e8 : t = 8 := by omega
          subst e8
          go_wp2_with fail
          go_ret
          have HLE : Hid (K = (Sha.pad xs).length) := Lib.hid (by
            have h := HOW.out.1
            rw [bvals_length, ← HPB.out, Nat.mul_one] at h
            exact h.symm)
          exact ⟨_, K, rfl, HLE.out, by have h := HOW.out; rw [← HPB.out] at h; exact h, HBE.out⟩
end Go.Proofs.YtmnendoloankgaaDoor
