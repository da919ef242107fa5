/- The law's helper meets. -/
import Derived.Test.YtjhpdchcmfghpaaGreatDoorGd
import Derived.Test.YtjhpdchcmfghpaaGreatDoorClm
namespace Go.Proofs.YtjhpdchcmfghpaaGreatDoor
set_option linter.unusedVariables false
set_option linter.unusedSimpArgs false
open Go.RowKit
open Kit (Chg)
open Sha (v)
open Go.Proofs.YtjhpdchcmfghpaaGreatDoor.One

theorem input_small {i j : Nat} {x : List Nat} (hi : i ≤ 999) (hj : j ≤ 255) (hx : x.length = 32) : (input i j x).length ≤ 100 := by
  have h1 := keyIn_len hi
  have h2 := keyIn_len (i := j) (by omega)
  unfold keyIn onetimeB at h1 h2
  unfold input chainB
  simp only [List.length_append, List.length_cons, List.length_nil] at h1 h2 ⊢
  omega
/-- Some step of the two chains is a collision. -/
def Met (i j n : Nat) (x y : List Nat) : Prop := ∃ k, k < n ∧ Coll (input i (j + k) (chain i j k x)) (input i (j + k) (chain i j k y))
theorem chain_32 (i j k : Nat) {x : List Nat} (h : x.length = 32) : (chain i j k x).length = 32 := by
  cases k with
  | zero => exact h
  | succ k => rw [chain_succ]; exact Sha.sum_length _
theorem met_succ {i j k : Nat} {x y : List Nat} : Met i j (k + 1) x y ↔ (Met i j k x y ∨ Coll (input i (j + k) (chain i j k x)) (input i (j + k) (chain i j k y))) := by
  constructor
  · rintro ⟨q, hq, h⟩
    by_cases e : q = k
    · subst e; exact .inr h
    · exact .inl ⟨q, by omega, h⟩
  · rintro (⟨q, hq, h⟩ | h)
    · exact ⟨q, by omega, h⟩
    · exact ⟨k, by omega, h⟩
set_option maxRecDepth 100000 in
set_option maxHeartbeats 2000000 in
theorem meets_any (b n : Nat) (hB : Bits b) (hb4 : b ≤ 4) (i : Nat) (hi : i ≤ 999) (j : Nat) (m : Nat) (hm : last b = m) (hj : j ≤ m) (x y : ByteArray) (hx : x.size = 32) (hy : y.size = 32) (w : World) :
    Calls Tryz.prog 20 #[.agg #[.int .i64 (b : Int), .int .i64 (n : Int)], .int .i64 (i : Int), .int .i64 (j : Int), .string x, .string y] w fun e w' => ∃ D : Bool, e = .returned (.bool D) ∧ (D = true ↔ Met i j (m - j) (nb x) (nb y)) ∧ Below w.heap.size w w' := by
  have HBS := Lib.hid (fun w => base_any b n hB w)
  have hm9 : m ≤ 15 := by
    rw [← hm]
    unfold last
    have := Nat.pow_le_pow_right (n := 2) (by decide) hb4
    omega
  have hP1 : ((2 ^ b : Nat) : Int) - 1 = (m : Int) := by
    rw [← hm]
    unfold last
    have := Nat.two_pow_pos b
    omega
  obtain ⟨P, hP⟩ := ex_eq (2 ^ b)
  rw [hP] at HBS hP1
  have hwm : IntKind.i64.wrap (m : Int) = (m : Int) := by rw [IntKind.wrap_i64]; omega
  have HXY := Lib.hid (And.intro hx hy)
  clear hP hm hx hy hB
  go_enter Tryz.func20, Tryz.ntmps20
  go_upto_region 1 with fail
  refine wp_over (fun W => Hid (W.heap[w.heap.size]? = some (.cells #[.int .i64 (b : Int), .int .i64 (n : Int)] 37 (0, 0))) ∧ Hid (Below w.heap.size w W) ∧ Hid (W.heap.size = w.heap.size + 1)) ⟨heap_alloc_new _ _, (Below.refl _ _).alloc (Nat.le_refl _) _, by show _ = _; simp⟩ ?_
  rintro W ⟨HG, HB, HWN⟩
  obtain ⟨N, hN⟩ := ex_eq w.heap.size
  rw [hN] at HG HB HWN ⊢
  have HN := Lib.hid hN
  clear hN
  have HCE : Hid (∀ V, Below (N + 1) W V → V.cell? ⟨N, 0, none⟩ = some (.int .i64 (b : Int)) ∧ V.cell? ⟨N, 1, none⟩ = some (.int .i64 (n : Int))) := Lib.hid (fun V h => by
    have hg := (h.block N (Nat.lt_succ_self _)).trans HG.out
    exact ⟨(cell_of_row _ _ _ _ _ _ hg).trans rfl, (cell_of_row _ _ _ _ _ _ hg).trans rfl⟩)
  have HST : Hid (∀ V V', Below (N + 1) W V → Below V.heap.size V V' → Below (N + 1) W V') := Lib.hid (fun V V' h h' => h.trans (h'.mono (by have := h.size; have := HWN.out; omega)))
  have HEND : Hid (∀ V, Below (N + 1) W V → Below w.heap.size w V) := Lib.hid (fun V h => by rw [HN.out]; exact HB.out.trans (h.mono (Nat.le_succ N)))
  have HR0 : Hid (Below (N + 1) W W) := Lib.hid (Below.refl _ _)
  have HAL : Hid (∀ (V : World) (s : ByteArray), StrsAt (V.alloc (.cells #[.string s] 9)) (some ⟨V.heap.size, 0, none⟩) [s] ∧ Below V.heap.size V (V.alloc (.cells #[.string s] 9))) := Lib.hid (fun V s => ⟨strs_of_row (t := 9) (heap_alloc_new V _), (Below.refl _ _).alloc (Nat.le_refl _) _⟩)
  have hHJ : j ≤ m := hj
  go_upto_region 3 with fail
  go_loopw [3, 4, 11, 12] (fun p q f z wr => ∃ (k : Nat) (s t : ByteArray) (D : Bool), j + k ≤ m ∧ z = .int .i64 ((j + k : Nat) : Int) ∧ p = .string s ∧ q = .string t ∧ f = .bool D ∧ Hid (nb s = chain i j k (nb x)) ∧ Hid (nb t = chain i j k (nb y)) ∧ Hid (D = true ↔ Met i j k (nb x) (nb y)) ∧ Hid (Below (N + 1) W wr)) (fun _ _ _ z _ => m - (intOf z).toNat)
  case atStart => exact ⟨0, x, y, false, by omega, rfl, rfl, rfl, rfl, rfl, rfl, Lib.hid ⟨fun h => (by cases h), fun h => (by obtain ⟨_, hq, _⟩ := h; omega)⟩, HR0⟩
  case round =>
    obtain ⟨k, s, t, D, hk, rfl, rfl, rfl, rfl, HSS, HTT, HDD, HBE⟩ := hrel
    obtain ⟨J, hJ⟩ := ex_eq (j + k)
    rw [hJ] at hk ⊢
    obtain ⟨f0, f1⟩ := HCE.out _ HBE.out
    have HJ := Lib.hid hJ
    have HZ : Hid (s.size = 32 ∧ t.size = 32) := Lib.hid ⟨by rw [← nb_length, HSS.out]; exact chain_32 _ _ _ (by rw [nb_length]; exact HXY.out.1), by rw [← nb_length, HTT.out]; exact chain_32 _ _ _ (by rw [nb_length]; exact HXY.out.2)⟩
    by_cases hlt : J < m
    · have hJi : (J : Int) < (m : Int) := by omega
      clear hJ
      go_upto_region 5 with (first
        | (go_at_call 40
           (refine (HBS.out _).mono ?_)
           rintro e w2 ⟨rfl, h2⟩
           have H2 := Lib.hid (HST.out _ _ HBE.out h2)
           clear h2 f0 f1))
      have HI3 := Lib.hid (fun w => refInput_ok i hi J (by omega) s (by rw [HZ.out.1]; decide) w (input i J (nb s)) rfl)
      have HI4 := Lib.hid (fun w => refInput_ok i hi J (by omega) t (by rw [HZ.out.2]; decide) w (input i J (nb t)) rfl)
      go_upto_region 6 with (first
        | (go_at_call 45
           (with_reducible refine (HI4.out _).mono ?_)
           rintro e w4 ⟨u4, rfl, hu4, h4⟩
           have HU4 := Lib.hid hu4
           have H4 := Lib.hid (HST.out _ _ H3.out h4)
           have HQ := HU3
           clear hu4 h4)
        | (go_at_call 45
           (with_reducible refine (HI3.out _).mono ?_)
           rintro e w3 ⟨u3, rfl, hu3, h3⟩
           have HU3 := Lib.hid hu3
           have H3 := Lib.hid (HST.out _ _ H2.out h3)
           clear hu3 h3))
      have HZ3 : Hid (u3.size ≤ 100000) := Lib.hid (by rw [← nb_length, HU3.out]; exact Nat.le_trans (input_small hi (by omega) (by rw [nb_length]; exact HZ.out.1)) (by decide))
      have HZ4 : Hid (u4.size ≤ 100000) := Lib.hid (by rw [← nb_length, HU4.out]; exact Nat.le_trans (input_small hi (by omega) (by rw [nb_length]; exact HZ.out.2)) (by decide))
      cases D
      · go_upto_region 7 with (first
          | (go_at_call 17
             (refine (collides_any u3 u4 HZ3.out HZ4.out _).mono ?_)
             rintro e w9 ⟨rfl, h9⟩
             have H9 := Lib.hid (HST.out _ _ H4.out h9)
             clear h9))
        go_wp2_with (first
          | (go_at_call 19
             (refine (refJoin_x (some ⟨w5.heap.size, 0, none⟩) 1 1 [u4] rfl (by decide) (fun x hx => by rw [List.mem_singleton.1 hx]; exact HZ4.out) _ (HAL.out w5 u4).1 (Sha.sum (nb u4)) (by rw [catB_one])).mono ?_)
             rintro e w6 ⟨u6, rfl, hu6, h6⟩
             have HU6 := Lib.hid hu6
             have H6 := Lib.hid (HST.out _ _ (HST.out _ _ H5.out (HAL.out w5 u4).2) h6)
             clear hu6 h6)
          | (go_at_call 19
             (refine (refJoin_x (some ⟨w9.heap.size, 0, none⟩) 1 1 [u3] rfl (by decide) (fun x hx => by rw [List.mem_singleton.1 hx]; exact HZ3.out) _ (HAL.out w9 u3).1 (Sha.sum (nb u3)) (by rw [catB_one])).mono ?_)
             rintro e w5 ⟨u5, rfl, hu5, h5⟩
             have HU5 := Lib.hid hu5
             have H5 := Lib.hid (HST.out _ _ (HST.out _ _ H9.out (HAL.out w9 u3).2) h5)
             clear hu5 h5))
        go_roundw
        case rel =>
          refine ⟨k + 1, u5, u6, decide (Coll (nb u3) (nb u4)), by have := HJ.out; omega, by have := HJ.out; rw [show j + (k + 1) = J + 1 by omega]; go_num, rfl, rfl, rfl, Lib.hid ?_, Lib.hid ?_, Lib.hid ?_, H6⟩
          · show _ = _
            rw [HU5.out, HU3.out, chain_succ, HJ.out, HSS.out]
          · show _ = _
            rw [HU6.out, HU4.out, chain_succ, HJ.out, HTT.out]
          · show _ ↔ _
            rw [met_succ]
            have e1 := HU3.out
            have e2 := HU4.out
            rw [HSS.out] at e1
            rw [HTT.out] at e2
            rw [HJ.out, ← e1, ← e2]
            rw [decide_eq_true_eq]
            exact ⟨fun h => .inr h, fun h => h.elim (fun h => by have := HDD.out.2 h; cases this) id⟩
        case measure => simp [intOf]; omega
      · go_wp2_with (first
          | (go_at_call 19
             (refine (refJoin_x (some ⟨w5.heap.size, 0, none⟩) 1 1 [u4] rfl (by decide) (fun x hx => by rw [List.mem_singleton.1 hx]; exact HZ4.out) _ (HAL.out w5 u4).1 (Sha.sum (nb u4)) (by rw [catB_one])).mono ?_)
             rintro e w6 ⟨u6, rfl, hu6, h6⟩
             have HU6 := Lib.hid hu6
             have H6 := Lib.hid (HST.out _ _ (HST.out _ _ H5.out (HAL.out w5 u4).2) h6)
             clear hu6 h6)
          | (go_at_call 19
             (refine (refJoin_x (some ⟨w4.heap.size, 0, none⟩) 1 1 [u3] rfl (by decide) (fun x hx => by rw [List.mem_singleton.1 hx]; exact HZ3.out) _ (HAL.out w4 u3).1 (Sha.sum (nb u3)) (by rw [catB_one])).mono ?_)
             rintro e w5 ⟨u5, rfl, hu5, h5⟩
             have HU5 := Lib.hid hu5
             have H5 := Lib.hid (HST.out _ _ (HST.out _ _ H4.out (HAL.out w4 u3).2) h5)
             clear hu5 h5))
        go_roundw
        case rel =>
          refine ⟨k + 1, u5, u6, true, by have := HJ.out; omega, by have := HJ.out; rw [show j + (k + 1) = J + 1 by omega]; go_num, rfl, rfl, rfl, Lib.hid ?_, Lib.hid ?_, Lib.hid ?_, H6⟩
          · show _ = _
            rw [HU5.out, HU3.out, chain_succ, HJ.out, HSS.out]
          · show _ = _
            rw [HU6.out, HU4.out, chain_succ, HJ.out, HTT.out]
          · show _ ↔ _
            rw [met_succ]
            have e1 := HU3.out
            have e2 := HU4.out
            rw [HSS.out] at e1
            rw [HTT.out] at e2
            rw [HJ.out, ← e1, ← e2]
            exact ⟨fun h => .inl (HDD.out.1 (by first | rfl | trivial)), fun h => (by first | rfl | trivial)⟩
        case measure => simp [intOf]; omega
    · have hJi : ¬ (J : Int) < (m : Int) := by omega
      have HF : Hid (D = true ↔ Met i j (m - j) (nb x) (nb y)) := Lib.hid (by rw [show m - j = k by omega]; exact HDD.out)
      clear hJ
      go_wp2_with (first
        | (go_at_call 40
           (refine (HBS.out _).mono ?_)
           rintro e w2 ⟨rfl, h2⟩
           have H2 := Lib.hid (HST.out _ _ HBE.out h2)
           clear h2 f0 f1))
      go_ret
      exact ⟨_, rfl, HF.out, HEND.out _ H2.out⟩
end Go.Proofs.YtjhpdchcmfghpaaGreatDoor
