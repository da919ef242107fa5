/- The document's HMAC: pad, Tag. -/
import Derived.Test.YtmnendoloankgaaDoorRfs
namespace Go.Proofs.YtmnendoloankgaaDoor
set_option linter.unusedVariables false
set_option linter.unusedSimpArgs false
open Go.RowKit
open Kit (Chg)
open Sha (v)
open Go.Proofs.YtmnendoloankgaaDoor.One

theorem conv_str_ex (W : World) (s : ByteArray) (hs : s.size ≤ maxLen) : ∃ cp W2, (convert 9 68 (.string s)).run Tryd.prog W = .ok (.slice (some ⟨W.heap.size, 0, none⟩) s.size cp) W2 ∧ s.size ≤ cp ∧ BytesAt W2 (some ⟨W.heap.size, 0, none⟩) (nb s) ∧ Below W.heap.size W W2 :=
  ⟨_, _, conv_str W s, grownCap_ge _ _ _ _, bytesWorld_bytes W s hs, bytesWorld_below W s⟩
/-- The bytes of a string, in a block of the call's own. -/
theorem str_at (W : World) (s : ByteArray) (hs : s.size ≤ maxLen) {L : Nat} (hL : s.size = L) : ∃ cp W2, (convert 9 68 (.string s)).run Tryd.prog W = .ok (.slice (some ⟨W.heap.size, 0, none⟩) L cp) W2 ∧ L ≤ cp ∧ BytesAt W2 (some ⟨W.heap.size, 0, none⟩) (nb s) ∧ Below W.heap.size W W2 := by
  subst hL
  exact conv_str_ex W s hs
theorem xor_snoc (ks : List Nat) (c i : Nat) (h : i < ks.length) : (xorL ks c).take (i + 1) = (xorL ks c).take i ++ [ks.getD i 0 ^^^ c] := by
  rw [List.take_add_one, List.getElem?_eq_getElem (by rw [xorL_length]; exact h)]
  simp [xorL, List.getD_eq_getElem?_getD, h]
theorem key64_in (ks : List Nat) (i : Nat) (h : i < ks.length) : (key64 ks).getD i 0 = ks.getD i 0 := getD_app_l _ _ _ h
theorem key64_out (ks : List Nat) (i : Nat) (h : ¬ i < ks.length) : (key64 ks).getD i 0 = 0 := by
  unfold key64
  rw [show i = ks.length + (i - ks.length) by omega, getD_app_r, List.getD_eq_getElem?_getD, List.getElem?_replicate]
  split <;> rfl
set_option maxRecDepth 100000 in
set_option maxHeartbeats 1000000 in
theorem refPadH_any (key : ByteArray) (hk : key.size ≤ 64) (c : Nat) (hc : c < 256) (w : World) :
    Calls Tryd.prog 105 #[.string key, .int .u8 (c : Int)] w fun e w' => ∃ v', e = .returned v' ∧ w'.ownsRow w.heap.size 5 1 v' 64 (bvals (xorL (key64 (nb key)) c)) ∧ Below w.heap.size w w' := by
  have HKL : Hid ((key64 (nb key)).length = 64) := Lib.hid (key64_length (by rw [nb_length]; exact hk))
  have HIN : Hid (∀ i, i < key.size → (key64 (nb key)).getD i 0 = (nb key).getD i 0) := Lib.hid (fun i h => key64_in _ i (by rw [nb_length]; exact h))
  have HOUT : Hid (∀ i, ¬ i < key.size → (key64 (nb key)).getD i 0 = 0) := Lib.hid (fun i h => key64_out _ i (by rw [nb_length]; exact h))
  have HKB : Hid (∀ i, i < key.size → (nb key).getD i 0 < 256) := Lib.hid (fun i h => nb_lt key _ (getD_mem _ _ _ (by rw [nb_length]; exact h)))
  have HIX := Lib.hid (fun i h => str_idx key i h)
  obtain ⟨K, hK⟩ := ex_eq (key64 (nb key))
  rw [hK] at HKL HIN HOUT ⊢
  have HXS := Lib.hid (fun i h => xor_snoc K c i h)
  have HX8 := Lib.hid (fun x h => bits_xor8 x c h hc)
  have hks : ((key.size : Nat) : Int) ≤ 64 := by omega
  clear hK
  go_enter Tryd.func105, Tryd.ntmps105
  obtain ⟨N, hN⟩ := ex_eq w.heap.size
  have HN := Lib.hid hN
  have HE := Lib.hid (own_empty (w := w) (base := N) (by omega))
  have HB0 : Hid (Below N w (w.alloc (.cells #[] 5))) := Lib.hid ((Below.refl _ _).alloc (by omega) _)
  clear hN
  go_upto_region 3 with fail
  go_loopw [5, 6, 7] (fun x y _ wr => ∃ i : Nat, i ≤ 64 ∧ y = .int .i64 (i : Int) ∧ Hid (wr.ownsRow N 5 1 x i (bvals ((xorL K c).take i))) ∧ Hid (Below N w wr)) (fun _ y _ _ => 64 - (intOf y).toNat)
  case atStart => exact ⟨0, by omega, rfl, HE.out, HB0.out⟩
  case round =>
    obtain ⟨i, hi, rfl, HOW, HBE⟩ := hrel
    have HWR : Hid (N ≤ wr.heap.size) := Lib.hid (by have := HBE.out.size; have := HN.out; omega)
    by_cases hlt : i < 64
    · have hii : (i : Int) < 64 := by omega
      have HXS1 := Lib.hid (HXS.out i (by rw [HKL.out]; exact hlt))
      by_cases hik : i < key.size
      · have hiki : (i : Int) < ((key.size : Nat) : Int) := by omega
        have hix := HIX.out i hik
        have hx8 := HX8.out _ (HKB.out i hik)
        rw [HIN.out i hik] at HXS1
        obtain ⟨X, hX⟩ := ex_eq ((nb key).getD i 0)
        rw [hX] at hix hx8 HXS1
        clear hX
        go_wp2_with (first
          | (at_builtin
             refine app_byte rfl _ _ rfl N _ i _ (by rfl) HOW.out HWR.out (by omega) _ (X ^^^ c) (by rfl) 1 (by rfl) ?_
             intro v4 w4 ho4 hb4
             have HO4 := Lib.hid ho4
             have HB4 := Lib.hid (HBE.out.trans hb4)
             clear ho4 hb4))
        go_roundw
        case rel => exact ⟨i + 1, by omega, by go_num, by have h := HO4.out; rw [← HXS1.out] at h; exact h, HB4.out⟩
        case measure => simp [intOf]; omega
      · have hiki : ¬ (i : Int) < ((key.size : Nat) : Int) := by omega
        rw [HOUT.out i hik, Nat.zero_xor] at HXS1
        have hx8 : bits .xor .u8 0 (c : Int) = (c : Int) := by
          have h := HX8.out 0 (by decide)
          rw [Nat.zero_xor] at h
          exact h
        go_wp2_with (first
          | (at_builtin
             refine app_byte rfl _ _ rfl N _ i _ (by rfl) HOW.out HWR.out (by omega) _ c (by rfl) 1 (by rfl) ?_
             intro v4 w4 ho4 hb4
             have HO4 := Lib.hid ho4
             have HB4 := Lib.hid (HBE.out.trans hb4)
             clear ho4 hb4))
        go_roundw
        case rel => exact ⟨i + 1, by omega, by go_num, by have h := HO4.out; rw [← HXS1.out] at h; exact h, HB4.out⟩
        case measure => simp [intOf]; omega
    · have e : i = 64 := by omega
      subst e
      have HFU : Hid ((xorL K c).take 64 = xorL K c) := Lib.hid (List.take_of_length_le (by rw [xorL_length, HKL.out]; exact Nat.le_refl _))
      go_wp2_with fail
      go_ret
      exact ⟨_, rfl, by have h := HOW.out; rw [HFU.out] at h; rw [HN.out]; exact h, by rw [HN.out]; exact HBE.out⟩
set_option maxRecDepth 100000 in
set_option maxHeartbeats 1000000 in
theorem refTag_l (key : ByteArray) (hk : key.size ≤ 64) (a : Option Addr) (cap : Nat) (xs : List Nat) (L : Nat) (hLe : xs.length = L) (hnil : a = none → cap = 0) (hl : L ≤ 1000000) (w : World) (hB : BytesAt w a xs) (T : List Nat) (hT : tag (nb key) xs = T) :
    Calls Tryd.prog 76 #[.string key, .slice a L cap] w fun e w' => ∃ u : ByteArray, e = .returned (.string u) ∧ nb u = T ∧ Below w.heap.size w w' := by
  have HB := Lib.hid hB
  have HNIL := Lib.hid hnil
  have HLE := Lib.hid hLe
  have hki : ((key.size : Nat) : Int) ≤ 64 := by omega
  have HP := Lib.hid (fun c hc w => refPadH_any key hk c hc w)
  have H54 : Hid (bvals (xorL (key64 (nb key)) 54 ++ xs) = bvals (inner (nb key) xs)) := rfl
  have HT : Hid (Sha.sum (xorL (key64 (nb key)) 92 ++ Sha.sum (inner (nb key) xs)) = T) := hT
  have HKL : Hid ((key64 (nb key)).length = 64) := Lib.hid (key64_length (by rw [nb_length]; exact hk))
  have HKB : Hid (∀ c, c < 256 → ∀ x ∈ xorL (key64 (nb key)) c, x < 256) := Lib.hid (fun c hc => xorL_lt _ c (key64_lt (nb_lt key)) hc)
  have HIL : Hid ((inner (nb key) xs).length = 64 + L) := Lib.hid (by unfold inner; rw [List.length_append, xorL_length, HKL.out, hLe])
  have HIB : Hid (∀ x ∈ inner (nb key) xs, x < 256) := Lib.hid (fun x hx => by
    rcases List.mem_append.1 hx with h | h
    · exact HKB.out 54 (by decide) x h
    · exact hB.2.1 x h)
  obtain ⟨I, hI⟩ := ex_eq (inner (nb key) xs)
  rw [hI] at H54 HT HIL HIB
  obtain ⟨K, hK⟩ := ex_eq (key64 (nb key))
  rw [hK] at HP H54 HT HKL HKB
  clear hB hnil hLe hT hI hK
  go_enter Tryd.func76, Tryd.ntmps76
  obtain ⟨N, hN⟩ := ex_eq w.heap.size
  have HN := Lib.hid hN
  have HNW : Hid (N ≤ w.heap.size) := Lib.hid (by omega)
  rw [hN]
  clear hN
  go_upto_region 4 with (first
    | (go_at_call 105
       (refine (HP.out 54 (by decide) _).mono ?_)
       rintro e w1 ⟨v1, rfl, ho1, h1⟩
       rw [HN.out] at ho1 h1
       have HO1 := Lib.hid ho1
       have H1 := Lib.hid h1
       clear ho1 h1)
    | (at_builtin
       refine app_bytes rfl _ _ rfl N _ 64 _ (by rfl) HO1.out (by have := H1.out.size; have := HNW.out; omega) (by omega) a L cap xs HLE.out (by omega) (by rfl) (HB.out.later (by rw [HN.out]; exact H1.out)) HNIL.out ?_
       intro v2 w2 ho2 hb2
       rw [H54.out] at ho2
       obtain ⟨a2, cp2, rfl, hl2, hc2, hB2, hn2, hk2⟩ := own_bytes ho2 HIB.out (by rw [HIL.out]; unfold maxLen; omega)
       have HC2 := Lib.hid hc2
       have HB2 := Lib.hid hB2
       have HN2 := Lib.hid hn2
       have H2 := Lib.hid (H1.out.trans hb2)
       clear ho2 hl2 hc2 hB2 hn2 hk2 hb2)
    | (with_reducible refine (refSum_l a2 cp2 I (64 + L) HIL.out HN2.out (by omega) w2 HB2.out).mono ?_
       rintro e w3 ⟨u3, rfl, hu3, h3⟩
       have HU3 := Lib.hid hu3
       have H3 : Hid (Below N w w3) := Lib.hid (H2.out.trans (h3.mono (by have := H2.out.size; have := HNW.out; omega)))
       clear hu3 h3))
  have hu32 : u3.size = 32 := nb_size HU3.out (Sha.sum_length _)
  go_wp2_with (first
    | (go_at_call 105
       (refine (HP.out 92 (by decide) _).mono ?_)
       rintro e w4 ⟨v4, rfl, ho4, h4⟩
       have H4 : Hid (Below N w w4) := Lib.hid (H3.out.trans (h4.mono (by have := H3.out.size; have := HNW.out; omega)))
       obtain ⟨cp5, w5, hcv5, hle5, hB5, h5⟩ := str_at w4 u3 (by rw [hu32]; unfold maxLen; omega) hu32
       have HO5 := Lib.hid (own_later ho4 h5)
       have HB5 := Lib.hid hB5
       have HS45 : Hid (w3.heap.size ≤ w5.heap.size) := Lib.hid (by have := h4.size; have := h5.size; omega)
       have H5 : Hid (Below N w w5) := Lib.hid (H4.out.trans (h5.mono (by have := H4.out.size; have := HNW.out; omega)))
       clear ho4 h4 hB5 h5 hle5)
    | (at_builtin
       refine app_bytes rfl _ _ rfl w3.heap.size _ 64 _ (by rfl) HO5.out HS45.out (by omega) (some ⟨w4.heap.size, 0, none⟩) 32 cp5 (nb u3) (by rw [nb_length]; exact hu32) (by omega) (by rfl) HB5.out (fun e => by cases e) ?_
       intro v6 w6 ho6 hb6
       have H6 : Hid (Below N w w6) := Lib.hid (H5.out.trans (hb6.mono (by have := H3.out.size; have := HNW.out; omega)))
       obtain ⟨a6, cp6, rfl, hl6, hc6, hB6, hn6, hk6⟩ := own_bytes ho6 (by
         intro x hx
         rcases List.mem_append.1 hx with h | h
         · exact HKB.out 92 (by decide) x h
         · exact nb_lt u3 x h) (by rw [List.length_append, xorL_length, HKL.out, nb_length, hu32]; unfold maxLen; omega)
       have HL6 := Lib.hid hl6
       have HB6 := Lib.hid hB6
       have HN6 := Lib.hid hn6
       clear ho6 hb6 hl6 hc6 hB6 hn6 hk6)
    | (go_at_call 78
       (refine (refSum_l a6 cp6 (xorL K 92 ++ nb u3) _ HL6.out HN6.out (by omega) w6 HB6.out).mono ?_)
       rintro e w7 ⟨u7, rfl, hu7, h7⟩
       have HU7 := Lib.hid hu7
       have H7 : Hid (Below N w w7) := Lib.hid (H6.out.trans (h7.mono (by have := H6.out.size; have := HNW.out; omega)))
       clear hu7 h7))
  go_ret
  exact ⟨u7, rfl, by rw [HU7.out, HU3.out, HT.out], by exact H7.out⟩
end Go.Proofs.YtmnendoloankgaaDoor
