/- The document's Merkle trees: Join, Node, Leaf, Split, Root. -/
import Derived.Test.YtjhpdchcmfghpaaGreatDoorGd
import Derived.Test.YtjhpdchcmfghpaaGreatDoorGf
namespace Go.Proofs.YtjhpdchcmfghpaaGreatDoor
set_option linter.unusedVariables false
set_option linter.unusedSimpArgs false
open Go.RowKit
open Kit (Chg)
open Sha (v)
open Go.Proofs.YtjhpdchcmfghpaaGreatDoor.One

theorem Tryz.elemS : Tryz.prog.elem 22 = 9 := by kernel_rfl
theorem Tryz.sizeOf9' (W : World) : (Go.sizeOf 9).run Tryz.prog W = .ok 1 W := by kernel_rfl
theorem sliceS_h (a : Option Addr) (n cap h : Nat) (hh : h ≤ cap) (W : World) : (Instr.slice 22 (.slice a n cap) none (some (.int .i64 (h : Int))) none).run Tryz.prog W = .ok (.slice (subA a 0 cap) h cap) W := by
  rw [run_slice_h W 22 _ _ _ (by rw [Tryz.elemS]; exact Tryz.underlying22) .i64 _ (by omega) (by omega), Tryz.elemS, Tryz.sizeOf9']
  simp [Result.andThen, sliced, subA]
theorem sliceS_l (a : Option Addr) (n cap l : Nat) (hl : l ≤ n) (W : World) : (Instr.slice 22 (.slice a n cap) (some (.int .i64 (l : Int))) none none).run Tryz.prog W = .ok (.slice (subA a l cap) (n - l) (cap - l)) W := by
  rw [run_slice_l W 22 _ _ _ (by rw [Tryz.elemS]; exact Tryz.underlying22) .i64 _ (by omega) (by omega), Tryz.elemS, Tryz.sizeOf9']
  simp [Result.andThen, sliced, subA]
theorem strsAt_sub {w : World} {a : Option Addr} {ss : List ByteArray} {cap : Nat} (h : StrsAt w a ss) (hc : ss.length ≤ cap) (l k : Nat) : StrsAt w (subA a l cap) ((ss.take k).drop l) := by
  by_cases h0 : (ss.take k).drop l = []
  · exact .inl h0
  · have h1 := List.length_pos_iff.2 h0
    rw [List.length_drop, List.length_take] at h1
    rcases h with h | ⟨b, o, rfl, hcell⟩
    · rw [h] at h1; simp at h1
    · refine .inr ⟨b, o + l, subA_some (by omega), fun i hi => ?_⟩
      rw [List.length_drop, List.length_take] at hi
      rw [Nat.add_assoc, hcell (l + i) (by omega)]
      simp [List.getD, List.getElem?_take, show l + i < k by omega]
theorem catB_take_len (ss : List ByteArray) (k : Nat) (h : ∀ s ∈ ss, s.size ≤ 1000) : (catB (ss.take k)).length ≤ 1000 * k := by
  induction k generalizing ss with
  | zero => simp [catB]
  | succ k ih =>
    cases ss with
    | nil => simp [catB]
    | cons s ss =>
      have h1 := ih ss (fun x hx => h x (List.mem_cons_of_mem _ hx))
      have h2 := h s (List.mem_cons_self ..)
      unfold catB at h1 ⊢
      rw [List.take_succ_cons, List.flatMap_cons, List.length_append]
      have h3 := nb_length s
      omega
set_option maxHeartbeats 1000000 in
theorem refJoin_l (a : Option Addr) (cap L : Nat) (ss : List ByteArray) (hLe : ss.length = L) (hL : L ≤ 1000) (hsz : ∀ s ∈ ss, s.size ≤ 1000) (w : World) (hS : StrsAt w a ss) (T : List Nat) (hT : Sha.sum (catB ss) = T) :
    Calls Tryz.prog 19 #[.slice a L cap] w fun e w' => ∃ u : ByteArray, e = .returned (.string u) ∧ nb u = T ∧ Below w.heap.size w w' := by
  have HLE := Lib.hid hLe
  have HS := Lib.hid hS
  have HT := Lib.hid hT
  have HCL := Lib.hid (fun k => catB_take_len ss k hsz)
  have HSZ := Lib.hid hsz
  clear hLe hS hT hsz
  go_enter Tryz.func19, Tryz.ntmps19
  go_upto_region 3 with fail
  go_loopw [3, 8] (fun x y wr => ∃ (k : Nat) (u : ByteArray), k ≤ L ∧ y = .int .i64 (k : Int) ∧ x = .string u ∧ u.size ≤ 1000 * k ∧ Hid (nb u = catB (ss.take k)) ∧ wr = w) (fun _ y _ => L - (intOf y).toNat)
  case atStart => exact ⟨0, _, by omega, rfl, rfl, by decide, rfl, rfl⟩
  case round =>
    obtain ⟨k, u, hk, rfl, rfl, huz, HU, rfl⟩ := hrel
    by_cases hlt : k < L
    · have hki : (k : Int) < (L : Int) := by omega
      obtain ⟨b, o, rfl, hcs⟩ : ∃ b o, a = some ⟨b, o, none⟩ ∧ ∀ i, i < ss.length → wr.cell? ⟨b, o + i, none⟩ = some (.string (ss.getD i ByteArray.empty)) := by
        rcases HS.out with h | h
        · have := HLE.out; rw [h] at this; simp at this; omega
        · exact h
      have hc := hcs k (by rw [HLE.out]; exact hlt)
      have hz := HSZ.out _ (getD_mem ss k ByteArray.empty (by rw [HLE.out]; exact hlt))
      have HCT := Lib.hid (catB_take ss k (by rw [HLE.out]; exact hlt))
      obtain ⟨s, hs⟩ := ex_eq (ss.getD k ByteArray.empty)
      rw [hs] at hc hz HCT
      have hcat : ¬ 9223372036854775807 < u.size + s.size := by omega
      clear hcs hs
      go_wp2_with fail
      go_roundw
      case rel => exact ⟨k + 1, _, by omega, by go_num, rfl, by rw [ByteArray.size_append]; omega, by show _ = _; rw [nb_app, HU.out, HCT.out], trivial⟩
      case measure => simp [intOf]; omega
    · have hki : ¬ (k : Int) < (L : Int) := by omega
      have hke : k = L := by omega
      have HU2 : Hid (nb u = catB ss) := Lib.hid (by rw [HU.out, hke, ← HLE.out, List.take_length])
      obtain ⟨L2, hL2⟩ := ex_eq u.size
      obtain ⟨cp3, w3, hcv3, hle3, hB3, h3⟩ := str_at wr u (by rw [hL2]; unfold maxLen; omega) hL2
      have HL2 := Lib.hid hL2
      have HB3 := Lib.hid hB3
      have H3 := Lib.hid h3
      rw [hL2] at huz
      clear hL2 hle3 hB3 h3 hke
      go_wp2_with (first
        | (go_at_call 44
           (refine (refSum_l (some ⟨wr.heap.size, 0, none⟩) cp3 (nb u) L2 (by rw [nb_length]; exact HL2.out) (fun e => by cases e) (by omega) w3 HB3.out).mono ?_)
           rintro e w4 ⟨u4, rfl, hu4, h4⟩
           have HU4 := Lib.hid hu4
           have H4 := Lib.hid (H3.out.trans (h4.mono H3.out.size))
           clear hu4 h4))
      go_ret
      exact ⟨u4, rfl, by rw [HU4.out, HU2.out, HT.out], H4.out⟩
set_option maxHeartbeats 1000000 in
theorem refNode_l (l r : ByteArray) (hl : l.size = 32) (hr : r.size = 32) (T : List Nat) (hT : Mrk.node (nb l) (nb r) = T) (w : World) :
    Calls Tryz.prog 61 #[.string l, .string r] w fun e w' => ∃ u : ByteArray, e = .returned (.string u) ∧ nb u = T ∧ u.size = 32 ∧ Below w.heap.size w w' := by
  have HTL : Hid (T.length = 32) := Lib.hid (by rw [← hT]; exact Mrk.node_len _ _)
  have HT : Hid (Sha.sum (catB [{ data := #[1] }, l, r]) = T) := Lib.hid (by rw [← hT, catB_three, one_lit]; rfl)
  have HSZ : Hid (∀ s ∈ [({ data := #[1] } : ByteArray), l, r], s.size ≤ 1000) := Lib.hid (fun s hs => by
    simp only [List.mem_cons, List.not_mem_nil, or_false] at hs
    rcases hs with rfl | rfl | rfl
    · decide
    · omega
    · omega)
  clear hl hr hT
  go_enter Tryz.func61, Tryz.ntmps61
  have HB1 : Hid (Below w.heap.size w (w.alloc (.cells #[.string { data := #[1] }, .string l, .string r] 9))) := Lib.hid ((Below.refl _ _).alloc (Nat.le_refl _) _)
  have HS1 : Hid (StrsAt (w.alloc (.cells #[.string { data := #[1] }, .string l, .string r] 9)) (some ⟨w.heap.size, 0, none⟩) [{ data := #[1] }, l, r]) := Lib.hid (strs_of_row (t := 9) (heap_alloc_new w _))
  go_wp2_with (first
    | (go_at_call 19
       (refine (refJoin_l (some ⟨w.heap.size, 0, none⟩) 3 3 [{ data := #[1] }, l, r] rfl (by decide) HSZ.out _ HS1.out T HT.out).mono ?_)
       rintro e w2 ⟨u, rfl, hu, h2⟩
       have HU := Lib.hid hu
       have H2 := Lib.hid h2
       clear hu h2))
  go_ret
  exact ⟨u, rfl, HU.out, by rw [← nb_length, HU.out]; exact HTL.out, HB1.out.trans (H2.out.mono HB1.out.size)⟩
set_option maxHeartbeats 1000000 in
theorem refLeaf_l (a : Option Addr) (cap : Nat) (xs : List Nat) (L : Nat) (hLe : xs.length = L) (hnil : a = none → cap = 0) (hl : L ≤ 1000000) (w : World) (hB : BytesAt w a xs) (T : List Nat) (hT : Mrk.leaf xs = T) :
    Calls Tryz.prog 43 #[.slice a L cap] w fun e w' => ∃ u : ByteArray, e = .returned (.string u) ∧ nb u = T ∧ u.size = 32 ∧ Below w.heap.size w w' := by
  have HTL : Hid (T.length = 32) := Lib.hid (by rw [← hT]; exact Mrk.leaf_len _)
  have HT : Hid (Sha.sum ([0] ++ xs) = T) := hT
  have HXB : Hid (∀ x ∈ [0] ++ xs, x < 256) := Lib.hid (fun x hx => by
    rcases List.mem_append.1 hx with h | h
    · have := List.mem_singleton.1 h; omega
    · exact hB.2.1 x h)
  have HLE := Lib.hid hLe
  have HNIL := Lib.hid hnil
  have HB1 : Hid (Below w.heap.size w (w.alloc (.cells #[.int .u8 0] 5))) := Lib.hid ((Below.refl _ _).alloc (Nat.le_refl _) _)
  have HBX := Lib.hid (hB.later HB1.out)
  have HO1 : Hid ((w.alloc (.cells #[.int .u8 0] 5)).ownsRow w.heap.size 5 1 (.slice (some ⟨w.heap.size, 0, none⟩) 1 1) 1 (bvals [0])) := Lib.hid ⟨rfl, .inr ⟨w.heap.size, 1, _, rfl, Nat.le_refl _, heap_alloc_new w _, Nat.le_refl _, by decide, rfl, rfl⟩⟩
  clear hT hB hLe hnil
  go_enter Tryz.func43, Tryz.ntmps43
  go_wp2_with (first
    | (at_builtin
       refine app_bytes rfl _ _ rfl w.heap.size _ 1 [0] (by rfl) HO1.out (by simp) (by decide) a L cap xs HLE.out (by omega) (by rfl) HBX.out HNIL.out ?_
       intro v5 w5 ho5 hb5
       obtain ⟨a5, cp5, rfl, hl5, hc5, hB5, hnil5, hlt5⟩ := own_bytes ho5 HXB.out (by rw [List.length_append, HLE.out]; unfold maxLen; simp; omega)
       have HL5 := Lib.hid hl5
       have HB5 := Lib.hid hB5
       have HN5 := Lib.hid hnil5
       have H5 := Lib.hid (HB1.out.trans hb5)
       clear ho5 hb5 hl5 hc5 hB5 hnil5 hlt5)
    | (go_at_call 44
       (refine (refSum_l a5 cp5 ([0] ++ xs) _ HL5.out HN5.out (by omega) w5 HB5.out).mono ?_)
       rintro e w6 ⟨u6, rfl, hu6, h6⟩
       have HU6 := Lib.hid hu6
       have H6 := Lib.hid (H5.out.trans (h6.mono H5.out.size))
       clear hu6 h6))
  go_ret
  exact ⟨u6, rfl, by rw [HU6.out, HT.out], by rw [← nb_length, HU6.out, HT.out]; exact HTL.out, H6.out⟩
set_option maxHeartbeats 1000000 in
theorem refSplit_ok (k : Nat) (hk : k ≤ 8) (w : World) : Calls Tryz.prog 60 #[.int .i64 ((2 ^ (k + 1) : Nat) : Int)] w fun e w' => e = .returned (.int .i64 ((2 ^ k : Nat) : Int)) ∧ w = w' := by
  have hP : 2 ^ k ≤ 256 := Nat.pow_le_pow_right (n := 2) (by decide) hk
  have hQ : 2 ^ (k + 1) = 2 ^ k + 2 ^ k := by rw [Nat.pow_succ]; omega
  rw [hQ]
  obtain ⟨P, hPe⟩ := ex_eq (2 ^ k)
  have HP := Lib.hid hPe
  rw [hPe] at hP ⊢
  obtain ⟨Q, hQe⟩ := ex_eq (P + P)
  have hQ2 : Q ≤ 512 := by omega
  have HQ := Lib.hid hQe
  rw [hQe]
  clear hQ hPe hQe
  go_enter Tryz.func60, Tryz.ntmps60
  go_upto_region 2 with fail
  go_loopw [3] (fun x wr => ∃ (j J : Nat), j ≤ k ∧ Hid (2 ^ j = J) ∧ x = .int .i64 (J : Int) ∧ wr = w) (fun x _ => Q - (intOf x).toNat)
  case atStart => exact ⟨0, 1, Nat.zero_le _, rfl, rfl, rfl⟩
  case round =>
    obtain ⟨j, J, hj, HJ, rfl, rfl⟩ := hrel
    have hJ0 : 0 < J := by rw [← HJ.out]; exact Nat.two_pow_pos j
    have hJP : J ≤ P := by rw [← HJ.out, ← HP.out]; exact Nat.pow_le_pow_right (by decide) hj
    have hd : IntKind.i64.wrap ((Q : Int) - (J : Int)) = (Q : Int) - (J : Int) := by rw [IntKind.wrap_i64]; omega
    by_cases hlt : j < k
    · have hJ2 : J + J ≤ P := by
        have h1 : 2 ^ (j + 1) ≤ 2 ^ k := Nat.pow_le_pow_right (by decide) hlt
        rw [Nat.pow_succ, HJ.out, HP.out] at h1
        omega
      have hc : (J : Int) < (Q : Int) - (J : Int) := by have := HQ.out; omega
      have hm : IntKind.i64.wrap ((J : Int) * 2) = (J : Int) * 2 := by rw [IntKind.wrap_i64]; omega
      go_wp2_with fail
      go_roundw
      case rel => exact ⟨j + 1, J + J, hlt, by show _ = _; rw [Nat.pow_succ, HJ.out]; omega, by simp; omega, trivial⟩
      case measure => simp [intOf]; have := HQ.out; omega
    · have hje : j = k := by omega
      have hJe : J = P := by rw [← HJ.out, ← HP.out, hje]
      have hc : ¬ (J : Int) < (Q : Int) - (J : Int) := by have := HQ.out; omega
      have HJE := Lib.hid hJe
      clear hje hJe
      go_wp2_with fail
      go_ret
      exact ⟨by rw [HJE.out]; rfl, rfl⟩
end Go.Proofs.YtjhpdchcmfghpaaGreatDoor
